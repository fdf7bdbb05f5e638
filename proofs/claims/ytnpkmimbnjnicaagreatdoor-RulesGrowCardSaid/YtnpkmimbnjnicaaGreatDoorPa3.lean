/-
prims.find (chapter 12), number by number (printed by genPrI.py).
-/
import Derived.Test.YtnpkmimbnjnicaaGreatDoorPa2
set_option linter.unusedSimpArgs false
set_option linter.unusedVariables false
namespace Go.Proofs.YtnpkmimbnjnicaaGreatDoor
namespace Pr
open Go Go.RowKit En
set_option maxRecDepth 100000 in
theorem tblUps_q {nx : Nat} {M : Nat → Option Addr × Nat} : tblUps nx M = [(nx, .rawV (M 100).1 (M 100).2 5 41 (tblCells nx M)), (nx + 1 + 2 * 0, .strs (M 0).1 (M 0).2 []), (nx + 2 + 2 * 0, .ints (M 1).1 (M 1).2 .i64 []), (nx + 1 + 2 * 1, .strs (M 2).1 (M 2).2 [⟨#[105, 110, 105, 110]⟩]), (nx + 2 + 2 * 1, .ints (M 3).1 (M 3).2 .i64 [12]), (nx + 1 + 2 * 2, .strs (M 4).1 (M 4).2 [⟨#[105, 110, 105, 110]⟩]), (nx + 2 + 2 * 2, .ints (M 5).1 (M 5).2 .i64 [12]), (nx + 1 + 2 * 3, .strs (M 6).1 (M 6).2 [⟨#[105, 110, 105, 110]⟩]), (nx + 2 + 2 * 3, .ints (M 7).1 (M 7).2 .i64 []), (nx + 1 + 2 * 4, .strs (M 8).1 (M 8).2 [⟨#[107, 110, 105, 49]⟩]), (nx + 2 + 2 * 4, .ints (M 9).1 (M 9).2 .i64 []), (nx + 1 + 2 * 5, .strs (M 10).1 (M 10).2 [⟨#[107, 110, 107, 49]⟩]), (nx + 2 + 2 * 5, .ints (M 11).1 (M 11).2 .i64 []), (nx + 1 + 2 * 6, .strs (M 12).1 (M 12).2 [⟨#[107, 49, 107, 49]⟩, ⟨#[107, 50, 107, 50]⟩]), (nx + 2 + 2 * 6, .ints (M 13).1 (M 13).2 .i64 []), (nx + 1 + 2 * 7, .strs (M 14).1 (M 14).2 [⟨#[107, 50, 107, 50]⟩]), (nx + 2 + 2 * 7, .ints (M 15).1 (M 15).2 .i64 []), (nx + 1 + 2 * 8, .strs (M 16).1 (M 16).2 [⟨#[105, 48, 105, 49]⟩]), (nx + 2 + 2 * 8, .ints (M 17).1 (M 17).2 .i64 [13, 15]), (nx + 1 + 2 * 9, .strs (M 18).1 (M 18).2 [⟨#[105, 49, 105, 48]⟩, ⟨#[105, 50, 105, 49]⟩]), (nx + 2 + 2 * 9, .ints (M 19).1 (M 19).2 .i64 [12]), (nx + 1 + 2 * 10, .strs (M 20).1 (M 20).2 [⟨#[105, 49, 105, 48]⟩, ⟨#[105, 50, 105, 49]⟩]), (nx + 2 + 2 * 10, .ints (M 21).1 (M 21).2 .i64 [13]), (nx + 1 + 2 * 11, .strs (M 22).1 (M 22).2 [⟨#[105, 49, 105, 48]⟩, ⟨#[105, 50, 105, 49]⟩]), (nx + 2 + 2 * 11, .ints (M 23).1 (M 23).2 .i64 [13]), (nx + 1 + 2 * 12, .strs (M 24).1 (M 24).2 [⟨#[107, 49, 105, 48]⟩, ⟨#[107, 50, 105, 49]⟩]), (nx + 2 + 2 * 12, .ints (M 25).1 (M 25).2 .i64 []), (nx + 1 + 2 * 13, .strs (M 26).1 (M 26).2 [⟨#[105, 49, 105, 49]⟩, ⟨#[105, 50, 105, 50]⟩]), (nx + 2 + 2 * 13, .ints (M 27).1 (M 27).2 .i64 [12]), (nx + 1 + 2 * 14, .strs (M 28).1 (M 28).2 [⟨#[105, 49, 105, 49]⟩]), (nx + 2 + 2 * 14, .ints (M 29).1 (M 29).2 .i64 []), (nx + 1 + 2 * 15, .strs (M 30).1 (M 30).2 [⟨#[105, 48, 105, 110, 105, 110]⟩, ⟨#[105, 110, 105, 48, 105, 110]⟩, ⟨#[105, 110, 105, 110, 105, 110]⟩]), (nx + 2 + 2 * 15, .ints (M 31).1 (M 31).2 .i64 [11, 12]), (nx + 1 + 2 * 16, .strs (M 32).1 (M 32).2 [⟨#[105, 48, 105, 110, 105, 110]⟩, ⟨#[105, 110, 105, 48, 105, 110]⟩, ⟨#[105, 110, 105, 110, 105, 110]⟩]), (nx + 2 + 2 * 16, .ints (M 33).1 (M 33).2 .i64 [11, 12]), (nx + 1 + 2 * 17, .strs (M 34).1 (M 34).2 [⟨#[105, 48, 105, 110, 105, 110]⟩, ⟨#[105, 110, 105, 48, 105, 110]⟩, ⟨#[105, 110, 105, 110, 105, 110]⟩]), (nx + 2 + 2 * 17, .ints (M 35).1 (M 35).2 .i64 [11, 12]), (nx + 1 + 2 * 18, .strs (M 36).1 (M 36).2 [⟨#[105, 48, 105, 110, 105, 110]⟩, ⟨#[105, 110, 105, 48, 105, 110]⟩, ⟨#[105, 110, 105, 110, 105, 110]⟩]), (nx + 2 + 2 * 18, .ints (M 37).1 (M 37).2 .i64 [11, 12, 13]), (nx + 1 + 2 * 19, .strs (M 38).1 (M 38).2 [⟨#[105, 48, 105, 110, 105, 110]⟩, ⟨#[105, 110, 105, 48, 105, 110]⟩, ⟨#[105, 110, 105, 110, 105, 110]⟩]), (nx + 2 + 2 * 19, .ints (M 39).1 (M 39).2 .i64 [11, 13]), (nx + 1 + 2 * 20, .strs (M 40).1 (M 40).2 [⟨#[105, 48, 105, 110, 105, 110]⟩, ⟨#[105, 110, 105, 48, 105, 110]⟩, ⟨#[105, 110, 105, 110, 105, 110]⟩]), (nx + 2 + 2 * 20, .ints (M 41).1 (M 41).2 .i64 [11]), (nx + 1 + 2 * 21, .strs (M 42).1 (M 42).2 [⟨#[105, 48, 105, 110, 105, 110]⟩, ⟨#[105, 110, 105, 48, 105, 110]⟩, ⟨#[105, 110, 105, 110, 105, 110]⟩]), (nx + 2 + 2 * 21, .ints (M 43).1 (M 43).2 .i64 [11]), (nx + 1 + 2 * 22, .strs (M 44).1 (M 44).2 [⟨#[105, 48, 105, 110, 105, 110]⟩, ⟨#[105, 110, 105, 48, 105, 110]⟩, ⟨#[105, 110, 105, 110, 105, 110]⟩]), (nx + 2 + 2 * 22, .ints (M 45).1 (M 45).2 .i64 [11]), (nx + 1 + 2 * 23, .strs (M 46).1 (M 46).2 [⟨#[107, 48, 107, 110, 105, 110]⟩, ⟨#[107, 110, 107, 48, 105, 110]⟩, ⟨#[107, 110, 107, 110, 105, 110]⟩]), (nx + 2 + 2 * 23, .ints (M 47).1 (M 47).2 .i64 [11]), (nx + 1 + 2 * 24, .strs (M 48).1 (M 48).2 [⟨#[107, 48, 107, 110, 105, 110]⟩, ⟨#[107, 110, 107, 48, 105, 110]⟩, ⟨#[107, 110, 107, 110, 105, 110]⟩]), (nx + 2 + 2 * 24, .ints (M 49).1 (M 49).2 .i64 [11]), (nx + 1 + 2 * 25, .strs (M 50).1 (M 50).2 [⟨#[105, 48, 105, 110, 105, 110]⟩, ⟨#[105, 110, 105, 48, 105, 110]⟩, ⟨#[105, 110, 105, 110, 105, 110]⟩]), (nx + 2 + 2 * 25, .ints (M 51).1 (M 51).2 .i64 [11]), (nx + 1 + 2 * 26, .strs (M 52).1 (M 52).2 [⟨#[105, 48, 105, 110, 105, 110]⟩, ⟨#[105, 110, 105, 48, 105, 110]⟩, ⟨#[105, 110, 105, 110, 105, 110]⟩]), (nx + 2 + 2 * 26, .ints (M 53).1 (M 53).2 .i64 [11]), (nx + 1 + 2 * 27, .strs (M 54).1 (M 54).2 [⟨#[105, 48, 105, 110, 105, 110]⟩, ⟨#[105, 110, 105, 48, 105, 110]⟩, ⟨#[105, 110, 105, 110, 105, 110]⟩]), (nx + 2 + 2 * 27, .ints (M 55).1 (M 55).2 .i64 [11]), (nx + 1 + 2 * 28, .strs (M 56).1 (M 56).2 [⟨#[105, 48, 105, 110, 105, 110]⟩, ⟨#[105, 110, 105, 48, 105, 110]⟩, ⟨#[105, 110, 105, 110, 105, 110]⟩]), (nx + 2 + 2 * 28, .ints (M 57).1 (M 57).2 .i64 [11]), (nx + 1 + 2 * 29, .strs (M 58).1 (M 58).2 [⟨#[105, 48, 105, 110, 105, 110]⟩, ⟨#[105, 110, 105, 48, 105, 110]⟩, ⟨#[105, 110, 105, 110, 105, 110]⟩]), (nx + 2 + 2 * 29, .ints (M 59).1 (M 59).2 .i64 [11]), (nx + 1 + 2 * 30, .strs (M 60).1 (M 60).2 [⟨#[105, 48, 105, 110, 105, 110]⟩, ⟨#[105, 110, 105, 48, 105, 110]⟩, ⟨#[105, 110, 105, 110, 105, 110]⟩]), (nx + 2 + 2 * 30, .ints (M 61).1 (M 61).2 .i64 [11]), (nx + 1 + 2 * 31, .strs (M 62).1 (M 62).2 [⟨#[105, 48, 105, 110, 105, 110]⟩, ⟨#[105, 110, 105, 48, 105, 110]⟩, ⟨#[105, 110, 105, 110, 105, 110]⟩]), (nx + 2 + 2 * 31, .ints (M 63).1 (M 63).2 .i64 [11]), (nx + 1 + 2 * 32, .strs (M 64).1 (M 64).2 [⟨#[105, 48, 105, 110, 105, 110]⟩, ⟨#[105, 110, 105, 48, 105, 110]⟩, ⟨#[105, 110, 105, 110, 105, 110]⟩]), (nx + 2 + 2 * 32, .ints (M 65).1 (M 65).2 .i64 [11]), (nx + 1 + 2 * 33, .strs (M 66).1 (M 66).2 [⟨#[105, 48, 107, 49, 107, 49]⟩]), (nx + 2 + 2 * 33, .ints (M 67).1 (M 67).2 .i64 []), (nx + 1 + 2 * 34, .strs (M 68).1 (M 68).2 [⟨#[105, 48, 107, 49, 107, 49]⟩]), (nx + 2 + 2 * 34, .ints (M 69).1 (M 69).2 .i64 []), (nx + 1 + 2 * 35, .strs (M 70).1 (M 70).2 [⟨#[105, 48, 107, 48, 107, 49]⟩]), (nx + 2 + 2 * 35, .ints (M 71).1 (M 71).2 .i64 [13, 15]), (nx + 1 + 2 * 36, .strs (M 72).1 (M 72).2 [⟨#[105, 49, 107, 49, 107, 50]⟩]), (nx + 2 + 2 * 36, .ints (M 73).1 (M 73).2 .i64 [11, 13, 15]), (nx + 1 + 2 * 37, .strs (M 74).1 (M 74).2 [⟨#[107, 49, 107, 49, 107, 49]⟩, ⟨#[107, 50, 107, 50, 107, 50]⟩]), (nx + 2 + 2 * 37, .ints (M 75).1 (M 75).2 .i64 [11, 15]), (nx + 1 + 2 * 38, .strs (M 76).1 (M 76).2 [⟨#[107, 49, 105, 48, 107, 48]⟩, ⟨#[107, 49, 105, 49, 107, 49]⟩]), (nx + 2 + 2 * 38, .ints (M 77).1 (M 77).2 .i64 [14]), (nx + 1 + 2 * 39, .strs (M 78).1 (M 78).2 [⟨#[107, 110, 107, 49, 105, 110]⟩]), (nx + 2 + 2 * 39, .ints (M 79).1 (M 79).2 .i64 []), (nx + 1 + 2 * 40, .strs (M 80).1 (M 80).2 [⟨#[105, 49, 107, 49, 107, 49]⟩]), (nx + 2 + 2 * 40, .ints (M 81).1 (M 81).2 .i64 [11])] := (rfl)
set_option maxRecDepth 100000 in
theorem tblCells_q {nx : Nat} {M : Nat → Option Addr × Nat} : tblCells nx M = [.v (.string ⟨#[]⟩), .g (nx + 1 + 2 * 0) (M 0).1 0 (M 0).2, .g (nx + 2 + 2 * 0) (M 1).1 0 (M 1).2, .v (.nilFunc), .v (.nilFunc), .v (.string ⟨#[110, 101, 103]⟩), .g (nx + 1 + 2 * 1) (M 2).1 1 (M 2).2, .g (nx + 2 + 2 * 1) (M 3).1 1 (M 3).2, .v (.nilFunc), .v (.nilFunc), .v (.string ⟨#[97, 98, 115]⟩), .g (nx + 1 + 2 * 2) (M 4).1 1 (M 4).2, .g (nx + 2 + 2 * 2) (M 5).1 1 (M 5).2, .v (.nilFunc), .v (.nilFunc), .v (.string ⟨#[110, 111, 116]⟩), .g (nx + 1 + 2 * 3) (M 6).1 1 (M 6).2, .g (nx + 2 + 2 * 3) (M 7).1 0 (M 7).2, .v (.nilFunc), .v (.nilFunc), .v (.string ⟨#[115, 104, 97, 112, 101]⟩), .g (nx + 1 + 2 * 4) (M 8).1 1 (M 8).2, .g (nx + 2 + 2 * 4) (M 9).1 0 (M 9).2, .v (.func (.func 130) #[] #[]), .v (.nilFunc), .v (.string ⟨#[114, 97, 118, 101, 108]⟩), .g (nx + 1 + 2 * 5) (M 10).1 1 (M 10).2, .g (nx + 2 + 2 * 5) (M 11).1 0 (M 11).2, .v (.func (.func 131) #[] #[]), .v (.nilFunc), .v (.string ⟨#[114, 101, 118, 101, 114, 115, 101]⟩), .g (nx + 1 + 2 * 6) (M 12).1 2 (M 12).2, .g (nx + 2 + 2 * 6) (M 13).1 0 (M 13).2, .v (.func (.func 132) #[] #[]), .v (.nilFunc), .v (.string ⟨#[102, 108, 105, 112]⟩), .g (nx + 1 + 2 * 7) (M 14).1 1 (M 14).2, .g (nx + 2 + 2 * 7) (M 15).1 0 (M 15).2, .v (.func (.func 133) #[] #[]), .v (.nilFunc), .v (.string ⟨#[105, 111, 116, 97]⟩), .g (nx + 1 + 2 * 8) (M 16).1 1 (M 16).2, .g (nx + 2 + 2 * 8) (M 17).1 2 (M 17).2, .v (.func (.func 134) #[] #[]), .v (.nilFunc), .v (.string ⟨#[115, 117, 109]⟩), .g (nx + 1 + 2 * 9) (M 18).1 2 (M 18).2, .g (nx + 2 + 2 * 9) (M 19).1 1 (M 19).2, .v (.func (.func 135) #[] #[]), .v (.nilFunc), .v (.string ⟨#[108, 101, 97, 115, 116]⟩), .g (nx + 1 + 2 * 10) (M 20).1 2 (M 20).2, .g (nx + 2 + 2 * 10) (M 21).1 1 (M 21).2, .v (.func (.func 136) #[] #[]), .v (.nilFunc), .v (.string ⟨#[109, 111, 115, 116]⟩), .g (nx + 1 + 2 * 11) (M 22).1 2 (M 22).2, .g (nx + 2 + 2 * 11) (M 23).1 1 (M 23).2, .v (.func (.func 137) #[] #[]), .v (.nilFunc), .v (.string ⟨#[99, 111, 117, 110, 116]⟩), .g (nx + 1 + 2 * 12) (M 24).1 2 (M 24).2, .g (nx + 2 + 2 * 12) (M 25).1 0 (M 25).2, .v (.func (.func 138) #[] #[]), .v (.nilFunc), .v (.string ⟨#[115, 99, 97, 110]⟩), .g (nx + 1 + 2 * 13) (M 26).1 2 (M 26).2, .g (nx + 2 + 2 * 13) (M 27).1 1 (M 27).2, .v (.func (.func 139) #[] #[]), .v (.nilFunc), .v (.string ⟨#[103, 114, 97, 100, 101]⟩), .g (nx + 1 + 2 * 14) (M 28).1 1 (M 28).2, .g (nx + 2 + 2 * 14) (M 29).1 0 (M 29).2, .v (.func (.func 140) #[] #[]), .v (.nilFunc), .v (.string ⟨#[97, 100, 100]⟩), .g (nx + 1 + 2 * 15) (M 30).1 3 (M 30).2, .g (nx + 2 + 2 * 15) (M 31).1 2 (M 31).2, .v (.nilFunc), .v (.nilFunc), .v (.string ⟨#[115, 117, 98]⟩), .g (nx + 1 + 2 * 16) (M 32).1 3 (M 32).2, .g (nx + 2 + 2 * 16) (M 33).1 2 (M 33).2, .v (.nilFunc), .v (.nilFunc), .v (.string ⟨#[109, 117, 108]⟩), .g (nx + 1 + 2 * 17) (M 34).1 3 (M 34).2, .g (nx + 2 + 2 * 17) (M 35).1 2 (M 35).2, .v (.nilFunc), .v (.nilFunc), .v (.string ⟨#[100, 105, 118]⟩), .g (nx + 1 + 2 * 18) (M 36).1 3 (M 36).2, .g (nx + 2 + 2 * 18) (M 37).1 3 (M 37).2, .v (.nilFunc), .v (.nilFunc), .v (.string ⟨#[109, 111, 100]⟩), .g (nx + 1 + 2 * 19) (M 38).1 3 (M 38).2, .g (nx + 2 + 2 * 19) (M 39).1 2 (M 39).2, .v (.nilFunc), .v (.nilFunc), .v (.string ⟨#[112, 108, 117, 115]⟩), .g (nx + 1 + 2 * 20) (M 40).1 3 (M 40).2, .g (nx + 2 + 2 * 20) (M 41).1 1 (M 41).2, .v (.nilFunc), .v (.nilFunc), .v (.string ⟨#[109, 105, 110, 117, 115]⟩), .g (nx + 1 + 2 * 21) (M 42).1 3 (M 42).2, .g (nx + 2 + 2 * 21) (M 43).1 1 (M 43).2, .v (.nilFunc), .v (.nilFunc), .v (.string ⟨#[116, 105, 109, 101, 115]⟩), .g (nx + 1 + 2 * 22) (M 44).1 3 (M 44).2, .g (nx + 2 + 2 * 22) (M 45).1 1 (M 45).2, .v (.nilFunc), .v (.nilFunc), .v (.string ⟨#[101, 113]⟩), .g (nx + 1 + 2 * 23) (M 46).1 3 (M 46).2, .g (nx + 2 + 2 * 23) (M 47).1 1 (M 47).2, .v (.nilFunc), .v (.nilFunc), .v (.string ⟨#[110, 101]⟩), .g (nx + 1 + 2 * 24) (M 48).1 3 (M 48).2, .g (nx + 2 + 2 * 24) (M 49).1 1 (M 49).2, .v (.nilFunc), .v (.nilFunc), .v (.string ⟨#[108, 116]⟩), .g (nx + 1 + 2 * 25) (M 50).1 3 (M 50).2, .g (nx + 2 + 2 * 25) (M 51).1 1 (M 51).2, .v (.nilFunc), .v (.nilFunc), .v (.string ⟨#[108, 101]⟩), .g (nx + 1 + 2 * 26) (M 52).1 3 (M 52).2, .g (nx + 2 + 2 * 26) (M 53).1 1 (M 53).2, .v (.nilFunc), .v (.nilFunc), .v (.string ⟨#[103, 116]⟩), .g (nx + 1 + 2 * 27) (M 54).1 3 (M 54).2, .g (nx + 2 + 2 * 27) (M 55).1 1 (M 55).2, .v (.nilFunc), .v (.nilFunc), .v (.string ⟨#[103, 101]⟩), .g (nx + 1 + 2 * 28) (M 56).1 3 (M 56).2, .g (nx + 2 + 2 * 28) (M 57).1 1 (M 57).2, .v (.nilFunc), .v (.nilFunc), .v (.string ⟨#[97, 110, 100]⟩), .g (nx + 1 + 2 * 29) (M 58).1 3 (M 58).2, .g (nx + 2 + 2 * 29) (M 59).1 1 (M 59).2, .v (.nilFunc), .v (.nilFunc), .v (.string ⟨#[111, 114]⟩), .g (nx + 1 + 2 * 30) (M 60).1 3 (M 60).2, .g (nx + 2 + 2 * 30) (M 61).1 1 (M 61).2, .v (.nilFunc), .v (.nilFunc), .v (.string ⟨#[109, 105, 110]⟩), .g (nx + 1 + 2 * 31) (M 62).1 3 (M 62).2, .g (nx + 2 + 2 * 31) (M 63).1 1 (M 63).2, .v (.nilFunc), .v (.nilFunc), .v (.string ⟨#[109, 97, 120]⟩), .g (nx + 1 + 2 * 32) (M 64).1 3 (M 64).2, .g (nx + 2 + 2 * 32) (M 65).1 1 (M 65).2, .v (.nilFunc), .v (.nilFunc), .v (.string ⟨#[116, 97, 107, 101]⟩), .g (nx + 1 + 2 * 33) (M 66).1 1 (M 66).2, .g (nx + 2 + 2 * 33) (M 67).1 0 (M 67).2, .v (.nilFunc), .v (.func (.func 142) #[] #[]), .v (.string ⟨#[100, 114, 111, 112]⟩), .g (nx + 1 + 2 * 34) (M 68).1 1 (M 68).2, .g (nx + 2 + 2 * 34) (M 69).1 0 (M 69).2, .v (.nilFunc), .v (.func (.func 143) #[] #[]), .v (.string ⟨#[102, 105, 108, 108]⟩), .g (nx + 1 + 2 * 35) (M 70).1 1 (M 70).2, .g (nx + 2 + 2 * 35) (M 71).1 2 (M 71).2, .v (.nilFunc), .v (.func (.func 144) #[] #[]), .v (.string ⟨#[103, 114, 105, 100]⟩), .g (nx + 1 + 2 * 36) (M 72).1 1 (M 72).2, .g (nx + 2 + 2 * 36) (M 73).1 3 (M 73).2, .v (.nilFunc), .v (.func (.func 145) #[] #[]), .v (.string ⟨#[99, 97, 116]⟩), .g (nx + 1 + 2 * 37) (M 74).1 2 (M 74).2, .g (nx + 2 + 2 * 37) (M 75).1 2 (M 75).2, .v (.nilFunc), .v (.func (.func 146) #[] #[]), .v (.string ⟨#[97, 116]⟩), .g (nx + 1 + 2 * 38) (M 76).1 2 (M 76).2, .g (nx + 2 + 2 * 38) (M 77).1 1 (M 77).2, .v (.nilFunc), .v (.func (.func 147) #[] #[]), .v (.string ⟨#[105, 110]⟩), .g (nx + 1 + 2 * 39) (M 78).1 1 (M 78).2, .g (nx + 2 + 2 * 39) (M 79).1 0 (M 79).2, .v (.nilFunc), .v (.func (.func 148) #[] #[]), .v (.string ⟨#[112, 105, 99, 107]⟩), .g (nx + 1 + 2 * 40) (M 80).1 1 (M 80).2, .g (nx + 2 + 2 * 40) (M 81).1 1 (M 81).2, .v (.nilFunc), .v (.func (.func 149) #[] #[])] := (rfl)
def gamFind : Gam := gcons 109 spTable gnil
theorem gamFind_ok : GOk Tryz.prog gamFind := gOk_cons (by kernel_rfl) spTable_ok gOk_nil
def findPost (p : Int) (e : Int) (s : SS) (xs : List SV) : Prop :=
  ∃ L E, xs = [.agg [.v (.string (nameAt p)), L, E, .v (oneAt p), .v (twoAt p)], .v (.int .i64 e)] ∧ getS (lookH s.hp) L = some (linesAt p) ∧ getN (lookH s.hp) E = some (errsAt p)
def FindRet (p e : Int) (bn on cn ba oa ca : Nat) (w : World) (f : Ending) (w' : World) : Prop := ∃ s xs, f = .returned (oneV xs) ∧ findPost p e s xs ∧ HH w (oldOf (gHp bn on cn ba oa ca)) s.hp w'
set_option maxRecDepth 100000 in
set_option maxHeartbeats 8000000 in
theorem find1 (bn on cn ba oa ca : Nat) (h4 : 4 ≤ cn) (h3 : 3 ≤ ca) (w : World) (hg : allRd w.heap.size w (gHp bn on cn ba oa ca)) :
    Calls Tryz.prog 61 #[.int .i64 1] w (FindRet 1 0 bn on cn ba oa ca w) := by
  refine calls_run (args := [.v (.int .i64 1)]) (hp := gHp bn on cn ba oa ca) (nx := 1000) (n := 400) (U := [(1000000, 4)]) (V := []) (T := lookT tiT) (G := gamFind) (post := findPost 1 0)
    followP tiT_ok gamFind_ok Tryz.func61 rfl (by kernel_rfl) (by show 1 ≤ 15; decide) (hh_list hg) (free_list (by simp [allLt, gHp])) ?_ ?_
  · exact fun s xs w' hp H => ⟨s, xs, rfl, hp, H⟩
  rw [Tryz.results61]
  simp (maxSteps := 1000000) only [En.E, En.evsC, List.map_cons, List.map_nil, ne_eq, En.bitN, Nat.testBit, seval, tiT, tiP, gamFind, spTable_q, globR_q, gHp, h4, h3, tblUps_q, tblCells_q]
  intro b M
  exact ⟨_, _, rfl, by simp [getS, lookH, linesAt, pLines], by simp [getN, lookH, errsAt, pErrs]⟩
set_option maxRecDepth 100000 in
set_option maxHeartbeats 8000000 in
theorem find2 (bn on cn ba oa ca : Nat) (h4 : 4 ≤ cn) (h3 : 3 ≤ ca) (w : World) (hg : allRd w.heap.size w (gHp bn on cn ba oa ca)) :
    Calls Tryz.prog 61 #[.int .i64 2] w (FindRet 2 0 bn on cn ba oa ca w) := by
  refine calls_run (args := [.v (.int .i64 2)]) (hp := gHp bn on cn ba oa ca) (nx := 1000) (n := 400) (U := [(1000000, 4)]) (V := []) (T := lookT tiT) (G := gamFind) (post := findPost 2 0)
    followP tiT_ok gamFind_ok Tryz.func61 rfl (by kernel_rfl) (by show 1 ≤ 15; decide) (hh_list hg) (free_list (by simp [allLt, gHp])) ?_ ?_
  · exact fun s xs w' hp H => ⟨s, xs, rfl, hp, H⟩
  rw [Tryz.results61]
  simp (maxSteps := 1000000) only [En.E, En.evsC, List.map_cons, List.map_nil, ne_eq, En.bitN, Nat.testBit, seval, tiT, tiP, gamFind, spTable_q, globR_q, gHp, h4, h3, tblUps_q, tblCells_q]
  intro b M
  exact ⟨_, _, rfl, by simp [getS, lookH, linesAt, pLines], by simp [getN, lookH, errsAt, pErrs]⟩
set_option maxRecDepth 100000 in
set_option maxHeartbeats 8000000 in
theorem find3 (bn on cn ba oa ca : Nat) (h4 : 4 ≤ cn) (h3 : 3 ≤ ca) (w : World) (hg : allRd w.heap.size w (gHp bn on cn ba oa ca)) :
    Calls Tryz.prog 61 #[.int .i64 3] w (FindRet 3 0 bn on cn ba oa ca w) := by
  refine calls_run (args := [.v (.int .i64 3)]) (hp := gHp bn on cn ba oa ca) (nx := 1000) (n := 400) (U := [(1000000, 4)]) (V := []) (T := lookT tiT) (G := gamFind) (post := findPost 3 0)
    followP tiT_ok gamFind_ok Tryz.func61 rfl (by kernel_rfl) (by show 1 ≤ 15; decide) (hh_list hg) (free_list (by simp [allLt, gHp])) ?_ ?_
  · exact fun s xs w' hp H => ⟨s, xs, rfl, hp, H⟩
  rw [Tryz.results61]
  simp (maxSteps := 1000000) only [En.E, En.evsC, List.map_cons, List.map_nil, ne_eq, En.bitN, Nat.testBit, seval, tiT, tiP, gamFind, spTable_q, globR_q, gHp, h4, h3, tblUps_q, tblCells_q]
  intro b M
  exact ⟨_, _, rfl, by simp [getS, lookH, linesAt, pLines], by simp [getN, lookH, errsAt, pErrs]⟩
set_option maxRecDepth 100000 in
set_option maxHeartbeats 8000000 in
theorem find4 (bn on cn ba oa ca : Nat) (h4 : 4 ≤ cn) (h3 : 3 ≤ ca) (w : World) (hg : allRd w.heap.size w (gHp bn on cn ba oa ca)) :
    Calls Tryz.prog 61 #[.int .i64 4] w (FindRet 4 0 bn on cn ba oa ca w) := by
  refine calls_run (args := [.v (.int .i64 4)]) (hp := gHp bn on cn ba oa ca) (nx := 1000) (n := 400) (U := [(1000000, 4)]) (V := []) (T := lookT tiT) (G := gamFind) (post := findPost 4 0)
    followP tiT_ok gamFind_ok Tryz.func61 rfl (by kernel_rfl) (by show 1 ≤ 15; decide) (hh_list hg) (free_list (by simp [allLt, gHp])) ?_ ?_
  · exact fun s xs w' hp H => ⟨s, xs, rfl, hp, H⟩
  rw [Tryz.results61]
  simp (maxSteps := 1000000) only [En.E, En.evsC, List.map_cons, List.map_nil, ne_eq, En.bitN, Nat.testBit, seval, tiT, tiP, gamFind, spTable_q, globR_q, gHp, h4, h3, tblUps_q, tblCells_q]
  intro b M
  exact ⟨_, _, rfl, by simp [getS, lookH, linesAt, pLines], by simp [getN, lookH, errsAt, pErrs]⟩
set_option maxRecDepth 100000 in
set_option maxHeartbeats 8000000 in
theorem find5 (bn on cn ba oa ca : Nat) (h4 : 4 ≤ cn) (h3 : 3 ≤ ca) (w : World) (hg : allRd w.heap.size w (gHp bn on cn ba oa ca)) :
    Calls Tryz.prog 61 #[.int .i64 5] w (FindRet 5 0 bn on cn ba oa ca w) := by
  refine calls_run (args := [.v (.int .i64 5)]) (hp := gHp bn on cn ba oa ca) (nx := 1000) (n := 400) (U := [(1000000, 4)]) (V := []) (T := lookT tiT) (G := gamFind) (post := findPost 5 0)
    followP tiT_ok gamFind_ok Tryz.func61 rfl (by kernel_rfl) (by show 1 ≤ 15; decide) (hh_list hg) (free_list (by simp [allLt, gHp])) ?_ ?_
  · exact fun s xs w' hp H => ⟨s, xs, rfl, hp, H⟩
  rw [Tryz.results61]
  simp (maxSteps := 1000000) only [En.E, En.evsC, List.map_cons, List.map_nil, ne_eq, En.bitN, Nat.testBit, seval, tiT, tiP, gamFind, spTable_q, globR_q, gHp, h4, h3, tblUps_q, tblCells_q]
  intro b M
  exact ⟨_, _, rfl, by simp [getS, lookH, linesAt, pLines], by simp [getN, lookH, errsAt, pErrs]⟩
set_option maxRecDepth 100000 in
set_option maxHeartbeats 8000000 in
theorem find6 (bn on cn ba oa ca : Nat) (h4 : 4 ≤ cn) (h3 : 3 ≤ ca) (w : World) (hg : allRd w.heap.size w (gHp bn on cn ba oa ca)) :
    Calls Tryz.prog 61 #[.int .i64 6] w (FindRet 6 0 bn on cn ba oa ca w) := by
  refine calls_run (args := [.v (.int .i64 6)]) (hp := gHp bn on cn ba oa ca) (nx := 1000) (n := 400) (U := [(1000000, 4)]) (V := []) (T := lookT tiT) (G := gamFind) (post := findPost 6 0)
    followP tiT_ok gamFind_ok Tryz.func61 rfl (by kernel_rfl) (by show 1 ≤ 15; decide) (hh_list hg) (free_list (by simp [allLt, gHp])) ?_ ?_
  · exact fun s xs w' hp H => ⟨s, xs, rfl, hp, H⟩
  rw [Tryz.results61]
  simp (maxSteps := 1000000) only [En.E, En.evsC, List.map_cons, List.map_nil, ne_eq, En.bitN, Nat.testBit, seval, tiT, tiP, gamFind, spTable_q, globR_q, gHp, h4, h3, tblUps_q, tblCells_q]
  intro b M
  exact ⟨_, _, rfl, by simp [getS, lookH, linesAt, pLines], by simp [getN, lookH, errsAt, pErrs]⟩
set_option maxRecDepth 100000 in
set_option maxHeartbeats 8000000 in
theorem find7 (bn on cn ba oa ca : Nat) (h4 : 4 ≤ cn) (h3 : 3 ≤ ca) (w : World) (hg : allRd w.heap.size w (gHp bn on cn ba oa ca)) :
    Calls Tryz.prog 61 #[.int .i64 7] w (FindRet 7 0 bn on cn ba oa ca w) := by
  refine calls_run (args := [.v (.int .i64 7)]) (hp := gHp bn on cn ba oa ca) (nx := 1000) (n := 400) (U := [(1000000, 4)]) (V := []) (T := lookT tiT) (G := gamFind) (post := findPost 7 0)
    followP tiT_ok gamFind_ok Tryz.func61 rfl (by kernel_rfl) (by show 1 ≤ 15; decide) (hh_list hg) (free_list (by simp [allLt, gHp])) ?_ ?_
  · exact fun s xs w' hp H => ⟨s, xs, rfl, hp, H⟩
  rw [Tryz.results61]
  simp (maxSteps := 1000000) only [En.E, En.evsC, List.map_cons, List.map_nil, ne_eq, En.bitN, Nat.testBit, seval, tiT, tiP, gamFind, spTable_q, globR_q, gHp, h4, h3, tblUps_q, tblCells_q]
  intro b M
  exact ⟨_, _, rfl, by simp [getS, lookH, linesAt, pLines], by simp [getN, lookH, errsAt, pErrs]⟩
set_option maxRecDepth 100000 in
set_option maxHeartbeats 8000000 in
theorem find8 (bn on cn ba oa ca : Nat) (h4 : 4 ≤ cn) (h3 : 3 ≤ ca) (w : World) (hg : allRd w.heap.size w (gHp bn on cn ba oa ca)) :
    Calls Tryz.prog 61 #[.int .i64 8] w (FindRet 8 0 bn on cn ba oa ca w) := by
  refine calls_run (args := [.v (.int .i64 8)]) (hp := gHp bn on cn ba oa ca) (nx := 1000) (n := 400) (U := [(1000000, 4)]) (V := []) (T := lookT tiT) (G := gamFind) (post := findPost 8 0)
    followP tiT_ok gamFind_ok Tryz.func61 rfl (by kernel_rfl) (by show 1 ≤ 15; decide) (hh_list hg) (free_list (by simp [allLt, gHp])) ?_ ?_
  · exact fun s xs w' hp H => ⟨s, xs, rfl, hp, H⟩
  rw [Tryz.results61]
  simp (maxSteps := 1000000) only [En.E, En.evsC, List.map_cons, List.map_nil, ne_eq, En.bitN, Nat.testBit, seval, tiT, tiP, gamFind, spTable_q, globR_q, gHp, h4, h3, tblUps_q, tblCells_q]
  intro b M
  exact ⟨_, _, rfl, by simp [getS, lookH, linesAt, pLines], by simp [getN, lookH, errsAt, pErrs]⟩
set_option maxRecDepth 100000 in
set_option maxHeartbeats 8000000 in
theorem find9 (bn on cn ba oa ca : Nat) (h4 : 4 ≤ cn) (h3 : 3 ≤ ca) (w : World) (hg : allRd w.heap.size w (gHp bn on cn ba oa ca)) :
    Calls Tryz.prog 61 #[.int .i64 9] w (FindRet 9 0 bn on cn ba oa ca w) := by
  refine calls_run (args := [.v (.int .i64 9)]) (hp := gHp bn on cn ba oa ca) (nx := 1000) (n := 400) (U := [(1000000, 4)]) (V := []) (T := lookT tiT) (G := gamFind) (post := findPost 9 0)
    followP tiT_ok gamFind_ok Tryz.func61 rfl (by kernel_rfl) (by show 1 ≤ 15; decide) (hh_list hg) (free_list (by simp [allLt, gHp])) ?_ ?_
  · exact fun s xs w' hp H => ⟨s, xs, rfl, hp, H⟩
  rw [Tryz.results61]
  simp (maxSteps := 1000000) only [En.E, En.evsC, List.map_cons, List.map_nil, ne_eq, En.bitN, Nat.testBit, seval, tiT, tiP, gamFind, spTable_q, globR_q, gHp, h4, h3, tblUps_q, tblCells_q]
  intro b M
  exact ⟨_, _, rfl, by simp [getS, lookH, linesAt, pLines], by simp [getN, lookH, errsAt, pErrs]⟩
set_option maxRecDepth 100000 in
set_option maxHeartbeats 8000000 in
theorem find10 (bn on cn ba oa ca : Nat) (h4 : 4 ≤ cn) (h3 : 3 ≤ ca) (w : World) (hg : allRd w.heap.size w (gHp bn on cn ba oa ca)) :
    Calls Tryz.prog 61 #[.int .i64 10] w (FindRet 10 0 bn on cn ba oa ca w) := by
  refine calls_run (args := [.v (.int .i64 10)]) (hp := gHp bn on cn ba oa ca) (nx := 1000) (n := 400) (U := [(1000000, 4)]) (V := []) (T := lookT tiT) (G := gamFind) (post := findPost 10 0)
    followP tiT_ok gamFind_ok Tryz.func61 rfl (by kernel_rfl) (by show 1 ≤ 15; decide) (hh_list hg) (free_list (by simp [allLt, gHp])) ?_ ?_
  · exact fun s xs w' hp H => ⟨s, xs, rfl, hp, H⟩
  rw [Tryz.results61]
  simp (maxSteps := 1000000) only [En.E, En.evsC, List.map_cons, List.map_nil, ne_eq, En.bitN, Nat.testBit, seval, tiT, tiP, gamFind, spTable_q, globR_q, gHp, h4, h3, tblUps_q, tblCells_q]
  intro b M
  exact ⟨_, _, rfl, by simp [getS, lookH, linesAt, pLines], by simp [getN, lookH, errsAt, pErrs]⟩
set_option maxRecDepth 100000 in
set_option maxHeartbeats 8000000 in
theorem find11 (bn on cn ba oa ca : Nat) (h4 : 4 ≤ cn) (h3 : 3 ≤ ca) (w : World) (hg : allRd w.heap.size w (gHp bn on cn ba oa ca)) :
    Calls Tryz.prog 61 #[.int .i64 11] w (FindRet 11 0 bn on cn ba oa ca w) := by
  refine calls_run (args := [.v (.int .i64 11)]) (hp := gHp bn on cn ba oa ca) (nx := 1000) (n := 400) (U := [(1000000, 4)]) (V := []) (T := lookT tiT) (G := gamFind) (post := findPost 11 0)
    followP tiT_ok gamFind_ok Tryz.func61 rfl (by kernel_rfl) (by show 1 ≤ 15; decide) (hh_list hg) (free_list (by simp [allLt, gHp])) ?_ ?_
  · exact fun s xs w' hp H => ⟨s, xs, rfl, hp, H⟩
  rw [Tryz.results61]
  simp (maxSteps := 1000000) only [En.E, En.evsC, List.map_cons, List.map_nil, ne_eq, En.bitN, Nat.testBit, seval, tiT, tiP, gamFind, spTable_q, globR_q, gHp, h4, h3, tblUps_q, tblCells_q]
  intro b M
  exact ⟨_, _, rfl, by simp [getS, lookH, linesAt, pLines], by simp [getN, lookH, errsAt, pErrs]⟩
set_option maxRecDepth 100000 in
set_option maxHeartbeats 8000000 in
theorem find12 (bn on cn ba oa ca : Nat) (h4 : 4 ≤ cn) (h3 : 3 ≤ ca) (w : World) (hg : allRd w.heap.size w (gHp bn on cn ba oa ca)) :
    Calls Tryz.prog 61 #[.int .i64 12] w (FindRet 12 0 bn on cn ba oa ca w) := by
  refine calls_run (args := [.v (.int .i64 12)]) (hp := gHp bn on cn ba oa ca) (nx := 1000) (n := 400) (U := [(1000000, 4)]) (V := []) (T := lookT tiT) (G := gamFind) (post := findPost 12 0)
    followP tiT_ok gamFind_ok Tryz.func61 rfl (by kernel_rfl) (by show 1 ≤ 15; decide) (hh_list hg) (free_list (by simp [allLt, gHp])) ?_ ?_
  · exact fun s xs w' hp H => ⟨s, xs, rfl, hp, H⟩
  rw [Tryz.results61]
  simp (maxSteps := 1000000) only [En.E, En.evsC, List.map_cons, List.map_nil, ne_eq, En.bitN, Nat.testBit, seval, tiT, tiP, gamFind, spTable_q, globR_q, gHp, h4, h3, tblUps_q, tblCells_q]
  intro b M
  exact ⟨_, _, rfl, by simp [getS, lookH, linesAt, pLines], by simp [getN, lookH, errsAt, pErrs]⟩
set_option maxRecDepth 100000 in
set_option maxHeartbeats 8000000 in
theorem find13 (bn on cn ba oa ca : Nat) (h4 : 4 ≤ cn) (h3 : 3 ≤ ca) (w : World) (hg : allRd w.heap.size w (gHp bn on cn ba oa ca)) :
    Calls Tryz.prog 61 #[.int .i64 13] w (FindRet 13 0 bn on cn ba oa ca w) := by
  refine calls_run (args := [.v (.int .i64 13)]) (hp := gHp bn on cn ba oa ca) (nx := 1000) (n := 400) (U := [(1000000, 4)]) (V := []) (T := lookT tiT) (G := gamFind) (post := findPost 13 0)
    followP tiT_ok gamFind_ok Tryz.func61 rfl (by kernel_rfl) (by show 1 ≤ 15; decide) (hh_list hg) (free_list (by simp [allLt, gHp])) ?_ ?_
  · exact fun s xs w' hp H => ⟨s, xs, rfl, hp, H⟩
  rw [Tryz.results61]
  simp (maxSteps := 1000000) only [En.E, En.evsC, List.map_cons, List.map_nil, ne_eq, En.bitN, Nat.testBit, seval, tiT, tiP, gamFind, spTable_q, globR_q, gHp, h4, h3, tblUps_q, tblCells_q]
  intro b M
  exact ⟨_, _, rfl, by simp [getS, lookH, linesAt, pLines], by simp [getN, lookH, errsAt, pErrs]⟩
set_option maxRecDepth 100000 in
set_option maxHeartbeats 8000000 in
theorem find14 (bn on cn ba oa ca : Nat) (h4 : 4 ≤ cn) (h3 : 3 ≤ ca) (w : World) (hg : allRd w.heap.size w (gHp bn on cn ba oa ca)) :
    Calls Tryz.prog 61 #[.int .i64 14] w (FindRet 14 0 bn on cn ba oa ca w) := by
  refine calls_run (args := [.v (.int .i64 14)]) (hp := gHp bn on cn ba oa ca) (nx := 1000) (n := 400) (U := [(1000000, 4)]) (V := []) (T := lookT tiT) (G := gamFind) (post := findPost 14 0)
    followP tiT_ok gamFind_ok Tryz.func61 rfl (by kernel_rfl) (by show 1 ≤ 15; decide) (hh_list hg) (free_list (by simp [allLt, gHp])) ?_ ?_
  · exact fun s xs w' hp H => ⟨s, xs, rfl, hp, H⟩
  rw [Tryz.results61]
  simp (maxSteps := 1000000) only [En.E, En.evsC, List.map_cons, List.map_nil, ne_eq, En.bitN, Nat.testBit, seval, tiT, tiP, gamFind, spTable_q, globR_q, gHp, h4, h3, tblUps_q, tblCells_q]
  intro b M
  exact ⟨_, _, rfl, by simp [getS, lookH, linesAt, pLines], by simp [getN, lookH, errsAt, pErrs]⟩
set_option maxRecDepth 100000 in
set_option maxHeartbeats 8000000 in
theorem find15 (bn on cn ba oa ca : Nat) (h4 : 4 ≤ cn) (h3 : 3 ≤ ca) (w : World) (hg : allRd w.heap.size w (gHp bn on cn ba oa ca)) :
    Calls Tryz.prog 61 #[.int .i64 15] w (FindRet 15 0 bn on cn ba oa ca w) := by
  refine calls_run (args := [.v (.int .i64 15)]) (hp := gHp bn on cn ba oa ca) (nx := 1000) (n := 400) (U := [(1000000, 4)]) (V := []) (T := lookT tiT) (G := gamFind) (post := findPost 15 0)
    followP tiT_ok gamFind_ok Tryz.func61 rfl (by kernel_rfl) (by show 1 ≤ 15; decide) (hh_list hg) (free_list (by simp [allLt, gHp])) ?_ ?_
  · exact fun s xs w' hp H => ⟨s, xs, rfl, hp, H⟩
  rw [Tryz.results61]
  simp (maxSteps := 1000000) only [En.E, En.evsC, List.map_cons, List.map_nil, ne_eq, En.bitN, Nat.testBit, seval, tiT, tiP, gamFind, spTable_q, globR_q, gHp, h4, h3, tblUps_q, tblCells_q]
  intro b M
  exact ⟨_, _, rfl, by simp [getS, lookH, linesAt, pLines], by simp [getN, lookH, errsAt, pErrs]⟩
set_option maxRecDepth 100000 in
set_option maxHeartbeats 8000000 in
theorem find16 (bn on cn ba oa ca : Nat) (h4 : 4 ≤ cn) (h3 : 3 ≤ ca) (w : World) (hg : allRd w.heap.size w (gHp bn on cn ba oa ca)) :
    Calls Tryz.prog 61 #[.int .i64 16] w (FindRet 16 0 bn on cn ba oa ca w) := by
  refine calls_run (args := [.v (.int .i64 16)]) (hp := gHp bn on cn ba oa ca) (nx := 1000) (n := 400) (U := [(1000000, 4)]) (V := []) (T := lookT tiT) (G := gamFind) (post := findPost 16 0)
    followP tiT_ok gamFind_ok Tryz.func61 rfl (by kernel_rfl) (by show 1 ≤ 15; decide) (hh_list hg) (free_list (by simp [allLt, gHp])) ?_ ?_
  · exact fun s xs w' hp H => ⟨s, xs, rfl, hp, H⟩
  rw [Tryz.results61]
  simp (maxSteps := 1000000) only [En.E, En.evsC, List.map_cons, List.map_nil, ne_eq, En.bitN, Nat.testBit, seval, tiT, tiP, gamFind, spTable_q, globR_q, gHp, h4, h3, tblUps_q, tblCells_q]
  intro b M
  exact ⟨_, _, rfl, by simp [getS, lookH, linesAt, pLines], by simp [getN, lookH, errsAt, pErrs]⟩
set_option maxRecDepth 100000 in
set_option maxHeartbeats 8000000 in
theorem find17 (bn on cn ba oa ca : Nat) (h4 : 4 ≤ cn) (h3 : 3 ≤ ca) (w : World) (hg : allRd w.heap.size w (gHp bn on cn ba oa ca)) :
    Calls Tryz.prog 61 #[.int .i64 17] w (FindRet 17 0 bn on cn ba oa ca w) := by
  refine calls_run (args := [.v (.int .i64 17)]) (hp := gHp bn on cn ba oa ca) (nx := 1000) (n := 400) (U := [(1000000, 4)]) (V := []) (T := lookT tiT) (G := gamFind) (post := findPost 17 0)
    followP tiT_ok gamFind_ok Tryz.func61 rfl (by kernel_rfl) (by show 1 ≤ 15; decide) (hh_list hg) (free_list (by simp [allLt, gHp])) ?_ ?_
  · exact fun s xs w' hp H => ⟨s, xs, rfl, hp, H⟩
  rw [Tryz.results61]
  simp (maxSteps := 1000000) only [En.E, En.evsC, List.map_cons, List.map_nil, ne_eq, En.bitN, Nat.testBit, seval, tiT, tiP, gamFind, spTable_q, globR_q, gHp, h4, h3, tblUps_q, tblCells_q]
  intro b M
  exact ⟨_, _, rfl, by simp [getS, lookH, linesAt, pLines], by simp [getN, lookH, errsAt, pErrs]⟩
set_option maxRecDepth 100000 in
set_option maxHeartbeats 8000000 in
theorem find18 (bn on cn ba oa ca : Nat) (h4 : 4 ≤ cn) (h3 : 3 ≤ ca) (w : World) (hg : allRd w.heap.size w (gHp bn on cn ba oa ca)) :
    Calls Tryz.prog 61 #[.int .i64 18] w (FindRet 18 0 bn on cn ba oa ca w) := by
  refine calls_run (args := [.v (.int .i64 18)]) (hp := gHp bn on cn ba oa ca) (nx := 1000) (n := 400) (U := [(1000000, 4)]) (V := []) (T := lookT tiT) (G := gamFind) (post := findPost 18 0)
    followP tiT_ok gamFind_ok Tryz.func61 rfl (by kernel_rfl) (by show 1 ≤ 15; decide) (hh_list hg) (free_list (by simp [allLt, gHp])) ?_ ?_
  · exact fun s xs w' hp H => ⟨s, xs, rfl, hp, H⟩
  rw [Tryz.results61]
  simp (maxSteps := 1000000) only [En.E, En.evsC, List.map_cons, List.map_nil, ne_eq, En.bitN, Nat.testBit, seval, tiT, tiP, gamFind, spTable_q, globR_q, gHp, h4, h3, tblUps_q, tblCells_q]
  intro b M
  exact ⟨_, _, rfl, by simp [getS, lookH, linesAt, pLines], by simp [getN, lookH, errsAt, pErrs]⟩
set_option maxRecDepth 100000 in
set_option maxHeartbeats 8000000 in
theorem find19 (bn on cn ba oa ca : Nat) (h4 : 4 ≤ cn) (h3 : 3 ≤ ca) (w : World) (hg : allRd w.heap.size w (gHp bn on cn ba oa ca)) :
    Calls Tryz.prog 61 #[.int .i64 19] w (FindRet 19 0 bn on cn ba oa ca w) := by
  refine calls_run (args := [.v (.int .i64 19)]) (hp := gHp bn on cn ba oa ca) (nx := 1000) (n := 400) (U := [(1000000, 4)]) (V := []) (T := lookT tiT) (G := gamFind) (post := findPost 19 0)
    followP tiT_ok gamFind_ok Tryz.func61 rfl (by kernel_rfl) (by show 1 ≤ 15; decide) (hh_list hg) (free_list (by simp [allLt, gHp])) ?_ ?_
  · exact fun s xs w' hp H => ⟨s, xs, rfl, hp, H⟩
  rw [Tryz.results61]
  simp (maxSteps := 1000000) only [En.E, En.evsC, List.map_cons, List.map_nil, ne_eq, En.bitN, Nat.testBit, seval, tiT, tiP, gamFind, spTable_q, globR_q, gHp, h4, h3, tblUps_q, tblCells_q]
  intro b M
  exact ⟨_, _, rfl, by simp [getS, lookH, linesAt, pLines], by simp [getN, lookH, errsAt, pErrs]⟩
set_option maxRecDepth 100000 in
set_option maxHeartbeats 8000000 in
theorem find20 (bn on cn ba oa ca : Nat) (h4 : 4 ≤ cn) (h3 : 3 ≤ ca) (w : World) (hg : allRd w.heap.size w (gHp bn on cn ba oa ca)) :
    Calls Tryz.prog 61 #[.int .i64 20] w (FindRet 20 0 bn on cn ba oa ca w) := by
  refine calls_run (args := [.v (.int .i64 20)]) (hp := gHp bn on cn ba oa ca) (nx := 1000) (n := 400) (U := [(1000000, 4)]) (V := []) (T := lookT tiT) (G := gamFind) (post := findPost 20 0)
    followP tiT_ok gamFind_ok Tryz.func61 rfl (by kernel_rfl) (by show 1 ≤ 15; decide) (hh_list hg) (free_list (by simp [allLt, gHp])) ?_ ?_
  · exact fun s xs w' hp H => ⟨s, xs, rfl, hp, H⟩
  rw [Tryz.results61]
  simp (maxSteps := 1000000) only [En.E, En.evsC, List.map_cons, List.map_nil, ne_eq, En.bitN, Nat.testBit, seval, tiT, tiP, gamFind, spTable_q, globR_q, gHp, h4, h3, tblUps_q, tblCells_q]
  intro b M
  exact ⟨_, _, rfl, by simp [getS, lookH, linesAt, pLines], by simp [getN, lookH, errsAt, pErrs]⟩
set_option maxRecDepth 100000 in
set_option maxHeartbeats 8000000 in
theorem find21 (bn on cn ba oa ca : Nat) (h4 : 4 ≤ cn) (h3 : 3 ≤ ca) (w : World) (hg : allRd w.heap.size w (gHp bn on cn ba oa ca)) :
    Calls Tryz.prog 61 #[.int .i64 21] w (FindRet 21 0 bn on cn ba oa ca w) := by
  refine calls_run (args := [.v (.int .i64 21)]) (hp := gHp bn on cn ba oa ca) (nx := 1000) (n := 400) (U := [(1000000, 4)]) (V := []) (T := lookT tiT) (G := gamFind) (post := findPost 21 0)
    followP tiT_ok gamFind_ok Tryz.func61 rfl (by kernel_rfl) (by show 1 ≤ 15; decide) (hh_list hg) (free_list (by simp [allLt, gHp])) ?_ ?_
  · exact fun s xs w' hp H => ⟨s, xs, rfl, hp, H⟩
  rw [Tryz.results61]
  simp (maxSteps := 1000000) only [En.E, En.evsC, List.map_cons, List.map_nil, ne_eq, En.bitN, Nat.testBit, seval, tiT, tiP, gamFind, spTable_q, globR_q, gHp, h4, h3, tblUps_q, tblCells_q]
  intro b M
  exact ⟨_, _, rfl, by simp [getS, lookH, linesAt, pLines], by simp [getN, lookH, errsAt, pErrs]⟩
set_option maxRecDepth 100000 in
set_option maxHeartbeats 8000000 in
theorem find22 (bn on cn ba oa ca : Nat) (h4 : 4 ≤ cn) (h3 : 3 ≤ ca) (w : World) (hg : allRd w.heap.size w (gHp bn on cn ba oa ca)) :
    Calls Tryz.prog 61 #[.int .i64 22] w (FindRet 22 0 bn on cn ba oa ca w) := by
  refine calls_run (args := [.v (.int .i64 22)]) (hp := gHp bn on cn ba oa ca) (nx := 1000) (n := 400) (U := [(1000000, 4)]) (V := []) (T := lookT tiT) (G := gamFind) (post := findPost 22 0)
    followP tiT_ok gamFind_ok Tryz.func61 rfl (by kernel_rfl) (by show 1 ≤ 15; decide) (hh_list hg) (free_list (by simp [allLt, gHp])) ?_ ?_
  · exact fun s xs w' hp H => ⟨s, xs, rfl, hp, H⟩
  rw [Tryz.results61]
  simp (maxSteps := 1000000) only [En.E, En.evsC, List.map_cons, List.map_nil, ne_eq, En.bitN, Nat.testBit, seval, tiT, tiP, gamFind, spTable_q, globR_q, gHp, h4, h3, tblUps_q, tblCells_q]
  intro b M
  exact ⟨_, _, rfl, by simp [getS, lookH, linesAt, pLines], by simp [getN, lookH, errsAt, pErrs]⟩
set_option maxRecDepth 100000 in
set_option maxHeartbeats 8000000 in
theorem find23 (bn on cn ba oa ca : Nat) (h4 : 4 ≤ cn) (h3 : 3 ≤ ca) (w : World) (hg : allRd w.heap.size w (gHp bn on cn ba oa ca)) :
    Calls Tryz.prog 61 #[.int .i64 23] w (FindRet 23 0 bn on cn ba oa ca w) := by
  refine calls_run (args := [.v (.int .i64 23)]) (hp := gHp bn on cn ba oa ca) (nx := 1000) (n := 400) (U := [(1000000, 4)]) (V := []) (T := lookT tiT) (G := gamFind) (post := findPost 23 0)
    followP tiT_ok gamFind_ok Tryz.func61 rfl (by kernel_rfl) (by show 1 ≤ 15; decide) (hh_list hg) (free_list (by simp [allLt, gHp])) ?_ ?_
  · exact fun s xs w' hp H => ⟨s, xs, rfl, hp, H⟩
  rw [Tryz.results61]
  simp (maxSteps := 1000000) only [En.E, En.evsC, List.map_cons, List.map_nil, ne_eq, En.bitN, Nat.testBit, seval, tiT, tiP, gamFind, spTable_q, globR_q, gHp, h4, h3, tblUps_q, tblCells_q]
  intro b M
  exact ⟨_, _, rfl, by simp [getS, lookH, linesAt, pLines], by simp [getN, lookH, errsAt, pErrs]⟩
set_option maxRecDepth 100000 in
set_option maxHeartbeats 8000000 in
theorem find24 (bn on cn ba oa ca : Nat) (h4 : 4 ≤ cn) (h3 : 3 ≤ ca) (w : World) (hg : allRd w.heap.size w (gHp bn on cn ba oa ca)) :
    Calls Tryz.prog 61 #[.int .i64 24] w (FindRet 24 0 bn on cn ba oa ca w) := by
  refine calls_run (args := [.v (.int .i64 24)]) (hp := gHp bn on cn ba oa ca) (nx := 1000) (n := 400) (U := [(1000000, 4)]) (V := []) (T := lookT tiT) (G := gamFind) (post := findPost 24 0)
    followP tiT_ok gamFind_ok Tryz.func61 rfl (by kernel_rfl) (by show 1 ≤ 15; decide) (hh_list hg) (free_list (by simp [allLt, gHp])) ?_ ?_
  · exact fun s xs w' hp H => ⟨s, xs, rfl, hp, H⟩
  rw [Tryz.results61]
  simp (maxSteps := 1000000) only [En.E, En.evsC, List.map_cons, List.map_nil, ne_eq, En.bitN, Nat.testBit, seval, tiT, tiP, gamFind, spTable_q, globR_q, gHp, h4, h3, tblUps_q, tblCells_q]
  intro b M
  exact ⟨_, _, rfl, by simp [getS, lookH, linesAt, pLines], by simp [getN, lookH, errsAt, pErrs]⟩
set_option maxRecDepth 100000 in
set_option maxHeartbeats 8000000 in
theorem find25 (bn on cn ba oa ca : Nat) (h4 : 4 ≤ cn) (h3 : 3 ≤ ca) (w : World) (hg : allRd w.heap.size w (gHp bn on cn ba oa ca)) :
    Calls Tryz.prog 61 #[.int .i64 25] w (FindRet 25 0 bn on cn ba oa ca w) := by
  refine calls_run (args := [.v (.int .i64 25)]) (hp := gHp bn on cn ba oa ca) (nx := 1000) (n := 400) (U := [(1000000, 4)]) (V := []) (T := lookT tiT) (G := gamFind) (post := findPost 25 0)
    followP tiT_ok gamFind_ok Tryz.func61 rfl (by kernel_rfl) (by show 1 ≤ 15; decide) (hh_list hg) (free_list (by simp [allLt, gHp])) ?_ ?_
  · exact fun s xs w' hp H => ⟨s, xs, rfl, hp, H⟩
  rw [Tryz.results61]
  simp (maxSteps := 1000000) only [En.E, En.evsC, List.map_cons, List.map_nil, ne_eq, En.bitN, Nat.testBit, seval, tiT, tiP, gamFind, spTable_q, globR_q, gHp, h4, h3, tblUps_q, tblCells_q]
  intro b M
  exact ⟨_, _, rfl, by simp [getS, lookH, linesAt, pLines], by simp [getN, lookH, errsAt, pErrs]⟩
set_option maxRecDepth 100000 in
set_option maxHeartbeats 8000000 in
theorem find26 (bn on cn ba oa ca : Nat) (h4 : 4 ≤ cn) (h3 : 3 ≤ ca) (w : World) (hg : allRd w.heap.size w (gHp bn on cn ba oa ca)) :
    Calls Tryz.prog 61 #[.int .i64 26] w (FindRet 26 0 bn on cn ba oa ca w) := by
  refine calls_run (args := [.v (.int .i64 26)]) (hp := gHp bn on cn ba oa ca) (nx := 1000) (n := 400) (U := [(1000000, 4)]) (V := []) (T := lookT tiT) (G := gamFind) (post := findPost 26 0)
    followP tiT_ok gamFind_ok Tryz.func61 rfl (by kernel_rfl) (by show 1 ≤ 15; decide) (hh_list hg) (free_list (by simp [allLt, gHp])) ?_ ?_
  · exact fun s xs w' hp H => ⟨s, xs, rfl, hp, H⟩
  rw [Tryz.results61]
  simp (maxSteps := 1000000) only [En.E, En.evsC, List.map_cons, List.map_nil, ne_eq, En.bitN, Nat.testBit, seval, tiT, tiP, gamFind, spTable_q, globR_q, gHp, h4, h3, tblUps_q, tblCells_q]
  intro b M
  exact ⟨_, _, rfl, by simp [getS, lookH, linesAt, pLines], by simp [getN, lookH, errsAt, pErrs]⟩
set_option maxRecDepth 100000 in
set_option maxHeartbeats 8000000 in
theorem find27 (bn on cn ba oa ca : Nat) (h4 : 4 ≤ cn) (h3 : 3 ≤ ca) (w : World) (hg : allRd w.heap.size w (gHp bn on cn ba oa ca)) :
    Calls Tryz.prog 61 #[.int .i64 27] w (FindRet 27 0 bn on cn ba oa ca w) := by
  refine calls_run (args := [.v (.int .i64 27)]) (hp := gHp bn on cn ba oa ca) (nx := 1000) (n := 400) (U := [(1000000, 4)]) (V := []) (T := lookT tiT) (G := gamFind) (post := findPost 27 0)
    followP tiT_ok gamFind_ok Tryz.func61 rfl (by kernel_rfl) (by show 1 ≤ 15; decide) (hh_list hg) (free_list (by simp [allLt, gHp])) ?_ ?_
  · exact fun s xs w' hp H => ⟨s, xs, rfl, hp, H⟩
  rw [Tryz.results61]
  simp (maxSteps := 1000000) only [En.E, En.evsC, List.map_cons, List.map_nil, ne_eq, En.bitN, Nat.testBit, seval, tiT, tiP, gamFind, spTable_q, globR_q, gHp, h4, h3, tblUps_q, tblCells_q]
  intro b M
  exact ⟨_, _, rfl, by simp [getS, lookH, linesAt, pLines], by simp [getN, lookH, errsAt, pErrs]⟩
set_option maxRecDepth 100000 in
set_option maxHeartbeats 8000000 in
theorem find28 (bn on cn ba oa ca : Nat) (h4 : 4 ≤ cn) (h3 : 3 ≤ ca) (w : World) (hg : allRd w.heap.size w (gHp bn on cn ba oa ca)) :
    Calls Tryz.prog 61 #[.int .i64 28] w (FindRet 28 0 bn on cn ba oa ca w) := by
  refine calls_run (args := [.v (.int .i64 28)]) (hp := gHp bn on cn ba oa ca) (nx := 1000) (n := 400) (U := [(1000000, 4)]) (V := []) (T := lookT tiT) (G := gamFind) (post := findPost 28 0)
    followP tiT_ok gamFind_ok Tryz.func61 rfl (by kernel_rfl) (by show 1 ≤ 15; decide) (hh_list hg) (free_list (by simp [allLt, gHp])) ?_ ?_
  · exact fun s xs w' hp H => ⟨s, xs, rfl, hp, H⟩
  rw [Tryz.results61]
  simp (maxSteps := 1000000) only [En.E, En.evsC, List.map_cons, List.map_nil, ne_eq, En.bitN, Nat.testBit, seval, tiT, tiP, gamFind, spTable_q, globR_q, gHp, h4, h3, tblUps_q, tblCells_q]
  intro b M
  exact ⟨_, _, rfl, by simp [getS, lookH, linesAt, pLines], by simp [getN, lookH, errsAt, pErrs]⟩
set_option maxRecDepth 100000 in
set_option maxHeartbeats 8000000 in
theorem find29 (bn on cn ba oa ca : Nat) (h4 : 4 ≤ cn) (h3 : 3 ≤ ca) (w : World) (hg : allRd w.heap.size w (gHp bn on cn ba oa ca)) :
    Calls Tryz.prog 61 #[.int .i64 29] w (FindRet 29 0 bn on cn ba oa ca w) := by
  refine calls_run (args := [.v (.int .i64 29)]) (hp := gHp bn on cn ba oa ca) (nx := 1000) (n := 400) (U := [(1000000, 4)]) (V := []) (T := lookT tiT) (G := gamFind) (post := findPost 29 0)
    followP tiT_ok gamFind_ok Tryz.func61 rfl (by kernel_rfl) (by show 1 ≤ 15; decide) (hh_list hg) (free_list (by simp [allLt, gHp])) ?_ ?_
  · exact fun s xs w' hp H => ⟨s, xs, rfl, hp, H⟩
  rw [Tryz.results61]
  simp (maxSteps := 1000000) only [En.E, En.evsC, List.map_cons, List.map_nil, ne_eq, En.bitN, Nat.testBit, seval, tiT, tiP, gamFind, spTable_q, globR_q, gHp, h4, h3, tblUps_q, tblCells_q]
  intro b M
  exact ⟨_, _, rfl, by simp [getS, lookH, linesAt, pLines], by simp [getN, lookH, errsAt, pErrs]⟩
set_option maxRecDepth 100000 in
set_option maxHeartbeats 8000000 in
theorem find30 (bn on cn ba oa ca : Nat) (h4 : 4 ≤ cn) (h3 : 3 ≤ ca) (w : World) (hg : allRd w.heap.size w (gHp bn on cn ba oa ca)) :
    Calls Tryz.prog 61 #[.int .i64 30] w (FindRet 30 0 bn on cn ba oa ca w) := by
  refine calls_run (args := [.v (.int .i64 30)]) (hp := gHp bn on cn ba oa ca) (nx := 1000) (n := 400) (U := [(1000000, 4)]) (V := []) (T := lookT tiT) (G := gamFind) (post := findPost 30 0)
    followP tiT_ok gamFind_ok Tryz.func61 rfl (by kernel_rfl) (by show 1 ≤ 15; decide) (hh_list hg) (free_list (by simp [allLt, gHp])) ?_ ?_
  · exact fun s xs w' hp H => ⟨s, xs, rfl, hp, H⟩
  rw [Tryz.results61]
  simp (maxSteps := 1000000) only [En.E, En.evsC, List.map_cons, List.map_nil, ne_eq, En.bitN, Nat.testBit, seval, tiT, tiP, gamFind, spTable_q, globR_q, gHp, h4, h3, tblUps_q, tblCells_q]
  intro b M
  exact ⟨_, _, rfl, by simp [getS, lookH, linesAt, pLines], by simp [getN, lookH, errsAt, pErrs]⟩
set_option maxRecDepth 100000 in
set_option maxHeartbeats 8000000 in
theorem find31 (bn on cn ba oa ca : Nat) (h4 : 4 ≤ cn) (h3 : 3 ≤ ca) (w : World) (hg : allRd w.heap.size w (gHp bn on cn ba oa ca)) :
    Calls Tryz.prog 61 #[.int .i64 31] w (FindRet 31 0 bn on cn ba oa ca w) := by
  refine calls_run (args := [.v (.int .i64 31)]) (hp := gHp bn on cn ba oa ca) (nx := 1000) (n := 400) (U := [(1000000, 4)]) (V := []) (T := lookT tiT) (G := gamFind) (post := findPost 31 0)
    followP tiT_ok gamFind_ok Tryz.func61 rfl (by kernel_rfl) (by show 1 ≤ 15; decide) (hh_list hg) (free_list (by simp [allLt, gHp])) ?_ ?_
  · exact fun s xs w' hp H => ⟨s, xs, rfl, hp, H⟩
  rw [Tryz.results61]
  simp (maxSteps := 1000000) only [En.E, En.evsC, List.map_cons, List.map_nil, ne_eq, En.bitN, Nat.testBit, seval, tiT, tiP, gamFind, spTable_q, globR_q, gHp, h4, h3, tblUps_q, tblCells_q]
  intro b M
  exact ⟨_, _, rfl, by simp [getS, lookH, linesAt, pLines], by simp [getN, lookH, errsAt, pErrs]⟩
set_option maxRecDepth 100000 in
set_option maxHeartbeats 8000000 in
theorem find32 (bn on cn ba oa ca : Nat) (h4 : 4 ≤ cn) (h3 : 3 ≤ ca) (w : World) (hg : allRd w.heap.size w (gHp bn on cn ba oa ca)) :
    Calls Tryz.prog 61 #[.int .i64 32] w (FindRet 32 0 bn on cn ba oa ca w) := by
  refine calls_run (args := [.v (.int .i64 32)]) (hp := gHp bn on cn ba oa ca) (nx := 1000) (n := 400) (U := [(1000000, 4)]) (V := []) (T := lookT tiT) (G := gamFind) (post := findPost 32 0)
    followP tiT_ok gamFind_ok Tryz.func61 rfl (by kernel_rfl) (by show 1 ≤ 15; decide) (hh_list hg) (free_list (by simp [allLt, gHp])) ?_ ?_
  · exact fun s xs w' hp H => ⟨s, xs, rfl, hp, H⟩
  rw [Tryz.results61]
  simp (maxSteps := 1000000) only [En.E, En.evsC, List.map_cons, List.map_nil, ne_eq, En.bitN, Nat.testBit, seval, tiT, tiP, gamFind, spTable_q, globR_q, gHp, h4, h3, tblUps_q, tblCells_q]
  intro b M
  exact ⟨_, _, rfl, by simp [getS, lookH, linesAt, pLines], by simp [getN, lookH, errsAt, pErrs]⟩
set_option maxRecDepth 100000 in
set_option maxHeartbeats 8000000 in
theorem find33 (bn on cn ba oa ca : Nat) (h4 : 4 ≤ cn) (h3 : 3 ≤ ca) (w : World) (hg : allRd w.heap.size w (gHp bn on cn ba oa ca)) :
    Calls Tryz.prog 61 #[.int .i64 33] w (FindRet 33 0 bn on cn ba oa ca w) := by
  refine calls_run (args := [.v (.int .i64 33)]) (hp := gHp bn on cn ba oa ca) (nx := 1000) (n := 400) (U := [(1000000, 4)]) (V := []) (T := lookT tiT) (G := gamFind) (post := findPost 33 0)
    followP tiT_ok gamFind_ok Tryz.func61 rfl (by kernel_rfl) (by show 1 ≤ 15; decide) (hh_list hg) (free_list (by simp [allLt, gHp])) ?_ ?_
  · exact fun s xs w' hp H => ⟨s, xs, rfl, hp, H⟩
  rw [Tryz.results61]
  simp (maxSteps := 1000000) only [En.E, En.evsC, List.map_cons, List.map_nil, ne_eq, En.bitN, Nat.testBit, seval, tiT, tiP, gamFind, spTable_q, globR_q, gHp, h4, h3, tblUps_q, tblCells_q]
  intro b M
  exact ⟨_, _, rfl, by simp [getS, lookH, linesAt, pLines], by simp [getN, lookH, errsAt, pErrs]⟩
set_option maxRecDepth 100000 in
set_option maxHeartbeats 8000000 in
theorem find34 (bn on cn ba oa ca : Nat) (h4 : 4 ≤ cn) (h3 : 3 ≤ ca) (w : World) (hg : allRd w.heap.size w (gHp bn on cn ba oa ca)) :
    Calls Tryz.prog 61 #[.int .i64 34] w (FindRet 34 0 bn on cn ba oa ca w) := by
  refine calls_run (args := [.v (.int .i64 34)]) (hp := gHp bn on cn ba oa ca) (nx := 1000) (n := 400) (U := [(1000000, 4)]) (V := []) (T := lookT tiT) (G := gamFind) (post := findPost 34 0)
    followP tiT_ok gamFind_ok Tryz.func61 rfl (by kernel_rfl) (by show 1 ≤ 15; decide) (hh_list hg) (free_list (by simp [allLt, gHp])) ?_ ?_
  · exact fun s xs w' hp H => ⟨s, xs, rfl, hp, H⟩
  rw [Tryz.results61]
  simp (maxSteps := 1000000) only [En.E, En.evsC, List.map_cons, List.map_nil, ne_eq, En.bitN, Nat.testBit, seval, tiT, tiP, gamFind, spTable_q, globR_q, gHp, h4, h3, tblUps_q, tblCells_q]
  intro b M
  exact ⟨_, _, rfl, by simp [getS, lookH, linesAt, pLines], by simp [getN, lookH, errsAt, pErrs]⟩
set_option maxRecDepth 100000 in
set_option maxHeartbeats 8000000 in
theorem find35 (bn on cn ba oa ca : Nat) (h4 : 4 ≤ cn) (h3 : 3 ≤ ca) (w : World) (hg : allRd w.heap.size w (gHp bn on cn ba oa ca)) :
    Calls Tryz.prog 61 #[.int .i64 35] w (FindRet 35 0 bn on cn ba oa ca w) := by
  refine calls_run (args := [.v (.int .i64 35)]) (hp := gHp bn on cn ba oa ca) (nx := 1000) (n := 400) (U := [(1000000, 4)]) (V := []) (T := lookT tiT) (G := gamFind) (post := findPost 35 0)
    followP tiT_ok gamFind_ok Tryz.func61 rfl (by kernel_rfl) (by show 1 ≤ 15; decide) (hh_list hg) (free_list (by simp [allLt, gHp])) ?_ ?_
  · exact fun s xs w' hp H => ⟨s, xs, rfl, hp, H⟩
  rw [Tryz.results61]
  simp (maxSteps := 1000000) only [En.E, En.evsC, List.map_cons, List.map_nil, ne_eq, En.bitN, Nat.testBit, seval, tiT, tiP, gamFind, spTable_q, globR_q, gHp, h4, h3, tblUps_q, tblCells_q]
  intro b M
  exact ⟨_, _, rfl, by simp [getS, lookH, linesAt, pLines], by simp [getN, lookH, errsAt, pErrs]⟩
set_option maxRecDepth 100000 in
set_option maxHeartbeats 8000000 in
theorem find36 (bn on cn ba oa ca : Nat) (h4 : 4 ≤ cn) (h3 : 3 ≤ ca) (w : World) (hg : allRd w.heap.size w (gHp bn on cn ba oa ca)) :
    Calls Tryz.prog 61 #[.int .i64 36] w (FindRet 36 0 bn on cn ba oa ca w) := by
  refine calls_run (args := [.v (.int .i64 36)]) (hp := gHp bn on cn ba oa ca) (nx := 1000) (n := 400) (U := [(1000000, 4)]) (V := []) (T := lookT tiT) (G := gamFind) (post := findPost 36 0)
    followP tiT_ok gamFind_ok Tryz.func61 rfl (by kernel_rfl) (by show 1 ≤ 15; decide) (hh_list hg) (free_list (by simp [allLt, gHp])) ?_ ?_
  · exact fun s xs w' hp H => ⟨s, xs, rfl, hp, H⟩
  rw [Tryz.results61]
  simp (maxSteps := 1000000) only [En.E, En.evsC, List.map_cons, List.map_nil, ne_eq, En.bitN, Nat.testBit, seval, tiT, tiP, gamFind, spTable_q, globR_q, gHp, h4, h3, tblUps_q, tblCells_q]
  intro b M
  exact ⟨_, _, rfl, by simp [getS, lookH, linesAt, pLines], by simp [getN, lookH, errsAt, pErrs]⟩
set_option maxRecDepth 100000 in
set_option maxHeartbeats 8000000 in
theorem find37 (bn on cn ba oa ca : Nat) (h4 : 4 ≤ cn) (h3 : 3 ≤ ca) (w : World) (hg : allRd w.heap.size w (gHp bn on cn ba oa ca)) :
    Calls Tryz.prog 61 #[.int .i64 37] w (FindRet 37 0 bn on cn ba oa ca w) := by
  refine calls_run (args := [.v (.int .i64 37)]) (hp := gHp bn on cn ba oa ca) (nx := 1000) (n := 400) (U := [(1000000, 4)]) (V := []) (T := lookT tiT) (G := gamFind) (post := findPost 37 0)
    followP tiT_ok gamFind_ok Tryz.func61 rfl (by kernel_rfl) (by show 1 ≤ 15; decide) (hh_list hg) (free_list (by simp [allLt, gHp])) ?_ ?_
  · exact fun s xs w' hp H => ⟨s, xs, rfl, hp, H⟩
  rw [Tryz.results61]
  simp (maxSteps := 1000000) only [En.E, En.evsC, List.map_cons, List.map_nil, ne_eq, En.bitN, Nat.testBit, seval, tiT, tiP, gamFind, spTable_q, globR_q, gHp, h4, h3, tblUps_q, tblCells_q]
  intro b M
  exact ⟨_, _, rfl, by simp [getS, lookH, linesAt, pLines], by simp [getN, lookH, errsAt, pErrs]⟩
set_option maxRecDepth 100000 in
set_option maxHeartbeats 8000000 in
theorem find38 (bn on cn ba oa ca : Nat) (h4 : 4 ≤ cn) (h3 : 3 ≤ ca) (w : World) (hg : allRd w.heap.size w (gHp bn on cn ba oa ca)) :
    Calls Tryz.prog 61 #[.int .i64 38] w (FindRet 38 0 bn on cn ba oa ca w) := by
  refine calls_run (args := [.v (.int .i64 38)]) (hp := gHp bn on cn ba oa ca) (nx := 1000) (n := 400) (U := [(1000000, 4)]) (V := []) (T := lookT tiT) (G := gamFind) (post := findPost 38 0)
    followP tiT_ok gamFind_ok Tryz.func61 rfl (by kernel_rfl) (by show 1 ≤ 15; decide) (hh_list hg) (free_list (by simp [allLt, gHp])) ?_ ?_
  · exact fun s xs w' hp H => ⟨s, xs, rfl, hp, H⟩
  rw [Tryz.results61]
  simp (maxSteps := 1000000) only [En.E, En.evsC, List.map_cons, List.map_nil, ne_eq, En.bitN, Nat.testBit, seval, tiT, tiP, gamFind, spTable_q, globR_q, gHp, h4, h3, tblUps_q, tblCells_q]
  intro b M
  exact ⟨_, _, rfl, by simp [getS, lookH, linesAt, pLines], by simp [getN, lookH, errsAt, pErrs]⟩
set_option maxRecDepth 100000 in
set_option maxHeartbeats 8000000 in
theorem find39 (bn on cn ba oa ca : Nat) (h4 : 4 ≤ cn) (h3 : 3 ≤ ca) (w : World) (hg : allRd w.heap.size w (gHp bn on cn ba oa ca)) :
    Calls Tryz.prog 61 #[.int .i64 39] w (FindRet 39 0 bn on cn ba oa ca w) := by
  refine calls_run (args := [.v (.int .i64 39)]) (hp := gHp bn on cn ba oa ca) (nx := 1000) (n := 400) (U := [(1000000, 4)]) (V := []) (T := lookT tiT) (G := gamFind) (post := findPost 39 0)
    followP tiT_ok gamFind_ok Tryz.func61 rfl (by kernel_rfl) (by show 1 ≤ 15; decide) (hh_list hg) (free_list (by simp [allLt, gHp])) ?_ ?_
  · exact fun s xs w' hp H => ⟨s, xs, rfl, hp, H⟩
  rw [Tryz.results61]
  simp (maxSteps := 1000000) only [En.E, En.evsC, List.map_cons, List.map_nil, ne_eq, En.bitN, Nat.testBit, seval, tiT, tiP, gamFind, spTable_q, globR_q, gHp, h4, h3, tblUps_q, tblCells_q]
  intro b M
  exact ⟨_, _, rfl, by simp [getS, lookH, linesAt, pLines], by simp [getN, lookH, errsAt, pErrs]⟩
set_option maxRecDepth 100000 in
set_option maxHeartbeats 8000000 in
theorem find40 (bn on cn ba oa ca : Nat) (h4 : 4 ≤ cn) (h3 : 3 ≤ ca) (w : World) (hg : allRd w.heap.size w (gHp bn on cn ba oa ca)) :
    Calls Tryz.prog 61 #[.int .i64 40] w (FindRet 40 0 bn on cn ba oa ca w) := by
  refine calls_run (args := [.v (.int .i64 40)]) (hp := gHp bn on cn ba oa ca) (nx := 1000) (n := 400) (U := [(1000000, 4)]) (V := []) (T := lookT tiT) (G := gamFind) (post := findPost 40 0)
    followP tiT_ok gamFind_ok Tryz.func61 rfl (by kernel_rfl) (by show 1 ≤ 15; decide) (hh_list hg) (free_list (by simp [allLt, gHp])) ?_ ?_
  · exact fun s xs w' hp H => ⟨s, xs, rfl, hp, H⟩
  rw [Tryz.results61]
  simp (maxSteps := 1000000) only [En.E, En.evsC, List.map_cons, List.map_nil, ne_eq, En.bitN, Nat.testBit, seval, tiT, tiP, gamFind, spTable_q, globR_q, gHp, h4, h3, tblUps_q, tblCells_q]
  intro b M
  exact ⟨_, _, rfl, by simp [getS, lookH, linesAt, pLines], by simp [getN, lookH, errsAt, pErrs]⟩
end Pr
end Go.Proofs.YtnpkmimbnjnicaaGreatDoor
/-
prims.find (chapter 12): its contract for every number; arity, Arity, Name.
-/
set_option linter.unusedSimpArgs false
set_option linter.unusedVariables false
namespace Go.Proofs.YtnpkmimbnjnicaaGreatDoor
namespace Pr
open Go Go.RowKit En
set_option maxRecDepth 100000 in
set_option maxHeartbeats 8000000 in
theorem findOut (p : Int) (hp : p < 1 ∨ 40 < p) (bn on cn ba oa ca : Nat) (h4 : 4 ≤ cn) (h3 : 3 ≤ ca) (w : World) (hg : allRd w.heap.size w (gHp bn on cn ba oa ca)) :
    Calls Tryz.prog 61 #[.int .i64 p] w (FindRet p 2 bn on cn ba oa ca w) := by
  have hn : nameAt p = ⟨#[]⟩ ∧ linesAt p = [] ∧ errsAt p = [] ∧ oneAt p = .nilFunc ∧ twoAt p = .nilFunc := by
    unfold nameAt linesAt errsAt oneAt twoAt
    rcases hp with h | h
    · rw [show p.toNat = 0 by omega]; exact ⟨rfl, rfl, rfl, rfl, rfl⟩
    · have : 41 ≤ p.toNat := by omega
      refine ⟨?_, ?_, ?_, ?_, ?_⟩ <;> rw [List.getD_eq_getElem?_getD, List.getElem?_eq_none (Nat.le_trans (by decide) this)] <;> rfl
  obtain ⟨e1, e2, e3, e4, e5⟩ := hn
  have hc : (bif decide (p < 1) then true else decide (40 < p)) = true := by rcases hp with h | h <;> simp [h]
  refine calls_run (args := [.v (.int .i64 p)]) (hp := gHp bn on cn ba oa ca) (nx := 1000) (n := 400) (U := [(1000000, 4)]) (V := []) (T := lookT tiT) (G := gamFind) (post := findPost p 2)
    followP tiT_ok gamFind_ok Tryz.func61 rfl (by kernel_rfl) (by show 1 ≤ 15; decide) (hh_list hg) (free_list (by simp [allLt, gHp])) ?_ ?_
  · exact fun s xs w' hp H => ⟨s, xs, rfl, hp, H⟩
  rw [Tryz.results61]
  simp (maxSteps := 1000000) only [En.E, En.evsC, List.map_cons, List.map_nil, ne_eq, En.bitN, Nat.testBit, seval, tiT, tiP, gamFind, spTable_q, globR_q, gHp, hc]
  refine fun b => ⟨fun h => by rw [h]; rfl, ?_⟩
  exact ⟨.v (.slice none 0 0), .v (.slice none 0 0), by rw [e1, e4, e5], by rw [e2]; rfl, by rw [e3]; rfl⟩
theorem find_any (p : Int) (bn on cn ba oa ca : Nat) (h4 : 4 ≤ cn) (h3 : 3 ≤ ca) (w : World) (hg : allRd w.heap.size w (gHp bn on cn ba oa ca)) :
    Calls Tryz.prog 61 #[.int .i64 p] w (FindRet p (if known40 p = true then 0 else 2) bn on cn ba oa ca w) := by
  by_cases h : p < 1 ∨ 40 < p
  · have : ¬ known40 p = true := by unfold known40; rcases h with h | h <;> simp [h]
    rw [if_neg this]
    exact findOut p h bn on cn ba oa ca h4 h3 w hg
  · have hk : known40 p = true := by unfold known40; simp; omega
    rw [if_pos hk]
    have : p = 1 ∨ p = 2 ∨ p = 3 ∨ p = 4 ∨ p = 5 ∨ p = 6 ∨ p = 7 ∨ p = 8 ∨ p = 9 ∨ p = 10 ∨ p = 11 ∨ p = 12 ∨ p = 13 ∨ p = 14 ∨ p = 15 ∨ p = 16 ∨ p = 17 ∨ p = 18 ∨ p = 19 ∨ p = 20 ∨ p = 21 ∨ p = 22 ∨ p = 23 ∨ p = 24 ∨ p = 25 ∨ p = 26 ∨ p = 27 ∨ p = 28 ∨ p = 29 ∨ p = 30 ∨ p = 31 ∨ p = 32 ∨ p = 33 ∨ p = 34 ∨ p = 35 ∨ p = 36 ∨ p = 37 ∨ p = 38 ∨ p = 39 ∨ p = 40 := by omega
    rcases this with rfl | rfl | rfl | rfl | rfl | rfl | rfl | rfl | rfl | rfl | rfl | rfl | rfl | rfl | rfl | rfl | rfl | rfl | rfl | rfl | rfl | rfl | rfl | rfl | rfl | rfl | rfl | rfl | rfl | rfl | rfl | rfl | rfl | rfl | rfl | rfl | rfl | rfl | rfl | rfl
    · exact find1 bn on cn ba oa ca h4 h3 w hg
    · exact find2 bn on cn ba oa ca h4 h3 w hg
    · exact find3 bn on cn ba oa ca h4 h3 w hg
    · exact find4 bn on cn ba oa ca h4 h3 w hg
    · exact find5 bn on cn ba oa ca h4 h3 w hg
    · exact find6 bn on cn ba oa ca h4 h3 w hg
    · exact find7 bn on cn ba oa ca h4 h3 w hg
    · exact find8 bn on cn ba oa ca h4 h3 w hg
    · exact find9 bn on cn ba oa ca h4 h3 w hg
    · exact find10 bn on cn ba oa ca h4 h3 w hg
    · exact find11 bn on cn ba oa ca h4 h3 w hg
    · exact find12 bn on cn ba oa ca h4 h3 w hg
    · exact find13 bn on cn ba oa ca h4 h3 w hg
    · exact find14 bn on cn ba oa ca h4 h3 w hg
    · exact find15 bn on cn ba oa ca h4 h3 w hg
    · exact find16 bn on cn ba oa ca h4 h3 w hg
    · exact find17 bn on cn ba oa ca h4 h3 w hg
    · exact find18 bn on cn ba oa ca h4 h3 w hg
    · exact find19 bn on cn ba oa ca h4 h3 w hg
    · exact find20 bn on cn ba oa ca h4 h3 w hg
    · exact find21 bn on cn ba oa ca h4 h3 w hg
    · exact find22 bn on cn ba oa ca h4 h3 w hg
    · exact find23 bn on cn ba oa ca h4 h3 w hg
    · exact find24 bn on cn ba oa ca h4 h3 w hg
    · exact find25 bn on cn ba oa ca h4 h3 w hg
    · exact find26 bn on cn ba oa ca h4 h3 w hg
    · exact find27 bn on cn ba oa ca h4 h3 w hg
    · exact find28 bn on cn ba oa ca h4 h3 w hg
    · exact find29 bn on cn ba oa ca h4 h3 w hg
    · exact find30 bn on cn ba oa ca h4 h3 w hg
    · exact find31 bn on cn ba oa ca h4 h3 w hg
    · exact find32 bn on cn ba oa ca h4 h3 w hg
    · exact find33 bn on cn ba oa ca h4 h3 w hg
    · exact find34 bn on cn ba oa ca h4 h3 w hg
    · exact find35 bn on cn ba oa ca h4 h3 w hg
    · exact find36 bn on cn ba oa ca h4 h3 w hg
    · exact find37 bn on cn ba oa ca h4 h3 w hg
    · exact find38 bn on cn ba oa ca h4 h3 w hg
    · exact find39 bn on cn ba oa ca h4 h3 w hg
    · exact find40 bn on cn ba oa ca h4 h3 w hg
def findE (p : Int) : Int := if known40 p = true then 0 else 2
def spFind : Spc
  | [.v (.int .i64 p)], H, nx => .val2 (globR (H 0) (H 1) (H 2) (H 3)) fun A c D d =>
    (.tup [.agg [.v (.string (nameAt p)), .g nx A (linesAt p).length c, .g (nx + 1) D (errsAt p).length d, .v (oneAt p), .v (twoAt p)], .v (.int .i64 (findE p))], [(nx, .strs A c (linesAt p)), (nx + 1, .ints D d .i64 (errsAt p))])
  | _, _, _ => .bad
theorem spFind_q {p : Int} {H : Nat → Ch} {nx : Nat} : spFind [.v (.int .i64 p)] H nx = .val2 (globR (H 0) (H 1) (H 2) (H 3)) fun A c D d =>
    (.tup [.agg [.v (.string (nameAt p)), .g nx A (linesAt p).length c, .g (nx + 1) D (errsAt p).length d, .v (oneAt p), .v (twoAt p)], .v (.int .i64 (findE p))], [(nx, .strs A c (linesAt p)), (nx + 1, .ints D d .i64 (errsAt p))]) := (rfl)
theorem old_src {w : World} {hp : Hp} {bn on cn ba oa ca b : Nat} (hk : ∀ k, k < 4 → lookH hp k = lookH (gHp bn on cn ba oa ca) k) (h : w.heap.size ≤ b ∨ oldOf (gHp bn on cn ba oa ca) b) : w.heap.size ≤ b ∨ ∃ j, foot (lookH hp j) b ∧ mutb (lookH hp j) = false := by
  refine h.imp id ?_
  rintro ⟨k, hf⟩
  have h4 : k < 4 := by
    apply Classical.byContradiction
    intro hn
    rw [free_list (hp := gHp bn on cn ba oa ca) (n := 4) (by simp [allLt, gHp]) k (by omega)] at hf
    exact hf
  refine ⟨k, by rw [hk k h4]; exact hf, ?_⟩
  rw [hk k h4]
  match k, h4 with
  | 0, _ => rfl
  | 1, _ => rfl
  | 2, _ => rfl
  | 3, _ => rfl
theorem spFind_ok : SpecOk Tryz.prog 61 spFind := by
  intro args hp nx w0 O w H hv
  unfold spFind at hv ⊢
  split at hv
  · next nx x0 x1 x2 p =>
    obtain ⟨bn, on, cn, ba, oa, ca, hr, h4, h3, hk⟩ := globR_ok H hv
    refine (find_any p bn on cn ba oa ca h4 h3 w hr).mono ?_
    rintro e w' ⟨s, xs, rfl, ⟨L, E, rfl, hL, hE⟩, HS⟩
    obtain ⟨A, c, e1, s1, f1⟩ := getS_ok HS hL
    obtain ⟨B, d, e2, s2, f2⟩ := getN_ok HS hE
    refine ⟨⟨0, A, c, B, d, mz⟩, by simp [oneV, Res.out, den, dens, e1, e2, findE], Stp.rd (ups := [(nx, .strs A c (linesAt p)), (nx + 1, .ints B d .i64 (errsAt p))]) HS.below ⟨⟨s1, rfl⟩, ⟨s2, rfl⟩, trivial⟩ fun k b hf => old_src hk ?_⟩
    simp only [lookH] at hf
    cases q : (nx == k)
    · rw [q] at hf
      cases q2 : (nx + 1 == k)
      · rw [q2] at hf; exact hf.elim
      · rw [q2] at hf
        exact HS.old _ b (f2 hf.1 b hf.2)
    · rw [q] at hf
      exact HS.old _ b (f1 hf.1 b hf.2)
  · exact hv.elim
end Pr
end Go.Proofs.YtnpkmimbnjnicaaGreatDoor
/-
prims.arity, Arity, Name (chapter 12).
-/
set_option linter.unusedSimpArgs false
set_option linter.unusedVariables false
namespace Go.Proofs.YtnpkmimbnjnicaaGreatDoor
namespace Pr
open Go Go.RowKit En
theorem arity_any (nm : ByteArray) (ev f g : Value) (A : Option Addr) (c : Nat) (xs : List ByteArray) (hx : 0 < xs.length) (hs : (xs.getD 0 ByteArray.empty).size ≤ 1000) (w : World) (h : Hold w.heap.size w (.strs A c xs)) :
    Calls Tryz.prog 62 #[.agg #[.string nm, .slice A xs.length c, ev, f, g]] w fun e w' => e = .returned (.int .i64 (((xs.getD 0 ByteArray.empty).size : Int).tdiv 2 - 1)) ∧ Below w.heap.size w w' := by
  refine calls_run (args := [.agg [.v (.string nm), .g 1000 A xs.length c, .v ev, .v f, .v g]]) (hp := [(1000, .strs A c xs)]) (nx := 1001) (n := 400) (U := []) (V := []) (T := lookT tiT) (G := gnil) (post := fun s ys => ys = [.v (.int .i64 (((xs.getD 0 ByteArray.empty).size : Int).tdiv 2 - 1))])
    followP tiT_ok gOk_nil Tryz.func62 rfl (by kernel_rfl) (by show 1 ≤ 10; decide) (hh_list ⟨⟨h, rfl⟩, trivial⟩) (free_list (by simp [allLt])) ?_ ?_
  · rintro s ys w' rfl H
    exact ⟨rfl, H.below⟩
  rw [Tryz.results62]
  have hx' : (0 : Int) < (xs.length : Int) := by omega
  simp (maxSteps := 1000000) only [En.E, En.evsC, List.map_cons, List.map_nil, Nat.reduceBEq, Nat.reduceAdd, Nat.reduceMul, Nat.reduceEqDiff, Nat.reduceLeDiff, Nat.reduceLT, ne_eq, reduceCtorEq, Int.reduceBEq, Int.reduceBNe, Int.reduceAdd, Int.reduceSub, Int.reduceMul, Int.reduceTDiv, Int.reduceTMod, Int.reduceNeg, En.bitN, Nat.testBit, Nat.reduceShiftRight, Nat.reduceShiftLeft, Nat.reduceAnd, Nat.reduceOr, Nat.reduceBNe, Int.reduceToNat, Nat.reduceSub, Int.reduceLE, Int.reduceLT, tiT, tiP, hx, hx']
  simp only [En.inr, En.lo, En.hi]
  rw [Int.tdiv_eq_ediv_of_nonneg (by omega)]
  refine ⟨⟨by decide, ?_, ?_⟩, ?_, ?_⟩ <;> omega
def arityS (A : Option Addr) (n c : Nat) : Ch → Res
  | .strs A' c' xs => .is (A = A' ∧ c = c' ∧ n = xs.length ∧ 0 < xs.length ∧ (xs.getD 0 ByteArray.empty).size ≤ 1000) (.v (.int .i64 (((xs.getD 0 ByteArray.empty).size : Int).tdiv 2 - 1)))
  | _ => .bad
def spArity : Spc
  | [.agg [.v (.string _), .g key A n c, _, _, _]], H, _ => arityS A n c (H key)
  | _, _, _ => .bad
theorem spArity_q {nm : ByteArray} {key : Nat} {A : Option Addr} {n c : Nat} {x y z : SV} {H : Nat → Ch} {nx : Nat} : spArity [.agg [.v (.string nm), .g key A n c, x, y, z]] H nx = arityS A n c (H key) := (rfl)
theorem arityS_q {A A' : Option Addr} {n c c' : Nat} {xs : List ByteArray} : arityS A n c (.strs A' c' xs) = .is (A = A' ∧ c = c' ∧ n = xs.length ∧ 0 < xs.length ∧ (xs.getD 0 ByteArray.empty).size ≤ 1000) (.v (.int .i64 (((xs.getD 0 ByteArray.empty).size : Int).tdiv 2 - 1))) := (rfl)
theorem spArity_ok : SpecOk Tryz.prog 62 spArity := by
  intro args hp nx w0 O w H hv
  unfold spArity at hv ⊢
  split at hv
  · next nm key A n c x y z =>
    have hk := H.hold key
    unfold arityS at hv ⊢
    split at hv
    · next A' c' xs e =>
      rw [e] at hk
      obtain ⟨rfl, rfl, rfl, h1, h2⟩ := hv
      refine (arity_any nm (den x) (den y) (den z) A c xs h1 h2 w hk).mono ?_
      rintro f w' ⟨rfl, hb⟩
      exact ⟨⟨0, none, 0, none, 0, mz⟩, by simp [Res.out, den], .still hb⟩
    · exact hv.elim
  · exact hv.elim
theorem lines_ok {p : Int} (h : known40 p = true) : 0 < (linesAt p).length ∧ ((linesAt p).getD 0 ByteArray.empty).size ≤ 1000 := by
  have key : ∀ i : Fin 41, i.val = 0 ∨ (0 < (pLines.getD i.val []).length ∧ ((pLines.getD i.val []).getD 0 ByteArray.empty).size ≤ 1000) := by decide +kernel
  unfold known40 at h
  simp at h
  have := key ⟨p.toNat, by omega⟩
  rcases this with h0 | h0
  · simp only at h0; omega
  · exact h0
end Pr
end Go.Proofs.YtnpkmimbnjnicaaGreatDoor
/-
The number of operands of a primitive; the reference's Arity (chapter 12).
-/
set_option linter.unusedSimpArgs false
set_option linter.unusedVariables false
namespace Go.Proofs.YtnpkmimbnjnicaaGreatDoor
namespace Pr
open Go Go.RowKit En
def gamAr : Gam := gcons 61 spFind (gcons 62 spArity gnil)
theorem gamAr_ok : GOk Tryz.prog gamAr := gOk_cons (by kernel_rfl) spFind_ok <| gOk_cons (by kernel_rfl) spArity_ok gOk_nil
def tiE : List (TypeId × TI) := tiT
def arE (p : Int) : Int := if known40 p = true then arityOf p else 0
theorem findE_yes {p : Int} (h : known40 p = true) : findE p = 0 := if_pos h
theorem findE_no {p : Int} (h : known40 p = false) : findE p = 2 := if_neg (by rw [h]; decide)
theorem getD_all {α : Type} {P : α → Prop} {l : List α} {d : α} (h : ∀ x ∈ l, P x) (hd : P d) (n : Nat) : P (l.getD n d) := by
  rw [List.getD_eq_getElem?_getD]
  cases hn : l[n]? with
  | none => exact hd
  | some x => exact h x (List.mem_of_getElem? hn)
theorem oneAt_one {p : Int} : oneC (.v (oneAt p)) = true := getD_all (P := fun x => isOne x = true) (l := pOne) (by decide) rfl _
theorem twoAt_one {p : Int} : oneC (.v (twoAt p)) = true := getD_all (P := fun x => isOne x = true) (l := pTwo) (by decide) rfl _
theorem known_no {p : Int} (h : known40 p = false) : (bif decide (p < 1) then true else decide (40 < p)) = true := by
  unfold known40 at h
  cases h1 : decide (p < 1) <;> rw [h1] at h
  · simpa using h
  · rfl
theorem known_yes {p : Int} (h : known40 p = true) : decide (p < 1) = false ∧ decide (40 < p) = false ∧ 1 ≤ p ∧ p ≤ 40 := by
  unfold known40 at h
  simp at h
  exact ⟨by simp; omega, by simp; omega, h.1, h.2⟩
theorem arE_val {p : Int} (h : known40 p = true) : arE p = if p ≤ 14 then 1 else 2 := by
  have key : ∀ i : Fin 41, i.val = 0 ∨ ((((pLines.getD i.val []).getD 0 ByteArray.empty).size : Int).tdiv 2 - 1 = if (i.val : Int) ≤ 14 then 1 else 2) := by decide +kernel
  obtain ⟨_, _, h1, h2⟩ := known_yes h
  have := key ⟨p.toNat, by omega⟩
  rcases this with h0 | h0
  · simp only at h0; omega
  · rw [show arE p = arityOf p from if_pos h]
    unfold arityOf linesAt
    rw [h0]
    simp only
    rw [Int.toNat_of_nonneg (by omega)]
theorem rArity_any (p : Int) (w : World) :
    Calls Tryz.prog 85 #[.int .i64 p] w fun e w' => e = .returned (.tuple #[.int .i64 (arE p), .int .i64 (findE p)]) ∧ Below w.heap.size w w' := by
  refine calls_run (args := [.v (.int .i64 p)]) (hp := []) (nx := 1000) (n := 400) (U := [(1000000, 4)]) (V := []) (T := lookT tiT) (G := gnil) (post := fun s ys => ys = [.v (.int .i64 (arE p)), .v (.int .i64 (findE p))])
    followP tiT_ok gOk_nil Tryz.func85 rfl (by kernel_rfl) (by show 1 ≤ 12; decide) (hh_list trivial) (fun _ _ => rfl) ?_ ?_
  · rintro s ys w' rfl H
    exact ⟨rfl, H.below⟩
  rw [Tryz.results85]
  cases hk : known40 p
  · have hf := findE_no hk
    have ha : arE p = 0 := if_neg (by rw [hk]; decide)
    have hc := known_no hk
    simp (maxSteps := 1000000) only [En.E, En.evsC, List.map_cons, List.map_nil, Nat.reduceBEq, Nat.reduceAdd, Nat.reduceMul, Nat.reduceEqDiff, Nat.reduceLeDiff, Nat.reduceLT, ne_eq, reduceCtorEq, Int.reduceBEq, Int.reduceBNe, Int.reduceAdd, Int.reduceSub, Int.reduceMul, Int.reduceTDiv, Int.reduceTMod, Int.reduceNeg, En.bitN, Nat.testBit, Nat.reduceShiftRight, Nat.reduceShiftLeft, Nat.reduceAnd, Nat.reduceOr, Nat.reduceBNe, Int.reduceToNat, Nat.reduceSub, Int.reduceLE, Int.reduceLT, tiT, tiP, hf, ha, hc]
    exact fun h => by rw [h]; rfl
  · have hf := findE_yes hk
    obtain ⟨c1, c2, h1, h2⟩ := known_yes hk
    have hv := arE_val hk
    by_cases h14 : p ≤ 14
    · rw [if_pos h14] at hv
      have c3 : decide (p ≤ 14) = true := by simpa using h14
      simp (maxSteps := 1000000) only [En.E, En.evsC, List.map_cons, List.map_nil, Nat.reduceBEq, Nat.reduceAdd, Nat.reduceMul, Nat.reduceEqDiff, Nat.reduceLeDiff, Nat.reduceLT, ne_eq, reduceCtorEq, Int.reduceBEq, Int.reduceBNe, Int.reduceAdd, Int.reduceSub, Int.reduceMul, Int.reduceTDiv, Int.reduceTMod, Int.reduceNeg, En.bitN, Nat.testBit, Nat.reduceShiftRight, Nat.reduceShiftLeft, Nat.reduceAnd, Nat.reduceOr, Nat.reduceBNe, Int.reduceToNat, Nat.reduceSub, Int.reduceLE, Int.reduceLT, tiT, tiP, hf, c1, c2, c3, hv]
    · rw [if_neg h14] at hv
      have c3 : decide (p ≤ 14) = false := by simpa using h14
      simp (maxSteps := 1000000) only [En.E, En.evsC, List.map_cons, List.map_nil, Nat.reduceBEq, Nat.reduceAdd, Nat.reduceMul, Nat.reduceEqDiff, Nat.reduceLeDiff, Nat.reduceLT, ne_eq, reduceCtorEq, Int.reduceBEq, Int.reduceBNe, Int.reduceAdd, Int.reduceSub, Int.reduceMul, Int.reduceTDiv, Int.reduceTMod, Int.reduceNeg, En.bitN, Nat.testBit, Nat.reduceShiftRight, Nat.reduceShiftLeft, Nat.reduceAnd, Nat.reduceOr, Nat.reduceBNe, Int.reduceToNat, Nat.reduceSub, Int.reduceLE, Int.reduceLT, tiT, tiP, hf, c1, c2, c3, hv]
def spRAr : Spc
  | [.v (.int .i64 p)], _, _ => .is True (.tup [.v (.int .i64 (arE p)), .v (.int .i64 (findE p))])
  | _, _, _ => .bad
theorem spRAr_q {p : Int} {H : Nat → Ch} {nx : Nat} : spRAr [.v (.int .i64 p)] H nx = .is True (.tup [.v (.int .i64 (arE p)), .v (.int .i64 (findE p))]) := (rfl)
theorem spRAr_ok : SpecOk Tryz.prog 85 spRAr := by
  intro args hp nx w0 O w H hv
  unfold spRAr at hv ⊢
  split at hv
  · next p =>
    refine (rArity_any p w).mono ?_
    rintro e w' ⟨rfl, hb⟩
    exact ⟨⟨0, none, 0, none, 0, mz⟩, rfl, .still hb⟩
  · exact hv.elim
end Pr
end Go.Proofs.YtnpkmimbnjnicaaGreatDoor
