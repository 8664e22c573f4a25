/-
  What the hints say of each function (written by a program).
-/
import Derived.Test.YtcclbkkgpcpikaaFa
import Derived.Test.YtcclbkkgpcpikaaTy
import Derived.Test.YtcclbkkgpcpikaaAmC
set_option linter.unusedSimpArgs false
set_option linter.unusedVariables false
namespace Go.Proofs.Ytcclbkkgpcpikaa
open Go.Am
theorem ok7 : hints.ok 7 = true := by kernel_rfl
theorem light7 (r : Nat) : hints.light 7 r = [] := by kernel_rfl
theorem keep7_12 : hints.keep 7 12 = some ([1, 2, 7, 8, 10, 63, 64, 65], true) := by kernel_rfl
theorem keep7_16 : hints.keep 7 16 = some ([1, 2, 7, 8, 10, 11, 12, 13, 63, 64, 65, 71, 72, 73], true) := by kernel_rfl
theorem keep7_28 : hints.keep 7 28 = some ([1, 7, 8, 16, 107, 108, 109], true) := by kernel_rfl
theorem keepB7_0 : hints.keepB 7 0 = some ([1, 2, 7, 8], true) := by kernel_rfl
theorem keepB7_1 : hints.keepB 7 1 = some ([1, 2, 7, 8, 10, 63, 64, 65], true) := by kernel_rfl
theorem keepB7_2 : hints.keepB 7 2 = some ([1, 2, 7, 8, 10, 12, 13, 63, 64, 65], true) := by kernel_rfl
theorem keepB7_3 : hints.keepB 7 3 = some ([1, 2, 7, 8, 10, 11, 12, 13, 63, 64, 65, 71, 72, 73], true) := by kernel_rfl
theorem keepB7_4 : hints.keepB 7 4 = some ([7, 8, 16], true) := by kernel_rfl
theorem keepB7_5 : hints.keepB 7 5 = some ([1, 7, 8, 16, 107, 108, 109], true) := by kernel_rfl
theorem ok10 : hints.ok 10 = true := by kernel_rfl
theorem opn10 : hints.opn 10 = false := by kernel_rfl
theorem imp10 : hints.imp 10 = false := by kernel_rfl
theorem mem10 : hints.mem 10 = true := by kernel_rfl
theorem prim10 : hints.prim 10 = none := by kernel_rfl
theorem light10 (r : Nat) : hints.light 10 r = [] := by kernel_rfl
theorem ok13 : hints.ok 13 = true := by kernel_rfl
theorem opn13 : hints.opn 13 = false := by kernel_rfl
theorem imp13 : hints.imp 13 = false := by kernel_rfl
theorem mem13 : hints.mem 13 = false := by kernel_rfl
theorem prim13 : hints.prim 13 = none := by kernel_rfl
theorem light13 (r : Nat) : hints.light 13 r = [] := by kernel_rfl
theorem keep13_4 : hints.keep 13 4 = some ([0, 18, 19, 20], true) := by kernel_rfl
theorem keepB13_0 : hints.keepB 13 0 = some ([], true) := by kernel_rfl
theorem keepB13_1 : hints.keepB 13 1 = some ([0, 18, 19, 20], true) := by kernel_rfl
theorem ok14 : hints.ok 14 = true := by kernel_rfl
theorem opn14 : hints.opn 14 = false := by kernel_rfl
theorem imp14 : hints.imp 14 = false := by kernel_rfl
theorem mem14 : hints.mem 14 = true := by kernel_rfl
theorem prim14 : hints.prim 14 = none := by kernel_rfl
theorem light14_0 : hints.light 14 0 = [] := by kernel_rfl
theorem light14_1 : hints.light 14 1 = [] := by kernel_rfl
theorem light14_2 : hints.light 14 2 = [] := by kernel_rfl
theorem light14_3 : hints.light 14 3 = [] := by kernel_rfl
theorem light14_4 : hints.light 14 4 = [] := by kernel_rfl
theorem light14_5 : hints.light 14 5 = [] := by kernel_rfl
theorem light14_6 : hints.light 14 6 = [] := by kernel_rfl
theorem light14_7 : hints.light 14 7 = [] := by kernel_rfl
theorem light14_8 : hints.light 14 8 = [] := by kernel_rfl
theorem light14_9 : hints.light 14 9 = [] := by kernel_rfl
theorem light14_10 : hints.light 14 10 = [] := by kernel_rfl
theorem light14_11 : hints.light 14 11 = [] := by kernel_rfl
theorem light14_12 : hints.light 14 12 = [12, 13] := by kernel_rfl
theorem light14_13 : hints.light 14 13 = [] := by kernel_rfl
theorem light14_14 : hints.light 14 14 = [] := by kernel_rfl
theorem light14_15 : hints.light 14 15 = [] := by kernel_rfl
theorem light14_16 : hints.light 14 16 = [] := by kernel_rfl
theorem light14_17 : hints.light 14 17 = [] := by kernel_rfl
theorem light14_18 : hints.light 14 18 = [] := by kernel_rfl
theorem light14_19 : hints.light 14 19 = [] := by kernel_rfl
theorem light14_20 : hints.light 14 20 = [] := by kernel_rfl
theorem light14_21 : hints.light 14 21 = [] := by kernel_rfl
theorem light14_22 : hints.light 14 22 = [] := by kernel_rfl
theorem light14_23 : hints.light 14 23 = [] := by kernel_rfl
theorem light14_24 : hints.light 14 24 = [] := by kernel_rfl
theorem light14_25 : hints.light 14 25 = [] := by kernel_rfl
theorem light14_26 : hints.light 14 26 = [] := by kernel_rfl
theorem light14_27 : hints.light 14 27 = [] := by kernel_rfl
theorem keep14_3 : hints.keep 14 3 = some ([0, 1, 2, 7, 17, 18], true) := by kernel_rfl
theorem keep14_9 : hints.keep 14 9 = some ([0, 2, 7, 33, 34, 35], true) := by kernel_rfl
theorem keep14_15 : hints.keep 14 15 = some ([0, 7, 60, 61], true) := by kernel_rfl
theorem keep14_18 : hints.keep 14 18 = some ([0, 7, 11, 60, 61, 64, 65], true) := by kernel_rfl
theorem keep14_21 : hints.keep 14 21 = some ([0, 7, 11, 12, 60, 61, 64, 65, 68, 69], true) := by kernel_rfl
theorem keepB14_0 : hints.keepB 14 0 = some ([0, 1, 2, 7], true) := by kernel_rfl
theorem keepB14_1 : hints.keepB 14 1 = some ([0, 1, 2, 7, 17, 18], true) := by kernel_rfl
theorem keepB14_2 : hints.keepB 14 2 = some ([0, 7], true) := by kernel_rfl
theorem keepB14_3 : hints.keepB 14 3 = some ([0, 2, 7, 33, 34, 35], true) := by kernel_rfl
theorem keepB14_4 : hints.keepB 14 4 = some ([7], true) := by kernel_rfl
theorem keepB14_5 : hints.keepB 14 5 = some ([0, 7, 60, 61], true) := by kernel_rfl
theorem keepB14_6 : hints.keepB 14 6 = some ([0, 7, 60, 61], true) := by kernel_rfl
theorem keepB14_7 : hints.keepB 14 7 = some ([0, 7, 11, 60, 61, 64, 65], true) := by kernel_rfl
theorem keepB14_8 : hints.keepB 14 8 = some ([0, 7, 11, 60, 61, 64, 65], true) := by kernel_rfl
theorem keepB14_9 : hints.keepB 14 9 = some ([0, 7, 11, 12, 60, 61, 64, 65, 68, 69], true) := by kernel_rfl
theorem ok17 : hints.ok 17 = true := by kernel_rfl
theorem opn17 : hints.opn 17 = false := by kernel_rfl
theorem imp17 : hints.imp 17 = false := by kernel_rfl
theorem mem17 : hints.mem 17 = true := by kernel_rfl
theorem prim17 : hints.prim 17 = none := by kernel_rfl
theorem light17 (r : Nat) : hints.light 17 r = [] := by kernel_rfl
theorem keep17_4 : hints.keep 17 4 = some ([0, 3, 4, 9, 10], true) := by kernel_rfl
theorem keep17_8 : hints.keep 17 8 = some ([0, 3, 4, 5, 6, 9, 10, 13, 14], true) := by kernel_rfl
theorem keepB17_0 : hints.keepB 17 0 = some ([3], true) := by kernel_rfl
theorem keepB17_1 : hints.keepB 17 1 = some ([0, 3, 4, 9, 10], true) := by kernel_rfl
theorem keepB17_2 : hints.keepB 17 2 = some ([0, 3, 4, 6, 9, 10], true) := by kernel_rfl
theorem keepB17_3 : hints.keepB 17 3 = some ([0, 3, 4, 5, 6, 9, 10, 13, 14], true) := by kernel_rfl
theorem ok22 : hints.ok 22 = true := by kernel_rfl
theorem opn22 : hints.opn 22 = false := by kernel_rfl
theorem imp22 : hints.imp 22 = false := by kernel_rfl
theorem mem22 : hints.mem 22 = false := by kernel_rfl
theorem prim22 : hints.prim 22 = none := by kernel_rfl
theorem light22 (r : Nat) : hints.light 22 r = [] := by kernel_rfl
theorem keep22_5 : hints.keep 22 5 = some ([1, 3, 53, 54, 55], true) := by kernel_rfl
theorem keep22_12 : hints.keep 22 12 = some ([1, 3, 67, 68, 69], true) := by kernel_rfl
theorem keep22_19 : hints.keep 22 19 = some ([1, 3, 87, 88, 89], true) := by kernel_rfl
theorem keepB22_0 : hints.keepB 22 0 = some ([1, 3], true) := by kernel_rfl
theorem keepB22_1 : hints.keepB 22 1 = some ([1, 3, 53, 54, 55], true) := by kernel_rfl
theorem keepB22_2 : hints.keepB 22 2 = some ([1, 3], true) := by kernel_rfl
theorem keepB22_3 : hints.keepB 22 3 = some ([1, 3, 67, 68, 69], true) := by kernel_rfl
theorem keepB22_4 : hints.keepB 22 4 = some ([1, 3], true) := by kernel_rfl
theorem keepB22_5 : hints.keepB 22 5 = some ([1, 3, 87, 88, 89], true) := by kernel_rfl
theorem ok23 : hints.ok 23 = true := by kernel_rfl
theorem opn23 : hints.opn 23 = false := by kernel_rfl
theorem imp23 : hints.imp 23 = false := by kernel_rfl
theorem mem23 : hints.mem 23 = false := by kernel_rfl
theorem prim23 : hints.prim 23 = none := by kernel_rfl
theorem light23 (r : Nat) : hints.light 23 r = [] := by kernel_rfl
theorem keep23_6 : hints.keep 23 6 = some ([1, 4, 49, 50, 51], true) := by kernel_rfl
theorem keep23_13 : hints.keep 23 13 = some ([1, 4, 63, 64, 65], true) := by kernel_rfl
theorem keep23_19 : hints.keep 23 19 = some ([1, 4, 9, 63, 64, 65, 77, 78, 79], true) := by kernel_rfl
theorem keepB23_0 : hints.keepB 23 0 = some ([1, 4], true) := by kernel_rfl
theorem keepB23_1 : hints.keepB 23 1 = some ([1, 4, 49, 50, 51], true) := by kernel_rfl
theorem keepB23_2 : hints.keepB 23 2 = some ([], true) := by kernel_rfl
theorem keepB23_3 : hints.keepB 23 3 = some ([1, 4, 63, 64, 65], true) := by kernel_rfl
theorem keepB23_4 : hints.keepB 23 4 = some ([1, 4, 9, 63, 64, 65], true) := by kernel_rfl
theorem keepB23_5 : hints.keepB 23 5 = some ([1, 4, 9, 63, 64, 65, 77, 78, 79], true) := by kernel_rfl
theorem ok24 : hints.ok 24 = true := by kernel_rfl
theorem opn24 : hints.opn 24 = false := by kernel_rfl
theorem imp24 : hints.imp 24 = false := by kernel_rfl
theorem mem24 : hints.mem 24 = false := by kernel_rfl
theorem prim24 : hints.prim 24 = none := by kernel_rfl
theorem light24 (r : Nat) : hints.light 24 r = [] := by kernel_rfl
theorem keep24_2 : hints.keep 24 2 = some ([0, 6, 7, 8], true) := by kernel_rfl
theorem keepB24_0 : hints.keepB 24 0 = some ([0], true) := by kernel_rfl
theorem keepB24_1 : hints.keepB 24 1 = some ([0, 6, 7, 8], true) := by kernel_rfl
theorem ok25 : hints.ok 25 = true := by kernel_rfl
theorem opn25 : hints.opn 25 = false := by kernel_rfl
theorem imp25 : hints.imp 25 = false := by kernel_rfl
theorem mem25 : hints.mem 25 = false := by kernel_rfl
theorem prim25 : hints.prim 25 = none := by kernel_rfl
theorem light25 (r : Nat) : hints.light 25 r = [] := by kernel_rfl
theorem keep25_4 : hints.keep 25 4 = some ([0, 24, 25], true) := by kernel_rfl
theorem keepB25_0 : hints.keepB 25 0 = some ([], true) := by kernel_rfl
theorem keepB25_1 : hints.keepB 25 1 = some ([0, 24, 25], true) := by kernel_rfl
theorem ok26 : hints.ok 26 = true := by kernel_rfl
theorem opn26 : hints.opn 26 = false := by kernel_rfl
theorem imp26 : hints.imp 26 = false := by kernel_rfl
theorem mem26 : hints.mem 26 = false := by kernel_rfl
theorem prim26 : hints.prim 26 = none := by kernel_rfl
theorem light26 (r : Nat) : hints.light 26 r = [] := by kernel_rfl
theorem ok27 : hints.ok 27 = true := by kernel_rfl
theorem opn27 : hints.opn 27 = false := by kernel_rfl
theorem imp27 : hints.imp 27 = false := by kernel_rfl
theorem mem27 : hints.mem 27 = false := by kernel_rfl
theorem prim27 : hints.prim 27 = none := by kernel_rfl
theorem light27 (r : Nat) : hints.light 27 r = [] := by kernel_rfl
theorem ok32 : hints.ok 32 = true := by kernel_rfl
theorem opn32 : hints.opn 32 = false := by kernel_rfl
theorem imp32 : hints.imp 32 = false := by kernel_rfl
theorem mem32 : hints.mem 32 = false := by kernel_rfl
theorem prim32 : hints.prim 32 = none := by kernel_rfl
theorem light32 (r : Nat) : hints.light 32 r = [] := by kernel_rfl
theorem keep32_3 : hints.keep 32 3 = some ([3, 6, 7, 8], true) := by kernel_rfl
theorem keepB32_0 : hints.keepB 32 0 = some ([3], true) := by kernel_rfl
theorem keepB32_1 : hints.keepB 32 1 = some ([3, 6, 7, 8], true) := by kernel_rfl
theorem opn37 : hints.opn 37 = false := by kernel_rfl
theorem imp37 : hints.imp 37 = false := by kernel_rfl
theorem mem37 : hints.mem 37 = false := by kernel_rfl
theorem prim37 : hints.prim 37 = some Am.factOf := by kernel_rfl
theorem ok38 : hints.ok 38 = true := by kernel_rfl
theorem opn38 : hints.opn 38 = false := by kernel_rfl
theorem imp38 : hints.imp 38 = false := by kernel_rfl
theorem mem38 : hints.mem 38 = true := by kernel_rfl
theorem prim38 : hints.prim 38 = none := by kernel_rfl
theorem light38_0 : hints.light 38 0 = [] := by kernel_rfl
theorem light38_1 : hints.light 38 1 = [] := by kernel_rfl
theorem light38_2 : hints.light 38 2 = [] := by kernel_rfl
theorem light38_3 : hints.light 38 3 = [] := by kernel_rfl
theorem light38_4 : hints.light 38 4 = [] := by kernel_rfl
theorem light38_5 : hints.light 38 5 = [] := by kernel_rfl
theorem light38_6 : hints.light 38 6 = [] := by kernel_rfl
theorem light38_7 : hints.light 38 7 = [] := by kernel_rfl
theorem light38_8 : hints.light 38 8 = [] := by kernel_rfl
theorem light38_9 : hints.light 38 9 = [] := by kernel_rfl
theorem light38_10 : hints.light 38 10 = [0, 1] := by kernel_rfl
theorem light38_11 : hints.light 38 11 = [] := by kernel_rfl
theorem light38_12 : hints.light 38 12 = [] := by kernel_rfl
theorem keep38_6 : hints.keep 38 6 = some ([1, 5, 14, 15, 16], true) := by kernel_rfl
theorem keepB38_0 : hints.keepB 38 0 = some ([5], true) := by kernel_rfl
theorem keepB38_1 : hints.keepB 38 1 = some ([1, 5, 14, 15, 16], true) := by kernel_rfl
theorem ok39 : hints.ok 39 = true := by kernel_rfl
theorem opn39 : hints.opn 39 = false := by kernel_rfl
theorem imp39 : hints.imp 39 = false := by kernel_rfl
theorem mem39 : hints.mem 39 = true := by kernel_rfl
theorem prim39 : hints.prim 39 = none := by kernel_rfl
theorem light39 (r : Nat) : hints.light 39 r = [] := by kernel_rfl
theorem keep39_6 : hints.keep 39 6 = some ([1, 7, 18, 19, 20], true) := by kernel_rfl
theorem keepB39_0 : hints.keepB 39 0 = some ([7], true) := by kernel_rfl
theorem keepB39_1 : hints.keepB 39 1 = some ([1, 7, 18, 19, 20], true) := by kernel_rfl
theorem ok40 : hints.ok 40 = true := by kernel_rfl
theorem opn40 : hints.opn 40 = false := by kernel_rfl
theorem imp40 : hints.imp 40 = false := by kernel_rfl
theorem mem40 : hints.mem 40 = true := by kernel_rfl
theorem prim40 : hints.prim 40 = none := by kernel_rfl
theorem light40 (r : Nat) : hints.light 40 r = [] := by kernel_rfl
theorem ok41 : hints.ok 41 = true := by kernel_rfl
theorem opn41 : hints.opn 41 = false := by kernel_rfl
theorem imp41 : hints.imp 41 = false := by kernel_rfl
theorem mem41 : hints.mem 41 = false := by kernel_rfl
theorem prim41 : hints.prim 41 = none := by kernel_rfl
theorem light41 (r : Nat) : hints.light 41 r = [] := by kernel_rfl
theorem keep41_4 : hints.keep 41 4 = some ([0, 1, 12, 13], true) := by kernel_rfl
theorem keepB41_0 : hints.keepB 41 0 = some ([], true) := by kernel_rfl
theorem keepB41_1 : hints.keepB 41 1 = some ([0, 1, 12, 13], true) := by kernel_rfl
theorem ok42 : hints.ok 42 = true := by kernel_rfl
theorem opn42 : hints.opn 42 = false := by kernel_rfl
theorem imp42 : hints.imp 42 = false := by kernel_rfl
theorem mem42 : hints.mem 42 = false := by kernel_rfl
theorem prim42 : hints.prim 42 = none := by kernel_rfl
theorem light42 (r : Nat) : hints.light 42 r = [] := by kernel_rfl
theorem ok46 : hints.ok 46 = true := by kernel_rfl
theorem opn46 : hints.opn 46 = false := by kernel_rfl
theorem imp46 : hints.imp 46 = false := by kernel_rfl
theorem mem46 : hints.mem 46 = false := by kernel_rfl
theorem prim46 : hints.prim 46 = none := by kernel_rfl
theorem light46 (r : Nat) : hints.light 46 r = [] := by kernel_rfl
theorem keep46_2 : hints.keep 46 2 = some ([1, 7, 8, 9], true) := by kernel_rfl
theorem keepB46_0 : hints.keepB 46 0 = some ([], true) := by kernel_rfl
theorem keepB46_1 : hints.keepB 46 1 = some ([1, 7, 8, 9], true) := by kernel_rfl
theorem ok47 : hints.ok 47 = true := by kernel_rfl
theorem opn47 : hints.opn 47 = false := by kernel_rfl
theorem imp47 : hints.imp 47 = true := by kernel_rfl
theorem mem47 : hints.mem 47 = true := by kernel_rfl
theorem prim47 : hints.prim 47 = none := by kernel_rfl
theorem light47 (r : Nat) : hints.light 47 r = [] := by kernel_rfl
theorem keep47_3 : hints.keep 47 3 = some ([1, 3, 7, 8, 9], true) := by kernel_rfl
theorem keepB47_0 : hints.keepB 47 0 = some ([3], true) := by kernel_rfl
theorem keepB47_1 : hints.keepB 47 1 = some ([1, 3, 7, 8, 9], true) := by kernel_rfl
theorem ok48 : hints.ok 48 = true := by kernel_rfl
theorem opn48 : hints.opn 48 = false := by kernel_rfl
theorem imp48 : hints.imp 48 = false := by kernel_rfl
theorem mem48 : hints.mem 48 = true := by kernel_rfl
theorem prim48 : hints.prim 48 = none := by kernel_rfl
theorem light48 (r : Nat) : hints.light 48 r = [] := by kernel_rfl
theorem ok55 : hints.ok 55 = true := by kernel_rfl
theorem opn55 : hints.opn 55 = false := by kernel_rfl
theorem imp55 : hints.imp 55 = false := by kernel_rfl
theorem mem55 : hints.mem 55 = true := by kernel_rfl
theorem prim55 : hints.prim 55 = none := by kernel_rfl
theorem light55 (r : Nat) : hints.light 55 r = [] := by kernel_rfl
theorem keep55_4 : hints.keep 55 4 = some ([1, 2, 7, 8, 18, 19], true) := by kernel_rfl
theorem keep55_9 : hints.keep 55 9 = some ([1, 2, 7, 8, 10, 18, 19], true) := by kernel_rfl
theorem keep55_13 : hints.keep 55 13 = some ([1, 2, 7, 8, 10, 11, 18, 19, 41, 42, 43], true) := by kernel_rfl
theorem keepB55_0 : hints.keepB 55 0 = some ([7], true) := by kernel_rfl
theorem keepB55_1 : hints.keepB 55 1 = some ([1, 2, 7, 8, 18, 19], true) := by kernel_rfl
theorem keepB55_2 : hints.keepB 55 2 = some ([1, 2, 7, 8, 18, 19], true) := by kernel_rfl
theorem keepB55_3 : hints.keepB 55 3 = some ([1, 2, 7, 8, 10, 18, 19], true) := by kernel_rfl
theorem keepB55_4 : hints.keepB 55 4 = some ([1, 2, 7, 8, 10, 18, 19], true) := by kernel_rfl
theorem keepB55_5 : hints.keepB 55 5 = some ([1, 2, 7, 8, 10, 11, 18, 19, 41, 42, 43], true) := by kernel_rfl
theorem ok65 : hints.ok 65 = true := by kernel_rfl
theorem opn65 : hints.opn 65 = true := by kernel_rfl
theorem imp65 : hints.imp 65 = false := by kernel_rfl
theorem mem65 : hints.mem 65 = false := by kernel_rfl
theorem prim65 : hints.prim 65 = none := by kernel_rfl
theorem light65 (r : Nat) : hints.light 65 r = [] := by kernel_rfl
theorem keep65_7 : hints.keep 65 7 = some ([2, 3, 21, 22, 23], false) := by kernel_rfl
theorem keepB65_0 : hints.keepB 65 0 = some ([1, 2, 3], false) := by kernel_rfl
theorem keepB65_1 : hints.keepB 65 1 = some ([2], false) := by kernel_rfl
theorem keepB65_2 : hints.keepB 65 2 = some ([2, 3, 21, 22, 23], false) := by kernel_rfl
theorem ok66 : hints.ok 66 = true := by kernel_rfl
theorem opn66 : hints.opn 66 = true := by kernel_rfl
theorem imp66 : hints.imp 66 = false := by kernel_rfl
theorem mem66 : hints.mem 66 = false := by kernel_rfl
theorem prim66 : hints.prim 66 = none := by kernel_rfl
theorem light66 (r : Nat) : hints.light 66 r = [] := by kernel_rfl
theorem keep66_2 : hints.keep 66 2 = some ([2, 3, 15, 16, 17], false) := by kernel_rfl
theorem keep66_11 : hints.keep 66 11 = some ([2, 3, 50, 51, 52], false) := by kernel_rfl
theorem keep66_20 : hints.keep 66 20 = some ([2, 72, 73, 74], false) := by kernel_rfl
theorem keepB66_0 : hints.keepB 66 0 = some ([2, 3], false) := by kernel_rfl
theorem keepB66_1 : hints.keepB 66 1 = some ([2, 3, 15, 16, 17], false) := by kernel_rfl
theorem keepB66_2 : hints.keepB 66 2 = some ([2, 3], false) := by kernel_rfl
theorem keepB66_3 : hints.keepB 66 3 = some ([2, 3, 50, 51, 52], false) := by kernel_rfl
theorem keepB66_4 : hints.keepB 66 4 = some ([], false) := by kernel_rfl
theorem keepB66_5 : hints.keepB 66 5 = some ([2, 72, 73, 74], false) := by kernel_rfl
theorem ok67 : hints.ok 67 = true := by kernel_rfl
theorem opn67 : hints.opn 67 = true := by kernel_rfl
theorem imp67 : hints.imp 67 = false := by kernel_rfl
theorem mem67 : hints.mem 67 = false := by kernel_rfl
theorem prim67 : hints.prim 67 = none := by kernel_rfl
theorem light67 (r : Nat) : hints.light 67 r = [] := by kernel_rfl
theorem ok68 : hints.ok 68 = true := by kernel_rfl
theorem opn68 : hints.opn 68 = false := by kernel_rfl
theorem imp68 : hints.imp 68 = false := by kernel_rfl
theorem mem68 : hints.mem 68 = true := by kernel_rfl
theorem prim68 : hints.prim 68 = none := by kernel_rfl
theorem light68 (r : Nat) : hints.light 68 r = [] := by kernel_rfl
theorem keep68_3 : hints.keep 68 3 = some ([1, 3, 15, 16, 17], true) := by kernel_rfl
theorem keep68_8 : hints.keep 68 8 = some ([1, 3, 34, 35, 36], true) := by kernel_rfl
theorem keep68_13 : hints.keep 68 13 = some ([1, 3, 56, 57, 58], true) := by kernel_rfl
theorem keep68_18 : hints.keep 68 18 = some ([1, 3, 91, 92, 93], true) := by kernel_rfl
theorem keep68_23 : hints.keep 68 23 = some ([3, 112, 113, 114], true) := by kernel_rfl
theorem keepB68_0 : hints.keepB 68 0 = some ([1, 3], true) := by kernel_rfl
theorem keepB68_1 : hints.keepB 68 1 = some ([1, 3, 15, 16, 17], true) := by kernel_rfl
theorem keepB68_2 : hints.keepB 68 2 = some ([1, 3], true) := by kernel_rfl
theorem keepB68_3 : hints.keepB 68 3 = some ([1, 3, 34, 35, 36], true) := by kernel_rfl
theorem keepB68_4 : hints.keepB 68 4 = some ([1, 3], true) := by kernel_rfl
theorem keepB68_5 : hints.keepB 68 5 = some ([1, 3, 56, 57, 58], true) := by kernel_rfl
theorem keepB68_6 : hints.keepB 68 6 = some ([1, 3], true) := by kernel_rfl
theorem keepB68_7 : hints.keepB 68 7 = some ([1, 3, 91, 92, 93], true) := by kernel_rfl
theorem keepB68_8 : hints.keepB 68 8 = some ([3], true) := by kernel_rfl
theorem keepB68_9 : hints.keepB 68 9 = some ([3, 112, 113, 114], true) := by kernel_rfl
theorem ok69 : hints.ok 69 = true := by kernel_rfl
theorem opn69 : hints.opn 69 = false := by kernel_rfl
theorem imp69 : hints.imp 69 = false := by kernel_rfl
theorem mem69 : hints.mem 69 = false := by kernel_rfl
theorem prim69 : hints.prim 69 = none := by kernel_rfl
theorem light69 (r : Nat) : hints.light 69 r = [] := by kernel_rfl
theorem ok70 : hints.ok 70 = true := by kernel_rfl
theorem opn70 : hints.opn 70 = false := by kernel_rfl
theorem imp70 : hints.imp 70 = false := by kernel_rfl
theorem mem70 : hints.mem 70 = false := by kernel_rfl
theorem prim70 : hints.prim 70 = none := by kernel_rfl
theorem light70 (r : Nat) : hints.light 70 r = [] := by kernel_rfl
theorem ok78 : hints.ok 78 = true := by kernel_rfl
theorem opn78 : hints.opn 78 = false := by kernel_rfl
theorem imp78 : hints.imp 78 = false := by kernel_rfl
theorem mem78 : hints.mem 78 = false := by kernel_rfl
theorem prim78 : hints.prim 78 = none := by kernel_rfl
theorem light78 (r : Nat) : hints.light 78 r = [] := by kernel_rfl
theorem keep78_2 : hints.keep 78 2 = some ([0, 1, 7, 8], true) := by kernel_rfl
theorem keepB78_0 : hints.keepB 78 0 = some ([], true) := by kernel_rfl
theorem keepB78_1 : hints.keepB 78 1 = some ([0, 1, 7, 8], true) := by kernel_rfl
theorem ok82 : hints.ok 82 = true := by kernel_rfl
theorem opn82 : hints.opn 82 = false := by kernel_rfl
theorem imp82 : hints.imp 82 = false := by kernel_rfl
theorem mem82 : hints.mem 82 = false := by kernel_rfl
theorem prim82 : hints.prim 82 = none := by kernel_rfl
theorem light82 (r : Nat) : hints.light 82 r = [] := by kernel_rfl
theorem keep82_5 : hints.keep 82 5 = some ([2, 13, 14, 15], true) := by kernel_rfl
theorem keepB82_0 : hints.keepB 82 0 = some ([], true) := by kernel_rfl
theorem keepB82_1 : hints.keepB 82 1 = some ([2, 13, 14, 15], true) := by kernel_rfl
theorem ok83 : hints.ok 83 = true := by kernel_rfl
theorem opn83 : hints.opn 83 = false := by kernel_rfl
theorem imp83 : hints.imp 83 = false := by kernel_rfl
theorem mem83 : hints.mem 83 = true := by kernel_rfl
theorem prim83 : hints.prim 83 = none := by kernel_rfl
theorem light83 (r : Nat) : hints.light 83 r = [] := by kernel_rfl
theorem ok84 : hints.ok 84 = true := by kernel_rfl
theorem opn84 : hints.opn 84 = false := by kernel_rfl
theorem imp84 : hints.imp 84 = true := by kernel_rfl
theorem mem84 : hints.mem 84 = true := by kernel_rfl
theorem prim84 : hints.prim 84 = none := by kernel_rfl
theorem light84 (r : Nat) : hints.light 84 r = [] := by kernel_rfl
theorem keep84_4 : hints.keep 84 4 = some ([1, 2, 6, 7, 11, 12, 13], true) := by kernel_rfl
theorem keepB84_0 : hints.keepB 84 0 = some ([6, 7], true) := by kernel_rfl
theorem keepB84_1 : hints.keepB 84 1 = some ([1, 2, 6, 7, 11, 12, 13], true) := by kernel_rfl
theorem ok86 : hints.ok 86 = true := by kernel_rfl
theorem opn86 : hints.opn 86 = false := by kernel_rfl
theorem imp86 : hints.imp 86 = false := by kernel_rfl
theorem mem86 : hints.mem 86 = false := by kernel_rfl
theorem prim86 : hints.prim 86 = none := by kernel_rfl
theorem light86 (r : Nat) : hints.light 86 r = [] := by kernel_rfl
theorem opn91 : hints.opn 91 = false := by kernel_rfl
theorem imp91 : hints.imp 91 = true := by kernel_rfl
theorem mem91 : hints.mem 91 = true := by kernel_rfl
theorem prim91 : hints.prim 91 = none := by kernel_rfl
theorem ok104 : hints.ok 104 = true := by kernel_rfl
theorem opn104 : hints.opn 104 = false := by kernel_rfl
theorem imp104 : hints.imp 104 = false := by kernel_rfl
theorem mem104 : hints.mem 104 = false := by kernel_rfl
theorem prim104 : hints.prim 104 = none := by kernel_rfl
theorem light104 (r : Nat) : hints.light 104 r = [] := by kernel_rfl
theorem ok105 : hints.ok 105 = true := by kernel_rfl
theorem opn105 : hints.opn 105 = false := by kernel_rfl
theorem imp105 : hints.imp 105 = false := by kernel_rfl
theorem mem105 : hints.mem 105 = false := by kernel_rfl
theorem prim105 : hints.prim 105 = none := by kernel_rfl
theorem light105 (r : Nat) : hints.light 105 r = [] := by kernel_rfl
theorem cvStr9_116 : cvStr Try.prog 9 116 = 2 := by kernel_rfl
theorem frzT22_22 : frzT hints #[22, 22] = false := by kernel_rfl
theorem frzT24_24 : frzT hints #[24, 24] = false := by kernel_rfl
theorem frzT41_41 : frzT hints #[41, 41] = false := by kernel_rfl
theorem frzT72_72 : frzT hints #[72, 72] = false := by kernel_rfl
theorem frzT112_112 : frzT hints #[112, 112] = true := by kernel_rfl
theorem notInt22 : notIntT Try.prog (some 22) = true := by kernel_rfl
theorem notInt24 : notIntT Try.prog (some 24) = true := by kernel_rfl
theorem notInt41 : notIntT Try.prog (some 41) = true := by kernel_rfl
theorem notInt72 : notIntT Try.prog (some 72) = true := by kernel_rfl
theorem notInt112 : notIntT Try.prog (some 112) = true := by kernel_rfl
theorem structOk109 : structOk Try.prog 109 = true := by kernel_rfl
theorem placeS109_0 : placeS Try.prog 109 0 = some (0, 1) := by kernel_rfl
theorem placeS109_1 : placeS Try.prog 109 1 = some (1, 1) := by kernel_rfl
theorem structOk115 : structOk Try.prog 115 = true := by kernel_rfl
theorem placeS115_0 : placeS Try.prog 115 0 = some (0, 1) := by kernel_rfl
theorem placeS115_1 : placeS Try.prog 115 1 = some (1, 1) := by kernel_rfl
theorem placeS115_2 : placeS Try.prog 115 2 = some (2, 1) := by kernel_rfl
theorem placeS115_3 : placeS Try.prog 115 3 = some (3, 1) := by kernel_rfl
theorem tyf3 : type_of% (And.intro (And.intro @tsize3 @tbytes3) (And.intro @tagg3 @zcells3)) := (And.intro (And.intro @tsize3 @tbytes3) (And.intro @tagg3 @zcells3))
theorem tyf4 : type_of% (And.intro (And.intro @tsize4 @tbytes4) (And.intro @tagg4 (And.intro @zcells4 @isBoolT4))) := (And.intro (And.intro @tsize4 @tbytes4) (And.intro @tagg4 (And.intro @zcells4 @isBoolT4)))
theorem tyf5 : type_of% (And.intro (And.intro @tsize5 @tbytes5) (And.intro @tagg5 @zcells5)) := (And.intro (And.intro @tsize5 @tbytes5) (And.intro @tagg5 @zcells5))
theorem tyf9 : type_of% (And.intro (And.intro @tsize9 @tbytes9) (And.intro @tagg9 (And.intro @zcells9 @isStrT9))) := (And.intro (And.intro @tsize9 @tbytes9) (And.intro @tagg9 (And.intro @zcells9 @isStrT9)))
theorem tyf22 : type_of% (And.intro (And.intro @tsize22 (And.intro @tbytes22 @tagg22)) (And.intro @telem22 (And.intro @slZ22 @zcells22))) := (And.intro (And.intro @tsize22 (And.intro @tbytes22 @tagg22)) (And.intro @telem22 (And.intro @slZ22 @zcells22)))
theorem tyf24 : type_of% (And.intro (And.intro @tsize24 (And.intro @tbytes24 @tagg24)) (And.intro @telem24 (And.intro @slZ24 @zcells24))) := (And.intro (And.intro @tsize24 (And.intro @tbytes24 @tagg24)) (And.intro @telem24 (And.intro @slZ24 @zcells24)))
theorem tyf25 : type_of% (And.intro (And.intro @tsize25 @tbytes25) (And.intro @tagg25 @zcells25)) := (And.intro (And.intro @tsize25 @tbytes25) (And.intro @tagg25 @zcells25))
theorem tyf29 : type_of% (And.intro (And.intro @tsize29 @tbytes29) (And.intro @tagg29 (And.intro @arrOf29 @zcells29))) := (And.intro (And.intro @tsize29 @tbytes29) (And.intro @tagg29 (And.intro @arrOf29 @zcells29)))
theorem tyf30 : type_of% (And.intro (And.intro @tsize30 (And.intro @tbytes30 @tagg30)) (And.intro @telem30 (And.intro @slZ30 @zcells30))) := (And.intro (And.intro @tsize30 (And.intro @tbytes30 @tagg30)) (And.intro @telem30 (And.intro @slZ30 @zcells30)))
theorem tyf31 : type_of% (And.intro (And.intro @tsize31 (And.intro @tbytes31 @tagg31)) (And.intro @telem31 (And.intro @slZ31 @zcells31))) := (And.intro (And.intro @tsize31 (And.intro @tbytes31 @tagg31)) (And.intro @telem31 (And.intro @slZ31 @zcells31)))
theorem tyf33 : type_of% (And.intro (And.intro @tsize33 @tbytes33) (And.intro @tagg33 @zcells33)) := (And.intro (And.intro @tsize33 @tbytes33) (And.intro @tagg33 @zcells33))
theorem tyf41 : type_of% (And.intro (And.intro @tsize41 (And.intro @tbytes41 @tagg41)) (And.intro @telem41 (And.intro @slZ41 @zcells41))) := (And.intro (And.intro @tsize41 (And.intro @tbytes41 @tagg41)) (And.intro @telem41 (And.intro @slZ41 @zcells41)))
theorem tyf42 : type_of% (And.intro (And.intro @tsize42 (And.intro @tbytes42 @tagg42)) (And.intro @telem42 (And.intro @slZ42 @zcells42))) := (And.intro (And.intro @tsize42 (And.intro @tbytes42 @tagg42)) (And.intro @telem42 (And.intro @slZ42 @zcells42)))
theorem tyf43 : type_of% (And.intro (And.intro @tsize43 (And.intro @tbytes43 @tagg43)) (And.intro @telem43 (And.intro @slZ43 @zcells43))) := (And.intro (And.intro @tsize43 (And.intro @tbytes43 @tagg43)) (And.intro @telem43 (And.intro @slZ43 @zcells43)))
theorem tyf44 : type_of% (And.intro (And.intro @tsize44 (And.intro @tbytes44 @tagg44)) (And.intro @telem44 (And.intro @slZ44 @zcells44))) := (And.intro (And.intro @tsize44 (And.intro @tbytes44 @tagg44)) (And.intro @telem44 (And.intro @slZ44 @zcells44)))
theorem tyf45 : type_of% (And.intro (And.intro @tsize45 (And.intro @tbytes45 @tagg45)) (And.intro @telem45 (And.intro @slZ45 @zcells45))) := (And.intro (And.intro @tsize45 (And.intro @tbytes45 @tagg45)) (And.intro @telem45 (And.intro @slZ45 @zcells45)))
theorem tyf46 : type_of% (And.intro (And.intro @tsize46 (And.intro @tbytes46 @tagg46)) (And.intro @telem46 (And.intro @slZ46 @zcells46))) := (And.intro (And.intro @tsize46 (And.intro @tbytes46 @tagg46)) (And.intro @telem46 (And.intro @slZ46 @zcells46)))
theorem tyf48 : type_of% (And.intro (And.intro (And.intro @tsize48 @tbytes48) (And.intro @tagg48 (And.intro @zcells48 @fieldAt48_0))) (And.intro (And.intro @fieldAt48_1 @fieldAt48_2) (And.intro @fieldAt48_3 (And.intro @fieldAt48_4 @fieldAt48_5)))) := (And.intro (And.intro (And.intro @tsize48 @tbytes48) (And.intro @tagg48 (And.intro @zcells48 @fieldAt48_0))) (And.intro (And.intro @fieldAt48_1 @fieldAt48_2) (And.intro @fieldAt48_3 (And.intro @fieldAt48_4 @fieldAt48_5))))
theorem tyf50 : type_of% (And.intro (And.intro (And.intro @tsize50 (And.intro @tbytes50 @tagg50)) (And.intro @zcells50 (And.intro @fieldAt50_0 @fieldAt50_1))) (And.intro (And.intro @fieldAt50_2 (And.intro @fieldAt50_3 @fieldAt50_4)) (And.intro (And.intro @fieldAt50_5 @fieldAt50_6) (And.intro @fieldAt50_7 @fieldAt50_8)))) := (And.intro (And.intro (And.intro @tsize50 (And.intro @tbytes50 @tagg50)) (And.intro @zcells50 (And.intro @fieldAt50_0 @fieldAt50_1))) (And.intro (And.intro @fieldAt50_2 (And.intro @fieldAt50_3 @fieldAt50_4)) (And.intro (And.intro @fieldAt50_5 @fieldAt50_6) (And.intro @fieldAt50_7 @fieldAt50_8))))
theorem tyf65 : type_of% (And.intro (And.intro (And.intro @tsize65 @tbytes65) (And.intro @tagg65 @zcells65)) (And.intro (And.intro @fieldAt65_0 @fieldAt65_1) (And.intro @fieldAt65_2 (And.intro @fieldAt65_3 @fieldAt65_4)))) := (And.intro (And.intro (And.intro @tsize65 @tbytes65) (And.intro @tagg65 @zcells65)) (And.intro (And.intro @fieldAt65_0 @fieldAt65_1) (And.intro @fieldAt65_2 (And.intro @fieldAt65_3 @fieldAt65_4))))
theorem tyf69 : type_of% (And.intro (And.intro (And.intro @tsize69 @tbytes69) (And.intro @tagg69 @zcells69)) (And.intro (And.intro @fieldAt69_0 @fieldAt69_1) (And.intro @fieldAt69_2 (And.intro @fieldAt69_3 @fieldAt69_4)))) := (And.intro (And.intro (And.intro @tsize69 @tbytes69) (And.intro @tagg69 @zcells69)) (And.intro (And.intro @fieldAt69_0 @fieldAt69_1) (And.intro @fieldAt69_2 (And.intro @fieldAt69_3 @fieldAt69_4))))
theorem tyf72 : type_of% (And.intro (And.intro @tsize72 (And.intro @tbytes72 @tagg72)) (And.intro @telem72 (And.intro @slZ72 @zcells72))) := (And.intro (And.intro @tsize72 (And.intro @tbytes72 @tagg72)) (And.intro @telem72 (And.intro @slZ72 @zcells72)))
theorem tyf81 : type_of% (And.intro (And.intro (And.intro @tsize81 @tbytes81) (And.intro @tagg81 @zcells81)) (And.intro (And.intro @fieldAt81_0 @fieldAt81_1) (And.intro @fieldAt81_2 (And.intro @fieldAt81_3 @fieldAt81_4)))) := (And.intro (And.intro (And.intro @tsize81 @tbytes81) (And.intro @tagg81 @zcells81)) (And.intro (And.intro @fieldAt81_0 @fieldAt81_1) (And.intro @fieldAt81_2 (And.intro @fieldAt81_3 @fieldAt81_4))))
theorem tyf107 : type_of% (And.intro (And.intro @tsize107 @tbytes107) (And.intro @tagg107 (And.intro @strMap107 @zcells107))) := (And.intro (And.intro @tsize107 @tbytes107) (And.intro @tagg107 (And.intro @strMap107 @zcells107)))
theorem tyf109 : type_of% (And.intro (And.intro @tsize109 (And.intro @tbytes109 @tagg109)) (And.intro @zcells109 (And.intro @fieldAt109_0 @fieldAt109_1))) := (And.intro (And.intro @tsize109 (And.intro @tbytes109 @tagg109)) (And.intro @zcells109 (And.intro @fieldAt109_0 @fieldAt109_1)))
theorem tyf112 : type_of% (And.intro (And.intro @tsize112 (And.intro @tbytes112 @tagg112)) (And.intro @telem112 (And.intro @slZ112 @zcells112))) := (And.intro (And.intro @tsize112 (And.intro @tbytes112 @tagg112)) (And.intro @telem112 (And.intro @slZ112 @zcells112)))
theorem tyf115 : type_of% (And.intro (And.intro (And.intro @tsize115 @tbytes115) (And.intro @tagg115 @zcells115)) (And.intro (And.intro @fieldAt115_0 @fieldAt115_1) (And.intro @fieldAt115_2 @fieldAt115_3))) := (And.intro (And.intro (And.intro @tsize115 @tbytes115) (And.intro @tagg115 @zcells115)) (And.intro (And.intro @fieldAt115_0 @fieldAt115_1) (And.intro @fieldAt115_2 @fieldAt115_3)))
theorem tyf116 : type_of% (And.intro (And.intro @tsize116 (And.intro @tbytes116 @tagg116)) (And.intro @telem116 (And.intro @slZ116 @zcells116))) := (And.intro (And.intro @tsize116 (And.intro @tbytes116 @tagg116)) (And.intro @telem116 (And.intro @slZ116 @zcells116)))
theorem tyf139 : type_of% (And.intro (And.intro @tsize139 (And.intro @tbytes139 @tagg139)) (And.intro (And.intro @zcells139 @fieldAt139_0) (And.intro @fieldAt139_1 @fieldAt139_2))) := (And.intro (And.intro @tsize139 (And.intro @tbytes139 @tagg139)) (And.intro (And.intro @zcells139 @fieldAt139_0) (And.intro @fieldAt139_1 @fieldAt139_2)))
theorem fnf10 : type_of% (And.intro (And.intro @opn10 @imp10) (And.intro @mem10 @prim10)) := (And.intro (And.intro @opn10 @imp10) (And.intro @mem10 @prim10))
theorem fnf13 : type_of% (And.intro (And.intro @opn13 @imp13) (And.intro @mem13 @prim13)) := (And.intro (And.intro @opn13 @imp13) (And.intro @mem13 @prim13))
theorem fnf14 : type_of% (And.intro (And.intro @opn14 @imp14) (And.intro @mem14 @prim14)) := (And.intro (And.intro @opn14 @imp14) (And.intro @mem14 @prim14))
theorem fnf17 : type_of% (And.intro (And.intro @opn17 @imp17) (And.intro @mem17 @prim17)) := (And.intro (And.intro @opn17 @imp17) (And.intro @mem17 @prim17))
theorem fnf22 : type_of% (And.intro (And.intro @opn22 @imp22) (And.intro @mem22 @prim22)) := (And.intro (And.intro @opn22 @imp22) (And.intro @mem22 @prim22))
theorem fnf23 : type_of% (And.intro (And.intro @opn23 @imp23) (And.intro @mem23 @prim23)) := (And.intro (And.intro @opn23 @imp23) (And.intro @mem23 @prim23))
theorem fnf24 : type_of% (And.intro (And.intro @opn24 @imp24) (And.intro @mem24 @prim24)) := (And.intro (And.intro @opn24 @imp24) (And.intro @mem24 @prim24))
theorem fnf25 : type_of% (And.intro (And.intro @opn25 @imp25) (And.intro @mem25 @prim25)) := (And.intro (And.intro @opn25 @imp25) (And.intro @mem25 @prim25))
theorem fnf26 : type_of% (And.intro (And.intro @opn26 @imp26) (And.intro @mem26 @prim26)) := (And.intro (And.intro @opn26 @imp26) (And.intro @mem26 @prim26))
theorem fnf27 : type_of% (And.intro (And.intro @opn27 @imp27) (And.intro @mem27 @prim27)) := (And.intro (And.intro @opn27 @imp27) (And.intro @mem27 @prim27))
theorem fnf32 : type_of% (And.intro (And.intro @opn32 @imp32) (And.intro @mem32 @prim32)) := (And.intro (And.intro @opn32 @imp32) (And.intro @mem32 @prim32))
theorem fnf37 : type_of% (And.intro (And.intro @opn37 @imp37) (And.intro @mem37 @prim37)) := (And.intro (And.intro @opn37 @imp37) (And.intro @mem37 @prim37))
theorem fnf38 : type_of% (And.intro (And.intro @opn38 @imp38) (And.intro @mem38 @prim38)) := (And.intro (And.intro @opn38 @imp38) (And.intro @mem38 @prim38))
theorem fnf39 : type_of% (And.intro (And.intro @opn39 @imp39) (And.intro @mem39 @prim39)) := (And.intro (And.intro @opn39 @imp39) (And.intro @mem39 @prim39))
theorem fnf40 : type_of% (And.intro (And.intro @opn40 @imp40) (And.intro @mem40 @prim40)) := (And.intro (And.intro @opn40 @imp40) (And.intro @mem40 @prim40))
theorem fnf41 : type_of% (And.intro (And.intro @opn41 @imp41) (And.intro @mem41 @prim41)) := (And.intro (And.intro @opn41 @imp41) (And.intro @mem41 @prim41))
theorem fnf42 : type_of% (And.intro (And.intro @opn42 @imp42) (And.intro @mem42 @prim42)) := (And.intro (And.intro @opn42 @imp42) (And.intro @mem42 @prim42))
theorem fnf46 : type_of% (And.intro (And.intro @opn46 @imp46) (And.intro @mem46 @prim46)) := (And.intro (And.intro @opn46 @imp46) (And.intro @mem46 @prim46))
theorem fnf47 : type_of% (And.intro (And.intro @opn47 @imp47) (And.intro @mem47 @prim47)) := (And.intro (And.intro @opn47 @imp47) (And.intro @mem47 @prim47))
theorem fnf48 : type_of% (And.intro (And.intro @opn48 @imp48) (And.intro @mem48 @prim48)) := (And.intro (And.intro @opn48 @imp48) (And.intro @mem48 @prim48))
theorem fnf55 : type_of% (And.intro (And.intro @opn55 @imp55) (And.intro @mem55 @prim55)) := (And.intro (And.intro @opn55 @imp55) (And.intro @mem55 @prim55))
theorem fnf65 : type_of% (And.intro (And.intro @opn65 @imp65) (And.intro @mem65 @prim65)) := (And.intro (And.intro @opn65 @imp65) (And.intro @mem65 @prim65))
theorem fnf66 : type_of% (And.intro (And.intro @opn66 @imp66) (And.intro @mem66 @prim66)) := (And.intro (And.intro @opn66 @imp66) (And.intro @mem66 @prim66))
theorem fnf67 : type_of% (And.intro (And.intro @opn67 @imp67) (And.intro @mem67 @prim67)) := (And.intro (And.intro @opn67 @imp67) (And.intro @mem67 @prim67))
theorem fnf68 : type_of% (And.intro (And.intro @opn68 @imp68) (And.intro @mem68 @prim68)) := (And.intro (And.intro @opn68 @imp68) (And.intro @mem68 @prim68))
theorem fnf69 : type_of% (And.intro (And.intro @opn69 @imp69) (And.intro @mem69 @prim69)) := (And.intro (And.intro @opn69 @imp69) (And.intro @mem69 @prim69))
theorem fnf70 : type_of% (And.intro (And.intro @opn70 @imp70) (And.intro @mem70 @prim70)) := (And.intro (And.intro @opn70 @imp70) (And.intro @mem70 @prim70))
theorem fnf78 : type_of% (And.intro (And.intro @opn78 @imp78) (And.intro @mem78 @prim78)) := (And.intro (And.intro @opn78 @imp78) (And.intro @mem78 @prim78))
theorem fnf82 : type_of% (And.intro (And.intro @opn82 @imp82) (And.intro @mem82 @prim82)) := (And.intro (And.intro @opn82 @imp82) (And.intro @mem82 @prim82))
theorem fnf83 : type_of% (And.intro (And.intro @opn83 @imp83) (And.intro @mem83 @prim83)) := (And.intro (And.intro @opn83 @imp83) (And.intro @mem83 @prim83))
theorem fnf84 : type_of% (And.intro (And.intro @opn84 @imp84) (And.intro @mem84 @prim84)) := (And.intro (And.intro @opn84 @imp84) (And.intro @mem84 @prim84))
theorem fnf86 : type_of% (And.intro (And.intro @opn86 @imp86) (And.intro @mem86 @prim86)) := (And.intro (And.intro @opn86 @imp86) (And.intro @mem86 @prim86))
theorem fnf91 : type_of% (And.intro (And.intro @opn91 @imp91) (And.intro @mem91 @prim91)) := (And.intro (And.intro @opn91 @imp91) (And.intro @mem91 @prim91))
theorem fnf104 : type_of% (And.intro (And.intro @opn104 @imp104) (And.intro @mem104 @prim104)) := (And.intro (And.intro @opn104 @imp104) (And.intro @mem104 @prim104))
theorem fnf105 : type_of% (And.intro (And.intro @opn105 @imp105) (And.intro @mem105 @prim105)) := (And.intro (And.intro @opn105 @imp105) (And.intro @mem105 @prim105))
theorem factsOf7 : type_of% (And.intro (And.intro (And.intro (And.intro (And.intro @tyf3 @tyf4) (And.intro @tyf9 @tyf24)) (And.intro (And.intro @tyf25 @tyf41) (And.intro @tyf42 @tyf43))) (And.intro (And.intro (And.intro @tyf44 @tyf45) (And.intro @tyf46 @tyf48)) (And.intro (And.intro @tyf50 @tyf65) (And.intro @tyf69 (And.intro @tyf72 @tyf81))))) (And.intro (And.intro (And.intro (And.intro @tyf139 @light7) (And.intro @frzT41_41 @notInt41)) (And.intro (And.intro @keepB7_0 @keepB7_1) (And.intro @keepB7_2 (And.intro @keepB7_3 @keepB7_4)))) (And.intro (And.intro (And.intro @keepB7_5 @fnf23) (And.intro @fnf32 @fnf37)) (And.intro (And.intro @fnf38 @fnf39) (And.intro @fnf40 (And.intro @fnf41 @fnf42)))))) := (And.intro (And.intro (And.intro (And.intro (And.intro @tyf3 @tyf4) (And.intro @tyf9 @tyf24)) (And.intro (And.intro @tyf25 @tyf41) (And.intro @tyf42 @tyf43))) (And.intro (And.intro (And.intro @tyf44 @tyf45) (And.intro @tyf46 @tyf48)) (And.intro (And.intro @tyf50 @tyf65) (And.intro @tyf69 (And.intro @tyf72 @tyf81))))) (And.intro (And.intro (And.intro (And.intro @tyf139 @light7) (And.intro @frzT41_41 @notInt41)) (And.intro (And.intro @keepB7_0 @keepB7_1) (And.intro @keepB7_2 (And.intro @keepB7_3 @keepB7_4)))) (And.intro (And.intro (And.intro @keepB7_5 @fnf23) (And.intro @fnf32 @fnf37)) (And.intro (And.intro @fnf38 @fnf39) (And.intro @fnf40 (And.intro @fnf41 @fnf42))))))
theorem factsOf10 : type_of% (And.intro (And.intro @tyf3 (And.intro @tyf22 @tyf25)) (And.intro (And.intro @tyf29 @light10) (And.intro @fnf13 @fnf55))) := (And.intro (And.intro @tyf3 (And.intro @tyf22 @tyf25)) (And.intro (And.intro @tyf29 @light10) (And.intro @fnf13 @fnf55)))
theorem factsOf13 : type_of% (And.intro (And.intro @tyf3 (And.intro @tyf22 @tyf29)) (And.intro @light13 (And.intro @keepB13_0 @keepB13_1))) := (And.intro (And.intro @tyf3 (And.intro @tyf22 @tyf29)) (And.intro @light13 (And.intro @keepB13_0 @keepB13_1)))
theorem factsOf14 : type_of% (And.intro (And.intro (And.intro (And.intro (And.intro @tyf3 @tyf4) (And.intro @tyf22 (And.intro @tyf29 @tyf30))) (And.intro (And.intro @tyf31 (And.intro @light14_0 @light14_1)) (And.intro @light14_2 (And.intro @light14_3 @light14_4)))) (And.intro (And.intro (And.intro @light14_5 @light14_6) (And.intro @light14_7 (And.intro @light14_8 @light14_9))) (And.intro (And.intro @light14_10 (And.intro @light14_11 @light14_12)) (And.intro @light14_13 (And.intro @light14_14 @light14_15))))) (And.intro (And.intro (And.intro (And.intro @light14_16 @light14_17) (And.intro @light14_18 (And.intro @light14_19 @light14_20))) (And.intro (And.intro @light14_21 (And.intro @light14_22 @light14_23)) (And.intro @light14_24 (And.intro @light14_25 @light14_26)))) (And.intro (And.intro (And.intro @light14_27 @keepB14_0) (And.intro @keepB14_1 (And.intro @keepB14_2 @keepB14_3))) (And.intro (And.intro @keepB14_4 (And.intro @keepB14_5 @keepB14_6)) (And.intro @keepB14_7 (And.intro @keepB14_8 @keepB14_9)))))) := (And.intro (And.intro (And.intro (And.intro (And.intro @tyf3 @tyf4) (And.intro @tyf22 (And.intro @tyf29 @tyf30))) (And.intro (And.intro @tyf31 (And.intro @light14_0 @light14_1)) (And.intro @light14_2 (And.intro @light14_3 @light14_4)))) (And.intro (And.intro (And.intro @light14_5 @light14_6) (And.intro @light14_7 (And.intro @light14_8 @light14_9))) (And.intro (And.intro @light14_10 (And.intro @light14_11 @light14_12)) (And.intro @light14_13 (And.intro @light14_14 @light14_15))))) (And.intro (And.intro (And.intro (And.intro @light14_16 @light14_17) (And.intro @light14_18 (And.intro @light14_19 @light14_20))) (And.intro (And.intro @light14_21 (And.intro @light14_22 @light14_23)) (And.intro @light14_24 (And.intro @light14_25 @light14_26)))) (And.intro (And.intro (And.intro @light14_27 @keepB14_0) (And.intro @keepB14_1 (And.intro @keepB14_2 @keepB14_3))) (And.intro (And.intro @keepB14_4 (And.intro @keepB14_5 @keepB14_6)) (And.intro @keepB14_7 (And.intro @keepB14_8 @keepB14_9))))))
theorem factsOf17 : type_of% (And.intro (And.intro (And.intro @tyf3 (And.intro @tyf4 @tyf24)) (And.intro @tyf30 (And.intro @tyf31 @light17))) (And.intro (And.intro @frzT24_24 (And.intro @notInt24 @keepB17_0)) (And.intro @keepB17_1 (And.intro @keepB17_2 @keepB17_3)))) := (And.intro (And.intro (And.intro @tyf3 (And.intro @tyf4 @tyf24)) (And.intro @tyf30 (And.intro @tyf31 @light17))) (And.intro (And.intro @frzT24_24 (And.intro @notInt24 @keepB17_0)) (And.intro @keepB17_1 (And.intro @keepB17_2 @keepB17_3))))
theorem factsOf22 : type_of% (And.intro (And.intro (And.intro (And.intro @tyf3 (And.intro @tyf4 @tyf9)) (And.intro (And.intro @tyf25 @tyf41) (And.intro @tyf42 @tyf43))) (And.intro (And.intro (And.intro @tyf44 @tyf45) (And.intro @tyf46 @tyf48)) (And.intro (And.intro @tyf50 @tyf65) (And.intro @tyf69 @tyf81)))) (And.intro (And.intro (And.intro (And.intro @tyf107 @tyf109) (And.intro @tyf139 @light22)) (And.intro (And.intro @structOk109 @placeS109_0) (And.intro @placeS109_1 @keepB22_0))) (And.intro (And.intro (And.intro @keepB22_1 @keepB22_2) (And.intro @keepB22_3 @keepB22_4)) (And.intro (And.intro @keepB22_5 @fnf26) (And.intro @fnf65 @fnf66))))) := (And.intro (And.intro (And.intro (And.intro @tyf3 (And.intro @tyf4 @tyf9)) (And.intro (And.intro @tyf25 @tyf41) (And.intro @tyf42 @tyf43))) (And.intro (And.intro (And.intro @tyf44 @tyf45) (And.intro @tyf46 @tyf48)) (And.intro (And.intro @tyf50 @tyf65) (And.intro @tyf69 @tyf81)))) (And.intro (And.intro (And.intro (And.intro @tyf107 @tyf109) (And.intro @tyf139 @light22)) (And.intro (And.intro @structOk109 @placeS109_0) (And.intro @placeS109_1 @keepB22_0))) (And.intro (And.intro (And.intro @keepB22_1 @keepB22_2) (And.intro @keepB22_3 @keepB22_4)) (And.intro (And.intro @keepB22_5 @fnf26) (And.intro @fnf65 @fnf66)))))
theorem factsOf23 : type_of% (And.intro (And.intro (And.intro (And.intro @tyf3 (And.intro @tyf4 @tyf9)) (And.intro (And.intro @tyf25 @tyf41) (And.intro @tyf42 @tyf43))) (And.intro (And.intro @tyf44 (And.intro @tyf45 @tyf46)) (And.intro (And.intro @tyf48 @tyf50) (And.intro @tyf65 @tyf69)))) (And.intro (And.intro (And.intro @tyf81 (And.intro @tyf112 @tyf115)) (And.intro (And.intro @tyf139 @light23) (And.intro @keepB23_0 @keepB23_1))) (And.intro (And.intro @keepB23_2 (And.intro @keepB23_3 @keepB23_4)) (And.intro (And.intro @keepB23_5 @fnf42) (And.intro @fnf67 @fnf68))))) := (And.intro (And.intro (And.intro (And.intro @tyf3 (And.intro @tyf4 @tyf9)) (And.intro (And.intro @tyf25 @tyf41) (And.intro @tyf42 @tyf43))) (And.intro (And.intro @tyf44 (And.intro @tyf45 @tyf46)) (And.intro (And.intro @tyf48 @tyf50) (And.intro @tyf65 @tyf69)))) (And.intro (And.intro (And.intro @tyf81 (And.intro @tyf112 @tyf115)) (And.intro (And.intro @tyf139 @light23) (And.intro @keepB23_0 @keepB23_1))) (And.intro (And.intro @keepB23_2 (And.intro @keepB23_3 @keepB23_4)) (And.intro (And.intro @keepB23_5 @fnf42) (And.intro @fnf67 @fnf68)))))
theorem factsOf24 : type_of% (And.intro (And.intro (And.intro @tyf3 @tyf5) (And.intro @tyf9 @tyf116)) (And.intro (And.intro @light24 @cvStr9_116) (And.intro @keepB24_0 @keepB24_1))) := (And.intro (And.intro (And.intro @tyf3 @tyf5) (And.intro @tyf9 @tyf116)) (And.intro (And.intro @light24 @cvStr9_116) (And.intro @keepB24_0 @keepB24_1)))
theorem factsOf25 : type_of% (And.intro (And.intro @tyf3 (And.intro @tyf5 @tyf9)) (And.intro @light25 (And.intro @keepB25_0 @keepB25_1))) := (And.intro (And.intro @tyf3 (And.intro @tyf5 @tyf9)) (And.intro @light25 (And.intro @keepB25_0 @keepB25_1)))
theorem factsOf26 : type_of% (And.intro (And.intro @tyf3 @tyf9) (And.intro @tyf50 (And.intro @light26 @fnf69))) := (And.intro (And.intro @tyf3 @tyf9) (And.intro @tyf50 (And.intro @light26 @fnf69)))
theorem factsOf27 : type_of% (And.intro (And.intro @tyf3 @tyf9) (And.intro @tyf50 (And.intro @light27 @fnf70))) := (And.intro (And.intro @tyf3 @tyf9) (And.intro @tyf50 (And.intro @light27 @fnf70)))
theorem factsOf32 : type_of% (And.intro (And.intro @tyf3 @tyf24) (And.intro @light32 (And.intro @keepB32_0 @keepB32_1))) := (And.intro (And.intro @tyf3 @tyf24) (And.intro @light32 (And.intro @keepB32_0 @keepB32_1)))
theorem factsOf38 : type_of% (And.intro (And.intro (And.intro (And.intro (And.intro @tyf3 @tyf4) (And.intro @tyf9 @tyf24)) (And.intro (And.intro @tyf25 @tyf41) (And.intro @tyf42 (And.intro @tyf43 @tyf44)))) (And.intro (And.intro (And.intro @tyf45 @tyf46) (And.intro @tyf48 (And.intro @tyf50 @tyf65))) (And.intro (And.intro @tyf69 @tyf72) (And.intro @tyf81 (And.intro @tyf139 @light38_0))))) (And.intro (And.intro (And.intro (And.intro @light38_1 @light38_2) (And.intro @light38_3 (And.intro @light38_4 @light38_5))) (And.intro (And.intro @light38_6 @light38_7) (And.intro @light38_8 (And.intro @light38_9 @light38_10)))) (And.intro (And.intro (And.intro @light38_11 @light38_12) (And.intro @frzT41_41 (And.intro @notInt41 @frzT72_72))) (And.intro (And.intro @notInt72 @keepB38_0) (And.intro @keepB38_1 (And.intro @fnf82 @fnf83)))))) := (And.intro (And.intro (And.intro (And.intro (And.intro @tyf3 @tyf4) (And.intro @tyf9 @tyf24)) (And.intro (And.intro @tyf25 @tyf41) (And.intro @tyf42 (And.intro @tyf43 @tyf44)))) (And.intro (And.intro (And.intro @tyf45 @tyf46) (And.intro @tyf48 (And.intro @tyf50 @tyf65))) (And.intro (And.intro @tyf69 @tyf72) (And.intro @tyf81 (And.intro @tyf139 @light38_0))))) (And.intro (And.intro (And.intro (And.intro @light38_1 @light38_2) (And.intro @light38_3 (And.intro @light38_4 @light38_5))) (And.intro (And.intro @light38_6 @light38_7) (And.intro @light38_8 (And.intro @light38_9 @light38_10)))) (And.intro (And.intro (And.intro @light38_11 @light38_12) (And.intro @frzT41_41 (And.intro @notInt41 @frzT72_72))) (And.intro (And.intro @notInt72 @keepB38_0) (And.intro @keepB38_1 (And.intro @fnf82 @fnf83))))))
theorem factsOf39 : type_of% (And.intro (And.intro (And.intro (And.intro @tyf3 @tyf4) (And.intro @tyf9 (And.intro @tyf25 @tyf41))) (And.intro (And.intro @tyf42 (And.intro @tyf43 @tyf44)) (And.intro @tyf45 (And.intro @tyf46 @tyf48)))) (And.intro (And.intro (And.intro @tyf50 @tyf65) (And.intro @tyf69 (And.intro @tyf81 @tyf139))) (And.intro (And.intro @light39 (And.intro @frzT41_41 @notInt41)) (And.intro @keepB39_0 (And.intro @keepB39_1 @fnf82))))) := (And.intro (And.intro (And.intro (And.intro @tyf3 @tyf4) (And.intro @tyf9 (And.intro @tyf25 @tyf41))) (And.intro (And.intro @tyf42 (And.intro @tyf43 @tyf44)) (And.intro @tyf45 (And.intro @tyf46 @tyf48)))) (And.intro (And.intro (And.intro @tyf50 @tyf65) (And.intro @tyf69 (And.intro @tyf81 @tyf139))) (And.intro (And.intro @light39 (And.intro @frzT41_41 @notInt41)) (And.intro @keepB39_0 (And.intro @keepB39_1 @fnf82)))))
theorem factsOf40 : type_of% (And.intro (And.intro (And.intro (And.intro @tyf3 (And.intro @tyf4 @tyf9)) (And.intro @tyf22 (And.intro @tyf29 @tyf30))) (And.intro (And.intro @tyf31 (And.intro @tyf33 @tyf41)) (And.intro @tyf42 (And.intro @tyf43 @tyf44)))) (And.intro (And.intro (And.intro @tyf45 (And.intro @tyf46 @tyf48)) (And.intro @tyf50 (And.intro @tyf65 @tyf69))) (And.intro (And.intro @tyf81 (And.intro @tyf139 @light40)) (And.intro (And.intro @fnf14 @fnf17) (And.intro @fnf47 @fnf48))))) := (And.intro (And.intro (And.intro (And.intro @tyf3 (And.intro @tyf4 @tyf9)) (And.intro @tyf22 (And.intro @tyf29 @tyf30))) (And.intro (And.intro @tyf31 (And.intro @tyf33 @tyf41)) (And.intro @tyf42 (And.intro @tyf43 @tyf44)))) (And.intro (And.intro (And.intro @tyf45 (And.intro @tyf46 @tyf48)) (And.intro @tyf50 (And.intro @tyf65 @tyf69))) (And.intro (And.intro @tyf81 (And.intro @tyf139 @light40)) (And.intro (And.intro @fnf14 @fnf17) (And.intro @fnf47 @fnf48)))))
theorem factsOf41 : type_of% (And.intro (And.intro @tyf3 (And.intro @tyf9 @tyf41)) (And.intro @light41 (And.intro @keepB41_0 @keepB41_1))) := (And.intro (And.intro @tyf3 (And.intro @tyf9 @tyf41)) (And.intro @light41 (And.intro @keepB41_0 @keepB41_1)))
theorem factsOf42 : type_of% (And.intro (And.intro @tyf3 @tyf9) (And.intro @tyf41 (And.intro @light42 @fnf46))) := (And.intro (And.intro @tyf3 @tyf9) (And.intro @tyf41 (And.intro @light42 @fnf46)))
theorem factsOf46 : type_of% (And.intro (And.intro @tyf3 (And.intro @tyf9 @tyf41)) (And.intro @light46 (And.intro @keepB46_0 @keepB46_1))) := (And.intro (And.intro @tyf3 (And.intro @tyf9 @tyf41)) (And.intro @light46 (And.intro @keepB46_0 @keepB46_1)))
theorem factsOf47 : type_of% (And.intro (And.intro (And.intro (And.intro @tyf3 @tyf4) (And.intro @tyf9 (And.intro @tyf22 @tyf29))) (And.intro (And.intro @tyf41 (And.intro @tyf42 @tyf43)) (And.intro @tyf44 (And.intro @tyf45 @tyf46)))) (And.intro (And.intro (And.intro @tyf48 (And.intro @tyf50 @tyf65)) (And.intro @tyf69 (And.intro @tyf81 @tyf139))) (And.intro (And.intro @light47 (And.intro @frzT22_22 @notInt22)) (And.intro @keepB47_0 (And.intro @keepB47_1 @fnf46))))) := (And.intro (And.intro (And.intro (And.intro @tyf3 @tyf4) (And.intro @tyf9 (And.intro @tyf22 @tyf29))) (And.intro (And.intro @tyf41 (And.intro @tyf42 @tyf43)) (And.intro @tyf44 (And.intro @tyf45 @tyf46)))) (And.intro (And.intro (And.intro @tyf48 (And.intro @tyf50 @tyf65)) (And.intro @tyf69 (And.intro @tyf81 @tyf139))) (And.intro (And.intro @light47 (And.intro @frzT22_22 @notInt22)) (And.intro @keepB47_0 (And.intro @keepB47_1 @fnf46)))))
theorem factsOf48 : type_of% (And.intro @light48 @fnf86) := (And.intro @light48 @fnf86)
theorem factsOf55 : type_of% (And.intro (And.intro (And.intro @tyf3 (And.intro @tyf22 @tyf24)) (And.intro (And.intro @tyf29 @light55) (And.intro @frzT24_24 @notInt24))) (And.intro (And.intro @keepB55_0 (And.intro @keepB55_1 @keepB55_2)) (And.intro (And.intro @keepB55_3 @keepB55_4) (And.intro @keepB55_5 @fnf91)))) := (And.intro (And.intro (And.intro @tyf3 (And.intro @tyf22 @tyf24)) (And.intro (And.intro @tyf29 @light55) (And.intro @frzT24_24 @notInt24))) (And.intro (And.intro @keepB55_0 (And.intro @keepB55_1 @keepB55_2)) (And.intro (And.intro @keepB55_3 @keepB55_4) (And.intro @keepB55_5 @fnf91))))
theorem factsOf65 : type_of% (And.intro (And.intro (And.intro @tyf3 @tyf9) (And.intro @tyf41 (And.intro @tyf107 @tyf109))) (And.intro (And.intro @light65 (And.intro @keepB65_0 @keepB65_1)) (And.intro @keepB65_2 (And.intro @fnf24 @fnf104)))) := (And.intro (And.intro (And.intro @tyf3 @tyf9) (And.intro @tyf41 (And.intro @tyf107 @tyf109))) (And.intro (And.intro @light65 (And.intro @keepB65_0 @keepB65_1)) (And.intro @keepB65_2 (And.intro @fnf24 @fnf104))))
theorem factsOf66 : type_of% (And.intro (And.intro (And.intro (And.intro @tyf3 (And.intro @tyf4 @tyf9)) (And.intro (And.intro @tyf25 @tyf41) (And.intro @tyf42 @tyf43))) (And.intro (And.intro @tyf44 (And.intro @tyf45 @tyf46)) (And.intro (And.intro @tyf48 @tyf50) (And.intro @tyf65 @tyf69)))) (And.intro (And.intro (And.intro @tyf81 (And.intro @tyf107 @tyf109)) (And.intro (And.intro @tyf139 @light66) (And.intro @keepB66_0 @keepB66_1))) (And.intro (And.intro @keepB66_2 (And.intro @keepB66_3 @keepB66_4)) (And.intro (And.intro @keepB66_5 @fnf65) (And.intro @fnf69 @fnf105))))) := (And.intro (And.intro (And.intro (And.intro @tyf3 (And.intro @tyf4 @tyf9)) (And.intro (And.intro @tyf25 @tyf41) (And.intro @tyf42 @tyf43))) (And.intro (And.intro @tyf44 (And.intro @tyf45 @tyf46)) (And.intro (And.intro @tyf48 @tyf50) (And.intro @tyf65 @tyf69)))) (And.intro (And.intro (And.intro @tyf81 (And.intro @tyf107 @tyf109)) (And.intro (And.intro @tyf139 @light66) (And.intro @keepB66_0 @keepB66_1))) (And.intro (And.intro @keepB66_2 (And.intro @keepB66_3 @keepB66_4)) (And.intro (And.intro @keepB66_5 @fnf65) (And.intro @fnf69 @fnf105)))))
theorem factsOf67 : type_of% (And.intro (And.intro @tyf9 (And.intro @tyf41 @light67)) (And.intro (And.intro @frzT41_41 @notInt41) (And.intro @fnf25 @fnf42))) := (And.intro (And.intro @tyf9 (And.intro @tyf41 @light67)) (And.intro (And.intro @frzT41_41 @notInt41) (And.intro @fnf25 @fnf42)))
theorem factsOf68 : type_of% (And.intro (And.intro (And.intro (And.intro (And.intro @tyf3 @tyf4) (And.intro @tyf9 @tyf25)) (And.intro (And.intro @tyf41 @tyf42) (And.intro @tyf43 (And.intro @tyf44 @tyf45)))) (And.intro (And.intro (And.intro @tyf46 @tyf48) (And.intro @tyf50 (And.intro @tyf65 @tyf69))) (And.intro (And.intro @tyf81 @tyf112) (And.intro @tyf115 (And.intro @tyf139 @light68))))) (And.intro (And.intro (And.intro (And.intro @frzT112_112 @notInt112) (And.intro @structOk115 @placeS115_0)) (And.intro (And.intro @placeS115_1 @placeS115_2) (And.intro @placeS115_3 (And.intro @keepB68_0 @keepB68_1)))) (And.intro (And.intro (And.intro @keepB68_2 @keepB68_3) (And.intro @keepB68_4 (And.intro @keepB68_5 @keepB68_6))) (And.intro (And.intro @keepB68_7 @keepB68_8) (And.intro @keepB68_9 (And.intro @fnf27 @fnf70)))))) := (And.intro (And.intro (And.intro (And.intro (And.intro @tyf3 @tyf4) (And.intro @tyf9 @tyf25)) (And.intro (And.intro @tyf41 @tyf42) (And.intro @tyf43 (And.intro @tyf44 @tyf45)))) (And.intro (And.intro (And.intro @tyf46 @tyf48) (And.intro @tyf50 (And.intro @tyf65 @tyf69))) (And.intro (And.intro @tyf81 @tyf112) (And.intro @tyf115 (And.intro @tyf139 @light68))))) (And.intro (And.intro (And.intro (And.intro @frzT112_112 @notInt112) (And.intro @structOk115 @placeS115_0)) (And.intro (And.intro @placeS115_1 @placeS115_2) (And.intro @placeS115_3 (And.intro @keepB68_0 @keepB68_1)))) (And.intro (And.intro (And.intro @keepB68_2 @keepB68_3) (And.intro @keepB68_4 (And.intro @keepB68_5 @keepB68_6))) (And.intro (And.intro @keepB68_7 @keepB68_8) (And.intro @keepB68_9 (And.intro @fnf27 @fnf70))))))
theorem factsOf69 : type_of% (And.intro @tyf3 @light69) := (And.intro @tyf3 @light69)
theorem factsOf70 : type_of% (And.intro @tyf3 @light70) := (And.intro @tyf3 @light70)
theorem factsOf78 : type_of% (And.intro (And.intro @tyf3 (And.intro @tyf9 @tyf41)) (And.intro @light78 (And.intro @keepB78_0 @keepB78_1))) := (And.intro (And.intro @tyf3 (And.intro @tyf9 @tyf41)) (And.intro @light78 (And.intro @keepB78_0 @keepB78_1)))
theorem factsOf82 : type_of% (And.intro (And.intro (And.intro (And.intro @tyf3 @tyf4) (And.intro @tyf9 (And.intro @tyf25 @tyf41))) (And.intro (And.intro @tyf42 @tyf43) (And.intro @tyf44 (And.intro @tyf45 @tyf46)))) (And.intro (And.intro (And.intro @tyf48 @tyf50) (And.intro @tyf65 (And.intro @tyf69 @tyf81))) (And.intro (And.intro @tyf139 (And.intro @light82 @keepB82_0)) (And.intro @keepB82_1 (And.intro @fnf22 @fnf104))))) := (And.intro (And.intro (And.intro (And.intro @tyf3 @tyf4) (And.intro @tyf9 (And.intro @tyf25 @tyf41))) (And.intro (And.intro @tyf42 @tyf43) (And.intro @tyf44 (And.intro @tyf45 @tyf46)))) (And.intro (And.intro (And.intro @tyf48 @tyf50) (And.intro @tyf65 (And.intro @tyf69 @tyf81))) (And.intro (And.intro @tyf139 (And.intro @light82 @keepB82_0)) (And.intro @keepB82_1 (And.intro @fnf22 @fnf104)))))
theorem factsOf83 : type_of% (And.intro (And.intro (And.intro (And.intro @tyf3 @tyf4) (And.intro @tyf9 (And.intro @tyf22 @tyf29))) (And.intro (And.intro @tyf41 @tyf42) (And.intro @tyf43 (And.intro @tyf44 @tyf45)))) (And.intro (And.intro (And.intro @tyf46 @tyf48) (And.intro @tyf50 (And.intro @tyf65 @tyf69))) (And.intro (And.intro @tyf81 @tyf139) (And.intro @light83 (And.intro @fnf10 @fnf84))))) := (And.intro (And.intro (And.intro (And.intro @tyf3 @tyf4) (And.intro @tyf9 (And.intro @tyf22 @tyf29))) (And.intro (And.intro @tyf41 @tyf42) (And.intro @tyf43 (And.intro @tyf44 @tyf45)))) (And.intro (And.intro (And.intro @tyf46 @tyf48) (And.intro @tyf50 (And.intro @tyf65 @tyf69))) (And.intro (And.intro @tyf81 @tyf139) (And.intro @light83 (And.intro @fnf10 @fnf84)))))
theorem factsOf84 : type_of% (And.intro (And.intro (And.intro (And.intro @tyf3 (And.intro @tyf4 @tyf9)) (And.intro @tyf22 (And.intro @tyf24 @tyf29))) (And.intro (And.intro @tyf41 (And.intro @tyf42 @tyf43)) (And.intro (And.intro @tyf44 @tyf45) (And.intro @tyf46 @tyf48)))) (And.intro (And.intro (And.intro @tyf50 (And.intro @tyf65 @tyf69)) (And.intro @tyf81 (And.intro @tyf139 @light84))) (And.intro (And.intro @frzT22_22 (And.intro @notInt22 @frzT24_24)) (And.intro (And.intro @notInt24 @keepB84_0) (And.intro @keepB84_1 @fnf78))))) := (And.intro (And.intro (And.intro (And.intro @tyf3 (And.intro @tyf4 @tyf9)) (And.intro @tyf22 (And.intro @tyf24 @tyf29))) (And.intro (And.intro @tyf41 (And.intro @tyf42 @tyf43)) (And.intro (And.intro @tyf44 @tyf45) (And.intro @tyf46 @tyf48)))) (And.intro (And.intro (And.intro @tyf50 (And.intro @tyf65 @tyf69)) (And.intro @tyf81 (And.intro @tyf139 @light84))) (And.intro (And.intro @frzT22_22 (And.intro @notInt22 @frzT24_24)) (And.intro (And.intro @notInt24 @keepB84_0) (And.intro @keepB84_1 @fnf78)))))
theorem factsOf86 : type_of% (And.intro (And.intro (And.intro (And.intro @tyf3 @tyf4) (And.intro @tyf9 @tyf41)) (And.intro (And.intro @tyf42 @tyf43) (And.intro @tyf44 @tyf45))) (And.intro (And.intro (And.intro @tyf46 @tyf48) (And.intro @tyf50 @tyf65)) (And.intro (And.intro @tyf69 @tyf81) (And.intro @tyf139 @light86)))) := (And.intro (And.intro (And.intro (And.intro @tyf3 @tyf4) (And.intro @tyf9 @tyf41)) (And.intro (And.intro @tyf42 @tyf43) (And.intro @tyf44 @tyf45))) (And.intro (And.intro (And.intro @tyf46 @tyf48) (And.intro @tyf50 @tyf65)) (And.intro (And.intro @tyf69 @tyf81) (And.intro @tyf139 @light86))))
theorem factsOf104 : type_of% (And.intro (And.intro @tyf3 @tyf9) (And.intro @tyf41 (And.intro @light104 @fnf78))) := (And.intro (And.intro @tyf3 @tyf9) (And.intro @tyf41 (And.intro @light104 @fnf78)))
theorem factsOf105 : type_of% (And.intro @tyf3 (And.intro @light105 @fnf69)) := (And.intro @tyf3 (And.intro @light105 @fnf69))
end Go.Proofs.Ytcclbkkgpcpikaa
