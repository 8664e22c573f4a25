/-
  What the hints say of each function (written by a program).
-/
import Derived.Test.YtcclbkkgpcpikaaFa
import Derived.Test.YtcclbkkgpcpikaaTy
import Derived.Test.YtcclbkkgpcpikaaAm31
set_option linter.unusedSimpArgs false
set_option linter.unusedVariables false
namespace Go.Proofs.Ytcclbkkgpcpikaa
open Go.Am
theorem ok3 : hints.ok 3 = true := by kernel_rfl
theorem opn3 : hints.opn 3 = false := by kernel_rfl
theorem imp3 : hints.imp 3 = false := by kernel_rfl
theorem mem3 : hints.mem 3 = false := by kernel_rfl
theorem prim3 : hints.prim 3 = none := by kernel_rfl
theorem light3 (r : Nat) : hints.light 3 r = [] := by kernel_rfl
theorem keep3_14 : hints.keep 3 14 = some ([0, 1, 5, 7, 10, 64, 65, 66], true) := by kernel_rfl
theorem keepB3_0 : hints.keepB 3 0 = some ([0, 1, 5, 7, 10], true) := by kernel_rfl
theorem keepB3_1 : hints.keepB 3 1 = some ([0, 1, 5, 7, 10, 64, 65, 66], true) := by kernel_rfl
theorem ok4 : hints.ok 4 = true := by kernel_rfl
theorem opn4 : hints.opn 4 = false := by kernel_rfl
theorem imp4 : hints.imp 4 = false := by kernel_rfl
theorem mem4 : hints.mem 4 = false := by kernel_rfl
theorem prim4 : hints.prim 4 = none := by kernel_rfl
theorem light4 (r : Nat) : hints.light 4 r = [] := by kernel_rfl
theorem ok5 : hints.ok 5 = true := by kernel_rfl
theorem opn5 : hints.opn 5 = false := by kernel_rfl
theorem imp5 : hints.imp 5 = false := by kernel_rfl
theorem mem5 : hints.mem 5 = false := by kernel_rfl
theorem prim5 : hints.prim 5 = none := by kernel_rfl
theorem light5 (r : Nat) : hints.light 5 r = [] := by kernel_rfl
theorem ok6 : hints.ok 6 = true := by kernel_rfl
theorem opn6 : hints.opn 6 = false := by kernel_rfl
theorem imp6 : hints.imp 6 = false := by kernel_rfl
theorem mem6 : hints.mem 6 = false := by kernel_rfl
theorem prim6 : hints.prim 6 = none := by kernel_rfl
theorem light6 (r : Nat) : hints.light 6 r = [] := by kernel_rfl
theorem keep6_12 : hints.keep 6 12 = some ([1, 8, 84, 85, 86], true) := by kernel_rfl
theorem keep6_16 : hints.keep 6 16 = some ([1, 8, 9, 10, 11, 84, 85, 86, 92, 93, 94], true) := by kernel_rfl
theorem keepB6_0 : hints.keepB 6 0 = some ([], true) := by kernel_rfl
theorem keepB6_1 : hints.keepB 6 1 = some ([1, 8, 84, 85, 86], true) := by kernel_rfl
theorem keepB6_2 : hints.keepB 6 2 = some ([1, 8, 10, 11, 84, 85, 86], true) := by kernel_rfl
theorem keepB6_3 : hints.keepB 6 3 = some ([1, 8, 9, 10, 11, 84, 85, 86, 92, 93, 94], true) := by kernel_rfl
theorem ok7 : hints.ok 7 = true := by kernel_rfl
theorem opn7 : hints.opn 7 = false := by kernel_rfl
theorem imp7 : hints.imp 7 = false := by kernel_rfl
theorem mem7 : hints.mem 7 = false := by kernel_rfl
theorem prim7 : hints.prim 7 = none := by kernel_rfl
theorem light7 (r : Nat) : hints.light 7 r = [] := by kernel_rfl
theorem keep7_12 : hints.keep 7 12 = some ([1, 2, 7, 8, 10, 63, 64, 65], true) := by kernel_rfl
theorem keep7_16 : hints.keep 7 16 = some ([1, 2, 7, 8, 10, 11, 12, 13, 63, 64, 65, 71, 72, 73], true) := by kernel_rfl
theorem keep7_28 : hints.keep 7 28 = some ([1, 7, 8, 16, 107, 108, 109], true) := by kernel_rfl
theorem keepB7_0 : hints.keepB 7 0 = some ([1, 2, 7, 8], true) := by kernel_rfl
theorem keepB7_1 : hints.keepB 7 1 = some ([1, 2, 7, 8, 10, 63, 64, 65], true) := by kernel_rfl
theorem keepB7_2 : hints.keepB 7 2 = some ([1, 2, 7, 8, 10, 12, 13, 63, 64, 65], true) := by kernel_rfl
theorem keepB7_3 : hints.keepB 7 3 = some ([1, 2, 7, 8, 10, 11, 12, 13, 63, 64, 65, 71, 72, 73], true) := by kernel_rfl
theorem keepB7_4 : hints.keepB 7 4 = some ([7, 8, 16], true) := by kernel_rfl
theorem keepB7_5 : hints.keepB 7 5 = some ([1, 7, 8, 16, 107, 108, 109], true) := by kernel_rfl
theorem ok8 : hints.ok 8 = true := by kernel_rfl
theorem opn8 : hints.opn 8 = false := by kernel_rfl
theorem imp8 : hints.imp 8 = false := by kernel_rfl
theorem mem8 : hints.mem 8 = false := by kernel_rfl
theorem prim8 : hints.prim 8 = none := by kernel_rfl
theorem light8 (r : Nat) : hints.light 8 r = [] := by kernel_rfl
theorem keep8_19 : hints.keep 8 19 = some ([3, 9, 10, 12, 13, 16, 17, 130, 131, 132], true) := by kernel_rfl
theorem keepB8_0 : hints.keepB 8 0 = some ([3, 9, 10, 12, 13, 16, 17], true) := by kernel_rfl
theorem keepB8_1 : hints.keepB 8 1 = some ([3, 9, 10, 12, 13, 16, 17, 130, 131, 132], true) := by kernel_rfl
theorem ok9 : hints.ok 9 = true := by kernel_rfl
theorem opn9 : hints.opn 9 = false := by kernel_rfl
theorem imp9 : hints.imp 9 = false := by kernel_rfl
theorem mem9 : hints.mem 9 = false := by kernel_rfl
theorem prim9 : hints.prim 9 = some Am.factOf := by kernel_rfl
theorem light9 (r : Nat) : hints.light 9 r = [] := by kernel_rfl
theorem ok10 : hints.ok 10 = true := by kernel_rfl
theorem opn10 : hints.opn 10 = false := by kernel_rfl
theorem imp10 : hints.imp 10 = false := by kernel_rfl
theorem mem10 : hints.mem 10 = true := by kernel_rfl
theorem prim10 : hints.prim 10 = none := by kernel_rfl
theorem light10 (r : Nat) : hints.light 10 r = [] := by kernel_rfl
theorem ok11 : hints.ok 11 = true := by kernel_rfl
theorem opn11 : hints.opn 11 = false := by kernel_rfl
theorem imp11 : hints.imp 11 = false := by kernel_rfl
theorem mem11 : hints.mem 11 = true := by kernel_rfl
theorem prim11 : hints.prim 11 = none := by kernel_rfl
theorem light11 (r : Nat) : hints.light 11 r = [] := by kernel_rfl
theorem keep11_6 : hints.keep 11 6 = some ([0, 1, 7, 17, 18, 19], true) := by kernel_rfl
theorem keepB11_0 : hints.keepB 11 0 = some ([7], true) := by kernel_rfl
theorem keepB11_1 : hints.keepB 11 1 = some ([0, 1, 7, 17, 18, 19], true) := by kernel_rfl
theorem ok12 : hints.ok 12 = true := by kernel_rfl
theorem opn12 : hints.opn 12 = false := by kernel_rfl
theorem imp12 : hints.imp 12 = false := by kernel_rfl
theorem mem12 : hints.mem 12 = false := by kernel_rfl
theorem prim12 : hints.prim 12 = none := by kernel_rfl
theorem light12 (r : Nat) : hints.light 12 r = [] := by kernel_rfl
theorem keep12_4 : hints.keep 12 4 = some ([0, 20, 21, 22], true) := by kernel_rfl
theorem keep12_7 : hints.keep 12 7 = some ([0, 20, 21, 22, 26, 27], true) := by kernel_rfl
theorem keepB12_0 : hints.keepB 12 0 = some ([], true) := by kernel_rfl
theorem keepB12_1 : hints.keepB 12 1 = some ([0, 20, 21, 22], true) := by kernel_rfl
theorem keepB12_2 : hints.keepB 12 2 = some ([0, 20, 21, 22], true) := by kernel_rfl
theorem keepB12_3 : hints.keepB 12 3 = some ([0, 20, 21, 22, 26, 27], true) := by kernel_rfl
theorem ok13 : hints.ok 13 = true := by kernel_rfl
theorem opn13 : hints.opn 13 = false := by kernel_rfl
theorem imp13 : hints.imp 13 = false := by kernel_rfl
theorem mem13 : hints.mem 13 = false := by kernel_rfl
theorem prim13 : hints.prim 13 = none := by kernel_rfl
theorem light13 (r : Nat) : hints.light 13 r = [] := by kernel_rfl
theorem keep13_4 : hints.keep 13 4 = some ([0, 18, 19, 20], true) := by kernel_rfl
theorem keepB13_0 : hints.keepB 13 0 = some ([], true) := by kernel_rfl
theorem keepB13_1 : hints.keepB 13 1 = some ([0, 18, 19, 20], true) := by kernel_rfl
theorem ok14 : hints.ok 14 = true := by kernel_rfl
theorem opn14 : hints.opn 14 = false := by kernel_rfl
theorem imp14 : hints.imp 14 = false := by kernel_rfl
theorem mem14 : hints.mem 14 = true := by kernel_rfl
theorem prim14 : hints.prim 14 = none := by kernel_rfl
theorem light14_0 : hints.light 14 0 = [] := by kernel_rfl
theorem light14_1 : hints.light 14 1 = [] := by kernel_rfl
theorem light14_2 : hints.light 14 2 = [] := by kernel_rfl
theorem light14_3 : hints.light 14 3 = [] := by kernel_rfl
theorem light14_4 : hints.light 14 4 = [] := by kernel_rfl
theorem light14_5 : hints.light 14 5 = [] := by kernel_rfl
theorem light14_6 : hints.light 14 6 = [] := by kernel_rfl
theorem light14_7 : hints.light 14 7 = [] := by kernel_rfl
theorem light14_8 : hints.light 14 8 = [] := by kernel_rfl
theorem light14_9 : hints.light 14 9 = [] := by kernel_rfl
theorem light14_10 : hints.light 14 10 = [] := by kernel_rfl
theorem light14_11 : hints.light 14 11 = [] := by kernel_rfl
theorem light14_12 : hints.light 14 12 = [12, 13] := by kernel_rfl
theorem light14_13 : hints.light 14 13 = [] := by kernel_rfl
theorem light14_14 : hints.light 14 14 = [] := by kernel_rfl
theorem light14_15 : hints.light 14 15 = [] := by kernel_rfl
theorem light14_16 : hints.light 14 16 = [] := by kernel_rfl
theorem light14_17 : hints.light 14 17 = [] := by kernel_rfl
theorem light14_18 : hints.light 14 18 = [] := by kernel_rfl
theorem light14_19 : hints.light 14 19 = [] := by kernel_rfl
theorem light14_20 : hints.light 14 20 = [] := by kernel_rfl
theorem light14_21 : hints.light 14 21 = [] := by kernel_rfl
theorem light14_22 : hints.light 14 22 = [] := by kernel_rfl
theorem light14_23 : hints.light 14 23 = [] := by kernel_rfl
theorem light14_24 : hints.light 14 24 = [] := by kernel_rfl
theorem light14_25 : hints.light 14 25 = [] := by kernel_rfl
theorem light14_26 : hints.light 14 26 = [] := by kernel_rfl
theorem light14_27 : hints.light 14 27 = [] := by kernel_rfl
theorem keep14_3 : hints.keep 14 3 = some ([0, 1, 2, 7, 17, 18], true) := by kernel_rfl
theorem keep14_9 : hints.keep 14 9 = some ([0, 2, 7, 33, 34, 35], true) := by kernel_rfl
theorem keep14_15 : hints.keep 14 15 = some ([0, 7, 60, 61], true) := by kernel_rfl
theorem keep14_18 : hints.keep 14 18 = some ([0, 7, 11, 60, 61, 64, 65], true) := by kernel_rfl
theorem keep14_21 : hints.keep 14 21 = some ([0, 7, 11, 12, 60, 61, 64, 65, 68, 69], true) := by kernel_rfl
theorem keepB14_0 : hints.keepB 14 0 = some ([0, 1, 2, 7], true) := by kernel_rfl
theorem keepB14_1 : hints.keepB 14 1 = some ([0, 1, 2, 7, 17, 18], true) := by kernel_rfl
theorem keepB14_2 : hints.keepB 14 2 = some ([0, 7], true) := by kernel_rfl
theorem keepB14_3 : hints.keepB 14 3 = some ([0, 2, 7, 33, 34, 35], true) := by kernel_rfl
theorem keepB14_4 : hints.keepB 14 4 = some ([7], true) := by kernel_rfl
theorem keepB14_5 : hints.keepB 14 5 = some ([0, 7, 60, 61], true) := by kernel_rfl
theorem keepB14_6 : hints.keepB 14 6 = some ([0, 7, 60, 61], true) := by kernel_rfl
theorem keepB14_7 : hints.keepB 14 7 = some ([0, 7, 11, 60, 61, 64, 65], true) := by kernel_rfl
theorem keepB14_8 : hints.keepB 14 8 = some ([0, 7, 11, 60, 61, 64, 65], true) := by kernel_rfl
theorem keepB14_9 : hints.keepB 14 9 = some ([0, 7, 11, 12, 60, 61, 64, 65, 68, 69], true) := by kernel_rfl
theorem ok15 : hints.ok 15 = true := by kernel_rfl
theorem opn15 : hints.opn 15 = false := by kernel_rfl
theorem imp15 : hints.imp 15 = false := by kernel_rfl
theorem mem15 : hints.mem 15 = false := by kernel_rfl
theorem prim15 : hints.prim 15 = none := by kernel_rfl
theorem light15 (r : Nat) : hints.light 15 r = [] := by kernel_rfl
theorem ok16 : hints.ok 16 = true := by kernel_rfl
theorem opn16 : hints.opn 16 = false := by kernel_rfl
theorem imp16 : hints.imp 16 = false := by kernel_rfl
theorem mem16 : hints.mem 16 = false := by kernel_rfl
theorem prim16 : hints.prim 16 = none := by kernel_rfl
theorem light16 (r : Nat) : hints.light 16 r = [] := by kernel_rfl
theorem keep16_4 : hints.keep 16 4 = some ([0, 1, 12, 13], true) := by kernel_rfl
theorem keepB16_0 : hints.keepB 16 0 = some ([], true) := by kernel_rfl
theorem keepB16_1 : hints.keepB 16 1 = some ([0, 1, 12, 13], true) := by kernel_rfl
theorem ok17 : hints.ok 17 = true := by kernel_rfl
theorem opn17 : hints.opn 17 = false := by kernel_rfl
theorem imp17 : hints.imp 17 = false := by kernel_rfl
theorem mem17 : hints.mem 17 = true := by kernel_rfl
theorem prim17 : hints.prim 17 = none := by kernel_rfl
theorem light17 (r : Nat) : hints.light 17 r = [] := by kernel_rfl
theorem keep17_4 : hints.keep 17 4 = some ([0, 3, 4, 9, 10], true) := by kernel_rfl
theorem keep17_8 : hints.keep 17 8 = some ([0, 3, 4, 5, 6, 9, 10, 13, 14], true) := by kernel_rfl
theorem keepB17_0 : hints.keepB 17 0 = some ([3], true) := by kernel_rfl
theorem keepB17_1 : hints.keepB 17 1 = some ([0, 3, 4, 9, 10], true) := by kernel_rfl
theorem keepB17_2 : hints.keepB 17 2 = some ([0, 3, 4, 6, 9, 10], true) := by kernel_rfl
theorem keepB17_3 : hints.keepB 17 3 = some ([0, 3, 4, 5, 6, 9, 10, 13, 14], true) := by kernel_rfl
theorem ok18 : hints.ok 18 = true := by kernel_rfl
theorem opn18 : hints.opn 18 = false := by kernel_rfl
theorem imp18 : hints.imp 18 = false := by kernel_rfl
theorem mem18 : hints.mem 18 = false := by kernel_rfl
theorem prim18 : hints.prim 18 = none := by kernel_rfl
theorem light18 (r : Nat) : hints.light 18 r = [] := by kernel_rfl
theorem ok19 : hints.ok 19 = true := by kernel_rfl
theorem opn19 : hints.opn 19 = false := by kernel_rfl
theorem imp19 : hints.imp 19 = false := by kernel_rfl
theorem mem19 : hints.mem 19 = true := by kernel_rfl
theorem prim19 : hints.prim 19 = none := by kernel_rfl
theorem light19 (r : Nat) : hints.light 19 r = [] := by kernel_rfl
theorem ok20 : hints.ok 20 = true := by kernel_rfl
theorem opn20 : hints.opn 20 = false := by kernel_rfl
theorem imp20 : hints.imp 20 = false := by kernel_rfl
theorem mem20 : hints.mem 20 = true := by kernel_rfl
theorem prim20 : hints.prim 20 = none := by kernel_rfl
theorem light20 (r : Nat) : hints.light 20 r = [] := by kernel_rfl
theorem keep20_6 : hints.keep 20 6 = some ([2, 12, 28, 29], true) := by kernel_rfl
theorem keepB20_0 : hints.keepB 20 0 = some ([], true) := by kernel_rfl
theorem keepB20_1 : hints.keepB 20 1 = some ([2, 12, 28, 29], true) := by kernel_rfl
theorem ok21 : hints.ok 21 = true := by kernel_rfl
theorem opn21 : hints.opn 21 = false := by kernel_rfl
theorem imp21 : hints.imp 21 = false := by kernel_rfl
theorem mem21 : hints.mem 21 = false := by kernel_rfl
theorem prim21 : hints.prim 21 = some Am.factOf := by kernel_rfl
theorem light21 (r : Nat) : hints.light 21 r = [] := by kernel_rfl
theorem ok22 : hints.ok 22 = true := by kernel_rfl
theorem opn22 : hints.opn 22 = false := by kernel_rfl
theorem imp22 : hints.imp 22 = false := by kernel_rfl
theorem mem22 : hints.mem 22 = false := by kernel_rfl
theorem prim22 : hints.prim 22 = none := by kernel_rfl
theorem light22 (r : Nat) : hints.light 22 r = [] := by kernel_rfl
theorem keep22_5 : hints.keep 22 5 = some ([1, 3, 53, 54, 55], true) := by kernel_rfl
theorem keep22_12 : hints.keep 22 12 = some ([1, 3, 67, 68, 69], true) := by kernel_rfl
theorem keep22_19 : hints.keep 22 19 = some ([1, 3, 87, 88, 89], true) := by kernel_rfl
theorem keepB22_0 : hints.keepB 22 0 = some ([1, 3], true) := by kernel_rfl
theorem keepB22_1 : hints.keepB 22 1 = some ([1, 3, 53, 54, 55], true) := by kernel_rfl
theorem keepB22_2 : hints.keepB 22 2 = some ([1, 3], true) := by kernel_rfl
theorem keepB22_3 : hints.keepB 22 3 = some ([1, 3, 67, 68, 69], true) := by kernel_rfl
theorem keepB22_4 : hints.keepB 22 4 = some ([1, 3], true) := by kernel_rfl
theorem keepB22_5 : hints.keepB 22 5 = some ([1, 3, 87, 88, 89], true) := by kernel_rfl
theorem ok23 : hints.ok 23 = true := by kernel_rfl
theorem opn23 : hints.opn 23 = false := by kernel_rfl
theorem imp23 : hints.imp 23 = false := by kernel_rfl
theorem mem23 : hints.mem 23 = false := by kernel_rfl
theorem prim23 : hints.prim 23 = none := by kernel_rfl
theorem light23 (r : Nat) : hints.light 23 r = [] := by kernel_rfl
theorem keep23_6 : hints.keep 23 6 = some ([1, 4, 49, 50, 51], true) := by kernel_rfl
theorem keep23_13 : hints.keep 23 13 = some ([1, 4, 63, 64, 65], true) := by kernel_rfl
theorem keep23_19 : hints.keep 23 19 = some ([1, 4, 9, 63, 64, 65, 77, 78, 79], true) := by kernel_rfl
theorem keepB23_0 : hints.keepB 23 0 = some ([1, 4], true) := by kernel_rfl
theorem keepB23_1 : hints.keepB 23 1 = some ([1, 4, 49, 50, 51], true) := by kernel_rfl
theorem keepB23_2 : hints.keepB 23 2 = some ([], true) := by kernel_rfl
theorem keepB23_3 : hints.keepB 23 3 = some ([1, 4, 63, 64, 65], true) := by kernel_rfl
theorem keepB23_4 : hints.keepB 23 4 = some ([1, 4, 9, 63, 64, 65], true) := by kernel_rfl
theorem keepB23_5 : hints.keepB 23 5 = some ([1, 4, 9, 63, 64, 65, 77, 78, 79], true) := by kernel_rfl
theorem ok24 : hints.ok 24 = true := by kernel_rfl
theorem opn24 : hints.opn 24 = false := by kernel_rfl
theorem imp24 : hints.imp 24 = false := by kernel_rfl
theorem mem24 : hints.mem 24 = false := by kernel_rfl
theorem prim24 : hints.prim 24 = none := by kernel_rfl
theorem light24 (r : Nat) : hints.light 24 r = [] := by kernel_rfl
theorem keep24_2 : hints.keep 24 2 = some ([0, 6, 7, 8], true) := by kernel_rfl
theorem keepB24_0 : hints.keepB 24 0 = some ([0], true) := by kernel_rfl
theorem keepB24_1 : hints.keepB 24 1 = some ([0, 6, 7, 8], true) := by kernel_rfl
theorem ok25 : hints.ok 25 = true := by kernel_rfl
theorem opn25 : hints.opn 25 = false := by kernel_rfl
theorem imp25 : hints.imp 25 = false := by kernel_rfl
theorem mem25 : hints.mem 25 = false := by kernel_rfl
theorem prim25 : hints.prim 25 = none := by kernel_rfl
theorem light25 (r : Nat) : hints.light 25 r = [] := by kernel_rfl
theorem keep25_4 : hints.keep 25 4 = some ([0, 24, 25], true) := by kernel_rfl
theorem keepB25_0 : hints.keepB 25 0 = some ([], true) := by kernel_rfl
theorem keepB25_1 : hints.keepB 25 1 = some ([0, 24, 25], true) := by kernel_rfl
theorem ok26 : hints.ok 26 = true := by kernel_rfl
theorem opn26 : hints.opn 26 = false := by kernel_rfl
theorem imp26 : hints.imp 26 = false := by kernel_rfl
theorem mem26 : hints.mem 26 = false := by kernel_rfl
theorem prim26 : hints.prim 26 = none := by kernel_rfl
theorem light26 (r : Nat) : hints.light 26 r = [] := by kernel_rfl
theorem ok27 : hints.ok 27 = true := by kernel_rfl
theorem opn27 : hints.opn 27 = false := by kernel_rfl
theorem imp27 : hints.imp 27 = false := by kernel_rfl
theorem mem27 : hints.mem 27 = false := by kernel_rfl
theorem prim27 : hints.prim 27 = none := by kernel_rfl
theorem light27 (r : Nat) : hints.light 27 r = [] := by kernel_rfl
theorem ok28 : hints.ok 28 = true := by kernel_rfl
theorem opn28 : hints.opn 28 = false := by kernel_rfl
theorem imp28 : hints.imp 28 = false := by kernel_rfl
theorem mem28 : hints.mem 28 = false := by kernel_rfl
theorem prim28 : hints.prim 28 = some Am.factOf := by kernel_rfl
theorem light28 (r : Nat) : hints.light 28 r = [] := by kernel_rfl
theorem ok29 : hints.ok 29 = true := by kernel_rfl
theorem opn29 : hints.opn 29 = false := by kernel_rfl
theorem imp29 : hints.imp 29 = false := by kernel_rfl
theorem mem29 : hints.mem 29 = true := by kernel_rfl
theorem prim29 : hints.prim 29 = none := by kernel_rfl
theorem light29 (r : Nat) : hints.light 29 r = [] := by kernel_rfl
theorem ok30 : hints.ok 30 = true := by kernel_rfl
theorem opn30 : hints.opn 30 = false := by kernel_rfl
theorem imp30 : hints.imp 30 = false := by kernel_rfl
theorem mem30 : hints.mem 30 = true := by kernel_rfl
theorem prim30 : hints.prim 30 = none := by kernel_rfl
theorem light30 (r : Nat) : hints.light 30 r = [] := by kernel_rfl
theorem keep30_6 : hints.keep 30 6 = some ([1, 4, 6, 24, 25, 26], true) := by kernel_rfl
theorem keep30_13 : hints.keep 30 13 = some ([1, 9, 10, 39, 40, 41], true) := by kernel_rfl
theorem keep30_18 : hints.keep 30 18 = some ([9, 10, 51, 52, 53], true) := by kernel_rfl
theorem keepB30_0 : hints.keepB 30 0 = some ([1, 4, 6], true) := by kernel_rfl
theorem keepB30_1 : hints.keepB 30 1 = some ([1, 4, 6, 24, 25, 26], true) := by kernel_rfl
theorem keepB30_2 : hints.keepB 30 2 = some ([1, 9, 10], true) := by kernel_rfl
theorem keepB30_3 : hints.keepB 30 3 = some ([1, 9, 10, 39, 40, 41], true) := by kernel_rfl
theorem keepB30_4 : hints.keepB 30 4 = some ([9], true) := by kernel_rfl
theorem keepB30_5 : hints.keepB 30 5 = some ([9, 10, 51, 52, 53], true) := by kernel_rfl
theorem ok31 : hints.ok 31 = true := by kernel_rfl
theorem opn31 : hints.opn 31 = false := by kernel_rfl
theorem imp31 : hints.imp 31 = false := by kernel_rfl
theorem mem31 : hints.mem 31 = true := by kernel_rfl
theorem prim31 : hints.prim 31 = none := by kernel_rfl
theorem light31 (r : Nat) : hints.light 31 r = [] := by kernel_rfl
theorem keep31_5 : hints.keep 31 5 = some ([1, 2, 3, 4, 5, 20, 21, 22], true) := by kernel_rfl
theorem keep31_13 : hints.keep 31 13 = some ([2, 3, 9, 10, 52, 53, 54], true) := by kernel_rfl
theorem keepB31_0 : hints.keepB 31 0 = some ([1, 2, 3, 4, 5], true) := by kernel_rfl
theorem keepB31_1 : hints.keepB 31 1 = some ([1, 2, 3, 4, 5, 20, 21, 22], true) := by kernel_rfl
theorem keepB31_2 : hints.keepB 31 2 = some ([2, 3, 10], true) := by kernel_rfl
theorem keepB31_3 : hints.keepB 31 3 = some ([2, 3, 9, 10, 52, 53, 54], true) := by kernel_rfl
theorem ok32 : hints.ok 32 = true := by kernel_rfl
theorem opn32 : hints.opn 32 = false := by kernel_rfl
theorem imp32 : hints.imp 32 = false := by kernel_rfl
theorem mem32 : hints.mem 32 = false := by kernel_rfl
theorem prim32 : hints.prim 32 = none := by kernel_rfl
theorem light32 (r : Nat) : hints.light 32 r = [] := by kernel_rfl
theorem keep32_3 : hints.keep 32 3 = some ([3, 6, 7, 8], true) := by kernel_rfl
theorem keepB32_0 : hints.keepB 32 0 = some ([3], true) := by kernel_rfl
theorem keepB32_1 : hints.keepB 32 1 = some ([3, 6, 7, 8], true) := by kernel_rfl
theorem ok33 : hints.ok 33 = true := by kernel_rfl
theorem opn33 : hints.opn 33 = false := by kernel_rfl
theorem imp33 : hints.imp 33 = false := by kernel_rfl
theorem mem33 : hints.mem 33 = false := by kernel_rfl
theorem prim33 : hints.prim 33 = none := by kernel_rfl
theorem light33 (r : Nat) : hints.light 33 r = [] := by kernel_rfl
theorem ok34 : hints.ok 34 = true := by kernel_rfl
theorem opn34 : hints.opn 34 = false := by kernel_rfl
theorem imp34 : hints.imp 34 = false := by kernel_rfl
theorem mem34 : hints.mem 34 = false := by kernel_rfl
theorem prim34 : hints.prim 34 = none := by kernel_rfl
theorem light34 (r : Nat) : hints.light 34 r = [] := by kernel_rfl
theorem ok35 : hints.ok 35 = true := by kernel_rfl
theorem opn35 : hints.opn 35 = false := by kernel_rfl
theorem imp35 : hints.imp 35 = false := by kernel_rfl
theorem mem35 : hints.mem 35 = false := by kernel_rfl
theorem prim35 : hints.prim 35 = none := by kernel_rfl
theorem light35 (r : Nat) : hints.light 35 r = [] := by kernel_rfl
theorem ok36 : hints.ok 36 = true := by kernel_rfl
theorem opn36 : hints.opn 36 = false := by kernel_rfl
theorem imp36 : hints.imp 36 = false := by kernel_rfl
theorem mem36 : hints.mem 36 = false := by kernel_rfl
theorem prim36 : hints.prim 36 = none := by kernel_rfl
theorem light36 (r : Nat) : hints.light 36 r = [] := by kernel_rfl
theorem ok37 : hints.ok 37 = true := by kernel_rfl
theorem opn37 : hints.opn 37 = false := by kernel_rfl
theorem imp37 : hints.imp 37 = false := by kernel_rfl
theorem mem37 : hints.mem 37 = false := by kernel_rfl
theorem prim37 : hints.prim 37 = some Am.factOf := by kernel_rfl
theorem light37 (r : Nat) : hints.light 37 r = [] := by kernel_rfl
theorem ok38 : hints.ok 38 = true := by kernel_rfl
theorem opn38 : hints.opn 38 = false := by kernel_rfl
theorem imp38 : hints.imp 38 = false := by kernel_rfl
theorem mem38 : hints.mem 38 = true := by kernel_rfl
theorem prim38 : hints.prim 38 = none := by kernel_rfl
theorem light38_0 : hints.light 38 0 = [] := by kernel_rfl
theorem light38_1 : hints.light 38 1 = [] := by kernel_rfl
theorem light38_2 : hints.light 38 2 = [] := by kernel_rfl
theorem light38_3 : hints.light 38 3 = [] := by kernel_rfl
theorem light38_4 : hints.light 38 4 = [] := by kernel_rfl
theorem light38_5 : hints.light 38 5 = [] := by kernel_rfl
theorem light38_6 : hints.light 38 6 = [] := by kernel_rfl
theorem light38_7 : hints.light 38 7 = [] := by kernel_rfl
theorem light38_8 : hints.light 38 8 = [] := by kernel_rfl
theorem light38_9 : hints.light 38 9 = [] := by kernel_rfl
theorem light38_10 : hints.light 38 10 = [0, 1] := by kernel_rfl
theorem light38_11 : hints.light 38 11 = [] := by kernel_rfl
theorem light38_12 : hints.light 38 12 = [] := by kernel_rfl
theorem keep38_6 : hints.keep 38 6 = some ([1, 5, 14, 15, 16], true) := by kernel_rfl
theorem keepB38_0 : hints.keepB 38 0 = some ([5], true) := by kernel_rfl
theorem keepB38_1 : hints.keepB 38 1 = some ([1, 5, 14, 15, 16], true) := by kernel_rfl
theorem ok39 : hints.ok 39 = true := by kernel_rfl
theorem opn39 : hints.opn 39 = false := by kernel_rfl
theorem imp39 : hints.imp 39 = false := by kernel_rfl
theorem mem39 : hints.mem 39 = true := by kernel_rfl
theorem prim39 : hints.prim 39 = none := by kernel_rfl
theorem light39 (r : Nat) : hints.light 39 r = [] := by kernel_rfl
theorem keep39_6 : hints.keep 39 6 = some ([1, 7, 18, 19, 20], true) := by kernel_rfl
theorem keepB39_0 : hints.keepB 39 0 = some ([7], true) := by kernel_rfl
theorem keepB39_1 : hints.keepB 39 1 = some ([1, 7, 18, 19, 20], true) := by kernel_rfl
theorem ok40 : hints.ok 40 = true := by kernel_rfl
theorem opn40 : hints.opn 40 = false := by kernel_rfl
theorem imp40 : hints.imp 40 = false := by kernel_rfl
theorem mem40 : hints.mem 40 = true := by kernel_rfl
theorem prim40 : hints.prim 40 = none := by kernel_rfl
theorem light40 (r : Nat) : hints.light 40 r = [] := by kernel_rfl
theorem ok41 : hints.ok 41 = true := by kernel_rfl
theorem opn41 : hints.opn 41 = false := by kernel_rfl
theorem imp41 : hints.imp 41 = false := by kernel_rfl
theorem mem41 : hints.mem 41 = false := by kernel_rfl
theorem prim41 : hints.prim 41 = none := by kernel_rfl
theorem light41 (r : Nat) : hints.light 41 r = [] := by kernel_rfl
theorem keep41_4 : hints.keep 41 4 = some ([0, 1, 12, 13], true) := by kernel_rfl
theorem keepB41_0 : hints.keepB 41 0 = some ([], true) := by kernel_rfl
theorem keepB41_1 : hints.keepB 41 1 = some ([0, 1, 12, 13], true) := by kernel_rfl
theorem ok42 : hints.ok 42 = true := by kernel_rfl
theorem opn42 : hints.opn 42 = false := by kernel_rfl
theorem imp42 : hints.imp 42 = false := by kernel_rfl
theorem mem42 : hints.mem 42 = false := by kernel_rfl
theorem prim42 : hints.prim 42 = none := by kernel_rfl
theorem light42 (r : Nat) : hints.light 42 r = [] := by kernel_rfl
theorem ok43 : hints.ok 43 = true := by kernel_rfl
theorem opn43 : hints.opn 43 = false := by kernel_rfl
theorem imp43 : hints.imp 43 = false := by kernel_rfl
theorem mem43 : hints.mem 43 = true := by kernel_rfl
theorem prim43 : hints.prim 43 = none := by kernel_rfl
theorem light43 (r : Nat) : hints.light 43 r = [] := by kernel_rfl
theorem ok44 : hints.ok 44 = true := by kernel_rfl
theorem opn44 : hints.opn 44 = false := by kernel_rfl
theorem imp44 : hints.imp 44 = false := by kernel_rfl
theorem mem44 : hints.mem 44 = true := by kernel_rfl
theorem prim44 : hints.prim 44 = none := by kernel_rfl
theorem light44 (r : Nat) : hints.light 44 r = [] := by kernel_rfl
theorem keep44_7 : hints.keep 44 7 = some ([1, 2, 3, 9, 10, 11, 31, 32], true) := by kernel_rfl
theorem keepB44_0 : hints.keepB 44 0 = some ([1, 2, 3, 9, 10, 11], true) := by kernel_rfl
theorem keepB44_1 : hints.keepB 44 1 = some ([1, 2, 3, 9, 10, 11, 31, 32], true) := by kernel_rfl
theorem ok45 : hints.ok 45 = true := by kernel_rfl
theorem opn45 : hints.opn 45 = false := by kernel_rfl
theorem imp45 : hints.imp 45 = false := by kernel_rfl
theorem mem45 : hints.mem 45 = false := by kernel_rfl
theorem prim45 : hints.prim 45 = none := by kernel_rfl
theorem light45 (r : Nat) : hints.light 45 r = [] := by kernel_rfl
theorem ok46 : hints.ok 46 = true := by kernel_rfl
theorem opn46 : hints.opn 46 = false := by kernel_rfl
theorem imp46 : hints.imp 46 = false := by kernel_rfl
theorem mem46 : hints.mem 46 = false := by kernel_rfl
theorem prim46 : hints.prim 46 = none := by kernel_rfl
theorem light46 (r : Nat) : hints.light 46 r = [] := by kernel_rfl
theorem keep46_2 : hints.keep 46 2 = some ([1, 7, 8, 9], true) := by kernel_rfl
theorem keepB46_0 : hints.keepB 46 0 = some ([], true) := by kernel_rfl
theorem keepB46_1 : hints.keepB 46 1 = some ([1, 7, 8, 9], true) := by kernel_rfl
theorem ok47 : hints.ok 47 = true := by kernel_rfl
theorem opn47 : hints.opn 47 = false := by kernel_rfl
theorem imp47 : hints.imp 47 = false := by kernel_rfl
theorem mem47 : hints.mem 47 = true := by kernel_rfl
theorem prim47 : hints.prim 47 = none := by kernel_rfl
theorem light47 (r : Nat) : hints.light 47 r = [] := by kernel_rfl
theorem keep47_3 : hints.keep 47 3 = some ([1, 3, 7, 8, 9], true) := by kernel_rfl
theorem keepB47_0 : hints.keepB 47 0 = some ([3], true) := by kernel_rfl
theorem keepB47_1 : hints.keepB 47 1 = some ([1, 3, 7, 8, 9], true) := by kernel_rfl
theorem ok48 : hints.ok 48 = true := by kernel_rfl
theorem opn48 : hints.opn 48 = false := by kernel_rfl
theorem imp48 : hints.imp 48 = false := by kernel_rfl
theorem mem48 : hints.mem 48 = true := by kernel_rfl
theorem prim48 : hints.prim 48 = none := by kernel_rfl
theorem light48 (r : Nat) : hints.light 48 r = [] := by kernel_rfl
theorem ok49 : hints.ok 49 = true := by kernel_rfl
theorem opn49 : hints.opn 49 = false := by kernel_rfl
theorem imp49 : hints.imp 49 = false := by kernel_rfl
theorem mem49 : hints.mem 49 = true := by kernel_rfl
theorem prim49 : hints.prim 49 = none := by kernel_rfl
theorem light49 (r : Nat) : hints.light 49 r = [] := by kernel_rfl
theorem keep49_3 : hints.keep 49 3 = some ([2, 5, 8, 9, 10], true) := by kernel_rfl
theorem keepB49_0 : hints.keepB 49 0 = some ([5], true) := by kernel_rfl
theorem keepB49_1 : hints.keepB 49 1 = some ([2, 5, 8, 9, 10], true) := by kernel_rfl
theorem ok50 : hints.ok 50 = true := by kernel_rfl
theorem opn50 : hints.opn 50 = false := by kernel_rfl
theorem imp50 : hints.imp 50 = false := by kernel_rfl
theorem mem50 : hints.mem 50 = false := by kernel_rfl
theorem prim50 : hints.prim 50 = none := by kernel_rfl
theorem light50 (r : Nat) : hints.light 50 r = [] := by kernel_rfl
theorem ok51 : hints.ok 51 = true := by kernel_rfl
theorem opn51 : hints.opn 51 = false := by kernel_rfl
theorem imp51 : hints.imp 51 = false := by kernel_rfl
theorem mem51 : hints.mem 51 = true := by kernel_rfl
theorem prim51 : hints.prim 51 = none := by kernel_rfl
theorem light51 (r : Nat) : hints.light 51 r = [] := by kernel_rfl
theorem ok52 : hints.ok 52 = true := by kernel_rfl
theorem opn52 : hints.opn 52 = false := by kernel_rfl
theorem imp52 : hints.imp 52 = false := by kernel_rfl
theorem mem52 : hints.mem 52 = true := by kernel_rfl
theorem prim52 : hints.prim 52 = none := by kernel_rfl
theorem light52 (r : Nat) : hints.light 52 r = [] := by kernel_rfl
theorem ok53 : hints.ok 53 = true := by kernel_rfl
theorem opn53 : hints.opn 53 = false := by kernel_rfl
theorem imp53 : hints.imp 53 = false := by kernel_rfl
theorem mem53 : hints.mem 53 = true := by kernel_rfl
theorem prim53 : hints.prim 53 = none := by kernel_rfl
theorem light53 (r : Nat) : hints.light 53 r = [] := by kernel_rfl
theorem keep53_7 : hints.keep 53 7 = some ([0, 1, 7, 8, 22, 23, 24], true) := by kernel_rfl
theorem keepB53_0 : hints.keepB 53 0 = some ([8], true) := by kernel_rfl
theorem keepB53_1 : hints.keepB 53 1 = some ([0, 1, 7, 8, 22, 23, 24], true) := by kernel_rfl
theorem ok54 : hints.ok 54 = true := by kernel_rfl
theorem opn54 : hints.opn 54 = false := by kernel_rfl
theorem imp54 : hints.imp 54 = false := by kernel_rfl
theorem mem54 : hints.mem 54 = false := by kernel_rfl
theorem prim54 : hints.prim 54 = none := by kernel_rfl
theorem light54 (r : Nat) : hints.light 54 r = [] := by kernel_rfl
theorem ok55 : hints.ok 55 = true := by kernel_rfl
theorem opn55 : hints.opn 55 = false := by kernel_rfl
theorem imp55 : hints.imp 55 = false := by kernel_rfl
theorem mem55 : hints.mem 55 = true := by kernel_rfl
theorem prim55 : hints.prim 55 = none := by kernel_rfl
theorem light55 (r : Nat) : hints.light 55 r = [] := by kernel_rfl
theorem keep55_4 : hints.keep 55 4 = some ([1, 2, 7, 8, 18, 19], true) := by kernel_rfl
theorem keep55_9 : hints.keep 55 9 = some ([1, 2, 7, 8, 10, 18, 19], true) := by kernel_rfl
theorem keep55_13 : hints.keep 55 13 = some ([1, 2, 7, 8, 10, 11, 18, 19, 41, 42, 43], true) := by kernel_rfl
theorem keepB55_0 : hints.keepB 55 0 = some ([7], true) := by kernel_rfl
theorem keepB55_1 : hints.keepB 55 1 = some ([1, 2, 7, 8, 18, 19], true) := by kernel_rfl
theorem keepB55_2 : hints.keepB 55 2 = some ([1, 2, 7, 8, 18, 19], true) := by kernel_rfl
theorem keepB55_3 : hints.keepB 55 3 = some ([1, 2, 7, 8, 10, 18, 19], true) := by kernel_rfl
theorem keepB55_4 : hints.keepB 55 4 = some ([1, 2, 7, 8, 10, 18, 19], true) := by kernel_rfl
theorem keepB55_5 : hints.keepB 55 5 = some ([1, 2, 7, 8, 10, 11, 18, 19, 41, 42, 43], true) := by kernel_rfl
theorem ok56 : hints.ok 56 = true := by kernel_rfl
theorem opn56 : hints.opn 56 = false := by kernel_rfl
theorem imp56 : hints.imp 56 = false := by kernel_rfl
theorem mem56 : hints.mem 56 = true := by kernel_rfl
theorem prim56 : hints.prim 56 = none := by kernel_rfl
theorem light56 (r : Nat) : hints.light 56 r = [] := by kernel_rfl
theorem keep56_4 : hints.keep 56 4 = some ([1, 2, 3, 4, 12, 13], true) := by kernel_rfl
theorem keep56_8 : hints.keep 56 8 = some ([1, 2, 3, 4, 12, 13, 14, 41, 42, 43], true) := by kernel_rfl
theorem keep56_21 : hints.keep 56 21 = some ([1, 2, 4, 12, 19, 20], true) := by kernel_rfl
theorem keep56_23 : hints.keep 56 23 = some ([1, 2, 4, 12, 19, 20, 95, 96, 97], true) := by kernel_rfl
theorem keepB56_0 : hints.keepB 56 0 = some ([1, 2, 3, 4, 12], true) := by kernel_rfl
theorem keepB56_1 : hints.keepB 56 1 = some ([1, 2, 3, 4, 12, 13], true) := by kernel_rfl
theorem keepB56_2 : hints.keepB 56 2 = some ([1, 2, 3, 4, 12, 13], true) := by kernel_rfl
theorem keepB56_3 : hints.keepB 56 3 = some ([1, 2, 3, 4, 12, 13, 14, 41, 42, 43], true) := by kernel_rfl
theorem keepB56_4 : hints.keepB 56 4 = some ([19], true) := by kernel_rfl
theorem keepB56_5 : hints.keepB 56 5 = some ([1, 2, 4, 12, 19, 20], true) := by kernel_rfl
theorem keepB56_6 : hints.keepB 56 6 = some ([1, 2, 4, 12, 19, 20], true) := by kernel_rfl
theorem keepB56_7 : hints.keepB 56 7 = some ([1, 2, 4, 12, 19, 20, 95, 96, 97], true) := by kernel_rfl
theorem ok57 : hints.ok 57 = true := by kernel_rfl
theorem opn57 : hints.opn 57 = false := by kernel_rfl
theorem imp57 : hints.imp 57 = false := by kernel_rfl
theorem mem57 : hints.mem 57 = true := by kernel_rfl
theorem prim57 : hints.prim 57 = none := by kernel_rfl
theorem light57 (r : Nat) : hints.light 57 r = [] := by kernel_rfl
theorem keep57_3 : hints.keep 57 3 = some ([3, 9, 10], true) := by kernel_rfl
theorem keepB57_0 : hints.keepB 57 0 = some ([3], true) := by kernel_rfl
theorem keepB57_1 : hints.keepB 57 1 = some ([3, 9, 10], true) := by kernel_rfl
theorem ok58 : hints.ok 58 = true := by kernel_rfl
theorem opn58 : hints.opn 58 = true := by kernel_rfl
theorem imp58 : hints.imp 58 = false := by kernel_rfl
theorem mem58 : hints.mem 58 = true := by kernel_rfl
theorem prim58 : hints.prim 58 = none := by kernel_rfl
theorem light58 (r : Nat) : hints.light 58 r = [] := by kernel_rfl
theorem keep58_4 : hints.keep 58 4 = some ([0, 1, 2, 3, 4, 5, 19, 20, 21], false) := by kernel_rfl
theorem keepB58_0 : hints.keepB 58 0 = some ([], false) := by kernel_rfl
theorem keepB58_1 : hints.keepB 58 1 = some ([0, 1, 2, 3, 4, 5, 19, 20, 21], false) := by kernel_rfl
theorem ok59 : hints.ok 59 = true := by kernel_rfl
theorem opn59 : hints.opn 59 = false := by kernel_rfl
theorem imp59 : hints.imp 59 = true := by kernel_rfl
theorem mem59 : hints.mem 59 = true := by kernel_rfl
theorem prim59 : hints.prim 59 = none := by kernel_rfl
theorem light59 (r : Nat) : hints.light 59 r = [] := by kernel_rfl
theorem ok60 : hints.ok 60 = true := by kernel_rfl
theorem opn60 : hints.opn 60 = false := by kernel_rfl
theorem imp60 : hints.imp 60 = false := by kernel_rfl
theorem mem60 : hints.mem 60 = false := by kernel_rfl
theorem prim60 : hints.prim 60 = none := by kernel_rfl
theorem light60 (r : Nat) : hints.light 60 r = [] := by kernel_rfl
theorem ok61 : hints.ok 61 = true := by kernel_rfl
theorem opn61 : hints.opn 61 = false := by kernel_rfl
theorem imp61 : hints.imp 61 = false := by kernel_rfl
theorem mem61 : hints.mem 61 = false := by kernel_rfl
theorem prim61 : hints.prim 61 = none := by kernel_rfl
theorem light61 (r : Nat) : hints.light 61 r = [] := by kernel_rfl
theorem ok62 : hints.ok 62 = true := by kernel_rfl
theorem opn62 : hints.opn 62 = false := by kernel_rfl
theorem imp62 : hints.imp 62 = true := by kernel_rfl
theorem mem62 : hints.mem 62 = true := by kernel_rfl
theorem prim62 : hints.prim 62 = none := by kernel_rfl
theorem light62 (r : Nat) : hints.light 62 r = [] := by kernel_rfl
theorem keepB62_0 : hints.keepB 62 0 = some ([2, 4, 6, 7], true) := by kernel_rfl
theorem keepB62_1 : hints.keepB 62 1 = some ([4, 9], true) := by kernel_rfl
theorem ok63 : hints.ok 63 = true := by kernel_rfl
theorem opn63 : hints.opn 63 = false := by kernel_rfl
theorem imp63 : hints.imp 63 = true := by kernel_rfl
theorem mem63 : hints.mem 63 = true := by kernel_rfl
theorem prim63 : hints.prim 63 = none := by kernel_rfl
theorem light63 (r : Nat) : hints.light 63 r = [] := by kernel_rfl
theorem keepB63_0 : hints.keepB 63 0 = some ([2, 3, 6, 9], true) := by kernel_rfl
theorem ok64 : hints.ok 64 = true := by kernel_rfl
theorem opn64 : hints.opn 64 = false := by kernel_rfl
theorem imp64 : hints.imp 64 = true := by kernel_rfl
theorem mem64 : hints.mem 64 = true := by kernel_rfl
theorem prim64 : hints.prim 64 = none := by kernel_rfl
theorem light64 (r : Nat) : hints.light 64 r = [] := by kernel_rfl
theorem ok65 : hints.ok 65 = true := by kernel_rfl
theorem opn65 : hints.opn 65 = true := by kernel_rfl
theorem imp65 : hints.imp 65 = false := by kernel_rfl
theorem mem65 : hints.mem 65 = false := by kernel_rfl
theorem prim65 : hints.prim 65 = none := by kernel_rfl
theorem light65 (r : Nat) : hints.light 65 r = [] := by kernel_rfl
theorem keep65_7 : hints.keep 65 7 = some ([2, 3, 21, 22, 23], false) := by kernel_rfl
theorem keepB65_0 : hints.keepB 65 0 = some ([1, 2, 3], false) := by kernel_rfl
theorem keepB65_1 : hints.keepB 65 1 = some ([2], false) := by kernel_rfl
theorem keepB65_2 : hints.keepB 65 2 = some ([2, 3, 21, 22, 23], false) := by kernel_rfl
theorem ok66 : hints.ok 66 = true := by kernel_rfl
theorem opn66 : hints.opn 66 = true := by kernel_rfl
theorem imp66 : hints.imp 66 = false := by kernel_rfl
theorem mem66 : hints.mem 66 = false := by kernel_rfl
theorem prim66 : hints.prim 66 = none := by kernel_rfl
theorem light66 (r : Nat) : hints.light 66 r = [] := by kernel_rfl
theorem keep66_2 : hints.keep 66 2 = some ([2, 3, 15, 16, 17], false) := by kernel_rfl
theorem keep66_11 : hints.keep 66 11 = some ([2, 3, 50, 51, 52], false) := by kernel_rfl
theorem keep66_20 : hints.keep 66 20 = some ([2, 72, 73, 74], false) := by kernel_rfl
theorem keepB66_0 : hints.keepB 66 0 = some ([2, 3], false) := by kernel_rfl
theorem keepB66_1 : hints.keepB 66 1 = some ([2, 3, 15, 16, 17], false) := by kernel_rfl
theorem keepB66_2 : hints.keepB 66 2 = some ([2, 3], false) := by kernel_rfl
theorem keepB66_3 : hints.keepB 66 3 = some ([2, 3, 50, 51, 52], false) := by kernel_rfl
theorem keepB66_4 : hints.keepB 66 4 = some ([], false) := by kernel_rfl
theorem keepB66_5 : hints.keepB 66 5 = some ([2, 72, 73, 74], false) := by kernel_rfl
theorem ok67 : hints.ok 67 = true := by kernel_rfl
theorem opn67 : hints.opn 67 = true := by kernel_rfl
theorem imp67 : hints.imp 67 = false := by kernel_rfl
theorem mem67 : hints.mem 67 = false := by kernel_rfl
theorem prim67 : hints.prim 67 = none := by kernel_rfl
theorem light67 (r : Nat) : hints.light 67 r = [] := by kernel_rfl
theorem ok68 : hints.ok 68 = true := by kernel_rfl
theorem opn68 : hints.opn 68 = false := by kernel_rfl
theorem imp68 : hints.imp 68 = false := by kernel_rfl
theorem mem68 : hints.mem 68 = true := by kernel_rfl
theorem prim68 : hints.prim 68 = none := by kernel_rfl
theorem light68 (r : Nat) : hints.light 68 r = [] := by kernel_rfl
theorem keep68_3 : hints.keep 68 3 = some ([1, 3, 15, 16, 17], true) := by kernel_rfl
theorem keep68_8 : hints.keep 68 8 = some ([1, 3, 34, 35, 36], true) := by kernel_rfl
theorem keep68_13 : hints.keep 68 13 = some ([1, 3, 56, 57, 58], true) := by kernel_rfl
theorem keep68_18 : hints.keep 68 18 = some ([1, 3, 91, 92, 93], true) := by kernel_rfl
theorem keep68_23 : hints.keep 68 23 = some ([3, 112, 113, 114], true) := by kernel_rfl
theorem keepB68_0 : hints.keepB 68 0 = some ([1, 3], true) := by kernel_rfl
theorem keepB68_1 : hints.keepB 68 1 = some ([1, 3, 15, 16, 17], true) := by kernel_rfl
theorem keepB68_2 : hints.keepB 68 2 = some ([1, 3], true) := by kernel_rfl
theorem keepB68_3 : hints.keepB 68 3 = some ([1, 3, 34, 35, 36], true) := by kernel_rfl
theorem keepB68_4 : hints.keepB 68 4 = some ([1, 3], true) := by kernel_rfl
theorem keepB68_5 : hints.keepB 68 5 = some ([1, 3, 56, 57, 58], true) := by kernel_rfl
theorem keepB68_6 : hints.keepB 68 6 = some ([1, 3], true) := by kernel_rfl
theorem keepB68_7 : hints.keepB 68 7 = some ([1, 3, 91, 92, 93], true) := by kernel_rfl
theorem keepB68_8 : hints.keepB 68 8 = some ([3], true) := by kernel_rfl
theorem keepB68_9 : hints.keepB 68 9 = some ([3, 112, 113, 114], true) := by kernel_rfl
theorem ok69 : hints.ok 69 = true := by kernel_rfl
theorem opn69 : hints.opn 69 = false := by kernel_rfl
theorem imp69 : hints.imp 69 = false := by kernel_rfl
theorem mem69 : hints.mem 69 = false := by kernel_rfl
theorem prim69 : hints.prim 69 = none := by kernel_rfl
theorem light69 (r : Nat) : hints.light 69 r = [] := by kernel_rfl
theorem ok70 : hints.ok 70 = true := by kernel_rfl
theorem opn70 : hints.opn 70 = false := by kernel_rfl
theorem imp70 : hints.imp 70 = false := by kernel_rfl
theorem mem70 : hints.mem 70 = false := by kernel_rfl
theorem prim70 : hints.prim 70 = none := by kernel_rfl
theorem light70 (r : Nat) : hints.light 70 r = [] := by kernel_rfl
theorem ok71 : hints.ok 71 = true := by kernel_rfl
theorem opn71 : hints.opn 71 = false := by kernel_rfl
theorem imp71 : hints.imp 71 = true := by kernel_rfl
theorem mem71 : hints.mem 71 = true := by kernel_rfl
theorem prim71 : hints.prim 71 = none := by kernel_rfl
theorem light71 (r : Nat) : hints.light 71 r = [] := by kernel_rfl
theorem ok72 : hints.ok 72 = true := by kernel_rfl
theorem opn72 : hints.opn 72 = true := by kernel_rfl
theorem imp72 : hints.imp 72 = false := by kernel_rfl
theorem mem72 : hints.mem 72 = false := by kernel_rfl
theorem prim72 : hints.prim 72 = none := by kernel_rfl
theorem light72 (r : Nat) : hints.light 72 r = [] := by kernel_rfl
theorem ok73 : hints.ok 73 = true := by kernel_rfl
theorem opn73 : hints.opn 73 = false := by kernel_rfl
theorem imp73 : hints.imp 73 = false := by kernel_rfl
theorem mem73 : hints.mem 73 = true := by kernel_rfl
theorem prim73 : hints.prim 73 = none := by kernel_rfl
theorem light73 (r : Nat) : hints.light 73 r = [] := by kernel_rfl
theorem ok74 : hints.ok 74 = true := by kernel_rfl
theorem opn74 : hints.opn 74 = false := by kernel_rfl
theorem imp74 : hints.imp 74 = false := by kernel_rfl
theorem mem74 : hints.mem 74 = false := by kernel_rfl
theorem prim74 : hints.prim 74 = none := by kernel_rfl
theorem light74 (r : Nat) : hints.light 74 r = [] := by kernel_rfl
theorem keep74_4 : hints.keep 74 4 = some ([0, 1, 12, 13], true) := by kernel_rfl
theorem keepB74_0 : hints.keepB 74 0 = some ([], true) := by kernel_rfl
theorem keepB74_1 : hints.keepB 74 1 = some ([0, 1, 12, 13], true) := by kernel_rfl
theorem ok75 : hints.ok 75 = true := by kernel_rfl
theorem opn75 : hints.opn 75 = false := by kernel_rfl
theorem imp75 : hints.imp 75 = false := by kernel_rfl
theorem mem75 : hints.mem 75 = true := by kernel_rfl
theorem prim75 : hints.prim 75 = none := by kernel_rfl
theorem light75 (r : Nat) : hints.light 75 r = [] := by kernel_rfl
theorem ok76 : hints.ok 76 = true := by kernel_rfl
theorem opn76 : hints.opn 76 = false := by kernel_rfl
theorem imp76 : hints.imp 76 = false := by kernel_rfl
theorem mem76 : hints.mem 76 = true := by kernel_rfl
theorem prim76 : hints.prim 76 = none := by kernel_rfl
theorem light76 (r : Nat) : hints.light 76 r = [] := by kernel_rfl
theorem keep76_4 : hints.keep 76 4 = some ([1, 2, 3, 4, 14, 15, 16], true) := by kernel_rfl
theorem keep76_10 : hints.keep 76 10 = some ([1, 2, 3, 4, 7, 26, 27, 28], true) := by kernel_rfl
theorem keepB76_0 : hints.keepB 76 0 = some ([1, 2, 3, 4], true) := by kernel_rfl
theorem keepB76_1 : hints.keepB 76 1 = some ([1, 2, 3, 4, 14, 15, 16], true) := by kernel_rfl
theorem keepB76_2 : hints.keepB 76 2 = some ([2, 3, 4, 7], true) := by kernel_rfl
theorem keepB76_3 : hints.keepB 76 3 = some ([1, 2, 3, 4, 7, 26, 27, 28], true) := by kernel_rfl
theorem ok77 : hints.ok 77 = true := by kernel_rfl
theorem opn77 : hints.opn 77 = true := by kernel_rfl
theorem imp77 : hints.imp 77 = false := by kernel_rfl
theorem mem77 : hints.mem 77 = false := by kernel_rfl
theorem prim77 : hints.prim 77 = none := by kernel_rfl
theorem light77 (r : Nat) : hints.light 77 r = [] := by kernel_rfl
theorem ok78 : hints.ok 78 = true := by kernel_rfl
theorem opn78 : hints.opn 78 = false := by kernel_rfl
theorem imp78 : hints.imp 78 = false := by kernel_rfl
theorem mem78 : hints.mem 78 = false := by kernel_rfl
theorem prim78 : hints.prim 78 = none := by kernel_rfl
theorem light78 (r : Nat) : hints.light 78 r = [] := by kernel_rfl
theorem keep78_2 : hints.keep 78 2 = some ([0, 1, 7, 8], true) := by kernel_rfl
theorem keepB78_0 : hints.keepB 78 0 = some ([], true) := by kernel_rfl
theorem keepB78_1 : hints.keepB 78 1 = some ([0, 1, 7, 8], true) := by kernel_rfl
theorem ok79 : hints.ok 79 = true := by kernel_rfl
theorem opn79 : hints.opn 79 = false := by kernel_rfl
theorem imp79 : hints.imp 79 = false := by kernel_rfl
theorem mem79 : hints.mem 79 = false := by kernel_rfl
theorem prim79 : hints.prim 79 = none := by kernel_rfl
theorem light79 (r : Nat) : hints.light 79 r = [] := by kernel_rfl
theorem ok80 : hints.ok 80 = true := by kernel_rfl
theorem opn80 : hints.opn 80 = false := by kernel_rfl
theorem imp80 : hints.imp 80 = false := by kernel_rfl
theorem mem80 : hints.mem 80 = false := by kernel_rfl
theorem prim80 : hints.prim 80 = none := by kernel_rfl
theorem light80 (r : Nat) : hints.light 80 r = [] := by kernel_rfl
theorem keep80_2 : hints.keep 80 2 = some ([0, 1, 7, 8], true) := by kernel_rfl
theorem keepB80_0 : hints.keepB 80 0 = some ([], true) := by kernel_rfl
theorem keepB80_1 : hints.keepB 80 1 = some ([0, 1, 7, 8], true) := by kernel_rfl
theorem ok81 : hints.ok 81 = true := by kernel_rfl
theorem opn81 : hints.opn 81 = false := by kernel_rfl
theorem imp81 : hints.imp 81 = false := by kernel_rfl
theorem mem81 : hints.mem 81 = false := by kernel_rfl
theorem prim81 : hints.prim 81 = none := by kernel_rfl
theorem light81 (r : Nat) : hints.light 81 r = [] := by kernel_rfl
theorem keep81_2 : hints.keep 81 2 = some ([0, 1, 7, 8], true) := by kernel_rfl
theorem keepB81_0 : hints.keepB 81 0 = some ([], true) := by kernel_rfl
theorem keepB81_1 : hints.keepB 81 1 = some ([0, 1, 7, 8], true) := by kernel_rfl
theorem ok82 : hints.ok 82 = true := by kernel_rfl
theorem opn82 : hints.opn 82 = false := by kernel_rfl
theorem imp82 : hints.imp 82 = false := by kernel_rfl
theorem mem82 : hints.mem 82 = false := by kernel_rfl
theorem prim82 : hints.prim 82 = none := by kernel_rfl
theorem light82 (r : Nat) : hints.light 82 r = [] := by kernel_rfl
theorem keep82_5 : hints.keep 82 5 = some ([2, 13, 14, 15], true) := by kernel_rfl
theorem keepB82_0 : hints.keepB 82 0 = some ([], true) := by kernel_rfl
theorem keepB82_1 : hints.keepB 82 1 = some ([2, 13, 14, 15], true) := by kernel_rfl
theorem ok83 : hints.ok 83 = true := by kernel_rfl
theorem opn83 : hints.opn 83 = false := by kernel_rfl
theorem imp83 : hints.imp 83 = false := by kernel_rfl
theorem mem83 : hints.mem 83 = true := by kernel_rfl
theorem prim83 : hints.prim 83 = none := by kernel_rfl
theorem light83 (r : Nat) : hints.light 83 r = [] := by kernel_rfl
theorem ok84 : hints.ok 84 = true := by kernel_rfl
theorem opn84 : hints.opn 84 = false := by kernel_rfl
theorem imp84 : hints.imp 84 = true := by kernel_rfl
theorem mem84 : hints.mem 84 = true := by kernel_rfl
theorem prim84 : hints.prim 84 = none := by kernel_rfl
theorem light84 (r : Nat) : hints.light 84 r = [] := by kernel_rfl
theorem keep84_4 : hints.keep 84 4 = some ([1, 2, 6, 7, 11, 12, 13], true) := by kernel_rfl
theorem keepB84_0 : hints.keepB 84 0 = some ([6, 7], true) := by kernel_rfl
theorem keepB84_1 : hints.keepB 84 1 = some ([1, 2, 6, 7, 11, 12, 13], true) := by kernel_rfl
theorem ok85 : hints.ok 85 = true := by kernel_rfl
theorem opn85 : hints.opn 85 = false := by kernel_rfl
theorem imp85 : hints.imp 85 = false := by kernel_rfl
theorem mem85 : hints.mem 85 = true := by kernel_rfl
theorem prim85 : hints.prim 85 = none := by kernel_rfl
theorem light85 (r : Nat) : hints.light 85 r = [] := by kernel_rfl
theorem keep85_3 : hints.keep 85 3 = some ([2, 3, 7, 10, 11, 12], true) := by kernel_rfl
theorem keepB85_0 : hints.keepB 85 0 = some ([7], true) := by kernel_rfl
theorem keepB85_1 : hints.keepB 85 1 = some ([2, 3, 7, 10, 11, 12], true) := by kernel_rfl
theorem ok86 : hints.ok 86 = true := by kernel_rfl
theorem opn86 : hints.opn 86 = false := by kernel_rfl
theorem imp86 : hints.imp 86 = false := by kernel_rfl
theorem mem86 : hints.mem 86 = false := by kernel_rfl
theorem prim86 : hints.prim 86 = none := by kernel_rfl
theorem light86 (r : Nat) : hints.light 86 r = [] := by kernel_rfl
theorem ok87 : hints.ok 87 = true := by kernel_rfl
theorem opn87 : hints.opn 87 = false := by kernel_rfl
theorem imp87 : hints.imp 87 = false := by kernel_rfl
theorem mem87 : hints.mem 87 = true := by kernel_rfl
theorem prim87 : hints.prim 87 = none := by kernel_rfl
theorem light87 (r : Nat) : hints.light 87 r = [] := by kernel_rfl
theorem keep87_3 : hints.keep 87 3 = some ([0, 1, 5, 9, 10, 11], true) := by kernel_rfl
theorem keepB87_0 : hints.keepB 87 0 = some ([5], true) := by kernel_rfl
theorem keepB87_1 : hints.keepB 87 1 = some ([0, 1, 5, 9, 10, 11], true) := by kernel_rfl
theorem ok88 : hints.ok 88 = true := by kernel_rfl
theorem opn88 : hints.opn 88 = false := by kernel_rfl
theorem imp88 : hints.imp 88 = false := by kernel_rfl
theorem mem88 : hints.mem 88 = false := by kernel_rfl
theorem prim88 : hints.prim 88 = none := by kernel_rfl
theorem light88 (r : Nat) : hints.light 88 r = [] := by kernel_rfl
theorem ok89 : hints.ok 89 = true := by kernel_rfl
theorem opn89 : hints.opn 89 = false := by kernel_rfl
theorem imp89 : hints.imp 89 = false := by kernel_rfl
theorem mem89 : hints.mem 89 = false := by kernel_rfl
theorem prim89 : hints.prim 89 = none := by kernel_rfl
theorem light89 (r : Nat) : hints.light 89 r = [] := by kernel_rfl
theorem ok90 : hints.ok 90 = true := by kernel_rfl
theorem opn90 : hints.opn 90 = false := by kernel_rfl
theorem imp90 : hints.imp 90 = false := by kernel_rfl
theorem mem90 : hints.mem 90 = false := by kernel_rfl
theorem prim90 : hints.prim 90 = none := by kernel_rfl
theorem light90 (r : Nat) : hints.light 90 r = [] := by kernel_rfl
theorem ok91 : hints.ok 91 = true := by kernel_rfl
theorem opn91 : hints.opn 91 = false := by kernel_rfl
theorem imp91 : hints.imp 91 = true := by kernel_rfl
theorem mem91 : hints.mem 91 = true := by kernel_rfl
theorem prim91 : hints.prim 91 = none := by kernel_rfl
theorem light91_0 : hints.light 91 0 = [] := by kernel_rfl
theorem light91_1 : hints.light 91 1 = [] := by kernel_rfl
theorem light91_2 : hints.light 91 2 = [] := by kernel_rfl
theorem light91_3 : hints.light 91 3 = [] := by kernel_rfl
theorem light91_4 : hints.light 91 4 = [] := by kernel_rfl
theorem light91_5 : hints.light 91 5 = [] := by kernel_rfl
theorem light91_6 : hints.light 91 6 = [] := by kernel_rfl
theorem light91_7 : hints.light 91 7 = [] := by kernel_rfl
theorem light91_8 : hints.light 91 8 = [] := by kernel_rfl
theorem light91_9 : hints.light 91 9 = [0] := by kernel_rfl
theorem light91_10 : hints.light 91 10 = [] := by kernel_rfl
theorem keep91_8 : hints.keep 91 8 = some ([7, 8], true) := by kernel_rfl
theorem keepB91_0 : hints.keepB 91 0 = some ([7], true) := by kernel_rfl
theorem keepB91_1 : hints.keepB 91 1 = some ([7, 8], true) := by kernel_rfl
theorem ok92 : hints.ok 92 = true := by kernel_rfl
theorem opn92 : hints.opn 92 = false := by kernel_rfl
theorem imp92 : hints.imp 92 = false := by kernel_rfl
theorem mem92 : hints.mem 92 = false := by kernel_rfl
theorem prim92 : hints.prim 92 = none := by kernel_rfl
theorem light92 (r : Nat) : hints.light 92 r = [] := by kernel_rfl
theorem ok93 : hints.ok 93 = true := by kernel_rfl
theorem opn93 : hints.opn 93 = true := by kernel_rfl
theorem imp93 : hints.imp 93 = false := by kernel_rfl
theorem mem93 : hints.mem 93 = true := by kernel_rfl
theorem prim93 : hints.prim 93 = none := by kernel_rfl
theorem light93 (r : Nat) : hints.light 93 r = [] := by kernel_rfl
theorem ok94 : hints.ok 94 = true := by kernel_rfl
theorem opn94 : hints.opn 94 = true := by kernel_rfl
theorem imp94 : hints.imp 94 = false := by kernel_rfl
theorem mem94 : hints.mem 94 = true := by kernel_rfl
theorem prim94 : hints.prim 94 = none := by kernel_rfl
theorem light94 (r : Nat) : hints.light 94 r = [] := by kernel_rfl
theorem ok95 : hints.ok 95 = true := by kernel_rfl
theorem opn95 : hints.opn 95 = true := by kernel_rfl
theorem imp95 : hints.imp 95 = false := by kernel_rfl
theorem mem95 : hints.mem 95 = true := by kernel_rfl
theorem prim95 : hints.prim 95 = none := by kernel_rfl
theorem light95 (r : Nat) : hints.light 95 r = [] := by kernel_rfl
theorem ok96 : hints.ok 96 = true := by kernel_rfl
theorem opn96 : hints.opn 96 = true := by kernel_rfl
theorem imp96 : hints.imp 96 = false := by kernel_rfl
theorem mem96 : hints.mem 96 = true := by kernel_rfl
theorem prim96 : hints.prim 96 = none := by kernel_rfl
theorem light96 (r : Nat) : hints.light 96 r = [] := by kernel_rfl
theorem ok97 : hints.ok 97 = true := by kernel_rfl
theorem opn97 : hints.opn 97 = true := by kernel_rfl
theorem imp97 : hints.imp 97 = false := by kernel_rfl
theorem mem97 : hints.mem 97 = true := by kernel_rfl
theorem prim97 : hints.prim 97 = none := by kernel_rfl
theorem light97 (r : Nat) : hints.light 97 r = [] := by kernel_rfl
theorem ok98 : hints.ok 98 = true := by kernel_rfl
theorem opn98 : hints.opn 98 = false := by kernel_rfl
theorem imp98 : hints.imp 98 = true := by kernel_rfl
theorem mem98 : hints.mem 98 = true := by kernel_rfl
theorem prim98 : hints.prim 98 = none := by kernel_rfl
theorem light98 (r : Nat) : hints.light 98 r = [] := by kernel_rfl
theorem ok99 : hints.ok 99 = true := by kernel_rfl
theorem opn99 : hints.opn 99 = false := by kernel_rfl
theorem imp99 : hints.imp 99 = true := by kernel_rfl
theorem mem99 : hints.mem 99 = true := by kernel_rfl
theorem prim99 : hints.prim 99 = none := by kernel_rfl
theorem light99 (r : Nat) : hints.light 99 r = [] := by kernel_rfl
theorem ok100 : hints.ok 100 = true := by kernel_rfl
theorem opn100 : hints.opn 100 = false := by kernel_rfl
theorem imp100 : hints.imp 100 = true := by kernel_rfl
theorem mem100 : hints.mem 100 = true := by kernel_rfl
theorem prim100 : hints.prim 100 = none := by kernel_rfl
theorem light100 (r : Nat) : hints.light 100 r = [] := by kernel_rfl
theorem ok101 : hints.ok 101 = true := by kernel_rfl
theorem opn101 : hints.opn 101 = false := by kernel_rfl
theorem imp101 : hints.imp 101 = true := by kernel_rfl
theorem mem101 : hints.mem 101 = true := by kernel_rfl
theorem prim101 : hints.prim 101 = none := by kernel_rfl
theorem light101 (r : Nat) : hints.light 101 r = [] := by kernel_rfl
theorem ok102 : hints.ok 102 = true := by kernel_rfl
theorem opn102 : hints.opn 102 = false := by kernel_rfl
theorem imp102 : hints.imp 102 = true := by kernel_rfl
theorem mem102 : hints.mem 102 = true := by kernel_rfl
theorem prim102 : hints.prim 102 = none := by kernel_rfl
theorem light102 (r : Nat) : hints.light 102 r = [] := by kernel_rfl
theorem ok103 : hints.ok 103 = true := by kernel_rfl
theorem opn103 : hints.opn 103 = false := by kernel_rfl
theorem imp103 : hints.imp 103 = true := by kernel_rfl
theorem mem103 : hints.mem 103 = true := by kernel_rfl
theorem prim103 : hints.prim 103 = none := by kernel_rfl
theorem light103 (r : Nat) : hints.light 103 r = [] := by kernel_rfl
theorem ok104 : hints.ok 104 = true := by kernel_rfl
theorem opn104 : hints.opn 104 = false := by kernel_rfl
theorem imp104 : hints.imp 104 = false := by kernel_rfl
theorem mem104 : hints.mem 104 = false := by kernel_rfl
theorem prim104 : hints.prim 104 = none := by kernel_rfl
theorem light104 (r : Nat) : hints.light 104 r = [] := by kernel_rfl
theorem ok105 : hints.ok 105 = true := by kernel_rfl
theorem opn105 : hints.opn 105 = false := by kernel_rfl
theorem imp105 : hints.imp 105 = false := by kernel_rfl
theorem mem105 : hints.mem 105 = false := by kernel_rfl
theorem prim105 : hints.prim 105 = none := by kernel_rfl
theorem light105 (r : Nat) : hints.light 105 r = [] := by kernel_rfl
theorem ok106 : hints.ok 106 = true := by kernel_rfl
theorem opn106 : hints.opn 106 = false := by kernel_rfl
theorem imp106 : hints.imp 106 = false := by kernel_rfl
theorem mem106 : hints.mem 106 = false := by kernel_rfl
theorem prim106 : hints.prim 106 = none := by kernel_rfl
theorem light106 (r : Nat) : hints.light 106 r = [] := by kernel_rfl
theorem keep106_2 : hints.keep 106 2 = some ([0, 1, 7, 8], true) := by kernel_rfl
theorem keepB106_0 : hints.keepB 106 0 = some ([], true) := by kernel_rfl
theorem keepB106_1 : hints.keepB 106 1 = some ([0, 1, 7, 8], true) := by kernel_rfl
theorem ok107 : hints.ok 107 = true := by kernel_rfl
theorem opn107 : hints.opn 107 = false := by kernel_rfl
theorem imp107 : hints.imp 107 = false := by kernel_rfl
theorem mem107 : hints.mem 107 = false := by kernel_rfl
theorem prim107 : hints.prim 107 = none := by kernel_rfl
theorem light107 (r : Nat) : hints.light 107 r = [] := by kernel_rfl
theorem ok108 : hints.ok 108 = true := by kernel_rfl
theorem opn108 : hints.opn 108 = false := by kernel_rfl
theorem imp108 : hints.imp 108 = true := by kernel_rfl
theorem mem108 : hints.mem 108 = true := by kernel_rfl
theorem prim108 : hints.prim 108 = none := by kernel_rfl
theorem light108 (r : Nat) : hints.light 108 r = [] := by kernel_rfl
theorem ok109 : hints.ok 109 = true := by kernel_rfl
theorem opn109 : hints.opn 109 = false := by kernel_rfl
theorem imp109 : hints.imp 109 = false := by kernel_rfl
theorem mem109 : hints.mem 109 = false := by kernel_rfl
theorem prim109 : hints.prim 109 = none := by kernel_rfl
theorem light109 (r : Nat) : hints.light 109 r = [] := by kernel_rfl
theorem keep109_2 : hints.keep 109 2 = some ([0, 1, 7, 8], true) := by kernel_rfl
theorem keepB109_0 : hints.keepB 109 0 = some ([], true) := by kernel_rfl
theorem keepB109_1 : hints.keepB 109 1 = some ([0, 1, 7, 8], true) := by kernel_rfl
theorem ok110 : hints.ok 110 = true := by kernel_rfl
theorem opn110 : hints.opn 110 = false := by kernel_rfl
theorem imp110 : hints.imp 110 = false := by kernel_rfl
theorem mem110 : hints.mem 110 = false := by kernel_rfl
theorem prim110 : hints.prim 110 = none := by kernel_rfl
theorem light110 (r : Nat) : hints.light 110 r = [] := by kernel_rfl
theorem keep110_2 : hints.keep 110 2 = some ([0, 1, 7, 8], true) := by kernel_rfl
theorem keepB110_0 : hints.keepB 110 0 = some ([], true) := by kernel_rfl
theorem keepB110_1 : hints.keepB 110 1 = some ([0, 1, 7, 8], true) := by kernel_rfl
theorem ok111 : hints.ok 111 = true := by kernel_rfl
theorem opn111 : hints.opn 111 = false := by kernel_rfl
theorem imp111 : hints.imp 111 = false := by kernel_rfl
theorem mem111 : hints.mem 111 = false := by kernel_rfl
theorem prim111 : hints.prim 111 = none := by kernel_rfl
theorem light111 (r : Nat) : hints.light 111 r = [] := by kernel_rfl
theorem ok112 : hints.ok 112 = true := by kernel_rfl
theorem opn112 : hints.opn 112 = false := by kernel_rfl
theorem imp112 : hints.imp 112 = false := by kernel_rfl
theorem mem112 : hints.mem 112 = false := by kernel_rfl
theorem prim112 : hints.prim 112 = none := by kernel_rfl
theorem light112 (r : Nat) : hints.light 112 r = [] := by kernel_rfl
theorem ok113 : hints.ok 113 = true := by kernel_rfl
theorem opn113 : hints.opn 113 = false := by kernel_rfl
theorem imp113 : hints.imp 113 = false := by kernel_rfl
theorem mem113 : hints.mem 113 = false := by kernel_rfl
theorem prim113 : hints.prim 113 = none := by kernel_rfl
theorem light113 (r : Nat) : hints.light 113 r = [] := by kernel_rfl
theorem keep113_2 : hints.keep 113 2 = some ([0, 1, 7, 8], true) := by kernel_rfl
theorem keepB113_0 : hints.keepB 113 0 = some ([], true) := by kernel_rfl
theorem keepB113_1 : hints.keepB 113 1 = some ([0, 1, 7, 8], true) := by kernel_rfl
theorem ok114 : hints.ok 114 = true := by kernel_rfl
theorem opn114 : hints.opn 114 = false := by kernel_rfl
theorem imp114 : hints.imp 114 = false := by kernel_rfl
theorem mem114 : hints.mem 114 = false := by kernel_rfl
theorem prim114 : hints.prim 114 = none := by kernel_rfl
theorem light114 (r : Nat) : hints.light 114 r = [] := by kernel_rfl
theorem ok115 : hints.ok 115 = true := by kernel_rfl
theorem opn115 : hints.opn 115 = false := by kernel_rfl
theorem imp115 : hints.imp 115 = false := by kernel_rfl
theorem mem115 : hints.mem 115 = false := by kernel_rfl
theorem prim115 : hints.prim 115 = none := by kernel_rfl
theorem light115 (r : Nat) : hints.light 115 r = [] := by kernel_rfl
theorem ok116 : hints.ok 116 = true := by kernel_rfl
theorem opn116 : hints.opn 116 = false := by kernel_rfl
theorem imp116 : hints.imp 116 = false := by kernel_rfl
theorem mem116 : hints.mem 116 = false := by kernel_rfl
theorem prim116 : hints.prim 116 = none := by kernel_rfl
theorem light116 (r : Nat) : hints.light 116 r = [] := by kernel_rfl
theorem keep116_2 : hints.keep 116 2 = some ([0, 1, 7, 8], true) := by kernel_rfl
theorem keepB116_0 : hints.keepB 116 0 = some ([], true) := by kernel_rfl
theorem keepB116_1 : hints.keepB 116 1 = some ([0, 1, 7, 8], true) := by kernel_rfl
theorem ok117 : hints.ok 117 = true := by kernel_rfl
theorem opn117 : hints.opn 117 = false := by kernel_rfl
theorem imp117 : hints.imp 117 = false := by kernel_rfl
theorem mem117 : hints.mem 117 = false := by kernel_rfl
theorem prim117 : hints.prim 117 = none := by kernel_rfl
theorem light117 (r : Nat) : hints.light 117 r = [] := by kernel_rfl
theorem ok118 : hints.ok 118 = true := by kernel_rfl
theorem opn118 : hints.opn 118 = false := by kernel_rfl
theorem imp118 : hints.imp 118 = false := by kernel_rfl
theorem mem118 : hints.mem 118 = false := by kernel_rfl
theorem prim118 : hints.prim 118 = none := by kernel_rfl
theorem light118 (r : Nat) : hints.light 118 r = [] := by kernel_rfl
theorem ok119 : hints.ok 119 = true := by kernel_rfl
theorem opn119 : hints.opn 119 = false := by kernel_rfl
theorem imp119 : hints.imp 119 = false := by kernel_rfl
theorem mem119 : hints.mem 119 = false := by kernel_rfl
theorem prim119 : hints.prim 119 = none := by kernel_rfl
theorem light119 (r : Nat) : hints.light 119 r = [] := by kernel_rfl
theorem ok120 : hints.ok 120 = true := by kernel_rfl
theorem opn120 : hints.opn 120 = false := by kernel_rfl
theorem imp120 : hints.imp 120 = false := by kernel_rfl
theorem mem120 : hints.mem 120 = false := by kernel_rfl
theorem prim120 : hints.prim 120 = none := by kernel_rfl
theorem light120 (r : Nat) : hints.light 120 r = [] := by kernel_rfl
theorem cvInt3_160 : cvInt Try.prog 3 160 = some .u64 := by kernel_rfl
theorem cvStr9_116 : cvStr Try.prog 9 116 = 2 := by kernel_rfl
theorem cvInt160_3 : cvInt Try.prog 160 3 = some .i64 := by kernel_rfl
theorem cvInt160_167 : cvInt Try.prog 160 167 = some .u32 := by kernel_rfl
theorem cvInt167_160 : cvInt Try.prog 167 160 = some .u64 := by kernel_rfl
theorem cvInt167_170 : cvInt Try.prog 167 170 = some .u64 := by kernel_rfl
theorem cvInt170_167 : cvInt Try.prog 170 167 = some .u32 := by kernel_rfl
theorem frzT22_22 : frzT hints #[22, 22] = false := by kernel_rfl
theorem frzT24_24 : frzT hints #[24, 24] = false := by kernel_rfl
theorem frzT41_41 : frzT hints #[41, 41] = false := by kernel_rfl
theorem frzT42_42 : frzT hints #[42, 42] = false := by kernel_rfl
theorem frzT43_43 : frzT hints #[43, 43] = false := by kernel_rfl
theorem frzT44_44 : frzT hints #[44, 44] = false := by kernel_rfl
theorem frzT45_45 : frzT hints #[45, 45] = false := by kernel_rfl
theorem frzT46_46 : frzT hints #[46, 46] = false := by kernel_rfl
theorem frzT72_72 : frzT hints #[72, 72] = false := by kernel_rfl
theorem frzT90_90 : frzT hints #[90, 90] = false := by kernel_rfl
theorem frzT112_112 : frzT hints #[112, 112] = true := by kernel_rfl
theorem notInt22 : notIntT Try.prog (some 22) = true := by kernel_rfl
theorem notInt24 : notIntT Try.prog (some 24) = true := by kernel_rfl
theorem notInt41 : notIntT Try.prog (some 41) = true := by kernel_rfl
theorem notInt42 : notIntT Try.prog (some 42) = true := by kernel_rfl
theorem notInt43 : notIntT Try.prog (some 43) = true := by kernel_rfl
theorem notInt44 : notIntT Try.prog (some 44) = true := by kernel_rfl
theorem notInt45 : notIntT Try.prog (some 45) = true := by kernel_rfl
theorem notInt46 : notIntT Try.prog (some 46) = true := by kernel_rfl
theorem notInt72 : notIntT Try.prog (some 72) = true := by kernel_rfl
theorem notInt90 : notIntT Try.prog (some 90) = true := by kernel_rfl
theorem notInt112 : notIntT Try.prog (some 112) = true := by kernel_rfl
theorem structOk48 : structOk Try.prog 48 = true := by kernel_rfl
theorem placeS48_0 : placeS Try.prog 48 0 = some (0, 1) := by kernel_rfl
theorem placeS48_1 : placeS Try.prog 48 1 = some (1, 1) := by kernel_rfl
theorem placeS48_2 : placeS Try.prog 48 2 = some (2, 1) := by kernel_rfl
theorem placeS48_3 : placeS Try.prog 48 3 = some (3, 1) := by kernel_rfl
theorem placeS48_4 : placeS Try.prog 48 4 = some (4, 1) := by kernel_rfl
theorem placeS48_5 : placeS Try.prog 48 5 = some (5, 1) := by kernel_rfl
theorem structOk50 : structOk Try.prog 50 = true := by kernel_rfl
theorem placeS50_0 : placeS Try.prog 50 0 = some (0, 1) := by kernel_rfl
theorem placeS50_1 : placeS Try.prog 50 1 = some (1, 1) := by kernel_rfl
theorem placeS50_2 : placeS Try.prog 50 2 = some (2, 1) := by kernel_rfl
theorem placeS50_3 : placeS Try.prog 50 3 = some (3, 1) := by kernel_rfl
theorem placeS50_4 : placeS Try.prog 50 4 = some (4, 1) := by kernel_rfl
theorem placeS50_5 : placeS Try.prog 50 5 = some (5, 1) := by kernel_rfl
theorem placeS50_6 : placeS Try.prog 50 6 = some (6, 1) := by kernel_rfl
theorem placeS50_7 : placeS Try.prog 50 7 = some (7, 1) := by kernel_rfl
theorem placeS50_8 : placeS Try.prog 50 8 = some (8, 1) := by kernel_rfl
theorem structOk56 : structOk Try.prog 56 = true := by kernel_rfl
theorem placeS56_0 : placeS Try.prog 56 0 = some (0, 1) := by kernel_rfl
theorem placeS56_1 : placeS Try.prog 56 1 = some (1, 1) := by kernel_rfl
theorem structOk65 : structOk Try.prog 65 = true := by kernel_rfl
theorem placeS65_0 : placeS Try.prog 65 0 = some (0, 1) := by kernel_rfl
theorem placeS65_1 : placeS Try.prog 65 1 = some (1, 1) := by kernel_rfl
theorem placeS65_2 : placeS Try.prog 65 2 = some (2, 1) := by kernel_rfl
theorem placeS65_3 : placeS Try.prog 65 3 = some (3, 1) := by kernel_rfl
theorem placeS65_4 : placeS Try.prog 65 4 = some (4, 1) := by kernel_rfl
theorem structOk81 : structOk Try.prog 81 = true := by kernel_rfl
theorem placeS81_0 : placeS Try.prog 81 0 = some (0, 1) := by kernel_rfl
theorem placeS81_1 : placeS Try.prog 81 1 = some (1, 1) := by kernel_rfl
theorem placeS81_2 : placeS Try.prog 81 2 = some (2, 1) := by kernel_rfl
theorem placeS81_3 : placeS Try.prog 81 3 = some (3, 1) := by kernel_rfl
theorem placeS81_4 : placeS Try.prog 81 4 = some (4, 1) := by kernel_rfl
theorem structOk109 : structOk Try.prog 109 = true := by kernel_rfl
theorem placeS109_0 : placeS Try.prog 109 0 = some (0, 1) := by kernel_rfl
theorem placeS109_1 : placeS Try.prog 109 1 = some (1, 1) := by kernel_rfl
theorem structOk115 : structOk Try.prog 115 = true := by kernel_rfl
theorem placeS115_0 : placeS Try.prog 115 0 = some (0, 1) := by kernel_rfl
theorem placeS115_1 : placeS Try.prog 115 1 = some (1, 1) := by kernel_rfl
theorem placeS115_2 : placeS Try.prog 115 2 = some (2, 1) := by kernel_rfl
theorem placeS115_3 : placeS Try.prog 115 3 = some (3, 1) := by kernel_rfl
theorem structOk139 : structOk Try.prog 139 = true := by kernel_rfl
theorem placeS139_0 : placeS Try.prog 139 0 = some (0, 1) := by kernel_rfl
theorem placeS139_1 : placeS Try.prog 139 1 = some (1, 1) := by kernel_rfl
theorem placeS139_2 : placeS Try.prog 139 2 = some (2, 1) := by kernel_rfl
theorem structOk154 : structOk Try.prog 154 = true := by kernel_rfl
theorem placeS154_0 : placeS Try.prog 154 0 = some (0, 6) := by kernel_rfl
theorem placeS154_1 : placeS Try.prog 154 1 = some (6, 2) := by kernel_rfl
theorem tyf0 : type_of% (And.intro @tsize0 (And.intro @tbytes0 @tagg0)) := (And.intro @tsize0 (And.intro @tbytes0 @tagg0))
theorem tyf1 : type_of% (And.intro (And.intro @tsize1 @tbytes1) (And.intro @tagg1 @zcells1)) := (And.intro (And.intro @tsize1 @tbytes1) (And.intro @tagg1 @zcells1))
theorem tyf2 : type_of% (And.intro (And.intro @tsize2 @tbytes2) (And.intro @tagg2 @zcells2)) := (And.intro (And.intro @tsize2 @tbytes2) (And.intro @tagg2 @zcells2))
theorem tyf3 : type_of% (And.intro (And.intro @tsize3 @tbytes3) (And.intro @tagg3 @zcells3)) := (And.intro (And.intro @tsize3 @tbytes3) (And.intro @tagg3 @zcells3))
theorem tyf4 : type_of% (And.intro (And.intro @tsize4 @tbytes4) (And.intro @tagg4 (And.intro @zcells4 @isBoolT4))) := (And.intro (And.intro @tsize4 @tbytes4) (And.intro @tagg4 (And.intro @zcells4 @isBoolT4)))
theorem tyf5 : type_of% (And.intro (And.intro @tsize5 @tbytes5) (And.intro @tagg5 @zcells5)) := (And.intro (And.intro @tsize5 @tbytes5) (And.intro @tagg5 @zcells5))
theorem tyf6 : type_of% (And.intro (And.intro @tsize6 @tbytes6) (And.intro @tagg6 @zcells6)) := (And.intro (And.intro @tsize6 @tbytes6) (And.intro @tagg6 @zcells6))
theorem tyf7 : type_of% (And.intro (And.intro (And.intro @tsize7 @tbytes7) (And.intro @tagg7 @zcells7)) (And.intro (And.intro @fieldAt7_0 @fieldAt7_1) (And.intro @fieldAt7_2 @fieldAt7_3))) := (And.intro (And.intro (And.intro @tsize7 @tbytes7) (And.intro @tagg7 @zcells7)) (And.intro (And.intro @fieldAt7_0 @fieldAt7_1) (And.intro @fieldAt7_2 @fieldAt7_3)))
theorem tyf8 : type_of% (And.intro (And.intro (And.intro @tsize8 @tbytes8) (And.intro @tagg8 @zcells8)) (And.intro (And.intro @fieldAt8_0 @fieldAt8_1) (And.intro @fieldAt8_2 @fieldAt8_3))) := (And.intro (And.intro (And.intro @tsize8 @tbytes8) (And.intro @tagg8 @zcells8)) (And.intro (And.intro @fieldAt8_0 @fieldAt8_1) (And.intro @fieldAt8_2 @fieldAt8_3)))
theorem tyf9 : type_of% (And.intro (And.intro @tsize9 @tbytes9) (And.intro @tagg9 (And.intro @zcells9 @isStrT9))) := (And.intro (And.intro @tsize9 @tbytes9) (And.intro @tagg9 (And.intro @zcells9 @isStrT9)))
theorem tyf10 : type_of% (And.intro (And.intro @tsize10 @tbytes10) (And.intro @tagg10 (And.intro @zcells10 @isStrT10))) := (And.intro (And.intro @tsize10 @tbytes10) (And.intro @tagg10 (And.intro @zcells10 @isStrT10)))
theorem tyf11 : type_of% (And.intro (And.intro @tsize11 @tbytes11) (And.intro @tagg11 (And.intro @zcells11 @isStrT11))) := (And.intro (And.intro @tsize11 @tbytes11) (And.intro @tagg11 (And.intro @zcells11 @isStrT11)))
theorem tyf12 : type_of% (And.intro (And.intro @tsize12 @tbytes12) (And.intro @tagg12 @zcells12)) := (And.intro (And.intro @tsize12 @tbytes12) (And.intro @tagg12 @zcells12))
theorem tyf13 : type_of% (And.intro (And.intro @tsize13 (And.intro @tbytes13 @tagg13)) (And.intro @zcells13 (And.intro @fieldAt13_0 @fieldAt13_1))) := (And.intro (And.intro @tsize13 (And.intro @tbytes13 @tagg13)) (And.intro @zcells13 (And.intro @fieldAt13_0 @fieldAt13_1)))
theorem tyf14 : type_of% (And.intro (And.intro @tsize14 (And.intro @tbytes14 @tagg14)) (And.intro @zcells14 (And.intro @fieldAt14_0 @fieldAt14_1))) := (And.intro (And.intro @tsize14 (And.intro @tbytes14 @tagg14)) (And.intro @zcells14 (And.intro @fieldAt14_0 @fieldAt14_1)))
theorem tyf15 : type_of% (And.intro (And.intro @tsize15 @tbytes15) (And.intro @tagg15 @zcells15)) := (And.intro (And.intro @tsize15 @tbytes15) (And.intro @tagg15 @zcells15))
theorem tyf16 : type_of% (And.intro (And.intro @tsize16 @tbytes16) (And.intro @tagg16 @zcells16)) := (And.intro (And.intro @tsize16 @tbytes16) (And.intro @tagg16 @zcells16))
theorem tyf17 : type_of% (And.intro (And.intro @tsize17 @tbytes17) (And.intro @tagg17 @zcells17)) := (And.intro (And.intro @tsize17 @tbytes17) (And.intro @tagg17 @zcells17))
theorem tyf18 : type_of% (And.intro (And.intro @tsize18 @tbytes18) (And.intro @tagg18 (And.intro @zcells18 @fieldAt18_0))) := (And.intro (And.intro @tsize18 @tbytes18) (And.intro @tagg18 (And.intro @zcells18 @fieldAt18_0)))
theorem tyf19 : type_of% (And.intro (And.intro @tsize19 @tbytes19) (And.intro @tagg19 (And.intro @zcells19 @fieldAt19_0))) := (And.intro (And.intro @tsize19 @tbytes19) (And.intro @tagg19 (And.intro @zcells19 @fieldAt19_0)))
theorem tyf20 : type_of% (And.intro @tsize20 (And.intro @tbytes20 @tagg20)) := (And.intro @tsize20 (And.intro @tbytes20 @tagg20))
theorem tyf21 : type_of% (And.intro (And.intro @tsize21 @tbytes21) (And.intro @tagg21 @zcells21)) := (And.intro (And.intro @tsize21 @tbytes21) (And.intro @tagg21 @zcells21))
theorem tyf22 : type_of% (And.intro (And.intro @tsize22 (And.intro @tbytes22 @tagg22)) (And.intro @telem22 (And.intro @slZ22 @zcells22))) := (And.intro (And.intro @tsize22 (And.intro @tbytes22 @tagg22)) (And.intro @telem22 (And.intro @slZ22 @zcells22)))
theorem tyf23 : type_of% (And.intro (And.intro @tsize23 @tbytes23) (And.intro @tagg23 @zcells23)) := (And.intro (And.intro @tsize23 @tbytes23) (And.intro @tagg23 @zcells23))
theorem tyf24 : type_of% (And.intro (And.intro @tsize24 (And.intro @tbytes24 @tagg24)) (And.intro @telem24 (And.intro @slZ24 @zcells24))) := (And.intro (And.intro @tsize24 (And.intro @tbytes24 @tagg24)) (And.intro @telem24 (And.intro @slZ24 @zcells24)))
theorem tyf25 : type_of% (And.intro (And.intro @tsize25 @tbytes25) (And.intro @tagg25 @zcells25)) := (And.intro (And.intro @tsize25 @tbytes25) (And.intro @tagg25 @zcells25))
theorem tyf26 : type_of% (And.intro @tsize26 (And.intro @tbytes26 @tagg26)) := (And.intro @tsize26 (And.intro @tbytes26 @tagg26))
theorem tyf27 : type_of% (And.intro (And.intro @tsize27 @tbytes27) (And.intro @tagg27 @zcells27)) := (And.intro (And.intro @tsize27 @tbytes27) (And.intro @tagg27 @zcells27))
theorem tyf28 : type_of% (And.intro (And.intro @tsize28 @tbytes28) (And.intro @tagg28 @zcells28)) := (And.intro (And.intro @tsize28 @tbytes28) (And.intro @tagg28 @zcells28))
theorem tyf29 : type_of% (And.intro (And.intro @tsize29 @tbytes29) (And.intro @tagg29 (And.intro @arrOf29 @zcells29))) := (And.intro (And.intro @tsize29 @tbytes29) (And.intro @tagg29 (And.intro @arrOf29 @zcells29)))
theorem tyf30 : type_of% (And.intro (And.intro @tsize30 (And.intro @tbytes30 @tagg30)) (And.intro @telem30 (And.intro @slZ30 @zcells30))) := (And.intro (And.intro @tsize30 (And.intro @tbytes30 @tagg30)) (And.intro @telem30 (And.intro @slZ30 @zcells30)))
theorem tyf31 : type_of% (And.intro (And.intro @tsize31 (And.intro @tbytes31 @tagg31)) (And.intro @telem31 (And.intro @slZ31 @zcells31))) := (And.intro (And.intro @tsize31 (And.intro @tbytes31 @tagg31)) (And.intro @telem31 (And.intro @slZ31 @zcells31)))
theorem tyf32 : type_of% (And.intro (And.intro @tsize32 @tbytes32) (And.intro @tagg32 @zcells32)) := (And.intro (And.intro @tsize32 @tbytes32) (And.intro @tagg32 @zcells32))
theorem tyf33 : type_of% (And.intro (And.intro @tsize33 @tbytes33) (And.intro @tagg33 @zcells33)) := (And.intro (And.intro @tsize33 @tbytes33) (And.intro @tagg33 @zcells33))
theorem tyf34 : type_of% (And.intro (And.intro @tsize34 @tbytes34) (And.intro @tagg34 @zcells34)) := (And.intro (And.intro @tsize34 @tbytes34) (And.intro @tagg34 @zcells34))
theorem tyf35 : type_of% (And.intro (And.intro @tsize35 @tbytes35) (And.intro @tagg35 @zcells35)) := (And.intro (And.intro @tsize35 @tbytes35) (And.intro @tagg35 @zcells35))
theorem tyf36 : type_of% (And.intro (And.intro @tsize36 @tbytes36) (And.intro @tagg36 @zcells36)) := (And.intro (And.intro @tsize36 @tbytes36) (And.intro @tagg36 @zcells36))
theorem tyf37 : type_of% (And.intro (And.intro @tsize37 @tbytes37) (And.intro @tagg37 @zcells37)) := (And.intro (And.intro @tsize37 @tbytes37) (And.intro @tagg37 @zcells37))
theorem tyf38 : type_of% (And.intro @tsize38 (And.intro @tbytes38 @tagg38)) := (And.intro @tsize38 (And.intro @tbytes38 @tagg38))
theorem tyf39 : type_of% (And.intro (And.intro @tsize39 @tbytes39) (And.intro @tagg39 @zcells39)) := (And.intro (And.intro @tsize39 @tbytes39) (And.intro @tagg39 @zcells39))
theorem tyf40 : type_of% (And.intro (And.intro @tsize40 @tbytes40) (And.intro @tagg40 @zcells40)) := (And.intro (And.intro @tsize40 @tbytes40) (And.intro @tagg40 @zcells40))
theorem tyf41 : type_of% (And.intro (And.intro @tsize41 (And.intro @tbytes41 @tagg41)) (And.intro @telem41 (And.intro @slZ41 @zcells41))) := (And.intro (And.intro @tsize41 (And.intro @tbytes41 @tagg41)) (And.intro @telem41 (And.intro @slZ41 @zcells41)))
theorem tyf42 : type_of% (And.intro (And.intro @tsize42 (And.intro @tbytes42 @tagg42)) (And.intro @telem42 (And.intro @slZ42 @zcells42))) := (And.intro (And.intro @tsize42 (And.intro @tbytes42 @tagg42)) (And.intro @telem42 (And.intro @slZ42 @zcells42)))
theorem tyf43 : type_of% (And.intro (And.intro @tsize43 (And.intro @tbytes43 @tagg43)) (And.intro @telem43 (And.intro @slZ43 @zcells43))) := (And.intro (And.intro @tsize43 (And.intro @tbytes43 @tagg43)) (And.intro @telem43 (And.intro @slZ43 @zcells43)))
theorem tyf44 : type_of% (And.intro (And.intro @tsize44 (And.intro @tbytes44 @tagg44)) (And.intro @telem44 (And.intro @slZ44 @zcells44))) := (And.intro (And.intro @tsize44 (And.intro @tbytes44 @tagg44)) (And.intro @telem44 (And.intro @slZ44 @zcells44)))
theorem tyf45 : type_of% (And.intro (And.intro @tsize45 (And.intro @tbytes45 @tagg45)) (And.intro @telem45 (And.intro @slZ45 @zcells45))) := (And.intro (And.intro @tsize45 (And.intro @tbytes45 @tagg45)) (And.intro @telem45 (And.intro @slZ45 @zcells45)))
theorem tyf46 : type_of% (And.intro (And.intro @tsize46 (And.intro @tbytes46 @tagg46)) (And.intro @telem46 (And.intro @slZ46 @zcells46))) := (And.intro (And.intro @tsize46 (And.intro @tbytes46 @tagg46)) (And.intro @telem46 (And.intro @slZ46 @zcells46)))
theorem tyf47 : type_of% (And.intro (And.intro (And.intro @tsize47 @tbytes47) (And.intro @tagg47 (And.intro @zcells47 @fieldAt47_0))) (And.intro (And.intro @fieldAt47_1 @fieldAt47_2) (And.intro @fieldAt47_3 (And.intro @fieldAt47_4 @fieldAt47_5)))) := (And.intro (And.intro (And.intro @tsize47 @tbytes47) (And.intro @tagg47 (And.intro @zcells47 @fieldAt47_0))) (And.intro (And.intro @fieldAt47_1 @fieldAt47_2) (And.intro @fieldAt47_3 (And.intro @fieldAt47_4 @fieldAt47_5))))
theorem tyf48 : type_of% (And.intro (And.intro (And.intro @tsize48 @tbytes48) (And.intro @tagg48 (And.intro @zcells48 @fieldAt48_0))) (And.intro (And.intro @fieldAt48_1 @fieldAt48_2) (And.intro @fieldAt48_3 (And.intro @fieldAt48_4 @fieldAt48_5)))) := (And.intro (And.intro (And.intro @tsize48 @tbytes48) (And.intro @tagg48 (And.intro @zcells48 @fieldAt48_0))) (And.intro (And.intro @fieldAt48_1 @fieldAt48_2) (And.intro @fieldAt48_3 (And.intro @fieldAt48_4 @fieldAt48_5))))
theorem tyf49 : type_of% (And.intro (And.intro (And.intro @tsize49 (And.intro @tbytes49 @tagg49)) (And.intro @zcells49 (And.intro @fieldAt49_0 @fieldAt49_1))) (And.intro (And.intro @fieldAt49_2 (And.intro @fieldAt49_3 @fieldAt49_4)) (And.intro (And.intro @fieldAt49_5 @fieldAt49_6) (And.intro @fieldAt49_7 @fieldAt49_8)))) := (And.intro (And.intro (And.intro @tsize49 (And.intro @tbytes49 @tagg49)) (And.intro @zcells49 (And.intro @fieldAt49_0 @fieldAt49_1))) (And.intro (And.intro @fieldAt49_2 (And.intro @fieldAt49_3 @fieldAt49_4)) (And.intro (And.intro @fieldAt49_5 @fieldAt49_6) (And.intro @fieldAt49_7 @fieldAt49_8))))
theorem tyf50 : type_of% (And.intro (And.intro (And.intro @tsize50 (And.intro @tbytes50 @tagg50)) (And.intro @zcells50 (And.intro @fieldAt50_0 @fieldAt50_1))) (And.intro (And.intro @fieldAt50_2 (And.intro @fieldAt50_3 @fieldAt50_4)) (And.intro (And.intro @fieldAt50_5 @fieldAt50_6) (And.intro @fieldAt50_7 @fieldAt50_8)))) := (And.intro (And.intro (And.intro @tsize50 (And.intro @tbytes50 @tagg50)) (And.intro @zcells50 (And.intro @fieldAt50_0 @fieldAt50_1))) (And.intro (And.intro @fieldAt50_2 (And.intro @fieldAt50_3 @fieldAt50_4)) (And.intro (And.intro @fieldAt50_5 @fieldAt50_6) (And.intro @fieldAt50_7 @fieldAt50_8))))
theorem tyf51 : type_of% (And.intro (And.intro @tsize51 @tbytes51) (And.intro @tagg51 @zcells51)) := (And.intro (And.intro @tsize51 @tbytes51) (And.intro @tagg51 @zcells51))
theorem tyf52 : type_of% (And.intro (And.intro @tsize52 @tbytes52) (And.intro @tagg52 @zcells52)) := (And.intro (And.intro @tsize52 @tbytes52) (And.intro @tagg52 @zcells52))
theorem tyf53 : type_of% (And.intro (And.intro @tsize53 @tbytes53) (And.intro @tagg53 @zcells53)) := (And.intro (And.intro @tsize53 @tbytes53) (And.intro @tagg53 @zcells53))
theorem tyf54 : type_of% (And.intro (And.intro @tsize54 @tbytes54) (And.intro @tagg54 @zcells54)) := (And.intro (And.intro @tsize54 @tbytes54) (And.intro @tagg54 @zcells54))
theorem tyf55 : type_of% (And.intro (And.intro @tsize55 (And.intro @tbytes55 @tagg55)) (And.intro @zcells55 (And.intro @fieldAt55_0 @fieldAt55_1))) := (And.intro (And.intro @tsize55 (And.intro @tbytes55 @tagg55)) (And.intro @zcells55 (And.intro @fieldAt55_0 @fieldAt55_1)))
theorem tyf56 : type_of% (And.intro (And.intro @tsize56 (And.intro @tbytes56 @tagg56)) (And.intro @zcells56 (And.intro @fieldAt56_0 @fieldAt56_1))) := (And.intro (And.intro @tsize56 (And.intro @tbytes56 @tagg56)) (And.intro @zcells56 (And.intro @fieldAt56_0 @fieldAt56_1)))
theorem tyf57 : type_of% (And.intro @tsize57 (And.intro @tbytes57 @tagg57)) := (And.intro @tsize57 (And.intro @tbytes57 @tagg57))
theorem tyf58 : type_of% (And.intro (And.intro @tsize58 @tbytes58) (And.intro @tagg58 @zcells58)) := (And.intro (And.intro @tsize58 @tbytes58) (And.intro @tagg58 @zcells58))
theorem tyf59 : type_of% (And.intro @tsize59 (And.intro @tbytes59 @tagg59)) := (And.intro @tsize59 (And.intro @tbytes59 @tagg59))
theorem tyf60 : type_of% (And.intro (And.intro @tsize60 @tbytes60) (And.intro @tagg60 @zcells60)) := (And.intro (And.intro @tsize60 @tbytes60) (And.intro @tagg60 @zcells60))
theorem tyf61 : type_of% (And.intro (And.intro @tsize61 @tbytes61) (And.intro @tagg61 @zcells61)) := (And.intro (And.intro @tsize61 @tbytes61) (And.intro @tagg61 @zcells61))
theorem tyf62 : type_of% (And.intro (And.intro @tsize62 @tbytes62) (And.intro @tagg62 @zcells62)) := (And.intro (And.intro @tsize62 @tbytes62) (And.intro @tagg62 @zcells62))
theorem tyf63 : type_of% (And.intro (And.intro @tsize63 @tbytes63) (And.intro @tagg63 @zcells63)) := (And.intro (And.intro @tsize63 @tbytes63) (And.intro @tagg63 @zcells63))
theorem tyf64 : type_of% (And.intro (And.intro (And.intro @tsize64 @tbytes64) (And.intro @tagg64 @zcells64)) (And.intro (And.intro @fieldAt64_0 @fieldAt64_1) (And.intro @fieldAt64_2 (And.intro @fieldAt64_3 @fieldAt64_4)))) := (And.intro (And.intro (And.intro @tsize64 @tbytes64) (And.intro @tagg64 @zcells64)) (And.intro (And.intro @fieldAt64_0 @fieldAt64_1) (And.intro @fieldAt64_2 (And.intro @fieldAt64_3 @fieldAt64_4))))
theorem tyf65 : type_of% (And.intro (And.intro (And.intro @tsize65 @tbytes65) (And.intro @tagg65 @zcells65)) (And.intro (And.intro @fieldAt65_0 @fieldAt65_1) (And.intro @fieldAt65_2 (And.intro @fieldAt65_3 @fieldAt65_4)))) := (And.intro (And.intro (And.intro @tsize65 @tbytes65) (And.intro @tagg65 @zcells65)) (And.intro (And.intro @fieldAt65_0 @fieldAt65_1) (And.intro @fieldAt65_2 (And.intro @fieldAt65_3 @fieldAt65_4))))
theorem tyf66 : type_of% (And.intro (And.intro @tsize66 @tbytes66) (And.intro @tagg66 @zcells66)) := (And.intro (And.intro @tsize66 @tbytes66) (And.intro @tagg66 @zcells66))
theorem tyf67 : type_of% (And.intro (And.intro @tsize67 @tbytes67) (And.intro @tagg67 @zcells67)) := (And.intro (And.intro @tsize67 @tbytes67) (And.intro @tagg67 @zcells67))
theorem tyf68 : type_of% (And.intro (And.intro (And.intro @tsize68 @tbytes68) (And.intro @tagg68 @zcells68)) (And.intro (And.intro @fieldAt68_0 @fieldAt68_1) (And.intro @fieldAt68_2 (And.intro @fieldAt68_3 @fieldAt68_4)))) := (And.intro (And.intro (And.intro @tsize68 @tbytes68) (And.intro @tagg68 @zcells68)) (And.intro (And.intro @fieldAt68_0 @fieldAt68_1) (And.intro @fieldAt68_2 (And.intro @fieldAt68_3 @fieldAt68_4))))
theorem tyf69 : type_of% (And.intro (And.intro (And.intro @tsize69 @tbytes69) (And.intro @tagg69 @zcells69)) (And.intro (And.intro @fieldAt69_0 @fieldAt69_1) (And.intro @fieldAt69_2 (And.intro @fieldAt69_3 @fieldAt69_4)))) := (And.intro (And.intro (And.intro @tsize69 @tbytes69) (And.intro @tagg69 @zcells69)) (And.intro (And.intro @fieldAt69_0 @fieldAt69_1) (And.intro @fieldAt69_2 (And.intro @fieldAt69_3 @fieldAt69_4))))
theorem tyf70 : type_of% (And.intro (And.intro @tsize70 @tbytes70) (And.intro @tagg70 @zcells70)) := (And.intro (And.intro @tsize70 @tbytes70) (And.intro @tagg70 @zcells70))
theorem tyf71 : type_of% (And.intro (And.intro @tsize71 @tbytes71) (And.intro @tagg71 @zcells71)) := (And.intro (And.intro @tsize71 @tbytes71) (And.intro @tagg71 @zcells71))
theorem tyf72 : type_of% (And.intro (And.intro @tsize72 (And.intro @tbytes72 @tagg72)) (And.intro @telem72 (And.intro @slZ72 @zcells72))) := (And.intro (And.intro @tsize72 (And.intro @tbytes72 @tagg72)) (And.intro @telem72 (And.intro @slZ72 @zcells72)))
theorem tyf73 : type_of% (And.intro @tsize73 (And.intro @tbytes73 @tagg73)) := (And.intro @tsize73 (And.intro @tbytes73 @tagg73))
theorem tyf74 : type_of% (And.intro (And.intro @tsize74 @tbytes74) (And.intro @tagg74 @zcells74)) := (And.intro (And.intro @tsize74 @tbytes74) (And.intro @tagg74 @zcells74))
theorem tyf75 : type_of% (And.intro @tsize75 (And.intro @tbytes75 @tagg75)) := (And.intro @tsize75 (And.intro @tbytes75 @tagg75))
theorem tyf76 : type_of% (And.intro (And.intro @tsize76 @tbytes76) (And.intro @tagg76 @zcells76)) := (And.intro (And.intro @tsize76 @tbytes76) (And.intro @tagg76 @zcells76))
theorem tyf77 : type_of% (And.intro (And.intro @tsize77 @tbytes77) (And.intro @tagg77 @zcells77)) := (And.intro (And.intro @tsize77 @tbytes77) (And.intro @tagg77 @zcells77))
theorem tyf78 : type_of% (And.intro (And.intro @tsize78 @tbytes78) (And.intro @tagg78 @zcells78)) := (And.intro (And.intro @tsize78 @tbytes78) (And.intro @tagg78 @zcells78))
theorem tyf79 : type_of% (And.intro (And.intro @tsize79 @tbytes79) (And.intro @tagg79 @zcells79)) := (And.intro (And.intro @tsize79 @tbytes79) (And.intro @tagg79 @zcells79))
theorem tyf80 : type_of% (And.intro (And.intro (And.intro @tsize80 @tbytes80) (And.intro @tagg80 @zcells80)) (And.intro (And.intro @fieldAt80_0 @fieldAt80_1) (And.intro @fieldAt80_2 (And.intro @fieldAt80_3 @fieldAt80_4)))) := (And.intro (And.intro (And.intro @tsize80 @tbytes80) (And.intro @tagg80 @zcells80)) (And.intro (And.intro @fieldAt80_0 @fieldAt80_1) (And.intro @fieldAt80_2 (And.intro @fieldAt80_3 @fieldAt80_4))))
theorem tyf81 : type_of% (And.intro (And.intro (And.intro @tsize81 @tbytes81) (And.intro @tagg81 @zcells81)) (And.intro (And.intro @fieldAt81_0 @fieldAt81_1) (And.intro @fieldAt81_2 (And.intro @fieldAt81_3 @fieldAt81_4)))) := (And.intro (And.intro (And.intro @tsize81 @tbytes81) (And.intro @tagg81 @zcells81)) (And.intro (And.intro @fieldAt81_0 @fieldAt81_1) (And.intro @fieldAt81_2 (And.intro @fieldAt81_3 @fieldAt81_4))))
theorem tyf82 : type_of% (And.intro (And.intro @tsize82 @tbytes82) (And.intro @tagg82 @zcells82)) := (And.intro (And.intro @tsize82 @tbytes82) (And.intro @tagg82 @zcells82))
theorem tyf83 : type_of% (And.intro (And.intro @tsize83 @tbytes83) (And.intro @tagg83 @zcells83)) := (And.intro (And.intro @tsize83 @tbytes83) (And.intro @tagg83 @zcells83))
theorem tyf84 : type_of% (And.intro (And.intro @tsize84 @tbytes84) (And.intro @tagg84 @zcells84)) := (And.intro (And.intro @tsize84 @tbytes84) (And.intro @tagg84 @zcells84))
theorem tyf85 : type_of% (And.intro (And.intro @tsize85 @tbytes85) (And.intro @tagg85 @zcells85)) := (And.intro (And.intro @tsize85 @tbytes85) (And.intro @tagg85 @zcells85))
theorem tyf86 : type_of% (And.intro (And.intro @tsize86 @tbytes86) (And.intro @tagg86 @zcells86)) := (And.intro (And.intro @tsize86 @tbytes86) (And.intro @tagg86 @zcells86))
theorem tyf87 : type_of% (And.intro (And.intro @tsize87 @tbytes87) (And.intro @tagg87 @zcells87)) := (And.intro (And.intro @tsize87 @tbytes87) (And.intro @tagg87 @zcells87))
theorem tyf88 : type_of% (And.intro (And.intro @tsize88 @tbytes88) (And.intro @tagg88 @zcells88)) := (And.intro (And.intro @tsize88 @tbytes88) (And.intro @tagg88 @zcells88))
theorem tyf89 : type_of% (And.intro (And.intro @tsize89 @tbytes89) (And.intro @tagg89 @zcells89)) := (And.intro (And.intro @tsize89 @tbytes89) (And.intro @tagg89 @zcells89))
theorem tyf90 : type_of% (And.intro (And.intro @tsize90 (And.intro @tbytes90 @tagg90)) (And.intro @telem90 (And.intro @slZ90 @zcells90))) := (And.intro (And.intro @tsize90 (And.intro @tbytes90 @tagg90)) (And.intro @telem90 (And.intro @slZ90 @zcells90)))
theorem tyf91 : type_of% (And.intro @tsize91 (And.intro @tbytes91 @tagg91)) := (And.intro @tsize91 (And.intro @tbytes91 @tagg91))
theorem tyf92 : type_of% (And.intro (And.intro @tsize92 @tbytes92) (And.intro @tagg92 @zcells92)) := (And.intro (And.intro @tsize92 @tbytes92) (And.intro @tagg92 @zcells92))
theorem tyf93 : type_of% (And.intro (And.intro @tsize93 @tbytes93) (And.intro @tagg93 @zcells93)) := (And.intro (And.intro @tsize93 @tbytes93) (And.intro @tagg93 @zcells93))
theorem tyf94 : type_of% (And.intro (And.intro @tsize94 @tbytes94) (And.intro @tagg94 @zcells94)) := (And.intro (And.intro @tsize94 @tbytes94) (And.intro @tagg94 @zcells94))
theorem tyf95 : type_of% (And.intro (And.intro @tsize95 @tbytes95) (And.intro @tagg95 @zcells95)) := (And.intro (And.intro @tsize95 @tbytes95) (And.intro @tagg95 @zcells95))
theorem tyf96 : type_of% (And.intro (And.intro @tsize96 @tbytes96) (And.intro @tagg96 @zcells96)) := (And.intro (And.intro @tsize96 @tbytes96) (And.intro @tagg96 @zcells96))
theorem tyf97 : type_of% (And.intro (And.intro @tsize97 @tbytes97) (And.intro @tagg97 @zcells97)) := (And.intro (And.intro @tsize97 @tbytes97) (And.intro @tagg97 @zcells97))
theorem tyf98 : type_of% (And.intro (And.intro @tsize98 @tbytes98) (And.intro @tagg98 @zcells98)) := (And.intro (And.intro @tsize98 @tbytes98) (And.intro @tagg98 @zcells98))
theorem tyf99 : type_of% (And.intro @tsize99 (And.intro @tbytes99 @tagg99)) := (And.intro @tsize99 (And.intro @tbytes99 @tagg99))
theorem tyf100 : type_of% (And.intro (And.intro @tsize100 @tbytes100) (And.intro @tagg100 @zcells100)) := (And.intro (And.intro @tsize100 @tbytes100) (And.intro @tagg100 @zcells100))
theorem tyf101 : type_of% (And.intro @tsize101 (And.intro @tbytes101 @tagg101)) := (And.intro @tsize101 (And.intro @tbytes101 @tagg101))
theorem tyf102 : type_of% (And.intro (And.intro @tsize102 @tbytes102) (And.intro @tagg102 @zcells102)) := (And.intro (And.intro @tsize102 @tbytes102) (And.intro @tagg102 @zcells102))
theorem tyf103 : type_of% (And.intro @tsize103 (And.intro @tbytes103 @tagg103)) := (And.intro @tsize103 (And.intro @tbytes103 @tagg103))
theorem tyf104 : type_of% (And.intro (And.intro @tsize104 @tbytes104) (And.intro @tagg104 @zcells104)) := (And.intro (And.intro @tsize104 @tbytes104) (And.intro @tagg104 @zcells104))
theorem tyf105 : type_of% (And.intro (And.intro @tsize105 @tbytes105) (And.intro @tagg105 @zcells105)) := (And.intro (And.intro @tsize105 @tbytes105) (And.intro @tagg105 @zcells105))
theorem tyf106 : type_of% (And.intro (And.intro @tsize106 @tbytes106) (And.intro @tagg106 @zcells106)) := (And.intro (And.intro @tsize106 @tbytes106) (And.intro @tagg106 @zcells106))
theorem tyf107 : type_of% (And.intro (And.intro @tsize107 @tbytes107) (And.intro @tagg107 (And.intro @strMap107 @zcells107))) := (And.intro (And.intro @tsize107 @tbytes107) (And.intro @tagg107 (And.intro @strMap107 @zcells107)))
theorem tyf108 : type_of% (And.intro (And.intro @tsize108 (And.intro @tbytes108 @tagg108)) (And.intro @zcells108 (And.intro @fieldAt108_0 @fieldAt108_1))) := (And.intro (And.intro @tsize108 (And.intro @tbytes108 @tagg108)) (And.intro @zcells108 (And.intro @fieldAt108_0 @fieldAt108_1)))
theorem tyf109 : type_of% (And.intro (And.intro @tsize109 (And.intro @tbytes109 @tagg109)) (And.intro @zcells109 (And.intro @fieldAt109_0 @fieldAt109_1))) := (And.intro (And.intro @tsize109 (And.intro @tbytes109 @tagg109)) (And.intro @zcells109 (And.intro @fieldAt109_0 @fieldAt109_1)))
theorem tyf110 : type_of% (And.intro (And.intro @tsize110 @tbytes110) (And.intro @tagg110 @zcells110)) := (And.intro (And.intro @tsize110 @tbytes110) (And.intro @tagg110 @zcells110))
theorem tyf111 : type_of% (And.intro (And.intro @tsize111 @tbytes111) (And.intro @tagg111 @zcells111)) := (And.intro (And.intro @tsize111 @tbytes111) (And.intro @tagg111 @zcells111))
theorem tyf112 : type_of% (And.intro (And.intro @tsize112 (And.intro @tbytes112 @tagg112)) (And.intro @telem112 (And.intro @slZ112 @zcells112))) := (And.intro (And.intro @tsize112 (And.intro @tbytes112 @tagg112)) (And.intro @telem112 (And.intro @slZ112 @zcells112)))
theorem tyf113 : type_of% (And.intro (And.intro @tsize113 @tbytes113) (And.intro @tagg113 @zcells113)) := (And.intro (And.intro @tsize113 @tbytes113) (And.intro @tagg113 @zcells113))
theorem tyf114 : type_of% (And.intro (And.intro (And.intro @tsize114 @tbytes114) (And.intro @tagg114 @zcells114)) (And.intro (And.intro @fieldAt114_0 @fieldAt114_1) (And.intro @fieldAt114_2 @fieldAt114_3))) := (And.intro (And.intro (And.intro @tsize114 @tbytes114) (And.intro @tagg114 @zcells114)) (And.intro (And.intro @fieldAt114_0 @fieldAt114_1) (And.intro @fieldAt114_2 @fieldAt114_3)))
theorem tyf115 : type_of% (And.intro (And.intro (And.intro @tsize115 @tbytes115) (And.intro @tagg115 @zcells115)) (And.intro (And.intro @fieldAt115_0 @fieldAt115_1) (And.intro @fieldAt115_2 @fieldAt115_3))) := (And.intro (And.intro (And.intro @tsize115 @tbytes115) (And.intro @tagg115 @zcells115)) (And.intro (And.intro @fieldAt115_0 @fieldAt115_1) (And.intro @fieldAt115_2 @fieldAt115_3)))
theorem tyf116 : type_of% (And.intro (And.intro @tsize116 (And.intro @tbytes116 @tagg116)) (And.intro @telem116 (And.intro @slZ116 @zcells116))) := (And.intro (And.intro @tsize116 (And.intro @tbytes116 @tagg116)) (And.intro @telem116 (And.intro @slZ116 @zcells116)))
theorem tyf117 : type_of% (And.intro (And.intro @tsize117 @tbytes117) (And.intro @tagg117 @zcells117)) := (And.intro (And.intro @tsize117 @tbytes117) (And.intro @tagg117 @zcells117))
theorem tyf118 : type_of% (And.intro (And.intro @tsize118 @tbytes118) (And.intro @tagg118 @zcells118)) := (And.intro (And.intro @tsize118 @tbytes118) (And.intro @tagg118 @zcells118))
theorem tyf119 : type_of% (And.intro @tsize119 (And.intro @tbytes119 @tagg119)) := (And.intro @tsize119 (And.intro @tbytes119 @tagg119))
theorem tyf120 : type_of% (And.intro (And.intro @tsize120 @tbytes120) (And.intro @tagg120 @zcells120)) := (And.intro (And.intro @tsize120 @tbytes120) (And.intro @tagg120 @zcells120))
theorem tyf121 : type_of% (And.intro @tsize121 (And.intro @tbytes121 @tagg121)) := (And.intro @tsize121 (And.intro @tbytes121 @tagg121))
theorem tyf122 : type_of% (And.intro (And.intro @tsize122 @tbytes122) (And.intro @tagg122 @zcells122)) := (And.intro (And.intro @tsize122 @tbytes122) (And.intro @tagg122 @zcells122))
theorem tyf123 : type_of% (And.intro (And.intro @tsize123 @tbytes123) (And.intro @tagg123 @zcells123)) := (And.intro (And.intro @tsize123 @tbytes123) (And.intro @tagg123 @zcells123))
theorem tyf124 : type_of% (And.intro (And.intro @tsize124 @tbytes124) (And.intro @tagg124 @zcells124)) := (And.intro (And.intro @tsize124 @tbytes124) (And.intro @tagg124 @zcells124))
theorem tyf125 : type_of% (And.intro (And.intro @tsize125 @tbytes125) (And.intro @tagg125 @zcells125)) := (And.intro (And.intro @tsize125 @tbytes125) (And.intro @tagg125 @zcells125))
theorem tyf126 : type_of% (And.intro (And.intro @tsize126 @tbytes126) (And.intro @tagg126 @zcells126)) := (And.intro (And.intro @tsize126 @tbytes126) (And.intro @tagg126 @zcells126))
theorem tyf127 : type_of% (And.intro (And.intro @tsize127 @tbytes127) (And.intro @tagg127 @zcells127)) := (And.intro (And.intro @tsize127 @tbytes127) (And.intro @tagg127 @zcells127))
theorem tyf128 : type_of% (And.intro (And.intro @tsize128 @tbytes128) (And.intro @tagg128 @zcells128)) := (And.intro (And.intro @tsize128 @tbytes128) (And.intro @tagg128 @zcells128))
theorem tyf129 : type_of% (And.intro @tsize129 (And.intro @tbytes129 @tagg129)) := (And.intro @tsize129 (And.intro @tbytes129 @tagg129))
theorem tyf130 : type_of% (And.intro (And.intro @tsize130 @tbytes130) (And.intro @tagg130 @zcells130)) := (And.intro (And.intro @tsize130 @tbytes130) (And.intro @tagg130 @zcells130))
theorem tyf131 : type_of% (And.intro (And.intro @tsize131 @tbytes131) (And.intro @tagg131 @zcells131)) := (And.intro (And.intro @tsize131 @tbytes131) (And.intro @tagg131 @zcells131))
theorem tyf132 : type_of% (And.intro (And.intro @tsize132 @tbytes132) (And.intro @tagg132 @zcells132)) := (And.intro (And.intro @tsize132 @tbytes132) (And.intro @tagg132 @zcells132))
theorem tyf133 : type_of% (And.intro (And.intro @tsize133 @tbytes133) (And.intro @tagg133 @zcells133)) := (And.intro (And.intro @tsize133 @tbytes133) (And.intro @tagg133 @zcells133))
theorem tyf134 : type_of% (And.intro (And.intro @tsize134 (And.intro @tbytes134 @tagg134)) (And.intro @telem134 (And.intro @slZ134 @zcells134))) := (And.intro (And.intro @tsize134 (And.intro @tbytes134 @tagg134)) (And.intro @telem134 (And.intro @slZ134 @zcells134)))
theorem tyf135 : type_of% (And.intro (And.intro @tsize135 @tbytes135) (And.intro @tagg135 @zcells135)) := (And.intro (And.intro @tsize135 @tbytes135) (And.intro @tagg135 @zcells135))
theorem tyf136 : type_of% (And.intro (And.intro @tsize136 @tbytes136) (And.intro @tagg136 @zcells136)) := (And.intro (And.intro @tsize136 @tbytes136) (And.intro @tagg136 @zcells136))
theorem tyf137 : type_of% (And.intro (And.intro @tsize137 @tbytes137) (And.intro @tagg137 @zcells137)) := (And.intro (And.intro @tsize137 @tbytes137) (And.intro @tagg137 @zcells137))
theorem tyf138 : type_of% (And.intro (And.intro @tsize138 (And.intro @tbytes138 @tagg138)) (And.intro (And.intro @zcells138 @fieldAt138_0) (And.intro @fieldAt138_1 @fieldAt138_2))) := (And.intro (And.intro @tsize138 (And.intro @tbytes138 @tagg138)) (And.intro (And.intro @zcells138 @fieldAt138_0) (And.intro @fieldAt138_1 @fieldAt138_2)))
theorem tyf139 : type_of% (And.intro (And.intro @tsize139 (And.intro @tbytes139 @tagg139)) (And.intro (And.intro @zcells139 @fieldAt139_0) (And.intro @fieldAt139_1 @fieldAt139_2))) := (And.intro (And.intro @tsize139 (And.intro @tbytes139 @tagg139)) (And.intro (And.intro @zcells139 @fieldAt139_0) (And.intro @fieldAt139_1 @fieldAt139_2)))
theorem tyf140 : type_of% (And.intro @tsize140 (And.intro @tbytes140 @tagg140)) := (And.intro @tsize140 (And.intro @tbytes140 @tagg140))
theorem tyf141 : type_of% (And.intro (And.intro @tsize141 @tbytes141) (And.intro @tagg141 @zcells141)) := (And.intro (And.intro @tsize141 @tbytes141) (And.intro @tagg141 @zcells141))
theorem tyf142 : type_of% (And.intro (And.intro @tsize142 @tbytes142) (And.intro @tagg142 @zcells142)) := (And.intro (And.intro @tsize142 @tbytes142) (And.intro @tagg142 @zcells142))
theorem tyf143 : type_of% (And.intro (And.intro @tsize143 @tbytes143) (And.intro @tagg143 @zcells143)) := (And.intro (And.intro @tsize143 @tbytes143) (And.intro @tagg143 @zcells143))
theorem tyf144 : type_of% (And.intro (And.intro @tsize144 @tbytes144) (And.intro @tagg144 @zcells144)) := (And.intro (And.intro @tsize144 @tbytes144) (And.intro @tagg144 @zcells144))
theorem tyf145 : type_of% (And.intro (And.intro @tsize145 @tbytes145) (And.intro @tagg145 @zcells145)) := (And.intro (And.intro @tsize145 @tbytes145) (And.intro @tagg145 @zcells145))
theorem tyf146 : type_of% (And.intro (And.intro @tsize146 @tbytes146) (And.intro @tagg146 @zcells146)) := (And.intro (And.intro @tsize146 @tbytes146) (And.intro @tagg146 @zcells146))
theorem tyf147 : type_of% (And.intro (And.intro @tsize147 @tbytes147) (And.intro @tagg147 @zcells147)) := (And.intro (And.intro @tsize147 @tbytes147) (And.intro @tagg147 @zcells147))
theorem tyf148 : type_of% (And.intro (And.intro @tsize148 @tbytes148) (And.intro @tagg148 @zcells148)) := (And.intro (And.intro @tsize148 @tbytes148) (And.intro @tagg148 @zcells148))
theorem tyf149 : type_of% (And.intro (And.intro @tsize149 @tbytes149) (And.intro @tagg149 @zcells149)) := (And.intro (And.intro @tsize149 @tbytes149) (And.intro @tagg149 @zcells149))
theorem tyf150 : type_of% (And.intro (And.intro @tsize150 @tbytes150) (And.intro @tagg150 @zcells150)) := (And.intro (And.intro @tsize150 @tbytes150) (And.intro @tagg150 @zcells150))
theorem tyf151 : type_of% (And.intro (And.intro @tsize151 @tbytes151) (And.intro @tagg151 @zcells151)) := (And.intro (And.intro @tsize151 @tbytes151) (And.intro @tagg151 @zcells151))
theorem tyf152 : type_of% (And.intro (And.intro @tsize152 @tbytes152) (And.intro @tagg152 @zcells152)) := (And.intro (And.intro @tsize152 @tbytes152) (And.intro @tagg152 @zcells152))
theorem tyf153 : type_of% (And.intro (And.intro @tsize153 (And.intro @tbytes153 @tagg153)) (And.intro @zcells153 (And.intro @fieldAt153_0 @fieldAt153_1))) := (And.intro (And.intro @tsize153 (And.intro @tbytes153 @tagg153)) (And.intro @zcells153 (And.intro @fieldAt153_0 @fieldAt153_1)))
theorem tyf154 : type_of% (And.intro (And.intro @tsize154 (And.intro @tbytes154 @tagg154)) (And.intro @zcells154 (And.intro @fieldAt154_0 @fieldAt154_1))) := (And.intro (And.intro @tsize154 (And.intro @tbytes154 @tagg154)) (And.intro @zcells154 (And.intro @fieldAt154_0 @fieldAt154_1)))
theorem tyf155 : type_of% (And.intro (And.intro @tsize155 @tbytes155) (And.intro @tagg155 @zcells155)) := (And.intro (And.intro @tsize155 @tbytes155) (And.intro @tagg155 @zcells155))
theorem tyf156 : type_of% (And.intro (And.intro @tsize156 @tbytes156) (And.intro @tagg156 @zcells156)) := (And.intro (And.intro @tsize156 @tbytes156) (And.intro @tagg156 @zcells156))
theorem tyf157 : type_of% (And.intro (And.intro @tsize157 @tbytes157) (And.intro @tagg157 @zcells157)) := (And.intro (And.intro @tsize157 @tbytes157) (And.intro @tagg157 @zcells157))
theorem tyf158 : type_of% (And.intro (And.intro @tsize158 @tbytes158) (And.intro @tagg158 @zcells158)) := (And.intro (And.intro @tsize158 @tbytes158) (And.intro @tagg158 @zcells158))
theorem tyf159 : type_of% (And.intro (And.intro @tsize159 @tbytes159) (And.intro @tagg159 @zcells159)) := (And.intro (And.intro @tsize159 @tbytes159) (And.intro @tagg159 @zcells159))
theorem tyf160 : type_of% (And.intro (And.intro @tsize160 @tbytes160) (And.intro @tagg160 @zcells160)) := (And.intro (And.intro @tsize160 @tbytes160) (And.intro @tagg160 @zcells160))
theorem tyf161 : type_of% (And.intro @tsize161 (And.intro @tbytes161 @tagg161)) := (And.intro @tsize161 (And.intro @tbytes161 @tagg161))
theorem tyf162 : type_of% (And.intro (And.intro @tsize162 @tbytes162) (And.intro @tagg162 @zcells162)) := (And.intro (And.intro @tsize162 @tbytes162) (And.intro @tagg162 @zcells162))
theorem tyf163 : type_of% (And.intro (And.intro @tsize163 @tbytes163) (And.intro @tagg163 @zcells163)) := (And.intro (And.intro @tsize163 @tbytes163) (And.intro @tagg163 @zcells163))
theorem tyf164 : type_of% (And.intro (And.intro @tsize164 @tbytes164) (And.intro @tagg164 @zcells164)) := (And.intro (And.intro @tsize164 @tbytes164) (And.intro @tagg164 @zcells164))
theorem tyf165 : type_of% (And.intro (And.intro @tsize165 @tbytes165) (And.intro @tagg165 @zcells165)) := (And.intro (And.intro @tsize165 @tbytes165) (And.intro @tagg165 @zcells165))
theorem tyf166 : type_of% (And.intro (And.intro @tsize166 @tbytes166) (And.intro @tagg166 @zcells166)) := (And.intro (And.intro @tsize166 @tbytes166) (And.intro @tagg166 @zcells166))
theorem tyf167 : type_of% (And.intro (And.intro @tsize167 @tbytes167) (And.intro @tagg167 @zcells167)) := (And.intro (And.intro @tsize167 @tbytes167) (And.intro @tagg167 @zcells167))
theorem tyf168 : type_of% (And.intro @tsize168 (And.intro @tbytes168 @tagg168)) := (And.intro @tsize168 (And.intro @tbytes168 @tagg168))
theorem tyf169 : type_of% (And.intro (And.intro @tsize169 @tbytes169) (And.intro @tagg169 @zcells169)) := (And.intro (And.intro @tsize169 @tbytes169) (And.intro @tagg169 @zcells169))
theorem tyf170 : type_of% (And.intro (And.intro @tsize170 @tbytes170) (And.intro @tagg170 @zcells170)) := (And.intro (And.intro @tsize170 @tbytes170) (And.intro @tagg170 @zcells170))
theorem tyf171 : type_of% (And.intro @tsize171 (And.intro @tbytes171 @tagg171)) := (And.intro @tsize171 (And.intro @tbytes171 @tagg171))
theorem tyf172 : type_of% (And.intro (And.intro @tsize172 @tbytes172) (And.intro @tagg172 @zcells172)) := (And.intro (And.intro @tsize172 @tbytes172) (And.intro @tagg172 @zcells172))
theorem tyf173 : type_of% (And.intro (And.intro @tsize173 @tbytes173) (And.intro @tagg173 @zcells173)) := (And.intro (And.intro @tsize173 @tbytes173) (And.intro @tagg173 @zcells173))
theorem tyf174 : type_of% (And.intro (And.intro (And.intro @tsize174 @tbytes174) (And.intro @tagg174 @zcells174)) (And.intro (And.intro @fieldAt174_0 @fieldAt174_1) (And.intro @fieldAt174_2 @fieldAt174_3))) := (And.intro (And.intro (And.intro @tsize174 @tbytes174) (And.intro @tagg174 @zcells174)) (And.intro (And.intro @fieldAt174_0 @fieldAt174_1) (And.intro @fieldAt174_2 @fieldAt174_3)))
theorem tyf175 : type_of% (And.intro (And.intro (And.intro @tsize175 @tbytes175) (And.intro @tagg175 @zcells175)) (And.intro (And.intro @fieldAt175_0 @fieldAt175_1) (And.intro @fieldAt175_2 @fieldAt175_3))) := (And.intro (And.intro (And.intro @tsize175 @tbytes175) (And.intro @tagg175 @zcells175)) (And.intro (And.intro @fieldAt175_0 @fieldAt175_1) (And.intro @fieldAt175_2 @fieldAt175_3)))
theorem tyf176 : type_of% (And.intro (And.intro @tsize176 @tbytes176) (And.intro @tagg176 (And.intro @arrOf176 @zcells176))) := (And.intro (And.intro @tsize176 @tbytes176) (And.intro @tagg176 (And.intro @arrOf176 @zcells176)))
theorem tyf177 : type_of% (And.intro (And.intro @tsize177 @tbytes177) (And.intro @tagg177 (And.intro @zcells177 @fieldAt177_0))) := (And.intro (And.intro @tsize177 @tbytes177) (And.intro @tagg177 (And.intro @zcells177 @fieldAt177_0)))
theorem tyf178 : type_of% (And.intro (And.intro @tsize178 @tbytes178) (And.intro @tagg178 (And.intro @zcells178 @fieldAt178_0))) := (And.intro (And.intro @tsize178 @tbytes178) (And.intro @tagg178 (And.intro @zcells178 @fieldAt178_0)))
theorem tyf179 : type_of% (And.intro (And.intro @tsize179 @tbytes179) (And.intro @tagg179 @zcells179)) := (And.intro (And.intro @tsize179 @tbytes179) (And.intro @tagg179 @zcells179))
theorem tyf180 : type_of% (And.intro (And.intro @tsize180 @tbytes180) (And.intro @tagg180 @zcells180)) := (And.intro (And.intro @tsize180 @tbytes180) (And.intro @tagg180 @zcells180))
theorem tyf181 : type_of% (And.intro (And.intro @tsize181 @tbytes181) (And.intro @tagg181 @zcells181)) := (And.intro (And.intro @tsize181 @tbytes181) (And.intro @tagg181 @zcells181))
theorem tyf182 : type_of% (And.intro (And.intro @tsize182 @tbytes182) (And.intro @tagg182 @zcells182)) := (And.intro (And.intro @tsize182 @tbytes182) (And.intro @tagg182 @zcells182))
theorem tyf183 : type_of% (And.intro (And.intro @tsize183 @tbytes183) (And.intro @tagg183 @zcells183)) := (And.intro (And.intro @tsize183 @tbytes183) (And.intro @tagg183 @zcells183))
theorem tyf184 : type_of% (And.intro (And.intro @tsize184 @tbytes184) (And.intro @tagg184 @zcells184)) := (And.intro (And.intro @tsize184 @tbytes184) (And.intro @tagg184 @zcells184))
theorem tyf185 : type_of% (And.intro (And.intro @tsize185 @tbytes185) (And.intro @tagg185 @zcells185)) := (And.intro (And.intro @tsize185 @tbytes185) (And.intro @tagg185 @zcells185))
theorem tyf186 : type_of% (And.intro (And.intro (And.intro @tsize186 (And.intro @tbytes186 @tagg186)) (And.intro (And.intro @zcells186 @fieldAt186_0) (And.intro @fieldAt186_1 @fieldAt186_2))) (And.intro (And.intro (And.intro @fieldAt186_3 @fieldAt186_4) (And.intro @fieldAt186_5 @fieldAt186_6)) (And.intro (And.intro @fieldAt186_7 @fieldAt186_8) (And.intro @fieldAt186_9 @fieldAt186_10)))) := (And.intro (And.intro (And.intro @tsize186 (And.intro @tbytes186 @tagg186)) (And.intro (And.intro @zcells186 @fieldAt186_0) (And.intro @fieldAt186_1 @fieldAt186_2))) (And.intro (And.intro (And.intro @fieldAt186_3 @fieldAt186_4) (And.intro @fieldAt186_5 @fieldAt186_6)) (And.intro (And.intro @fieldAt186_7 @fieldAt186_8) (And.intro @fieldAt186_9 @fieldAt186_10))))
theorem tyf187 : type_of% (And.intro (And.intro (And.intro @tsize187 (And.intro @tbytes187 @tagg187)) (And.intro (And.intro @zcells187 @fieldAt187_0) (And.intro @fieldAt187_1 @fieldAt187_2))) (And.intro (And.intro (And.intro @fieldAt187_3 @fieldAt187_4) (And.intro @fieldAt187_5 @fieldAt187_6)) (And.intro (And.intro @fieldAt187_7 @fieldAt187_8) (And.intro @fieldAt187_9 @fieldAt187_10)))) := (And.intro (And.intro (And.intro @tsize187 (And.intro @tbytes187 @tagg187)) (And.intro (And.intro @zcells187 @fieldAt187_0) (And.intro @fieldAt187_1 @fieldAt187_2))) (And.intro (And.intro (And.intro @fieldAt187_3 @fieldAt187_4) (And.intro @fieldAt187_5 @fieldAt187_6)) (And.intro (And.intro @fieldAt187_7 @fieldAt187_8) (And.intro @fieldAt187_9 @fieldAt187_10))))
theorem tyf188 : type_of% (And.intro (And.intro @tsize188 @tbytes188) (And.intro @tagg188 @zcells188)) := (And.intro (And.intro @tsize188 @tbytes188) (And.intro @tagg188 @zcells188))
theorem fnf3 : type_of% (And.intro (And.intro @opn3 @imp3) (And.intro @mem3 @prim3)) := (And.intro (And.intro @opn3 @imp3) (And.intro @mem3 @prim3))
theorem fnf4 : type_of% (And.intro (And.intro @opn4 @imp4) (And.intro @mem4 @prim4)) := (And.intro (And.intro @opn4 @imp4) (And.intro @mem4 @prim4))
theorem fnf5 : type_of% (And.intro (And.intro @opn5 @imp5) (And.intro @mem5 @prim5)) := (And.intro (And.intro @opn5 @imp5) (And.intro @mem5 @prim5))
theorem fnf6 : type_of% (And.intro (And.intro @opn6 @imp6) (And.intro @mem6 @prim6)) := (And.intro (And.intro @opn6 @imp6) (And.intro @mem6 @prim6))
theorem fnf7 : type_of% (And.intro (And.intro @opn7 @imp7) (And.intro @mem7 @prim7)) := (And.intro (And.intro @opn7 @imp7) (And.intro @mem7 @prim7))
theorem fnf8 : type_of% (And.intro (And.intro @opn8 @imp8) (And.intro @mem8 @prim8)) := (And.intro (And.intro @opn8 @imp8) (And.intro @mem8 @prim8))
theorem fnf9 : type_of% (And.intro (And.intro @opn9 @imp9) (And.intro @mem9 @prim9)) := (And.intro (And.intro @opn9 @imp9) (And.intro @mem9 @prim9))
theorem fnf10 : type_of% (And.intro (And.intro @opn10 @imp10) (And.intro @mem10 @prim10)) := (And.intro (And.intro @opn10 @imp10) (And.intro @mem10 @prim10))
theorem fnf11 : type_of% (And.intro (And.intro @opn11 @imp11) (And.intro @mem11 @prim11)) := (And.intro (And.intro @opn11 @imp11) (And.intro @mem11 @prim11))
theorem fnf12 : type_of% (And.intro (And.intro @opn12 @imp12) (And.intro @mem12 @prim12)) := (And.intro (And.intro @opn12 @imp12) (And.intro @mem12 @prim12))
theorem fnf13 : type_of% (And.intro (And.intro @opn13 @imp13) (And.intro @mem13 @prim13)) := (And.intro (And.intro @opn13 @imp13) (And.intro @mem13 @prim13))
theorem fnf14 : type_of% (And.intro (And.intro @opn14 @imp14) (And.intro @mem14 @prim14)) := (And.intro (And.intro @opn14 @imp14) (And.intro @mem14 @prim14))
theorem fnf15 : type_of% (And.intro (And.intro @opn15 @imp15) (And.intro @mem15 @prim15)) := (And.intro (And.intro @opn15 @imp15) (And.intro @mem15 @prim15))
theorem fnf16 : type_of% (And.intro (And.intro @opn16 @imp16) (And.intro @mem16 @prim16)) := (And.intro (And.intro @opn16 @imp16) (And.intro @mem16 @prim16))
theorem fnf17 : type_of% (And.intro (And.intro @opn17 @imp17) (And.intro @mem17 @prim17)) := (And.intro (And.intro @opn17 @imp17) (And.intro @mem17 @prim17))
theorem fnf18 : type_of% (And.intro (And.intro @opn18 @imp18) (And.intro @mem18 @prim18)) := (And.intro (And.intro @opn18 @imp18) (And.intro @mem18 @prim18))
theorem fnf19 : type_of% (And.intro (And.intro @opn19 @imp19) (And.intro @mem19 @prim19)) := (And.intro (And.intro @opn19 @imp19) (And.intro @mem19 @prim19))
theorem fnf20 : type_of% (And.intro (And.intro @opn20 @imp20) (And.intro @mem20 @prim20)) := (And.intro (And.intro @opn20 @imp20) (And.intro @mem20 @prim20))
theorem fnf21 : type_of% (And.intro (And.intro @opn21 @imp21) (And.intro @mem21 @prim21)) := (And.intro (And.intro @opn21 @imp21) (And.intro @mem21 @prim21))
theorem fnf22 : type_of% (And.intro (And.intro @opn22 @imp22) (And.intro @mem22 @prim22)) := (And.intro (And.intro @opn22 @imp22) (And.intro @mem22 @prim22))
theorem fnf23 : type_of% (And.intro (And.intro @opn23 @imp23) (And.intro @mem23 @prim23)) := (And.intro (And.intro @opn23 @imp23) (And.intro @mem23 @prim23))
theorem fnf24 : type_of% (And.intro (And.intro @opn24 @imp24) (And.intro @mem24 @prim24)) := (And.intro (And.intro @opn24 @imp24) (And.intro @mem24 @prim24))
theorem fnf25 : type_of% (And.intro (And.intro @opn25 @imp25) (And.intro @mem25 @prim25)) := (And.intro (And.intro @opn25 @imp25) (And.intro @mem25 @prim25))
theorem fnf26 : type_of% (And.intro (And.intro @opn26 @imp26) (And.intro @mem26 @prim26)) := (And.intro (And.intro @opn26 @imp26) (And.intro @mem26 @prim26))
theorem fnf27 : type_of% (And.intro (And.intro @opn27 @imp27) (And.intro @mem27 @prim27)) := (And.intro (And.intro @opn27 @imp27) (And.intro @mem27 @prim27))
theorem fnf28 : type_of% (And.intro (And.intro @opn28 @imp28) (And.intro @mem28 @prim28)) := (And.intro (And.intro @opn28 @imp28) (And.intro @mem28 @prim28))
theorem fnf29 : type_of% (And.intro (And.intro @opn29 @imp29) (And.intro @mem29 @prim29)) := (And.intro (And.intro @opn29 @imp29) (And.intro @mem29 @prim29))
theorem fnf30 : type_of% (And.intro (And.intro @opn30 @imp30) (And.intro @mem30 @prim30)) := (And.intro (And.intro @opn30 @imp30) (And.intro @mem30 @prim30))
theorem fnf31 : type_of% (And.intro (And.intro @opn31 @imp31) (And.intro @mem31 @prim31)) := (And.intro (And.intro @opn31 @imp31) (And.intro @mem31 @prim31))
theorem fnf32 : type_of% (And.intro (And.intro @opn32 @imp32) (And.intro @mem32 @prim32)) := (And.intro (And.intro @opn32 @imp32) (And.intro @mem32 @prim32))
theorem fnf33 : type_of% (And.intro (And.intro @opn33 @imp33) (And.intro @mem33 @prim33)) := (And.intro (And.intro @opn33 @imp33) (And.intro @mem33 @prim33))
theorem fnf34 : type_of% (And.intro (And.intro @opn34 @imp34) (And.intro @mem34 @prim34)) := (And.intro (And.intro @opn34 @imp34) (And.intro @mem34 @prim34))
theorem fnf35 : type_of% (And.intro (And.intro @opn35 @imp35) (And.intro @mem35 @prim35)) := (And.intro (And.intro @opn35 @imp35) (And.intro @mem35 @prim35))
theorem fnf36 : type_of% (And.intro (And.intro @opn36 @imp36) (And.intro @mem36 @prim36)) := (And.intro (And.intro @opn36 @imp36) (And.intro @mem36 @prim36))
theorem fnf37 : type_of% (And.intro (And.intro @opn37 @imp37) (And.intro @mem37 @prim37)) := (And.intro (And.intro @opn37 @imp37) (And.intro @mem37 @prim37))
theorem fnf38 : type_of% (And.intro (And.intro @opn38 @imp38) (And.intro @mem38 @prim38)) := (And.intro (And.intro @opn38 @imp38) (And.intro @mem38 @prim38))
theorem fnf39 : type_of% (And.intro (And.intro @opn39 @imp39) (And.intro @mem39 @prim39)) := (And.intro (And.intro @opn39 @imp39) (And.intro @mem39 @prim39))
theorem fnf40 : type_of% (And.intro (And.intro @opn40 @imp40) (And.intro @mem40 @prim40)) := (And.intro (And.intro @opn40 @imp40) (And.intro @mem40 @prim40))
theorem fnf41 : type_of% (And.intro (And.intro @opn41 @imp41) (And.intro @mem41 @prim41)) := (And.intro (And.intro @opn41 @imp41) (And.intro @mem41 @prim41))
theorem fnf42 : type_of% (And.intro (And.intro @opn42 @imp42) (And.intro @mem42 @prim42)) := (And.intro (And.intro @opn42 @imp42) (And.intro @mem42 @prim42))
theorem fnf43 : type_of% (And.intro (And.intro @opn43 @imp43) (And.intro @mem43 @prim43)) := (And.intro (And.intro @opn43 @imp43) (And.intro @mem43 @prim43))
theorem fnf44 : type_of% (And.intro (And.intro @opn44 @imp44) (And.intro @mem44 @prim44)) := (And.intro (And.intro @opn44 @imp44) (And.intro @mem44 @prim44))
theorem fnf45 : type_of% (And.intro (And.intro @opn45 @imp45) (And.intro @mem45 @prim45)) := (And.intro (And.intro @opn45 @imp45) (And.intro @mem45 @prim45))
theorem fnf46 : type_of% (And.intro (And.intro @opn46 @imp46) (And.intro @mem46 @prim46)) := (And.intro (And.intro @opn46 @imp46) (And.intro @mem46 @prim46))
theorem fnf47 : type_of% (And.intro (And.intro @opn47 @imp47) (And.intro @mem47 @prim47)) := (And.intro (And.intro @opn47 @imp47) (And.intro @mem47 @prim47))
theorem fnf48 : type_of% (And.intro (And.intro @opn48 @imp48) (And.intro @mem48 @prim48)) := (And.intro (And.intro @opn48 @imp48) (And.intro @mem48 @prim48))
theorem fnf49 : type_of% (And.intro (And.intro @opn49 @imp49) (And.intro @mem49 @prim49)) := (And.intro (And.intro @opn49 @imp49) (And.intro @mem49 @prim49))
theorem fnf50 : type_of% (And.intro (And.intro @opn50 @imp50) (And.intro @mem50 @prim50)) := (And.intro (And.intro @opn50 @imp50) (And.intro @mem50 @prim50))
theorem fnf51 : type_of% (And.intro (And.intro @opn51 @imp51) (And.intro @mem51 @prim51)) := (And.intro (And.intro @opn51 @imp51) (And.intro @mem51 @prim51))
theorem fnf52 : type_of% (And.intro (And.intro @opn52 @imp52) (And.intro @mem52 @prim52)) := (And.intro (And.intro @opn52 @imp52) (And.intro @mem52 @prim52))
theorem fnf53 : type_of% (And.intro (And.intro @opn53 @imp53) (And.intro @mem53 @prim53)) := (And.intro (And.intro @opn53 @imp53) (And.intro @mem53 @prim53))
theorem fnf54 : type_of% (And.intro (And.intro @opn54 @imp54) (And.intro @mem54 @prim54)) := (And.intro (And.intro @opn54 @imp54) (And.intro @mem54 @prim54))
theorem fnf55 : type_of% (And.intro (And.intro @opn55 @imp55) (And.intro @mem55 @prim55)) := (And.intro (And.intro @opn55 @imp55) (And.intro @mem55 @prim55))
theorem fnf56 : type_of% (And.intro (And.intro @opn56 @imp56) (And.intro @mem56 @prim56)) := (And.intro (And.intro @opn56 @imp56) (And.intro @mem56 @prim56))
theorem fnf57 : type_of% (And.intro (And.intro @opn57 @imp57) (And.intro @mem57 @prim57)) := (And.intro (And.intro @opn57 @imp57) (And.intro @mem57 @prim57))
theorem fnf58 : type_of% (And.intro (And.intro @opn58 @imp58) (And.intro @mem58 @prim58)) := (And.intro (And.intro @opn58 @imp58) (And.intro @mem58 @prim58))
theorem fnf59 : type_of% (And.intro (And.intro @opn59 @imp59) (And.intro @mem59 @prim59)) := (And.intro (And.intro @opn59 @imp59) (And.intro @mem59 @prim59))
theorem fnf60 : type_of% (And.intro (And.intro @opn60 @imp60) (And.intro @mem60 @prim60)) := (And.intro (And.intro @opn60 @imp60) (And.intro @mem60 @prim60))
theorem fnf61 : type_of% (And.intro (And.intro @opn61 @imp61) (And.intro @mem61 @prim61)) := (And.intro (And.intro @opn61 @imp61) (And.intro @mem61 @prim61))
theorem fnf62 : type_of% (And.intro (And.intro @opn62 @imp62) (And.intro @mem62 @prim62)) := (And.intro (And.intro @opn62 @imp62) (And.intro @mem62 @prim62))
theorem fnf63 : type_of% (And.intro (And.intro @opn63 @imp63) (And.intro @mem63 @prim63)) := (And.intro (And.intro @opn63 @imp63) (And.intro @mem63 @prim63))
theorem fnf64 : type_of% (And.intro (And.intro @opn64 @imp64) (And.intro @mem64 @prim64)) := (And.intro (And.intro @opn64 @imp64) (And.intro @mem64 @prim64))
theorem fnf65 : type_of% (And.intro (And.intro @opn65 @imp65) (And.intro @mem65 @prim65)) := (And.intro (And.intro @opn65 @imp65) (And.intro @mem65 @prim65))
theorem fnf66 : type_of% (And.intro (And.intro @opn66 @imp66) (And.intro @mem66 @prim66)) := (And.intro (And.intro @opn66 @imp66) (And.intro @mem66 @prim66))
theorem fnf67 : type_of% (And.intro (And.intro @opn67 @imp67) (And.intro @mem67 @prim67)) := (And.intro (And.intro @opn67 @imp67) (And.intro @mem67 @prim67))
theorem fnf68 : type_of% (And.intro (And.intro @opn68 @imp68) (And.intro @mem68 @prim68)) := (And.intro (And.intro @opn68 @imp68) (And.intro @mem68 @prim68))
theorem fnf69 : type_of% (And.intro (And.intro @opn69 @imp69) (And.intro @mem69 @prim69)) := (And.intro (And.intro @opn69 @imp69) (And.intro @mem69 @prim69))
theorem fnf70 : type_of% (And.intro (And.intro @opn70 @imp70) (And.intro @mem70 @prim70)) := (And.intro (And.intro @opn70 @imp70) (And.intro @mem70 @prim70))
theorem fnf71 : type_of% (And.intro (And.intro @opn71 @imp71) (And.intro @mem71 @prim71)) := (And.intro (And.intro @opn71 @imp71) (And.intro @mem71 @prim71))
theorem fnf72 : type_of% (And.intro (And.intro @opn72 @imp72) (And.intro @mem72 @prim72)) := (And.intro (And.intro @opn72 @imp72) (And.intro @mem72 @prim72))
theorem fnf73 : type_of% (And.intro (And.intro @opn73 @imp73) (And.intro @mem73 @prim73)) := (And.intro (And.intro @opn73 @imp73) (And.intro @mem73 @prim73))
theorem fnf74 : type_of% (And.intro (And.intro @opn74 @imp74) (And.intro @mem74 @prim74)) := (And.intro (And.intro @opn74 @imp74) (And.intro @mem74 @prim74))
theorem fnf75 : type_of% (And.intro (And.intro @opn75 @imp75) (And.intro @mem75 @prim75)) := (And.intro (And.intro @opn75 @imp75) (And.intro @mem75 @prim75))
theorem fnf76 : type_of% (And.intro (And.intro @opn76 @imp76) (And.intro @mem76 @prim76)) := (And.intro (And.intro @opn76 @imp76) (And.intro @mem76 @prim76))
theorem fnf77 : type_of% (And.intro (And.intro @opn77 @imp77) (And.intro @mem77 @prim77)) := (And.intro (And.intro @opn77 @imp77) (And.intro @mem77 @prim77))
theorem fnf78 : type_of% (And.intro (And.intro @opn78 @imp78) (And.intro @mem78 @prim78)) := (And.intro (And.intro @opn78 @imp78) (And.intro @mem78 @prim78))
theorem fnf79 : type_of% (And.intro (And.intro @opn79 @imp79) (And.intro @mem79 @prim79)) := (And.intro (And.intro @opn79 @imp79) (And.intro @mem79 @prim79))
theorem fnf80 : type_of% (And.intro (And.intro @opn80 @imp80) (And.intro @mem80 @prim80)) := (And.intro (And.intro @opn80 @imp80) (And.intro @mem80 @prim80))
theorem fnf81 : type_of% (And.intro (And.intro @opn81 @imp81) (And.intro @mem81 @prim81)) := (And.intro (And.intro @opn81 @imp81) (And.intro @mem81 @prim81))
theorem fnf82 : type_of% (And.intro (And.intro @opn82 @imp82) (And.intro @mem82 @prim82)) := (And.intro (And.intro @opn82 @imp82) (And.intro @mem82 @prim82))
theorem fnf83 : type_of% (And.intro (And.intro @opn83 @imp83) (And.intro @mem83 @prim83)) := (And.intro (And.intro @opn83 @imp83) (And.intro @mem83 @prim83))
theorem fnf84 : type_of% (And.intro (And.intro @opn84 @imp84) (And.intro @mem84 @prim84)) := (And.intro (And.intro @opn84 @imp84) (And.intro @mem84 @prim84))
theorem fnf85 : type_of% (And.intro (And.intro @opn85 @imp85) (And.intro @mem85 @prim85)) := (And.intro (And.intro @opn85 @imp85) (And.intro @mem85 @prim85))
theorem fnf86 : type_of% (And.intro (And.intro @opn86 @imp86) (And.intro @mem86 @prim86)) := (And.intro (And.intro @opn86 @imp86) (And.intro @mem86 @prim86))
theorem fnf87 : type_of% (And.intro (And.intro @opn87 @imp87) (And.intro @mem87 @prim87)) := (And.intro (And.intro @opn87 @imp87) (And.intro @mem87 @prim87))
theorem fnf88 : type_of% (And.intro (And.intro @opn88 @imp88) (And.intro @mem88 @prim88)) := (And.intro (And.intro @opn88 @imp88) (And.intro @mem88 @prim88))
theorem fnf89 : type_of% (And.intro (And.intro @opn89 @imp89) (And.intro @mem89 @prim89)) := (And.intro (And.intro @opn89 @imp89) (And.intro @mem89 @prim89))
theorem fnf90 : type_of% (And.intro (And.intro @opn90 @imp90) (And.intro @mem90 @prim90)) := (And.intro (And.intro @opn90 @imp90) (And.intro @mem90 @prim90))
theorem fnf91 : type_of% (And.intro (And.intro @opn91 @imp91) (And.intro @mem91 @prim91)) := (And.intro (And.intro @opn91 @imp91) (And.intro @mem91 @prim91))
theorem fnf92 : type_of% (And.intro (And.intro @opn92 @imp92) (And.intro @mem92 @prim92)) := (And.intro (And.intro @opn92 @imp92) (And.intro @mem92 @prim92))
theorem fnf93 : type_of% (And.intro (And.intro @opn93 @imp93) (And.intro @mem93 @prim93)) := (And.intro (And.intro @opn93 @imp93) (And.intro @mem93 @prim93))
theorem fnf94 : type_of% (And.intro (And.intro @opn94 @imp94) (And.intro @mem94 @prim94)) := (And.intro (And.intro @opn94 @imp94) (And.intro @mem94 @prim94))
theorem fnf95 : type_of% (And.intro (And.intro @opn95 @imp95) (And.intro @mem95 @prim95)) := (And.intro (And.intro @opn95 @imp95) (And.intro @mem95 @prim95))
theorem fnf96 : type_of% (And.intro (And.intro @opn96 @imp96) (And.intro @mem96 @prim96)) := (And.intro (And.intro @opn96 @imp96) (And.intro @mem96 @prim96))
theorem fnf97 : type_of% (And.intro (And.intro @opn97 @imp97) (And.intro @mem97 @prim97)) := (And.intro (And.intro @opn97 @imp97) (And.intro @mem97 @prim97))
theorem fnf98 : type_of% (And.intro (And.intro @opn98 @imp98) (And.intro @mem98 @prim98)) := (And.intro (And.intro @opn98 @imp98) (And.intro @mem98 @prim98))
theorem fnf99 : type_of% (And.intro (And.intro @opn99 @imp99) (And.intro @mem99 @prim99)) := (And.intro (And.intro @opn99 @imp99) (And.intro @mem99 @prim99))
theorem fnf100 : type_of% (And.intro (And.intro @opn100 @imp100) (And.intro @mem100 @prim100)) := (And.intro (And.intro @opn100 @imp100) (And.intro @mem100 @prim100))
theorem fnf101 : type_of% (And.intro (And.intro @opn101 @imp101) (And.intro @mem101 @prim101)) := (And.intro (And.intro @opn101 @imp101) (And.intro @mem101 @prim101))
theorem fnf102 : type_of% (And.intro (And.intro @opn102 @imp102) (And.intro @mem102 @prim102)) := (And.intro (And.intro @opn102 @imp102) (And.intro @mem102 @prim102))
theorem fnf103 : type_of% (And.intro (And.intro @opn103 @imp103) (And.intro @mem103 @prim103)) := (And.intro (And.intro @opn103 @imp103) (And.intro @mem103 @prim103))
theorem fnf104 : type_of% (And.intro (And.intro @opn104 @imp104) (And.intro @mem104 @prim104)) := (And.intro (And.intro @opn104 @imp104) (And.intro @mem104 @prim104))
theorem fnf105 : type_of% (And.intro (And.intro @opn105 @imp105) (And.intro @mem105 @prim105)) := (And.intro (And.intro @opn105 @imp105) (And.intro @mem105 @prim105))
theorem fnf106 : type_of% (And.intro (And.intro @opn106 @imp106) (And.intro @mem106 @prim106)) := (And.intro (And.intro @opn106 @imp106) (And.intro @mem106 @prim106))
theorem fnf107 : type_of% (And.intro (And.intro @opn107 @imp107) (And.intro @mem107 @prim107)) := (And.intro (And.intro @opn107 @imp107) (And.intro @mem107 @prim107))
theorem fnf108 : type_of% (And.intro (And.intro @opn108 @imp108) (And.intro @mem108 @prim108)) := (And.intro (And.intro @opn108 @imp108) (And.intro @mem108 @prim108))
theorem fnf109 : type_of% (And.intro (And.intro @opn109 @imp109) (And.intro @mem109 @prim109)) := (And.intro (And.intro @opn109 @imp109) (And.intro @mem109 @prim109))
theorem fnf110 : type_of% (And.intro (And.intro @opn110 @imp110) (And.intro @mem110 @prim110)) := (And.intro (And.intro @opn110 @imp110) (And.intro @mem110 @prim110))
theorem fnf111 : type_of% (And.intro (And.intro @opn111 @imp111) (And.intro @mem111 @prim111)) := (And.intro (And.intro @opn111 @imp111) (And.intro @mem111 @prim111))
theorem fnf112 : type_of% (And.intro (And.intro @opn112 @imp112) (And.intro @mem112 @prim112)) := (And.intro (And.intro @opn112 @imp112) (And.intro @mem112 @prim112))
theorem fnf113 : type_of% (And.intro (And.intro @opn113 @imp113) (And.intro @mem113 @prim113)) := (And.intro (And.intro @opn113 @imp113) (And.intro @mem113 @prim113))
theorem fnf114 : type_of% (And.intro (And.intro @opn114 @imp114) (And.intro @mem114 @prim114)) := (And.intro (And.intro @opn114 @imp114) (And.intro @mem114 @prim114))
theorem fnf115 : type_of% (And.intro (And.intro @opn115 @imp115) (And.intro @mem115 @prim115)) := (And.intro (And.intro @opn115 @imp115) (And.intro @mem115 @prim115))
theorem fnf116 : type_of% (And.intro (And.intro @opn116 @imp116) (And.intro @mem116 @prim116)) := (And.intro (And.intro @opn116 @imp116) (And.intro @mem116 @prim116))
theorem fnf117 : type_of% (And.intro (And.intro @opn117 @imp117) (And.intro @mem117 @prim117)) := (And.intro (And.intro @opn117 @imp117) (And.intro @mem117 @prim117))
theorem fnf118 : type_of% (And.intro (And.intro @opn118 @imp118) (And.intro @mem118 @prim118)) := (And.intro (And.intro @opn118 @imp118) (And.intro @mem118 @prim118))
theorem fnf119 : type_of% (And.intro (And.intro @opn119 @imp119) (And.intro @mem119 @prim119)) := (And.intro (And.intro @opn119 @imp119) (And.intro @mem119 @prim119))
theorem fnf120 : type_of% (And.intro (And.intro @opn120 @imp120) (And.intro @mem120 @prim120)) := (And.intro (And.intro @opn120 @imp120) (And.intro @mem120 @prim120))
theorem factsOf3 : type_of% (And.intro (And.intro (And.intro (And.intro @tyf3 (And.intro @tyf4 @tyf22)) (And.intro @tyf24 (And.intro @tyf25 @tyf29))) (And.intro (And.intro @tyf30 (And.intro @tyf31 @tyf33)) (And.intro @light3 (And.intro @frzT24_24 @notInt24)))) (And.intro (And.intro (And.intro @keepB3_0 (And.intro @keepB3_1 @fnf9)) (And.intro @fnf10 (And.intro @fnf11 @fnf12))) (And.intro (And.intro @fnf13 (And.intro @fnf14 @fnf15)) (And.intro @fnf16 (And.intro @fnf17 @fnf18))))) := (And.intro (And.intro (And.intro (And.intro @tyf3 (And.intro @tyf4 @tyf22)) (And.intro @tyf24 (And.intro @tyf25 @tyf29))) (And.intro (And.intro @tyf30 (And.intro @tyf31 @tyf33)) (And.intro @light3 (And.intro @frzT24_24 @notInt24)))) (And.intro (And.intro (And.intro @keepB3_0 (And.intro @keepB3_1 @fnf9)) (And.intro @fnf10 (And.intro @fnf11 @fnf12))) (And.intro (And.intro @fnf13 (And.intro @fnf14 @fnf15)) (And.intro @fnf16 (And.intro @fnf17 @fnf18)))))
theorem factsOf4 : type_of% (And.intro (And.intro (And.intro @tyf3 (And.intro @tyf22 @tyf24)) (And.intro @tyf25 (And.intro @tyf29 @tyf33))) (And.intro (And.intro @light4 (And.intro @fnf9 @fnf12)) (And.intro (And.intro @fnf16 @fnf18) (And.intro @fnf19 @fnf20)))) := (And.intro (And.intro (And.intro @tyf3 (And.intro @tyf22 @tyf24)) (And.intro @tyf25 (And.intro @tyf29 @tyf33))) (And.intro (And.intro @light4 (And.intro @fnf9 @fnf12)) (And.intro (And.intro @fnf16 @fnf18) (And.intro @fnf19 @fnf20))))
theorem factsOf5 : type_of% (And.intro (And.intro (And.intro (And.intro @tyf3 (And.intro @tyf4 @tyf9)) (And.intro @tyf25 (And.intro @tyf41 @tyf42))) (And.intro (And.intro @tyf43 (And.intro @tyf44 @tyf45)) (And.intro @tyf46 (And.intro @tyf48 @tyf50)))) (And.intro (And.intro (And.intro @tyf65 (And.intro @tyf69 @tyf81)) (And.intro @tyf139 (And.intro @light5 @fnf21))) (And.intro (And.intro @fnf22 (And.intro @fnf23 @fnf24)) (And.intro @fnf25 (And.intro @fnf26 @fnf27))))) := (And.intro (And.intro (And.intro (And.intro @tyf3 (And.intro @tyf4 @tyf9)) (And.intro @tyf25 (And.intro @tyf41 @tyf42))) (And.intro (And.intro @tyf43 (And.intro @tyf44 @tyf45)) (And.intro @tyf46 (And.intro @tyf48 @tyf50)))) (And.intro (And.intro (And.intro @tyf65 (And.intro @tyf69 @tyf81)) (And.intro @tyf139 (And.intro @light5 @fnf21))) (And.intro (And.intro @fnf22 (And.intro @fnf23 @fnf24)) (And.intro @fnf25 (And.intro @fnf26 @fnf27)))))
theorem factsOf6 : type_of% (And.intro (And.intro (And.intro (And.intro (And.intro @tyf3 @tyf4) (And.intro @tyf9 @tyf24)) (And.intro (And.intro @tyf25 @tyf30) (And.intro @tyf41 (And.intro @tyf42 @tyf43)))) (And.intro (And.intro (And.intro @tyf44 @tyf45) (And.intro @tyf46 @tyf48)) (And.intro (And.intro @tyf50 @tyf56) (And.intro @tyf65 (And.intro @tyf66 @tyf69))))) (And.intro (And.intro (And.intro (And.intro @tyf70 @tyf81) (And.intro @tyf139 @light6)) (And.intro (And.intro @keepB6_0 @keepB6_1) (And.intro @keepB6_2 (And.intro @keepB6_3 @fnf16)))) (And.intro (And.intro (And.intro @fnf23 @fnf28) (And.intro @fnf29 (And.intro @fnf30 @fnf31))) (And.intro (And.intro @fnf32 @fnf33) (And.intro @fnf34 (And.intro @fnf35 @fnf36)))))) := (And.intro (And.intro (And.intro (And.intro (And.intro @tyf3 @tyf4) (And.intro @tyf9 @tyf24)) (And.intro (And.intro @tyf25 @tyf30) (And.intro @tyf41 (And.intro @tyf42 @tyf43)))) (And.intro (And.intro (And.intro @tyf44 @tyf45) (And.intro @tyf46 @tyf48)) (And.intro (And.intro @tyf50 @tyf56) (And.intro @tyf65 (And.intro @tyf66 @tyf69))))) (And.intro (And.intro (And.intro (And.intro @tyf70 @tyf81) (And.intro @tyf139 @light6)) (And.intro (And.intro @keepB6_0 @keepB6_1) (And.intro @keepB6_2 (And.intro @keepB6_3 @fnf16)))) (And.intro (And.intro (And.intro @fnf23 @fnf28) (And.intro @fnf29 (And.intro @fnf30 @fnf31))) (And.intro (And.intro @fnf32 @fnf33) (And.intro @fnf34 (And.intro @fnf35 @fnf36))))))
theorem factsOf7 : type_of% (And.intro (And.intro (And.intro (And.intro (And.intro @tyf3 @tyf4) (And.intro @tyf9 @tyf24)) (And.intro (And.intro @tyf25 @tyf41) (And.intro @tyf42 @tyf43))) (And.intro (And.intro (And.intro @tyf44 @tyf45) (And.intro @tyf46 @tyf48)) (And.intro (And.intro @tyf50 @tyf65) (And.intro @tyf69 (And.intro @tyf72 @tyf81))))) (And.intro (And.intro (And.intro (And.intro @tyf139 @light7) (And.intro @frzT41_41 @notInt41)) (And.intro (And.intro @keepB7_0 @keepB7_1) (And.intro @keepB7_2 (And.intro @keepB7_3 @keepB7_4)))) (And.intro (And.intro (And.intro @keepB7_5 @fnf23) (And.intro @fnf32 @fnf37)) (And.intro (And.intro @fnf38 @fnf39) (And.intro @fnf40 (And.intro @fnf41 @fnf42)))))) := (And.intro (And.intro (And.intro (And.intro (And.intro @tyf3 @tyf4) (And.intro @tyf9 @tyf24)) (And.intro (And.intro @tyf25 @tyf41) (And.intro @tyf42 @tyf43))) (And.intro (And.intro (And.intro @tyf44 @tyf45) (And.intro @tyf46 @tyf48)) (And.intro (And.intro @tyf50 @tyf65) (And.intro @tyf69 (And.intro @tyf72 @tyf81))))) (And.intro (And.intro (And.intro (And.intro @tyf139 @light7) (And.intro @frzT41_41 @notInt41)) (And.intro (And.intro @keepB7_0 @keepB7_1) (And.intro @keepB7_2 (And.intro @keepB7_3 @keepB7_4)))) (And.intro (And.intro (And.intro @keepB7_5 @fnf23) (And.intro @fnf32 @fnf37)) (And.intro (And.intro @fnf38 @fnf39) (And.intro @fnf40 (And.intro @fnf41 @fnf42))))))
theorem factsOf8 : type_of% (And.intro (And.intro (And.intro (And.intro (And.intro @tyf3 @tyf4) (And.intro @tyf9 (And.intro @tyf22 @tyf24))) (And.intro (And.intro @tyf25 @tyf29) (And.intro @tyf33 (And.intro @tyf41 @tyf42)))) (And.intro (And.intro (And.intro @tyf43 @tyf44) (And.intro @tyf45 (And.intro @tyf46 @tyf48))) (And.intro (And.intro @tyf50 @tyf65) (And.intro @tyf69 (And.intro @tyf81 @tyf139))))) (And.intro (And.intro (And.intro (And.intro @light8 @frzT22_22) (And.intro @notInt22 (And.intro @keepB8_0 @keepB8_1))) (And.intro (And.intro @fnf20 @fnf23) (And.intro @fnf32 (And.intro @fnf37 @fnf40)))) (And.intro (And.intro (And.intro @fnf41 @fnf42) (And.intro @fnf43 (And.intro @fnf44 @fnf45))) (And.intro (And.intro @fnf46 @fnf47) (And.intro @fnf48 (And.intro @fnf49 @fnf50)))))) := (And.intro (And.intro (And.intro (And.intro (And.intro @tyf3 @tyf4) (And.intro @tyf9 (And.intro @tyf22 @tyf24))) (And.intro (And.intro @tyf25 @tyf29) (And.intro @tyf33 (And.intro @tyf41 @tyf42)))) (And.intro (And.intro (And.intro @tyf43 @tyf44) (And.intro @tyf45 (And.intro @tyf46 @tyf48))) (And.intro (And.intro @tyf50 @tyf65) (And.intro @tyf69 (And.intro @tyf81 @tyf139))))) (And.intro (And.intro (And.intro (And.intro @light8 @frzT22_22) (And.intro @notInt22 (And.intro @keepB8_0 @keepB8_1))) (And.intro (And.intro @fnf20 @fnf23) (And.intro @fnf32 (And.intro @fnf37 @fnf40)))) (And.intro (And.intro (And.intro @fnf41 @fnf42) (And.intro @fnf43 (And.intro @fnf44 @fnf45))) (And.intro (And.intro @fnf46 @fnf47) (And.intro @fnf48 (And.intro @fnf49 @fnf50))))))
theorem factsOf9 : type_of% (And.intro (And.intro (And.intro (And.intro @tyf3 @tyf22) (And.intro @tyf24 @tyf25)) (And.intro (And.intro @tyf29 @tyf90) (And.intro @tyf134 @light9))) (And.intro (And.intro (And.intro @fnf10 @fnf11) (And.intro @fnf13 @fnf16)) (And.intro (And.intro @fnf19 @fnf51) (And.intro @fnf52 (And.intro @fnf53 @fnf54))))) := (And.intro (And.intro (And.intro (And.intro @tyf3 @tyf22) (And.intro @tyf24 @tyf25)) (And.intro (And.intro @tyf29 @tyf90) (And.intro @tyf134 @light9))) (And.intro (And.intro (And.intro @fnf10 @fnf11) (And.intro @fnf13 @fnf16)) (And.intro (And.intro @fnf19 @fnf51) (And.intro @fnf52 (And.intro @fnf53 @fnf54)))))
theorem factsOf10 : type_of% (And.intro (And.intro @tyf3 (And.intro @tyf22 @tyf25)) (And.intro (And.intro @tyf29 @light10) (And.intro @fnf13 @fnf55))) := (And.intro (And.intro @tyf3 (And.intro @tyf22 @tyf25)) (And.intro (And.intro @tyf29 @light10) (And.intro @fnf13 @fnf55)))
theorem factsOf11 : type_of% (And.intro (And.intro (And.intro @tyf3 (And.intro @tyf22 @tyf24)) (And.intro @tyf25 (And.intro @tyf29 @light11))) (And.intro (And.intro @frzT24_24 (And.intro @notInt24 @keepB11_0)) (And.intro @keepB11_1 (And.intro @fnf13 @fnf55)))) := (And.intro (And.intro (And.intro @tyf3 (And.intro @tyf22 @tyf24)) (And.intro @tyf25 (And.intro @tyf29 @light11))) (And.intro (And.intro @frzT24_24 (And.intro @notInt24 @keepB11_0)) (And.intro @keepB11_1 (And.intro @fnf13 @fnf55))))
theorem factsOf12 : type_of% (And.intro (And.intro (And.intro @tyf3 @tyf22) (And.intro @tyf29 @light12)) (And.intro (And.intro @keepB12_0 @keepB12_1) (And.intro @keepB12_2 @keepB12_3))) := (And.intro (And.intro (And.intro @tyf3 @tyf22) (And.intro @tyf29 @light12)) (And.intro (And.intro @keepB12_0 @keepB12_1) (And.intro @keepB12_2 @keepB12_3)))
theorem factsOf13 : type_of% (And.intro (And.intro @tyf3 (And.intro @tyf22 @tyf29)) (And.intro @light13 (And.intro @keepB13_0 @keepB13_1))) := (And.intro (And.intro @tyf3 (And.intro @tyf22 @tyf29)) (And.intro @light13 (And.intro @keepB13_0 @keepB13_1)))
theorem factsOf14 : type_of% (And.intro (And.intro (And.intro (And.intro (And.intro @tyf3 @tyf4) (And.intro @tyf22 (And.intro @tyf29 @tyf30))) (And.intro (And.intro @tyf31 (And.intro @light14_0 @light14_1)) (And.intro @light14_2 (And.intro @light14_3 @light14_4)))) (And.intro (And.intro (And.intro @light14_5 @light14_6) (And.intro @light14_7 (And.intro @light14_8 @light14_9))) (And.intro (And.intro @light14_10 (And.intro @light14_11 @light14_12)) (And.intro @light14_13 (And.intro @light14_14 @light14_15))))) (And.intro (And.intro (And.intro (And.intro @light14_16 @light14_17) (And.intro @light14_18 (And.intro @light14_19 @light14_20))) (And.intro (And.intro @light14_21 (And.intro @light14_22 @light14_23)) (And.intro @light14_24 (And.intro @light14_25 @light14_26)))) (And.intro (And.intro (And.intro @light14_27 @keepB14_0) (And.intro @keepB14_1 (And.intro @keepB14_2 @keepB14_3))) (And.intro (And.intro @keepB14_4 (And.intro @keepB14_5 @keepB14_6)) (And.intro @keepB14_7 (And.intro @keepB14_8 @keepB14_9)))))) := (And.intro (And.intro (And.intro (And.intro (And.intro @tyf3 @tyf4) (And.intro @tyf22 (And.intro @tyf29 @tyf30))) (And.intro (And.intro @tyf31 (And.intro @light14_0 @light14_1)) (And.intro @light14_2 (And.intro @light14_3 @light14_4)))) (And.intro (And.intro (And.intro @light14_5 @light14_6) (And.intro @light14_7 (And.intro @light14_8 @light14_9))) (And.intro (And.intro @light14_10 (And.intro @light14_11 @light14_12)) (And.intro @light14_13 (And.intro @light14_14 @light14_15))))) (And.intro (And.intro (And.intro (And.intro @light14_16 @light14_17) (And.intro @light14_18 (And.intro @light14_19 @light14_20))) (And.intro (And.intro @light14_21 (And.intro @light14_22 @light14_23)) (And.intro @light14_24 (And.intro @light14_25 @light14_26)))) (And.intro (And.intro (And.intro @light14_27 @keepB14_0) (And.intro @keepB14_1 (And.intro @keepB14_2 @keepB14_3))) (And.intro (And.intro @keepB14_4 (And.intro @keepB14_5 @keepB14_6)) (And.intro @keepB14_7 (And.intro @keepB14_8 @keepB14_9))))))
theorem factsOf15 : type_of% (And.intro @tyf3 @light15) := (And.intro @tyf3 @light15)
theorem factsOf16 : type_of% (And.intro (And.intro @tyf3 @tyf24) (And.intro @light16 (And.intro @keepB16_0 @keepB16_1))) := (And.intro (And.intro @tyf3 @tyf24) (And.intro @light16 (And.intro @keepB16_0 @keepB16_1)))
theorem factsOf17 : type_of% (And.intro (And.intro (And.intro @tyf3 (And.intro @tyf4 @tyf24)) (And.intro @tyf30 (And.intro @tyf31 @light17))) (And.intro (And.intro @frzT24_24 (And.intro @notInt24 @keepB17_0)) (And.intro @keepB17_1 (And.intro @keepB17_2 @keepB17_3)))) := (And.intro (And.intro (And.intro @tyf3 (And.intro @tyf4 @tyf24)) (And.intro @tyf30 (And.intro @tyf31 @light17))) (And.intro (And.intro @frzT24_24 (And.intro @notInt24 @keepB17_0)) (And.intro @keepB17_1 (And.intro @keepB17_2 @keepB17_3))))
theorem factsOf18 : type_of% (@light18) := @light18
theorem factsOf19 : type_of% (And.intro (And.intro (And.intro @tyf3 @tyf22) (And.intro @tyf24 @tyf25)) (And.intro (And.intro @tyf29 @light19) (And.intro @fnf13 (And.intro @fnf56 @fnf57)))) := (And.intro (And.intro (And.intro @tyf3 @tyf22) (And.intro @tyf24 @tyf25)) (And.intro (And.intro @tyf29 @light19) (And.intro @fnf13 (And.intro @fnf56 @fnf57))))
theorem factsOf20 : type_of% (And.intro (And.intro (And.intro @tyf3 (And.intro @tyf4 @tyf22)) (And.intro @tyf29 (And.intro @tyf30 @tyf31))) (And.intro (And.intro @tyf33 (And.intro @tyf97 @light20)) (And.intro (And.intro @keepB20_0 @keepB20_1) (And.intro @fnf14 @fnf58)))) := (And.intro (And.intro (And.intro @tyf3 (And.intro @tyf4 @tyf22)) (And.intro @tyf29 (And.intro @tyf30 @tyf31))) (And.intro (And.intro @tyf33 (And.intro @tyf97 @light20)) (And.intro (And.intro @keepB20_0 @keepB20_1) (And.intro @fnf14 @fnf58))))
theorem factsOf21 : type_of% (And.intro (And.intro (And.intro (And.intro (And.intro @tyf3 @tyf4) (And.intro @tyf9 (And.intro @tyf25 @tyf41))) (And.intro (And.intro @tyf42 (And.intro @tyf43 @tyf44)) (And.intro @tyf45 (And.intro @tyf46 @tyf48)))) (And.intro (And.intro (And.intro @tyf50 (And.intro @tyf65 @tyf69)) (And.intro @tyf81 (And.intro @tyf134 @tyf139))) (And.intro (And.intro @light21 (And.intro @structOk48 @placeS48_0)) (And.intro @placeS48_1 (And.intro @placeS48_2 @placeS48_3))))) (And.intro (And.intro (And.intro (And.intro @placeS48_4 @placeS48_5) (And.intro @structOk50 (And.intro @placeS50_0 @placeS50_1))) (And.intro (And.intro @placeS50_2 (And.intro @placeS50_3 @placeS50_4)) (And.intro @placeS50_5 (And.intro @placeS50_6 @placeS50_7)))) (And.intro (And.intro (And.intro @placeS50_8 (And.intro @fnf22 @fnf24)) (And.intro @fnf26 (And.intro @fnf41 @fnf54))) (And.intro (And.intro @fnf59 (And.intro @fnf60 @fnf61)) (And.intro @fnf62 (And.intro @fnf63 @fnf64)))))) := (And.intro (And.intro (And.intro (And.intro (And.intro @tyf3 @tyf4) (And.intro @tyf9 (And.intro @tyf25 @tyf41))) (And.intro (And.intro @tyf42 (And.intro @tyf43 @tyf44)) (And.intro @tyf45 (And.intro @tyf46 @tyf48)))) (And.intro (And.intro (And.intro @tyf50 (And.intro @tyf65 @tyf69)) (And.intro @tyf81 (And.intro @tyf134 @tyf139))) (And.intro (And.intro @light21 (And.intro @structOk48 @placeS48_0)) (And.intro @placeS48_1 (And.intro @placeS48_2 @placeS48_3))))) (And.intro (And.intro (And.intro (And.intro @placeS48_4 @placeS48_5) (And.intro @structOk50 (And.intro @placeS50_0 @placeS50_1))) (And.intro (And.intro @placeS50_2 (And.intro @placeS50_3 @placeS50_4)) (And.intro @placeS50_5 (And.intro @placeS50_6 @placeS50_7)))) (And.intro (And.intro (And.intro @placeS50_8 (And.intro @fnf22 @fnf24)) (And.intro @fnf26 (And.intro @fnf41 @fnf54))) (And.intro (And.intro @fnf59 (And.intro @fnf60 @fnf61)) (And.intro @fnf62 (And.intro @fnf63 @fnf64))))))
theorem factsOf22 : type_of% (And.intro (And.intro (And.intro (And.intro @tyf3 (And.intro @tyf4 @tyf9)) (And.intro (And.intro @tyf25 @tyf41) (And.intro @tyf42 @tyf43))) (And.intro (And.intro (And.intro @tyf44 @tyf45) (And.intro @tyf46 @tyf48)) (And.intro (And.intro @tyf50 @tyf65) (And.intro @tyf69 @tyf81)))) (And.intro (And.intro (And.intro (And.intro @tyf107 @tyf109) (And.intro @tyf139 @light22)) (And.intro (And.intro @structOk109 @placeS109_0) (And.intro @placeS109_1 @keepB22_0))) (And.intro (And.intro (And.intro @keepB22_1 @keepB22_2) (And.intro @keepB22_3 @keepB22_4)) (And.intro (And.intro @keepB22_5 @fnf26) (And.intro @fnf65 @fnf66))))) := (And.intro (And.intro (And.intro (And.intro @tyf3 (And.intro @tyf4 @tyf9)) (And.intro (And.intro @tyf25 @tyf41) (And.intro @tyf42 @tyf43))) (And.intro (And.intro (And.intro @tyf44 @tyf45) (And.intro @tyf46 @tyf48)) (And.intro (And.intro @tyf50 @tyf65) (And.intro @tyf69 @tyf81)))) (And.intro (And.intro (And.intro (And.intro @tyf107 @tyf109) (And.intro @tyf139 @light22)) (And.intro (And.intro @structOk109 @placeS109_0) (And.intro @placeS109_1 @keepB22_0))) (And.intro (And.intro (And.intro @keepB22_1 @keepB22_2) (And.intro @keepB22_3 @keepB22_4)) (And.intro (And.intro @keepB22_5 @fnf26) (And.intro @fnf65 @fnf66)))))
theorem factsOf23 : type_of% (And.intro (And.intro (And.intro (And.intro @tyf3 (And.intro @tyf4 @tyf9)) (And.intro (And.intro @tyf25 @tyf41) (And.intro @tyf42 @tyf43))) (And.intro (And.intro @tyf44 (And.intro @tyf45 @tyf46)) (And.intro (And.intro @tyf48 @tyf50) (And.intro @tyf65 @tyf69)))) (And.intro (And.intro (And.intro @tyf81 (And.intro @tyf112 @tyf115)) (And.intro (And.intro @tyf139 @light23) (And.intro @keepB23_0 @keepB23_1))) (And.intro (And.intro @keepB23_2 (And.intro @keepB23_3 @keepB23_4)) (And.intro (And.intro @keepB23_5 @fnf42) (And.intro @fnf67 @fnf68))))) := (And.intro (And.intro (And.intro (And.intro @tyf3 (And.intro @tyf4 @tyf9)) (And.intro (And.intro @tyf25 @tyf41) (And.intro @tyf42 @tyf43))) (And.intro (And.intro @tyf44 (And.intro @tyf45 @tyf46)) (And.intro (And.intro @tyf48 @tyf50) (And.intro @tyf65 @tyf69)))) (And.intro (And.intro (And.intro @tyf81 (And.intro @tyf112 @tyf115)) (And.intro (And.intro @tyf139 @light23) (And.intro @keepB23_0 @keepB23_1))) (And.intro (And.intro @keepB23_2 (And.intro @keepB23_3 @keepB23_4)) (And.intro (And.intro @keepB23_5 @fnf42) (And.intro @fnf67 @fnf68)))))
theorem factsOf24 : type_of% (And.intro (And.intro (And.intro @tyf3 @tyf5) (And.intro @tyf9 @tyf116)) (And.intro (And.intro @light24 @cvStr9_116) (And.intro @keepB24_0 @keepB24_1))) := (And.intro (And.intro (And.intro @tyf3 @tyf5) (And.intro @tyf9 @tyf116)) (And.intro (And.intro @light24 @cvStr9_116) (And.intro @keepB24_0 @keepB24_1)))
theorem factsOf25 : type_of% (And.intro (And.intro @tyf3 (And.intro @tyf5 @tyf9)) (And.intro @light25 (And.intro @keepB25_0 @keepB25_1))) := (And.intro (And.intro @tyf3 (And.intro @tyf5 @tyf9)) (And.intro @light25 (And.intro @keepB25_0 @keepB25_1)))
theorem factsOf26 : type_of% (And.intro (And.intro @tyf3 @tyf9) (And.intro @tyf50 (And.intro @light26 @fnf69))) := (And.intro (And.intro @tyf3 @tyf9) (And.intro @tyf50 (And.intro @light26 @fnf69)))
theorem factsOf27 : type_of% (And.intro (And.intro @tyf3 @tyf9) (And.intro @tyf50 (And.intro @light27 @fnf70))) := (And.intro (And.intro @tyf3 @tyf9) (And.intro @tyf50 (And.intro @light27 @fnf70)))
theorem factsOf28 : type_of% (And.intro (And.intro (And.intro (And.intro (And.intro @tyf3 @tyf4) (And.intro @tyf9 @tyf24)) (And.intro (And.intro @tyf25 @tyf30) (And.intro @tyf41 @tyf42))) (And.intro (And.intro (And.intro @tyf43 @tyf44) (And.intro @tyf45 @tyf46)) (And.intro (And.intro @tyf48 @tyf50) (And.intro @tyf56 @tyf65)))) (And.intro (And.intro (And.intro (And.intro @tyf69 @tyf81) (And.intro @tyf118 @tyf134)) (And.intro (And.intro @tyf139 @light28) (And.intro @fnf16 @fnf29))) (And.intro (And.intro (And.intro @fnf30 @fnf54) (And.intro @fnf59 @fnf71)) (And.intro (And.intro @fnf72 @fnf73) (And.intro @fnf74 @fnf75))))) := (And.intro (And.intro (And.intro (And.intro (And.intro @tyf3 @tyf4) (And.intro @tyf9 @tyf24)) (And.intro (And.intro @tyf25 @tyf30) (And.intro @tyf41 @tyf42))) (And.intro (And.intro (And.intro @tyf43 @tyf44) (And.intro @tyf45 @tyf46)) (And.intro (And.intro @tyf48 @tyf50) (And.intro @tyf56 @tyf65)))) (And.intro (And.intro (And.intro (And.intro @tyf69 @tyf81) (And.intro @tyf118 @tyf134)) (And.intro (And.intro @tyf139 @light28) (And.intro @fnf16 @fnf29))) (And.intro (And.intro (And.intro @fnf30 @fnf54) (And.intro @fnf59 @fnf71)) (And.intro (And.intro @fnf72 @fnf73) (And.intro @fnf74 @fnf75)))))
theorem factsOf29 : type_of% (And.intro (And.intro (And.intro (And.intro @tyf3 (And.intro @tyf4 @tyf9)) (And.intro @tyf24 (And.intro @tyf25 @tyf41))) (And.intro (And.intro @tyf42 (And.intro @tyf43 @tyf44)) (And.intro @tyf45 (And.intro @tyf46 @tyf48)))) (And.intro (And.intro (And.intro @tyf50 (And.intro @tyf56 @tyf65)) (And.intro @tyf69 (And.intro @tyf81 @tyf139))) (And.intro (And.intro @light29 (And.intro @structOk56 @placeS56_0)) (And.intro @placeS56_1 (And.intro @fnf22 @fnf76))))) := (And.intro (And.intro (And.intro (And.intro @tyf3 (And.intro @tyf4 @tyf9)) (And.intro @tyf24 (And.intro @tyf25 @tyf41))) (And.intro (And.intro @tyf42 (And.intro @tyf43 @tyf44)) (And.intro @tyf45 (And.intro @tyf46 @tyf48)))) (And.intro (And.intro (And.intro @tyf50 (And.intro @tyf56 @tyf65)) (And.intro @tyf69 (And.intro @tyf81 @tyf139))) (And.intro (And.intro @light29 (And.intro @structOk56 @placeS56_0)) (And.intro @placeS56_1 (And.intro @fnf22 @fnf76)))))
theorem factsOf30 : type_of% (And.intro (And.intro (And.intro (And.intro @tyf3 (And.intro @tyf4 @tyf9)) (And.intro (And.intro @tyf24 @tyf25) (And.intro @tyf30 @tyf41))) (And.intro (And.intro @tyf42 (And.intro @tyf43 @tyf44)) (And.intro (And.intro @tyf45 @tyf46) (And.intro @tyf48 @tyf50)))) (And.intro (And.intro (And.intro @tyf56 (And.intro @tyf65 @tyf69)) (And.intro (And.intro @tyf81 @tyf139) (And.intro @light30 @keepB30_0))) (And.intro (And.intro @keepB30_1 (And.intro @keepB30_2 @keepB30_3)) (And.intro (And.intro @keepB30_4 @keepB30_5) (And.intro @fnf29 @fnf77))))) := (And.intro (And.intro (And.intro (And.intro @tyf3 (And.intro @tyf4 @tyf9)) (And.intro (And.intro @tyf24 @tyf25) (And.intro @tyf30 @tyf41))) (And.intro (And.intro @tyf42 (And.intro @tyf43 @tyf44)) (And.intro (And.intro @tyf45 @tyf46) (And.intro @tyf48 @tyf50)))) (And.intro (And.intro (And.intro @tyf56 (And.intro @tyf65 @tyf69)) (And.intro (And.intro @tyf81 @tyf139) (And.intro @light30 @keepB30_0))) (And.intro (And.intro @keepB30_1 (And.intro @keepB30_2 @keepB30_3)) (And.intro (And.intro @keepB30_4 @keepB30_5) (And.intro @fnf29 @fnf77)))))
theorem factsOf31 : type_of% (And.intro (And.intro (And.intro (And.intro (And.intro @tyf3 @tyf4) (And.intro @tyf9 @tyf22)) (And.intro (And.intro @tyf24 @tyf29) (And.intro @tyf30 (And.intro @tyf31 @tyf33)))) (And.intro (And.intro (And.intro @tyf41 @tyf42) (And.intro @tyf43 (And.intro @tyf44 @tyf45))) (And.intro (And.intro @tyf46 @tyf48) (And.intro @tyf50 (And.intro @tyf56 @tyf65))))) (And.intro (And.intro (And.intro (And.intro @tyf69 @tyf81) (And.intro @tyf139 (And.intro @light31 @frzT22_22))) (And.intro (And.intro @notInt22 @structOk56) (And.intro @placeS56_0 (And.intro @placeS56_1 @keepB31_0)))) (And.intro (And.intro (And.intro @keepB31_1 @keepB31_2) (And.intro @keepB31_3 (And.intro @fnf14 @fnf17))) (And.intro (And.intro @fnf32 @fnf40) (And.intro @fnf46 (And.intro @fnf47 @fnf79)))))) := (And.intro (And.intro (And.intro (And.intro (And.intro @tyf3 @tyf4) (And.intro @tyf9 @tyf22)) (And.intro (And.intro @tyf24 @tyf29) (And.intro @tyf30 (And.intro @tyf31 @tyf33)))) (And.intro (And.intro (And.intro @tyf41 @tyf42) (And.intro @tyf43 (And.intro @tyf44 @tyf45))) (And.intro (And.intro @tyf46 @tyf48) (And.intro @tyf50 (And.intro @tyf56 @tyf65))))) (And.intro (And.intro (And.intro (And.intro @tyf69 @tyf81) (And.intro @tyf139 (And.intro @light31 @frzT22_22))) (And.intro (And.intro @notInt22 @structOk56) (And.intro @placeS56_0 (And.intro @placeS56_1 @keepB31_0)))) (And.intro (And.intro (And.intro @keepB31_1 @keepB31_2) (And.intro @keepB31_3 (And.intro @fnf14 @fnf17))) (And.intro (And.intro @fnf32 @fnf40) (And.intro @fnf46 (And.intro @fnf47 @fnf79))))))
theorem factsOf32 : type_of% (And.intro (And.intro @tyf3 @tyf24) (And.intro @light32 (And.intro @keepB32_0 @keepB32_1))) := (And.intro (And.intro @tyf3 @tyf24) (And.intro @light32 (And.intro @keepB32_0 @keepB32_1)))
theorem factsOf33 : type_of% (And.intro (And.intro @tyf3 (And.intro @tyf9 @tyf44)) (And.intro (And.intro @tyf65 @tyf66) (And.intro @light33 @fnf80))) := (And.intro (And.intro @tyf3 (And.intro @tyf9 @tyf44)) (And.intro (And.intro @tyf65 @tyf66) (And.intro @light33 @fnf80)))
theorem factsOf34 : type_of% (And.intro (And.intro @tyf3 @tyf9) (And.intro @tyf65 @light34)) := (And.intro (And.intro @tyf3 @tyf9) (And.intro @tyf65 @light34))
theorem factsOf35 : type_of% (And.intro (And.intro @tyf3 (And.intro @tyf9 @tyf46)) (And.intro (And.intro @tyf69 @tyf70) (And.intro @light35 @fnf81))) := (And.intro (And.intro @tyf3 (And.intro @tyf9 @tyf46)) (And.intro (And.intro @tyf69 @tyf70) (And.intro @light35 @fnf81)))
theorem factsOf36 : type_of% (And.intro (And.intro @tyf3 @tyf9) (And.intro @tyf69 @light36)) := (And.intro (And.intro @tyf3 @tyf9) (And.intro @tyf69 @light36))
theorem factsOf37 : type_of% (And.intro (And.intro (And.intro (And.intro @tyf3 (And.intro @tyf4 @tyf9)) (And.intro @tyf25 (And.intro @tyf41 @tyf42))) (And.intro (And.intro @tyf43 (And.intro @tyf44 @tyf45)) (And.intro (And.intro @tyf46 @tyf48) (And.intro @tyf50 @tyf65)))) (And.intro (And.intro (And.intro @tyf69 (And.intro @tyf72 @tyf81)) (And.intro @tyf134 (And.intro @tyf139 @light37))) (And.intro (And.intro @fnf38 (And.intro @fnf39 @fnf41)) (And.intro (And.intro @fnf43 @fnf44) (And.intro @fnf54 @fnf59))))) := (And.intro (And.intro (And.intro (And.intro @tyf3 (And.intro @tyf4 @tyf9)) (And.intro @tyf25 (And.intro @tyf41 @tyf42))) (And.intro (And.intro @tyf43 (And.intro @tyf44 @tyf45)) (And.intro (And.intro @tyf46 @tyf48) (And.intro @tyf50 @tyf65)))) (And.intro (And.intro (And.intro @tyf69 (And.intro @tyf72 @tyf81)) (And.intro @tyf134 (And.intro @tyf139 @light37))) (And.intro (And.intro @fnf38 (And.intro @fnf39 @fnf41)) (And.intro (And.intro @fnf43 @fnf44) (And.intro @fnf54 @fnf59)))))
theorem factsOf38 : type_of% (And.intro (And.intro (And.intro (And.intro (And.intro @tyf3 @tyf4) (And.intro @tyf9 @tyf24)) (And.intro (And.intro @tyf25 @tyf41) (And.intro @tyf42 (And.intro @tyf43 @tyf44)))) (And.intro (And.intro (And.intro @tyf45 @tyf46) (And.intro @tyf48 (And.intro @tyf50 @tyf65))) (And.intro (And.intro @tyf69 @tyf72) (And.intro @tyf81 (And.intro @tyf139 @light38_0))))) (And.intro (And.intro (And.intro (And.intro @light38_1 @light38_2) (And.intro @light38_3 (And.intro @light38_4 @light38_5))) (And.intro (And.intro @light38_6 @light38_7) (And.intro @light38_8 (And.intro @light38_9 @light38_10)))) (And.intro (And.intro (And.intro @light38_11 @light38_12) (And.intro @frzT41_41 (And.intro @notInt41 @frzT72_72))) (And.intro (And.intro @notInt72 @keepB38_0) (And.intro @keepB38_1 (And.intro @fnf82 @fnf83)))))) := (And.intro (And.intro (And.intro (And.intro (And.intro @tyf3 @tyf4) (And.intro @tyf9 @tyf24)) (And.intro (And.intro @tyf25 @tyf41) (And.intro @tyf42 (And.intro @tyf43 @tyf44)))) (And.intro (And.intro (And.intro @tyf45 @tyf46) (And.intro @tyf48 (And.intro @tyf50 @tyf65))) (And.intro (And.intro @tyf69 @tyf72) (And.intro @tyf81 (And.intro @tyf139 @light38_0))))) (And.intro (And.intro (And.intro (And.intro @light38_1 @light38_2) (And.intro @light38_3 (And.intro @light38_4 @light38_5))) (And.intro (And.intro @light38_6 @light38_7) (And.intro @light38_8 (And.intro @light38_9 @light38_10)))) (And.intro (And.intro (And.intro @light38_11 @light38_12) (And.intro @frzT41_41 (And.intro @notInt41 @frzT72_72))) (And.intro (And.intro @notInt72 @keepB38_0) (And.intro @keepB38_1 (And.intro @fnf82 @fnf83))))))
theorem factsOf39 : type_of% (And.intro (And.intro (And.intro (And.intro @tyf3 @tyf4) (And.intro @tyf9 (And.intro @tyf25 @tyf41))) (And.intro (And.intro @tyf42 (And.intro @tyf43 @tyf44)) (And.intro @tyf45 (And.intro @tyf46 @tyf48)))) (And.intro (And.intro (And.intro @tyf50 @tyf65) (And.intro @tyf69 (And.intro @tyf81 @tyf139))) (And.intro (And.intro @light39 (And.intro @frzT41_41 @notInt41)) (And.intro @keepB39_0 (And.intro @keepB39_1 @fnf82))))) := (And.intro (And.intro (And.intro (And.intro @tyf3 @tyf4) (And.intro @tyf9 (And.intro @tyf25 @tyf41))) (And.intro (And.intro @tyf42 (And.intro @tyf43 @tyf44)) (And.intro @tyf45 (And.intro @tyf46 @tyf48)))) (And.intro (And.intro (And.intro @tyf50 @tyf65) (And.intro @tyf69 (And.intro @tyf81 @tyf139))) (And.intro (And.intro @light39 (And.intro @frzT41_41 @notInt41)) (And.intro @keepB39_0 (And.intro @keepB39_1 @fnf82)))))
theorem factsOf40 : type_of% (And.intro (And.intro (And.intro (And.intro @tyf3 (And.intro @tyf4 @tyf9)) (And.intro @tyf22 (And.intro @tyf29 @tyf30))) (And.intro (And.intro @tyf31 (And.intro @tyf33 @tyf41)) (And.intro @tyf42 (And.intro @tyf43 @tyf44)))) (And.intro (And.intro (And.intro @tyf45 (And.intro @tyf46 @tyf48)) (And.intro @tyf50 (And.intro @tyf65 @tyf69))) (And.intro (And.intro @tyf81 (And.intro @tyf139 @light40)) (And.intro (And.intro @fnf14 @fnf17) (And.intro @fnf47 @fnf48))))) := (And.intro (And.intro (And.intro (And.intro @tyf3 (And.intro @tyf4 @tyf9)) (And.intro @tyf22 (And.intro @tyf29 @tyf30))) (And.intro (And.intro @tyf31 (And.intro @tyf33 @tyf41)) (And.intro @tyf42 (And.intro @tyf43 @tyf44)))) (And.intro (And.intro (And.intro @tyf45 (And.intro @tyf46 @tyf48)) (And.intro @tyf50 (And.intro @tyf65 @tyf69))) (And.intro (And.intro @tyf81 (And.intro @tyf139 @light40)) (And.intro (And.intro @fnf14 @fnf17) (And.intro @fnf47 @fnf48)))))
theorem factsOf41 : type_of% (And.intro (And.intro @tyf3 (And.intro @tyf9 @tyf41)) (And.intro @light41 (And.intro @keepB41_0 @keepB41_1))) := (And.intro (And.intro @tyf3 (And.intro @tyf9 @tyf41)) (And.intro @light41 (And.intro @keepB41_0 @keepB41_1)))
theorem factsOf42 : type_of% (And.intro (And.intro @tyf3 @tyf9) (And.intro @tyf41 (And.intro @light42 @fnf46))) := (And.intro (And.intro @tyf3 @tyf9) (And.intro @tyf41 (And.intro @light42 @fnf46)))
theorem factsOf43 : type_of% (And.intro (And.intro (And.intro (And.intro @tyf3 (And.intro @tyf4 @tyf9)) (And.intro @tyf22 (And.intro @tyf24 @tyf25))) (And.intro (And.intro @tyf29 (And.intro @tyf41 @tyf42)) (And.intro @tyf43 (And.intro @tyf44 @tyf45)))) (And.intro (And.intro (And.intro @tyf46 (And.intro @tyf48 @tyf50)) (And.intro @tyf65 (And.intro @tyf69 @tyf81))) (And.intro (And.intro @tyf139 (And.intro @light43 @fnf19)) (And.intro (And.intro @fnf78 @fnf82) (And.intro @fnf84 @fnf85))))) := (And.intro (And.intro (And.intro (And.intro @tyf3 (And.intro @tyf4 @tyf9)) (And.intro @tyf22 (And.intro @tyf24 @tyf25))) (And.intro (And.intro @tyf29 (And.intro @tyf41 @tyf42)) (And.intro @tyf43 (And.intro @tyf44 @tyf45)))) (And.intro (And.intro (And.intro @tyf46 (And.intro @tyf48 @tyf50)) (And.intro @tyf65 (And.intro @tyf69 @tyf81))) (And.intro (And.intro @tyf139 (And.intro @light43 @fnf19)) (And.intro (And.intro @fnf78 @fnf82) (And.intro @fnf84 @fnf85)))))
theorem factsOf44 : type_of% (And.intro (And.intro (And.intro (And.intro @tyf3 (And.intro @tyf4 @tyf9)) (And.intro (And.intro @tyf22 @tyf24) (And.intro @tyf25 @tyf29))) (And.intro (And.intro @tyf41 (And.intro @tyf42 @tyf43)) (And.intro (And.intro @tyf44 @tyf45) (And.intro @tyf46 @tyf48)))) (And.intro (And.intro (And.intro @tyf50 (And.intro @tyf65 @tyf69)) (And.intro (And.intro @tyf81 @tyf139) (And.intro @light44 @keepB44_0))) (And.intro (And.intro @keepB44_1 (And.intro @fnf19 @fnf78)) (And.intro (And.intro @fnf82 @fnf83) (And.intro @fnf84 @fnf85))))) := (And.intro (And.intro (And.intro (And.intro @tyf3 (And.intro @tyf4 @tyf9)) (And.intro (And.intro @tyf22 @tyf24) (And.intro @tyf25 @tyf29))) (And.intro (And.intro @tyf41 (And.intro @tyf42 @tyf43)) (And.intro (And.intro @tyf44 @tyf45) (And.intro @tyf46 @tyf48)))) (And.intro (And.intro (And.intro @tyf50 (And.intro @tyf65 @tyf69)) (And.intro (And.intro @tyf81 @tyf139) (And.intro @light44 @keepB44_0))) (And.intro (And.intro @keepB44_1 (And.intro @fnf19 @fnf78)) (And.intro (And.intro @fnf82 @fnf83) (And.intro @fnf84 @fnf85)))))
theorem factsOf45 : type_of% (And.intro (And.intro (And.intro (And.intro @tyf3 @tyf4) (And.intro @tyf9 @tyf41)) (And.intro (And.intro @tyf42 @tyf43) (And.intro @tyf44 @tyf45))) (And.intro (And.intro (And.intro @tyf46 @tyf48) (And.intro @tyf50 @tyf65)) (And.intro (And.intro @tyf69 @tyf81) (And.intro @tyf139 @light45)))) := (And.intro (And.intro (And.intro (And.intro @tyf3 @tyf4) (And.intro @tyf9 @tyf41)) (And.intro (And.intro @tyf42 @tyf43) (And.intro @tyf44 @tyf45))) (And.intro (And.intro (And.intro @tyf46 @tyf48) (And.intro @tyf50 @tyf65)) (And.intro (And.intro @tyf69 @tyf81) (And.intro @tyf139 @light45))))
theorem factsOf46 : type_of% (And.intro (And.intro @tyf3 (And.intro @tyf9 @tyf41)) (And.intro @light46 (And.intro @keepB46_0 @keepB46_1))) := (And.intro (And.intro @tyf3 (And.intro @tyf9 @tyf41)) (And.intro @light46 (And.intro @keepB46_0 @keepB46_1)))
theorem factsOf47 : type_of% (And.intro (And.intro (And.intro (And.intro @tyf3 @tyf4) (And.intro @tyf9 (And.intro @tyf22 @tyf29))) (And.intro (And.intro @tyf41 (And.intro @tyf42 @tyf43)) (And.intro @tyf44 (And.intro @tyf45 @tyf46)))) (And.intro (And.intro (And.intro @tyf48 (And.intro @tyf50 @tyf65)) (And.intro @tyf69 (And.intro @tyf81 @tyf139))) (And.intro (And.intro @light47 (And.intro @frzT22_22 @notInt22)) (And.intro @keepB47_0 (And.intro @keepB47_1 @fnf46))))) := (And.intro (And.intro (And.intro (And.intro @tyf3 @tyf4) (And.intro @tyf9 (And.intro @tyf22 @tyf29))) (And.intro (And.intro @tyf41 (And.intro @tyf42 @tyf43)) (And.intro @tyf44 (And.intro @tyf45 @tyf46)))) (And.intro (And.intro (And.intro @tyf48 (And.intro @tyf50 @tyf65)) (And.intro @tyf69 (And.intro @tyf81 @tyf139))) (And.intro (And.intro @light47 (And.intro @frzT22_22 @notInt22)) (And.intro @keepB47_0 (And.intro @keepB47_1 @fnf46)))))
theorem factsOf48 : type_of% (And.intro @light48 @fnf86) := (And.intro @light48 @fnf86)
theorem factsOf49 : type_of% (And.intro (And.intro (And.intro (And.intro @tyf3 @tyf4) (And.intro @tyf9 (And.intro @tyf24 @tyf41))) (And.intro (And.intro @tyf42 @tyf43) (And.intro @tyf44 (And.intro @tyf45 @tyf46)))) (And.intro (And.intro (And.intro @tyf48 @tyf50) (And.intro @tyf65 (And.intro @tyf69 @tyf81))) (And.intro (And.intro @tyf139 (And.intro @light49 @frzT41_41)) (And.intro @notInt41 (And.intro @keepB49_0 @keepB49_1))))) := (And.intro (And.intro (And.intro (And.intro @tyf3 @tyf4) (And.intro @tyf9 (And.intro @tyf24 @tyf41))) (And.intro (And.intro @tyf42 @tyf43) (And.intro @tyf44 (And.intro @tyf45 @tyf46)))) (And.intro (And.intro (And.intro @tyf48 @tyf50) (And.intro @tyf65 (And.intro @tyf69 @tyf81))) (And.intro (And.intro @tyf139 (And.intro @light49 @frzT41_41)) (And.intro @notInt41 (And.intro @keepB49_0 @keepB49_1)))))
theorem factsOf50 : type_of% (And.intro (And.intro (And.intro (And.intro @tyf3 @tyf4) (And.intro @tyf9 @tyf41)) (And.intro (And.intro @tyf42 @tyf43) (And.intro @tyf44 @tyf45))) (And.intro (And.intro (And.intro @tyf46 @tyf48) (And.intro @tyf50 @tyf65)) (And.intro (And.intro @tyf69 @tyf81) (And.intro @tyf139 @light50)))) := (And.intro (And.intro (And.intro (And.intro @tyf3 @tyf4) (And.intro @tyf9 @tyf41)) (And.intro (And.intro @tyf42 @tyf43) (And.intro @tyf44 @tyf45))) (And.intro (And.intro (And.intro @tyf46 @tyf48) (And.intro @tyf50 @tyf65)) (And.intro (And.intro @tyf69 @tyf81) (And.intro @tyf139 @light50))))
theorem factsOf51 : type_of% (And.intro (And.intro @tyf3 (And.intro @tyf22 @tyf25)) (And.intro (And.intro @tyf29 @light51) (And.intro @fnf13 @fnf87))) := (And.intro (And.intro @tyf3 (And.intro @tyf22 @tyf25)) (And.intro (And.intro @tyf29 @light51) (And.intro @fnf13 @fnf87)))
theorem factsOf52 : type_of% (And.intro (And.intro @tyf3 @tyf22) (And.intro @tyf29 @light52)) := (And.intro (And.intro @tyf3 @tyf22) (And.intro @tyf29 @light52))
theorem factsOf53 : type_of% (And.intro (And.intro (And.intro (And.intro @tyf3 @tyf22) (And.intro @tyf24 @tyf25)) (And.intro (And.intro @tyf29 @tyf90) (And.intro @light53 @frzT24_24))) (And.intro (And.intro (And.intro @notInt24 @frzT90_90) (And.intro @notInt90 @keepB53_0)) (And.intro (And.intro @keepB53_1 @fnf13) (And.intro @fnf56 (And.intro @fnf87 @fnf88))))) := (And.intro (And.intro (And.intro (And.intro @tyf3 @tyf22) (And.intro @tyf24 @tyf25)) (And.intro (And.intro @tyf29 @tyf90) (And.intro @light53 @frzT24_24))) (And.intro (And.intro (And.intro @notInt24 @frzT90_90) (And.intro @notInt90 @keepB53_0)) (And.intro (And.intro @keepB53_1 @fnf13) (And.intro @fnf56 (And.intro @fnf87 @fnf88)))))
theorem factsOf54 : type_of% (And.intro (And.intro @tyf25 (And.intro @tyf134 @tyf136)) (And.intro @light54 (And.intro @fnf89 @fnf90))) := (And.intro (And.intro @tyf25 (And.intro @tyf134 @tyf136)) (And.intro @light54 (And.intro @fnf89 @fnf90)))
theorem factsOf55 : type_of% (And.intro (And.intro (And.intro @tyf3 (And.intro @tyf22 @tyf24)) (And.intro (And.intro @tyf29 @light55) (And.intro @frzT24_24 @notInt24))) (And.intro (And.intro @keepB55_0 (And.intro @keepB55_1 @keepB55_2)) (And.intro (And.intro @keepB55_3 @keepB55_4) (And.intro @keepB55_5 @fnf91)))) := (And.intro (And.intro (And.intro @tyf3 (And.intro @tyf22 @tyf24)) (And.intro (And.intro @tyf29 @light55) (And.intro @frzT24_24 @notInt24))) (And.intro (And.intro @keepB55_0 (And.intro @keepB55_1 @keepB55_2)) (And.intro (And.intro @keepB55_3 @keepB55_4) (And.intro @keepB55_5 @fnf91))))
theorem factsOf56 : type_of% (And.intro (And.intro (And.intro (And.intro @tyf3 @tyf22) (And.intro @tyf24 @tyf29)) (And.intro (And.intro @light56 @frzT24_24) (And.intro @notInt24 @keepB56_0))) (And.intro (And.intro (And.intro @keepB56_1 @keepB56_2) (And.intro @keepB56_3 @keepB56_4)) (And.intro (And.intro @keepB56_5 @keepB56_6) (And.intro @keepB56_7 @fnf91)))) := (And.intro (And.intro (And.intro (And.intro @tyf3 @tyf22) (And.intro @tyf24 @tyf29)) (And.intro (And.intro @light56 @frzT24_24) (And.intro @notInt24 @keepB56_0))) (And.intro (And.intro (And.intro @keepB56_1 @keepB56_2) (And.intro @keepB56_3 @keepB56_4)) (And.intro (And.intro @keepB56_5 @keepB56_6) (And.intro @keepB56_7 @fnf91))))
theorem factsOf57 : type_of% (And.intro (And.intro @tyf3 (And.intro @tyf22 @tyf24)) (And.intro (And.intro @tyf29 @light57) (And.intro @keepB57_0 @keepB57_1))) := (And.intro (And.intro @tyf3 (And.intro @tyf22 @tyf24)) (And.intro (And.intro @tyf29 @light57) (And.intro @keepB57_0 @keepB57_1)))
theorem factsOf58 : type_of% (And.intro (And.intro (And.intro @tyf3 @tyf22) (And.intro @tyf24 (And.intro @tyf29 @tyf33))) (And.intro (And.intro @tyf97 (And.intro @light58 @frzT24_24)) (And.intro @notInt24 (And.intro @keepB58_0 @keepB58_1)))) := (And.intro (And.intro (And.intro @tyf3 @tyf22) (And.intro @tyf24 (And.intro @tyf29 @tyf33))) (And.intro (And.intro @tyf97 (And.intro @light58 @frzT24_24)) (And.intro @notInt24 (And.intro @keepB58_0 @keepB58_1))))
theorem factsOf59 : type_of% (And.intro (And.intro (And.intro (And.intro (And.intro @tyf3 (And.intro @tyf4 @tyf9)) (And.intro @tyf41 (And.intro @tyf42 @tyf43))) (And.intro (And.intro @tyf44 (And.intro @tyf45 @tyf46)) (And.intro @tyf48 (And.intro @tyf50 @tyf65)))) (And.intro (And.intro (And.intro @tyf69 (And.intro @tyf81 @tyf139)) (And.intro @light59 (And.intro @structOk48 @placeS48_0))) (And.intro (And.intro @placeS48_1 (And.intro @placeS48_2 @placeS48_3)) (And.intro @placeS48_4 (And.intro @placeS48_5 @structOk50))))) (And.intro (And.intro (And.intro (And.intro @placeS50_0 (And.intro @placeS50_1 @placeS50_2)) (And.intro @placeS50_3 (And.intro @placeS50_4 @placeS50_5))) (And.intro (And.intro @placeS50_6 (And.intro @placeS50_7 @placeS50_8)) (And.intro @structOk65 (And.intro @placeS65_0 @placeS65_1)))) (And.intro (And.intro (And.intro @placeS65_2 (And.intro @placeS65_3 @placeS65_4)) (And.intro @structOk81 (And.intro @placeS81_0 @placeS81_1))) (And.intro (And.intro @placeS81_2 (And.intro @placeS81_3 @placeS81_4)) (And.intro (And.intro @structOk139 @placeS139_0) (And.intro @placeS139_1 @placeS139_2)))))) := (And.intro (And.intro (And.intro (And.intro (And.intro @tyf3 (And.intro @tyf4 @tyf9)) (And.intro @tyf41 (And.intro @tyf42 @tyf43))) (And.intro (And.intro @tyf44 (And.intro @tyf45 @tyf46)) (And.intro @tyf48 (And.intro @tyf50 @tyf65)))) (And.intro (And.intro (And.intro @tyf69 (And.intro @tyf81 @tyf139)) (And.intro @light59 (And.intro @structOk48 @placeS48_0))) (And.intro (And.intro @placeS48_1 (And.intro @placeS48_2 @placeS48_3)) (And.intro @placeS48_4 (And.intro @placeS48_5 @structOk50))))) (And.intro (And.intro (And.intro (And.intro @placeS50_0 (And.intro @placeS50_1 @placeS50_2)) (And.intro @placeS50_3 (And.intro @placeS50_4 @placeS50_5))) (And.intro (And.intro @placeS50_6 (And.intro @placeS50_7 @placeS50_8)) (And.intro @structOk65 (And.intro @placeS65_0 @placeS65_1)))) (And.intro (And.intro (And.intro @placeS65_2 (And.intro @placeS65_3 @placeS65_4)) (And.intro @structOk81 (And.intro @placeS81_0 @placeS81_1))) (And.intro (And.intro @placeS81_2 (And.intro @placeS81_3 @placeS81_4)) (And.intro (And.intro @structOk139 @placeS139_0) (And.intro @placeS139_1 @placeS139_2))))))
theorem factsOf60 : type_of% (And.intro (And.intro (And.intro (And.intro @tyf3 @tyf4) (And.intro @tyf9 @tyf25)) (And.intro (And.intro @tyf41 @tyf42) (And.intro @tyf43 (And.intro @tyf44 @tyf45)))) (And.intro (And.intro (And.intro @tyf46 @tyf48) (And.intro @tyf50 (And.intro @tyf65 @tyf69))) (And.intro (And.intro @tyf81 @tyf139) (And.intro @light60 (And.intro @fnf22 @fnf78))))) := (And.intro (And.intro (And.intro (And.intro @tyf3 @tyf4) (And.intro @tyf9 @tyf25)) (And.intro (And.intro @tyf41 @tyf42) (And.intro @tyf43 (And.intro @tyf44 @tyf45)))) (And.intro (And.intro (And.intro @tyf46 @tyf48) (And.intro @tyf50 (And.intro @tyf65 @tyf69))) (And.intro (And.intro @tyf81 @tyf139) (And.intro @light60 (And.intro @fnf22 @fnf78)))))
theorem factsOf61 : type_of% (And.intro (And.intro (And.intro (And.intro @tyf3 @tyf4) (And.intro @tyf9 @tyf25)) (And.intro (And.intro @tyf41 @tyf42) (And.intro @tyf43 (And.intro @tyf44 @tyf45)))) (And.intro (And.intro (And.intro @tyf46 @tyf48) (And.intro @tyf50 (And.intro @tyf65 @tyf69))) (And.intro (And.intro @tyf81 @tyf139) (And.intro @light61 (And.intro @fnf22 @fnf92))))) := (And.intro (And.intro (And.intro (And.intro @tyf3 @tyf4) (And.intro @tyf9 @tyf25)) (And.intro (And.intro @tyf41 @tyf42) (And.intro @tyf43 (And.intro @tyf44 @tyf45)))) (And.intro (And.intro (And.intro @tyf46 @tyf48) (And.intro @tyf50 (And.intro @tyf65 @tyf69))) (And.intro (And.intro @tyf81 @tyf139) (And.intro @light61 (And.intro @fnf22 @fnf92)))))
theorem factsOf62 : type_of% (And.intro (And.intro (And.intro (And.intro (And.intro @tyf3 @tyf4) (And.intro @tyf9 @tyf25)) (And.intro (And.intro @tyf41 @tyf42) (And.intro @tyf43 @tyf44))) (And.intro (And.intro (And.intro @tyf45 @tyf46) (And.intro @tyf48 @tyf50)) (And.intro (And.intro @tyf65 @tyf69) (And.intro @tyf81 @tyf139)))) (And.intro (And.intro (And.intro (And.intro @light62 @structOk48) (And.intro @placeS48_0 @placeS48_1)) (And.intro (And.intro @placeS48_2 @placeS48_3) (And.intro @placeS48_4 @placeS48_5))) (And.intro (And.intro (And.intro @keepB62_0 @keepB62_1) (And.intro @fnf61 @fnf64)) (And.intro (And.intro @fnf93 @fnf94) (And.intro @fnf95 (And.intro @fnf96 @fnf97)))))) := (And.intro (And.intro (And.intro (And.intro (And.intro @tyf3 @tyf4) (And.intro @tyf9 @tyf25)) (And.intro (And.intro @tyf41 @tyf42) (And.intro @tyf43 @tyf44))) (And.intro (And.intro (And.intro @tyf45 @tyf46) (And.intro @tyf48 @tyf50)) (And.intro (And.intro @tyf65 @tyf69) (And.intro @tyf81 @tyf139)))) (And.intro (And.intro (And.intro (And.intro @light62 @structOk48) (And.intro @placeS48_0 @placeS48_1)) (And.intro (And.intro @placeS48_2 @placeS48_3) (And.intro @placeS48_4 @placeS48_5))) (And.intro (And.intro (And.intro @keepB62_0 @keepB62_1) (And.intro @fnf61 @fnf64)) (And.intro (And.intro @fnf93 @fnf94) (And.intro @fnf95 (And.intro @fnf96 @fnf97))))))
theorem factsOf63 : type_of% (And.intro (And.intro (And.intro (And.intro @tyf3 (And.intro @tyf4 @tyf9)) (And.intro @tyf25 (And.intro @tyf41 @tyf42))) (And.intro (And.intro @tyf43 (And.intro @tyf44 @tyf45)) (And.intro (And.intro @tyf46 @tyf48) (And.intro @tyf50 @tyf65)))) (And.intro (And.intro (And.intro @tyf69 (And.intro @tyf81 @tyf139)) (And.intro (And.intro @light63 @structOk48) (And.intro @placeS48_0 @placeS48_1))) (And.intro (And.intro @placeS48_2 (And.intro @placeS48_3 @placeS48_4)) (And.intro (And.intro @placeS48_5 @keepB63_0) (And.intro @fnf61 @fnf64))))) := (And.intro (And.intro (And.intro (And.intro @tyf3 (And.intro @tyf4 @tyf9)) (And.intro @tyf25 (And.intro @tyf41 @tyf42))) (And.intro (And.intro @tyf43 (And.intro @tyf44 @tyf45)) (And.intro (And.intro @tyf46 @tyf48) (And.intro @tyf50 @tyf65)))) (And.intro (And.intro (And.intro @tyf69 (And.intro @tyf81 @tyf139)) (And.intro (And.intro @light63 @structOk48) (And.intro @placeS48_0 @placeS48_1))) (And.intro (And.intro @placeS48_2 (And.intro @placeS48_3 @placeS48_4)) (And.intro (And.intro @placeS48_5 @keepB63_0) (And.intro @fnf61 @fnf64)))))
theorem factsOf64 : type_of% (And.intro (And.intro (And.intro (And.intro @tyf3 (And.intro @tyf4 @tyf9)) (And.intro (And.intro @tyf41 @tyf42) (And.intro @tyf43 @tyf44))) (And.intro (And.intro @tyf45 (And.intro @tyf46 @tyf48)) (And.intro (And.intro @tyf50 @tyf65) (And.intro @tyf69 @tyf81)))) (And.intro (And.intro (And.intro @tyf139 (And.intro @light64 @structOk48)) (And.intro (And.intro @placeS48_0 @placeS48_1) (And.intro @placeS48_2 @placeS48_3))) (And.intro (And.intro (And.intro @placeS48_4 @placeS48_5) (And.intro @fnf98 @fnf99)) (And.intro (And.intro @fnf100 @fnf101) (And.intro @fnf102 @fnf103))))) := (And.intro (And.intro (And.intro (And.intro @tyf3 (And.intro @tyf4 @tyf9)) (And.intro (And.intro @tyf41 @tyf42) (And.intro @tyf43 @tyf44))) (And.intro (And.intro @tyf45 (And.intro @tyf46 @tyf48)) (And.intro (And.intro @tyf50 @tyf65) (And.intro @tyf69 @tyf81)))) (And.intro (And.intro (And.intro @tyf139 (And.intro @light64 @structOk48)) (And.intro (And.intro @placeS48_0 @placeS48_1) (And.intro @placeS48_2 @placeS48_3))) (And.intro (And.intro (And.intro @placeS48_4 @placeS48_5) (And.intro @fnf98 @fnf99)) (And.intro (And.intro @fnf100 @fnf101) (And.intro @fnf102 @fnf103)))))
theorem factsOf65 : type_of% (And.intro (And.intro (And.intro @tyf3 @tyf9) (And.intro @tyf41 (And.intro @tyf107 @tyf109))) (And.intro (And.intro @light65 (And.intro @keepB65_0 @keepB65_1)) (And.intro @keepB65_2 (And.intro @fnf24 @fnf104)))) := (And.intro (And.intro (And.intro @tyf3 @tyf9) (And.intro @tyf41 (And.intro @tyf107 @tyf109))) (And.intro (And.intro @light65 (And.intro @keepB65_0 @keepB65_1)) (And.intro @keepB65_2 (And.intro @fnf24 @fnf104))))
theorem factsOf66 : type_of% (And.intro (And.intro (And.intro (And.intro @tyf3 (And.intro @tyf4 @tyf9)) (And.intro (And.intro @tyf25 @tyf41) (And.intro @tyf42 @tyf43))) (And.intro (And.intro @tyf44 (And.intro @tyf45 @tyf46)) (And.intro (And.intro @tyf48 @tyf50) (And.intro @tyf65 @tyf69)))) (And.intro (And.intro (And.intro @tyf81 (And.intro @tyf107 @tyf109)) (And.intro (And.intro @tyf139 @light66) (And.intro @keepB66_0 @keepB66_1))) (And.intro (And.intro @keepB66_2 (And.intro @keepB66_3 @keepB66_4)) (And.intro (And.intro @keepB66_5 @fnf65) (And.intro @fnf69 @fnf105))))) := (And.intro (And.intro (And.intro (And.intro @tyf3 (And.intro @tyf4 @tyf9)) (And.intro (And.intro @tyf25 @tyf41) (And.intro @tyf42 @tyf43))) (And.intro (And.intro @tyf44 (And.intro @tyf45 @tyf46)) (And.intro (And.intro @tyf48 @tyf50) (And.intro @tyf65 @tyf69)))) (And.intro (And.intro (And.intro @tyf81 (And.intro @tyf107 @tyf109)) (And.intro (And.intro @tyf139 @light66) (And.intro @keepB66_0 @keepB66_1))) (And.intro (And.intro @keepB66_2 (And.intro @keepB66_3 @keepB66_4)) (And.intro (And.intro @keepB66_5 @fnf65) (And.intro @fnf69 @fnf105)))))
theorem factsOf67 : type_of% (And.intro (And.intro @tyf9 (And.intro @tyf41 @light67)) (And.intro (And.intro @frzT41_41 @notInt41) (And.intro @fnf25 @fnf42))) := (And.intro (And.intro @tyf9 (And.intro @tyf41 @light67)) (And.intro (And.intro @frzT41_41 @notInt41) (And.intro @fnf25 @fnf42)))
theorem factsOf68 : type_of% (And.intro (And.intro (And.intro (And.intro (And.intro @tyf3 @tyf4) (And.intro @tyf9 @tyf25)) (And.intro (And.intro @tyf41 @tyf42) (And.intro @tyf43 (And.intro @tyf44 @tyf45)))) (And.intro (And.intro (And.intro @tyf46 @tyf48) (And.intro @tyf50 (And.intro @tyf65 @tyf69))) (And.intro (And.intro @tyf81 @tyf112) (And.intro @tyf115 (And.intro @tyf139 @light68))))) (And.intro (And.intro (And.intro (And.intro @frzT112_112 @notInt112) (And.intro @structOk115 @placeS115_0)) (And.intro (And.intro @placeS115_1 @placeS115_2) (And.intro @placeS115_3 (And.intro @keepB68_0 @keepB68_1)))) (And.intro (And.intro (And.intro @keepB68_2 @keepB68_3) (And.intro @keepB68_4 (And.intro @keepB68_5 @keepB68_6))) (And.intro (And.intro @keepB68_7 @keepB68_8) (And.intro @keepB68_9 (And.intro @fnf27 @fnf70)))))) := (And.intro (And.intro (And.intro (And.intro (And.intro @tyf3 @tyf4) (And.intro @tyf9 @tyf25)) (And.intro (And.intro @tyf41 @tyf42) (And.intro @tyf43 (And.intro @tyf44 @tyf45)))) (And.intro (And.intro (And.intro @tyf46 @tyf48) (And.intro @tyf50 (And.intro @tyf65 @tyf69))) (And.intro (And.intro @tyf81 @tyf112) (And.intro @tyf115 (And.intro @tyf139 @light68))))) (And.intro (And.intro (And.intro (And.intro @frzT112_112 @notInt112) (And.intro @structOk115 @placeS115_0)) (And.intro (And.intro @placeS115_1 @placeS115_2) (And.intro @placeS115_3 (And.intro @keepB68_0 @keepB68_1)))) (And.intro (And.intro (And.intro @keepB68_2 @keepB68_3) (And.intro @keepB68_4 (And.intro @keepB68_5 @keepB68_6))) (And.intro (And.intro @keepB68_7 @keepB68_8) (And.intro @keepB68_9 (And.intro @fnf27 @fnf70))))))
theorem factsOf69 : type_of% (And.intro @tyf3 @light69) := (And.intro @tyf3 @light69)
theorem factsOf70 : type_of% (And.intro @tyf3 @light70) := (And.intro @tyf3 @light70)
theorem factsOf71 : type_of% (And.intro (And.intro (And.intro (And.intro @tyf3 (And.intro @tyf4 @tyf9)) (And.intro @tyf24 (And.intro @tyf25 @tyf41))) (And.intro (And.intro @tyf42 (And.intro @tyf43 @tyf44)) (And.intro @tyf45 (And.intro @tyf46 @tyf48)))) (And.intro (And.intro (And.intro @tyf50 (And.intro @tyf56 @tyf65)) (And.intro @tyf69 (And.intro @tyf81 @tyf139))) (And.intro (And.intro @tyf154 (And.intro @light71 @structOk154)) (And.intro (And.intro @placeS154_0 @placeS154_1) (And.intro @fnf29 @fnf64))))) := (And.intro (And.intro (And.intro (And.intro @tyf3 (And.intro @tyf4 @tyf9)) (And.intro @tyf24 (And.intro @tyf25 @tyf41))) (And.intro (And.intro @tyf42 (And.intro @tyf43 @tyf44)) (And.intro @tyf45 (And.intro @tyf46 @tyf48)))) (And.intro (And.intro (And.intro @tyf50 (And.intro @tyf56 @tyf65)) (And.intro @tyf69 (And.intro @tyf81 @tyf139))) (And.intro (And.intro @tyf154 (And.intro @light71 @structOk154)) (And.intro (And.intro @placeS154_0 @placeS154_1) (And.intro @fnf29 @fnf64)))))
theorem factsOf72 : type_of% (And.intro (And.intro (And.intro (And.intro @tyf3 (And.intro @tyf4 @tyf9)) (And.intro @tyf24 (And.intro @tyf41 @tyf42))) (And.intro (And.intro @tyf43 (And.intro @tyf44 @tyf45)) (And.intro @tyf46 (And.intro @tyf48 @tyf50)))) (And.intro (And.intro (And.intro @tyf56 (And.intro @tyf65 @tyf69)) (And.intro @tyf81 (And.intro @tyf139 @tyf154))) (And.intro (And.intro @tyf156 (And.intro @light72 @fnf16)) (And.intro @fnf76 (And.intro @fnf106 @fnf107))))) := (And.intro (And.intro (And.intro (And.intro @tyf3 (And.intro @tyf4 @tyf9)) (And.intro @tyf24 (And.intro @tyf41 @tyf42))) (And.intro (And.intro @tyf43 (And.intro @tyf44 @tyf45)) (And.intro @tyf46 (And.intro @tyf48 @tyf50)))) (And.intro (And.intro (And.intro @tyf56 (And.intro @tyf65 @tyf69)) (And.intro @tyf81 (And.intro @tyf139 @tyf154))) (And.intro (And.intro @tyf156 (And.intro @light72 @fnf16)) (And.intro @fnf76 (And.intro @fnf106 @fnf107)))))
theorem factsOf73 : type_of% (And.intro (And.intro (And.intro (And.intro @tyf3 @tyf4) (And.intro @tyf9 (And.intro @tyf24 @tyf41))) (And.intro (And.intro @tyf42 (And.intro @tyf43 @tyf44)) (And.intro @tyf45 (And.intro @tyf46 @tyf48)))) (And.intro (And.intro (And.intro @tyf50 (And.intro @tyf56 @tyf65)) (And.intro @tyf69 (And.intro @tyf81 @tyf139))) (And.intro (And.intro @tyf154 (And.intro @light73 @structOk56)) (And.intro @placeS56_0 (And.intro @placeS56_1 @fnf108))))) := (And.intro (And.intro (And.intro (And.intro @tyf3 @tyf4) (And.intro @tyf9 (And.intro @tyf24 @tyf41))) (And.intro (And.intro @tyf42 (And.intro @tyf43 @tyf44)) (And.intro @tyf45 (And.intro @tyf46 @tyf48)))) (And.intro (And.intro (And.intro @tyf50 (And.intro @tyf56 @tyf65)) (And.intro @tyf69 (And.intro @tyf81 @tyf139))) (And.intro (And.intro @tyf154 (And.intro @light73 @structOk56)) (And.intro @placeS56_0 (And.intro @placeS56_1 @fnf108)))))
theorem factsOf74 : type_of% (And.intro (And.intro @tyf3 (And.intro @tyf4 @tyf30)) (And.intro @light74 (And.intro @keepB74_0 @keepB74_1))) := (And.intro (And.intro @tyf3 (And.intro @tyf4 @tyf30)) (And.intro @light74 (And.intro @keepB74_0 @keepB74_1)))
theorem factsOf75 : type_of% (And.intro (And.intro (And.intro (And.intro @tyf3 @tyf4) (And.intro @tyf9 (And.intro @tyf24 @tyf41))) (And.intro (And.intro @tyf42 @tyf43) (And.intro @tyf44 (And.intro @tyf45 @tyf46)))) (And.intro (And.intro (And.intro @tyf48 @tyf50) (And.intro @tyf56 (And.intro @tyf65 @tyf69))) (And.intro (And.intro @tyf81 @tyf139) (And.intro @tyf154 (And.intro @light75 @fnf64))))) := (And.intro (And.intro (And.intro (And.intro @tyf3 @tyf4) (And.intro @tyf9 (And.intro @tyf24 @tyf41))) (And.intro (And.intro @tyf42 @tyf43) (And.intro @tyf44 (And.intro @tyf45 @tyf46)))) (And.intro (And.intro (And.intro @tyf48 @tyf50) (And.intro @tyf56 (And.intro @tyf65 @tyf69))) (And.intro (And.intro @tyf81 @tyf139) (And.intro @tyf154 (And.intro @light75 @fnf64)))))
theorem factsOf76 : type_of% (And.intro (And.intro (And.intro (And.intro (And.intro @tyf3 @tyf4) (And.intro @tyf9 @tyf22)) (And.intro (And.intro @tyf24 @tyf29) (And.intro @tyf41 @tyf42))) (And.intro (And.intro (And.intro @tyf43 @tyf44) (And.intro @tyf45 @tyf46)) (And.intro (And.intro @tyf48 @tyf50) (And.intro @tyf56 @tyf65)))) (And.intro (And.intro (And.intro (And.intro @tyf69 @tyf81) (And.intro @tyf139 @light76)) (And.intro (And.intro @frzT22_22 @notInt22) (And.intro @structOk56 @placeS56_0))) (And.intro (And.intro (And.intro @placeS56_1 @keepB76_0) (And.intro @keepB76_1 @keepB76_2)) (And.intro (And.intro @keepB76_3 @fnf10) (And.intro @fnf78 @fnf83))))) := (And.intro (And.intro (And.intro (And.intro (And.intro @tyf3 @tyf4) (And.intro @tyf9 @tyf22)) (And.intro (And.intro @tyf24 @tyf29) (And.intro @tyf41 @tyf42))) (And.intro (And.intro (And.intro @tyf43 @tyf44) (And.intro @tyf45 @tyf46)) (And.intro (And.intro @tyf48 @tyf50) (And.intro @tyf56 @tyf65)))) (And.intro (And.intro (And.intro (And.intro @tyf69 @tyf81) (And.intro @tyf139 @light76)) (And.intro (And.intro @frzT22_22 @notInt22) (And.intro @structOk56 @placeS56_0))) (And.intro (And.intro (And.intro @placeS56_1 @keepB76_0) (And.intro @keepB76_1 @keepB76_2)) (And.intro (And.intro @keepB76_3 @fnf10) (And.intro @fnf78 @fnf83)))))
theorem factsOf77 : type_of% (And.intro (And.intro (And.intro (And.intro @tyf3 @tyf4) (And.intro @tyf9 (And.intro @tyf24 @tyf30))) (And.intro (And.intro @tyf41 @tyf42) (And.intro @tyf43 (And.intro @tyf44 @tyf45)))) (And.intro (And.intro (And.intro @tyf46 @tyf48) (And.intro @tyf50 (And.intro @tyf56 @tyf65))) (And.intro (And.intro @tyf69 @tyf81) (And.intro @tyf139 (And.intro @light77 @fnf78))))) := (And.intro (And.intro (And.intro (And.intro @tyf3 @tyf4) (And.intro @tyf9 (And.intro @tyf24 @tyf30))) (And.intro (And.intro @tyf41 @tyf42) (And.intro @tyf43 (And.intro @tyf44 @tyf45)))) (And.intro (And.intro (And.intro @tyf46 @tyf48) (And.intro @tyf50 (And.intro @tyf56 @tyf65))) (And.intro (And.intro @tyf69 @tyf81) (And.intro @tyf139 (And.intro @light77 @fnf78)))))
theorem factsOf78 : type_of% (And.intro (And.intro @tyf3 (And.intro @tyf9 @tyf41)) (And.intro @light78 (And.intro @keepB78_0 @keepB78_1))) := (And.intro (And.intro @tyf3 (And.intro @tyf9 @tyf41)) (And.intro @light78 (And.intro @keepB78_0 @keepB78_1)))
theorem factsOf79 : type_of% (And.intro (And.intro (And.intro (And.intro @tyf3 @tyf4) (And.intro @tyf9 @tyf41)) (And.intro (And.intro @tyf42 @tyf43) (And.intro @tyf44 @tyf45))) (And.intro (And.intro (And.intro @tyf46 @tyf48) (And.intro @tyf50 @tyf65)) (And.intro (And.intro @tyf69 @tyf81) (And.intro @tyf139 @light79)))) := (And.intro (And.intro (And.intro (And.intro @tyf3 @tyf4) (And.intro @tyf9 @tyf41)) (And.intro (And.intro @tyf42 @tyf43) (And.intro @tyf44 @tyf45))) (And.intro (And.intro (And.intro @tyf46 @tyf48) (And.intro @tyf50 @tyf65)) (And.intro (And.intro @tyf69 @tyf81) (And.intro @tyf139 @light79))))
theorem factsOf80 : type_of% (And.intro (And.intro @tyf3 (And.intro @tyf9 @tyf44)) (And.intro (And.intro @tyf65 @light80) (And.intro @keepB80_0 @keepB80_1))) := (And.intro (And.intro @tyf3 (And.intro @tyf9 @tyf44)) (And.intro (And.intro @tyf65 @light80) (And.intro @keepB80_0 @keepB80_1)))
theorem factsOf81 : type_of% (And.intro (And.intro @tyf3 (And.intro @tyf9 @tyf46)) (And.intro (And.intro @tyf69 @light81) (And.intro @keepB81_0 @keepB81_1))) := (And.intro (And.intro @tyf3 (And.intro @tyf9 @tyf46)) (And.intro (And.intro @tyf69 @light81) (And.intro @keepB81_0 @keepB81_1)))
theorem factsOf82 : type_of% (And.intro (And.intro (And.intro (And.intro @tyf3 @tyf4) (And.intro @tyf9 (And.intro @tyf25 @tyf41))) (And.intro (And.intro @tyf42 @tyf43) (And.intro @tyf44 (And.intro @tyf45 @tyf46)))) (And.intro (And.intro (And.intro @tyf48 @tyf50) (And.intro @tyf65 (And.intro @tyf69 @tyf81))) (And.intro (And.intro @tyf139 (And.intro @light82 @keepB82_0)) (And.intro @keepB82_1 (And.intro @fnf22 @fnf104))))) := (And.intro (And.intro (And.intro (And.intro @tyf3 @tyf4) (And.intro @tyf9 (And.intro @tyf25 @tyf41))) (And.intro (And.intro @tyf42 @tyf43) (And.intro @tyf44 (And.intro @tyf45 @tyf46)))) (And.intro (And.intro (And.intro @tyf48 @tyf50) (And.intro @tyf65 (And.intro @tyf69 @tyf81))) (And.intro (And.intro @tyf139 (And.intro @light82 @keepB82_0)) (And.intro @keepB82_1 (And.intro @fnf22 @fnf104)))))
theorem factsOf83 : type_of% (And.intro (And.intro (And.intro (And.intro @tyf3 @tyf4) (And.intro @tyf9 (And.intro @tyf22 @tyf29))) (And.intro (And.intro @tyf41 @tyf42) (And.intro @tyf43 (And.intro @tyf44 @tyf45)))) (And.intro (And.intro (And.intro @tyf46 @tyf48) (And.intro @tyf50 (And.intro @tyf65 @tyf69))) (And.intro (And.intro @tyf81 @tyf139) (And.intro @light83 (And.intro @fnf10 @fnf84))))) := (And.intro (And.intro (And.intro (And.intro @tyf3 @tyf4) (And.intro @tyf9 (And.intro @tyf22 @tyf29))) (And.intro (And.intro @tyf41 @tyf42) (And.intro @tyf43 (And.intro @tyf44 @tyf45)))) (And.intro (And.intro (And.intro @tyf46 @tyf48) (And.intro @tyf50 (And.intro @tyf65 @tyf69))) (And.intro (And.intro @tyf81 @tyf139) (And.intro @light83 (And.intro @fnf10 @fnf84)))))
theorem factsOf84 : type_of% (And.intro (And.intro (And.intro (And.intro @tyf3 (And.intro @tyf4 @tyf9)) (And.intro @tyf22 (And.intro @tyf24 @tyf29))) (And.intro (And.intro @tyf41 (And.intro @tyf42 @tyf43)) (And.intro (And.intro @tyf44 @tyf45) (And.intro @tyf46 @tyf48)))) (And.intro (And.intro (And.intro @tyf50 (And.intro @tyf65 @tyf69)) (And.intro @tyf81 (And.intro @tyf139 @light84))) (And.intro (And.intro @frzT22_22 (And.intro @notInt22 @frzT24_24)) (And.intro (And.intro @notInt24 @keepB84_0) (And.intro @keepB84_1 @fnf78))))) := (And.intro (And.intro (And.intro (And.intro @tyf3 (And.intro @tyf4 @tyf9)) (And.intro @tyf22 (And.intro @tyf24 @tyf29))) (And.intro (And.intro @tyf41 (And.intro @tyf42 @tyf43)) (And.intro (And.intro @tyf44 @tyf45) (And.intro @tyf46 @tyf48)))) (And.intro (And.intro (And.intro @tyf50 (And.intro @tyf65 @tyf69)) (And.intro @tyf81 (And.intro @tyf139 @light84))) (And.intro (And.intro @frzT22_22 (And.intro @notInt22 @frzT24_24)) (And.intro (And.intro @notInt24 @keepB84_0) (And.intro @keepB84_1 @fnf78)))))
theorem factsOf85 : type_of% (And.intro (And.intro (And.intro (And.intro @tyf3 @tyf4) (And.intro @tyf9 (And.intro @tyf24 @tyf41))) (And.intro (And.intro @tyf42 @tyf43) (And.intro @tyf44 (And.intro @tyf45 @tyf46)))) (And.intro (And.intro (And.intro @tyf48 @tyf50) (And.intro @tyf65 (And.intro @tyf69 @tyf81))) (And.intro (And.intro @tyf139 (And.intro @light85 @frzT41_41)) (And.intro @notInt41 (And.intro @keepB85_0 @keepB85_1))))) := (And.intro (And.intro (And.intro (And.intro @tyf3 @tyf4) (And.intro @tyf9 (And.intro @tyf24 @tyf41))) (And.intro (And.intro @tyf42 @tyf43) (And.intro @tyf44 (And.intro @tyf45 @tyf46)))) (And.intro (And.intro (And.intro @tyf48 @tyf50) (And.intro @tyf65 (And.intro @tyf69 @tyf81))) (And.intro (And.intro @tyf139 (And.intro @light85 @frzT41_41)) (And.intro @notInt41 (And.intro @keepB85_0 @keepB85_1)))))
theorem factsOf86 : type_of% (And.intro (And.intro (And.intro (And.intro @tyf3 @tyf4) (And.intro @tyf9 @tyf41)) (And.intro (And.intro @tyf42 @tyf43) (And.intro @tyf44 @tyf45))) (And.intro (And.intro (And.intro @tyf46 @tyf48) (And.intro @tyf50 @tyf65)) (And.intro (And.intro @tyf69 @tyf81) (And.intro @tyf139 @light86)))) := (And.intro (And.intro (And.intro (And.intro @tyf3 @tyf4) (And.intro @tyf9 @tyf41)) (And.intro (And.intro @tyf42 @tyf43) (And.intro @tyf44 @tyf45))) (And.intro (And.intro (And.intro @tyf46 @tyf48) (And.intro @tyf50 @tyf65)) (And.intro (And.intro @tyf69 @tyf81) (And.intro @tyf139 @light86))))
theorem factsOf87 : type_of% (And.intro (And.intro (And.intro @tyf3 @tyf22) (And.intro @tyf24 (And.intro @tyf29 @light87))) (And.intro (And.intro @frzT24_24 @notInt24) (And.intro @keepB87_0 (And.intro @keepB87_1 @fnf55)))) := (And.intro (And.intro (And.intro @tyf3 @tyf22) (And.intro @tyf24 (And.intro @tyf29 @light87))) (And.intro (And.intro @frzT24_24 @notInt24) (And.intro @keepB87_0 (And.intro @keepB87_1 @fnf55))))
theorem factsOf88 : type_of% (And.intro (And.intro @tyf3 @tyf24) (And.intro @light88 @fnf109)) := (And.intro (And.intro @tyf3 @tyf24) (And.intro @light88 @fnf109))
theorem factsOf89 : type_of% (And.intro (And.intro @tyf3 (And.intro @tyf25 @tyf134)) (And.intro @tyf136 (And.intro @light89 @fnf110))) := (And.intro (And.intro @tyf3 (And.intro @tyf25 @tyf134)) (And.intro @tyf136 (And.intro @light89 @fnf110)))
theorem factsOf90 : type_of% (And.intro @tyf25 @light90) := (And.intro @tyf25 @light90)
theorem factsOf91 : type_of% (And.intro (And.intro (And.intro (And.intro @tyf3 @tyf24) (And.intro @tyf160 @light91_0)) (And.intro (And.intro @light91_1 @light91_2) (And.intro @light91_3 (And.intro @light91_4 @light91_5)))) (And.intro (And.intro (And.intro @light91_6 @light91_7) (And.intro @light91_8 (And.intro @light91_9 @light91_10))) (And.intro (And.intro @cvInt3_160 @cvInt160_3) (And.intro @keepB91_0 (And.intro @keepB91_1 @fnf111))))) := (And.intro (And.intro (And.intro (And.intro @tyf3 @tyf24) (And.intro @tyf160 @light91_0)) (And.intro (And.intro @light91_1 @light91_2) (And.intro @light91_3 (And.intro @light91_4 @light91_5)))) (And.intro (And.intro (And.intro @light91_6 @light91_7) (And.intro @light91_8 (And.intro @light91_9 @light91_10))) (And.intro (And.intro @cvInt3_160 @cvInt160_3) (And.intro @keepB91_0 (And.intro @keepB91_1 @fnf111)))))
theorem factsOf92 : type_of% (And.intro (And.intro (And.intro (And.intro (And.intro @tyf3 @tyf4) (And.intro @tyf9 @tyf41)) (And.intro (And.intro @tyf42 @tyf43) (And.intro @tyf44 @tyf45))) (And.intro (And.intro (And.intro @tyf46 @tyf48) (And.intro @tyf50 @tyf65)) (And.intro (And.intro @tyf66 @tyf69) (And.intro @tyf70 @tyf81)))) (And.intro (And.intro (And.intro (And.intro @tyf139 @tyf156) (And.intro @tyf164 @tyf166)) (And.intro (And.intro @light92 @fnf78) (And.intro @fnf80 @fnf81))) (And.intro (And.intro (And.intro @fnf106 @fnf112) (And.intro @fnf113 @fnf114)) (And.intro (And.intro @fnf115 @fnf116) (And.intro @fnf117 @fnf118))))) := (And.intro (And.intro (And.intro (And.intro (And.intro @tyf3 @tyf4) (And.intro @tyf9 @tyf41)) (And.intro (And.intro @tyf42 @tyf43) (And.intro @tyf44 @tyf45))) (And.intro (And.intro (And.intro @tyf46 @tyf48) (And.intro @tyf50 @tyf65)) (And.intro (And.intro @tyf66 @tyf69) (And.intro @tyf70 @tyf81)))) (And.intro (And.intro (And.intro (And.intro @tyf139 @tyf156) (And.intro @tyf164 @tyf166)) (And.intro (And.intro @light92 @fnf78) (And.intro @fnf80 @fnf81))) (And.intro (And.intro (And.intro @fnf106 @fnf112) (And.intro @fnf113 @fnf114)) (And.intro (And.intro @fnf115 @fnf116) (And.intro @fnf117 @fnf118)))))
theorem factsOf93 : type_of% (And.intro (And.intro (And.intro @tyf3 @tyf4) (And.intro @tyf9 @tyf42)) (And.intro (And.intro @tyf81 @light93) (And.intro @frzT42_42 @notInt42))) := (And.intro (And.intro (And.intro @tyf3 @tyf4) (And.intro @tyf9 @tyf42)) (And.intro (And.intro @tyf81 @light93) (And.intro @frzT42_42 @notInt42)))
theorem factsOf94 : type_of% (And.intro (And.intro @tyf3 (And.intro @tyf9 @tyf43)) (And.intro (And.intro @tyf50 @light94) (And.intro @frzT43_43 @notInt43))) := (And.intro (And.intro @tyf3 (And.intro @tyf9 @tyf43)) (And.intro (And.intro @tyf50 @light94) (And.intro @frzT43_43 @notInt43)))
theorem factsOf95 : type_of% (And.intro (And.intro @tyf3 (And.intro @tyf9 @tyf44)) (And.intro (And.intro @tyf65 @light95) (And.intro @frzT44_44 @notInt44))) := (And.intro (And.intro @tyf3 (And.intro @tyf9 @tyf44)) (And.intro (And.intro @tyf65 @light95) (And.intro @frzT44_44 @notInt44)))
theorem factsOf96 : type_of% (And.intro (And.intro @tyf3 (And.intro @tyf9 @tyf45)) (And.intro (And.intro @tyf139 @light96) (And.intro @frzT45_45 @notInt45))) := (And.intro (And.intro @tyf3 (And.intro @tyf9 @tyf45)) (And.intro (And.intro @tyf139 @light96) (And.intro @frzT45_45 @notInt45)))
theorem factsOf97 : type_of% (And.intro (And.intro @tyf3 (And.intro @tyf9 @tyf46)) (And.intro (And.intro @tyf69 @light97) (And.intro @frzT46_46 @notInt46))) := (And.intro (And.intro @tyf3 (And.intro @tyf9 @tyf46)) (And.intro (And.intro @tyf69 @light97) (And.intro @frzT46_46 @notInt46)))
theorem factsOf98 : type_of% (And.intro (And.intro @tyf9 @tyf41) (And.intro @light98 (And.intro @frzT41_41 @notInt41))) := (And.intro (And.intro @tyf9 @tyf41) (And.intro @light98 (And.intro @frzT41_41 @notInt41)))
theorem factsOf99 : type_of% (And.intro (And.intro @tyf4 (And.intro @tyf9 @tyf42)) (And.intro (And.intro @tyf81 @light99) (And.intro @frzT42_42 @notInt42))) := (And.intro (And.intro @tyf4 (And.intro @tyf9 @tyf42)) (And.intro (And.intro @tyf81 @light99) (And.intro @frzT42_42 @notInt42)))
theorem factsOf100 : type_of% (And.intro (And.intro @tyf3 (And.intro @tyf9 @tyf43)) (And.intro (And.intro @tyf50 @light100) (And.intro @frzT43_43 @notInt43))) := (And.intro (And.intro @tyf3 (And.intro @tyf9 @tyf43)) (And.intro (And.intro @tyf50 @light100) (And.intro @frzT43_43 @notInt43)))
theorem factsOf101 : type_of% (And.intro (And.intro @tyf3 (And.intro @tyf9 @tyf44)) (And.intro (And.intro @tyf65 @light101) (And.intro @frzT44_44 @notInt44))) := (And.intro (And.intro @tyf3 (And.intro @tyf9 @tyf44)) (And.intro (And.intro @tyf65 @light101) (And.intro @frzT44_44 @notInt44)))
theorem factsOf102 : type_of% (And.intro (And.intro @tyf3 (And.intro @tyf9 @tyf45)) (And.intro (And.intro @tyf139 @light102) (And.intro @frzT45_45 @notInt45))) := (And.intro (And.intro @tyf3 (And.intro @tyf9 @tyf45)) (And.intro (And.intro @tyf139 @light102) (And.intro @frzT45_45 @notInt45)))
theorem factsOf103 : type_of% (And.intro (And.intro @tyf3 (And.intro @tyf9 @tyf46)) (And.intro (And.intro @tyf69 @light103) (And.intro @frzT46_46 @notInt46))) := (And.intro (And.intro @tyf3 (And.intro @tyf9 @tyf46)) (And.intro (And.intro @tyf69 @light103) (And.intro @frzT46_46 @notInt46)))
theorem factsOf104 : type_of% (And.intro (And.intro @tyf3 @tyf9) (And.intro @tyf41 (And.intro @light104 @fnf78))) := (And.intro (And.intro @tyf3 @tyf9) (And.intro @tyf41 (And.intro @light104 @fnf78)))
theorem factsOf105 : type_of% (And.intro @tyf3 (And.intro @light105 @fnf69)) := (And.intro @tyf3 (And.intro @light105 @fnf69))
theorem factsOf106 : type_of% (And.intro (And.intro (And.intro @tyf3 @tyf4) (And.intro @tyf9 @tyf42)) (And.intro (And.intro @tyf81 @light106) (And.intro @keepB106_0 @keepB106_1))) := (And.intro (And.intro (And.intro @tyf3 @tyf4) (And.intro @tyf9 @tyf42)) (And.intro (And.intro @tyf81 @light106) (And.intro @keepB106_0 @keepB106_1)))
theorem factsOf107 : type_of% (And.intro (And.intro @tyf4 @tyf9) (And.intro @tyf81 @light107)) := (And.intro (And.intro @tyf4 @tyf9) (And.intro @tyf81 @light107))
theorem factsOf108 : type_of% (And.intro (And.intro @tyf3 @tyf24) (And.intro @light108 (And.intro @frzT24_24 @notInt24))) := (And.intro (And.intro @tyf3 @tyf24) (And.intro @light108 (And.intro @frzT24_24 @notInt24)))
theorem factsOf109 : type_of% (And.intro (And.intro @tyf3 @tyf24) (And.intro @light109 (And.intro @keepB109_0 @keepB109_1))) := (And.intro (And.intro @tyf3 @tyf24) (And.intro @light109 (And.intro @keepB109_0 @keepB109_1)))
theorem factsOf110 : type_of% (And.intro (And.intro @tyf3 (And.intro @tyf25 @tyf134)) (And.intro @light110 (And.intro @keepB110_0 @keepB110_1))) := (And.intro (And.intro @tyf3 (And.intro @tyf25 @tyf134)) (And.intro @light110 (And.intro @keepB110_0 @keepB110_1)))
theorem factsOf111 : type_of% (And.intro (And.intro (And.intro @tyf160 @tyf167) (And.intro @tyf170 @light111)) (And.intro (And.intro @cvInt160_167 @cvInt167_160) (And.intro @fnf119 @fnf120))) := (And.intro (And.intro (And.intro @tyf160 @tyf167) (And.intro @tyf170 @light111)) (And.intro (And.intro @cvInt160_167 @cvInt167_160) (And.intro @fnf119 @fnf120)))
theorem factsOf112 : type_of% (And.intro (And.intro @tyf4 @tyf9) (And.intro @tyf81 @light112)) := (And.intro (And.intro @tyf4 @tyf9) (And.intro @tyf81 @light112))
theorem factsOf113 : type_of% (And.intro (And.intro @tyf3 (And.intro @tyf9 @tyf43)) (And.intro (And.intro @tyf50 @light113) (And.intro @keepB113_0 @keepB113_1))) := (And.intro (And.intro @tyf3 (And.intro @tyf9 @tyf43)) (And.intro (And.intro @tyf50 @light113) (And.intro @keepB113_0 @keepB113_1)))
theorem factsOf114 : type_of% (And.intro (And.intro @tyf3 @tyf9) (And.intro @tyf50 @light114)) := (And.intro (And.intro @tyf3 @tyf9) (And.intro @tyf50 @light114))
theorem factsOf115 : type_of% (And.intro (And.intro @tyf3 @tyf9) (And.intro @tyf65 @light115)) := (And.intro (And.intro @tyf3 @tyf9) (And.intro @tyf65 @light115))
theorem factsOf116 : type_of% (And.intro (And.intro @tyf3 (And.intro @tyf9 @tyf45)) (And.intro (And.intro @tyf139 @light116) (And.intro @keepB116_0 @keepB116_1))) := (And.intro (And.intro @tyf3 (And.intro @tyf9 @tyf45)) (And.intro (And.intro @tyf139 @light116) (And.intro @keepB116_0 @keepB116_1)))
theorem factsOf117 : type_of% (And.intro (And.intro @tyf3 @tyf9) (And.intro @tyf139 @light117)) := (And.intro (And.intro @tyf3 @tyf9) (And.intro @tyf139 @light117))
theorem factsOf118 : type_of% (And.intro (And.intro @tyf3 @tyf9) (And.intro @tyf69 @light118)) := (And.intro (And.intro @tyf3 @tyf9) (And.intro @tyf69 @light118))
theorem factsOf119 : type_of% (And.intro (And.intro @tyf160 (And.intro @tyf167 @tyf170)) (And.intro @light119 (And.intro @cvInt167_170 @cvInt170_167))) := (And.intro (And.intro @tyf160 (And.intro @tyf167 @tyf170)) (And.intro @light119 (And.intro @cvInt167_170 @cvInt170_167)))
theorem factsOf120 : type_of% (And.intro @tyf160 (And.intro @tyf170 @light120)) := (And.intro @tyf160 (And.intro @tyf170 @light120))
end Go.Proofs.Ytcclbkkgpcpikaa
