/-
  What the types of this seat's program are (written by a program).
-/
import Derived.Test.YtcclbkkgpcpikaaAm28
import Derived.Test.YtcclbkkgpcpikaaRows
set_option linter.unusedSimpArgs false
set_option linter.unusedVariables false
namespace Go.Proofs.Ytcclbkkgpcpikaa
open Go.Am
theorem tsize0 : tsize Try.prog 0 = some 1 := by kernel_rfl
theorem tbytes0 : tbytes Try.prog 0 = some 0 := by kernel_rfl
theorem tagg0 : tagg Try.prog 0 = some false := by kernel_rfl
theorem tsize1 : tsize Try.prog 1 = some 1 := by kernel_rfl
theorem tbytes1 : tbytes Try.prog 1 = some 8 := by kernel_rfl
theorem tagg1 : tagg Try.prog 1 = some false := by kernel_rfl
theorem zcells1 : zcells Try.prog 1 = some [.nilf] := by kernel_rfl
theorem tsize2 : tsize Try.prog 2 = some 1 := by kernel_rfl
theorem tbytes2 : tbytes Try.prog 2 = some 8 := by kernel_rfl
theorem tagg2 : tagg Try.prog 2 = some false := by kernel_rfl
theorem zcells2 : zcells Try.prog 2 = some [.int .i64 0] := by kernel_rfl
theorem tsize3 : tsize Try.prog 3 = some 1 := by kernel_rfl
theorem tbytes3 : tbytes Try.prog 3 = some 8 := by kernel_rfl
theorem tagg3 : tagg Try.prog 3 = some false := by kernel_rfl
theorem zcells3 : zcells Try.prog 3 = some [.int .i64 0] := by kernel_rfl
theorem tsize4 : tsize Try.prog 4 = some 1 := by kernel_rfl
theorem tbytes4 : tbytes Try.prog 4 = some 1 := by kernel_rfl
theorem tagg4 : tagg Try.prog 4 = some false := by kernel_rfl
theorem zcells4 : zcells Try.prog 4 = some [.bool false] := by kernel_rfl
theorem isBoolT4 : isBoolT Try.prog 4 = true := by kernel_rfl
theorem tsize5 : tsize Try.prog 5 = some 1 := by kernel_rfl
theorem tbytes5 : tbytes Try.prog 5 = some 1 := by kernel_rfl
theorem tagg5 : tagg Try.prog 5 = some false := by kernel_rfl
theorem zcells5 : zcells Try.prog 5 = some [.int .u8 0] := by kernel_rfl
theorem tsize6 : tsize Try.prog 6 = some 1 := by kernel_rfl
theorem tbytes6 : tbytes Try.prog 6 = some 1 := by kernel_rfl
theorem tagg6 : tagg Try.prog 6 = some false := by kernel_rfl
theorem zcells6 : zcells Try.prog 6 = some [.int .u8 0] := by kernel_rfl
theorem tsize7 : tsize Try.prog 7 = some 4 := by kernel_rfl
theorem tbytes7 : tbytes Try.prog 7 = some 24 := by kernel_rfl
theorem tagg7 : tagg Try.prog 7 = some true := by kernel_rfl
theorem zcells7 : zcells Try.prog 7 = some [.int .i64 0, .int .i64 0, .bool false, .int .u8 0] := by kernel_rfl
theorem fieldAt7_0 : fieldAt Try.prog 7 0 = some (0, 2) := by kernel_rfl
theorem fieldAt7_1 : fieldAt Try.prog 7 1 = some (1, 3) := by kernel_rfl
theorem fieldAt7_2 : fieldAt Try.prog 7 2 = some (2, 4) := by kernel_rfl
theorem fieldAt7_3 : fieldAt Try.prog 7 3 = some (3, 6) := by kernel_rfl
theorem tsize8 : tsize Try.prog 8 = some 4 := by kernel_rfl
theorem tbytes8 : tbytes Try.prog 8 = some 24 := by kernel_rfl
theorem tagg8 : tagg Try.prog 8 = some true := by kernel_rfl
theorem zcells8 : zcells Try.prog 8 = some [.int .i64 0, .int .i64 0, .bool false, .int .u8 0] := by kernel_rfl
theorem fieldAt8_0 : fieldAt Try.prog 8 0 = some (0, 2) := by kernel_rfl
theorem fieldAt8_1 : fieldAt Try.prog 8 1 = some (1, 3) := by kernel_rfl
theorem fieldAt8_2 : fieldAt Try.prog 8 2 = some (2, 4) := by kernel_rfl
theorem fieldAt8_3 : fieldAt Try.prog 8 3 = some (3, 6) := by kernel_rfl
theorem tsize9 : tsize Try.prog 9 = some 1 := by kernel_rfl
theorem tbytes9 : tbytes Try.prog 9 = some 16 := by kernel_rfl
theorem tagg9 : tagg Try.prog 9 = some false := by kernel_rfl
theorem zcells9 : zcells Try.prog 9 = some [.str ByteArray.empty] := by kernel_rfl
theorem isStrT9 : isStrT Try.prog 9 = true := by kernel_rfl
theorem tsize10 : tsize Try.prog 10 = some 1 := by kernel_rfl
theorem tbytes10 : tbytes Try.prog 10 = some 16 := by kernel_rfl
theorem tagg10 : tagg Try.prog 10 = some false := by kernel_rfl
theorem zcells10 : zcells Try.prog 10 = some [.str ByteArray.empty] := by kernel_rfl
theorem isStrT10 : isStrT Try.prog 10 = true := by kernel_rfl
theorem tsize11 : tsize Try.prog 11 = some 1 := by kernel_rfl
theorem tbytes11 : tbytes Try.prog 11 = some 16 := by kernel_rfl
theorem tagg11 : tagg Try.prog 11 = some false := by kernel_rfl
theorem zcells11 : zcells Try.prog 11 = some [.str ByteArray.empty] := by kernel_rfl
theorem isStrT11 : isStrT Try.prog 11 = true := by kernel_rfl
theorem tsize12 : tsize Try.prog 12 = some 1 := by kernel_rfl
theorem tbytes12 : tbytes Try.prog 12 = some 8 := by kernel_rfl
theorem tagg12 : tagg Try.prog 12 = some false := by kernel_rfl
theorem zcells12 : zcells Try.prog 12 = some [.int .u64 0] := by kernel_rfl
theorem tsize13 : tsize Try.prog 13 = some 2 := by kernel_rfl
theorem tbytes13 : tbytes Try.prog 13 = some 24 := by kernel_rfl
theorem tagg13 : tagg Try.prog 13 = some true := by kernel_rfl
theorem zcells13 : zcells Try.prog 13 = some [.str ByteArray.empty, .int .u64 0] := by kernel_rfl
theorem fieldAt13_0 : fieldAt Try.prog 13 0 = some (0, 9) := by kernel_rfl
theorem fieldAt13_1 : fieldAt Try.prog 13 1 = some (1, 12) := by kernel_rfl
theorem tsize14 : tsize Try.prog 14 = some 2 := by kernel_rfl
theorem tbytes14 : tbytes Try.prog 14 = some 24 := by kernel_rfl
theorem tagg14 : tagg Try.prog 14 = some true := by kernel_rfl
theorem zcells14 : zcells Try.prog 14 = some [.str ByteArray.empty, .int .u64 0] := by kernel_rfl
theorem fieldAt14_0 : fieldAt Try.prog 14 0 = some (0, 9) := by kernel_rfl
theorem fieldAt14_1 : fieldAt Try.prog 14 1 = some (1, 12) := by kernel_rfl
theorem tsize15 : tsize Try.prog 15 = some 1 := by kernel_rfl
theorem tbytes15 : tbytes Try.prog 15 = some 8 := by kernel_rfl
theorem tagg15 : tagg Try.prog 15 = some false := by kernel_rfl
theorem zcells15 : zcells Try.prog 15 = some [.nilp] := by kernel_rfl
theorem tsize16 : tsize Try.prog 16 = some 1 := by kernel_rfl
theorem tbytes16 : tbytes Try.prog 16 = some 8 := by kernel_rfl
theorem tagg16 : tagg Try.prog 16 = some false := by kernel_rfl
theorem zcells16 : zcells Try.prog 16 = some [.nilp] := by kernel_rfl
theorem tsize17 : tsize Try.prog 17 = some 1 := by kernel_rfl
theorem tbytes17 : tbytes Try.prog 17 = some 8 := by kernel_rfl
theorem tagg17 : tagg Try.prog 17 = some false := by kernel_rfl
theorem zcells17 : zcells Try.prog 17 = some [.nilp] := by kernel_rfl
theorem tsize18 : tsize Try.prog 18 = some 1 := by kernel_rfl
theorem tbytes18 : tbytes Try.prog 18 = some 8 := by kernel_rfl
theorem tagg18 : tagg Try.prog 18 = some true := by kernel_rfl
theorem zcells18 : zcells Try.prog 18 = some [.nilp] := by kernel_rfl
theorem fieldAt18_0 : fieldAt Try.prog 18 0 = some (0, 17) := by kernel_rfl
theorem tsize19 : tsize Try.prog 19 = some 1 := by kernel_rfl
theorem tbytes19 : tbytes Try.prog 19 = some 8 := by kernel_rfl
theorem tagg19 : tagg Try.prog 19 = some true := by kernel_rfl
theorem zcells19 : zcells Try.prog 19 = some [.nilp] := by kernel_rfl
theorem fieldAt19_0 : fieldAt Try.prog 19 0 = some (0, 17) := by kernel_rfl
theorem tsize20 : tsize Try.prog 20 = some 1 := by kernel_rfl
theorem tbytes20 : tbytes Try.prog 20 = some 16 := by kernel_rfl
theorem tagg20 : tagg Try.prog 20 = some false := by kernel_rfl
theorem tsize21 : tsize Try.prog 21 = some 1 := by kernel_rfl
theorem tbytes21 : tbytes Try.prog 21 = some 4 := by kernel_rfl
theorem tagg21 : tagg Try.prog 21 = some false := by kernel_rfl
theorem zcells21 : zcells Try.prog 21 = some [.int .i32 0] := by kernel_rfl
theorem tsize22 : tsize Try.prog 22 = some 1 := by kernel_rfl
theorem tbytes22 : tbytes Try.prog 22 = some 24 := by kernel_rfl
theorem tagg22 : tagg Try.prog 22 = some false := by kernel_rfl
theorem telem22 : telem Try.prog 22 = some 29 := by kernel_rfl
theorem slZ22 : slZ Try.prog 22 = some 2 := by kernel_rfl
theorem zcells22 : zcells Try.prog 22 = some [.nils] := by kernel_rfl
theorem tsize23 : tsize Try.prog 23 = some 1 := by kernel_rfl
theorem tbytes23 : tbytes Try.prog 23 = some 8 := by kernel_rfl
theorem tagg23 : tagg Try.prog 23 = some false := by kernel_rfl
theorem zcells23 : zcells Try.prog 23 = some [.nilf] := by kernel_rfl
theorem tsize24 : tsize Try.prog 24 = some 1 := by kernel_rfl
theorem tbytes24 : tbytes Try.prog 24 = some 24 := by kernel_rfl
theorem tagg24 : tagg Try.prog 24 = some false := by kernel_rfl
theorem telem24 : telem Try.prog 24 = some 3 := by kernel_rfl
theorem slZ24 : slZ Try.prog 24 = some 1 := by kernel_rfl
theorem zcells24 : zcells Try.prog 24 = some [.nils] := by kernel_rfl
theorem tsize25 : tsize Try.prog 25 = some 1 := by kernel_rfl
theorem tbytes25 : tbytes Try.prog 25 = some 8 := by kernel_rfl
theorem tagg25 : tagg Try.prog 25 = some false := by kernel_rfl
theorem zcells25 : zcells Try.prog 25 = some [.int .i64 0] := by kernel_rfl
theorem tsize26 : tsize Try.prog 26 = some 1 := by kernel_rfl
theorem tbytes26 : tbytes Try.prog 26 = some 0 := by kernel_rfl
theorem tagg26 : tagg Try.prog 26 = some false := by kernel_rfl
theorem tsize27 : tsize Try.prog 27 = some 1 := by kernel_rfl
theorem tbytes27 : tbytes Try.prog 27 = some 8 := by kernel_rfl
theorem tagg27 : tagg Try.prog 27 = some false := by kernel_rfl
theorem zcells27 : zcells Try.prog 27 = some [.nilf] := by kernel_rfl
theorem tsize28 : tsize Try.prog 28 = some 1 := by kernel_rfl
theorem tbytes28 : tbytes Try.prog 28 = some 8 := by kernel_rfl
theorem tagg28 : tagg Try.prog 28 = some false := by kernel_rfl
theorem zcells28 : zcells Try.prog 28 = some [.nilf] := by kernel_rfl
theorem tsize29 : tsize Try.prog 29 = some 2 := by kernel_rfl
theorem tbytes29 : tbytes Try.prog 29 = some 16 := by kernel_rfl
theorem tagg29 : tagg Try.prog 29 = some true := by kernel_rfl
theorem arrOf29 : arrOf Try.prog 29 = some (2, 1, 3) := by kernel_rfl
theorem zcells29 : zcells Try.prog 29 = some [.int .i64 0, .int .i64 0] := by kernel_rfl
theorem tsize30 : tsize Try.prog 30 = some 1 := by kernel_rfl
theorem tbytes30 : tbytes Try.prog 30 = some 24 := by kernel_rfl
theorem tagg30 : tagg Try.prog 30 = some false := by kernel_rfl
theorem telem30 : telem Try.prog 30 = some 4 := by kernel_rfl
theorem slZ30 : slZ Try.prog 30 = some 1 := by kernel_rfl
theorem zcells30 : zcells Try.prog 30 = some [.nils] := by kernel_rfl
theorem tsize31 : tsize Try.prog 31 = some 1 := by kernel_rfl
theorem tbytes31 : tbytes Try.prog 31 = some 24 := by kernel_rfl
theorem tagg31 : tagg Try.prog 31 = some false := by kernel_rfl
theorem telem31 : telem Try.prog 31 = some 30 := by kernel_rfl
theorem slZ31 : slZ Try.prog 31 = some 1 := by kernel_rfl
theorem zcells31 : zcells Try.prog 31 = some [.nils] := by kernel_rfl
theorem tsize32 : tsize Try.prog 32 = some 1 := by kernel_rfl
theorem tbytes32 : tbytes Try.prog 32 = some 8 := by kernel_rfl
theorem tagg32 : tagg Try.prog 32 = some false := by kernel_rfl
theorem zcells32 : zcells Try.prog 32 = some [.nilf] := by kernel_rfl
theorem tsize33 : tsize Try.prog 33 = some 1 := by kernel_rfl
theorem tbytes33 : tbytes Try.prog 33 = some 8 := by kernel_rfl
theorem tagg33 : tagg Try.prog 33 = some false := by kernel_rfl
theorem zcells33 : zcells Try.prog 33 = some [.nilf] := by kernel_rfl
theorem tsize34 : tsize Try.prog 34 = some 1 := by kernel_rfl
theorem tbytes34 : tbytes Try.prog 34 = some 8 := by kernel_rfl
theorem tagg34 : tagg Try.prog 34 = some false := by kernel_rfl
theorem zcells34 : zcells Try.prog 34 = some [.nilf] := by kernel_rfl
theorem tsize35 : tsize Try.prog 35 = some 1 := by kernel_rfl
theorem tbytes35 : tbytes Try.prog 35 = some 8 := by kernel_rfl
theorem tagg35 : tagg Try.prog 35 = some false := by kernel_rfl
theorem zcells35 : zcells Try.prog 35 = some [.nilf] := by kernel_rfl
theorem tsize36 : tsize Try.prog 36 = some 1 := by kernel_rfl
theorem tbytes36 : tbytes Try.prog 36 = some 8 := by kernel_rfl
theorem tagg36 : tagg Try.prog 36 = some false := by kernel_rfl
theorem zcells36 : zcells Try.prog 36 = some [.nilf] := by kernel_rfl
theorem tsize37 : tsize Try.prog 37 = some 1 := by kernel_rfl
theorem tbytes37 : tbytes Try.prog 37 = some 8 := by kernel_rfl
theorem tagg37 : tagg Try.prog 37 = some false := by kernel_rfl
theorem zcells37 : zcells Try.prog 37 = some [.nilf] := by kernel_rfl
theorem tsize38 : tsize Try.prog 38 = some 1 := by kernel_rfl
theorem tbytes38 : tbytes Try.prog 38 = some 0 := by kernel_rfl
theorem tagg38 : tagg Try.prog 38 = some false := by kernel_rfl
theorem tsize39 : tsize Try.prog 39 = some 1 := by kernel_rfl
theorem tbytes39 : tbytes Try.prog 39 = some 8 := by kernel_rfl
theorem tagg39 : tagg Try.prog 39 = some false := by kernel_rfl
theorem zcells39 : zcells Try.prog 39 = some [.nilf] := by kernel_rfl
theorem tsize40 : tsize Try.prog 40 = some 1 := by kernel_rfl
theorem tbytes40 : tbytes Try.prog 40 = some 8 := by kernel_rfl
theorem tagg40 : tagg Try.prog 40 = some false := by kernel_rfl
theorem zcells40 : zcells Try.prog 40 = some [.nilf] := by kernel_rfl
theorem tsize41 : tsize Try.prog 41 = some 1 := by kernel_rfl
theorem tbytes41 : tbytes Try.prog 41 = some 24 := by kernel_rfl
theorem tagg41 : tagg Try.prog 41 = some false := by kernel_rfl
theorem telem41 : telem Try.prog 41 = some 9 := by kernel_rfl
theorem slZ41 : slZ Try.prog 41 = some 1 := by kernel_rfl
theorem zcells41 : zcells Try.prog 41 = some [.nils] := by kernel_rfl
theorem tsize42 : tsize Try.prog 42 = some 1 := by kernel_rfl
theorem tbytes42 : tbytes Try.prog 42 = some 24 := by kernel_rfl
theorem tagg42 : tagg Try.prog 42 = some false := by kernel_rfl
theorem telem42 : telem Try.prog 42 = some 81 := by kernel_rfl
theorem slZ42 : slZ Try.prog 42 = some 5 := by kernel_rfl
theorem zcells42 : zcells Try.prog 42 = some [.nils] := by kernel_rfl
theorem tsize43 : tsize Try.prog 43 = some 1 := by kernel_rfl
theorem tbytes43 : tbytes Try.prog 43 = some 24 := by kernel_rfl
theorem tagg43 : tagg Try.prog 43 = some false := by kernel_rfl
theorem telem43 : telem Try.prog 43 = some 50 := by kernel_rfl
theorem slZ43 : slZ Try.prog 43 = some 9 := by kernel_rfl
theorem zcells43 : zcells Try.prog 43 = some [.nils] := by kernel_rfl
theorem tsize44 : tsize Try.prog 44 = some 1 := by kernel_rfl
theorem tbytes44 : tbytes Try.prog 44 = some 24 := by kernel_rfl
theorem tagg44 : tagg Try.prog 44 = some false := by kernel_rfl
theorem telem44 : telem Try.prog 44 = some 65 := by kernel_rfl
theorem slZ44 : slZ Try.prog 44 = some 5 := by kernel_rfl
theorem zcells44 : zcells Try.prog 44 = some [.nils] := by kernel_rfl
theorem tsize45 : tsize Try.prog 45 = some 1 := by kernel_rfl
theorem tbytes45 : tbytes Try.prog 45 = some 24 := by kernel_rfl
theorem tagg45 : tagg Try.prog 45 = some false := by kernel_rfl
theorem telem45 : telem Try.prog 45 = some 139 := by kernel_rfl
theorem slZ45 : slZ Try.prog 45 = some 3 := by kernel_rfl
theorem zcells45 : zcells Try.prog 45 = some [.nils] := by kernel_rfl
theorem tsize46 : tsize Try.prog 46 = some 1 := by kernel_rfl
theorem tbytes46 : tbytes Try.prog 46 = some 24 := by kernel_rfl
theorem tagg46 : tagg Try.prog 46 = some false := by kernel_rfl
theorem telem46 : telem Try.prog 46 = some 69 := by kernel_rfl
theorem slZ46 : slZ Try.prog 46 = some 5 := by kernel_rfl
theorem zcells46 : zcells Try.prog 46 = some [.nils] := by kernel_rfl
theorem tsize47 : tsize Try.prog 47 = some 6 := by kernel_rfl
theorem tbytes47 : tbytes Try.prog 47 = some 144 := by kernel_rfl
theorem tagg47 : tagg Try.prog 47 = some true := by kernel_rfl
theorem zcells47 : zcells Try.prog 47 = some [.nils, .nils, .nils, .nils, .nils, .nils] := by kernel_rfl
theorem fieldAt47_0 : fieldAt Try.prog 47 0 = some (0, 41) := by kernel_rfl
theorem fieldAt47_1 : fieldAt Try.prog 47 1 = some (1, 42) := by kernel_rfl
theorem fieldAt47_2 : fieldAt Try.prog 47 2 = some (2, 43) := by kernel_rfl
theorem fieldAt47_3 : fieldAt Try.prog 47 3 = some (3, 44) := by kernel_rfl
theorem fieldAt47_4 : fieldAt Try.prog 47 4 = some (4, 45) := by kernel_rfl
theorem fieldAt47_5 : fieldAt Try.prog 47 5 = some (5, 46) := by kernel_rfl
theorem tsize48 : tsize Try.prog 48 = some 6 := by kernel_rfl
theorem tbytes48 : tbytes Try.prog 48 = some 144 := by kernel_rfl
theorem tagg48 : tagg Try.prog 48 = some true := by kernel_rfl
theorem zcells48 : zcells Try.prog 48 = some [.nils, .nils, .nils, .nils, .nils, .nils] := by kernel_rfl
theorem fieldAt48_0 : fieldAt Try.prog 48 0 = some (0, 41) := by kernel_rfl
theorem fieldAt48_1 : fieldAt Try.prog 48 1 = some (1, 42) := by kernel_rfl
theorem fieldAt48_2 : fieldAt Try.prog 48 2 = some (2, 43) := by kernel_rfl
theorem fieldAt48_3 : fieldAt Try.prog 48 3 = some (3, 44) := by kernel_rfl
theorem fieldAt48_4 : fieldAt Try.prog 48 4 = some (4, 45) := by kernel_rfl
theorem fieldAt48_5 : fieldAt Try.prog 48 5 = some (5, 46) := by kernel_rfl
theorem tsize49 : tsize Try.prog 49 = some 9 := by kernel_rfl
theorem tbytes49 : tbytes Try.prog 49 = some 96 := by kernel_rfl
theorem tagg49 : tagg Try.prog 49 = some true := by kernel_rfl
theorem zcells49 : zcells Try.prog 49 = some [.str ByteArray.empty, .str ByteArray.empty, .str ByteArray.empty, .int .i64 0, .int .i64 0, .int .i64 0, .int .i64 0, .int .i64 0, .int .i64 0] := by kernel_rfl
theorem fieldAt49_0 : fieldAt Try.prog 49 0 = some (0, 9) := by kernel_rfl
theorem fieldAt49_1 : fieldAt Try.prog 49 1 = some (1, 9) := by kernel_rfl
theorem fieldAt49_2 : fieldAt Try.prog 49 2 = some (2, 9) := by kernel_rfl
theorem fieldAt49_3 : fieldAt Try.prog 49 3 = some (3, 3) := by kernel_rfl
theorem fieldAt49_4 : fieldAt Try.prog 49 4 = some (4, 3) := by kernel_rfl
theorem fieldAt49_5 : fieldAt Try.prog 49 5 = some (5, 3) := by kernel_rfl
theorem fieldAt49_6 : fieldAt Try.prog 49 6 = some (6, 3) := by kernel_rfl
theorem fieldAt49_7 : fieldAt Try.prog 49 7 = some (7, 3) := by kernel_rfl
theorem fieldAt49_8 : fieldAt Try.prog 49 8 = some (8, 3) := by kernel_rfl
theorem tsize50 : tsize Try.prog 50 = some 9 := by kernel_rfl
theorem tbytes50 : tbytes Try.prog 50 = some 96 := by kernel_rfl
theorem tagg50 : tagg Try.prog 50 = some true := by kernel_rfl
theorem zcells50 : zcells Try.prog 50 = some [.str ByteArray.empty, .str ByteArray.empty, .str ByteArray.empty, .int .i64 0, .int .i64 0, .int .i64 0, .int .i64 0, .int .i64 0, .int .i64 0] := by kernel_rfl
theorem fieldAt50_0 : fieldAt Try.prog 50 0 = some (0, 9) := by kernel_rfl
theorem fieldAt50_1 : fieldAt Try.prog 50 1 = some (1, 9) := by kernel_rfl
theorem fieldAt50_2 : fieldAt Try.prog 50 2 = some (2, 9) := by kernel_rfl
theorem fieldAt50_3 : fieldAt Try.prog 50 3 = some (3, 3) := by kernel_rfl
theorem fieldAt50_4 : fieldAt Try.prog 50 4 = some (4, 3) := by kernel_rfl
theorem fieldAt50_5 : fieldAt Try.prog 50 5 = some (5, 3) := by kernel_rfl
theorem fieldAt50_6 : fieldAt Try.prog 50 6 = some (6, 3) := by kernel_rfl
theorem fieldAt50_7 : fieldAt Try.prog 50 7 = some (7, 3) := by kernel_rfl
theorem fieldAt50_8 : fieldAt Try.prog 50 8 = some (8, 3) := by kernel_rfl
theorem tsize51 : tsize Try.prog 51 = some 1 := by kernel_rfl
theorem tbytes51 : tbytes Try.prog 51 = some 8 := by kernel_rfl
theorem tagg51 : tagg Try.prog 51 = some false := by kernel_rfl
theorem zcells51 : zcells Try.prog 51 = some [.nilf] := by kernel_rfl
theorem tsize52 : tsize Try.prog 52 = some 1 := by kernel_rfl
theorem tbytes52 : tbytes Try.prog 52 = some 8 := by kernel_rfl
theorem tagg52 : tagg Try.prog 52 = some false := by kernel_rfl
theorem zcells52 : zcells Try.prog 52 = some [.nilf] := by kernel_rfl
theorem tsize53 : tsize Try.prog 53 = some 1 := by kernel_rfl
theorem tbytes53 : tbytes Try.prog 53 = some 8 := by kernel_rfl
theorem tagg53 : tagg Try.prog 53 = some false := by kernel_rfl
theorem zcells53 : zcells Try.prog 53 = some [.nilf] := by kernel_rfl
theorem tsize54 : tsize Try.prog 54 = some 1 := by kernel_rfl
theorem tbytes54 : tbytes Try.prog 54 = some 8 := by kernel_rfl
theorem tagg54 : tagg Try.prog 54 = some false := by kernel_rfl
theorem zcells54 : zcells Try.prog 54 = some [.nilf] := by kernel_rfl
theorem tsize55 : tsize Try.prog 55 = some 2 := by kernel_rfl
theorem tbytes55 : tbytes Try.prog 55 = some 48 := by kernel_rfl
theorem tagg55 : tagg Try.prog 55 = some true := by kernel_rfl
theorem zcells55 : zcells Try.prog 55 = some [.nils, .nils] := by kernel_rfl
theorem fieldAt55_0 : fieldAt Try.prog 55 0 = some (0, 24) := by kernel_rfl
theorem fieldAt55_1 : fieldAt Try.prog 55 1 = some (1, 24) := by kernel_rfl
theorem tsize56 : tsize Try.prog 56 = some 2 := by kernel_rfl
theorem tbytes56 : tbytes Try.prog 56 = some 48 := by kernel_rfl
theorem tagg56 : tagg Try.prog 56 = some true := by kernel_rfl
theorem zcells56 : zcells Try.prog 56 = some [.nils, .nils] := by kernel_rfl
theorem fieldAt56_0 : fieldAt Try.prog 56 0 = some (0, 24) := by kernel_rfl
theorem fieldAt56_1 : fieldAt Try.prog 56 1 = some (1, 24) := by kernel_rfl
theorem tsize57 : tsize Try.prog 57 = some 1 := by kernel_rfl
theorem tbytes57 : tbytes Try.prog 57 = some 0 := by kernel_rfl
theorem tagg57 : tagg Try.prog 57 = some false := by kernel_rfl
theorem tsize58 : tsize Try.prog 58 = some 1 := by kernel_rfl
theorem tbytes58 : tbytes Try.prog 58 = some 8 := by kernel_rfl
theorem tagg58 : tagg Try.prog 58 = some false := by kernel_rfl
theorem zcells58 : zcells Try.prog 58 = some [.nilf] := by kernel_rfl
theorem tsize59 : tsize Try.prog 59 = some 1 := by kernel_rfl
theorem tbytes59 : tbytes Try.prog 59 = some 0 := by kernel_rfl
theorem tagg59 : tagg Try.prog 59 = some false := by kernel_rfl
theorem tsize60 : tsize Try.prog 60 = some 1 := by kernel_rfl
theorem tbytes60 : tbytes Try.prog 60 = some 8 := by kernel_rfl
theorem tagg60 : tagg Try.prog 60 = some false := by kernel_rfl
theorem zcells60 : zcells Try.prog 60 = some [.nilf] := by kernel_rfl
theorem tsize61 : tsize Try.prog 61 = some 1 := by kernel_rfl
theorem tbytes61 : tbytes Try.prog 61 = some 8 := by kernel_rfl
theorem tagg61 : tagg Try.prog 61 = some false := by kernel_rfl
theorem zcells61 : zcells Try.prog 61 = some [.nilf] := by kernel_rfl
theorem tsize62 : tsize Try.prog 62 = some 1 := by kernel_rfl
theorem tbytes62 : tbytes Try.prog 62 = some 8 := by kernel_rfl
theorem tagg62 : tagg Try.prog 62 = some false := by kernel_rfl
theorem zcells62 : zcells Try.prog 62 = some [.nilf] := by kernel_rfl
theorem tsize63 : tsize Try.prog 63 = some 1 := by kernel_rfl
theorem tbytes63 : tbytes Try.prog 63 = some 8 := by kernel_rfl
theorem tagg63 : tagg Try.prog 63 = some false := by kernel_rfl
theorem zcells63 : zcells Try.prog 63 = some [.nilf] := by kernel_rfl
theorem tsize64 : tsize Try.prog 64 = some 5 := by kernel_rfl
theorem tbytes64 : tbytes Try.prog 64 = some 56 := by kernel_rfl
theorem tagg64 : tagg Try.prog 64 = some true := by kernel_rfl
theorem zcells64 : zcells Try.prog 64 = some [.str ByteArray.empty, .str ByteArray.empty, .int .i64 0, .int .i64 0, .int .i64 0] := by kernel_rfl
theorem fieldAt64_0 : fieldAt Try.prog 64 0 = some (0, 9) := by kernel_rfl
theorem fieldAt64_1 : fieldAt Try.prog 64 1 = some (1, 9) := by kernel_rfl
theorem fieldAt64_2 : fieldAt Try.prog 64 2 = some (2, 3) := by kernel_rfl
theorem fieldAt64_3 : fieldAt Try.prog 64 3 = some (3, 3) := by kernel_rfl
theorem fieldAt64_4 : fieldAt Try.prog 64 4 = some (4, 3) := by kernel_rfl
theorem tsize65 : tsize Try.prog 65 = some 5 := by kernel_rfl
theorem tbytes65 : tbytes Try.prog 65 = some 56 := by kernel_rfl
theorem tagg65 : tagg Try.prog 65 = some true := by kernel_rfl
theorem zcells65 : zcells Try.prog 65 = some [.str ByteArray.empty, .str ByteArray.empty, .int .i64 0, .int .i64 0, .int .i64 0] := by kernel_rfl
theorem fieldAt65_0 : fieldAt Try.prog 65 0 = some (0, 9) := by kernel_rfl
theorem fieldAt65_1 : fieldAt Try.prog 65 1 = some (1, 9) := by kernel_rfl
theorem fieldAt65_2 : fieldAt Try.prog 65 2 = some (2, 3) := by kernel_rfl
theorem fieldAt65_3 : fieldAt Try.prog 65 3 = some (3, 3) := by kernel_rfl
theorem fieldAt65_4 : fieldAt Try.prog 65 4 = some (4, 3) := by kernel_rfl
theorem tsize66 : tsize Try.prog 66 = some 1 := by kernel_rfl
theorem tbytes66 : tbytes Try.prog 66 = some 8 := by kernel_rfl
theorem tagg66 : tagg Try.prog 66 = some false := by kernel_rfl
theorem zcells66 : zcells Try.prog 66 = some [.nilf] := by kernel_rfl
theorem tsize67 : tsize Try.prog 67 = some 1 := by kernel_rfl
theorem tbytes67 : tbytes Try.prog 67 = some 8 := by kernel_rfl
theorem tagg67 : tagg Try.prog 67 = some false := by kernel_rfl
theorem zcells67 : zcells Try.prog 67 = some [.nilf] := by kernel_rfl
theorem tsize68 : tsize Try.prog 68 = some 5 := by kernel_rfl
theorem tbytes68 : tbytes Try.prog 68 = some 56 := by kernel_rfl
theorem tagg68 : tagg Try.prog 68 = some true := by kernel_rfl
theorem zcells68 : zcells Try.prog 68 = some [.str ByteArray.empty, .str ByteArray.empty, .int .i64 0, .int .i64 0, .int .i64 0] := by kernel_rfl
theorem fieldAt68_0 : fieldAt Try.prog 68 0 = some (0, 9) := by kernel_rfl
theorem fieldAt68_1 : fieldAt Try.prog 68 1 = some (1, 9) := by kernel_rfl
theorem fieldAt68_2 : fieldAt Try.prog 68 2 = some (2, 3) := by kernel_rfl
theorem fieldAt68_3 : fieldAt Try.prog 68 3 = some (3, 3) := by kernel_rfl
theorem fieldAt68_4 : fieldAt Try.prog 68 4 = some (4, 3) := by kernel_rfl
theorem tsize69 : tsize Try.prog 69 = some 5 := by kernel_rfl
theorem tbytes69 : tbytes Try.prog 69 = some 56 := by kernel_rfl
theorem tagg69 : tagg Try.prog 69 = some true := by kernel_rfl
theorem zcells69 : zcells Try.prog 69 = some [.str ByteArray.empty, .str ByteArray.empty, .int .i64 0, .int .i64 0, .int .i64 0] := by kernel_rfl
theorem fieldAt69_0 : fieldAt Try.prog 69 0 = some (0, 9) := by kernel_rfl
theorem fieldAt69_1 : fieldAt Try.prog 69 1 = some (1, 9) := by kernel_rfl
theorem fieldAt69_2 : fieldAt Try.prog 69 2 = some (2, 3) := by kernel_rfl
theorem fieldAt69_3 : fieldAt Try.prog 69 3 = some (3, 3) := by kernel_rfl
theorem fieldAt69_4 : fieldAt Try.prog 69 4 = some (4, 3) := by kernel_rfl
theorem tsize70 : tsize Try.prog 70 = some 1 := by kernel_rfl
theorem tbytes70 : tbytes Try.prog 70 = some 8 := by kernel_rfl
theorem tagg70 : tagg Try.prog 70 = some false := by kernel_rfl
theorem zcells70 : zcells Try.prog 70 = some [.nilf] := by kernel_rfl
theorem tsize71 : tsize Try.prog 71 = some 1 := by kernel_rfl
theorem tbytes71 : tbytes Try.prog 71 = some 8 := by kernel_rfl
theorem tagg71 : tagg Try.prog 71 = some false := by kernel_rfl
theorem zcells71 : zcells Try.prog 71 = some [.nilf] := by kernel_rfl
theorem tsize72 : tsize Try.prog 72 = some 1 := by kernel_rfl
theorem tbytes72 : tbytes Try.prog 72 = some 24 := by kernel_rfl
theorem tagg72 : tagg Try.prog 72 = some false := by kernel_rfl
theorem telem72 : telem Try.prog 72 = some 41 := by kernel_rfl
theorem slZ72 : slZ Try.prog 72 = some 1 := by kernel_rfl
theorem zcells72 : zcells Try.prog 72 = some [.nils] := by kernel_rfl
theorem tsize73 : tsize Try.prog 73 = some 1 := by kernel_rfl
theorem tbytes73 : tbytes Try.prog 73 = some 0 := by kernel_rfl
theorem tagg73 : tagg Try.prog 73 = some false := by kernel_rfl
theorem tsize74 : tsize Try.prog 74 = some 1 := by kernel_rfl
theorem tbytes74 : tbytes Try.prog 74 = some 8 := by kernel_rfl
theorem tagg74 : tagg Try.prog 74 = some false := by kernel_rfl
theorem zcells74 : zcells Try.prog 74 = some [.nilf] := by kernel_rfl
theorem tsize75 : tsize Try.prog 75 = some 1 := by kernel_rfl
theorem tbytes75 : tbytes Try.prog 75 = some 0 := by kernel_rfl
theorem tagg75 : tagg Try.prog 75 = some false := by kernel_rfl
theorem tsize76 : tsize Try.prog 76 = some 1 := by kernel_rfl
theorem tbytes76 : tbytes Try.prog 76 = some 8 := by kernel_rfl
theorem tagg76 : tagg Try.prog 76 = some false := by kernel_rfl
theorem zcells76 : zcells Try.prog 76 = some [.nilf] := by kernel_rfl
theorem tsize77 : tsize Try.prog 77 = some 1 := by kernel_rfl
theorem tbytes77 : tbytes Try.prog 77 = some 8 := by kernel_rfl
theorem tagg77 : tagg Try.prog 77 = some false := by kernel_rfl
theorem zcells77 : zcells Try.prog 77 = some [.nilf] := by kernel_rfl
theorem tsize78 : tsize Try.prog 78 = some 1 := by kernel_rfl
theorem tbytes78 : tbytes Try.prog 78 = some 8 := by kernel_rfl
theorem tagg78 : tagg Try.prog 78 = some false := by kernel_rfl
theorem zcells78 : zcells Try.prog 78 = some [.nilf] := by kernel_rfl
theorem tsize79 : tsize Try.prog 79 = some 1 := by kernel_rfl
theorem tbytes79 : tbytes Try.prog 79 = some 8 := by kernel_rfl
theorem tagg79 : tagg Try.prog 79 = some false := by kernel_rfl
theorem zcells79 : zcells Try.prog 79 = some [.nilf] := by kernel_rfl
theorem tsize80 : tsize Try.prog 80 = some 5 := by kernel_rfl
theorem tbytes80 : tbytes Try.prog 80 = some 56 := by kernel_rfl
theorem tagg80 : tagg Try.prog 80 = some true := by kernel_rfl
theorem zcells80 : zcells Try.prog 80 = some [.str ByteArray.empty, .str ByteArray.empty, .str ByteArray.empty, .bool false, .bool false] := by kernel_rfl
theorem fieldAt80_0 : fieldAt Try.prog 80 0 = some (0, 9) := by kernel_rfl
theorem fieldAt80_1 : fieldAt Try.prog 80 1 = some (1, 9) := by kernel_rfl
theorem fieldAt80_2 : fieldAt Try.prog 80 2 = some (2, 9) := by kernel_rfl
theorem fieldAt80_3 : fieldAt Try.prog 80 3 = some (3, 4) := by kernel_rfl
theorem fieldAt80_4 : fieldAt Try.prog 80 4 = some (4, 4) := by kernel_rfl
theorem tsize81 : tsize Try.prog 81 = some 5 := by kernel_rfl
theorem tbytes81 : tbytes Try.prog 81 = some 56 := by kernel_rfl
theorem tagg81 : tagg Try.prog 81 = some true := by kernel_rfl
theorem zcells81 : zcells Try.prog 81 = some [.str ByteArray.empty, .str ByteArray.empty, .str ByteArray.empty, .bool false, .bool false] := by kernel_rfl
theorem fieldAt81_0 : fieldAt Try.prog 81 0 = some (0, 9) := by kernel_rfl
theorem fieldAt81_1 : fieldAt Try.prog 81 1 = some (1, 9) := by kernel_rfl
theorem fieldAt81_2 : fieldAt Try.prog 81 2 = some (2, 9) := by kernel_rfl
theorem fieldAt81_3 : fieldAt Try.prog 81 3 = some (3, 4) := by kernel_rfl
theorem fieldAt81_4 : fieldAt Try.prog 81 4 = some (4, 4) := by kernel_rfl
theorem tsize82 : tsize Try.prog 82 = some 1 := by kernel_rfl
theorem tbytes82 : tbytes Try.prog 82 = some 8 := by kernel_rfl
theorem tagg82 : tagg Try.prog 82 = some false := by kernel_rfl
theorem zcells82 : zcells Try.prog 82 = some [.nilf] := by kernel_rfl
theorem tsize83 : tsize Try.prog 83 = some 1 := by kernel_rfl
theorem tbytes83 : tbytes Try.prog 83 = some 8 := by kernel_rfl
theorem tagg83 : tagg Try.prog 83 = some false := by kernel_rfl
theorem zcells83 : zcells Try.prog 83 = some [.nilf] := by kernel_rfl
theorem tsize84 : tsize Try.prog 84 = some 1 := by kernel_rfl
theorem tbytes84 : tbytes Try.prog 84 = some 8 := by kernel_rfl
theorem tagg84 : tagg Try.prog 84 = some false := by kernel_rfl
theorem zcells84 : zcells Try.prog 84 = some [.nilf] := by kernel_rfl
theorem tsize85 : tsize Try.prog 85 = some 1 := by kernel_rfl
theorem tbytes85 : tbytes Try.prog 85 = some 8 := by kernel_rfl
theorem tagg85 : tagg Try.prog 85 = some false := by kernel_rfl
theorem zcells85 : zcells Try.prog 85 = some [.nilf] := by kernel_rfl
theorem tsize86 : tsize Try.prog 86 = some 1 := by kernel_rfl
theorem tbytes86 : tbytes Try.prog 86 = some 8 := by kernel_rfl
theorem tagg86 : tagg Try.prog 86 = some false := by kernel_rfl
theorem zcells86 : zcells Try.prog 86 = some [.nilf] := by kernel_rfl
theorem tsize87 : tsize Try.prog 87 = some 1 := by kernel_rfl
theorem tbytes87 : tbytes Try.prog 87 = some 8 := by kernel_rfl
theorem tagg87 : tagg Try.prog 87 = some false := by kernel_rfl
theorem zcells87 : zcells Try.prog 87 = some [.nilf] := by kernel_rfl
theorem tsize88 : tsize Try.prog 88 = some 1 := by kernel_rfl
theorem tbytes88 : tbytes Try.prog 88 = some 8 := by kernel_rfl
theorem tagg88 : tagg Try.prog 88 = some false := by kernel_rfl
theorem zcells88 : zcells Try.prog 88 = some [.nilf] := by kernel_rfl
theorem tsize89 : tsize Try.prog 89 = some 1 := by kernel_rfl
theorem tbytes89 : tbytes Try.prog 89 = some 8 := by kernel_rfl
theorem tagg89 : tagg Try.prog 89 = some false := by kernel_rfl
theorem zcells89 : zcells Try.prog 89 = some [.nilf] := by kernel_rfl
theorem tsize90 : tsize Try.prog 90 = some 1 := by kernel_rfl
theorem tbytes90 : tbytes Try.prog 90 = some 24 := by kernel_rfl
theorem tagg90 : tagg Try.prog 90 = some false := by kernel_rfl
theorem telem90 : telem Try.prog 90 = some 24 := by kernel_rfl
theorem slZ90 : slZ Try.prog 90 = some 1 := by kernel_rfl
theorem zcells90 : zcells Try.prog 90 = some [.nils] := by kernel_rfl
theorem tsize91 : tsize Try.prog 91 = some 1 := by kernel_rfl
theorem tbytes91 : tbytes Try.prog 91 = some 0 := by kernel_rfl
theorem tagg91 : tagg Try.prog 91 = some false := by kernel_rfl
theorem tsize92 : tsize Try.prog 92 = some 1 := by kernel_rfl
theorem tbytes92 : tbytes Try.prog 92 = some 8 := by kernel_rfl
theorem tagg92 : tagg Try.prog 92 = some false := by kernel_rfl
theorem zcells92 : zcells Try.prog 92 = some [.nilf] := by kernel_rfl
theorem tsize93 : tsize Try.prog 93 = some 1 := by kernel_rfl
theorem tbytes93 : tbytes Try.prog 93 = some 8 := by kernel_rfl
theorem tagg93 : tagg Try.prog 93 = some false := by kernel_rfl
theorem zcells93 : zcells Try.prog 93 = some [.nilf] := by kernel_rfl
theorem tsize94 : tsize Try.prog 94 = some 1 := by kernel_rfl
theorem tbytes94 : tbytes Try.prog 94 = some 8 := by kernel_rfl
theorem tagg94 : tagg Try.prog 94 = some false := by kernel_rfl
theorem zcells94 : zcells Try.prog 94 = some [.nilf] := by kernel_rfl
theorem tsize95 : tsize Try.prog 95 = some 1 := by kernel_rfl
theorem tbytes95 : tbytes Try.prog 95 = some 8 := by kernel_rfl
theorem tagg95 : tagg Try.prog 95 = some false := by kernel_rfl
theorem zcells95 : zcells Try.prog 95 = some [.nilf] := by kernel_rfl
theorem tsize96 : tsize Try.prog 96 = some 1 := by kernel_rfl
theorem tbytes96 : tbytes Try.prog 96 = some 8 := by kernel_rfl
theorem tagg96 : tagg Try.prog 96 = some false := by kernel_rfl
theorem zcells96 : zcells Try.prog 96 = some [.nilf] := by kernel_rfl
theorem tsize97 : tsize Try.prog 97 = some 1 := by kernel_rfl
theorem tbytes97 : tbytes Try.prog 97 = some 8 := by kernel_rfl
theorem tagg97 : tagg Try.prog 97 = some false := by kernel_rfl
theorem zcells97 : zcells Try.prog 97 = some [.nilf] := by kernel_rfl
theorem tsize98 : tsize Try.prog 98 = some 1 := by kernel_rfl
theorem tbytes98 : tbytes Try.prog 98 = some 8 := by kernel_rfl
theorem tagg98 : tagg Try.prog 98 = some false := by kernel_rfl
theorem zcells98 : zcells Try.prog 98 = some [.nilf] := by kernel_rfl
theorem tsize99 : tsize Try.prog 99 = some 1 := by kernel_rfl
theorem tbytes99 : tbytes Try.prog 99 = some 0 := by kernel_rfl
theorem tagg99 : tagg Try.prog 99 = some false := by kernel_rfl
theorem tsize100 : tsize Try.prog 100 = some 1 := by kernel_rfl
theorem tbytes100 : tbytes Try.prog 100 = some 8 := by kernel_rfl
theorem tagg100 : tagg Try.prog 100 = some false := by kernel_rfl
theorem zcells100 : zcells Try.prog 100 = some [.nilf] := by kernel_rfl
theorem tsize101 : tsize Try.prog 101 = some 1 := by kernel_rfl
theorem tbytes101 : tbytes Try.prog 101 = some 0 := by kernel_rfl
theorem tagg101 : tagg Try.prog 101 = some false := by kernel_rfl
theorem tsize102 : tsize Try.prog 102 = some 1 := by kernel_rfl
theorem tbytes102 : tbytes Try.prog 102 = some 8 := by kernel_rfl
theorem tagg102 : tagg Try.prog 102 = some false := by kernel_rfl
theorem zcells102 : zcells Try.prog 102 = some [.nilf] := by kernel_rfl
theorem tsize103 : tsize Try.prog 103 = some 1 := by kernel_rfl
theorem tbytes103 : tbytes Try.prog 103 = some 0 := by kernel_rfl
theorem tagg103 : tagg Try.prog 103 = some false := by kernel_rfl
theorem tsize104 : tsize Try.prog 104 = some 1 := by kernel_rfl
theorem tbytes104 : tbytes Try.prog 104 = some 8 := by kernel_rfl
theorem tagg104 : tagg Try.prog 104 = some false := by kernel_rfl
theorem zcells104 : zcells Try.prog 104 = some [.nilf] := by kernel_rfl
theorem tsize105 : tsize Try.prog 105 = some 1 := by kernel_rfl
theorem tbytes105 : tbytes Try.prog 105 = some 8 := by kernel_rfl
theorem tagg105 : tagg Try.prog 105 = some false := by kernel_rfl
theorem zcells105 : zcells Try.prog 105 = some [.nilf] := by kernel_rfl
theorem tsize106 : tsize Try.prog 106 = some 1 := by kernel_rfl
theorem tbytes106 : tbytes Try.prog 106 = some 8 := by kernel_rfl
theorem tagg106 : tagg Try.prog 106 = some false := by kernel_rfl
theorem zcells106 : zcells Try.prog 106 = some [.nilf] := by kernel_rfl
theorem tsize107 : tsize Try.prog 107 = some 1 := by kernel_rfl
theorem tbytes107 : tbytes Try.prog 107 = some 8 := by kernel_rfl
theorem tagg107 : tagg Try.prog 107 = some false := by kernel_rfl
theorem strMap107 : strMap Try.prog 107 = some 4 := by kernel_rfl
theorem zcells107 : zcells Try.prog 107 = some [.nilm] := by kernel_rfl
theorem tsize108 : tsize Try.prog 108 = some 2 := by kernel_rfl
theorem tbytes108 : tbytes Try.prog 108 = some 32 := by kernel_rfl
theorem tagg108 : tagg Try.prog 108 = some true := by kernel_rfl
theorem zcells108 : zcells Try.prog 108 = some [.nilm, .nils] := by kernel_rfl
theorem fieldAt108_0 : fieldAt Try.prog 108 0 = some (0, 107) := by kernel_rfl
theorem fieldAt108_1 : fieldAt Try.prog 108 1 = some (1, 41) := by kernel_rfl
theorem tsize109 : tsize Try.prog 109 = some 2 := by kernel_rfl
theorem tbytes109 : tbytes Try.prog 109 = some 32 := by kernel_rfl
theorem tagg109 : tagg Try.prog 109 = some true := by kernel_rfl
theorem zcells109 : zcells Try.prog 109 = some [.nilm, .nils] := by kernel_rfl
theorem fieldAt109_0 : fieldAt Try.prog 109 0 = some (0, 107) := by kernel_rfl
theorem fieldAt109_1 : fieldAt Try.prog 109 1 = some (1, 41) := by kernel_rfl
theorem tsize110 : tsize Try.prog 110 = some 1 := by kernel_rfl
theorem tbytes110 : tbytes Try.prog 110 = some 8 := by kernel_rfl
theorem tagg110 : tagg Try.prog 110 = some false := by kernel_rfl
theorem zcells110 : zcells Try.prog 110 = some [.nilf] := by kernel_rfl
theorem tsize111 : tsize Try.prog 111 = some 1 := by kernel_rfl
theorem tbytes111 : tbytes Try.prog 111 = some 8 := by kernel_rfl
theorem tagg111 : tagg Try.prog 111 = some false := by kernel_rfl
theorem zcells111 : zcells Try.prog 111 = some [.nilf] := by kernel_rfl
theorem tsize112 : tsize Try.prog 112 = some 1 := by kernel_rfl
theorem tbytes112 : tbytes Try.prog 112 = some 24 := by kernel_rfl
theorem tagg112 : tagg Try.prog 112 = some false := by kernel_rfl
theorem telem112 : telem Try.prog 112 = some 115 := by kernel_rfl
theorem slZ112 : slZ Try.prog 112 = some 4 := by kernel_rfl
theorem zcells112 : zcells Try.prog 112 = some [.nils] := by kernel_rfl
theorem tsize113 : tsize Try.prog 113 = some 1 := by kernel_rfl
theorem tbytes113 : tbytes Try.prog 113 = some 8 := by kernel_rfl
theorem tagg113 : tagg Try.prog 113 = some false := by kernel_rfl
theorem zcells113 : zcells Try.prog 113 = some [.nilf] := by kernel_rfl
theorem tsize114 : tsize Try.prog 114 = some 4 := by kernel_rfl
theorem tbytes114 : tbytes Try.prog 114 = some 48 := by kernel_rfl
theorem tagg114 : tagg Try.prog 114 = some true := by kernel_rfl
theorem zcells114 : zcells Try.prog 114 = some [.str ByteArray.empty, .nils, .bool false, .bool false] := by kernel_rfl
theorem fieldAt114_0 : fieldAt Try.prog 114 0 = some (0, 9) := by kernel_rfl
theorem fieldAt114_1 : fieldAt Try.prog 114 1 = some (1, 41) := by kernel_rfl
theorem fieldAt114_2 : fieldAt Try.prog 114 2 = some (2, 4) := by kernel_rfl
theorem fieldAt114_3 : fieldAt Try.prog 114 3 = some (3, 4) := by kernel_rfl
theorem tsize115 : tsize Try.prog 115 = some 4 := by kernel_rfl
theorem tbytes115 : tbytes Try.prog 115 = some 48 := by kernel_rfl
theorem tagg115 : tagg Try.prog 115 = some true := by kernel_rfl
theorem zcells115 : zcells Try.prog 115 = some [.str ByteArray.empty, .nils, .bool false, .bool false] := by kernel_rfl
theorem fieldAt115_0 : fieldAt Try.prog 115 0 = some (0, 9) := by kernel_rfl
theorem fieldAt115_1 : fieldAt Try.prog 115 1 = some (1, 41) := by kernel_rfl
theorem fieldAt115_2 : fieldAt Try.prog 115 2 = some (2, 4) := by kernel_rfl
theorem fieldAt115_3 : fieldAt Try.prog 115 3 = some (3, 4) := by kernel_rfl
theorem tsize116 : tsize Try.prog 116 = some 1 := by kernel_rfl
theorem tbytes116 : tbytes Try.prog 116 = some 24 := by kernel_rfl
theorem tagg116 : tagg Try.prog 116 = some false := by kernel_rfl
theorem telem116 : telem Try.prog 116 = some 5 := by kernel_rfl
theorem slZ116 : slZ Try.prog 116 = some 1 := by kernel_rfl
theorem zcells116 : zcells Try.prog 116 = some [.nils] := by kernel_rfl
theorem tsize117 : tsize Try.prog 117 = some 1 := by kernel_rfl
theorem tbytes117 : tbytes Try.prog 117 = some 8 := by kernel_rfl
theorem tagg117 : tagg Try.prog 117 = some false := by kernel_rfl
theorem zcells117 : zcells Try.prog 117 = some [.nilf] := by kernel_rfl
theorem tsize118 : tsize Try.prog 118 = some 1 := by kernel_rfl
theorem tbytes118 : tbytes Try.prog 118 = some 8 := by kernel_rfl
theorem tagg118 : tagg Try.prog 118 = some false := by kernel_rfl
theorem zcells118 : zcells Try.prog 118 = some [.nilp] := by kernel_rfl
theorem tsize119 : tsize Try.prog 119 = some 1 := by kernel_rfl
theorem tbytes119 : tbytes Try.prog 119 = some 0 := by kernel_rfl
theorem tagg119 : tagg Try.prog 119 = some false := by kernel_rfl
theorem tsize120 : tsize Try.prog 120 = some 1 := by kernel_rfl
theorem tbytes120 : tbytes Try.prog 120 = some 8 := by kernel_rfl
theorem tagg120 : tagg Try.prog 120 = some false := by kernel_rfl
theorem zcells120 : zcells Try.prog 120 = some [.nilf] := by kernel_rfl
theorem tsize121 : tsize Try.prog 121 = some 1 := by kernel_rfl
theorem tbytes121 : tbytes Try.prog 121 = some 0 := by kernel_rfl
theorem tagg121 : tagg Try.prog 121 = some false := by kernel_rfl
theorem tsize122 : tsize Try.prog 122 = some 1 := by kernel_rfl
theorem tbytes122 : tbytes Try.prog 122 = some 8 := by kernel_rfl
theorem tagg122 : tagg Try.prog 122 = some false := by kernel_rfl
theorem zcells122 : zcells Try.prog 122 = some [.nilf] := by kernel_rfl
theorem tsize123 : tsize Try.prog 123 = some 1 := by kernel_rfl
theorem tbytes123 : tbytes Try.prog 123 = some 8 := by kernel_rfl
theorem tagg123 : tagg Try.prog 123 = some false := by kernel_rfl
theorem zcells123 : zcells Try.prog 123 = some [.nilf] := by kernel_rfl
theorem tsize124 : tsize Try.prog 124 = some 1 := by kernel_rfl
theorem tbytes124 : tbytes Try.prog 124 = some 8 := by kernel_rfl
theorem tagg124 : tagg Try.prog 124 = some false := by kernel_rfl
theorem zcells124 : zcells Try.prog 124 = some [.nilf] := by kernel_rfl
theorem tsize125 : tsize Try.prog 125 = some 1 := by kernel_rfl
theorem tbytes125 : tbytes Try.prog 125 = some 8 := by kernel_rfl
theorem tagg125 : tagg Try.prog 125 = some false := by kernel_rfl
theorem zcells125 : zcells Try.prog 125 = some [.nilf] := by kernel_rfl
theorem tsize126 : tsize Try.prog 126 = some 1 := by kernel_rfl
theorem tbytes126 : tbytes Try.prog 126 = some 8 := by kernel_rfl
theorem tagg126 : tagg Try.prog 126 = some false := by kernel_rfl
theorem zcells126 : zcells Try.prog 126 = some [.nilf] := by kernel_rfl
theorem tsize127 : tsize Try.prog 127 = some 1 := by kernel_rfl
theorem tbytes127 : tbytes Try.prog 127 = some 8 := by kernel_rfl
theorem tagg127 : tagg Try.prog 127 = some false := by kernel_rfl
theorem zcells127 : zcells Try.prog 127 = some [.nilf] := by kernel_rfl
theorem tsize128 : tsize Try.prog 128 = some 1 := by kernel_rfl
theorem tbytes128 : tbytes Try.prog 128 = some 8 := by kernel_rfl
theorem tagg128 : tagg Try.prog 128 = some false := by kernel_rfl
theorem zcells128 : zcells Try.prog 128 = some [.nilf] := by kernel_rfl
theorem tsize129 : tsize Try.prog 129 = some 1 := by kernel_rfl
theorem tbytes129 : tbytes Try.prog 129 = some 0 := by kernel_rfl
theorem tagg129 : tagg Try.prog 129 = some false := by kernel_rfl
theorem tsize130 : tsize Try.prog 130 = some 1 := by kernel_rfl
theorem tbytes130 : tbytes Try.prog 130 = some 8 := by kernel_rfl
theorem tagg130 : tagg Try.prog 130 = some false := by kernel_rfl
theorem zcells130 : zcells Try.prog 130 = some [.nilf] := by kernel_rfl
theorem tsize131 : tsize Try.prog 131 = some 1 := by kernel_rfl
theorem tbytes131 : tbytes Try.prog 131 = some 8 := by kernel_rfl
theorem tagg131 : tagg Try.prog 131 = some false := by kernel_rfl
theorem zcells131 : zcells Try.prog 131 = some [.nilf] := by kernel_rfl
theorem tsize132 : tsize Try.prog 132 = some 1 := by kernel_rfl
theorem tbytes132 : tbytes Try.prog 132 = some 8 := by kernel_rfl
theorem tagg132 : tagg Try.prog 132 = some false := by kernel_rfl
theorem zcells132 : zcells Try.prog 132 = some [.nilf] := by kernel_rfl
theorem tsize133 : tsize Try.prog 133 = some 1 := by kernel_rfl
theorem tbytes133 : tbytes Try.prog 133 = some 8 := by kernel_rfl
theorem tagg133 : tagg Try.prog 133 = some false := by kernel_rfl
theorem zcells133 : zcells Try.prog 133 = some [.nilf] := by kernel_rfl
theorem tsize134 : tsize Try.prog 134 = some 1 := by kernel_rfl
theorem tbytes134 : tbytes Try.prog 134 = some 24 := by kernel_rfl
theorem tagg134 : tagg Try.prog 134 = some false := by kernel_rfl
theorem telem134 : telem Try.prog 134 = some 25 := by kernel_rfl
theorem slZ134 : slZ Try.prog 134 = some 1 := by kernel_rfl
theorem zcells134 : zcells Try.prog 134 = some [.nils] := by kernel_rfl
theorem tsize135 : tsize Try.prog 135 = some 1 := by kernel_rfl
theorem tbytes135 : tbytes Try.prog 135 = some 8 := by kernel_rfl
theorem tagg135 : tagg Try.prog 135 = some false := by kernel_rfl
theorem zcells135 : zcells Try.prog 135 = some [.nilf] := by kernel_rfl
theorem tsize136 : tsize Try.prog 136 = some 1 := by kernel_rfl
theorem tbytes136 : tbytes Try.prog 136 = some 8 := by kernel_rfl
theorem tagg136 : tagg Try.prog 136 = some false := by kernel_rfl
theorem zcells136 : zcells Try.prog 136 = some [.nilf] := by kernel_rfl
theorem tsize137 : tsize Try.prog 137 = some 1 := by kernel_rfl
theorem tbytes137 : tbytes Try.prog 137 = some 8 := by kernel_rfl
theorem tagg137 : tagg Try.prog 137 = some false := by kernel_rfl
theorem zcells137 : zcells Try.prog 137 = some [.nilf] := by kernel_rfl
theorem tsize138 : tsize Try.prog 138 = some 3 := by kernel_rfl
theorem tbytes138 : tbytes Try.prog 138 = some 40 := by kernel_rfl
theorem tagg138 : tagg Try.prog 138 = some true := by kernel_rfl
theorem zcells138 : zcells Try.prog 138 = some [.str ByteArray.empty, .str ByteArray.empty, .int .i64 0] := by kernel_rfl
theorem fieldAt138_0 : fieldAt Try.prog 138 0 = some (0, 9) := by kernel_rfl
theorem fieldAt138_1 : fieldAt Try.prog 138 1 = some (1, 9) := by kernel_rfl
theorem fieldAt138_2 : fieldAt Try.prog 138 2 = some (2, 3) := by kernel_rfl
theorem tsize139 : tsize Try.prog 139 = some 3 := by kernel_rfl
theorem tbytes139 : tbytes Try.prog 139 = some 40 := by kernel_rfl
theorem tagg139 : tagg Try.prog 139 = some true := by kernel_rfl
theorem zcells139 : zcells Try.prog 139 = some [.str ByteArray.empty, .str ByteArray.empty, .int .i64 0] := by kernel_rfl
theorem fieldAt139_0 : fieldAt Try.prog 139 0 = some (0, 9) := by kernel_rfl
theorem fieldAt139_1 : fieldAt Try.prog 139 1 = some (1, 9) := by kernel_rfl
theorem fieldAt139_2 : fieldAt Try.prog 139 2 = some (2, 3) := by kernel_rfl
theorem tsize140 : tsize Try.prog 140 = some 1 := by kernel_rfl
theorem tbytes140 : tbytes Try.prog 140 = some 0 := by kernel_rfl
theorem tagg140 : tagg Try.prog 140 = some false := by kernel_rfl
theorem tsize141 : tsize Try.prog 141 = some 1 := by kernel_rfl
theorem tbytes141 : tbytes Try.prog 141 = some 8 := by kernel_rfl
theorem tagg141 : tagg Try.prog 141 = some false := by kernel_rfl
theorem zcells141 : zcells Try.prog 141 = some [.nilf] := by kernel_rfl
theorem tsize142 : tsize Try.prog 142 = some 1 := by kernel_rfl
theorem tbytes142 : tbytes Try.prog 142 = some 8 := by kernel_rfl
theorem tagg142 : tagg Try.prog 142 = some false := by kernel_rfl
theorem zcells142 : zcells Try.prog 142 = some [.nilf] := by kernel_rfl
theorem tsize143 : tsize Try.prog 143 = some 1 := by kernel_rfl
theorem tbytes143 : tbytes Try.prog 143 = some 8 := by kernel_rfl
theorem tagg143 : tagg Try.prog 143 = some false := by kernel_rfl
theorem zcells143 : zcells Try.prog 143 = some [.nilf] := by kernel_rfl
theorem tsize144 : tsize Try.prog 144 = some 1 := by kernel_rfl
theorem tbytes144 : tbytes Try.prog 144 = some 8 := by kernel_rfl
theorem tagg144 : tagg Try.prog 144 = some false := by kernel_rfl
theorem zcells144 : zcells Try.prog 144 = some [.nilf] := by kernel_rfl
theorem tsize145 : tsize Try.prog 145 = some 1 := by kernel_rfl
theorem tbytes145 : tbytes Try.prog 145 = some 8 := by kernel_rfl
theorem tagg145 : tagg Try.prog 145 = some false := by kernel_rfl
theorem zcells145 : zcells Try.prog 145 = some [.nilf] := by kernel_rfl
theorem tsize146 : tsize Try.prog 146 = some 1 := by kernel_rfl
theorem tbytes146 : tbytes Try.prog 146 = some 8 := by kernel_rfl
theorem tagg146 : tagg Try.prog 146 = some false := by kernel_rfl
theorem zcells146 : zcells Try.prog 146 = some [.nilf] := by kernel_rfl
theorem tsize147 : tsize Try.prog 147 = some 1 := by kernel_rfl
theorem tbytes147 : tbytes Try.prog 147 = some 8 := by kernel_rfl
theorem tagg147 : tagg Try.prog 147 = some false := by kernel_rfl
theorem zcells147 : zcells Try.prog 147 = some [.nilf] := by kernel_rfl
theorem tsize148 : tsize Try.prog 148 = some 1 := by kernel_rfl
theorem tbytes148 : tbytes Try.prog 148 = some 8 := by kernel_rfl
theorem tagg148 : tagg Try.prog 148 = some false := by kernel_rfl
theorem zcells148 : zcells Try.prog 148 = some [.nilf] := by kernel_rfl
theorem tsize149 : tsize Try.prog 149 = some 1 := by kernel_rfl
theorem tbytes149 : tbytes Try.prog 149 = some 8 := by kernel_rfl
theorem tagg149 : tagg Try.prog 149 = some false := by kernel_rfl
theorem zcells149 : zcells Try.prog 149 = some [.nilf] := by kernel_rfl
theorem tsize150 : tsize Try.prog 150 = some 1 := by kernel_rfl
theorem tbytes150 : tbytes Try.prog 150 = some 8 := by kernel_rfl
theorem tagg150 : tagg Try.prog 150 = some false := by kernel_rfl
theorem zcells150 : zcells Try.prog 150 = some [.nilf] := by kernel_rfl
theorem tsize151 : tsize Try.prog 151 = some 1 := by kernel_rfl
theorem tbytes151 : tbytes Try.prog 151 = some 8 := by kernel_rfl
theorem tagg151 : tagg Try.prog 151 = some false := by kernel_rfl
theorem zcells151 : zcells Try.prog 151 = some [.nilf] := by kernel_rfl
theorem tsize152 : tsize Try.prog 152 = some 1 := by kernel_rfl
theorem tbytes152 : tbytes Try.prog 152 = some 8 := by kernel_rfl
theorem tagg152 : tagg Try.prog 152 = some false := by kernel_rfl
theorem zcells152 : zcells Try.prog 152 = some [.nilf] := by kernel_rfl
theorem tsize153 : tsize Try.prog 153 = some 8 := by kernel_rfl
theorem tbytes153 : tbytes Try.prog 153 = some 192 := by kernel_rfl
theorem tagg153 : tagg Try.prog 153 = some true := by kernel_rfl
theorem zcells153 : zcells Try.prog 153 = some [.nils, .nils, .nils, .nils, .nils, .nils, .nils, .nils] := by kernel_rfl
theorem fieldAt153_0 : fieldAt Try.prog 153 0 = some (0, 48) := by kernel_rfl
theorem fieldAt153_1 : fieldAt Try.prog 153 1 = some (6, 56) := by kernel_rfl
theorem tsize154 : tsize Try.prog 154 = some 8 := by kernel_rfl
theorem tbytes154 : tbytes Try.prog 154 = some 192 := by kernel_rfl
theorem tagg154 : tagg Try.prog 154 = some true := by kernel_rfl
theorem zcells154 : zcells Try.prog 154 = some [.nils, .nils, .nils, .nils, .nils, .nils, .nils, .nils] := by kernel_rfl
theorem fieldAt154_0 : fieldAt Try.prog 154 0 = some (0, 48) := by kernel_rfl
theorem fieldAt154_1 : fieldAt Try.prog 154 1 = some (6, 56) := by kernel_rfl
theorem tsize155 : tsize Try.prog 155 = some 1 := by kernel_rfl
theorem tbytes155 : tbytes Try.prog 155 = some 8 := by kernel_rfl
theorem tagg155 : tagg Try.prog 155 = some false := by kernel_rfl
theorem zcells155 : zcells Try.prog 155 = some [.nilf] := by kernel_rfl
theorem tsize156 : tsize Try.prog 156 = some 1 := by kernel_rfl
theorem tbytes156 : tbytes Try.prog 156 = some 8 := by kernel_rfl
theorem tagg156 : tagg Try.prog 156 = some false := by kernel_rfl
theorem zcells156 : zcells Try.prog 156 = some [.nilf] := by kernel_rfl
theorem tsize157 : tsize Try.prog 157 = some 1 := by kernel_rfl
theorem tbytes157 : tbytes Try.prog 157 = some 8 := by kernel_rfl
theorem tagg157 : tagg Try.prog 157 = some false := by kernel_rfl
theorem zcells157 : zcells Try.prog 157 = some [.nilf] := by kernel_rfl
theorem tsize158 : tsize Try.prog 158 = some 1 := by kernel_rfl
theorem tbytes158 : tbytes Try.prog 158 = some 8 := by kernel_rfl
theorem tagg158 : tagg Try.prog 158 = some false := by kernel_rfl
theorem zcells158 : zcells Try.prog 158 = some [.nilf] := by kernel_rfl
theorem tsize159 : tsize Try.prog 159 = some 1 := by kernel_rfl
theorem tbytes159 : tbytes Try.prog 159 = some 8 := by kernel_rfl
theorem tagg159 : tagg Try.prog 159 = some false := by kernel_rfl
theorem zcells159 : zcells Try.prog 159 = some [.nilf] := by kernel_rfl
theorem tsize160 : tsize Try.prog 160 = some 1 := by kernel_rfl
theorem tbytes160 : tbytes Try.prog 160 = some 8 := by kernel_rfl
theorem tagg160 : tagg Try.prog 160 = some false := by kernel_rfl
theorem zcells160 : zcells Try.prog 160 = some [.int .u64 0] := by kernel_rfl
theorem tsize161 : tsize Try.prog 161 = some 1 := by kernel_rfl
theorem tbytes161 : tbytes Try.prog 161 = some 0 := by kernel_rfl
theorem tagg161 : tagg Try.prog 161 = some false := by kernel_rfl
theorem tsize162 : tsize Try.prog 162 = some 1 := by kernel_rfl
theorem tbytes162 : tbytes Try.prog 162 = some 8 := by kernel_rfl
theorem tagg162 : tagg Try.prog 162 = some false := by kernel_rfl
theorem zcells162 : zcells Try.prog 162 = some [.nilf] := by kernel_rfl
theorem tsize163 : tsize Try.prog 163 = some 1 := by kernel_rfl
theorem tbytes163 : tbytes Try.prog 163 = some 8 := by kernel_rfl
theorem tagg163 : tagg Try.prog 163 = some false := by kernel_rfl
theorem zcells163 : zcells Try.prog 163 = some [.nilf] := by kernel_rfl
theorem tsize164 : tsize Try.prog 164 = some 1 := by kernel_rfl
theorem tbytes164 : tbytes Try.prog 164 = some 8 := by kernel_rfl
theorem tagg164 : tagg Try.prog 164 = some false := by kernel_rfl
theorem zcells164 : zcells Try.prog 164 = some [.nilf] := by kernel_rfl
theorem tsize165 : tsize Try.prog 165 = some 1 := by kernel_rfl
theorem tbytes165 : tbytes Try.prog 165 = some 8 := by kernel_rfl
theorem tagg165 : tagg Try.prog 165 = some false := by kernel_rfl
theorem zcells165 : zcells Try.prog 165 = some [.nilf] := by kernel_rfl
theorem tsize166 : tsize Try.prog 166 = some 1 := by kernel_rfl
theorem tbytes166 : tbytes Try.prog 166 = some 8 := by kernel_rfl
theorem tagg166 : tagg Try.prog 166 = some false := by kernel_rfl
theorem zcells166 : zcells Try.prog 166 = some [.nilf] := by kernel_rfl
theorem tsize167 : tsize Try.prog 167 = some 1 := by kernel_rfl
theorem tbytes167 : tbytes Try.prog 167 = some 4 := by kernel_rfl
theorem tagg167 : tagg Try.prog 167 = some false := by kernel_rfl
theorem zcells167 : zcells Try.prog 167 = some [.int .u32 0] := by kernel_rfl
theorem tsize168 : tsize Try.prog 168 = some 1 := by kernel_rfl
theorem tbytes168 : tbytes Try.prog 168 = some 0 := by kernel_rfl
theorem tagg168 : tagg Try.prog 168 = some false := by kernel_rfl
theorem tsize169 : tsize Try.prog 169 = some 1 := by kernel_rfl
theorem tbytes169 : tbytes Try.prog 169 = some 8 := by kernel_rfl
theorem tagg169 : tagg Try.prog 169 = some false := by kernel_rfl
theorem zcells169 : zcells Try.prog 169 = some [.nilf] := by kernel_rfl
theorem tsize170 : tsize Try.prog 170 = some 1 := by kernel_rfl
theorem tbytes170 : tbytes Try.prog 170 = some 8 := by kernel_rfl
theorem tagg170 : tagg Try.prog 170 = some false := by kernel_rfl
theorem zcells170 : zcells Try.prog 170 = some [.int .u64 0] := by kernel_rfl
theorem tsize171 : tsize Try.prog 171 = some 1 := by kernel_rfl
theorem tbytes171 : tbytes Try.prog 171 = some 0 := by kernel_rfl
theorem tagg171 : tagg Try.prog 171 = some false := by kernel_rfl
theorem tsize172 : tsize Try.prog 172 = some 1 := by kernel_rfl
theorem tbytes172 : tbytes Try.prog 172 = some 8 := by kernel_rfl
theorem tagg172 : tagg Try.prog 172 = some false := by kernel_rfl
theorem zcells172 : zcells Try.prog 172 = some [.nilf] := by kernel_rfl
theorem tsize173 : tsize Try.prog 173 = some 1 := by kernel_rfl
theorem tbytes173 : tbytes Try.prog 173 = some 8 := by kernel_rfl
theorem tagg173 : tagg Try.prog 173 = some false := by kernel_rfl
theorem zcells173 : zcells Try.prog 173 = some [.nilf] := by kernel_rfl
theorem tsize174 : tsize Try.prog 174 = some 4 := by kernel_rfl
theorem tbytes174 : tbytes Try.prog 174 = some 40 := by kernel_rfl
theorem tagg174 : tagg Try.prog 174 = some true := by kernel_rfl
theorem zcells174 : zcells Try.prog 174 = some [.nilp, .nilp, .nilp, .str ByteArray.empty] := by kernel_rfl
theorem fieldAt174_0 : fieldAt Try.prog 174 0 = some (0, 17) := by kernel_rfl
theorem fieldAt174_1 : fieldAt Try.prog 174 1 = some (1, 17) := by kernel_rfl
theorem fieldAt174_2 : fieldAt Try.prog 174 2 = some (2, 17) := by kernel_rfl
theorem fieldAt174_3 : fieldAt Try.prog 174 3 = some (3, 9) := by kernel_rfl
theorem tsize175 : tsize Try.prog 175 = some 4 := by kernel_rfl
theorem tbytes175 : tbytes Try.prog 175 = some 40 := by kernel_rfl
theorem tagg175 : tagg Try.prog 175 = some true := by kernel_rfl
theorem zcells175 : zcells Try.prog 175 = some [.nilp, .nilp, .nilp, .str ByteArray.empty] := by kernel_rfl
theorem fieldAt175_0 : fieldAt Try.prog 175 0 = some (0, 17) := by kernel_rfl
theorem fieldAt175_1 : fieldAt Try.prog 175 1 = some (1, 17) := by kernel_rfl
theorem fieldAt175_2 : fieldAt Try.prog 175 2 = some (2, 17) := by kernel_rfl
theorem fieldAt175_3 : fieldAt Try.prog 175 3 = some (3, 9) := by kernel_rfl
theorem tsize176 : tsize Try.prog 176 = some 0 := by kernel_rfl
theorem tbytes176 : tbytes Try.prog 176 = some 0 := by kernel_rfl
theorem tagg176 : tagg Try.prog 176 = some true := by kernel_rfl
theorem arrOf176 : arrOf Try.prog 176 = some (0, 1, 16) := by kernel_rfl
theorem zcells176 : zcells Try.prog 176 = some [] := by kernel_rfl
theorem tsize177 : tsize Try.prog 177 = some 0 := by kernel_rfl
theorem tbytes177 : tbytes Try.prog 177 = some 0 := by kernel_rfl
theorem tagg177 : tagg Try.prog 177 = some true := by kernel_rfl
theorem zcells177 : zcells Try.prog 177 = some [] := by kernel_rfl
theorem fieldAt177_0 : fieldAt Try.prog 177 0 = some (0, 176) := by kernel_rfl
theorem tsize178 : tsize Try.prog 178 = some 0 := by kernel_rfl
theorem tbytes178 : tbytes Try.prog 178 = some 0 := by kernel_rfl
theorem tagg178 : tagg Try.prog 178 = some true := by kernel_rfl
theorem zcells178 : zcells Try.prog 178 = some [] := by kernel_rfl
theorem fieldAt178_0 : fieldAt Try.prog 178 0 = some (0, 176) := by kernel_rfl
theorem tsize179 : tsize Try.prog 179 = some 1 := by kernel_rfl
theorem tbytes179 : tbytes Try.prog 179 = some 8 := by kernel_rfl
theorem tagg179 : tagg Try.prog 179 = some false := by kernel_rfl
theorem zcells179 : zcells Try.prog 179 = some [.nilf] := by kernel_rfl
theorem tsize180 : tsize Try.prog 180 = some 1 := by kernel_rfl
theorem tbytes180 : tbytes Try.prog 180 = some 1 := by kernel_rfl
theorem tagg180 : tagg Try.prog 180 = some false := by kernel_rfl
theorem zcells180 : zcells Try.prog 180 = some [.int .u8 0] := by kernel_rfl
theorem tsize181 : tsize Try.prog 181 = some 1 := by kernel_rfl
theorem tbytes181 : tbytes Try.prog 181 = some 1 := by kernel_rfl
theorem tagg181 : tagg Try.prog 181 = some false := by kernel_rfl
theorem zcells181 : zcells Try.prog 181 = some [.int .u8 0] := by kernel_rfl
theorem tsize182 : tsize Try.prog 182 = some 1 := by kernel_rfl
theorem tbytes182 : tbytes Try.prog 182 = some 8 := by kernel_rfl
theorem tagg182 : tagg Try.prog 182 = some false := by kernel_rfl
theorem zcells182 : zcells Try.prog 182 = some [.nilf] := by kernel_rfl
theorem tsize183 : tsize Try.prog 183 = some 1 := by kernel_rfl
theorem tbytes183 : tbytes Try.prog 183 = some 8 := by kernel_rfl
theorem tagg183 : tagg Try.prog 183 = some false := by kernel_rfl
theorem zcells183 : zcells Try.prog 183 = some [.nilp] := by kernel_rfl
theorem tsize184 : tsize Try.prog 184 = some 1 := by kernel_rfl
theorem tbytes184 : tbytes Try.prog 184 = some 4 := by kernel_rfl
theorem tagg184 : tagg Try.prog 184 = some false := by kernel_rfl
theorem zcells184 : zcells Try.prog 184 = some [.int .i32 0] := by kernel_rfl
theorem tsize185 : tsize Try.prog 185 = some 1 := by kernel_rfl
theorem tbytes185 : tbytes Try.prog 185 = some 4 := by kernel_rfl
theorem tagg185 : tagg Try.prog 185 = some false := by kernel_rfl
theorem zcells185 : zcells Try.prog 185 = some [.int .i32 0] := by kernel_rfl
theorem tsize186 : tsize Try.prog 186 = some 11 := by kernel_rfl
theorem tbytes186 : tbytes Try.prog 186 = some 48 := by kernel_rfl
theorem tagg186 : tagg Try.prog 186 = some true := by kernel_rfl
theorem zcells186 : zcells Try.prog 186 = some [.int .u64 0, .int .u64 0, .int .u32 0, .int .u8 0, .int .u8 0, .int .u8 0, .int .u8 0, .nilf, .nilp, .int .i32 0, .int .i32 0] := by kernel_rfl
theorem fieldAt186_0 : fieldAt Try.prog 186 0 = some (0, 12) := by kernel_rfl
theorem fieldAt186_1 : fieldAt Try.prog 186 1 = some (1, 12) := by kernel_rfl
theorem fieldAt186_2 : fieldAt Try.prog 186 2 = some (2, 167) := by kernel_rfl
theorem fieldAt186_3 : fieldAt Try.prog 186 3 = some (3, 180) := by kernel_rfl
theorem fieldAt186_4 : fieldAt Try.prog 186 4 = some (4, 5) := by kernel_rfl
theorem fieldAt186_5 : fieldAt Try.prog 186 5 = some (5, 5) := by kernel_rfl
theorem fieldAt186_6 : fieldAt Try.prog 186 6 = some (6, 181) := by kernel_rfl
theorem fieldAt186_7 : fieldAt Try.prog 186 7 = some (7, 182) := by kernel_rfl
theorem fieldAt186_8 : fieldAt Try.prog 186 8 = some (8, 183) := by kernel_rfl
theorem fieldAt186_9 : fieldAt Try.prog 186 9 = some (9, 184) := by kernel_rfl
theorem fieldAt186_10 : fieldAt Try.prog 186 10 = some (10, 185) := by kernel_rfl
theorem tsize187 : tsize Try.prog 187 = some 11 := by kernel_rfl
theorem tbytes187 : tbytes Try.prog 187 = some 48 := by kernel_rfl
theorem tagg187 : tagg Try.prog 187 = some true := by kernel_rfl
theorem zcells187 : zcells Try.prog 187 = some [.int .u64 0, .int .u64 0, .int .u32 0, .int .u8 0, .int .u8 0, .int .u8 0, .int .u8 0, .nilf, .nilp, .int .i32 0, .int .i32 0] := by kernel_rfl
theorem fieldAt187_0 : fieldAt Try.prog 187 0 = some (0, 12) := by kernel_rfl
theorem fieldAt187_1 : fieldAt Try.prog 187 1 = some (1, 12) := by kernel_rfl
theorem fieldAt187_2 : fieldAt Try.prog 187 2 = some (2, 167) := by kernel_rfl
theorem fieldAt187_3 : fieldAt Try.prog 187 3 = some (3, 180) := by kernel_rfl
theorem fieldAt187_4 : fieldAt Try.prog 187 4 = some (4, 5) := by kernel_rfl
theorem fieldAt187_5 : fieldAt Try.prog 187 5 = some (5, 5) := by kernel_rfl
theorem fieldAt187_6 : fieldAt Try.prog 187 6 = some (6, 181) := by kernel_rfl
theorem fieldAt187_7 : fieldAt Try.prog 187 7 = some (7, 182) := by kernel_rfl
theorem fieldAt187_8 : fieldAt Try.prog 187 8 = some (8, 183) := by kernel_rfl
theorem fieldAt187_9 : fieldAt Try.prog 187 9 = some (9, 184) := by kernel_rfl
theorem fieldAt187_10 : fieldAt Try.prog 187 10 = some (10, 185) := by kernel_rfl
theorem tsize188 : tsize Try.prog 188 = some 1 := by kernel_rfl
theorem tbytes188 : tbytes Try.prog 188 = some 8 := by kernel_rfl
theorem tagg188 : tagg Try.prog 188 = some false := by kernel_rfl
theorem zcells188 : zcells Try.prog 188 = some [.nilp] := by kernel_rfl
end Go.Proofs.Ytcclbkkgpcpikaa
