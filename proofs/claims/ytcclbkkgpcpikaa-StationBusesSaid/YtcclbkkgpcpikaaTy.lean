/-
  What the types of this seat's program are (written by a program).
-/
import Derived.Test.YtcclbkkgpcpikaaAmC
import Derived.Test.YtcclbkkgpcpikaaRows
set_option linter.unusedSimpArgs false
set_option linter.unusedVariables false
namespace Go.Proofs.Ytcclbkkgpcpikaa
open Go.Am
theorem tsize3 : tsize Try.prog 3 = some 1 := by kernel_rfl
theorem tbytes3 : tbytes Try.prog 3 = some 8 := by kernel_rfl
theorem tagg3 : tagg Try.prog 3 = some false := by kernel_rfl
theorem zcells3 : zcells Try.prog 3 = some [.int .i64 0] := by kernel_rfl
theorem tsize4 : tsize Try.prog 4 = some 1 := by kernel_rfl
theorem tbytes4 : tbytes Try.prog 4 = some 1 := by kernel_rfl
theorem tagg4 : tagg Try.prog 4 = some false := by kernel_rfl
theorem zcells4 : zcells Try.prog 4 = some [.bool false] := by kernel_rfl
theorem isBoolT4 : isBoolT Try.prog 4 = true := by kernel_rfl
theorem tsize5 : tsize Try.prog 5 = some 1 := by kernel_rfl
theorem tbytes5 : tbytes Try.prog 5 = some 1 := by kernel_rfl
theorem tagg5 : tagg Try.prog 5 = some false := by kernel_rfl
theorem zcells5 : zcells Try.prog 5 = some [.int .u8 0] := by kernel_rfl
theorem tsize9 : tsize Try.prog 9 = some 1 := by kernel_rfl
theorem tbytes9 : tbytes Try.prog 9 = some 16 := by kernel_rfl
theorem tagg9 : tagg Try.prog 9 = some false := by kernel_rfl
theorem zcells9 : zcells Try.prog 9 = some [.str ByteArray.empty] := by kernel_rfl
theorem isStrT9 : isStrT Try.prog 9 = true := by kernel_rfl
theorem tsize22 : tsize Try.prog 22 = some 1 := by kernel_rfl
theorem tbytes22 : tbytes Try.prog 22 = some 24 := by kernel_rfl
theorem tagg22 : tagg Try.prog 22 = some false := by kernel_rfl
theorem telem22 : telem Try.prog 22 = some 29 := by kernel_rfl
theorem slZ22 : slZ Try.prog 22 = some 2 := by kernel_rfl
theorem zcells22 : zcells Try.prog 22 = some [.nils] := by kernel_rfl
theorem tsize24 : tsize Try.prog 24 = some 1 := by kernel_rfl
theorem tbytes24 : tbytes Try.prog 24 = some 24 := by kernel_rfl
theorem tagg24 : tagg Try.prog 24 = some false := by kernel_rfl
theorem telem24 : telem Try.prog 24 = some 3 := by kernel_rfl
theorem slZ24 : slZ Try.prog 24 = some 1 := by kernel_rfl
theorem zcells24 : zcells Try.prog 24 = some [.nils] := by kernel_rfl
theorem tsize25 : tsize Try.prog 25 = some 1 := by kernel_rfl
theorem tbytes25 : tbytes Try.prog 25 = some 8 := by kernel_rfl
theorem tagg25 : tagg Try.prog 25 = some false := by kernel_rfl
theorem zcells25 : zcells Try.prog 25 = some [.int .i64 0] := by kernel_rfl
theorem tsize29 : tsize Try.prog 29 = some 2 := by kernel_rfl
theorem tbytes29 : tbytes Try.prog 29 = some 16 := by kernel_rfl
theorem tagg29 : tagg Try.prog 29 = some true := by kernel_rfl
theorem arrOf29 : arrOf Try.prog 29 = some (2, 1, 3) := by kernel_rfl
theorem zcells29 : zcells Try.prog 29 = some [.int .i64 0, .int .i64 0] := by kernel_rfl
theorem tsize30 : tsize Try.prog 30 = some 1 := by kernel_rfl
theorem tbytes30 : tbytes Try.prog 30 = some 24 := by kernel_rfl
theorem tagg30 : tagg Try.prog 30 = some false := by kernel_rfl
theorem telem30 : telem Try.prog 30 = some 4 := by kernel_rfl
theorem slZ30 : slZ Try.prog 30 = some 1 := by kernel_rfl
theorem zcells30 : zcells Try.prog 30 = some [.nils] := by kernel_rfl
theorem tsize31 : tsize Try.prog 31 = some 1 := by kernel_rfl
theorem tbytes31 : tbytes Try.prog 31 = some 24 := by kernel_rfl
theorem tagg31 : tagg Try.prog 31 = some false := by kernel_rfl
theorem telem31 : telem Try.prog 31 = some 30 := by kernel_rfl
theorem slZ31 : slZ Try.prog 31 = some 1 := by kernel_rfl
theorem zcells31 : zcells Try.prog 31 = some [.nils] := by kernel_rfl
theorem tsize33 : tsize Try.prog 33 = some 1 := by kernel_rfl
theorem tbytes33 : tbytes Try.prog 33 = some 8 := by kernel_rfl
theorem tagg33 : tagg Try.prog 33 = some false := by kernel_rfl
theorem zcells33 : zcells Try.prog 33 = some [.nilf] := by kernel_rfl
theorem tsize41 : tsize Try.prog 41 = some 1 := by kernel_rfl
theorem tbytes41 : tbytes Try.prog 41 = some 24 := by kernel_rfl
theorem tagg41 : tagg Try.prog 41 = some false := by kernel_rfl
theorem telem41 : telem Try.prog 41 = some 9 := by kernel_rfl
theorem slZ41 : slZ Try.prog 41 = some 1 := by kernel_rfl
theorem zcells41 : zcells Try.prog 41 = some [.nils] := by kernel_rfl
theorem tsize42 : tsize Try.prog 42 = some 1 := by kernel_rfl
theorem tbytes42 : tbytes Try.prog 42 = some 24 := by kernel_rfl
theorem tagg42 : tagg Try.prog 42 = some false := by kernel_rfl
theorem telem42 : telem Try.prog 42 = some 81 := by kernel_rfl
theorem slZ42 : slZ Try.prog 42 = some 5 := by kernel_rfl
theorem zcells42 : zcells Try.prog 42 = some [.nils] := by kernel_rfl
theorem tsize43 : tsize Try.prog 43 = some 1 := by kernel_rfl
theorem tbytes43 : tbytes Try.prog 43 = some 24 := by kernel_rfl
theorem tagg43 : tagg Try.prog 43 = some false := by kernel_rfl
theorem telem43 : telem Try.prog 43 = some 50 := by kernel_rfl
theorem slZ43 : slZ Try.prog 43 = some 9 := by kernel_rfl
theorem zcells43 : zcells Try.prog 43 = some [.nils] := by kernel_rfl
theorem tsize44 : tsize Try.prog 44 = some 1 := by kernel_rfl
theorem tbytes44 : tbytes Try.prog 44 = some 24 := by kernel_rfl
theorem tagg44 : tagg Try.prog 44 = some false := by kernel_rfl
theorem telem44 : telem Try.prog 44 = some 65 := by kernel_rfl
theorem slZ44 : slZ Try.prog 44 = some 5 := by kernel_rfl
theorem zcells44 : zcells Try.prog 44 = some [.nils] := by kernel_rfl
theorem tsize45 : tsize Try.prog 45 = some 1 := by kernel_rfl
theorem tbytes45 : tbytes Try.prog 45 = some 24 := by kernel_rfl
theorem tagg45 : tagg Try.prog 45 = some false := by kernel_rfl
theorem telem45 : telem Try.prog 45 = some 139 := by kernel_rfl
theorem slZ45 : slZ Try.prog 45 = some 3 := by kernel_rfl
theorem zcells45 : zcells Try.prog 45 = some [.nils] := by kernel_rfl
theorem tsize46 : tsize Try.prog 46 = some 1 := by kernel_rfl
theorem tbytes46 : tbytes Try.prog 46 = some 24 := by kernel_rfl
theorem tagg46 : tagg Try.prog 46 = some false := by kernel_rfl
theorem telem46 : telem Try.prog 46 = some 69 := by kernel_rfl
theorem slZ46 : slZ Try.prog 46 = some 5 := by kernel_rfl
theorem zcells46 : zcells Try.prog 46 = some [.nils] := by kernel_rfl
theorem tsize48 : tsize Try.prog 48 = some 6 := by kernel_rfl
theorem tbytes48 : tbytes Try.prog 48 = some 144 := by kernel_rfl
theorem tagg48 : tagg Try.prog 48 = some true := by kernel_rfl
theorem zcells48 : zcells Try.prog 48 = some [.nils, .nils, .nils, .nils, .nils, .nils] := by kernel_rfl
theorem fieldAt48_0 : fieldAt Try.prog 48 0 = some (0, 41) := by kernel_rfl
theorem fieldAt48_1 : fieldAt Try.prog 48 1 = some (1, 42) := by kernel_rfl
theorem fieldAt48_2 : fieldAt Try.prog 48 2 = some (2, 43) := by kernel_rfl
theorem fieldAt48_3 : fieldAt Try.prog 48 3 = some (3, 44) := by kernel_rfl
theorem fieldAt48_4 : fieldAt Try.prog 48 4 = some (4, 45) := by kernel_rfl
theorem fieldAt48_5 : fieldAt Try.prog 48 5 = some (5, 46) := by kernel_rfl
theorem tsize50 : tsize Try.prog 50 = some 9 := by kernel_rfl
theorem tbytes50 : tbytes Try.prog 50 = some 96 := by kernel_rfl
theorem tagg50 : tagg Try.prog 50 = some true := by kernel_rfl
theorem zcells50 : zcells Try.prog 50 = some [.str ByteArray.empty, .str ByteArray.empty, .str ByteArray.empty, .int .i64 0, .int .i64 0, .int .i64 0, .int .i64 0, .int .i64 0, .int .i64 0] := by kernel_rfl
theorem fieldAt50_0 : fieldAt Try.prog 50 0 = some (0, 9) := by kernel_rfl
theorem fieldAt50_1 : fieldAt Try.prog 50 1 = some (1, 9) := by kernel_rfl
theorem fieldAt50_2 : fieldAt Try.prog 50 2 = some (2, 9) := by kernel_rfl
theorem fieldAt50_3 : fieldAt Try.prog 50 3 = some (3, 3) := by kernel_rfl
theorem fieldAt50_4 : fieldAt Try.prog 50 4 = some (4, 3) := by kernel_rfl
theorem fieldAt50_5 : fieldAt Try.prog 50 5 = some (5, 3) := by kernel_rfl
theorem fieldAt50_6 : fieldAt Try.prog 50 6 = some (6, 3) := by kernel_rfl
theorem fieldAt50_7 : fieldAt Try.prog 50 7 = some (7, 3) := by kernel_rfl
theorem fieldAt50_8 : fieldAt Try.prog 50 8 = some (8, 3) := by kernel_rfl
theorem tsize65 : tsize Try.prog 65 = some 5 := by kernel_rfl
theorem tbytes65 : tbytes Try.prog 65 = some 56 := by kernel_rfl
theorem tagg65 : tagg Try.prog 65 = some true := by kernel_rfl
theorem zcells65 : zcells Try.prog 65 = some [.str ByteArray.empty, .str ByteArray.empty, .int .i64 0, .int .i64 0, .int .i64 0] := by kernel_rfl
theorem fieldAt65_0 : fieldAt Try.prog 65 0 = some (0, 9) := by kernel_rfl
theorem fieldAt65_1 : fieldAt Try.prog 65 1 = some (1, 9) := by kernel_rfl
theorem fieldAt65_2 : fieldAt Try.prog 65 2 = some (2, 3) := by kernel_rfl
theorem fieldAt65_3 : fieldAt Try.prog 65 3 = some (3, 3) := by kernel_rfl
theorem fieldAt65_4 : fieldAt Try.prog 65 4 = some (4, 3) := by kernel_rfl
theorem tsize69 : tsize Try.prog 69 = some 5 := by kernel_rfl
theorem tbytes69 : tbytes Try.prog 69 = some 56 := by kernel_rfl
theorem tagg69 : tagg Try.prog 69 = some true := by kernel_rfl
theorem zcells69 : zcells Try.prog 69 = some [.str ByteArray.empty, .str ByteArray.empty, .int .i64 0, .int .i64 0, .int .i64 0] := by kernel_rfl
theorem fieldAt69_0 : fieldAt Try.prog 69 0 = some (0, 9) := by kernel_rfl
theorem fieldAt69_1 : fieldAt Try.prog 69 1 = some (1, 9) := by kernel_rfl
theorem fieldAt69_2 : fieldAt Try.prog 69 2 = some (2, 3) := by kernel_rfl
theorem fieldAt69_3 : fieldAt Try.prog 69 3 = some (3, 3) := by kernel_rfl
theorem fieldAt69_4 : fieldAt Try.prog 69 4 = some (4, 3) := by kernel_rfl
theorem tsize72 : tsize Try.prog 72 = some 1 := by kernel_rfl
theorem tbytes72 : tbytes Try.prog 72 = some 24 := by kernel_rfl
theorem tagg72 : tagg Try.prog 72 = some false := by kernel_rfl
theorem telem72 : telem Try.prog 72 = some 41 := by kernel_rfl
theorem slZ72 : slZ Try.prog 72 = some 1 := by kernel_rfl
theorem zcells72 : zcells Try.prog 72 = some [.nils] := by kernel_rfl
theorem tsize81 : tsize Try.prog 81 = some 5 := by kernel_rfl
theorem tbytes81 : tbytes Try.prog 81 = some 56 := by kernel_rfl
theorem tagg81 : tagg Try.prog 81 = some true := by kernel_rfl
theorem zcells81 : zcells Try.prog 81 = some [.str ByteArray.empty, .str ByteArray.empty, .str ByteArray.empty, .bool false, .bool false] := by kernel_rfl
theorem fieldAt81_0 : fieldAt Try.prog 81 0 = some (0, 9) := by kernel_rfl
theorem fieldAt81_1 : fieldAt Try.prog 81 1 = some (1, 9) := by kernel_rfl
theorem fieldAt81_2 : fieldAt Try.prog 81 2 = some (2, 9) := by kernel_rfl
theorem fieldAt81_3 : fieldAt Try.prog 81 3 = some (3, 4) := by kernel_rfl
theorem fieldAt81_4 : fieldAt Try.prog 81 4 = some (4, 4) := by kernel_rfl
theorem tsize107 : tsize Try.prog 107 = some 1 := by kernel_rfl
theorem tbytes107 : tbytes Try.prog 107 = some 8 := by kernel_rfl
theorem tagg107 : tagg Try.prog 107 = some false := by kernel_rfl
theorem strMap107 : strMap Try.prog 107 = some 4 := by kernel_rfl
theorem zcells107 : zcells Try.prog 107 = some [.nilm] := by kernel_rfl
theorem tsize109 : tsize Try.prog 109 = some 2 := by kernel_rfl
theorem tbytes109 : tbytes Try.prog 109 = some 32 := by kernel_rfl
theorem tagg109 : tagg Try.prog 109 = some true := by kernel_rfl
theorem zcells109 : zcells Try.prog 109 = some [.nilm, .nils] := by kernel_rfl
theorem fieldAt109_0 : fieldAt Try.prog 109 0 = some (0, 107) := by kernel_rfl
theorem fieldAt109_1 : fieldAt Try.prog 109 1 = some (1, 41) := by kernel_rfl
theorem tsize112 : tsize Try.prog 112 = some 1 := by kernel_rfl
theorem tbytes112 : tbytes Try.prog 112 = some 24 := by kernel_rfl
theorem tagg112 : tagg Try.prog 112 = some false := by kernel_rfl
theorem telem112 : telem Try.prog 112 = some 115 := by kernel_rfl
theorem slZ112 : slZ Try.prog 112 = some 4 := by kernel_rfl
theorem zcells112 : zcells Try.prog 112 = some [.nils] := by kernel_rfl
theorem tsize115 : tsize Try.prog 115 = some 4 := by kernel_rfl
theorem tbytes115 : tbytes Try.prog 115 = some 48 := by kernel_rfl
theorem tagg115 : tagg Try.prog 115 = some true := by kernel_rfl
theorem zcells115 : zcells Try.prog 115 = some [.str ByteArray.empty, .nils, .bool false, .bool false] := by kernel_rfl
theorem fieldAt115_0 : fieldAt Try.prog 115 0 = some (0, 9) := by kernel_rfl
theorem fieldAt115_1 : fieldAt Try.prog 115 1 = some (1, 41) := by kernel_rfl
theorem fieldAt115_2 : fieldAt Try.prog 115 2 = some (2, 4) := by kernel_rfl
theorem fieldAt115_3 : fieldAt Try.prog 115 3 = some (3, 4) := by kernel_rfl
theorem tsize116 : tsize Try.prog 116 = some 1 := by kernel_rfl
theorem tbytes116 : tbytes Try.prog 116 = some 24 := by kernel_rfl
theorem tagg116 : tagg Try.prog 116 = some false := by kernel_rfl
theorem telem116 : telem Try.prog 116 = some 5 := by kernel_rfl
theorem slZ116 : slZ Try.prog 116 = some 1 := by kernel_rfl
theorem zcells116 : zcells Try.prog 116 = some [.nils] := by kernel_rfl
theorem tsize139 : tsize Try.prog 139 = some 3 := by kernel_rfl
theorem tbytes139 : tbytes Try.prog 139 = some 40 := by kernel_rfl
theorem tagg139 : tagg Try.prog 139 = some true := by kernel_rfl
theorem zcells139 : zcells Try.prog 139 = some [.str ByteArray.empty, .str ByteArray.empty, .int .i64 0] := by kernel_rfl
theorem fieldAt139_0 : fieldAt Try.prog 139 0 = some (0, 9) := by kernel_rfl
theorem fieldAt139_1 : fieldAt Try.prog 139 1 = some (1, 9) := by kernel_rfl
theorem fieldAt139_2 : fieldAt Try.prog 139 2 = some (2, 3) := by kernel_rfl
end Go.Proofs.Ytcclbkkgpcpikaa
