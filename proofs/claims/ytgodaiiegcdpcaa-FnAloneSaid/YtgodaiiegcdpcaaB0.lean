/- The program's functions, told in that language, and what each of them answers; each theorem bears its own conditions. -/
import Derived.Test.YtgodaiiegcdpcaaA2
import Derived.Test.YtgodaiiegcdpcaaProg
import Derived.Test.YtgodaiiegcdpcaaChecked
section
set_option linter.unusedVariables false
set_option linter.unusedSimpArgs false
namespace Go.Proofs.Ytgodaiiegcdpcaa.Abs.MC
open Go.Proofs.Ytgodaiiegcdpcaa.Abs
set_option maxRecDepth 100000
/-- laws.FnLock -/
def a3 : AFn := ⟨1, [.tmp 2],
  .seq (.reg [⟨0, some 2, none, .mov (.k (.bool false))⟩])
  (.seq (.seq (.reg [⟨0, some 13, none, .mov (.t 0)⟩,
    ⟨1, some 14, none, .call 10 [(.im, (.t 13))]⟩])
  (.cond (.t 14) (.seq (.reg [⟨0, some 2, none, .mov (.k (.bool true))⟩])
  (.ret)) (.skip)))
  (.seq (.reg [⟨0, some 15, none, .build [.int .i64 0, .int .i64 0, .int .i64 0, .int .i64 0, .int .i64 0] [(0, 1, (.k (.int .i64 1))), (1, 1, (.k (.int .i64 7))), (4, 1, (.k (.int .i64 1)))]⟩,
    ⟨1, some 16, none, .build [.int .i64 0, .int .i64 0, .int .i64 0, .int .i64 0, .int .i64 0] [(0, 1, (.k (.int .i64 8))), (1, 1, (.k (.int .i64 6))), (3, 1, (.k (.int .i64 7))), (4, 1, (.k (.int .i64 0)))]⟩,
    ⟨2, some 17, none, .build [.int .i64 0, .int .i64 0, .int .i64 0, .int .i64 0, .int .i64 0] [(0, 1, (.k (.int .i64 11))), (2, 1, (.k (.int .i64 6))), (4, 1, (.k (.int .i64 4)))]⟩,
    ⟨3, some 18, none, .build [.int .i64 0, .int .i64 0, .int .i64 0, .int .i64 0, .int .i64 0] [(0, 1, (.k (.int .i64 10)))]⟩,
    ⟨4, some 19, none, .build [.int .i64 0, .int .i64 0, .int .i64 0, .int .i64 0, .int .i64 0] [(0, 1, (.k (.int .i64 5))), (1, 1, (.k (.int .i64 5))), (2, 1, (.k (.int .i64 (-1)))), (4, 1, (.k (.int .i64 1)))]⟩,
    ⟨5, some 20, none, .build [.int .i64 0, .int .i64 0, .int .i64 0, .int .i64 0, .int .i64 0] [(0, 1, (.k (.int .i64 2))), (1, 1, (.k (.int .i64 5))), (2, 1, (.k (.int .i64 5))), (3, 1, (.k (.int .i64 7)))]⟩,
    ⟨6, some 21, none, .build [.int .i64 0, .int .i64 0, .int .i64 0, .int .i64 0, .int .i64 0] [(0, 1, (.k (.int .i64 6))), (2, 1, (.k (.int .i64 (-1)))), (3, 1, (.k (.int .i64 5))), (4, 1, (.k (.int .i64 1)))]⟩,
    ⟨7, some 22, none, .build [.int .i64 0, .int .i64 0, .int .i64 0, .int .i64 0, .int .i64 0] [(0, 1, (.k (.int .i64 1))), (1, 1, (.k (.int .i64 7)))]⟩,
    ⟨8, some 23, none, .build [.int .i64 0, .int .i64 0, .int .i64 0, .int .i64 0, .int .i64 0] [(0, 1, (.k (.int .i64 7))), (2, 1, (.k (.int .i64 (-1)))), (3, 1, (.k (.int .i64 7))), (4, 1, (.k (.int .i64 0)))]⟩,
    ⟨9, some 24, none, .build [.int .i64 0, .int .i64 0, .int .i64 0, .int .i64 0, .int .i64 0] [(0, 1, (.k (.int .i64 12)))]⟩,
    ⟨10, some 25, none, .bslice 5 10 [.int .i64 0, .int .i64 0, .int .i64 0, .int .i64 0, .int .i64 0] [(0, 5, (.t 15)), (5, 5, (.t 16)), (10, 5, (.t 17)), (15, 5, (.t 18)), (20, 5, (.t 19)), (25, 5, (.t 20)), (30, 5, (.t 21)), (35, 5, (.t 22)), (40, 5, (.t 23)), (45, 5, (.t 24))]⟩,
    ⟨11, some 3, none, .mov (.t 25)⟩])
  (.seq (.reg [⟨0, some 27, none, .mov (.t 3)⟩,
    ⟨1, some 28, none, .mov (.t 3)⟩,
    ⟨2, some 29, none, .mov (.t 3)⟩,
    ⟨3, some 30, none, .bslice 1 3 [.nils] [(0, 1, (.t 27)), (1, 1, (.t 28)), (2, 1, (.t 29))]⟩,
    ⟨4, some 31, none, .call 11 [(.im, (.t 30))]⟩,
    ⟨5, some 26, none, .mov (.t 31)⟩,
    ⟨6, some 32, none, .ext (.t 26) 0⟩,
    ⟨7, some 33, none, .ext (.t 26) 1⟩,
    ⟨8, some 4, none, .alloc [.nils, .nils, .nils, .nils]⟩,
    ⟨9, none, none, .store (.t 4) (.t 32) 4⟩,
    ⟨10, some 5, none, .mov (.t 33)⟩])
  (.seq (.reg [⟨0, some 35, none, .mov (.t 3)⟩,
    ⟨1, some 36, none, .mov (.t 3)⟩,
    ⟨2, some 37, none, .mov (.t 3)⟩,
    ⟨3, some 38, none, .bslice 1 3 [.nils] [(0, 1, (.t 35)), (1, 1, (.t 36)), (2, 1, (.t 37))]⟩,
    ⟨4, some 39, none, .call 12 [(.im, (.t 38))]⟩,
    ⟨5, some 34, none, .mov (.t 39)⟩,
    ⟨6, some 40, none, .ext (.t 34) 0⟩,
    ⟨7, some 41, none, .ext (.t 34) 1⟩,
    ⟨8, some 6, none, .alloc [.nils, .nils, .nils, .nils]⟩,
    ⟨9, none, none, .store (.t 6) (.t 40) 4⟩,
    ⟨10, some 7, none, .mov (.t 41)⟩])
  (.seq (.seq (.reg [⟨0, some 42, none, .mov (.t 5)⟩,
    ⟨1, some 43, none, .un .not (.t 42)⟩,
    ⟨2, some 44, none, .mov (.t 43)⟩,
    ⟨3, some 45, (some (44, false)), .mov (.t 7)⟩,
    ⟨4, some 46, (some (44, false)), .un .not (.t 45)⟩,
    ⟨5, some 47, none, .pick (.t 44) (.k (.bool true)) (.t 46)⟩])
  (.cond (.t 47) (.seq (.reg [⟨0, some 2, none, .mov (.k (.bool false))⟩])
  (.ret)) (.skip)))
  (.seq (.reg [⟨0, some 48, none, .bslice 2 0 [.int .i64 0, .int .i64 0] []⟩,
    ⟨1, some 8, none, .mov (.t 48)⟩])
  (.seq (.seq (.reg [⟨0, some 9, none, .mov (.k (.int .i64 0))⟩])
  (.block 0 (.loop (.seq (.seq (.reg [⟨0, some 49, none, .mov (.t 9)⟩,
    ⟨1, some 50, none, .bin .lss (.t 49) (.k (.int .i64 200))⟩])
  (.cond (.t 50) (.skip) (.exit 0)))
  (.seq (.block 1 (.reg [⟨0, some 53, none, .mov (.t 8)⟩,
    ⟨1, some 54, none, .mov (.t 0)⟩,
    ⟨2, some 55, none, .mov (.t 9)⟩,
    ⟨3, some 56, none, .call 13 [(.im, (.t 54)), (.im, (.t 55))]⟩,
    ⟨4, some 57, none, .bin .rem (.t 56) (.k (.int .i64 3))⟩,
    ⟨5, some 58, none, .mov (.t 0)⟩,
    ⟨6, some 59, none, .mov (.t 9)⟩,
    ⟨7, some 60, none, .bin .add (.t 59) (.k (.int .i64 1))⟩,
    ⟨8, some 61, none, .call 13 [(.im, (.t 58)), (.im, (.t 60))]⟩,
    ⟨9, some 62, none, .bin .rem (.t 61) (.k (.int .i64 5))⟩,
    ⟨10, some 63, none, .build [.int .i64 0, .int .i64 0] [(0, 1, (.t 57)), (1, 1, (.t 62))]⟩,
    ⟨11, some 64, none, .bslice 2 1 [.int .i64 0, .int .i64 0] [(0, 2, (.t 63))]⟩,
    ⟨12, some 65, none, .app 2 16 (.t 53) (.t 64)⟩,
    ⟨13, some 8, none, .mov (.t 65)⟩]))
  (.reg [⟨0, some 51, none, .mov (.t 9)⟩,
    ⟨1, some 52, none, .bin .add (.t 51) (.k (.int .i64 1))⟩,
    ⟨2, some 9, none, .mov (.t 52)⟩]))))))
  (.seq (.seq (.reg [⟨0, some 10, none, .mov (.k (.int .i64 0))⟩])
  (.block 2 (.loop (.seq (.seq (.reg [⟨0, some 66, none, .mov (.t 10)⟩,
    ⟨1, some 67, none, .bin .lss (.t 66) (.k (.int .i64 210))⟩])
  (.cond (.t 67) (.skip) (.exit 2)))
  (.seq (.block 3 (.reg [⟨0, some 70, none, .mov (.t 8)⟩,
    ⟨1, some 71, none, .mov (.t 10)⟩,
    ⟨2, some 72, none, .bin .rem (.t 71) (.k (.int .i64 3))⟩,
    ⟨3, some 73, none, .mov (.t 0)⟩,
    ⟨4, some 74, none, .mov (.t 10)⟩,
    ⟨5, some 75, none, .call 13 [(.im, (.t 73)), (.im, (.t 74))]⟩,
    ⟨6, some 76, none, .bin .rem (.t 75) (.k (.int .i64 5))⟩,
    ⟨7, some 77, none, .build [.int .i64 0, .int .i64 0] [(0, 1, (.t 72)), (1, 1, (.t 76))]⟩,
    ⟨8, some 78, none, .bslice 2 1 [.int .i64 0, .int .i64 0] [(0, 2, (.t 77))]⟩,
    ⟨9, some 79, none, .app 2 16 (.t 70) (.t 78)⟩,
    ⟨10, some 8, none, .mov (.t 79)⟩]))
  (.reg [⟨0, some 68, none, .mov (.t 10)⟩,
    ⟨1, some 69, none, .bin .add (.t 68) (.k (.int .i64 1))⟩,
    ⟨2, some 10, none, .mov (.t 69)⟩]))))))
  (.seq (.reg [⟨0, some 81, none, .load (.t 4) 4 true⟩,
    ⟨1, some 82, none, .mov (.t 8)⟩,
    ⟨2, some 83, none, .call 14 [(.im, (.t 81)), (.im, (.t 82))]⟩,
    ⟨3, some 80, none, .mov (.t 83)⟩,
    ⟨4, some 84, none, .ext (.t 80) 0⟩,
    ⟨5, some 85, none, .ext (.t 80) 1⟩,
    ⟨6, none, none, .store (.t 4) (.t 84) 4⟩,
    ⟨7, some 11, none, .mov (.t 85)⟩])
  (.seq (.reg [⟨0, some 86, none, .fa (.t 4) 2⟩,
    ⟨1, some 87, none, .fa (.t 86) 0⟩,
    ⟨2, some 88, none, .load (.t 87) 1 false⟩,
    ⟨3, some 89, none, .ix (.t 88) (.k (.int .i64 1)) 1⟩,
    ⟨4, some 90, none, .load (.t 89) 1 false⟩,
    ⟨5, some 12, none, .mov (.t 90)⟩])
  (.seq (.reg [⟨0, some 91, none, .mov (.t 11)⟩,
    ⟨1, some 92, none, .len (.t 91)⟩,
    ⟨2, some 93, none, .mov (.t 8)⟩,
    ⟨3, some 94, none, .len (.t 93)⟩,
    ⟨4, some 95, none, .bin .eql (.t 92) (.t 94)⟩,
    ⟨5, some 96, none, .mov (.t 95)⟩,
    ⟨6, some 97, (some (96, true)), .fa (.t 4) 1⟩,
    ⟨7, some 98, (some (96, true)), .load (.t 97) 1 false⟩,
    ⟨8, some 99, (some (96, true)), .ix (.t 98) (.k (.int .i64 0)) 4⟩,
    ⟨9, some 100, (some (96, true)), .fa (.t 99) 3⟩,
    ⟨10, some 101, (some (96, true)), .load (.t 100) 1 false⟩,
    ⟨11, some 102, (some (96, true)), .bin .eql (.t 101) (.k (.int .i64 1))⟩,
    ⟨12, some 103, none, .pick (.t 96) (.t 102) (.k (.bool false))⟩,
    ⟨13, some 104, none, .mov (.t 103)⟩,
    ⟨14, some 105, (some (104, true)), .fa (.t 4) 1⟩,
    ⟨15, some 106, (some (104, true)), .load (.t 105) 1 false⟩,
    ⟨16, some 107, (some (104, true)), .ix (.t 106) (.k (.int .i64 1)) 4⟩,
    ⟨17, some 108, (some (104, true)), .fa (.t 107) 3⟩,
    ⟨18, some 109, (some (104, true)), .load (.t 108) 1 false⟩,
    ⟨19, some 110, (some (104, true)), .bin .eql (.t 109) (.k (.int .i64 1))⟩,
    ⟨20, some 111, none, .pick (.t 104) (.t 110) (.k (.bool false))⟩,
    ⟨21, some 112, none, .mov (.t 111)⟩,
    ⟨22, some 113, (some (112, true)), .fa (.t 4) 1⟩,
    ⟨23, some 114, (some (112, true)), .load (.t 113) 1 false⟩,
    ⟨24, some 115, (some (112, true)), .ix (.t 114) (.k (.int .i64 2)) 4⟩,
    ⟨25, some 116, (some (112, true)), .fa (.t 115) 3⟩,
    ⟨26, some 117, (some (112, true)), .load (.t 116) 1 false⟩,
    ⟨27, some 118, (some (112, true)), .bin .eql (.t 117) (.k (.int .i64 1))⟩,
    ⟨28, some 119, none, .pick (.t 112) (.t 118) (.k (.bool false))⟩,
    ⟨29, some 120, none, .mov (.t 119)⟩,
    ⟨30, some 121, (some (120, true)), .mov (.t 12)⟩,
    ⟨31, some 122, (some (120, true)), .mov (.t 12)⟩,
    ⟨32, some 123, (some (120, true)), .len (.t 122)⟩,
    ⟨33, some 124, (some (120, true)), .bin .sub (.t 123) (.k (.int .i64 1))⟩,
    ⟨34, some 125, (some (120, true)), .ix (.t 121) (.t 124) 2⟩,
    ⟨35, some 126, (some (120, true)), .fa (.t 125) 0⟩,
    ⟨36, some 127, (some (120, true)), .load (.t 126) 1 false⟩,
    ⟨37, some 128, (some (120, true)), .bin .eql (.t 127) (.k (.int .i64 3))⟩,
    ⟨38, some 129, none, .pick (.t 120) (.t 128) (.k (.bool false))⟩,
    ⟨39, some 2, none, .mov (.t 129)⟩])
  (.ret))))))))))))⟩
/-- laws.FnMachine -/
def a5 : AFn := ⟨1, [.tmp 2],
  .seq (.reg [⟨0, some 2, none, .mov (.k (.bool false))⟩])
  (.seq (.seq (.reg [⟨0, some 12, none, .mov (.t 0)⟩,
    ⟨1, some 13, none, .call 10 [(.im, (.t 12))]⟩])
  (.cond (.t 13) (.seq (.reg [⟨0, some 2, none, .mov (.k (.bool true))⟩])
  (.ret)) (.skip)))
  (.seq (.reg [⟨0, some 15, none, .mov (.t 0)⟩,
    ⟨1, some 16, none, .call 19 [(.im, (.t 15))]⟩,
    ⟨2, some 14, none, .mov (.t 16)⟩,
    ⟨3, some 17, none, .ext (.t 14) 0⟩,
    ⟨4, some 18, none, .ext (.t 14) 1⟩,
    ⟨5, some 3, none, .alloc [.nils, .nils, .nils, .nils]⟩,
    ⟨6, some 4, none, .alloc [.int .i64 0, .int .i64 0]⟩,
    ⟨7, none, none, .store (.t 3) (.t 17) 4⟩,
    ⟨8, none, none, .store (.t 4) (.t 18) 2⟩])
  (.seq (.reg [⟨0, some 20, none, .load (.t 3) 4 true⟩,
    ⟨1, some 21, none, .load (.t 4) 2 true⟩,
    ⟨2, some 22, none, .call 20 [(.im, (.t 20)), (.im, (.t 21))]⟩,
    ⟨3, some 19, none, .mov (.t 22)⟩,
    ⟨4, some 23, none, .ext (.t 19) 0⟩,
    ⟨5, some 24, none, .ext (.t 19) 1⟩,
    ⟨6, some 5, none, .alloc [.nils, .nils, .nils, .nils]⟩,
    ⟨7, none, none, .store (.t 5) (.t 23) 4⟩,
    ⟨8, some 6, none, .mov (.t 24)⟩])
  (.seq (.reg [⟨0, some 26, none, .load (.t 3) 4 true⟩,
    ⟨1, some 27, none, .load (.t 4) 2 true⟩,
    ⟨2, some 28, none, .call 21 [(.im, (.t 26)), (.im, (.t 27))]⟩,
    ⟨3, some 25, none, .mov (.t 28)⟩,
    ⟨4, some 29, none, .ext (.t 25) 0⟩,
    ⟨5, some 30, none, .ext (.t 25) 1⟩,
    ⟨6, some 7, none, .alloc [.nils, .nils, .nils, .nils]⟩,
    ⟨7, none, none, .store (.t 7) (.t 29) 4⟩,
    ⟨8, some 8, none, .mov (.t 30)⟩])
  (.seq (.seq (.dreg [⟨0, some 31, none, .mov (.t 6)⟩,
    ⟨1, some 32, none, .mov (.t 8)⟩,
    ⟨2, some 33, none, .bin .neq (.t 31) (.t 32)⟩,
    ⟨3, some 34, none, .mov (.t 33)⟩,
    ⟨4, some 35, (some (34, false)), .mov (.t 6)⟩,
    ⟨5, some 36, (some (34, false)), .bin .eql (.t 35) (.k (.int .i64 0))⟩,
    ⟨6, some 37, (some (34, false)), .mov (.t 36)⟩,
    ⟨7, some 38, (some (37, true)), .load (.t 5) 4 true⟩,
    ⟨8, some 39, (some (37, true)), .load (.t 7) 4 true⟩,
    ⟨9, some 40, (some (37, true)), .call 22 [(.im, (.t 38)), (.im, (.t 39))]⟩,
    ⟨10, some 41, (some (37, true)), .un .not (.t 40)⟩,
    ⟨11, some 42, (some (34, false)), .pick (.t 37) (.t 41) (.k (.bool false))⟩,
    ⟨12, some 43, none, .pick (.t 34) (.k (.bool true)) (.t 42)⟩,
    ⟨13, some 44, none, .mov (.t 43)⟩,
    ⟨14, some 45, (some (44, false)), .load (.t 3) 4 true⟩,
    ⟨16, some 47, (some (44, false)), .load (.t 3) 4 true⟩,
    ⟨15, some 46, (some (44, false)), .call 23 [(.im, (.t 45))]⟩,
    ⟨17, some 48, (some (44, false)), .call 24 [(.im, (.t 47))]⟩,
    ⟨18, some 49, (some (44, false)), .eqb true (.t 46) (.t 48)⟩,
    ⟨19, some 50, none, .pick (.t 44) (.k (.bool true)) (.t 49)⟩] [(15, 17)])
  (.cond (.t 50) (.seq (.reg [⟨0, some 2, none, .mov (.k (.bool false))⟩])
  (.ret)) (.skip)))
  (.seq (.seq (.reg [⟨0, some 51, none, .mov (.t 6)⟩,
    ⟨1, some 52, none, .bin .eql (.t 51) (.k (.int .i64 1))⟩])
  (.cond (.t 52) (.seq (.reg [⟨0, some 53, none, .fa (.t 5) 1⟩,
    ⟨1, some 54, none, .load (.t 53) 1 false⟩,
    ⟨2, some 55, none, .len (.t 54)⟩,
    ⟨3, some 56, none, .bin .eql (.t 55) (.k (.int .i64 0))⟩,
    ⟨4, some 2, none, .mov (.t 56)⟩])
  (.ret)) (.skip)))
  (.seq (.seq (.reg [⟨0, some 57, none, .mov (.t 6)⟩,
    ⟨1, some 58, none, .bin .neq (.t 57) (.k (.int .i64 0))⟩])
  (.cond (.t 58) (.seq (.reg [⟨0, some 59, none, .load (.t 3) 4 true⟩,
    ⟨1, some 60, none, .load (.t 5) 4 true⟩,
    ⟨2, some 61, none, .call 22 [(.im, (.t 59)), (.im, (.t 60))]⟩,
    ⟨3, some 2, none, .mov (.t 61)⟩])
  (.ret)) (.skip)))
  (.seq (.seq (.reg [⟨0, some 9, none, .mov (.k (.int .i64 0))⟩])
  (.block 0 (.loop (.seq (.seq (.reg [⟨0, some 62, none, .mov (.t 9)⟩,
    ⟨1, some 63, none, .fa (.t 3) 1⟩,
    ⟨2, some 64, none, .load (.t 63) 1 false⟩,
    ⟨3, some 65, none, .len (.t 64)⟩,
    ⟨4, some 66, none, .bin .lss (.t 62) (.t 65)⟩])
  (.cond (.t 66) (.skip) (.exit 0)))
  (.seq (.block 1 (.seq (.dreg [⟨0, some 69, none, .fa (.t 3) 1⟩,
    ⟨1, some 70, none, .load (.t 69) 1 false⟩,
    ⟨2, some 71, none, .mov (.t 9)⟩,
    ⟨3, some 72, none, .ix (.t 70) (.t 71) 4⟩,
    ⟨4, some 73, none, .load (.t 72) 4 true⟩,
    ⟨5, some 74, none, .fa (.t 5) 1⟩,
    ⟨6, some 75, none, .load (.t 74) 1 false⟩,
    ⟨7, some 76, none, .mov (.t 9)⟩,
    ⟨8, some 77, none, .ix (.t 75) (.t 76) 4⟩,
    ⟨9, some 78, none, .load (.t 77) 4 true⟩,
    ⟨10, some 10, none, .alloc [.int .i64 0, .nils, .nils, .int .i64 0]⟩,
    ⟨11, some 11, none, .alloc [.int .i64 0, .nils, .nils, .int .i64 0]⟩,
    ⟨12, none, none, .store (.t 10) (.t 73) 4⟩,
    ⟨13, none, none, .store (.t 11) (.t 78) 4⟩] [(1, 12), (4, 12), (6, 12), (6, 13), (9, 12), (9, 13)])
  (.seq (.reg [⟨0, some 79, none, .mov (.t 9)⟩,
    ⟨1, some 80, none, .fa (.t 4) 0⟩,
    ⟨2, some 81, none, .load (.t 80) 1 false⟩,
    ⟨3, some 82, none, .bin .neq (.t 79) (.t 81)⟩,
    ⟨4, some 83, none, .mov (.t 82)⟩,
    ⟨5, some 84, (some (83, true)), .fa (.t 10) 0⟩,
    ⟨6, some 85, (some (83, true)), .load (.t 84) 1 false⟩,
    ⟨7, some 86, (some (83, true)), .fa (.t 11) 0⟩,
    ⟨8, some 87, (some (83, true)), .load (.t 86) 1 false⟩,
    ⟨9, some 88, (some (83, true)), .bin .neq (.t 85) (.t 87)⟩,
    ⟨10, some 89, (some (83, true)), .mov (.t 88)⟩,
    ⟨11, some 90, (some (89, false)), .fa (.t 10) 3⟩,
    ⟨12, some 91, (some (89, false)), .load (.t 90) 1 false⟩,
    ⟨13, some 92, (some (89, false)), .fa (.t 11) 3⟩,
    ⟨14, some 93, (some (89, false)), .load (.t 92) 1 false⟩,
    ⟨15, some 94, (some (89, false)), .bin .neq (.t 91) (.t 93)⟩,
    ⟨16, some 95, (some (83, true)), .pick (.t 89) (.k (.bool true)) (.t 94)⟩,
    ⟨17, some 96, (some (83, true)), .mov (.t 95)⟩,
    ⟨18, some 97, (some (96, false)), .fa (.t 10) 1⟩,
    ⟨19, some 98, (some (96, false)), .load (.t 97) 1 false⟩,
    ⟨20, some 99, (some (96, false)), .fa (.t 11) 1⟩,
    ⟨21, some 100, (some (96, false)), .load (.t 99) 1 false⟩,
    ⟨22, some 101, (some (96, false)), .call 25 [(.im, (.t 98)), (.im, (.t 100))]⟩,
    ⟨23, some 102, (some (96, false)), .un .not (.t 101)⟩,
    ⟨24, some 103, (some (83, true)), .pick (.t 96) (.k (.bool true)) (.t 102)⟩,
    ⟨25, some 104, (some (83, true)), .mov (.t 103)⟩,
    ⟨26, some 105, (some (104, false)), .fa (.t 10) 2⟩,
    ⟨27, some 106, (some (104, false)), .load (.t 105) 1 false⟩,
    ⟨28, some 107, (some (104, false)), .fa (.t 11) 2⟩,
    ⟨29, some 108, (some (104, false)), .load (.t 107) 1 false⟩,
    ⟨30, some 109, (some (104, false)), .call 25 [(.im, (.t 106)), (.im, (.t 108))]⟩,
    ⟨31, some 110, (some (104, false)), .un .not (.t 109)⟩,
    ⟨32, some 111, (some (83, true)), .pick (.t 104) (.k (.bool true)) (.t 110)⟩,
    ⟨33, some 112, none, .pick (.t 83) (.t 111) (.k (.bool false))⟩])
  (.cond (.t 112) (.seq (.reg [⟨0, some 2, none, .mov (.k (.bool false))⟩])
  (.ret)) (.skip)))))
  (.reg [⟨0, some 67, none, .mov (.t 9)⟩,
    ⟨1, some 68, none, .bin .add (.t 67) (.k (.int .i64 1))⟩,
    ⟨2, some 9, none, .mov (.t 68)⟩]))))))
  (.seq (.dreg [⟨0, some 113, none, .load (.t 5) 4 true⟩,
    ⟨1, some 114, none, .call 23 [(.im, (.t 113))]⟩,
    ⟨2, some 115, none, .mov (.t 114)⟩,
    ⟨3, some 116, (some (115, true)), .fa (.t 5) 1⟩,
    ⟨4, some 117, (some (115, true)), .load (.t 116) 1 false⟩,
    ⟨5, some 118, (some (115, true)), .fa (.t 4) 0⟩,
    ⟨6, some 119, (some (115, true)), .load (.t 118) 1 false⟩,
    ⟨7, some 120, (some (115, true)), .ix (.t 117) (.t 119) 4⟩,
    ⟨8, some 121, (some (115, true)), .fa (.t 120) 2⟩,
    ⟨9, some 122, (some (115, true)), .load (.t 121) 1 false⟩,
    ⟨10, some 123, (some (115, true)), .fa (.t 3) 1⟩,
    ⟨11, some 124, (some (115, true)), .load (.t 123) 1 false⟩,
    ⟨12, some 125, (some (115, true)), .fa (.t 4) 0⟩,
    ⟨13, some 126, (some (115, true)), .load (.t 125) 1 false⟩,
    ⟨14, some 127, (some (115, true)), .ix (.t 124) (.t 126) 4⟩,
    ⟨15, some 128, (some (115, true)), .fa (.t 127) 2⟩,
    ⟨16, some 129, (some (115, true)), .load (.t 128) 1 false⟩,
    ⟨17, some 130, (some (115, true)), .call 26 [(.im, (.t 122)), (.im, (.t 129))]⟩,
    ⟨18, some 131, none, .pick (.t 115) (.t 130) (.k (.bool false))⟩,
    ⟨19, some 2, none, .mov (.t 131)⟩] [])
  (.ret))))))))))⟩
/-- laws.FnAlone -/
def a7 : AFn := ⟨1, [.tmp 2],
  .seq (.reg [⟨0, some 2, none, .mov (.k (.bool false))⟩])
  (.seq (.seq (.reg [⟨0, some 9, none, .mov (.t 0)⟩,
    ⟨1, some 10, none, .call 10 [(.im, (.t 9))]⟩])
  (.cond (.t 10) (.seq (.reg [⟨0, some 2, none, .mov (.k (.bool true))⟩])
  (.ret)) (.skip)))
  (.seq (.reg [⟨0, some 12, none, .mov (.t 0)⟩,
    ⟨1, some 13, none, .call 35 [(.im, (.t 12))]⟩,
    ⟨2, some 11, none, .mov (.t 13)⟩,
    ⟨3, some 14, none, .ext (.t 11) 0⟩,
    ⟨4, some 15, none, .ext (.t 11) 1⟩,
    ⟨5, some 16, none, .ext (.t 11) 2⟩,
    ⟨6, some 3, none, .alloc [.nils, .nils, .nils, .nils]⟩,
    ⟨7, none, none, .store (.t 3) (.t 14) 4⟩,
    ⟨8, some 4, none, .mov (.t 15)⟩,
    ⟨9, some 5, none, .mov (.t 16)⟩])
  (.seq (.reg [⟨0, some 17, none, .load (.t 3) 4 true⟩,
    ⟨1, some 18, none, .mov (.t 4)⟩,
    ⟨2, some 19, none, .mov (.t 5)⟩,
    ⟨3, some 20, none, .call 36 [(.im, (.t 17)), (.im, (.t 18)), (.im, (.t 19))]⟩,
    ⟨4, some 6, none, .alloc [.nils, .nils, .nils, .nils]⟩,
    ⟨5, none, none, .store (.t 6) (.t 20) 4⟩])
  (.seq (.seq (.dreg [⟨0, some 21, none, .load (.t 6) 4 true⟩,
    ⟨1, some 22, none, .load (.t 3) 4 true⟩,
    ⟨2, some 23, none, .mov (.t 4)⟩,
    ⟨3, some 24, none, .mov (.t 5)⟩,
    ⟨4, some 25, none, .call 37 [(.im, (.t 22)), (.im, (.t 23)), (.im, (.t 24))]⟩,
    ⟨5, some 26, none, .call 22 [(.im, (.t 21)), (.im, (.t 25))]⟩,
    ⟨6, some 27, none, .un .not (.t 26)⟩] [(0, 5)])
  (.cond (.t 27) (.seq (.reg [⟨0, some 2, none, .mov (.k (.bool false))⟩])
  (.ret)) (.skip)))
  (.seq (.seq (.reg [⟨0, some 28, none, .load (.t 3) 4 true⟩,
    ⟨1, some 29, none, .call 24 [(.im, (.t 28))]⟩,
    ⟨2, some 30, none, .un .not (.t 29)⟩])
  (.cond (.t 30) (.seq (.reg [⟨0, some 31, none, .fa (.t 6) 1⟩,
    ⟨1, some 32, none, .load (.t 31) 1 false⟩,
    ⟨2, some 33, none, .len (.t 32)⟩,
    ⟨3, some 34, none, .bin .eql (.t 33) (.k (.int .i64 0))⟩,
    ⟨4, some 2, none, .mov (.t 34)⟩])
  (.ret)) (.skip)))
  (.seq (.reg [⟨0, some 7, none, .mov (.k (.int .i64 0))⟩])
  (.seq (.seq (.reg [⟨0, some 35, none, .mov (.t 5)⟩,
    ⟨1, some 36, none, .bin .gtr (.t 35) (.k (.int .i64 0))⟩])
  (.cond (.t 36) (.reg [⟨0, some 37, none, .mov (.t 0)⟩,
    ⟨1, some 38, none, .call 13 [(.im, (.t 37)), (.im, (.k (.int .i64 1)))]⟩,
    ⟨2, some 39, none, .mov (.t 5)⟩,
    ⟨3, some 40, none, .bin .add (.t 39) (.k (.int .i64 1))⟩,
    ⟨4, some 41, none, .bin .rem (.t 38) (.t 40)⟩,
    ⟨5, some 7, none, .mov (.t 41)⟩]) (.skip)))
  (.seq (.seq (.reg [⟨0, some 8, none, .mov (.k (.int .i64 0))⟩])
  (.block 0 (.loop (.seq (.seq (.reg [⟨0, some 42, none, .mov (.t 8)⟩,
    ⟨1, some 43, none, .fa (.t 3) 1⟩,
    ⟨2, some 44, none, .load (.t 43) 1 false⟩,
    ⟨3, some 45, none, .len (.t 44)⟩,
    ⟨4, some 46, none, .bin .lss (.t 42) (.t 45)⟩])
  (.cond (.t 46) (.skip) (.exit 0)))
  (.seq (.block 1 (.seq (.dreg [⟨0, some 49, none, .mov (.t 8)⟩,
    ⟨1, some 50, none, .mov (.t 4)⟩,
    ⟨2, some 51, none, .bin .neq (.t 49) (.t 50)⟩,
    ⟨3, some 52, none, .mov (.t 51)⟩,
    ⟨4, some 53, (some (52, true)), .fa (.t 3) 1⟩,
    ⟨5, some 54, (some (52, true)), .load (.t 53) 1 false⟩,
    ⟨6, some 55, (some (52, true)), .mov (.t 8)⟩,
    ⟨7, some 56, (some (52, true)), .ix (.t 54) (.t 55) 4⟩,
    ⟨8, some 57, (some (52, true)), .fa (.t 56) 1⟩,
    ⟨9, some 58, (some (52, true)), .load (.t 57) 1 false⟩,
    ⟨10, some 59, (some (52, true)), .fa (.t 6) 1⟩,
    ⟨11, some 60, (some (52, true)), .load (.t 59) 1 false⟩,
    ⟨12, some 61, (some (52, true)), .mov (.t 8)⟩,
    ⟨13, some 62, (some (52, true)), .ix (.t 60) (.t 61) 4⟩,
    ⟨14, some 63, (some (52, true)), .fa (.t 62) 1⟩,
    ⟨15, some 64, (some (52, true)), .load (.t 63) 1 false⟩,
    ⟨16, some 65, (some (52, true)), .call 25 [(.im, (.t 58)), (.im, (.t 64))]⟩,
    ⟨17, some 66, (some (52, true)), .un .not (.t 65)⟩,
    ⟨18, some 67, none, .pick (.t 52) (.t 66) (.k (.bool false))⟩] [])
  (.cond (.t 67) (.seq (.reg [⟨0, some 2, none, .mov (.k (.bool false))⟩])
  (.ret)) (.skip))))
  (.reg [⟨0, some 47, none, .mov (.t 8)⟩,
    ⟨1, some 48, none, .bin .add (.t 47) (.k (.int .i64 1))⟩,
    ⟨2, some 8, none, .mov (.t 48)⟩]))))))
  (.seq (.dreg [⟨0, some 68, none, .load (.t 3) 4 true⟩,
    ⟨1, some 69, none, .mov (.t 4)⟩,
    ⟨2, some 70, none, .mov (.t 7)⟩,
    ⟨4, some 72, none, .mov (.t 4)⟩,
    ⟨5, some 73, none, .mov (.t 5)⟩,
    ⟨6, some 74, none, .mov (.t 7)⟩,
    ⟨7, some 75, none, .bin .sub (.t 73) (.t 74)⟩,
    ⟨9, some 77, none, .load (.t 6) 4 true⟩,
    ⟨3, some 71, none, .call 36 [(.im, (.t 68)), (.im, (.t 69)), (.im, (.t 70))]⟩,
    ⟨8, some 76, none, .call 36 [(.im, (.t 71)), (.im, (.t 72)), (.im, (.t 75))]⟩,
    ⟨10, some 78, none, .call 22 [(.im, (.t 76)), (.im, (.t 77))]⟩,
    ⟨11, some 79, none, .mov (.t 78)⟩,
    ⟨12, some 80, (some (79, true)), .load (.t 6) 4 true⟩,
    ⟨13, some 81, (some (79, true)), .call 23 [(.im, (.t 80))]⟩,
    ⟨14, some 82, none, .pick (.t 79) (.t 81) (.k (.bool false))⟩,
    ⟨15, some 2, none, .mov (.t 82)⟩] [(7, 9), (7, 10)])
  (.ret))))))))))⟩
/-- laws.FnMachineRun -/
def a8 : AFn := ⟨1, [.tmp 2],
  .seq (.reg [⟨0, some 2, none, .mov (.k (.bool false))⟩])
  (.seq (.seq (.reg [⟨0, some 19, none, .mov (.t 0)⟩,
    ⟨1, some 20, none, .call 10 [(.im, (.t 19))]⟩])
  (.cond (.t 20) (.seq (.reg [⟨0, some 2, none, .mov (.k (.bool true))⟩])
  (.ret)) (.skip)))
  (.seq (.reg [⟨0, some 22, none, .mov (.t 0)⟩,
    ⟨1, some 23, none, .call 38 [(.im, (.t 22))]⟩,
    ⟨2, some 21, none, .mov (.t 23)⟩,
    ⟨3, some 24, none, .ext (.t 21) 0⟩,
    ⟨4, some 25, none, .ext (.t 21) 1⟩,
    ⟨5, some 3, none, .alloc [.nils, .nils, .nils, .nils]⟩,
    ⟨6, none, none, .store (.t 3) (.t 24) 4⟩,
    ⟨7, some 4, none, .mov (.t 25)⟩])
  (.seq (.reg [⟨0, some 27, none, .load (.t 3) 4 true⟩,
    ⟨1, some 28, none, .mov (.t 4)⟩,
    ⟨2, some 29, none, .call 14 [(.im, (.t 27)), (.im, (.t 28))]⟩,
    ⟨3, some 26, none, .mov (.t 29)⟩,
    ⟨4, some 30, none, .ext (.t 26) 0⟩,
    ⟨5, some 31, none, .ext (.t 26) 1⟩,
    ⟨6, some 5, none, .alloc [.nils, .nils, .nils, .nils]⟩,
    ⟨7, none, none, .store (.t 5) (.t 30) 4⟩,
    ⟨8, some 6, none, .mov (.t 31)⟩])
  (.seq (.reg [⟨0, some 33, none, .load (.t 3) 4 true⟩,
    ⟨1, some 34, none, .mov (.t 4)⟩,
    ⟨2, some 35, none, .call 39 [(.im, (.t 33)), (.im, (.t 34))]⟩,
    ⟨3, some 32, none, .mov (.t 35)⟩,
    ⟨4, some 36, none, .ext (.t 32) 0⟩,
    ⟨5, some 37, none, .ext (.t 32) 1⟩,
    ⟨6, some 7, none, .alloc [.nils, .nils, .nils, .nils]⟩,
    ⟨7, none, none, .store (.t 7) (.t 36) 4⟩,
    ⟨8, some 8, none, .mov (.t 37)⟩])
  (.seq (.seq (.reg [⟨0, some 38, none, .mov (.t 6)⟩,
    ⟨1, some 39, none, .mov (.t 8)⟩,
    ⟨2, some 40, none, .call 25 [(.im, (.t 38)), (.im, (.t 39))]⟩,
    ⟨3, some 41, none, .un .not (.t 40)⟩])
  (.cond (.t 41) (.seq (.reg [⟨0, some 2, none, .mov (.k (.bool false))⟩])
  (.ret)) (.skip)))
  (.seq (.reg [⟨0, some 42, none, .mov (.t 0)⟩,
    ⟨1, some 43, none, .call 40 [(.im, (.t 42))]⟩,
    ⟨2, some 9, none, .mov (.t 43)⟩])
  (.seq (.reg [⟨0, some 45, none, .mov (.t 9)⟩,
    ⟨1, some 46, none, .call 11 [(.im, (.t 45))]⟩,
    ⟨2, some 44, none, .mov (.t 46)⟩,
    ⟨3, some 47, none, .ext (.t 44) 0⟩,
    ⟨4, some 48, none, .ext (.t 44) 1⟩,
    ⟨5, some 10, none, .alloc [.nils, .nils, .nils, .nils]⟩,
    ⟨6, none, none, .store (.t 10) (.t 47) 4⟩,
    ⟨7, some 11, none, .mov (.t 48)⟩])
  (.seq (.reg [⟨0, some 50, none, .mov (.t 9)⟩,
    ⟨1, some 51, none, .call 12 [(.im, (.t 50))]⟩,
    ⟨2, some 49, none, .mov (.t 51)⟩,
    ⟨3, some 52, none, .ext (.t 49) 0⟩,
    ⟨4, some 53, none, .ext (.t 49) 1⟩,
    ⟨5, some 12, none, .alloc [.nils, .nils, .nils, .nils]⟩,
    ⟨6, none, none, .store (.t 12) (.t 52) 4⟩,
    ⟨7, some 13, none, .mov (.t 53)⟩])
  (.seq (.seq (.reg [⟨0, some 54, none, .mov (.t 11)⟩,
    ⟨1, some 55, none, .mov (.t 13)⟩,
    ⟨2, some 56, none, .eqb true (.t 54) (.t 55)⟩,
    ⟨3, some 57, none, .mov (.t 56)⟩,
    ⟨4, some 58, (some (57, false)), .mov (.t 11)⟩,
    ⟨5, some 59, (some (57, false)), .mov (.t 58)⟩,
    ⟨6, some 60, (some (59, true)), .load (.t 10) 4 true⟩,
    ⟨7, some 61, (some (59, true)), .call 23 [(.im, (.t 60))]⟩,
    ⟨8, some 62, (some (59, true)), .un .not (.t 61)⟩,
    ⟨9, some 63, (some (57, false)), .pick (.t 59) (.t 62) (.k (.bool false))⟩,
    ⟨10, some 64, none, .pick (.t 57) (.k (.bool true)) (.t 63)⟩])
  (.cond (.t 64) (.seq (.reg [⟨0, some 2, none, .mov (.k (.bool false))⟩])
  (.ret)) (.skip)))
  (.seq (.seq (.reg [⟨0, some 65, none, .mov (.t 6)⟩,
    ⟨1, some 66, none, .len (.t 65)⟩,
    ⟨2, some 67, none, .bin .eql (.t 66) (.k (.int .i64 0))⟩])
  (.cond (.t 67) (.seq (.reg [⟨0, some 68, none, .load (.t 3) 4 true⟩,
    ⟨1, some 69, none, .load (.t 5) 4 true⟩,
    ⟨2, some 70, none, .call 22 [(.im, (.t 68)), (.im, (.t 69))]⟩,
    ⟨3, some 2, none, .mov (.t 70)⟩])
  (.ret)) (.skip)))
  (.seq (.reg [⟨0, some 71, none, .mov (.t 0)⟩,
    ⟨1, some 72, none, .call 13 [(.im, (.t 71)), (.im, (.k (.int .i64 1)))]⟩,
    ⟨2, some 73, none, .mov (.t 4)⟩,
    ⟨3, some 74, none, .len (.t 73)⟩,
    ⟨4, some 75, none, .bin .add (.t 74) (.k (.int .i64 1))⟩,
    ⟨5, some 76, none, .bin .rem (.t 72) (.t 75)⟩,
    ⟨6, some 14, none, .mov (.t 76)⟩])
  (.seq (.dreg [⟨0, some 78, none, .load (.t 3) 4 true⟩,
    ⟨1, some 79, none, .mov (.t 4)⟩,
    ⟨2, some 80, none, .mov (.t 14)⟩,
    ⟨3, some 81, none, .slc (.t 79) none (some (.t 80)) 2⟩,
    ⟨8, some 15, none, .alloc [.nils, .nils, .nils, .nils]⟩,
    ⟨4, some 82, none, .call 14 [(.im, (.t 78)), (.im, (.t 81))]⟩,
    ⟨5, some 77, none, .mov (.t 82)⟩,
    ⟨6, some 83, none, .ext (.t 77) 0⟩,
    ⟨7, some 84, none, .ext (.t 77) 1⟩,
    ⟨9, none, none, .store (.t 15) (.t 83) 4⟩,
    ⟨10, some 16, none, .mov (.t 84)⟩] [(0, 5), (4, 9)])
  (.seq (.dreg [⟨0, some 86, none, .load (.t 15) 4 true⟩,
    ⟨1, some 87, none, .mov (.t 4)⟩,
    ⟨2, some 88, none, .mov (.t 14)⟩,
    ⟨3, some 89, none, .slc (.t 87) (some (.t 88)) none 2⟩,
    ⟨8, some 17, none, .alloc [.nils, .nils, .nils, .nils]⟩,
    ⟨4, some 90, none, .call 14 [(.im, (.t 86)), (.im, (.t 89))]⟩,
    ⟨5, some 85, none, .mov (.t 90)⟩,
    ⟨6, some 91, none, .ext (.t 85) 0⟩,
    ⟨7, some 92, none, .ext (.t 85) 1⟩,
    ⟨9, none, none, .store (.t 17) (.t 91) 4⟩,
    ⟨10, some 18, none, .mov (.t 92)⟩] [(0, 5), (4, 9)])
  (.seq (.reg [⟨0, some 93, none, .mov (.t 16)⟩,
    ⟨1, some 94, none, .len (.t 93)⟩,
    ⟨2, some 95, none, .mov (.t 18)⟩,
    ⟨3, some 96, none, .len (.t 95)⟩,
    ⟨4, some 97, none, .bin .add (.t 94) (.t 96)⟩,
    ⟨5, some 98, none, .mov (.t 6)⟩,
    ⟨6, some 99, none, .len (.t 98)⟩,
    ⟨7, some 100, none, .bin .eql (.t 97) (.t 99)⟩,
    ⟨8, some 101, none, .mov (.t 100)⟩,
    ⟨9, some 102, (some (101, true)), .load (.t 17) 4 true⟩,
    ⟨10, some 103, (some (101, true)), .load (.t 5) 4 true⟩,
    ⟨11, some 104, (some (101, true)), .call 22 [(.im, (.t 102)), (.im, (.t 103))]⟩,
    ⟨12, some 105, none, .pick (.t 101) (.t 104) (.k (.bool false))⟩,
    ⟨13, some 2, none, .mov (.t 105)⟩])
  (.ret)))))))))))))))⟩
/-- laws.big -/
def a10 : AFn := ⟨1, [.tmp 2],
  .seq (.reg [⟨0, some 2, none, .mov (.k (.bool false))⟩])
  (.seq (.reg [⟨0, some 3, none, .mov (.t 0)⟩,
    ⟨1, some 4, none, .len (.t 3)⟩,
    ⟨2, some 5, none, .bin .gtr (.t 4) (.k (.int .i64 1048576))⟩,
    ⟨3, some 2, none, .mov (.t 5)⟩])
  (.ret))⟩
/-- impl.MachineNew -/
def a11 : AFn := ⟨1, [.cell 2 4 true, .tmp 3],
  .seq (.reg [⟨0, some 2, none, .alloc [.nils, .nils, .nils, .nils]⟩,
    ⟨1, some 3, none, .mov (.k (.bool false))⟩])
  (.seq (.reg [⟨0, some 7, none, .call 42 []⟩,
    ⟨1, some 8, none, .build [.nils, .nils, .nils, .nils] [(2, 1, (.t 7))]⟩,
    ⟨2, some 4, none, .alloc [.nils, .nils, .nils, .nils]⟩,
    ⟨3, none, none, .store (.t 4) (.t 8) 4⟩])
  (.seq (.seq (.reg [⟨0, some 9, none, .mov (.t 0)⟩,
    ⟨1, some 10, none, .len (.t 9)⟩,
    ⟨2, some 11, none, .mov (.k (.int .i64 0))⟩])
  (.block 0 (.loop (.seq (.reg [⟨0, some 12, none, .bin .lss (.t 11) (.t 10)⟩])
  (.seq (.cond (.t 12) (.skip) (.exit 0))
  (.seq (.block 1 (.seq (.reg [⟨0, some 13, none, .ix (.t 9) (.t 11) 1⟩,
    ⟨1, some 14, none, .load (.t 13) 1 false⟩,
    ⟨2, some 6, none, .mov (.t 14)⟩])
  (.seq (.dreg [⟨0, some 15, none, .fa (.t 4) 0⟩,
    ⟨1, some 16, none, .load (.t 15) 1 false⟩,
    ⟨2, some 17, none, .bslice 5 0 [.int .i64 0, .int .i64 0, .int .i64 0, .int .i64 0, .int .i64 0] []⟩,
    ⟨3, some 18, none, .mov (.t 6)⟩,
    ⟨4, some 19, none, .app 5 40 (.t 17) (.t 18)⟩,
    ⟨5, some 20, none, .bslice 1 1 [.nils] [(0, 1, (.t 19))]⟩,
    ⟨6, some 21, none, .app 1 24 (.t 16) (.t 20)⟩,
    ⟨7, some 22, none, .fa (.t 4) 0⟩,
    ⟨8, none, none, .store (.t 22) (.t 21) 1⟩] [(1, 4), (1, 6)])
  (.dreg [⟨0, some 23, none, .fa (.t 4) 1⟩,
    ⟨1, some 24, none, .load (.t 23) 1 false⟩,
    ⟨2, some 25, none, .mks 1 8 [.int .i64 0] (.k (.int .i64 8)) (.k (.int .i64 8))⟩,
    ⟨3, some 26, none, .mks 1 8 [.int .i64 0] (.k (.int .i64 24)) (.k (.int .i64 24))⟩,
    ⟨4, some 27, none, .build [.int .i64 0, .nils, .nils, .int .i64 0] [(1, 1, (.t 25)), (2, 1, (.t 26))]⟩,
    ⟨5, some 28, none, .bslice 4 1 [.int .i64 0, .nils, .nils, .int .i64 0] [(0, 4, (.t 27))]⟩,
    ⟨6, some 29, none, .app 4 64 (.t 24) (.t 28)⟩,
    ⟨7, some 30, none, .fa (.t 4) 1⟩,
    ⟨8, none, none, .store (.t 30) (.t 29) 1⟩] [(1, 6)]))))
  (.reg [⟨0, some 31, none, .bin .add (.t 11) (.k (.int .i64 1))⟩,
    ⟨1, some 11, none, .mov (.t 31)⟩])))))))
  (.seq (.seq (.reg [⟨0, some 32, none, .load (.t 4) 4 true⟩,
    ⟨1, some 33, none, .call 23 [(.im, (.t 32))]⟩,
    ⟨2, some 34, none, .un .not (.t 33)⟩])
  (.cond (.t 34) (.seq (.reg [⟨0, some 35, none, .build [.nils, .nils, .nils, .nils] []⟩,
    ⟨1, none, none, .store (.t 2) (.t 35) 4⟩,
    ⟨2, some 3, none, .mov (.k (.bool false))⟩])
  (.ret)) (.skip)))
  (.seq (.reg [⟨0, some 36, none, .load (.t 4) 4 true⟩,
    ⟨1, none, none, .store (.t 2) (.t 36) 4⟩,
    ⟨2, some 3, none, .mov (.k (.bool true))⟩])
  (.ret)))))⟩
/-- spec.MachineNew -/
def a12 : AFn := ⟨1, [.cell 2 4 true, .tmp 3],
  .seq (.reg [⟨0, some 2, none, .alloc [.nils, .nils, .nils, .nils]⟩,
    ⟨1, some 3, none, .mov (.k (.bool false))⟩])
  (.seq (.reg [⟨0, some 6, none, .mov (.t 0)⟩,
    ⟨1, some 7, none, .call 45 [(.im, (.t 6))]⟩,
    ⟨2, some 8, none, .call 46 []⟩,
    ⟨3, some 9, none, .build [.nils, .nils, .nils, .nils] [(0, 1, (.t 7)), (2, 1, (.t 8))]⟩,
    ⟨4, some 4, none, .alloc [.nils, .nils, .nils, .nils]⟩,
    ⟨5, none, none, .store (.t 4) (.t 9) 4⟩])
  (.seq (.seq (.reg [⟨0, some 5, none, .mov (.k (.int .i64 0))⟩])
  (.block 0 (.loop (.seq (.seq (.reg [⟨0, some 10, none, .mov (.t 5)⟩,
    ⟨1, some 11, none, .mov (.t 0)⟩,
    ⟨2, some 12, none, .len (.t 11)⟩,
    ⟨3, some 13, none, .bin .lss (.t 10) (.t 12)⟩])
  (.cond (.t 13) (.skip) (.exit 0)))
  (.seq (.block 1 (.dreg [⟨0, some 16, none, .fa (.t 4) 1⟩,
    ⟨1, some 17, none, .load (.t 16) 1 false⟩,
    ⟨2, some 18, none, .mks 1 8 [.int .i64 0] (.k (.int .i64 8)) (.k (.int .i64 8))⟩,
    ⟨3, some 19, none, .mks 1 8 [.int .i64 0] (.k (.int .i64 24)) (.k (.int .i64 24))⟩,
    ⟨4, some 20, none, .build [.int .i64 0, .nils, .nils, .int .i64 0] [(1, 1, (.t 18)), (2, 1, (.t 19))]⟩,
    ⟨5, some 21, none, .bslice 4 1 [.int .i64 0, .nils, .nils, .int .i64 0] [(0, 4, (.t 20))]⟩,
    ⟨6, some 22, none, .app 4 64 (.t 17) (.t 21)⟩,
    ⟨7, some 23, none, .fa (.t 4) 1⟩,
    ⟨8, none, none, .store (.t 23) (.t 22) 1⟩] [(1, 6)]))
  (.reg [⟨0, some 14, none, .mov (.t 5)⟩,
    ⟨1, some 15, none, .bin .add (.t 14) (.k (.int .i64 1))⟩,
    ⟨2, some 5, none, .mov (.t 15)⟩]))))))
  (.seq (.seq (.reg [⟨0, some 24, none, .load (.t 4) 4 true⟩,
    ⟨1, some 25, none, .call 24 [(.im, (.t 24))]⟩,
    ⟨2, some 26, none, .un .not (.t 25)⟩])
  (.cond (.t 26) (.seq (.reg [⟨0, some 27, none, .build [.nils, .nils, .nils, .nils] []⟩,
    ⟨1, none, none, .store (.t 2) (.t 27) 4⟩,
    ⟨2, some 3, none, .mov (.k (.bool false))⟩])
  (.ret)) (.skip)))
  (.seq (.reg [⟨0, some 28, none, .load (.t 4) 4 true⟩,
    ⟨1, none, none, .store (.t 2) (.t 28) 4⟩,
    ⟨2, some 3, none, .mov (.k (.bool true))⟩])
  (.ret)))))⟩
/-- laws.at -/
def a13 : AFn := ⟨2, [.tmp 4],
  .seq (.reg [⟨0, some 4, none, .mov (.k (.int .i64 0))⟩])
  (.seq (.seq (.reg [⟨0, some 5, none, .mov (.t 1)⟩,
    ⟨1, some 6, none, .mov (.t 0)⟩,
    ⟨2, some 7, none, .len (.t 6)⟩,
    ⟨3, some 8, none, .bin .lss (.t 5) (.t 7)⟩])
  (.cond (.t 8) (.seq (.reg [⟨0, some 9, none, .mov (.t 0)⟩,
    ⟨1, some 10, none, .mov (.t 1)⟩,
    ⟨2, some 11, none, .ix (.t 9) (.t 10) 1⟩,
    ⟨3, some 12, none, .load (.t 11) 1 false⟩,
    ⟨4, some 13, none, .conv .i64 (.t 12)⟩,
    ⟨5, some 4, none, .mov (.t 13)⟩])
  (.ret)) (.skip)))
  (.seq (.reg [⟨0, some 14, none, .mov (.t 1)⟩,
    ⟨1, some 15, none, .bin .mul (.t 14) (.k (.int .i64 7))⟩,
    ⟨2, some 16, none, .mov (.t 0)⟩,
    ⟨3, some 17, none, .len (.t 16)⟩,
    ⟨4, some 18, none, .bin .add (.t 15) (.t 17)⟩,
    ⟨5, some 19, none, .bin .rem (.t 18) (.k (.int .i64 256))⟩,
    ⟨6, some 4, none, .mov (.t 19)⟩])
  (.ret)))⟩
/-- impl.MachineRun -/
def a14 : AFn := ⟨2, [.cell 4 4 true, .tmp 5],
  .seq (.reg [⟨0, some 2, none, .box (.t 0)⟩,
    ⟨1, some 4, none, .alloc [.nils, .nils, .nils, .nils]⟩,
    ⟨2, some 5, none, .mov (.k .nils)⟩])
  (.seq (.reg [⟨0, some 11, none, .load (.t 2) 4 true⟩,
    ⟨1, some 12, none, .call 47 [(.im, (.t 11))]⟩,
    ⟨2, some 6, none, .alloc [.nils, .nils, .nils, .nils]⟩,
    ⟨3, none, none, .store (.t 6) (.t 12) 4⟩])
  (.seq (.reg [⟨0, some 13, none, .bslice 1 0 [.int .i64 0] []⟩,
    ⟨1, some 7, none, .mov (.t 13)⟩])
  (.seq (.seq (.reg [⟨0, some 14, none, .mov (.t 1)⟩,
    ⟨1, some 15, none, .len (.t 14)⟩,
    ⟨2, some 16, none, .bin .gtr (.t 15) (.k (.int .i64 4000))⟩,
    ⟨3, some 17, none, .mov (.t 16)⟩,
    ⟨4, some 18, (some (17, false)), .load (.t 2) 4 true⟩,
    ⟨5, some 19, (some (17, false)), .call 23 [(.im, (.t 18))]⟩,
    ⟨6, some 20, (some (17, false)), .un .not (.t 19)⟩,
    ⟨7, some 21, none, .pick (.t 17) (.k (.bool true)) (.t 20)⟩])
  (.cond (.t 21) (.seq (.reg [⟨0, some 22, none, .load (.t 6) 4 true⟩,
    ⟨1, some 23, none, .mov (.t 7)⟩,
    ⟨2, none, none, .store (.t 4) (.t 22) 4⟩,
    ⟨3, some 5, none, .mov (.t 23)⟩])
  (.ret)) (.skip)))
  (.seq (.seq (.reg [⟨0, some 24, none, .mov (.t 1)⟩,
    ⟨1, some 25, none, .len (.t 24)⟩,
    ⟨2, some 26, none, .mov (.k (.int .i64 0))⟩])
  (.block 0 (.loop (.seq (.reg [⟨0, some 27, none, .bin .lss (.t 26) (.t 25)⟩])
  (.seq (.cond (.t 27) (.skip) (.exit 0))
  (.seq (.block 1 (.seq (.reg [⟨0, some 28, none, .ix (.t 24) (.t 26) 2⟩,
    ⟨1, some 29, none, .load (.t 28) 2 true⟩,
    ⟨2, some 9, none, .alloc [.int .i64 0, .int .i64 0]⟩,
    ⟨3, none, none, .store (.t 9) (.t 29) 2⟩])
  (.seq (.reg [⟨0, some 30, none, .load (.t 9) 2 true⟩,
    ⟨1, some 31, none, .call 48 [(.io 4, (.t 6)), (.im, (.t 30))]⟩,
    ⟨2, some 10, none, .mov (.t 31)⟩])
  (.reg [⟨0, some 32, none, .mov (.t 7)⟩,
    ⟨1, some 33, none, .mov (.t 10)⟩,
    ⟨2, some 34, none, .bslice 1 1 [.int .i64 0] [(0, 1, (.t 33))]⟩,
    ⟨3, some 35, none, .app 1 8 (.t 32) (.t 34)⟩,
    ⟨4, some 7, none, .mov (.t 35)⟩]))))
  (.reg [⟨0, some 36, none, .bin .add (.t 26) (.k (.int .i64 1))⟩,
    ⟨1, some 26, none, .mov (.t 36)⟩])))))))
  (.seq (.reg [⟨0, some 37, none, .load (.t 6) 4 true⟩,
    ⟨1, some 38, none, .mov (.t 7)⟩,
    ⟨2, none, none, .store (.t 4) (.t 37) 4⟩,
    ⟨3, some 5, none, .mov (.t 38)⟩])
  (.ret))))))⟩
/-- spec.DrawCoreStep -/
def a19 : AFn := ⟨1, [.cell 2 4 true, .cell 3 2 true],
  .seq (.reg [⟨0, some 2, none, .alloc [.nils, .nils, .nils, .nils]⟩,
    ⟨1, some 3, none, .alloc [.int .i64 0, .int .i64 0]⟩])
  (.seq (.reg [⟨0, some 6, none, .mov (.t 0)⟩,
    ⟨1, some 7, none, .call 59 [(.im, (.t 6))]⟩,
    ⟨2, some 4, none, .mov (.t 7)⟩])
  (.seq (.reg [⟨0, some 8, none, .mov (.t 4)⟩,
    ⟨1, some 9, none, .call 60 [(.io 3, (.t 8))]⟩,
    ⟨2, some 5, none, .alloc [.nils, .nils, .nils, .nils]⟩,
    ⟨3, none, none, .store (.t 5) (.t 9) 4⟩])
  (.seq (.dreg [⟨0, some 10, none, .load (.t 5) 4 true⟩,
    ⟨1, some 11, none, .mov (.t 4)⟩,
    ⟨3, some 13, none, .mov (.t 4)⟩,
    ⟨7, some 17, none, .mov (.t 4)⟩,
    ⟨8, some 18, none, .bslice 1 6 [.int .i64 0] [(0, 1, (.k (.int .i64 0))), (1, 1, (.k (.int .i64 1))), (2, 1, (.k (.int .i64 2))), (3, 1, (.k (.int .i64 3))), (4, 1, (.k (.int .i64 (-1)))), (5, 1, (.k (.int .i64 9223372036854775807)))]⟩,
    ⟨2, some 12, none, .call 61 [(.io 3, (.t 11)), (.im, (.k (.int .i64 4)))]⟩,
    ⟨4, some 14, none, .call 61 [(.io 3, (.t 13)), (.im, (.k (.int .i64 20)))]⟩,
    ⟨5, some 15, none, .bin .quo (.t 14) (.k (.int .i64 19))⟩,
    ⟨6, some 16, none, .bin .sub (.t 12) (.t 15)⟩,
    ⟨9, some 19, none, .call 62 [(.io 3, (.t 17)), (.im, (.t 18))]⟩,
    ⟨10, some 20, none, .build [.int .i64 0, .int .i64 0] [(0, 1, (.t 16)), (1, 1, (.t 19))]⟩,
    ⟨11, none, none, .store (.t 2) (.t 10) 4⟩,
    ⟨12, none, none, .store (.t 3) (.t 20) 2⟩] [(0, 5), (0, 6), (0, 9), (0, 11), (4, 6), (4, 9)])
  (.ret))))⟩
/-- impl.CoreStep -/
def a20 : AFn := ⟨2, [.cell 4 4 true, .tmp 5],
  .seq (.reg [⟨0, some 2, none, .box (.t 0)⟩,
    ⟨1, some 3, none, .box (.t 1)⟩,
    ⟨2, some 4, none, .alloc [.nils, .nils, .nils, .nils]⟩,
    ⟨3, some 5, none, .mov (.k (.int .i64 0))⟩])
  (.seq (.seq (.reg [⟨0, some 8, none, .load (.t 2) 4 true⟩,
    ⟨1, some 9, none, .call 23 [(.im, (.t 8))]⟩,
    ⟨2, some 10, none, .un .not (.t 9)⟩])
  (.cond (.t 10) (.seq (.reg [⟨0, some 11, none, .build [.nils, .nils, .nils, .nils] []⟩,
    ⟨1, none, none, .store (.t 4) (.t 11) 4⟩,
    ⟨2, some 5, none, .mov (.k (.int .i64 1))⟩])
  (.ret)) (.skip)))
  (.seq (.reg [⟨0, some 12, none, .load (.t 2) 4 true⟩,
    ⟨1, some 13, none, .call 47 [(.im, (.t 12))]⟩,
    ⟨2, some 6, none, .alloc [.nils, .nils, .nils, .nils]⟩,
    ⟨3, none, none, .store (.t 6) (.t 13) 4⟩])
  (.seq (.reg [⟨0, some 14, none, .load (.t 3) 2 true⟩,
    ⟨1, some 15, none, .call 48 [(.io 4, (.t 6)), (.im, (.t 14))]⟩,
    ⟨2, some 7, none, .mov (.t 15)⟩])
  (.seq (.reg [⟨0, some 16, none, .load (.t 6) 4 true⟩,
    ⟨1, some 17, none, .mov (.t 7)⟩,
    ⟨2, none, none, .store (.t 4) (.t 16) 4⟩,
    ⟨3, some 5, none, .mov (.t 17)⟩])
  (.ret)))))⟩
/-- spec.CoreStep -/
def a21 : AFn := ⟨2, [.cell 4 4 true, .tmp 5],
  .seq (.reg [⟨0, some 2, none, .box (.t 0)⟩,
    ⟨1, some 3, none, .box (.t 1)⟩,
    ⟨2, some 4, none, .alloc [.nils, .nils, .nils, .nils]⟩,
    ⟨3, some 5, none, .mov (.k (.int .i64 0))⟩])
  (.seq (.seq (.reg [⟨0, some 8, none, .load (.t 2) 4 true⟩,
    ⟨1, some 9, none, .call 24 [(.im, (.t 8))]⟩,
    ⟨2, some 10, none, .un .not (.t 9)⟩])
  (.cond (.t 10) (.seq (.reg [⟨0, some 11, none, .build [.nils, .nils, .nils, .nils] []⟩,
    ⟨1, none, none, .store (.t 4) (.t 11) 4⟩,
    ⟨2, some 5, none, .mov (.k (.int .i64 1))⟩])
  (.ret)) (.skip)))
  (.seq (.seq (.reg [⟨0, some 12, none, .fa (.t 3) 0⟩,
    ⟨1, some 13, none, .load (.t 12) 1 false⟩,
    ⟨2, some 14, none, .fa (.t 2) 1⟩,
    ⟨3, some 15, none, .load (.t 14) 1 false⟩,
    ⟨4, some 16, none, .len (.t 15)⟩,
    ⟨5, some 17, none, .bin .sub (.t 16) (.k (.int .i64 1))⟩,
    ⟨6, some 18, none, .call 63 [(.im, (.t 13)), (.im, (.k (.int .i64 0))), (.im, (.t 17))]⟩,
    ⟨7, some 19, none, .un .not (.t 18)⟩])
  (.cond (.t 19) (.seq (.reg [⟨0, some 20, none, .load (.t 2) 4 true⟩,
    ⟨1, some 21, none, .call 64 [(.im, (.t 20))]⟩,
    ⟨2, none, none, .store (.t 4) (.t 21) 4⟩,
    ⟨3, some 5, none, .mov (.k (.int .i64 2))⟩])
  (.ret)) (.skip)))
  (.seq (.seq (.reg [⟨0, some 22, none, .fa (.t 2) 1⟩,
    ⟨1, some 23, none, .load (.t 22) 1 false⟩,
    ⟨2, some 24, none, .fa (.t 3) 0⟩,
    ⟨3, some 25, none, .load (.t 24) 1 false⟩,
    ⟨4, some 26, none, .ix (.t 23) (.t 25) 4⟩,
    ⟨5, some 27, none, .fa (.t 26) 3⟩,
    ⟨6, some 28, none, .load (.t 27) 1 false⟩,
    ⟨7, some 29, none, .bin .neq (.t 28) (.k (.int .i64 0))⟩])
  (.cond (.t 29) (.seq (.reg [⟨0, some 30, none, .load (.t 2) 4 true⟩,
    ⟨1, some 31, none, .call 64 [(.im, (.t 30))]⟩,
    ⟨2, none, none, .store (.t 4) (.t 31) 4⟩,
    ⟨3, some 5, none, .mov (.k (.int .i64 3))⟩])
  (.ret)) (.skip)))
  (.seq (.dreg [⟨0, some 33, none, .load (.t 2) 4 true⟩,
    ⟨2, some 35, none, .load (.t 3) 2 true⟩,
    ⟨7, some 6, none, .alloc [.nils, .nils, .nils, .nils]⟩,
    ⟨1, some 34, none, .call 64 [(.im, (.t 33))]⟩,
    ⟨3, some 36, none, .call 65 [(.mv, (.t 34)), (.im, (.t 35))]⟩,
    ⟨4, some 32, none, .mov (.t 36)⟩,
    ⟨5, some 37, none, .ext (.t 32) 0⟩,
    ⟨6, some 38, none, .ext (.t 32) 1⟩,
    ⟨8, none, none, .store (.t 6) (.t 37) 4⟩,
    ⟨9, some 7, none, .mov (.t 38)⟩] [(0, 3), (1, 3), (1, 4), (2, 4), (2, 8)])
  (.seq (.seq (.reg [⟨0, some 39, none, .mov (.t 7)⟩,
    ⟨1, some 40, none, .bin .neq (.t 39) (.k (.int .i64 0))⟩])
  (.cond (.t 40) (.seq (.reg [⟨0, some 41, none, .load (.t 2) 4 true⟩,
    ⟨1, some 42, none, .call 64 [(.im, (.t 41))]⟩,
    ⟨2, some 43, none, .mov (.t 7)⟩,
    ⟨3, none, none, .store (.t 4) (.t 42) 4⟩,
    ⟨4, some 5, none, .mov (.t 43)⟩])
  (.ret)) (.skip)))
  (.seq (.reg [⟨0, some 44, none, .load (.t 6) 4 true⟩,
    ⟨1, some 45, none, .mov (.t 7)⟩,
    ⟨2, none, none, .store (.t 4) (.t 44) 4⟩,
    ⟨3, some 5, none, .mov (.t 45)⟩])
  (.ret)))))))⟩
/-- laws.sameMachine -/
def a22 : AFn := ⟨2, [.tmp 4],
  .seq (.reg [⟨0, some 2, none, .box (.t 0)⟩,
    ⟨1, some 3, none, .box (.t 1)⟩,
    ⟨2, some 4, none, .mov (.k (.bool false))⟩])
  (.seq (.seq (.reg [⟨0, some 11, none, .fa (.t 2) 1⟩,
    ⟨1, some 12, none, .load (.t 11) 1 false⟩,
    ⟨2, some 13, none, .len (.t 12)⟩,
    ⟨3, some 14, none, .fa (.t 3) 1⟩,
    ⟨4, some 15, none, .load (.t 14) 1 false⟩,
    ⟨5, some 16, none, .len (.t 15)⟩,
    ⟨6, some 17, none, .bin .neq (.t 13) (.t 16)⟩,
    ⟨7, some 18, none, .mov (.t 17)⟩,
    ⟨8, some 19, (some (18, false)), .fa (.t 2) 3⟩,
    ⟨9, some 20, (some (18, false)), .load (.t 19) 1 false⟩,
    ⟨10, some 21, (some (18, false)), .fa (.t 3) 3⟩,
    ⟨11, some 22, (some (18, false)), .load (.t 21) 1 false⟩,
    ⟨12, some 23, (some (18, false)), .call 66 [(.im, (.t 20)), (.im, (.t 22))]⟩,
    ⟨13, some 24, (some (18, false)), .un .not (.t 23)⟩,
    ⟨14, some 25, none, .pick (.t 18) (.k (.bool true)) (.t 24)⟩,
    ⟨15, some 26, none, .mov (.t 25)⟩,
    ⟨16, some 27, (some (26, false)), .fa (.t 2) 2⟩,
    ⟨17, some 28, (some (26, false)), .fa (.t 27) 0⟩,
    ⟨18, some 29, (some (26, false)), .load (.t 28) 1 false⟩,
    ⟨19, some 30, (some (26, false)), .len (.t 29)⟩,
    ⟨20, some 31, (some (26, false)), .fa (.t 3) 2⟩,
    ⟨21, some 32, (some (26, false)), .fa (.t 31) 0⟩,
    ⟨22, some 33, (some (26, false)), .load (.t 32) 1 false⟩,
    ⟨23, some 34, (some (26, false)), .len (.t 33)⟩,
    ⟨24, some 35, (some (26, false)), .bin .neq (.t 30) (.t 34)⟩,
    ⟨25, some 36, none, .pick (.t 26) (.k (.bool true)) (.t 35)⟩])
  (.cond (.t 36) (.seq (.reg [⟨0, some 4, none, .mov (.k (.bool false))⟩])
  (.ret)) (.skip)))
  (.seq (.seq (.reg [⟨0, some 5, none, .mov (.k (.int .i64 0))⟩])
  (.block 0 (.loop (.seq (.seq (.reg [⟨0, some 37, none, .mov (.t 5)⟩,
    ⟨1, some 38, none, .fa (.t 2) 1⟩,
    ⟨2, some 39, none, .load (.t 38) 1 false⟩,
    ⟨3, some 40, none, .len (.t 39)⟩,
    ⟨4, some 41, none, .bin .lss (.t 37) (.t 40)⟩])
  (.cond (.t 41) (.skip) (.exit 0)))
  (.seq (.block 1 (.seq (.dreg [⟨0, some 44, none, .fa (.t 2) 1⟩,
    ⟨1, some 45, none, .load (.t 44) 1 false⟩,
    ⟨2, some 46, none, .mov (.t 5)⟩,
    ⟨3, some 47, none, .ix (.t 45) (.t 46) 4⟩,
    ⟨4, some 48, none, .load (.t 47) 4 true⟩,
    ⟨5, some 49, none, .fa (.t 3) 1⟩,
    ⟨6, some 50, none, .load (.t 49) 1 false⟩,
    ⟨7, some 51, none, .mov (.t 5)⟩,
    ⟨8, some 52, none, .ix (.t 50) (.t 51) 4⟩,
    ⟨9, some 53, none, .load (.t 52) 4 true⟩,
    ⟨10, some 6, none, .alloc [.int .i64 0, .nils, .nils, .int .i64 0]⟩,
    ⟨11, some 7, none, .alloc [.int .i64 0, .nils, .nils, .int .i64 0]⟩,
    ⟨12, none, none, .store (.t 6) (.t 48) 4⟩,
    ⟨13, none, none, .store (.t 7) (.t 53) 4⟩] [(1, 12), (4, 12), (6, 12), (6, 13), (9, 12), (9, 13)])
  (.seq (.reg [⟨0, some 54, none, .fa (.t 6) 0⟩,
    ⟨1, some 55, none, .load (.t 54) 1 false⟩,
    ⟨2, some 56, none, .fa (.t 7) 0⟩,
    ⟨3, some 57, none, .load (.t 56) 1 false⟩,
    ⟨4, some 58, none, .bin .neq (.t 55) (.t 57)⟩,
    ⟨5, some 59, none, .mov (.t 58)⟩,
    ⟨6, some 60, (some (59, false)), .fa (.t 6) 3⟩,
    ⟨7, some 61, (some (59, false)), .load (.t 60) 1 false⟩,
    ⟨8, some 62, (some (59, false)), .fa (.t 7) 3⟩,
    ⟨9, some 63, (some (59, false)), .load (.t 62) 1 false⟩,
    ⟨10, some 64, (some (59, false)), .bin .neq (.t 61) (.t 63)⟩,
    ⟨11, some 65, none, .pick (.t 59) (.k (.bool true)) (.t 64)⟩,
    ⟨12, some 66, none, .mov (.t 65)⟩,
    ⟨13, some 67, (some (66, false)), .fa (.t 6) 1⟩,
    ⟨14, some 68, (some (66, false)), .load (.t 67) 1 false⟩,
    ⟨15, some 69, (some (66, false)), .fa (.t 7) 1⟩,
    ⟨16, some 70, (some (66, false)), .load (.t 69) 1 false⟩,
    ⟨17, some 71, (some (66, false)), .call 25 [(.im, (.t 68)), (.im, (.t 70))]⟩,
    ⟨18, some 72, (some (66, false)), .un .not (.t 71)⟩,
    ⟨19, some 73, none, .pick (.t 66) (.k (.bool true)) (.t 72)⟩,
    ⟨20, some 74, none, .mov (.t 73)⟩,
    ⟨21, some 75, (some (74, false)), .fa (.t 6) 2⟩,
    ⟨22, some 76, (some (74, false)), .load (.t 75) 1 false⟩,
    ⟨23, some 77, (some (74, false)), .fa (.t 7) 2⟩,
    ⟨24, some 78, (some (74, false)), .load (.t 77) 1 false⟩,
    ⟨25, some 79, (some (74, false)), .call 25 [(.im, (.t 76)), (.im, (.t 78))]⟩,
    ⟨26, some 80, (some (74, false)), .un .not (.t 79)⟩,
    ⟨27, some 81, none, .pick (.t 74) (.k (.bool true)) (.t 80)⟩])
  (.cond (.t 81) (.seq (.reg [⟨0, some 4, none, .mov (.k (.bool false))⟩])
  (.ret)) (.skip)))))
  (.reg [⟨0, some 42, none, .mov (.t 5)⟩,
    ⟨1, some 43, none, .bin .add (.t 42) (.k (.int .i64 1))⟩,
    ⟨2, some 5, none, .mov (.t 43)⟩]))))))
  (.seq (.seq (.reg [⟨0, some 8, none, .mov (.k (.int .i64 0))⟩])
  (.block 2 (.loop (.seq (.seq (.reg [⟨0, some 82, none, .mov (.t 8)⟩,
    ⟨1, some 83, none, .fa (.t 2) 2⟩,
    ⟨2, some 84, none, .fa (.t 83) 0⟩,
    ⟨3, some 85, none, .load (.t 84) 1 false⟩,
    ⟨4, some 86, none, .len (.t 85)⟩,
    ⟨5, some 87, none, .bin .lss (.t 82) (.t 86)⟩])
  (.cond (.t 87) (.skip) (.exit 2)))
  (.seq (.block 3 (.seq (.dreg [⟨0, some 90, none, .fa (.t 2) 2⟩,
    ⟨1, some 91, none, .fa (.t 90) 0⟩,
    ⟨2, some 92, none, .load (.t 91) 1 false⟩,
    ⟨3, some 93, none, .mov (.t 8)⟩,
    ⟨4, some 94, none, .ix (.t 92) (.t 93) 1⟩,
    ⟨5, some 95, none, .load (.t 94) 1 false⟩,
    ⟨6, some 96, none, .fa (.t 3) 2⟩,
    ⟨7, some 97, none, .fa (.t 96) 0⟩,
    ⟨8, some 98, none, .load (.t 97) 1 false⟩,
    ⟨9, some 99, none, .mov (.t 8)⟩,
    ⟨10, some 100, none, .ix (.t 98) (.t 99) 1⟩,
    ⟨11, some 101, none, .load (.t 100) 1 false⟩,
    ⟨12, some 9, none, .mov (.t 95)⟩,
    ⟨13, some 10, none, .mov (.t 101)⟩] [])
  (.seq (.dreg [⟨0, some 102, none, .mov (.t 9)⟩,
    ⟨1, some 103, none, .len (.t 102)⟩,
    ⟨2, some 104, none, .mov (.t 10)⟩,
    ⟨3, some 105, none, .len (.t 104)⟩,
    ⟨4, some 106, none, .bin .neq (.t 103) (.t 105)⟩,
    ⟨5, some 107, none, .mov (.t 106)⟩,
    ⟨6, some 108, (some (107, false)), .mov (.t 9)⟩,
    ⟨7, some 109, (some (107, false)), .len (.t 108)⟩,
    ⟨8, some 110, (some (107, false)), .bin .gtr (.t 109) (.k (.int .i64 0))⟩,
    ⟨9, some 111, (some (107, false)), .mov (.t 110)⟩,
    ⟨10, some 112, (some (111, true)), .mov (.t 9)⟩,
    ⟨11, some 113, (some (111, true)), .mov (.t 9)⟩,
    ⟨12, some 114, (some (111, true)), .len (.t 113)⟩,
    ⟨13, some 115, (some (111, true)), .bin .sub (.t 114) (.k (.int .i64 1))⟩,
    ⟨14, some 116, (some (111, true)), .ix (.t 112) (.t 115) 2⟩,
    ⟨15, some 117, (some (111, true)), .fa (.t 116) 0⟩,
    ⟨16, some 118, (some (111, true)), .load (.t 117) 1 false⟩,
    ⟨17, some 119, (some (111, true)), .mov (.t 10)⟩,
    ⟨18, some 120, (some (111, true)), .mov (.t 10)⟩,
    ⟨19, some 121, (some (111, true)), .len (.t 120)⟩,
    ⟨20, some 122, (some (111, true)), .bin .sub (.t 121) (.k (.int .i64 1))⟩,
    ⟨21, some 123, (some (111, true)), .ix (.t 119) (.t 122) 2⟩,
    ⟨22, some 124, (some (111, true)), .fa (.t 123) 0⟩,
    ⟨23, some 125, (some (111, true)), .load (.t 124) 1 false⟩,
    ⟨24, some 126, (some (111, true)), .bin .neq (.t 118) (.t 125)⟩,
    ⟨25, some 127, (some (107, false)), .pick (.t 111) (.t 126) (.k (.bool false))⟩,
    ⟨26, some 128, none, .pick (.t 107) (.k (.bool true)) (.t 127)⟩] [])
  (.cond (.t 128) (.seq (.reg [⟨0, some 4, none, .mov (.k (.bool false))⟩])
  (.ret)) (.skip)))))
  (.reg [⟨0, some 88, none, .mov (.t 8)⟩,
    ⟨1, some 89, none, .bin .add (.t 88) (.k (.int .i64 1))⟩,
    ⟨2, some 8, none, .mov (.t 89)⟩]))))))
  (.seq (.reg [⟨0, some 4, none, .mov (.k (.bool true))⟩])
  (.ret)))))⟩
/-- impl.MachineOk -/
def a23 : AFn := ⟨1, [.tmp 2],
  .seq (.reg [⟨0, some 1, none, .box (.t 0)⟩,
    ⟨1, some 2, none, .mov (.k (.bool false))⟩])
  (.seq (.seq (.reg [⟨0, some 5, none, .fa (.t 1) 0⟩,
    ⟨1, some 6, none, .load (.t 5) 1 false⟩,
    ⟨2, some 7, none, .len (.t 6)⟩,
    ⟨3, some 8, none, .call 50 [(.im, (.t 7)), (.im, (.k (.int .i64 1))), (.im, (.k (.int .i64 4)))]⟩,
    ⟨4, some 9, none, .un .not (.t 8)⟩,
    ⟨5, some 10, none, .mov (.t 9)⟩,
    ⟨6, some 11, (some (10, false)), .fa (.t 1) 1⟩,
    ⟨7, some 12, (some (10, false)), .load (.t 11) 1 false⟩,
    ⟨8, some 13, (some (10, false)), .len (.t 12)⟩,
    ⟨9, some 14, (some (10, false)), .fa (.t 1) 0⟩,
    ⟨10, some 15, (some (10, false)), .load (.t 14) 1 false⟩,
    ⟨11, some 16, (some (10, false)), .len (.t 15)⟩,
    ⟨12, some 17, (some (10, false)), .bin .neq (.t 13) (.t 16)⟩,
    ⟨13, some 18, none, .pick (.t 10) (.k (.bool true)) (.t 17)⟩,
    ⟨14, some 19, none, .mov (.t 18)⟩,
    ⟨15, some 20, (some (19, false)), .fa (.t 1) 2⟩,
    ⟨16, some 21, (some (19, false)), .load (.t 20) 1 true⟩,
    ⟨17, some 22, (some (19, false)), .call 41 [(.im, (.t 21))]⟩,
    ⟨18, some 23, (some (19, false)), .un .not (.t 22)⟩,
    ⟨19, some 24, none, .pick (.t 19) (.k (.bool true)) (.t 23)⟩,
    ⟨20, some 25, none, .mov (.t 24)⟩,
    ⟨21, some 26, (some (25, false)), .fa (.t 1) 3⟩,
    ⟨22, some 27, (some (25, false)), .load (.t 26) 1 false⟩,
    ⟨23, some 28, (some (25, false)), .fa (.t 1) 1⟩,
    ⟨24, some 29, (some (25, false)), .load (.t 28) 1 false⟩,
    ⟨25, some 30, (some (25, false)), .len (.t 29)⟩,
    ⟨26, some 31, (some (25, false)), .call 67 [(.im, (.t 27)), (.im, (.t 30))]⟩,
    ⟨27, some 32, (some (25, false)), .un .not (.t 31)⟩,
    ⟨28, some 33, none, .pick (.t 25) (.k (.bool true)) (.t 32)⟩])
  (.cond (.t 33) (.seq (.reg [⟨0, some 2, none, .mov (.k (.bool false))⟩])
  (.ret)) (.skip)))
  (.seq (.seq (.reg [⟨0, some 34, none, .fa (.t 1) 1⟩,
    ⟨1, some 35, none, .load (.t 34) 1 false⟩,
    ⟨2, some 36, none, .len (.t 35)⟩,
    ⟨3, some 37, none, .mov (.k (.int .i64 0))⟩])
  (.block 0 (.loop (.seq (.reg [⟨0, some 38, none, .bin .lss (.t 37) (.t 36)⟩])
  (.seq (.cond (.t 38) (.skip) (.exit 0))
  (.seq (.block 1 (.seq (.reg [⟨0, some 39, none, .mov (.t 37)⟩,
    ⟨1, some 40, none, .ix (.t 35) (.t 37) 4⟩,
    ⟨2, some 41, none, .load (.t 40) 4 true⟩,
    ⟨3, some 4, none, .alloc [.int .i64 0, .nils, .nils, .int .i64 0]⟩,
    ⟨4, some 3, none, .mov (.t 39)⟩,
    ⟨5, none, none, .store (.t 4) (.t 41) 4⟩])
  (.seq (.seq (.dreg [⟨0, some 42, none, .fa (.t 1) 0⟩,
    ⟨1, some 43, none, .load (.t 42) 1 false⟩,
    ⟨2, some 44, none, .mov (.t 3)⟩,
    ⟨3, some 45, none, .ix (.t 43) (.t 44) 1⟩,
    ⟨4, some 46, none, .load (.t 45) 1 false⟩,
    ⟨5, some 47, none, .call 68 [(.im, (.t 46))]⟩,
    ⟨6, some 48, none, .un .not (.t 47)⟩,
    ⟨7, some 49, none, .mov (.t 48)⟩,
    ⟨8, some 50, (some (49, false)), .fa (.t 4) 1⟩,
    ⟨9, some 51, (some (49, false)), .load (.t 50) 1 false⟩,
    ⟨10, some 52, (some (49, false)), .len (.t 51)⟩,
    ⟨11, some 53, (some (49, false)), .bin .neq (.t 52) (.k (.int .i64 8))⟩,
    ⟨12, some 54, none, .pick (.t 49) (.k (.bool true)) (.t 53)⟩,
    ⟨13, some 55, none, .mov (.t 54)⟩,
    ⟨14, some 56, (some (55, false)), .fa (.t 4) 0⟩,
    ⟨15, some 57, (some (55, false)), .load (.t 56) 1 false⟩,
    ⟨16, some 58, (some (55, false)), .fa (.t 1) 0⟩,
    ⟨17, some 59, (some (55, false)), .load (.t 58) 1 false⟩,
    ⟨18, some 60, (some (55, false)), .mov (.t 3)⟩,
    ⟨19, some 61, (some (55, false)), .ix (.t 59) (.t 60) 1⟩,
    ⟨20, some 62, (some (55, false)), .load (.t 61) 1 false⟩,
    ⟨21, some 63, (some (55, false)), .len (.t 62)⟩,
    ⟨22, some 64, (some (55, false)), .bin .sub (.t 63) (.k (.int .i64 1))⟩,
    ⟨23, some 65, (some (55, false)), .call 50 [(.im, (.t 57)), (.im, (.k (.int .i64 0))), (.im, (.t 64))]⟩,
    ⟨24, some 66, (some (55, false)), .un .not (.t 65)⟩,
    ⟨25, some 67, none, .pick (.t 55) (.k (.bool true)) (.t 66)⟩] [])
  (.cond (.t 67) (.seq (.reg [⟨0, some 2, none, .mov (.k (.bool false))⟩])
  (.ret)) (.skip)))
  (.seq (.reg [⟨0, some 68, none, .fa (.t 4) 3⟩,
    ⟨1, some 69, none, .load (.t 68) 1 false⟩,
    ⟨2, some 70, none, .call 50 [(.im, (.t 69)), (.im, (.k (.int .i64 0))), (.im, (.k (.int .i64 2)))]⟩,
    ⟨3, some 71, none, .un .not (.t 70)⟩,
    ⟨4, some 72, none, .mov (.t 71)⟩,
    ⟨5, some 73, (some (72, false)), .fa (.t 1) 2⟩,
    ⟨6, some 74, (some (72, false)), .load (.t 73) 1 true⟩,
    ⟨7, some 75, (some (72, false)), .fa (.t 4) 2⟩,
    ⟨8, some 76, (some (72, false)), .load (.t 75) 1 false⟩,
    ⟨9, some 77, (some (72, false)), .call 69 [(.im, (.t 74)), (.im, (.t 76))]⟩,
    ⟨10, some 78, (some (72, false)), .un .not (.t 77)⟩,
    ⟨11, some 79, none, .pick (.t 72) (.k (.bool true)) (.t 78)⟩])
  (.cond (.t 79) (.seq (.reg [⟨0, some 2, none, .mov (.k (.bool false))⟩])
  (.ret)) (.skip))))))
  (.reg [⟨0, some 80, none, .bin .add (.t 37) (.k (.int .i64 1))⟩,
    ⟨1, some 37, none, .mov (.t 80)⟩])))))))
  (.seq (.reg [⟨0, some 2, none, .mov (.k (.bool true))⟩])
  (.ret))))⟩
/-- spec.MachineOk -/
def a24 : AFn := ⟨1, [.tmp 2],
  .seq (.reg [⟨0, some 1, none, .box (.t 0)⟩,
    ⟨1, some 2, none, .mov (.k (.bool false))⟩])
  (.seq (.reg [⟨0, some 7, none, .fa (.t 1) 0⟩,
    ⟨1, some 8, none, .load (.t 7) 1 false⟩,
    ⟨2, some 9, none, .len (.t 8)⟩,
    ⟨3, some 3, none, .mov (.t 9)⟩])
  (.seq (.seq (.reg [⟨0, some 10, none, .mov (.t 3)⟩,
    ⟨1, some 11, none, .call 63 [(.im, (.t 10)), (.im, (.k (.int .i64 1))), (.im, (.k (.int .i64 4)))]⟩,
    ⟨2, some 12, none, .un .not (.t 11)⟩,
    ⟨3, some 13, none, .mov (.t 12)⟩,
    ⟨4, some 14, (some (13, false)), .fa (.t 1) 1⟩,
    ⟨5, some 15, (some (13, false)), .load (.t 14) 1 false⟩,
    ⟨6, some 16, (some (13, false)), .len (.t 15)⟩,
    ⟨7, some 17, (some (13, false)), .mov (.t 3)⟩,
    ⟨8, some 18, (some (13, false)), .bin .neq (.t 16) (.t 17)⟩,
    ⟨9, some 19, none, .pick (.t 13) (.k (.bool true)) (.t 18)⟩,
    ⟨10, some 20, none, .mov (.t 19)⟩,
    ⟨11, some 21, (some (20, false)), .fa (.t 1) 2⟩,
    ⟨12, some 22, (some (20, false)), .load (.t 21) 1 true⟩,
    ⟨13, some 23, (some (20, false)), .call 70 [(.im, (.t 22))]⟩,
    ⟨14, some 24, (some (20, false)), .un .not (.t 23)⟩,
    ⟨15, some 25, none, .pick (.t 20) (.k (.bool true)) (.t 24)⟩,
    ⟨16, some 26, none, .mov (.t 25)⟩,
    ⟨17, some 27, (some (26, false)), .fa (.t 1) 3⟩,
    ⟨18, some 28, (some (26, false)), .load (.t 27) 1 false⟩,
    ⟨19, some 29, (some (26, false)), .len (.t 28)⟩,
    ⟨20, some 30, (some (26, false)), .bin .gtr (.t 29) (.k (.int .i64 4000))⟩,
    ⟨21, some 31, none, .pick (.t 26) (.k (.bool true)) (.t 30)⟩])
  (.cond (.t 31) (.seq (.reg [⟨0, some 2, none, .mov (.k (.bool false))⟩])
  (.ret)) (.skip)))
  (.seq (.seq (.reg [⟨0, some 4, none, .mov (.k (.int .i64 0))⟩])
  (.block 0 (.loop (.seq (.seq (.reg [⟨0, some 32, none, .mov (.t 4)⟩,
    ⟨1, some 33, none, .mov (.t 3)⟩,
    ⟨2, some 34, none, .bin .lss (.t 32) (.t 33)⟩])
  (.cond (.t 34) (.skip) (.exit 0)))
  (.seq (.block 1 (.seq (.reg [⟨0, some 37, none, .fa (.t 1) 1⟩,
    ⟨1, some 38, none, .load (.t 37) 1 false⟩,
    ⟨2, some 39, none, .mov (.t 4)⟩,
    ⟨3, some 40, none, .ix (.t 38) (.t 39) 4⟩,
    ⟨4, some 41, none, .load (.t 40) 4 true⟩,
    ⟨5, some 5, none, .alloc [.int .i64 0, .nils, .nils, .int .i64 0]⟩,
    ⟨6, none, none, .store (.t 5) (.t 41) 4⟩])
  (.seq (.dreg [⟨0, some 42, none, .fa (.t 1) 0⟩,
    ⟨1, some 43, none, .load (.t 42) 1 false⟩,
    ⟨2, some 44, none, .mov (.t 4)⟩,
    ⟨3, some 45, none, .ix (.t 43) (.t 44) 1⟩,
    ⟨4, some 46, none, .load (.t 45) 1 false⟩,
    ⟨5, some 47, none, .call 71 [(.im, (.t 46))]⟩,
    ⟨6, some 48, none, .un .not (.t 47)⟩,
    ⟨7, some 49, none, .mov (.t 48)⟩,
    ⟨8, some 50, (some (49, false)), .fa (.t 5) 1⟩,
    ⟨9, some 51, (some (49, false)), .load (.t 50) 1 false⟩,
    ⟨10, some 52, (some (49, false)), .len (.t 51)⟩,
    ⟨11, some 53, (some (49, false)), .bin .neq (.t 52) (.k (.int .i64 8))⟩,
    ⟨12, some 54, none, .pick (.t 49) (.k (.bool true)) (.t 53)⟩,
    ⟨13, some 55, none, .mov (.t 54)⟩,
    ⟨14, some 56, (some (55, false)), .fa (.t 5) 0⟩,
    ⟨15, some 57, (some (55, false)), .load (.t 56) 1 false⟩,
    ⟨16, some 58, (some (55, false)), .fa (.t 1) 0⟩,
    ⟨17, some 59, (some (55, false)), .load (.t 58) 1 false⟩,
    ⟨18, some 60, (some (55, false)), .mov (.t 4)⟩,
    ⟨19, some 61, (some (55, false)), .ix (.t 59) (.t 60) 1⟩,
    ⟨20, some 62, (some (55, false)), .load (.t 61) 1 false⟩,
    ⟨21, some 63, (some (55, false)), .len (.t 62)⟩,
    ⟨22, some 64, (some (55, false)), .bin .sub (.t 63) (.k (.int .i64 1))⟩,
    ⟨23, some 65, (some (55, false)), .call 63 [(.im, (.t 57)), (.im, (.k (.int .i64 0))), (.im, (.t 64))]⟩,
    ⟨24, some 66, (some (55, false)), .un .not (.t 65)⟩,
    ⟨25, some 67, none, .pick (.t 55) (.k (.bool true)) (.t 66)⟩,
    ⟨26, some 68, none, .mov (.t 67)⟩,
    ⟨27, some 69, (some (68, false)), .fa (.t 5) 3⟩,
    ⟨28, some 70, (some (68, false)), .load (.t 69) 1 false⟩,
    ⟨29, some 71, (some (68, false)), .call 63 [(.im, (.t 70)), (.im, (.k (.int .i64 0))), (.im, (.k (.int .i64 2)))]⟩,
    ⟨30, some 72, (some (68, false)), .un .not (.t 71)⟩,
    ⟨31, some 73, none, .pick (.t 68) (.k (.bool true)) (.t 72)⟩,
    ⟨32, some 74, none, .mov (.t 73)⟩,
    ⟨33, some 75, (some (74, false)), .fa (.t 1) 2⟩,
    ⟨34, some 76, (some (74, false)), .load (.t 75) 1 true⟩,
    ⟨35, some 77, (some (74, false)), .fa (.t 5) 2⟩,
    ⟨36, some 78, (some (74, false)), .load (.t 77) 1 false⟩,
    ⟨37, some 79, (some (74, false)), .call 72 [(.im, (.t 76)), (.im, (.t 78))]⟩,
    ⟨38, some 80, (some (74, false)), .un .not (.t 79)⟩,
    ⟨39, some 81, none, .pick (.t 74) (.k (.bool true)) (.t 80)⟩] [])
  (.cond (.t 81) (.seq (.reg [⟨0, some 2, none, .mov (.k (.bool false))⟩])
  (.ret)) (.skip)))))
  (.reg [⟨0, some 35, none, .mov (.t 4)⟩,
    ⟨1, some 36, none, .bin .add (.t 35) (.k (.int .i64 1))⟩,
    ⟨2, some 4, none, .mov (.t 36)⟩]))))))
  (.seq (.seq (.reg [⟨0, some 6, none, .mov (.k (.int .i64 0))⟩])
  (.block 2 (.loop (.seq (.seq (.reg [⟨0, some 82, none, .mov (.t 6)⟩,
    ⟨1, some 83, none, .fa (.t 1) 3⟩,
    ⟨2, some 84, none, .load (.t 83) 1 false⟩,
    ⟨3, some 85, none, .len (.t 84)⟩,
    ⟨4, some 86, none, .bin .lss (.t 82) (.t 85)⟩])
  (.cond (.t 86) (.skip) (.exit 2)))
  (.seq (.block 3 (.seq (.reg [⟨0, some 89, none, .fa (.t 1) 3⟩,
    ⟨1, some 90, none, .load (.t 89) 1 false⟩,
    ⟨2, some 91, none, .mov (.t 6)⟩,
    ⟨3, some 92, none, .ix (.t 90) (.t 91) 2⟩,
    ⟨4, some 93, none, .fa (.t 92) 0⟩,
    ⟨5, some 94, none, .load (.t 93) 1 false⟩,
    ⟨6, some 95, none, .mov (.t 3)⟩,
    ⟨7, some 96, none, .bin .sub (.t 95) (.k (.int .i64 1))⟩,
    ⟨8, some 97, none, .call 63 [(.im, (.t 94)), (.im, (.k (.int .i64 0))), (.im, (.t 96))]⟩,
    ⟨9, some 98, none, .un .not (.t 97)⟩])
  (.cond (.t 98) (.seq (.reg [⟨0, some 2, none, .mov (.k (.bool false))⟩])
  (.ret)) (.skip))))
  (.reg [⟨0, some 87, none, .mov (.t 6)⟩,
    ⟨1, some 88, none, .bin .add (.t 87) (.k (.int .i64 1))⟩,
    ⟨2, some 6, none, .mov (.t 88)⟩]))))))
  (.seq (.reg [⟨0, some 2, none, .mov (.k (.bool true))⟩])
  (.ret))))))⟩
/-- laws.sameInts -/
def a25 : AFn := ⟨2, [.tmp 4],
  .seq (.reg [⟨0, some 4, none, .mov (.k (.bool false))⟩])
  (.seq (.seq (.reg [⟨0, some 6, none, .mov (.t 0)⟩,
    ⟨1, some 7, none, .len (.t 6)⟩,
    ⟨2, some 8, none, .mov (.t 1)⟩,
    ⟨3, some 9, none, .len (.t 8)⟩,
    ⟨4, some 10, none, .bin .neq (.t 7) (.t 9)⟩])
  (.cond (.t 10) (.seq (.reg [⟨0, some 4, none, .mov (.k (.bool false))⟩])
  (.ret)) (.skip)))
  (.seq (.seq (.reg [⟨0, some 5, none, .mov (.k (.int .i64 0))⟩])
  (.block 0 (.loop (.seq (.seq (.reg [⟨0, some 11, none, .mov (.t 5)⟩,
    ⟨1, some 12, none, .mov (.t 0)⟩,
    ⟨2, some 13, none, .len (.t 12)⟩,
    ⟨3, some 14, none, .bin .lss (.t 11) (.t 13)⟩])
  (.cond (.t 14) (.skip) (.exit 0)))
  (.seq (.block 1 (.seq (.dreg [⟨0, some 17, none, .mov (.t 0)⟩,
    ⟨1, some 18, none, .mov (.t 5)⟩,
    ⟨2, some 19, none, .ix (.t 17) (.t 18) 1⟩,
    ⟨3, some 20, none, .load (.t 19) 1 false⟩,
    ⟨4, some 21, none, .mov (.t 1)⟩,
    ⟨5, some 22, none, .mov (.t 5)⟩,
    ⟨6, some 23, none, .ix (.t 21) (.t 22) 1⟩,
    ⟨7, some 24, none, .load (.t 23) 1 false⟩,
    ⟨8, some 25, none, .bin .neq (.t 20) (.t 24)⟩] [])
  (.cond (.t 25) (.seq (.reg [⟨0, some 4, none, .mov (.k (.bool false))⟩])
  (.ret)) (.skip))))
  (.reg [⟨0, some 15, none, .mov (.t 5)⟩,
    ⟨1, some 16, none, .bin .add (.t 15) (.k (.int .i64 1))⟩,
    ⟨2, some 5, none, .mov (.t 16)⟩]))))))
  (.seq (.reg [⟨0, some 4, none, .mov (.k (.bool true))⟩])
  (.ret))))⟩
/-- impl.Knows -/
def a26 : AFn := ⟨2, [.tmp 4],
  .seq (.reg [⟨0, some 4, none, .mov (.k (.bool false))⟩])
  (.seq (.seq (.reg [⟨0, some 7, none, .mov (.t 0)⟩,
    ⟨1, some 8, none, .len (.t 7)⟩,
    ⟨2, some 9, none, .mov (.t 1)⟩,
    ⟨3, some 10, none, .len (.t 9)⟩,
    ⟨4, some 11, none, .bin .neq (.t 8) (.t 10)⟩])
  (.cond (.t 11) (.seq (.reg [⟨0, some 4, none, .mov (.k (.bool false))⟩])
  (.ret)) (.skip)))
  (.seq (.seq (.reg [⟨0, some 12, none, .mov (.t 1)⟩,
    ⟨1, some 13, none, .len (.t 12)⟩,
    ⟨2, some 14, none, .mov (.k (.int .i64 0))⟩])
  (.block 0 (.loop (.seq (.reg [⟨0, some 15, none, .bin .lss (.t 14) (.t 13)⟩])
  (.seq (.cond (.t 15) (.skip) (.exit 0))
  (.seq (.block 1 (.seq (.reg [⟨0, some 16, none, .mov (.t 14)⟩,
    ⟨1, some 17, none, .ix (.t 12) (.t 14) 1⟩,
    ⟨2, some 18, none, .load (.t 17) 1 false⟩,
    ⟨3, some 5, none, .mov (.t 16)⟩,
    ⟨4, some 6, none, .mov (.t 18)⟩])
  (.seq (.reg [⟨0, some 19, none, .mov (.t 0)⟩,
    ⟨1, some 20, none, .mov (.t 5)⟩,
    ⟨2, some 21, none, .ix (.t 19) (.t 20) 1⟩,
    ⟨3, some 22, none, .load (.t 21) 1 false⟩,
    ⟨4, some 23, none, .mov (.t 6)⟩,
    ⟨5, some 24, none, .bin .lss (.t 22) (.t 23)⟩])
  (.cond (.t 24) (.seq (.reg [⟨0, some 4, none, .mov (.k (.bool false))⟩])
  (.ret)) (.skip)))))
  (.reg [⟨0, some 25, none, .bin .add (.t 14) (.k (.int .i64 1))⟩,
    ⟨1, some 14, none, .mov (.t 25)⟩])))))))
  (.seq (.reg [⟨0, some 4, none, .mov (.k (.bool true))⟩])
  (.ret))))⟩
/-- spec.DrawAlone -/
def a35 : AFn := ⟨1, [.cell 2 4 true, .tmp 3, .tmp 4],
  .seq (.reg [⟨0, some 2, none, .alloc [.nils, .nils, .nils, .nils]⟩,
    ⟨1, some 3, none, .mov (.k (.int .i64 0))⟩,
    ⟨2, some 4, none, .mov (.k (.int .i64 0))⟩])
  (.seq (.reg [⟨0, some 7, none, .mov (.t 0)⟩,
    ⟨1, some 8, none, .call 59 [(.im, (.t 7))]⟩,
    ⟨2, some 5, none, .mov (.t 8)⟩])
  (.seq (.reg [⟨0, some 9, none, .mov (.t 5)⟩,
    ⟨1, some 10, none, .call 60 [(.io 3, (.t 9))]⟩,
    ⟨2, some 6, none, .alloc [.nils, .nils, .nils, .nils]⟩,
    ⟨3, none, none, .store (.t 6) (.t 10) 4⟩])
  (.seq (.dreg [⟨0, some 11, none, .load (.t 6) 4 true⟩,
    ⟨1, some 12, none, .mov (.t 5)⟩,
    ⟨3, some 14, none, .mov (.t 5)⟩,
    ⟨7, some 18, none, .mov (.t 5)⟩,
    ⟨2, some 13, none, .call 61 [(.io 3, (.t 12)), (.im, (.k (.int .i64 4)))]⟩,
    ⟨4, some 15, none, .call 61 [(.io 3, (.t 14)), (.im, (.k (.int .i64 12)))]⟩,
    ⟨5, some 16, none, .bin .quo (.t 15) (.k (.int .i64 11))⟩,
    ⟨6, some 17, none, .bin .sub (.t 13) (.t 16)⟩,
    ⟨8, some 19, none, .call 61 [(.io 3, (.t 18)), (.im, (.k (.int .i64 50)))]⟩,
    ⟨9, some 20, none, .bin .sub (.t 19) (.k (.int .i64 2))⟩,
    ⟨10, none, none, .store (.t 2) (.t 11) 4⟩,
    ⟨11, some 3, none, .mov (.t 17)⟩,
    ⟨12, some 4, none, .mov (.t 20)⟩] [(0, 5), (0, 8), (0, 10)])
  (.ret))))⟩
/-- impl.Alone -/
def a36 : AFn := ⟨3, [.cell 6 4 true],
  .seq (.reg [⟨0, some 3, none, .box (.t 0)⟩,
    ⟨1, some 6, none, .alloc [.nils, .nils, .nils, .nils]⟩])
  (.seq (.seq (.reg [⟨0, some 8, none, .load (.t 3) 4 true⟩,
    ⟨1, some 9, none, .call 23 [(.im, (.t 8))]⟩,
    ⟨2, some 10, none, .un .not (.t 9)⟩])
  (.cond (.t 10) (.seq (.reg [⟨0, some 11, none, .build [.nils, .nils, .nils, .nils] []⟩,
    ⟨1, none, none, .store (.t 6) (.t 11) 4⟩])
  (.ret)) (.skip)))
  (.seq (.reg [⟨0, some 12, none, .load (.t 3) 4 true⟩,
    ⟨1, some 13, none, .call 47 [(.im, (.t 12))]⟩,
    ⟨2, some 7, none, .alloc [.nils, .nils, .nils, .nils]⟩,
    ⟨3, none, none, .store (.t 7) (.t 13) 4⟩])
  (.seq (.reg [⟨0, some 14, none, .mov (.t 1)⟩,
    ⟨1, some 15, none, .mov (.t 2)⟩,
    ⟨2, some 16, none, .call 58 [(.io 4, (.t 7)), (.im, (.t 14)), (.im, (.t 15))]⟩])
  (.seq (.reg [⟨0, some 17, none, .load (.t 7) 4 true⟩,
    ⟨1, none, none, .store (.t 6) (.t 17) 4⟩])
  (.ret)))))⟩
/-- spec.Alone -/
def a37 : AFn := ⟨3, [.cell 6 4 true],
  .seq (.reg [⟨0, some 3, none, .box (.t 0)⟩,
    ⟨1, some 6, none, .alloc [.nils, .nils, .nils, .nils]⟩])
  (.seq (.seq (.reg [⟨0, some 7, none, .load (.t 3) 4 true⟩,
    ⟨1, some 8, none, .call 24 [(.im, (.t 7))]⟩,
    ⟨2, some 9, none, .un .not (.t 8)⟩])
  (.cond (.t 9) (.seq (.reg [⟨0, some 10, none, .build [.nils, .nils, .nils, .nils] []⟩,
    ⟨1, none, none, .store (.t 6) (.t 10) 4⟩])
  (.ret)) (.skip)))
  (.seq (.seq (.reg [⟨0, some 11, none, .mov (.t 1)⟩,
    ⟨1, some 12, none, .fa (.t 3) 1⟩,
    ⟨2, some 13, none, .load (.t 12) 1 false⟩,
    ⟨3, some 14, none, .len (.t 13)⟩,
    ⟨4, some 15, none, .bin .sub (.t 14) (.k (.int .i64 1))⟩,
    ⟨5, some 16, none, .call 63 [(.im, (.t 11)), (.im, (.k (.int .i64 0))), (.im, (.t 15))]⟩,
    ⟨6, some 17, none, .un .not (.t 16)⟩])
  (.cond (.t 17) (.seq (.reg [⟨0, some 18, none, .load (.t 3) 4 true⟩,
    ⟨1, some 19, none, .call 64 [(.im, (.t 18))]⟩,
    ⟨2, none, none, .store (.t 6) (.t 19) 4⟩])
  (.ret)) (.skip)))
  (.seq (.reg [⟨0, some 20, none, .load (.t 3) 4 true⟩,
    ⟨1, some 21, none, .call 64 [(.im, (.t 20))]⟩,
    ⟨2, some 22, none, .mov (.t 1)⟩,
    ⟨3, some 23, none, .mov (.t 2)⟩,
    ⟨4, some 24, none, .call 93 [(.mv, (.t 21)), (.im, (.t 22)), (.im, (.t 23))]⟩,
    ⟨5, none, none, .store (.t 6) (.t 24) 4⟩])
  (.ret))))⟩
/-- spec.DrawMachineRun -/
def a38 : AFn := ⟨1, [.cell 2 4 true, .tmp 3],
  .seq (.reg [⟨0, some 2, none, .alloc [.nils, .nils, .nils, .nils]⟩,
    ⟨1, some 3, none, .mov (.k .nils)⟩])
  (.seq (.reg [⟨0, some 6, none, .mov (.t 0)⟩,
    ⟨1, some 7, none, .call 59 [(.im, (.t 6))]⟩,
    ⟨2, some 4, none, .mov (.t 7)⟩])
  (.seq (.reg [⟨0, some 8, none, .mov (.t 4)⟩,
    ⟨1, some 9, none, .call 60 [(.io 3, (.t 8))]⟩,
    ⟨2, some 5, none, .alloc [.nils, .nils, .nils, .nils]⟩,
    ⟨3, none, none, .store (.t 5) (.t 9) 4⟩])
  (.seq (.dreg [⟨0, some 10, none, .load (.t 5) 4 true⟩,
    ⟨1, some 11, none, .mov (.t 4)⟩,
    ⟨2, some 12, none, .fa (.t 5) 1⟩,
    ⟨3, some 13, none, .load (.t 12) 1 false⟩,
    ⟨4, some 14, none, .len (.t 13)⟩,
    ⟨5, some 15, none, .bin .add (.t 14) (.k (.int .i64 1))⟩,
    ⟨6, some 16, none, .call 94 [(.io 3, (.t 11)), (.im, (.t 15)), (.im, (.k (.int .i64 15)))]⟩,
    ⟨7, none, none, .store (.t 2) (.t 10) 4⟩,
    ⟨8, some 3, none, .mov (.t 16)⟩] [(0, 7)])
  (.ret))))⟩
/-- spec.MachineRun -/
def a39 : AFn := ⟨2, [.cell 4 4 true, .tmp 5],
  .seq (.reg [⟨0, some 2, none, .box (.t 0)⟩,
    ⟨1, some 4, none, .alloc [.nils, .nils, .nils, .nils]⟩,
    ⟨2, some 5, none, .mov (.k .nils)⟩])
  (.seq (.reg [⟨0, some 10, none, .bslice 1 0 [.int .i64 0] []⟩,
    ⟨1, some 6, none, .mov (.t 10)⟩])
  (.seq (.reg [⟨0, some 11, none, .load (.t 2) 4 true⟩,
    ⟨1, some 12, none, .call 64 [(.im, (.t 11))]⟩,
    ⟨2, some 7, none, .alloc [.nils, .nils, .nils, .nils]⟩,
    ⟨3, none, none, .store (.t 7) (.t 12) 4⟩])
  (.seq (.seq (.reg [⟨0, some 13, none, .load (.t 2) 4 true⟩,
    ⟨1, some 14, none, .call 24 [(.im, (.t 13))]⟩,
    ⟨2, some 15, none, .un .not (.t 14)⟩,
    ⟨3, some 16, none, .mov (.t 15)⟩,
    ⟨4, some 17, (some (16, false)), .mov (.t 1)⟩,
    ⟨5, some 18, (some (16, false)), .len (.t 17)⟩,
    ⟨6, some 19, (some (16, false)), .bin .gtr (.t 18) (.k (.int .i64 4000))⟩,
    ⟨7, some 20, none, .pick (.t 16) (.k (.bool true)) (.t 19)⟩])
  (.cond (.t 20) (.seq (.reg [⟨0, some 21, none, .load (.t 7) 4 true⟩,
    ⟨1, some 22, none, .mov (.t 6)⟩,
    ⟨2, none, none, .store (.t 4) (.t 21) 4⟩,
    ⟨3, some 5, none, .mov (.t 22)⟩])
  (.ret)) (.skip)))
  (.seq (.seq (.reg [⟨0, some 8, none, .mov (.k (.int .i64 0))⟩])
  (.block 0 (.loop (.seq (.seq (.reg [⟨0, some 23, none, .mov (.t 8)⟩,
    ⟨1, some 24, none, .mov (.t 1)⟩,
    ⟨2, some 25, none, .len (.t 24)⟩,
    ⟨3, some 26, none, .bin .lss (.t 23) (.t 25)⟩])
  (.cond (.t 26) (.skip) (.exit 0)))
  (.seq (.block 1 (.seq (.reg [⟨0, some 9, none, .mov (.k (.int .i64 2))⟩])
  (.seq (.seq (.dreg [⟨0, some 29, none, .mov (.t 1)⟩,
    ⟨1, some 30, none, .mov (.t 8)⟩,
    ⟨2, some 31, none, .ix (.t 29) (.t 30) 2⟩,
    ⟨3, some 32, none, .fa (.t 31) 0⟩,
    ⟨4, some 33, none, .load (.t 32) 1 false⟩,
    ⟨5, some 34, none, .fa (.t 2) 1⟩,
    ⟨6, some 35, none, .load (.t 34) 1 false⟩,
    ⟨7, some 36, none, .len (.t 35)⟩,
    ⟨8, some 37, none, .bin .sub (.t 36) (.k (.int .i64 1))⟩,
    ⟨9, some 38, none, .call 63 [(.im, (.t 33)), (.im, (.k (.int .i64 0))), (.im, (.t 37))]⟩] [])
  (.cond (.t 38) (.seq (.reg [⟨0, some 9, none, .mov (.k (.int .i64 3))⟩])
  (.seq (.dreg [⟨0, some 39, none, .fa (.t 7) 1⟩,
    ⟨1, some 40, none, .load (.t 39) 1 false⟩,
    ⟨2, some 41, none, .mov (.t 1)⟩,
    ⟨3, some 42, none, .mov (.t 8)⟩,
    ⟨4, some 43, none, .ix (.t 41) (.t 42) 2⟩,
    ⟨5, some 44, none, .fa (.t 43) 0⟩,
    ⟨6, some 45, none, .load (.t 44) 1 false⟩,
    ⟨7, some 46, none, .ix (.t 40) (.t 45) 4⟩,
    ⟨8, some 47, none, .fa (.t 46) 3⟩,
    ⟨9, some 48, none, .load (.t 47) 1 false⟩,
    ⟨10, some 49, none, .bin .eql (.t 48) (.k (.int .i64 0))⟩] [])
  (.cond (.t 49) (.dreg [⟨0, some 51, none, .load (.t 7) 4 true⟩,
    ⟨1, some 52, none, .mov (.t 1)⟩,
    ⟨2, some 53, none, .mov (.t 8)⟩,
    ⟨3, some 54, none, .ix (.t 52) (.t 53) 2⟩,
    ⟨4, some 55, none, .load (.t 54) 2 true⟩,
    ⟨5, some 56, none, .call 65 [(.mv, (.t 51)), (.im, (.t 55))]⟩,
    ⟨6, some 50, none, .mov (.t 56)⟩,
    ⟨7, some 57, none, .ext (.t 50) 0⟩,
    ⟨8, some 58, none, .ext (.t 50) 1⟩,
    ⟨9, none, none, .store (.t 7) (.t 57) 4⟩,
    ⟨10, some 9, none, .mov (.t 58)⟩] []) (.skip)))) (.skip)))
  (.reg [⟨0, some 59, none, .mov (.t 6)⟩,
    ⟨1, some 60, none, .mov (.t 9)⟩,
    ⟨2, some 61, none, .bslice 1 1 [.int .i64 0] [(0, 1, (.t 60))]⟩,
    ⟨3, some 62, none, .app 1 8 (.t 59) (.t 61)⟩,
    ⟨4, some 6, none, .mov (.t 62)⟩]))))
  (.reg [⟨0, some 27, none, .mov (.t 8)⟩,
    ⟨1, some 28, none, .bin .add (.t 27) (.k (.int .i64 1))⟩,
    ⟨2, some 8, none, .mov (.t 28)⟩]))))))
  (.seq (.reg [⟨0, some 63, none, .load (.t 7) 4 true⟩,
    ⟨1, some 64, none, .mov (.t 6)⟩,
    ⟨2, none, none, .store (.t 4) (.t 63) 4⟩,
    ⟨3, some 5, none, .mov (.t 64)⟩])
  (.ret))))))⟩
/-- spec.DrawMachineNew -/
def a40 : AFn := ⟨1, [.tmp 2],
  .seq (.reg [⟨0, some 2, none, .mov (.k .nils)⟩])
  (.seq (.reg [⟨0, some 8, none, .mov (.t 0)⟩,
    ⟨1, some 9, none, .call 59 [(.im, (.t 8))]⟩,
    ⟨2, some 3, none, .mov (.t 9)⟩])
  (.seq (.reg [⟨0, some 10, none, .bslice 1 0 [.nils] []⟩,
    ⟨1, some 4, none, .mov (.t 10)⟩])
  (.seq (.reg [⟨0, some 11, none, .mov (.t 3)⟩,
    ⟨1, some 12, none, .call 61 [(.io 3, (.t 11)), (.im, (.k (.int .i64 4)))]⟩,
    ⟨2, some 13, none, .bin .add (.k (.int .i64 1)) (.t 12)⟩,
    ⟨3, some 5, none, .mov (.t 13)⟩])
  (.seq (.seq (.reg [⟨0, some 14, none, .mov (.t 3)⟩,
    ⟨1, some 15, none, .call 95 [(.io 3, (.t 14)), (.im, (.k (.int .i64 9)))]⟩])
  (.cond (.t 15) (.reg [⟨0, some 16, none, .mov (.t 3)⟩,
    ⟨1, some 17, none, .bslice 1 2 [.int .i64 0] [(0, 1, (.k (.int .i64 0))), (1, 1, (.k (.int .i64 5)))]⟩,
    ⟨2, some 18, none, .call 62 [(.io 3, (.t 16)), (.im, (.t 17))]⟩,
    ⟨3, some 5, none, .mov (.t 18)⟩]) (.skip)))
  (.seq (.seq (.reg [⟨0, some 6, none, .mov (.k (.int .i64 0))⟩])
  (.block 0 (.loop (.seq (.seq (.reg [⟨0, some 19, none, .mov (.t 6)⟩,
    ⟨1, some 20, none, .mov (.t 5)⟩,
    ⟨2, some 21, none, .bin .lss (.t 19) (.t 20)⟩])
  (.cond (.t 21) (.skip) (.exit 0)))
  (.seq (.block 1 (.seq (.reg [⟨0, some 24, none, .mov (.t 3)⟩,
    ⟨1, some 25, none, .call 96 [(.io 3, (.t 24))]⟩,
    ⟨2, some 7, none, .mov (.t 25)⟩])
  (.seq (.seq (.reg [⟨0, some 26, none, .mov (.t 3)⟩,
    ⟨1, some 27, none, .call 95 [(.io 3, (.t 26)), (.im, (.k (.int .i64 9)))]⟩])
  (.cond (.t 27) (.reg [⟨0, some 28, none, .mov (.t 7)⟩,
    ⟨1, some 29, none, .mov (.t 3)⟩,
    ⟨2, some 30, none, .mov (.t 7)⟩,
    ⟨3, some 31, none, .ix (.t 30) (.k (.int .i64 0)) 5⟩,
    ⟨4, some 32, none, .load (.t 31) 5 true⟩,
    ⟨5, some 33, none, .call 97 [(.io 3, (.t 29)), (.im, (.t 32))]⟩,
    ⟨6, some 34, none, .ix (.t 28) (.k (.int .i64 0)) 5⟩,
    ⟨7, none, none, .store (.t 34) (.t 33) 5⟩]) (.skip)))
  (.reg [⟨0, some 35, none, .mov (.t 4)⟩,
    ⟨1, some 36, none, .mov (.t 7)⟩,
    ⟨2, some 37, none, .bslice 1 1 [.nils] [(0, 1, (.t 36))]⟩,
    ⟨3, some 38, none, .app 1 24 (.t 35) (.t 37)⟩,
    ⟨4, some 4, none, .mov (.t 38)⟩]))))
  (.reg [⟨0, some 22, none, .mov (.t 6)⟩,
    ⟨1, some 23, none, .bin .add (.t 22) (.k (.int .i64 1))⟩,
    ⟨2, some 6, none, .mov (.t 23)⟩]))))))
  (.seq (.reg [⟨0, some 39, none, .mov (.t 4)⟩,
    ⟨1, some 2, none, .mov (.t 39)⟩])
  (.ret)))))))⟩
/-- impl.MemoryOk -/
def a41 : AFn := ⟨1, [.tmp 2],
  .seq (.reg [⟨0, some 1, none, .box (.t 0)⟩,
    ⟨1, some 2, none, .mov (.k (.bool false))⟩])
  (.seq (.seq (.reg [⟨0, some 7, none, .fa (.t 1) 0⟩,
    ⟨1, some 8, none, .load (.t 7) 1 false⟩,
    ⟨2, some 9, none, .len (.t 8)⟩,
    ⟨3, some 10, none, .mov (.k (.int .i64 0))⟩])
  (.block 0 (.loop (.seq (.reg [⟨0, some 11, none, .bin .lss (.t 10) (.t 9)⟩])
  (.seq (.cond (.t 11) (.skip) (.exit 0))
  (.seq (.block 1 (.seq (.reg [⟨0, some 12, none, .ix (.t 8) (.t 10) 1⟩,
    ⟨1, some 13, none, .load (.t 12) 1 false⟩,
    ⟨2, some 4, none, .mov (.t 13)⟩])
  (.seq (.seq (.reg [⟨0, some 14, none, .mov (.t 4)⟩,
    ⟨1, some 15, none, .len (.t 14)⟩,
    ⟨2, some 16, none, .call 50 [(.im, (.t 15)), (.im, (.k (.int .i64 1))), (.im, (.k (.int .i64 4000)))]⟩,
    ⟨3, some 17, none, .un .not (.t 16)⟩])
  (.cond (.t 17) (.seq (.reg [⟨0, some 2, none, .mov (.k (.bool false))⟩])
  (.ret)) (.skip)))
  (.seq (.reg [⟨0, some 18, none, .mov (.t 4)⟩,
    ⟨1, some 19, none, .len (.t 18)⟩,
    ⟨2, some 20, none, .mov (.k (.int .i64 0))⟩])
  (.block 2 (.loop (.seq (.reg [⟨0, some 21, none, .bin .lss (.t 20) (.t 19)⟩])
  (.seq (.cond (.t 21) (.skip) (.exit 2))
  (.seq (.block 3 (.seq (.reg [⟨0, some 22, none, .ix (.t 18) (.t 20) 2⟩,
    ⟨1, some 23, none, .load (.t 22) 2 true⟩,
    ⟨2, some 6, none, .alloc [.int .i64 0, .nils]⟩,
    ⟨3, none, none, .store (.t 6) (.t 23) 2⟩])
  (.seq (.reg [⟨0, some 24, none, .load (.t 1) 1 true⟩,
    ⟨1, some 25, none, .fa (.t 6) 1⟩,
    ⟨2, some 26, none, .load (.t 25) 1 false⟩,
    ⟨3, some 27, none, .call 69 [(.im, (.t 24)), (.im, (.t 26))]⟩,
    ⟨4, some 28, none, .un .not (.t 27)⟩])
  (.cond (.t 28) (.seq (.reg [⟨0, some 2, none, .mov (.k (.bool false))⟩])
  (.ret)) (.skip)))))
  (.reg [⟨0, some 29, none, .bin .add (.t 20) (.k (.int .i64 1))⟩,
    ⟨1, some 20, none, .mov (.t 29)⟩]))))))))))
  (.reg [⟨0, some 30, none, .bin .add (.t 10) (.k (.int .i64 1))⟩,
    ⟨1, some 10, none, .mov (.t 30)⟩])))))))
  (.seq (.reg [⟨0, some 31, none, .fa (.t 1) 0⟩,
    ⟨1, some 32, none, .load (.t 31) 1 false⟩,
    ⟨2, some 33, none, .len (.t 32)⟩,
    ⟨3, some 34, none, .bin .eql (.t 33) (.k (.int .i64 24))⟩,
    ⟨4, some 2, none, .mov (.t 34)⟩])
  (.ret)))⟩
/-- impl.MemoryNew -/
def a42 : AFn := ⟨0, [.cell 0 1 true],
  .seq (.reg [⟨0, some 0, none, .alloc [.nils]⟩])
  (.seq (.reg [⟨0, some 2, none, .build [.nils] []⟩,
    ⟨1, some 1, none, .alloc [.nils]⟩,
    ⟨2, none, none, .store (.t 1) (.t 2) 1⟩])
  (.seq (.seq (.reg [⟨0, some 3, none, .mov (.k (.int .i64 0))⟩])
  (.block 0 (.loop (.seq (.reg [⟨0, some 4, none, .bin .lss (.t 3) (.k (.int .i64 24))⟩])
  (.seq (.cond (.t 4) (.skip) (.exit 0))
  (.seq (.block 1 (.dreg [⟨0, some 5, none, .fa (.t 1) 0⟩,
    ⟨1, some 6, none, .load (.t 5) 1 false⟩,
    ⟨2, some 7, none, .mks 1 8 [.int .i64 0] (.k (.int .i64 24)) (.k (.int .i64 24))⟩,
    ⟨3, some 8, none, .build [.int .i64 0, .nils] [(1, 1, (.t 7))]⟩,
    ⟨4, some 9, none, .bslice 2 1 [.int .i64 0, .nils] [(0, 2, (.t 8))]⟩,
    ⟨5, some 10, none, .bslice 1 1 [.nils] [(0, 1, (.t 9))]⟩,
    ⟨6, some 11, none, .app 1 24 (.t 6) (.t 10)⟩,
    ⟨7, some 12, none, .fa (.t 1) 0⟩,
    ⟨8, none, none, .store (.t 12) (.t 11) 1⟩] [(1, 6)]))
  (.reg [⟨0, some 13, none, .bin .add (.t 3) (.k (.int .i64 1))⟩,
    ⟨1, some 3, none, .mov (.t 13)⟩])))))))
  (.seq (.reg [⟨0, some 14, none, .load (.t 1) 1 true⟩,
    ⟨1, none, none, .store (.t 0) (.t 14) 1⟩])
  (.ret))))⟩
/-- spec.l8Codes -/
def a45 : AFn := ⟨1, [.tmp 2],
  .seq (.reg [⟨0, some 2, none, .mov (.k .nils)⟩])
  (.seq (.reg [⟨0, some 5, none, .bslice 1 0 [.nils] []⟩,
    ⟨1, some 3, none, .mov (.t 5)⟩])
  (.seq (.seq (.reg [⟨0, some 4, none, .mov (.k (.int .i64 0))⟩])
  (.block 0 (.loop (.seq (.seq (.reg [⟨0, some 6, none, .mov (.t 4)⟩,
    ⟨1, some 7, none, .mov (.t 0)⟩,
    ⟨2, some 8, none, .len (.t 7)⟩,
    ⟨3, some 9, none, .bin .lss (.t 6) (.t 8)⟩])
  (.cond (.t 9) (.skip) (.exit 0)))
  (.seq (.block 1 (.reg [⟨0, some 12, none, .mov (.t 3)⟩,
    ⟨1, some 13, none, .bslice 5 0 [.int .i64 0, .int .i64 0, .int .i64 0, .int .i64 0, .int .i64 0] []⟩,
    ⟨2, some 14, none, .mov (.t 0)⟩,
    ⟨3, some 15, none, .mov (.t 4)⟩,
    ⟨4, some 16, none, .ix (.t 14) (.t 15) 1⟩,
    ⟨5, some 17, none, .load (.t 16) 1 false⟩,
    ⟨6, some 18, none, .app 5 40 (.t 13) (.t 17)⟩,
    ⟨7, some 19, none, .bslice 1 1 [.nils] [(0, 1, (.t 18))]⟩,
    ⟨8, some 20, none, .app 1 24 (.t 12) (.t 19)⟩,
    ⟨9, some 3, none, .mov (.t 20)⟩]))
  (.reg [⟨0, some 10, none, .mov (.t 4)⟩,
    ⟨1, some 11, none, .bin .add (.t 10) (.k (.int .i64 1))⟩,
    ⟨2, some 4, none, .mov (.t 11)⟩]))))))
  (.seq (.reg [⟨0, some 21, none, .mov (.t 3)⟩,
    ⟨1, some 2, none, .mov (.t 21)⟩])
  (.ret))))⟩
/-- spec.MemoryNew -/
def a46 : AFn := ⟨0, [.cell 0 1 true],
  .seq (.reg [⟨0, some 0, none, .alloc [.nils]⟩])
  (.seq (.reg [⟨0, some 3, none, .build [.nils] []⟩,
    ⟨1, some 1, none, .alloc [.nils]⟩,
    ⟨2, none, none, .store (.t 1) (.t 3) 1⟩])
  (.seq (.seq (.reg [⟨0, some 2, none, .mov (.k (.int .i64 0))⟩])
  (.block 0 (.loop (.seq (.seq (.reg [⟨0, some 4, none, .mov (.t 2)⟩,
    ⟨1, some 5, none, .bin .lss (.t 4) (.k (.int .i64 24))⟩])
  (.cond (.t 5) (.skip) (.exit 0)))
  (.seq (.block 1 (.dreg [⟨0, some 8, none, .fa (.t 1) 0⟩,
    ⟨1, some 9, none, .load (.t 8) 1 false⟩,
    ⟨2, some 10, none, .mks 1 8 [.int .i64 0] (.k (.int .i64 24)) (.k (.int .i64 24))⟩,
    ⟨3, some 11, none, .build [.int .i64 0, .nils] [(1, 1, (.t 10))]⟩,
    ⟨4, some 12, none, .bslice 2 1 [.int .i64 0, .nils] [(0, 2, (.t 11))]⟩,
    ⟨5, some 13, none, .bslice 1 1 [.nils] [(0, 1, (.t 12))]⟩,
    ⟨6, some 14, none, .app 1 24 (.t 9) (.t 13)⟩,
    ⟨7, some 15, none, .fa (.t 1) 0⟩,
    ⟨8, none, none, .store (.t 15) (.t 14) 1⟩] [(1, 6)]))
  (.reg [⟨0, some 6, none, .mov (.t 2)⟩,
    ⟨1, some 7, none, .bin .add (.t 6) (.k (.int .i64 1))⟩,
    ⟨2, some 2, none, .mov (.t 7)⟩]))))))
  (.seq (.reg [⟨0, some 16, none, .load (.t 1) 1 true⟩,
    ⟨1, none, none, .store (.t 0) (.t 16) 1⟩])
  (.ret))))⟩
/-- impl.copyMachine -/
def a47 : AFn := ⟨1, [.cell 2 4 true],
  .seq (.reg [⟨0, some 1, none, .box (.t 0)⟩,
    ⟨1, some 2, none, .alloc [.nils, .nils, .nils, .nils]⟩])
  (.seq (.dreg [⟨0, some 8, none, .fa (.t 1) 2⟩,
    ⟨1, some 9, none, .load (.t 8) 1 true⟩,
    ⟨3, some 11, none, .fa (.t 1) 3⟩,
    ⟨4, some 12, none, .load (.t 11) 1 false⟩,
    ⟨7, some 3, none, .alloc [.nils, .nils, .nils, .nils]⟩,
    ⟨2, some 10, none, .call 101 [(.im, (.t 9))]⟩,
    ⟨5, some 13, none, .call 102 [(.im, (.t 12))]⟩,
    ⟨6, some 14, none, .build [.nils, .nils, .nils, .nils] [(2, 1, (.t 10)), (3, 1, (.t 13))]⟩,
    ⟨8, none, none, .store (.t 3) (.t 14) 4⟩] [(1, 5), (3, 5), (3, 6), (4, 6), (4, 8)])
  (.seq (.seq (.reg [⟨0, some 15, none, .fa (.t 1) 0⟩,
    ⟨1, some 16, none, .load (.t 15) 1 false⟩,
    ⟨2, some 17, none, .len (.t 16)⟩,
    ⟨3, some 18, none, .mov (.k (.int .i64 0))⟩])
  (.block 0 (.loop (.seq (.reg [⟨0, some 19, none, .bin .lss (.t 18) (.t 17)⟩])
  (.seq (.cond (.t 19) (.skip) (.exit 0))
  (.seq (.block 1 (.seq (.reg [⟨0, some 20, none, .ix (.t 16) (.t 18) 1⟩,
    ⟨1, some 21, none, .load (.t 20) 1 false⟩,
    ⟨2, some 5, none, .mov (.t 21)⟩])
  (.dreg [⟨0, some 22, none, .fa (.t 3) 0⟩,
    ⟨1, some 23, none, .load (.t 22) 1 false⟩,
    ⟨2, some 24, none, .bslice 5 0 [.int .i64 0, .int .i64 0, .int .i64 0, .int .i64 0, .int .i64 0] []⟩,
    ⟨3, some 25, none, .mov (.t 5)⟩,
    ⟨4, some 26, none, .app 5 40 (.t 24) (.t 25)⟩,
    ⟨5, some 27, none, .bslice 1 1 [.nils] [(0, 1, (.t 26))]⟩,
    ⟨6, some 28, none, .app 1 24 (.t 23) (.t 27)⟩,
    ⟨7, some 29, none, .fa (.t 3) 0⟩,
    ⟨8, none, none, .store (.t 29) (.t 28) 1⟩] [(1, 4), (1, 6)])))
  (.reg [⟨0, some 30, none, .bin .add (.t 18) (.k (.int .i64 1))⟩,
    ⟨1, some 18, none, .mov (.t 30)⟩])))))))
  (.seq (.seq (.reg [⟨0, some 31, none, .fa (.t 1) 1⟩,
    ⟨1, some 32, none, .load (.t 31) 1 false⟩,
    ⟨2, some 33, none, .len (.t 32)⟩,
    ⟨3, some 34, none, .mov (.k (.int .i64 0))⟩])
  (.block 2 (.loop (.seq (.reg [⟨0, some 35, none, .bin .lss (.t 34) (.t 33)⟩])
  (.seq (.cond (.t 35) (.skip) (.exit 2))
  (.seq (.block 3 (.seq (.reg [⟨0, some 36, none, .ix (.t 32) (.t 34) 4⟩,
    ⟨1, some 37, none, .load (.t 36) 4 true⟩,
    ⟨2, some 7, none, .alloc [.int .i64 0, .nils, .nils, .int .i64 0]⟩,
    ⟨3, none, none, .store (.t 7) (.t 37) 4⟩])
  (.dreg [⟨0, some 38, none, .fa (.t 3) 1⟩,
    ⟨1, some 39, none, .load (.t 38) 1 false⟩,
    ⟨2, some 40, none, .fa (.t 7) 0⟩,
    ⟨3, some 41, none, .load (.t 40) 1 false⟩,
    ⟨4, some 42, none, .fa (.t 7) 1⟩,
    ⟨5, some 43, none, .load (.t 42) 1 false⟩,
    ⟨7, some 45, none, .fa (.t 7) 2⟩,
    ⟨8, some 46, none, .load (.t 45) 1 false⟩,
    ⟨10, some 48, none, .fa (.t 7) 3⟩,
    ⟨11, some 49, none, .load (.t 48) 1 false⟩,
    ⟨6, some 44, none, .call 52 [(.im, (.t 43))]⟩,
    ⟨9, some 47, none, .call 52 [(.im, (.t 46))]⟩,
    ⟨12, some 50, none, .build [.int .i64 0, .nils, .nils, .int .i64 0] [(0, 1, (.t 41)), (1, 1, (.t 44)), (2, 1, (.t 47)), (3, 1, (.t 49))]⟩,
    ⟨13, some 51, none, .bslice 4 1 [.int .i64 0, .nils, .nils, .int .i64 0] [(0, 4, (.t 50))]⟩,
    ⟨14, some 52, none, .app 4 64 (.t 39) (.t 51)⟩,
    ⟨15, some 53, none, .fa (.t 3) 1⟩,
    ⟨16, none, none, .store (.t 53) (.t 52) 1⟩] [(1, 11), (1, 14), (3, 11), (3, 14), (7, 11), (9, 11), (9, 14)])))
  (.reg [⟨0, some 54, none, .bin .add (.t 34) (.k (.int .i64 1))⟩,
    ⟨1, some 34, none, .mov (.t 54)⟩])))))))
  (.seq (.reg [⟨0, some 55, none, .load (.t 3) 4 true⟩,
    ⟨1, none, none, .store (.t 2) (.t 55) 4⟩])
  (.ret)))))⟩
/-- impl.Machine).step -/
def a48 : AFn := ⟨2, [.tmp 4],
  .seq (.reg [⟨0, some 3, none, .box (.t 1)⟩,
    ⟨1, some 4, none, .mov (.k (.int .i64 0))⟩])
  (.seq (.seq (.reg [⟨0, some 10, none, .mov (.t 0)⟩,
    ⟨1, some 11, none, .fa (.t 3) 0⟩,
    ⟨2, some 12, none, .load (.t 11) 1 false⟩,
    ⟨3, some 13, none, .call 103 [(.im, (.t 10)), (.im, (.t 12))]⟩,
    ⟨4, some 14, none, .un .not (.t 13)⟩])
  (.cond (.t 14) (.seq (.reg [⟨0, some 4, none, .mov (.k (.int .i64 2))⟩])
  (.ret)) (.skip)))
  (.seq (.dreg [⟨0, some 15, none, .mov (.t 0)⟩,
    ⟨1, some 16, none, .nilck (.t 15)⟩,
    ⟨2, some 17, none, .fa (.t 16) 1⟩,
    ⟨3, some 18, none, .load (.t 17) 1 false⟩,
    ⟨4, some 19, none, .fa (.t 3) 0⟩,
    ⟨5, some 20, none, .load (.t 19) 1 false⟩,
    ⟨6, some 21, none, .ix (.t 18) (.t 20) 4⟩,
    ⟨7, some 5, none, .mov (.t 21)⟩] [])
  (.seq (.dreg [⟨0, some 22, none, .mov (.t 0)⟩,
    ⟨1, some 23, none, .nilck (.t 22)⟩,
    ⟨2, some 24, none, .fa (.t 23) 0⟩,
    ⟨3, some 25, none, .load (.t 24) 1 false⟩,
    ⟨4, some 26, none, .fa (.t 3) 0⟩,
    ⟨5, some 27, none, .load (.t 26) 1 false⟩,
    ⟨6, some 28, none, .ix (.t 25) (.t 27) 1⟩,
    ⟨7, some 29, none, .load (.t 28) 1 false⟩,
    ⟨8, some 30, none, .mov (.t 5)⟩,
    ⟨9, some 31, none, .nilck (.t 30)⟩,
    ⟨10, some 32, none, .fa (.t 31) 0⟩,
    ⟨11, some 33, none, .load (.t 32) 1 false⟩,
    ⟨12, some 34, none, .ix (.t 29) (.t 33) 5⟩,
    ⟨13, some 35, none, .load (.t 34) 5 true⟩,
    ⟨14, some 6, none, .alloc [.int .i64 0, .int .i64 0, .int .i64 0, .int .i64 0, .int .i64 0]⟩,
    ⟨15, none, none, .store (.t 6) (.t 35) 5⟩] [(3, 15), (5, 15), (7, 15), (11, 15), (13, 15)])
  (.seq (.seq (.reg [⟨0, some 36, none, .mov (.t 5)⟩,
    ⟨1, some 37, none, .nilck (.t 36)⟩,
    ⟨2, some 38, none, .fa (.t 37) 3⟩,
    ⟨3, some 39, none, .load (.t 38) 1 false⟩,
    ⟨4, some 40, none, .bin .neq (.t 39) (.k (.int .i64 0))⟩,
    ⟨5, some 41, none, .mov (.t 40)⟩,
    ⟨6, some 42, (some (41, false)), .fa (.t 6) 0⟩,
    ⟨7, some 43, (some (41, false)), .load (.t 42) 1 false⟩,
    ⟨8, some 44, (some (41, false)), .bin .eql (.t 43) (.k (.int .i64 9))⟩,
    ⟨9, some 45, (some (41, false)), .mov (.t 44)⟩,
    ⟨10, some 46, (some (45, true)), .mov (.t 0)⟩,
    ⟨11, some 47, (some (45, true)), .nilck (.t 46)⟩,
    ⟨12, some 48, (some (45, true)), .fa (.t 47) 3⟩,
    ⟨13, some 49, (some (45, true)), .load (.t 48) 1 false⟩,
    ⟨14, some 50, (some (45, true)), .len (.t 49)⟩,
    ⟨15, some 51, (some (45, true)), .bin .eql (.t 50) (.k (.int .i64 4000))⟩,
    ⟨16, some 52, (some (41, false)), .pick (.t 45) (.t 51) (.k (.bool false))⟩,
    ⟨17, some 53, none, .pick (.t 41) (.k (.bool true)) (.t 52)⟩])
  (.cond (.t 53) (.seq (.reg [⟨0, some 4, none, .mov (.k (.int .i64 3))⟩])
  (.ret)) (.skip)))
  (.seq (.reg [⟨0, some 54, none, .mov (.t 5)⟩,
    ⟨1, some 55, none, .nilck (.t 54)⟩,
    ⟨2, some 56, none, .fa (.t 55) 0⟩,
    ⟨3, some 57, none, .load (.t 56) 1 false⟩,
    ⟨4, some 58, none, .bin .add (.t 57) (.k (.int .i64 1))⟩,
    ⟨5, some 7, none, .mov (.t 58)⟩])
  (.seq (.seq (.reg [⟨0, some 59, none, .fa (.t 6) 0⟩,
    ⟨1, some 60, none, .load (.t 59) 1 false⟩])
  (.block 0 (.seq (.reg [⟨0, some 62, none, .bin .eql (.t 60) (.k (.int .i64 1))⟩,
    ⟨1, some 61, none, .mov (.t 62)⟩])
  (.cond (.t 61) (.dreg [⟨0, some 63, none, .mov (.t 5)⟩,
    ⟨1, some 64, none, .nilck (.t 63)⟩,
    ⟨2, some 65, none, .fa (.t 64) 1⟩,
    ⟨3, some 66, none, .load (.t 65) 1 false⟩,
    ⟨4, some 67, none, .fa (.t 6) 1⟩,
    ⟨5, some 68, none, .load (.t 67) 1 false⟩,
    ⟨6, some 69, none, .fa (.t 6) 4⟩,
    ⟨7, some 70, none, .load (.t 69) 1 false⟩,
    ⟨8, some 71, none, .ix (.t 66) (.t 68) 1⟩,
    ⟨9, none, none, .store (.t 71) (.t 70) 1⟩] []) (.seq (.reg [⟨0, some 73, none, .bin .eql (.t 60) (.k (.int .i64 2))⟩,
    ⟨1, some 72, none, .mov (.t 73)⟩])
  (.cond (.t 72) (.dreg [⟨0, some 74, none, .mov (.t 5)⟩,
    ⟨1, some 75, none, .nilck (.t 74)⟩,
    ⟨2, some 76, none, .fa (.t 75) 1⟩,
    ⟨3, some 77, none, .load (.t 76) 1 false⟩,
    ⟨4, some 78, none, .fa (.t 6) 1⟩,
    ⟨5, some 79, none, .load (.t 78) 1 false⟩,
    ⟨6, some 80, none, .mov (.t 5)⟩,
    ⟨7, some 81, none, .nilck (.t 80)⟩,
    ⟨8, some 82, none, .fa (.t 81) 1⟩,
    ⟨9, some 83, none, .load (.t 82) 1 false⟩,
    ⟨10, some 84, none, .fa (.t 6) 2⟩,
    ⟨11, some 85, none, .load (.t 84) 1 false⟩,
    ⟨12, some 86, none, .ix (.t 83) (.t 85) 1⟩,
    ⟨13, some 87, none, .load (.t 86) 1 false⟩,
    ⟨14, some 88, none, .mov (.t 5)⟩,
    ⟨15, some 89, none, .nilck (.t 88)⟩,
    ⟨16, some 90, none, .fa (.t 89) 1⟩,
    ⟨17, some 91, none, .load (.t 90) 1 false⟩,
    ⟨18, some 92, none, .fa (.t 6) 3⟩,
    ⟨19, some 93, none, .load (.t 92) 1 false⟩,
    ⟨20, some 94, none, .ix (.t 91) (.t 93) 1⟩,
    ⟨21, some 95, none, .load (.t 94) 1 false⟩,
    ⟨22, some 96, none, .bin .add (.t 87) (.t 95)⟩,
    ⟨23, some 97, none, .ix (.t 77) (.t 79) 1⟩,
    ⟨24, none, none, .store (.t 97) (.t 96) 1⟩] []) (.seq (.reg [⟨0, some 99, none, .bin .eql (.t 60) (.k (.int .i64 3))⟩,
    ⟨1, some 98, none, .mov (.t 99)⟩])
  (.cond (.t 98) (.dreg [⟨0, some 100, none, .mov (.t 5)⟩,
    ⟨1, some 101, none, .nilck (.t 100)⟩,
    ⟨2, some 102, none, .fa (.t 101) 1⟩,
    ⟨3, some 103, none, .load (.t 102) 1 false⟩,
    ⟨4, some 104, none, .fa (.t 6) 1⟩,
    ⟨5, some 105, none, .load (.t 104) 1 false⟩,
    ⟨6, some 106, none, .mov (.t 5)⟩,
    ⟨7, some 107, none, .nilck (.t 106)⟩,
    ⟨8, some 108, none, .fa (.t 107) 1⟩,
    ⟨9, some 109, none, .load (.t 108) 1 false⟩,
    ⟨10, some 110, none, .fa (.t 6) 2⟩,
    ⟨11, some 111, none, .load (.t 110) 1 false⟩,
    ⟨12, some 112, none, .ix (.t 109) (.t 111) 1⟩,
    ⟨13, some 113, none, .load (.t 112) 1 false⟩,
    ⟨14, some 114, none, .mov (.t 5)⟩,
    ⟨15, some 115, none, .nilck (.t 114)⟩,
    ⟨16, some 116, none, .fa (.t 115) 1⟩,
    ⟨17, some 117, none, .load (.t 116) 1 false⟩,
    ⟨18, some 118, none, .fa (.t 6) 3⟩,
    ⟨19, some 119, none, .load (.t 118) 1 false⟩,
    ⟨20, some 120, none, .ix (.t 117) (.t 119) 1⟩,
    ⟨21, some 121, none, .load (.t 120) 1 false⟩,
    ⟨22, some 122, none, .bin .sub (.t 113) (.t 121)⟩,
    ⟨23, some 123, none, .ix (.t 103) (.t 105) 1⟩,
    ⟨24, none, none, .store (.t 123) (.t 122) 1⟩] []) (.seq (.reg [⟨0, some 125, none, .bin .eql (.t 60) (.k (.int .i64 4))⟩,
    ⟨1, some 124, none, .mov (.t 125)⟩])
  (.cond (.t 124) (.dreg [⟨0, some 126, none, .mov (.t 5)⟩,
    ⟨1, some 127, none, .nilck (.t 126)⟩,
    ⟨2, some 128, none, .fa (.t 127) 1⟩,
    ⟨3, some 129, none, .load (.t 128) 1 false⟩,
    ⟨4, some 130, none, .fa (.t 6) 1⟩,
    ⟨5, some 131, none, .load (.t 130) 1 false⟩,
    ⟨6, some 132, none, .mov (.t 5)⟩,
    ⟨7, some 133, none, .nilck (.t 132)⟩,
    ⟨8, some 134, none, .fa (.t 133) 1⟩,
    ⟨9, some 135, none, .load (.t 134) 1 false⟩,
    ⟨10, some 136, none, .fa (.t 6) 2⟩,
    ⟨11, some 137, none, .load (.t 136) 1 false⟩,
    ⟨12, some 138, none, .ix (.t 135) (.t 137) 1⟩,
    ⟨13, some 139, none, .load (.t 138) 1 false⟩,
    ⟨14, some 140, none, .mov (.t 5)⟩,
    ⟨15, some 141, none, .nilck (.t 140)⟩,
    ⟨16, some 142, none, .fa (.t 141) 1⟩,
    ⟨17, some 143, none, .load (.t 142) 1 false⟩,
    ⟨18, some 144, none, .fa (.t 6) 3⟩,
    ⟨19, some 145, none, .load (.t 144) 1 false⟩,
    ⟨20, some 146, none, .ix (.t 143) (.t 145) 1⟩,
    ⟨21, some 147, none, .load (.t 146) 1 false⟩,
    ⟨22, some 148, none, .bin .lss (.t 139) (.t 147)⟩,
    ⟨23, some 149, none, .call 104 [(.im, (.t 148))]⟩,
    ⟨24, some 150, none, .ix (.t 129) (.t 131) 1⟩,
    ⟨25, none, none, .store (.t 150) (.t 149) 1⟩] [(3, 25), (5, 25)]) (.seq (.seq (.reg [⟨0, some 152, none, .bin .eql (.t 60) (.k (.int .i64 5))⟩,
    ⟨1, some 151, none, .mov (.t 152)⟩])
  (.cond (.t 151) (.skip) (.seq (.reg [⟨0, some 153, none, .bin .eql (.t 60) (.k (.int .i64 6))⟩,
    ⟨1, some 151, none, .mov (.t 153)⟩])
  (.cond (.t 151) (.skip) (.seq (.reg [⟨0, some 154, none, .bin .eql (.t 60) (.k (.int .i64 7))⟩,
    ⟨1, some 151, none, .mov (.t 154)⟩])
  (.cond (.t 151) (.skip) (.reg [⟨0, some 155, none, .bin .eql (.t 60) (.k (.int .i64 8))⟩,
    ⟨1, some 151, none, .mov (.t 155)⟩])))))))
  (.cond (.t 151) (.seq (.reg [⟨0, some 157, none, .mov (.t 5)⟩,
    ⟨1, some 158, none, .load (.t 6) 5 true⟩,
    ⟨2, some 159, none, .call 105 [(.im, (.t 157)), (.im, (.t 158))]⟩,
    ⟨3, some 156, none, .mov (.t 159)⟩,
    ⟨4, some 160, none, .ext (.t 156) 0⟩,
    ⟨5, some 161, none, .ext (.t 156) 1⟩,
    ⟨6, some 8, none, .mov (.t 160)⟩,
    ⟨7, some 9, none, .mov (.t 161)⟩])
  (.seq (.seq (.reg [⟨0, some 162, none, .mov (.t 9)⟩,
    ⟨1, some 163, none, .mov (.t 162)⟩,
    ⟨2, some 164, (some (163, true)), .fa (.t 6) 0⟩,
    ⟨3, some 165, (some (163, true)), .load (.t 164) 1 false⟩,
    ⟨4, some 166, (some (163, true)), .bin .neq (.t 165) (.k (.int .i64 5))⟩,
    ⟨5, some 167, none, .pick (.t 163) (.t 166) (.k (.bool false))⟩,
    ⟨6, some 168, none, .mov (.t 167)⟩,
    ⟨7, some 169, (some (168, true)), .mov (.t 0)⟩,
    ⟨8, some 170, (some (168, true)), .nilck (.t 169)⟩,
    ⟨9, some 171, (some (168, true)), .fa (.t 170) 2⟩,
    ⟨10, some 172, (some (168, true)), .mov (.t 8)⟩,
    ⟨11, some 173, (some (168, true)), .call 106 [(.im, (.t 171)), (.im, (.t 172))]⟩,
    ⟨12, some 174, (some (168, true)), .un .not (.t 173)⟩,
    ⟨13, some 175, none, .pick (.t 168) (.t 174) (.k (.bool false))⟩])
  (.cond (.t 175) (.seq (.reg [⟨0, some 4, none, .mov (.k (.int .i64 3))⟩])
  (.ret)) (.skip)))
  (.seq (.seq (.reg [⟨0, some 176, none, .mov (.t 9)⟩,
    ⟨1, some 177, none, .un .not (.t 176)⟩])
  (.cond (.t 177) (.seq (.reg [⟨0, some 178, none, .mov (.t 5)⟩,
    ⟨1, some 179, none, .nilck (.t 178)⟩,
    ⟨2, some 180, none, .fa (.t 179) 3⟩,
    ⟨3, none, none, .store (.t 180) (.k (.int .i64 2)) 1⟩])
  (.seq (.reg [⟨0, some 4, none, .mov (.k (.int .i64 0))⟩])
  (.ret))) (.skip)))
  (.reg [⟨0, some 181, none, .mov (.t 0)⟩,
    ⟨1, some 182, none, .mov (.t 5)⟩,
    ⟨2, some 183, none, .load (.t 6) 5 true⟩,
    ⟨3, some 184, none, .mov (.t 8)⟩,
    ⟨4, some 185, none, .fa (.t 3) 1⟩,
    ⟨5, some 186, none, .load (.t 185) 1 false⟩,
    ⟨6, some 187, none, .call 107 [(.io 4, (.t 181)), (.sub, (.t 182)), (.im, (.t 183)), (.im, (.t 184)), (.im, (.t 186))]⟩])))) (.seq (.reg [⟨0, some 189, none, .bin .eql (.t 60) (.k (.int .i64 9))⟩,
    ⟨1, some 188, none, .mov (.t 189)⟩])
  (.cond (.t 188) (.dreg [⟨0, some 190, none, .mov (.t 0)⟩,
    ⟨1, some 191, none, .mov (.t 0)⟩,
    ⟨2, some 192, none, .nilck (.t 191)⟩,
    ⟨3, some 193, none, .fa (.t 192) 3⟩,
    ⟨4, some 194, none, .load (.t 193) 1 false⟩,
    ⟨5, some 195, none, .fa (.t 3) 0⟩,
    ⟨6, some 196, none, .load (.t 195) 1 false⟩,
    ⟨7, some 197, none, .mov (.t 5)⟩,
    ⟨8, some 198, none, .nilck (.t 197)⟩,
    ⟨9, some 199, none, .fa (.t 198) 1⟩,
    ⟨10, some 200, none, .load (.t 199) 1 false⟩,
    ⟨11, some 201, none, .fa (.t 6) 2⟩,
    ⟨12, some 202, none, .load (.t 201) 1 false⟩,
    ⟨13, some 203, none, .ix (.t 200) (.t 202) 1⟩,
    ⟨14, some 204, none, .load (.t 203) 1 false⟩,
    ⟨15, some 205, none, .build [.int .i64 0, .int .i64 0] [(0, 1, (.t 196)), (1, 1, (.t 204))]⟩,
    ⟨16, some 206, none, .bslice 2 1 [.int .i64 0, .int .i64 0] [(0, 2, (.t 205))]⟩,
    ⟨17, some 207, none, .app 2 16 (.t 194) (.t 206)⟩,
    ⟨18, some 208, none, .nilck (.t 190)⟩,
    ⟨19, some 209, none, .fa (.t 208) 3⟩,
    ⟨20, none, none, .store (.t 209) (.t 207) 1⟩] [(4, 17), (6, 17), (10, 17), (12, 17), (14, 17)]) (.seq (.reg [⟨0, some 211, none, .bin .eql (.t 60) (.k (.int .i64 10))⟩,
    ⟨1, some 210, none, .mov (.t 211)⟩])
  (.cond (.t 210) (.reg [⟨0, some 212, none, .fa (.t 6) 4⟩,
    ⟨1, some 213, none, .load (.t 212) 1 false⟩,
    ⟨2, some 7, none, .mov (.t 213)⟩]) (.seq (.reg [⟨0, some 215, none, .bin .eql (.t 60) (.k (.int .i64 11))⟩,
    ⟨1, some 214, none, .mov (.t 215)⟩])
  (.cond (.t 214) (.seq (.dreg [⟨0, some 216, none, .mov (.t 5)⟩,
    ⟨1, some 217, none, .nilck (.t 216)⟩,
    ⟨2, some 218, none, .fa (.t 217) 1⟩,
    ⟨3, some 219, none, .load (.t 218) 1 false⟩,
    ⟨4, some 220, none, .fa (.t 6) 2⟩,
    ⟨5, some 221, none, .load (.t 220) 1 false⟩,
    ⟨6, some 222, none, .ix (.t 219) (.t 221) 1⟩,
    ⟨7, some 223, none, .load (.t 222) 1 false⟩,
    ⟨8, some 224, none, .bin .eql (.t 223) (.k (.int .i64 0))⟩] [])
  (.cond (.t 224) (.reg [⟨0, some 225, none, .fa (.t 6) 4⟩,
    ⟨1, some 226, none, .load (.t 225) 1 false⟩,
    ⟨2, some 7, none, .mov (.t 226)⟩]) (.skip))) (.seq (.reg [⟨0, some 228, none, .bin .eql (.t 60) (.k (.int .i64 12))⟩,
    ⟨1, some 227, none, .mov (.t 228)⟩])
  (.cond (.t 227) (.seq (.reg [⟨0, some 229, none, .mov (.t 5)⟩,
    ⟨1, some 230, none, .nilck (.t 229)⟩,
    ⟨2, some 231, none, .fa (.t 230) 3⟩,
    ⟨3, none, none, .store (.t 231) (.k (.int .i64 1)) 1⟩])
  (.seq (.reg [⟨0, some 4, none, .mov (.k (.int .i64 0))⟩])
  (.ret))) (.seq (.reg [⟨0, some 233, none, .bin .eql (.t 60) (.k (.int .i64 13))⟩,
    ⟨1, some 232, none, .mov (.t 233)⟩])
  (.cond (.t 232) (.seq (.reg [⟨0, some 234, none, .mov (.t 5)⟩,
    ⟨1, some 235, none, .nilck (.t 234)⟩,
    ⟨2, some 236, none, .fa (.t 235) 3⟩,
    ⟨3, none, none, .store (.t 236) (.k (.int .i64 2)) 1⟩])
  (.seq (.reg [⟨0, some 4, none, .mov (.k (.int .i64 0))⟩])
  (.ret))) (.skip)))))))))))))))))))))))
  (.seq (.seq (.dreg [⟨0, some 237, none, .mov (.t 7)⟩,
    ⟨1, some 238, none, .mov (.t 0)⟩,
    ⟨2, some 239, none, .nilck (.t 238)⟩,
    ⟨3, some 240, none, .fa (.t 239) 0⟩,
    ⟨4, some 241, none, .load (.t 240) 1 false⟩,
    ⟨5, some 242, none, .fa (.t 3) 0⟩,
    ⟨6, some 243, none, .load (.t 242) 1 false⟩,
    ⟨7, some 244, none, .ix (.t 241) (.t 243) 1⟩,
    ⟨8, some 245, none, .load (.t 244) 1 false⟩,
    ⟨9, some 246, none, .len (.t 245)⟩,
    ⟨10, some 247, none, .bin .geq (.t 237) (.t 246)⟩] [])
  (.cond (.t 247) (.seq (.reg [⟨0, some 248, none, .mov (.t 5)⟩,
    ⟨1, some 249, none, .nilck (.t 248)⟩,
    ⟨2, some 250, none, .fa (.t 249) 3⟩,
    ⟨3, none, none, .store (.t 250) (.k (.int .i64 2)) 1⟩])
  (.seq (.reg [⟨0, some 4, none, .mov (.k (.int .i64 0))⟩])
  (.ret))) (.skip)))
  (.seq (.reg [⟨0, some 251, none, .mov (.t 5)⟩,
    ⟨1, some 252, none, .mov (.t 7)⟩,
    ⟨2, some 253, none, .nilck (.t 251)⟩,
    ⟨3, some 254, none, .fa (.t 253) 0⟩,
    ⟨4, none, none, .store (.t 254) (.t 252) 1⟩])
  (.seq (.reg [⟨0, some 4, none, .mov (.k (.int .i64 0))⟩])
  (.ret))))))))))⟩
/-- impl.within -/
def a50 : AFn := ⟨3, [.tmp 6],
  .seq (.reg [⟨0, some 6, none, .mov (.k (.bool false))⟩])
  (.seq (.reg [⟨0, some 7, none, .mov (.t 0)⟩,
    ⟨1, some 8, none, .mov (.t 1)⟩,
    ⟨2, some 9, none, .bin .geq (.t 7) (.t 8)⟩,
    ⟨3, some 10, none, .mov (.t 9)⟩,
    ⟨4, some 11, (some (10, true)), .mov (.t 0)⟩,
    ⟨5, some 12, (some (10, true)), .mov (.t 2)⟩,
    ⟨6, some 13, (some (10, true)), .bin .leq (.t 11) (.t 12)⟩,
    ⟨7, some 14, none, .pick (.t 10) (.t 13) (.k (.bool false))⟩,
    ⟨8, some 6, none, .mov (.t 14)⟩])
  (.ret))⟩
/-- impl.copyInts -/
def a52 : AFn := ⟨1, [.tmp 2],
  .seq (.reg [⟨0, some 2, none, .mov (.k .nils)⟩])
  (.seq (.reg [⟨0, some 3, none, .bslice 1 0 [.int .i64 0] []⟩,
    ⟨1, some 4, none, .mov (.t 0)⟩,
    ⟨2, some 5, none, .app 1 8 (.t 3) (.t 4)⟩,
    ⟨3, some 2, none, .mov (.t 5)⟩])
  (.ret))⟩
/-- impl.Machine).alone -/
def a58 : AFn := ⟨3, [],
  .seq (.reg [⟨0, some 6, none, .mov (.k (.int .i64 0))⟩])
  (.block 0 (.loop (.seq (.seq (.reg [⟨0, some 7, none, .mov (.t 6)⟩,
    ⟨1, some 8, none, .mov (.t 2)⟩,
    ⟨2, some 9, none, .bin .lss (.t 7) (.t 8)⟩,
    ⟨3, some 10, none, .mov (.t 9)⟩,
    ⟨4, some 11, (some (10, true)), .mov (.t 6)⟩,
    ⟨5, some 12, (some (10, true)), .bin .lss (.t 11) (.k (.int .i64 4000))⟩,
    ⟨6, some 13, none, .pick (.t 10) (.t 12) (.k (.bool false))⟩])
  (.cond (.t 13) (.skip) (.exit 0)))
  (.seq (.block 1 (.seq (.reg [⟨0, some 16, none, .mov (.t 0)⟩,
    ⟨1, some 17, none, .mov (.t 1)⟩,
    ⟨2, some 18, none, .build [.int .i64 0, .int .i64 0] [(0, 1, (.t 17))]⟩,
    ⟨3, some 19, none, .call 48 [(.io 4, (.t 16)), (.im, (.t 18))]⟩,
    ⟨4, some 20, none, .bin .neq (.t 19) (.k (.int .i64 0))⟩])
  (.cond (.t 20) (.ret) (.skip))))
  (.reg [⟨0, some 14, none, .mov (.t 6)⟩,
    ⟨1, some 15, none, .bin .add (.t 14) (.k (.int .i64 1))⟩,
    ⟨2, some 6, none, .mov (.t 15)⟩])))))⟩
/-- spec.l1New -/
def a59 : AFn := ⟨1, [.tmp 2],
  .seq (.reg [⟨0, some 2, none, .mov (.k .nilp)⟩])
  (.seq (.reg [⟨0, some 5, none, .mov (.t 0)⟩,
    ⟨1, some 6, none, .len (.t 5)⟩,
    ⟨2, some 7, none, .bin .add (.k (.int .i64 18813)) (.t 6)⟩,
    ⟨3, some 3, none, .mov (.t 7)⟩])
  (.seq (.seq (.reg [⟨0, some 4, none, .mov (.k (.int .i64 0))⟩])
  (.block 0 (.loop (.seq (.seq (.reg [⟨0, some 8, none, .mov (.t 4)⟩,
    ⟨1, some 9, none, .mov (.t 0)⟩,
    ⟨2, some 10, none, .len (.t 9)⟩,
    ⟨3, some 11, none, .bin .lss (.t 8) (.t 10)⟩,
    ⟨4, some 12, none, .mov (.t 11)⟩,
    ⟨5, some 13, (some (12, true)), .mov (.t 4)⟩,
    ⟨6, some 14, (some (12, true)), .bin .lss (.t 13) (.k (.int .i64 4000))⟩,
    ⟨7, some 15, none, .pick (.t 12) (.t 14) (.k (.bool false))⟩])
  (.cond (.t 15) (.skip) (.exit 0)))
  (.seq (.block 1 (.reg [⟨0, some 18, none, .mov (.t 3)⟩,
    ⟨1, some 19, none, .bin .mul (.t 18) (.k (.int .i64 131))⟩,
    ⟨2, some 20, none, .mov (.t 0)⟩,
    ⟨3, some 21, none, .mov (.t 4)⟩,
    ⟨4, some 22, none, .ix (.t 20) (.t 21) 1⟩,
    ⟨5, some 23, none, .load (.t 22) 1 false⟩,
    ⟨6, some 24, none, .conv .i64 (.t 23)⟩,
    ⟨7, some 25, none, .bin .add (.t 19) (.t 24)⟩,
    ⟨8, some 26, none, .bin .add (.t 25) (.k (.int .i64 7))⟩,
    ⟨9, some 27, none, .bin .and (.t 26) (.k (.int .i64 1073741823))⟩,
    ⟨10, some 3, none, .mov (.t 27)⟩]))
  (.reg [⟨0, some 16, none, .mov (.t 4)⟩,
    ⟨1, some 17, none, .bin .add (.t 16) (.k (.int .i64 1))⟩,
    ⟨2, some 4, none, .mov (.t 17)⟩]))))))
  (.seq (.reg [⟨0, some 28, none, .mov (.t 0)⟩,
    ⟨1, some 29, none, .mov (.t 3)⟩,
    ⟨2, some 30, none, .build [.nils, .int .i64 0, .int .i64 0] [(0, 1, (.t 28)), (2, 1, (.t 29))]⟩,
    ⟨3, some 31, none, .box (.t 30)⟩,
    ⟨4, some 2, none, .mov (.t 31)⟩])
  (.ret))))⟩
/-- spec.l8Draw -/
def a60 : AFn := ⟨1, [.cell 2 4 true],
  .seq (.reg [⟨0, some 2, none, .alloc [.nils, .nils, .nils, .nils]⟩])
  (.seq (.reg [⟨0, some 4, none, .mov (.t 0)⟩,
    ⟨1, some 5, none, .call 113 [(.io 3, (.t 4))]⟩,
    ⟨2, some 3, none, .alloc [.nils, .nils, .nils, .nils]⟩,
    ⟨3, none, none, .store (.t 3) (.t 5) 4⟩])
  (.seq (.seq (.reg [⟨0, some 6, none, .mov (.t 0)⟩,
    ⟨1, some 7, none, .call 61 [(.io 3, (.t 6)), (.im, (.k (.int .i64 20)))]⟩])
  (.block 0 (.seq (.reg [⟨0, some 9, none, .bin .eql (.t 7) (.k (.int .i64 0))⟩,
    ⟨1, some 8, none, .mov (.t 9)⟩])
  (.cond (.t 8) (.dreg [⟨0, some 10, none, .fa (.t 3) 1⟩,
    ⟨1, some 11, none, .load (.t 10) 1 false⟩,
    ⟨2, some 12, none, .mov (.t 0)⟩,
    ⟨3, some 13, none, .bslice 1 2 [.int .i64 0] [(0, 1, (.k (.int .i64 (-1)))), (1, 1, (.k (.int .i64 50)))]⟩,
    ⟨4, some 14, none, .call 62 [(.io 3, (.t 12)), (.im, (.t 13))]⟩,
    ⟨5, some 15, none, .ix (.t 11) (.k (.int .i64 0)) 4⟩,
    ⟨6, some 16, none, .fa (.t 15) 0⟩,
    ⟨7, none, none, .store (.t 16) (.t 14) 1⟩] [(1, 4), (1, 7)]) (.seq (.reg [⟨0, some 18, none, .bin .eql (.t 7) (.k (.int .i64 1))⟩,
    ⟨1, some 17, none, .mov (.t 18)⟩])
  (.cond (.t 17) (.dreg [⟨0, some 19, none, .fa (.t 3) 1⟩,
    ⟨1, some 20, none, .load (.t 19) 1 false⟩,
    ⟨2, some 21, none, .ix (.t 20) (.k (.int .i64 0)) 4⟩,
    ⟨3, some 22, none, .fa (.t 21) 2⟩,
    ⟨4, some 23, none, .load (.t 22) 1 false⟩,
    ⟨5, some 24, none, .mov (.t 0)⟩,
    ⟨6, some 25, none, .bslice 1 2 [.int .i64 0] [(0, 1, (.k (.int .i64 (-1)))), (1, 1, (.k (.int .i64 99)))]⟩,
    ⟨7, some 26, none, .call 62 [(.io 3, (.t 24)), (.im, (.t 25))]⟩,
    ⟨8, some 27, none, .ix (.t 23) (.k (.int .i64 1)) 1⟩,
    ⟨9, none, none, .store (.t 27) (.t 26) 1⟩] [(1, 7), (1, 9), (4, 7), (4, 9)]) (.seq (.reg [⟨0, some 29, none, .bin .eql (.t 7) (.k (.int .i64 2))⟩,
    ⟨1, some 28, none, .mov (.t 29)⟩])
  (.cond (.t 28) (.dreg [⟨0, some 30, none, .fa (.t 3) 0⟩,
    ⟨1, some 31, none, .load (.t 30) 1 false⟩,
    ⟨2, some 32, none, .fa (.t 3) 0⟩,
    ⟨3, some 33, none, .load (.t 32) 1 false⟩,
    ⟨4, some 34, none, .ix (.t 33) (.k (.int .i64 0)) 1⟩,
    ⟨5, some 35, none, .load (.t 34) 1 false⟩,
    ⟨6, some 36, none, .slc (.t 35) (some (.k (.int .i64 1))) none 5⟩,
    ⟨7, some 37, none, .ix (.t 31) (.k (.int .i64 0)) 1⟩,
    ⟨8, none, none, .store (.t 37) (.t 36) 1⟩] []) (.seq (.reg [⟨0, some 39, none, .bin .eql (.t 7) (.k (.int .i64 3))⟩,
    ⟨1, some 38, none, .mov (.t 39)⟩])
  (.cond (.t 38) (.dreg [⟨0, some 40, none, .fa (.t 3) 3⟩,
    ⟨1, some 41, none, .load (.t 40) 1 false⟩,
    ⟨2, some 42, none, .mov (.t 0)⟩,
    ⟨3, some 43, none, .call 61 [(.io 3, (.t 42)), (.im, (.k (.int .i64 5)))]⟩,
    ⟨4, some 44, none, .build [.int .i64 0, .int .i64 0] [(0, 1, (.t 43))]⟩,
    ⟨5, some 45, none, .bslice 2 1 [.int .i64 0, .int .i64 0] [(0, 2, (.t 44))]⟩,
    ⟨6, some 46, none, .app 2 16 (.t 41) (.t 45)⟩,
    ⟨7, some 47, none, .fa (.t 3) 3⟩,
    ⟨8, none, none, .store (.t 47) (.t 46) 1⟩] [(1, 6)]) (.seq (.reg [⟨0, some 49, none, .bin .eql (.t 7) (.k (.int .i64 4))⟩,
    ⟨1, some 48, none, .mov (.t 49)⟩])
  (.cond (.t 48) (.dreg [⟨0, some 50, none, .fa (.t 3) 1⟩,
    ⟨1, some 51, none, .load (.t 50) 1 false⟩,
    ⟨2, some 52, none, .ix (.t 51) (.k (.int .i64 0)) 4⟩,
    ⟨3, some 53, none, .fa (.t 52) 1⟩,
    ⟨4, some 54, none, .load (.t 53) 1 false⟩,
    ⟨5, some 55, none, .mov (.t 0)⟩,
    ⟨7, some 57, none, .mov (.t 0)⟩,
    ⟨8, some 58, none, .bslice 1 3 [.int .i64 0] [(0, 1, (.k (.int .i64 (-9223372036854775807)))), (1, 1, (.k (.int .i64 24))), (2, 1, (.k (.int .i64 9223372036854775807)))]⟩,
    ⟨6, some 56, none, .call 61 [(.io 3, (.t 55)), (.im, (.k (.int .i64 8)))]⟩,
    ⟨9, some 59, none, .call 62 [(.io 3, (.t 57)), (.im, (.t 58))]⟩,
    ⟨10, some 60, none, .ix (.t 54) (.t 56) 1⟩,
    ⟨11, none, none, .store (.t 60) (.t 59) 1⟩] [(1, 8), (1, 9), (1, 11), (4, 8), (4, 9), (4, 11), (7, 9)]) (.skip)))))))))))))
  (.seq (.reg [⟨0, some 61, none, .load (.t 3) 4 true⟩,
    ⟨1, none, none, .store (.t 2) (.t 61) 4⟩])
  (.ret))))⟩
/-- spec.l1Below -/
def a61 : AFn := ⟨2, [.tmp 4],
  .seq (.reg [⟨0, some 4, none, .mov (.k (.int .i64 0))⟩])
  (.seq (.seq (.reg [⟨0, some 9, none, .mov (.t 1)⟩,
    ⟨1, some 10, none, .bin .leq (.t 9) (.k (.int .i64 0))⟩])
  (.cond (.t 10) (.seq (.reg [⟨0, some 4, none, .mov (.k (.int .i64 0))⟩])
  (.ret)) (.skip)))
  (.seq (.seq (.reg [⟨0, some 11, none, .mov (.t 1)⟩,
    ⟨1, some 12, none, .bin .leq (.t 11) (.k (.int .i64 256))⟩])
  (.cond (.t 12) (.seq (.reg [⟨0, some 13, none, .mov (.t 0)⟩,
    ⟨1, some 14, none, .call 114 [(.io 3, (.t 13))]⟩,
    ⟨2, some 15, none, .mov (.t 1)⟩,
    ⟨3, some 16, none, .bin .rem (.t 14) (.t 15)⟩,
    ⟨4, some 4, none, .mov (.t 16)⟩])
  (.ret)) (.skip)))
  (.seq (.reg [⟨0, some 17, none, .mov (.t 0)⟩,
    ⟨1, some 18, none, .call 114 [(.io 3, (.t 17))]⟩,
    ⟨2, some 5, none, .mov (.t 18)⟩])
  (.seq (.reg [⟨0, some 19, none, .mov (.t 0)⟩,
    ⟨1, some 20, none, .call 114 [(.io 3, (.t 19))]⟩,
    ⟨2, some 6, none, .mov (.t 20)⟩])
  (.seq (.reg [⟨0, some 21, none, .mov (.t 0)⟩,
    ⟨1, some 22, none, .call 114 [(.io 3, (.t 21))]⟩,
    ⟨2, some 7, none, .mov (.t 22)⟩])
  (.seq (.reg [⟨0, some 23, none, .mov (.t 0)⟩,
    ⟨1, some 24, none, .call 114 [(.io 3, (.t 23))]⟩,
    ⟨2, some 8, none, .mov (.t 24)⟩])
  (.seq (.reg [⟨0, some 25, none, .mov (.t 5)⟩,
    ⟨1, some 26, none, .bin .mul (.t 25) (.k (.int .i64 16777216))⟩,
    ⟨2, some 27, none, .mov (.t 6)⟩,
    ⟨3, some 28, none, .bin .mul (.t 27) (.k (.int .i64 65536))⟩,
    ⟨4, some 29, none, .bin .add (.t 26) (.t 28)⟩,
    ⟨5, some 30, none, .mov (.t 7)⟩,
    ⟨6, some 31, none, .bin .mul (.t 30) (.k (.int .i64 256))⟩,
    ⟨7, some 32, none, .bin .add (.t 29) (.t 31)⟩,
    ⟨8, some 33, none, .mov (.t 8)⟩,
    ⟨9, some 34, none, .bin .add (.t 32) (.t 33)⟩,
    ⟨10, some 35, none, .mov (.t 1)⟩,
    ⟨11, some 36, none, .bin .rem (.t 34) (.t 35)⟩,
    ⟨12, some 4, none, .mov (.t 36)⟩])
  (.ret))))))))⟩
/-- spec.l1PickInt -/
def a62 : AFn := ⟨2, [.tmp 4],
  .seq (.reg [⟨0, some 4, none, .mov (.k (.int .i64 0))⟩])
  (.seq (.reg [⟨0, some 5, none, .mov (.t 1)⟩,
    ⟨1, some 6, none, .mov (.t 0)⟩,
    ⟨2, some 7, none, .mov (.t 1)⟩,
    ⟨3, some 8, none, .len (.t 7)⟩,
    ⟨4, some 9, none, .call 61 [(.io 3, (.t 6)), (.im, (.t 8))]⟩,
    ⟨5, some 10, none, .ix (.t 5) (.t 9) 1⟩,
    ⟨6, some 11, none, .load (.t 10) 1 false⟩,
    ⟨7, some 4, none, .mov (.t 11)⟩])
  (.ret))⟩
/-- spec.l1In -/
def a63 : AFn := ⟨3, [.tmp 6],
  .seq (.reg [⟨0, some 6, none, .mov (.k (.bool false))⟩])
  (.seq (.reg [⟨0, some 7, none, .mov (.t 0)⟩,
    ⟨1, some 8, none, .mov (.t 1)⟩,
    ⟨2, some 9, none, .bin .geq (.t 7) (.t 8)⟩,
    ⟨3, some 10, none, .mov (.t 9)⟩,
    ⟨4, some 11, (some (10, true)), .mov (.t 0)⟩,
    ⟨5, some 12, (some (10, true)), .mov (.t 2)⟩,
    ⟨6, some 13, (some (10, true)), .bin .leq (.t 11) (.t 12)⟩,
    ⟨7, some 14, none, .pick (.t 10) (.t 13) (.k (.bool false))⟩,
    ⟨8, some 6, none, .mov (.t 14)⟩])
  (.ret))⟩
/-- spec.l8Copy -/
def a64 : AFn := ⟨1, [.cell 2 4 true],
  .seq (.reg [⟨0, some 1, none, .box (.t 0)⟩,
    ⟨1, some 2, none, .alloc [.nils, .nils, .nils, .nils]⟩])
  (.seq (.dreg [⟨0, some 5, none, .fa (.t 1) 0⟩,
    ⟨1, some 6, none, .load (.t 5) 1 false⟩,
    ⟨3, some 8, none, .fa (.t 1) 2⟩,
    ⟨4, some 9, none, .load (.t 8) 1 true⟩,
    ⟨6, some 11, none, .bslice 2 0 [.int .i64 0, .int .i64 0] []⟩,
    ⟨7, some 12, none, .fa (.t 1) 3⟩,
    ⟨8, some 13, none, .load (.t 12) 1 false⟩,
    ⟨11, some 3, none, .alloc [.nils, .nils, .nils, .nils]⟩,
    ⟨2, some 7, none, .call 45 [(.im, (.t 6))]⟩,
    ⟨5, some 10, none, .call 115 [(.im, (.t 9))]⟩,
    ⟨9, some 14, none, .app 2 16 (.t 11) (.t 13)⟩,
    ⟨10, some 15, none, .build [.nils, .nils, .nils, .nils] [(0, 1, (.t 7)), (2, 1, (.t 10)), (3, 1, (.t 14))]⟩,
    ⟨12, none, none, .store (.t 3) (.t 15) 4⟩] [(1, 8), (3, 8), (3, 9), (4, 9), (4, 10), (6, 8), (6, 9), (6, 10), (7, 9), (7, 10), (7, 12)])
  (.seq (.seq (.reg [⟨0, some 4, none, .mov (.k (.int .i64 0))⟩])
  (.block 0 (.loop (.seq (.seq (.reg [⟨0, some 16, none, .mov (.t 4)⟩,
    ⟨1, some 17, none, .fa (.t 1) 1⟩,
    ⟨2, some 18, none, .load (.t 17) 1 false⟩,
    ⟨3, some 19, none, .len (.t 18)⟩,
    ⟨4, some 20, none, .bin .lss (.t 16) (.t 19)⟩])
  (.cond (.t 20) (.skip) (.exit 0)))
  (.seq (.block 1 (.dreg [⟨0, some 23, none, .fa (.t 3) 1⟩,
    ⟨1, some 24, none, .load (.t 23) 1 false⟩,
    ⟨2, some 25, none, .fa (.t 1) 1⟩,
    ⟨3, some 26, none, .load (.t 25) 1 false⟩,
    ⟨4, some 27, none, .mov (.t 4)⟩,
    ⟨5, some 28, none, .ix (.t 26) (.t 27) 4⟩,
    ⟨6, some 29, none, .load (.t 28) 4 true⟩,
    ⟨7, some 30, none, .call 116 [(.im, (.t 29))]⟩,
    ⟨8, some 31, none, .bslice 4 1 [.int .i64 0, .nils, .nils, .int .i64 0] [(0, 4, (.t 30))]⟩,
    ⟨9, some 32, none, .app 4 64 (.t 24) (.t 31)⟩,
    ⟨10, some 33, none, .fa (.t 3) 1⟩,
    ⟨11, none, none, .store (.t 33) (.t 32) 1⟩] [(1, 9)]))
  (.reg [⟨0, some 21, none, .mov (.t 4)⟩,
    ⟨1, some 22, none, .bin .add (.t 21) (.k (.int .i64 1))⟩,
    ⟨2, some 4, none, .mov (.t 22)⟩]))))))
  (.seq (.reg [⟨0, some 34, none, .load (.t 3) 4 true⟩,
    ⟨1, none, none, .store (.t 2) (.t 34) 4⟩])
  (.ret))))⟩
/-- spec.l8Step -/
def a65 : AFn := ⟨2, [.cell 4 4 true, .tmp 5],
  .seq (.reg [⟨0, some 2, none, .box (.t 0)⟩,
    ⟨1, some 3, none, .box (.t 1)⟩,
    ⟨2, some 4, none, .alloc [.nils, .nils, .nils, .nils]⟩,
    ⟨3, some 5, none, .mov (.k (.int .i64 0))⟩])
  (.seq (.reg [⟨0, some 12, none, .fa (.t 2) 1⟩,
    ⟨1, some 13, none, .load (.t 12) 1 false⟩,
    ⟨2, some 14, none, .fa (.t 3) 0⟩,
    ⟨3, some 15, none, .load (.t 14) 1 false⟩,
    ⟨4, some 16, none, .ix (.t 13) (.t 15) 4⟩,
    ⟨5, some 17, none, .load (.t 16) 4 true⟩,
    ⟨6, some 6, none, .alloc [.int .i64 0, .nils, .nils, .int .i64 0]⟩,
    ⟨7, none, none, .store (.t 6) (.t 17) 4⟩])
  (.seq (.dreg [⟨0, some 18, none, .fa (.t 2) 0⟩,
    ⟨1, some 19, none, .load (.t 18) 1 false⟩,
    ⟨2, some 20, none, .fa (.t 3) 0⟩,
    ⟨3, some 21, none, .load (.t 20) 1 false⟩,
    ⟨4, some 22, none, .ix (.t 19) (.t 21) 1⟩,
    ⟨5, some 23, none, .load (.t 22) 1 false⟩,
    ⟨6, some 24, none, .fa (.t 6) 0⟩,
    ⟨7, some 25, none, .load (.t 24) 1 false⟩,
    ⟨8, some 26, none, .ix (.t 23) (.t 25) 5⟩,
    ⟨9, some 27, none, .load (.t 26) 5 true⟩,
    ⟨10, some 7, none, .alloc [.int .i64 0, .int .i64 0, .int .i64 0, .int .i64 0, .int .i64 0]⟩,
    ⟨11, none, none, .store (.t 7) (.t 27) 5⟩] [(1, 11), (3, 11), (5, 11), (7, 11), (9, 11)])
  (.seq (.reg [⟨0, some 28, none, .fa (.t 6) 0⟩,
    ⟨1, some 29, none, .load (.t 28) 1 false⟩,
    ⟨2, some 30, none, .bin .add (.t 29) (.k (.int .i64 1))⟩,
    ⟨3, some 8, none, .mov (.t 30)⟩])
  (.seq (.seq (.reg [⟨0, some 31, none, .fa (.t 7) 0⟩,
    ⟨1, some 32, none, .load (.t 31) 1 false⟩])
  (.block 0 (.seq (.reg [⟨0, some 54, none, .bin .eql (.t 32) (.k (.int .i64 1))⟩,
    ⟨1, some 53, none, .mov (.t 54)⟩])
  (.cond (.t 53) (.reg [⟨0, some 55, none, .fa (.t 6) 1⟩,
    ⟨1, some 56, none, .load (.t 55) 1 false⟩,
    ⟨2, some 57, none, .fa (.t 7) 1⟩,
    ⟨3, some 58, none, .load (.t 57) 1 false⟩,
    ⟨4, some 59, none, .fa (.t 7) 4⟩,
    ⟨5, some 60, none, .load (.t 59) 1 false⟩,
    ⟨6, some 61, none, .ix (.t 56) (.t 58) 1⟩,
    ⟨7, none, none, .store (.t 61) (.t 60) 1⟩]) (.seq (.reg [⟨0, some 63, none, .bin .eql (.t 32) (.k (.int .i64 2))⟩,
    ⟨1, some 62, none, .mov (.t 63)⟩])
  (.cond (.t 62) (.dreg [⟨0, some 64, none, .fa (.t 6) 1⟩,
    ⟨1, some 65, none, .load (.t 64) 1 false⟩,
    ⟨2, some 66, none, .fa (.t 7) 1⟩,
    ⟨3, some 67, none, .load (.t 66) 1 false⟩,
    ⟨4, some 68, none, .fa (.t 6) 1⟩,
    ⟨5, some 69, none, .load (.t 68) 1 false⟩,
    ⟨6, some 70, none, .fa (.t 7) 2⟩,
    ⟨7, some 71, none, .load (.t 70) 1 false⟩,
    ⟨8, some 72, none, .ix (.t 69) (.t 71) 1⟩,
    ⟨9, some 73, none, .load (.t 72) 1 false⟩,
    ⟨10, some 74, none, .fa (.t 6) 1⟩,
    ⟨11, some 75, none, .load (.t 74) 1 false⟩,
    ⟨12, some 76, none, .fa (.t 7) 3⟩,
    ⟨13, some 77, none, .load (.t 76) 1 false⟩,
    ⟨14, some 78, none, .ix (.t 75) (.t 77) 1⟩,
    ⟨15, some 79, none, .load (.t 78) 1 false⟩,
    ⟨16, some 80, none, .bin .add (.t 73) (.t 79)⟩,
    ⟨17, some 81, none, .ix (.t 65) (.t 67) 1⟩,
    ⟨18, none, none, .store (.t 81) (.t 80) 1⟩] []) (.seq (.reg [⟨0, some 83, none, .bin .eql (.t 32) (.k (.int .i64 3))⟩,
    ⟨1, some 82, none, .mov (.t 83)⟩])
  (.cond (.t 82) (.dreg [⟨0, some 84, none, .fa (.t 6) 1⟩,
    ⟨1, some 85, none, .load (.t 84) 1 false⟩,
    ⟨2, some 86, none, .fa (.t 7) 1⟩,
    ⟨3, some 87, none, .load (.t 86) 1 false⟩,
    ⟨4, some 88, none, .fa (.t 6) 1⟩,
    ⟨5, some 89, none, .load (.t 88) 1 false⟩,
    ⟨6, some 90, none, .fa (.t 7) 2⟩,
    ⟨7, some 91, none, .load (.t 90) 1 false⟩,
    ⟨8, some 92, none, .ix (.t 89) (.t 91) 1⟩,
    ⟨9, some 93, none, .load (.t 92) 1 false⟩,
    ⟨10, some 94, none, .fa (.t 6) 1⟩,
    ⟨11, some 95, none, .load (.t 94) 1 false⟩,
    ⟨12, some 96, none, .fa (.t 7) 3⟩,
    ⟨13, some 97, none, .load (.t 96) 1 false⟩,
    ⟨14, some 98, none, .ix (.t 95) (.t 97) 1⟩,
    ⟨15, some 99, none, .load (.t 98) 1 false⟩,
    ⟨16, some 100, none, .bin .sub (.t 93) (.t 99)⟩,
    ⟨17, some 101, none, .ix (.t 85) (.t 87) 1⟩,
    ⟨18, none, none, .store (.t 101) (.t 100) 1⟩] []) (.seq (.reg [⟨0, some 103, none, .bin .eql (.t 32) (.k (.int .i64 4))⟩,
    ⟨1, some 102, none, .mov (.t 103)⟩])
  (.cond (.t 102) (.dreg [⟨0, some 104, none, .fa (.t 6) 1⟩,
    ⟨1, some 105, none, .load (.t 104) 1 false⟩,
    ⟨2, some 106, none, .fa (.t 7) 1⟩,
    ⟨3, some 107, none, .load (.t 106) 1 false⟩,
    ⟨4, some 108, none, .fa (.t 6) 1⟩,
    ⟨5, some 109, none, .load (.t 108) 1 false⟩,
    ⟨6, some 110, none, .fa (.t 7) 2⟩,
    ⟨7, some 111, none, .load (.t 110) 1 false⟩,
    ⟨8, some 112, none, .ix (.t 109) (.t 111) 1⟩,
    ⟨9, some 113, none, .load (.t 112) 1 false⟩,
    ⟨10, some 114, none, .fa (.t 6) 1⟩,
    ⟨11, some 115, none, .load (.t 114) 1 false⟩,
    ⟨12, some 116, none, .fa (.t 7) 3⟩,
    ⟨13, some 117, none, .load (.t 116) 1 false⟩,
    ⟨14, some 118, none, .ix (.t 115) (.t 117) 1⟩,
    ⟨15, some 119, none, .load (.t 118) 1 false⟩,
    ⟨16, some 120, none, .bin .lss (.t 113) (.t 119)⟩,
    ⟨17, some 121, none, .call 117 [(.im, (.t 120))]⟩,
    ⟨18, some 122, none, .ix (.t 105) (.t 107) 1⟩,
    ⟨19, none, none, .store (.t 122) (.t 121) 1⟩] [(1, 19), (3, 19)]) (.seq (.reg [⟨0, some 124, none, .bin .eql (.t 32) (.k (.int .i64 9))⟩,
    ⟨1, some 123, none, .mov (.t 124)⟩])
  (.cond (.t 123) (.seq (.seq (.reg [⟨0, some 125, none, .fa (.t 2) 3⟩,
    ⟨1, some 126, none, .load (.t 125) 1 false⟩,
    ⟨2, some 127, none, .len (.t 126)⟩,
    ⟨3, some 128, none, .bin .eql (.t 127) (.k (.int .i64 4000))⟩])
  (.cond (.t 128) (.seq (.reg [⟨0, some 129, none, .load (.t 2) 4 true⟩,
    ⟨1, none, none, .store (.t 4) (.t 129) 4⟩,
    ⟨2, some 5, none, .mov (.k (.int .i64 3))⟩])
  (.ret)) (.skip)))
  (.dreg [⟨0, some 130, none, .fa (.t 2) 3⟩,
    ⟨1, some 131, none, .load (.t 130) 1 false⟩,
    ⟨2, some 132, none, .fa (.t 3) 0⟩,
    ⟨3, some 133, none, .load (.t 132) 1 false⟩,
    ⟨4, some 134, none, .fa (.t 6) 1⟩,
    ⟨5, some 135, none, .load (.t 134) 1 false⟩,
    ⟨6, some 136, none, .fa (.t 7) 2⟩,
    ⟨7, some 137, none, .load (.t 136) 1 false⟩,
    ⟨8, some 138, none, .ix (.t 135) (.t 137) 1⟩,
    ⟨9, some 139, none, .load (.t 138) 1 false⟩,
    ⟨10, some 140, none, .build [.int .i64 0, .int .i64 0] [(0, 1, (.t 133)), (1, 1, (.t 139))]⟩,
    ⟨11, some 141, none, .bslice 2 1 [.int .i64 0, .int .i64 0] [(0, 2, (.t 140))]⟩,
    ⟨12, some 142, none, .app 2 16 (.t 131) (.t 141)⟩,
    ⟨13, some 143, none, .fa (.t 2) 3⟩,
    ⟨14, none, none, .store (.t 143) (.t 142) 1⟩] [(1, 12), (3, 12), (5, 12), (7, 12), (9, 12)])) (.seq (.reg [⟨0, some 145, none, .bin .eql (.t 32) (.k (.int .i64 10))⟩,
    ⟨1, some 144, none, .mov (.t 145)⟩])
  (.cond (.t 144) (.reg [⟨0, some 146, none, .fa (.t 7) 4⟩,
    ⟨1, some 147, none, .load (.t 146) 1 false⟩,
    ⟨2, some 8, none, .mov (.t 147)⟩]) (.seq (.reg [⟨0, some 149, none, .bin .eql (.t 32) (.k (.int .i64 11))⟩,
    ⟨1, some 148, none, .mov (.t 149)⟩])
  (.cond (.t 148) (.seq (.reg [⟨0, some 150, none, .fa (.t 6) 1⟩,
    ⟨1, some 151, none, .load (.t 150) 1 false⟩,
    ⟨2, some 152, none, .fa (.t 7) 2⟩,
    ⟨3, some 153, none, .load (.t 152) 1 false⟩,
    ⟨4, some 154, none, .ix (.t 151) (.t 153) 1⟩,
    ⟨5, some 155, none, .load (.t 154) 1 false⟩,
    ⟨6, some 156, none, .bin .eql (.t 155) (.k (.int .i64 0))⟩])
  (.cond (.t 156) (.reg [⟨0, some 157, none, .fa (.t 7) 4⟩,
    ⟨1, some 158, none, .load (.t 157) 1 false⟩,
    ⟨2, some 8, none, .mov (.t 158)⟩]) (.skip))) (.seq (.reg [⟨0, some 160, none, .bin .eql (.t 32) (.k (.int .i64 12))⟩,
    ⟨1, some 159, none, .mov (.t 160)⟩])
  (.cond (.t 159) (.seq (.reg [⟨0, some 161, none, .fa (.t 2) 1⟩,
    ⟨1, some 162, none, .load (.t 161) 1 false⟩,
    ⟨2, some 163, none, .fa (.t 3) 0⟩,
    ⟨3, some 164, none, .load (.t 163) 1 false⟩,
    ⟨4, some 165, none, .ix (.t 162) (.t 164) 4⟩,
    ⟨5, some 166, none, .fa (.t 165) 3⟩,
    ⟨6, none, none, .store (.t 166) (.k (.int .i64 1)) 1⟩])
  (.seq (.reg [⟨0, some 167, none, .load (.t 2) 4 true⟩,
    ⟨1, none, none, .store (.t 4) (.t 167) 4⟩,
    ⟨2, some 5, none, .mov (.k (.int .i64 0))⟩])
  (.ret))) (.seq (.reg [⟨0, some 169, none, .bin .eql (.t 32) (.k (.int .i64 13))⟩,
    ⟨1, some 168, none, .mov (.t 169)⟩])
  (.cond (.t 168) (.seq (.reg [⟨0, some 170, none, .fa (.t 2) 1⟩,
    ⟨1, some 171, none, .load (.t 170) 1 false⟩,
    ⟨2, some 172, none, .fa (.t 3) 0⟩,
    ⟨3, some 173, none, .load (.t 172) 1 false⟩,
    ⟨4, some 174, none, .ix (.t 171) (.t 173) 4⟩,
    ⟨5, some 175, none, .fa (.t 174) 3⟩,
    ⟨6, none, none, .store (.t 175) (.k (.int .i64 2)) 1⟩])
  (.seq (.reg [⟨0, some 176, none, .load (.t 2) 4 true⟩,
    ⟨1, none, none, .store (.t 4) (.t 176) 4⟩,
    ⟨2, some 5, none, .mov (.k (.int .i64 0))⟩])
  (.ret))) (.seq (.reg [⟨0, some 34, none, .load (.t 2) 4 true⟩,
    ⟨1, some 35, none, .load (.t 3) 2 true⟩,
    ⟨2, some 36, none, .load (.t 7) 5 true⟩,
    ⟨3, some 37, none, .call 118 [(.mv, (.t 34)), (.im, (.t 35)), (.im, (.t 36))]⟩,
    ⟨4, some 33, none, .mov (.t 37)⟩,
    ⟨5, some 38, none, .ext (.t 33) 0⟩,
    ⟨6, some 39, none, .ext (.t 33) 1⟩,
    ⟨7, some 40, none, .ext (.t 33) 2⟩,
    ⟨8, some 9, none, .alloc [.nils, .nils, .nils, .nils]⟩,
    ⟨9, none, none, .store (.t 9) (.t 38) 4⟩,
    ⟨10, some 10, none, .mov (.t 39)⟩,
    ⟨11, some 11, none, .mov (.t 40)⟩])
  (.seq (.seq (.reg [⟨0, some 41, none, .mov (.t 11)⟩])
  (.cond (.t 41) (.seq (.reg [⟨0, some 42, none, .load (.t 2) 4 true⟩,
    ⟨1, none, none, .store (.t 4) (.t 42) 4⟩,
    ⟨2, some 5, none, .mov (.k (.int .i64 3))⟩])
  (.ret)) (.skip)))
  (.seq (.reg [⟨0, some 43, none, .load (.t 9) 4 true⟩,
    ⟨1, none, none, .store (.t 2) (.t 43) 4⟩])
  (.seq (.reg [⟨0, some 44, none, .mov (.t 10)⟩,
    ⟨1, some 45, none, .un .not (.t 44)⟩])
  (.cond (.t 45) (.seq (.reg [⟨0, some 46, none, .fa (.t 2) 1⟩,
    ⟨1, some 47, none, .load (.t 46) 1 false⟩,
    ⟨2, some 48, none, .fa (.t 3) 0⟩,
    ⟨3, some 49, none, .load (.t 48) 1 false⟩,
    ⟨4, some 50, none, .ix (.t 47) (.t 49) 4⟩,
    ⟨5, some 51, none, .fa (.t 50) 3⟩,
    ⟨6, none, none, .store (.t 51) (.k (.int .i64 2)) 1⟩])
  (.seq (.reg [⟨0, some 52, none, .load (.t 2) 4 true⟩,
    ⟨1, none, none, .store (.t 4) (.t 52) 4⟩,
    ⟨2, some 5, none, .mov (.k (.int .i64 0))⟩])
  (.ret))) (.skip))))))))))))))))))))))))))
  (.seq (.seq (.reg [⟨0, some 177, none, .mov (.t 8)⟩,
    ⟨1, some 178, none, .fa (.t 2) 0⟩,
    ⟨2, some 179, none, .load (.t 178) 1 false⟩,
    ⟨3, some 180, none, .fa (.t 3) 0⟩,
    ⟨4, some 181, none, .load (.t 180) 1 false⟩,
    ⟨5, some 182, none, .ix (.t 179) (.t 181) 1⟩,
    ⟨6, some 183, none, .load (.t 182) 1 false⟩,
    ⟨7, some 184, none, .len (.t 183)⟩,
    ⟨8, some 185, none, .bin .geq (.t 177) (.t 184)⟩])
  (.cond (.t 185) (.seq (.reg [⟨0, some 186, none, .fa (.t 2) 1⟩,
    ⟨1, some 187, none, .load (.t 186) 1 false⟩,
    ⟨2, some 188, none, .fa (.t 3) 0⟩,
    ⟨3, some 189, none, .load (.t 188) 1 false⟩,
    ⟨4, some 190, none, .ix (.t 187) (.t 189) 4⟩,
    ⟨5, some 191, none, .fa (.t 190) 3⟩,
    ⟨6, none, none, .store (.t 191) (.k (.int .i64 2)) 1⟩])
  (.seq (.reg [⟨0, some 192, none, .load (.t 2) 4 true⟩,
    ⟨1, none, none, .store (.t 4) (.t 192) 4⟩,
    ⟨2, some 5, none, .mov (.k (.int .i64 0))⟩])
  (.ret))) (.skip)))
  (.seq (.reg [⟨0, some 193, none, .fa (.t 2) 1⟩,
    ⟨1, some 194, none, .load (.t 193) 1 false⟩,
    ⟨2, some 195, none, .fa (.t 3) 0⟩,
    ⟨3, some 196, none, .load (.t 195) 1 false⟩,
    ⟨4, some 197, none, .mov (.t 8)⟩,
    ⟨5, some 198, none, .ix (.t 194) (.t 196) 4⟩,
    ⟨6, some 199, none, .fa (.t 198) 0⟩,
    ⟨7, none, none, .store (.t 199) (.t 197) 1⟩])
  (.seq (.reg [⟨0, some 200, none, .load (.t 2) 4 true⟩,
    ⟨1, none, none, .store (.t 4) (.t 200) 4⟩,
    ⟨2, some 5, none, .mov (.k (.int .i64 0))⟩])
  (.ret))))))))⟩
/-- laws.sameNotes -/
def a66 : AFn := ⟨2, [.tmp 4],
  .seq (.reg [⟨0, some 4, none, .mov (.k (.bool false))⟩])
  (.seq (.seq (.reg [⟨0, some 6, none, .mov (.t 0)⟩,
    ⟨1, some 7, none, .len (.t 6)⟩,
    ⟨2, some 8, none, .mov (.t 1)⟩,
    ⟨3, some 9, none, .len (.t 8)⟩,
    ⟨4, some 10, none, .bin .neq (.t 7) (.t 9)⟩])
  (.cond (.t 10) (.seq (.reg [⟨0, some 4, none, .mov (.k (.bool false))⟩])
  (.ret)) (.skip)))
  (.seq (.seq (.reg [⟨0, some 5, none, .mov (.k (.int .i64 0))⟩])
  (.block 0 (.loop (.seq (.seq (.reg [⟨0, some 11, none, .mov (.t 5)⟩,
    ⟨1, some 12, none, .mov (.t 0)⟩,
    ⟨2, some 13, none, .len (.t 12)⟩,
    ⟨3, some 14, none, .bin .lss (.t 11) (.t 13)⟩])
  (.cond (.t 14) (.skip) (.exit 0)))
  (.seq (.block 1 (.seq (.dreg [⟨0, some 17, none, .mov (.t 0)⟩,
    ⟨1, some 18, none, .mov (.t 5)⟩,
    ⟨2, some 19, none, .ix (.t 17) (.t 18) 2⟩,
    ⟨3, some 20, none, .load (.t 19) 2 true⟩,
    ⟨4, some 21, none, .mov (.t 1)⟩,
    ⟨5, some 22, none, .mov (.t 5)⟩,
    ⟨6, some 23, none, .ix (.t 21) (.t 22) 2⟩,
    ⟨7, some 24, none, .load (.t 23) 2 true⟩,
    ⟨8, some 25, none, .eqs true [true, true] (.t 20) (.t 24)⟩] [])
  (.cond (.t 25) (.seq (.reg [⟨0, some 4, none, .mov (.k (.bool false))⟩])
  (.ret)) (.skip))))
  (.reg [⟨0, some 15, none, .mov (.t 5)⟩,
    ⟨1, some 16, none, .bin .add (.t 15) (.k (.int .i64 1))⟩,
    ⟨2, some 5, none, .mov (.t 16)⟩]))))))
  (.seq (.reg [⟨0, some 4, none, .mov (.k (.bool true))⟩])
  (.ret))))⟩
/-- impl.notesOk -/
def a67 : AFn := ⟨2, [.tmp 4],
  .seq (.reg [⟨0, some 4, none, .mov (.k (.bool false))⟩])
  (.seq (.seq (.reg [⟨0, some 7, none, .mov (.t 0)⟩,
    ⟨1, some 8, none, .len (.t 7)⟩,
    ⟨2, some 9, none, .mov (.k (.int .i64 0))⟩])
  (.block 0 (.loop (.seq (.reg [⟨0, some 10, none, .bin .lss (.t 9) (.t 8)⟩])
  (.seq (.cond (.t 10) (.skip) (.exit 0))
  (.seq (.block 1 (.seq (.reg [⟨0, some 11, none, .ix (.t 7) (.t 9) 2⟩,
    ⟨1, some 12, none, .load (.t 11) 2 true⟩,
    ⟨2, some 6, none, .alloc [.int .i64 0, .int .i64 0]⟩,
    ⟨3, none, none, .store (.t 6) (.t 12) 2⟩])
  (.seq (.reg [⟨0, some 13, none, .fa (.t 6) 0⟩,
    ⟨1, some 14, none, .load (.t 13) 1 false⟩,
    ⟨2, some 15, none, .mov (.t 1)⟩,
    ⟨3, some 16, none, .bin .sub (.t 15) (.k (.int .i64 1))⟩,
    ⟨4, some 17, none, .call 50 [(.im, (.t 14)), (.im, (.k (.int .i64 0))), (.im, (.t 16))]⟩,
    ⟨5, some 18, none, .un .not (.t 17)⟩])
  (.cond (.t 18) (.seq (.reg [⟨0, some 4, none, .mov (.k (.bool false))⟩])
  (.ret)) (.skip)))))
  (.reg [⟨0, some 19, none, .bin .add (.t 9) (.k (.int .i64 1))⟩,
    ⟨1, some 9, none, .mov (.t 19)⟩])))))))
  (.seq (.reg [⟨0, some 20, none, .mov (.t 0)⟩,
    ⟨1, some 21, none, .len (.t 20)⟩,
    ⟨2, some 22, none, .bin .leq (.t 21) (.k (.int .i64 4000))⟩,
    ⟨3, some 4, none, .mov (.t 22)⟩])
  (.ret)))⟩
/-- impl.CodeOk -/
def a68 : AFn := ⟨1, [.tmp 2],
  .seq (.reg [⟨0, some 2, none, .mov (.k (.bool false))⟩])
  (.seq (.seq (.reg [⟨0, some 6, none, .mov (.t 0)⟩,
    ⟨1, some 7, none, .len (.t 6)⟩,
    ⟨2, some 8, none, .call 50 [(.im, (.t 7)), (.im, (.k (.int .i64 1))), (.im, (.k (.int .i64 800)))]⟩,
    ⟨3, some 9, none, .un .not (.t 8)⟩])
  (.cond (.t 9) (.seq (.reg [⟨0, some 2, none, .mov (.k (.bool false))⟩])
  (.ret)) (.skip)))
  (.seq (.seq (.reg [⟨0, some 10, none, .mov (.t 0)⟩,
    ⟨1, some 11, none, .len (.t 10)⟩,
    ⟨2, some 12, none, .mov (.k (.int .i64 0))⟩])
  (.block 0 (.loop (.seq (.reg [⟨0, some 13, none, .bin .lss (.t 12) (.t 11)⟩])
  (.seq (.cond (.t 13) (.skip) (.exit 0))
  (.seq (.block 1 (.seq (.reg [⟨0, some 14, none, .ix (.t 10) (.t 12) 5⟩,
    ⟨1, some 15, none, .load (.t 14) 5 true⟩,
    ⟨2, some 4, none, .alloc [.int .i64 0, .int .i64 0, .int .i64 0, .int .i64 0, .int .i64 0]⟩,
    ⟨3, none, none, .store (.t 4) (.t 15) 5⟩])
  (.seq (.reg [⟨0, some 16, none, .load (.t 4) 5 true⟩,
    ⟨1, some 17, none, .mov (.t 0)⟩,
    ⟨2, some 18, none, .len (.t 17)⟩,
    ⟨3, some 19, none, .call 119 [(.im, (.t 16)), (.im, (.t 18))]⟩,
    ⟨4, some 20, none, .un .not (.t 19)⟩])
  (.cond (.t 20) (.seq (.reg [⟨0, some 2, none, .mov (.k (.bool false))⟩])
  (.ret)) (.skip)))))
  (.reg [⟨0, some 21, none, .bin .add (.t 12) (.k (.int .i64 1))⟩,
    ⟨1, some 12, none, .mov (.t 21)⟩])))))))
  (.seq (.reg [⟨0, some 22, none, .mov (.t 0)⟩,
    ⟨1, some 23, none, .mov (.t 0)⟩,
    ⟨2, some 24, none, .len (.t 23)⟩,
    ⟨3, some 25, none, .bin .sub (.t 24) (.k (.int .i64 1))⟩,
    ⟨4, some 26, none, .ix (.t 22) (.t 25) 5⟩,
    ⟨5, some 27, none, .fa (.t 26) 0⟩,
    ⟨6, some 28, none, .load (.t 27) 1 false⟩,
    ⟨7, some 5, none, .mov (.t 28)⟩])
  (.seq (.reg [⟨0, some 29, none, .mov (.t 5)⟩,
    ⟨1, some 30, none, .bin .eql (.t 29) (.k (.int .i64 10))⟩,
    ⟨2, some 31, none, .mov (.t 30)⟩,
    ⟨3, some 32, (some (31, false)), .mov (.t 5)⟩,
    ⟨4, some 33, (some (31, false)), .bin .eql (.t 32) (.k (.int .i64 12))⟩,
    ⟨5, some 34, none, .pick (.t 31) (.k (.bool true)) (.t 33)⟩,
    ⟨6, some 35, none, .mov (.t 34)⟩,
    ⟨7, some 36, (some (35, false)), .mov (.t 5)⟩,
    ⟨8, some 37, (some (35, false)), .bin .eql (.t 36) (.k (.int .i64 13))⟩,
    ⟨9, some 38, none, .pick (.t 35) (.k (.bool true)) (.t 37)⟩,
    ⟨10, some 2, none, .mov (.t 38)⟩])
  (.ret)))))⟩
/-- impl.ViewOk -/
def a69 : AFn := ⟨2, [.tmp 4],
  .seq (.reg [⟨0, some 2, none, .box (.t 0)⟩,
    ⟨1, some 4, none, .mov (.k (.bool false))⟩])
  (.seq (.seq (.reg [⟨0, some 7, none, .mov (.t 1)⟩,
    ⟨1, some 8, none, .len (.t 7)⟩,
    ⟨2, some 9, none, .fa (.t 2) 0⟩,
    ⟨3, some 10, none, .load (.t 9) 1 false⟩,
    ⟨4, some 11, none, .len (.t 10)⟩,
    ⟨5, some 12, none, .bin .neq (.t 8) (.t 11)⟩])
  (.cond (.t 12) (.seq (.reg [⟨0, some 4, none, .mov (.k (.bool false))⟩])
  (.ret)) (.skip)))
  (.seq (.seq (.reg [⟨0, some 13, none, .mov (.t 1)⟩,
    ⟨1, some 14, none, .len (.t 13)⟩,
    ⟨2, some 15, none, .mov (.k (.int .i64 0))⟩])
  (.block 0 (.loop (.seq (.reg [⟨0, some 16, none, .bin .lss (.t 15) (.t 14)⟩])
  (.seq (.cond (.t 16) (.skip) (.exit 0))
  (.seq (.block 1 (.seq (.reg [⟨0, some 17, none, .mov (.t 15)⟩,
    ⟨1, some 18, none, .ix (.t 13) (.t 15) 1⟩,
    ⟨2, some 19, none, .load (.t 18) 1 false⟩,
    ⟨3, some 5, none, .mov (.t 17)⟩,
    ⟨4, some 6, none, .mov (.t 19)⟩])
  (.seq (.reg [⟨0, some 20, none, .mov (.t 6)⟩,
    ⟨1, some 21, none, .fa (.t 2) 0⟩,
    ⟨2, some 22, none, .load (.t 21) 1 false⟩,
    ⟨3, some 23, none, .mov (.t 5)⟩,
    ⟨4, some 24, none, .ix (.t 22) (.t 23) 1⟩,
    ⟨5, some 25, none, .load (.t 24) 1 false⟩,
    ⟨6, some 26, none, .len (.t 25)⟩,
    ⟨7, some 27, none, .bin .sub (.t 26) (.k (.int .i64 1))⟩,
    ⟨8, some 28, none, .call 50 [(.im, (.t 20)), (.im, (.k (.int .i64 0))), (.im, (.t 27))]⟩,
    ⟨9, some 29, none, .un .not (.t 28)⟩])
  (.cond (.t 29) (.seq (.reg [⟨0, some 4, none, .mov (.k (.bool false))⟩])
  (.ret)) (.skip)))))
  (.reg [⟨0, some 30, none, .bin .add (.t 15) (.k (.int .i64 1))⟩,
    ⟨1, some 15, none, .mov (.t 30)⟩])))))))
  (.seq (.reg [⟨0, some 4, none, .mov (.k (.bool true))⟩])
  (.ret))))⟩
/-- spec.MemoryOk -/
def a70 : AFn := ⟨1, [.tmp 2],
  .seq (.reg [⟨0, some 1, none, .box (.t 0)⟩,
    ⟨1, some 2, none, .mov (.k (.bool false))⟩])
  (.seq (.seq (.reg [⟨0, some 5, none, .fa (.t 1) 0⟩,
    ⟨1, some 6, none, .load (.t 5) 1 false⟩,
    ⟨2, some 7, none, .len (.t 6)⟩,
    ⟨3, some 8, none, .bin .neq (.t 7) (.k (.int .i64 24))⟩])
  (.cond (.t 8) (.seq (.reg [⟨0, some 2, none, .mov (.k (.bool false))⟩])
  (.ret)) (.skip)))
  (.seq (.seq (.reg [⟨0, some 3, none, .mov (.k (.int .i64 0))⟩])
  (.block 0 (.loop (.seq (.seq (.reg [⟨0, some 9, none, .mov (.t 3)⟩,
    ⟨1, some 10, none, .bin .lss (.t 9) (.k (.int .i64 24))⟩])
  (.cond (.t 10) (.skip) (.exit 0)))
  (.seq (.block 1 (.seq (.seq (.reg [⟨0, some 13, none, .fa (.t 1) 0⟩,
    ⟨1, some 14, none, .load (.t 13) 1 false⟩,
    ⟨2, some 15, none, .mov (.t 3)⟩,
    ⟨3, some 16, none, .ix (.t 14) (.t 15) 1⟩,
    ⟨4, some 17, none, .load (.t 16) 1 false⟩,
    ⟨5, some 18, none, .len (.t 17)⟩,
    ⟨6, some 19, none, .call 63 [(.im, (.t 18)), (.im, (.k (.int .i64 1))), (.im, (.k (.int .i64 4000)))]⟩,
    ⟨7, some 20, none, .un .not (.t 19)⟩])
  (.cond (.t 20) (.seq (.reg [⟨0, some 2, none, .mov (.k (.bool false))⟩])
  (.ret)) (.skip)))
  (.seq (.reg [⟨0, some 4, none, .mov (.k (.int .i64 0))⟩])
  (.block 2 (.loop (.seq (.seq (.reg [⟨0, some 21, none, .mov (.t 4)⟩,
    ⟨1, some 22, none, .fa (.t 1) 0⟩,
    ⟨2, some 23, none, .load (.t 22) 1 false⟩,
    ⟨3, some 24, none, .mov (.t 3)⟩,
    ⟨4, some 25, none, .ix (.t 23) (.t 24) 1⟩,
    ⟨5, some 26, none, .load (.t 25) 1 false⟩,
    ⟨6, some 27, none, .len (.t 26)⟩,
    ⟨7, some 28, none, .bin .lss (.t 21) (.t 27)⟩])
  (.cond (.t 28) (.skip) (.exit 2)))
  (.seq (.block 3 (.seq (.dreg [⟨0, some 31, none, .load (.t 1) 1 true⟩,
    ⟨1, some 32, none, .fa (.t 1) 0⟩,
    ⟨2, some 33, none, .load (.t 32) 1 false⟩,
    ⟨3, some 34, none, .mov (.t 3)⟩,
    ⟨4, some 35, none, .ix (.t 33) (.t 34) 1⟩,
    ⟨5, some 36, none, .load (.t 35) 1 false⟩,
    ⟨6, some 37, none, .mov (.t 4)⟩,
    ⟨7, some 38, none, .ix (.t 36) (.t 37) 2⟩,
    ⟨8, some 39, none, .fa (.t 38) 1⟩,
    ⟨9, some 40, none, .load (.t 39) 1 false⟩,
    ⟨10, some 41, none, .call 72 [(.im, (.t 31)), (.im, (.t 40))]⟩,
    ⟨11, some 42, none, .un .not (.t 41)⟩] [])
  (.cond (.t 42) (.seq (.reg [⟨0, some 2, none, .mov (.k (.bool false))⟩])
  (.ret)) (.skip))))
  (.reg [⟨0, some 29, none, .mov (.t 4)⟩,
    ⟨1, some 30, none, .bin .add (.t 29) (.k (.int .i64 1))⟩,
    ⟨2, some 4, none, .mov (.t 30)⟩]))))))))
  (.reg [⟨0, some 11, none, .mov (.t 3)⟩,
    ⟨1, some 12, none, .bin .add (.t 11) (.k (.int .i64 1))⟩,
    ⟨2, some 3, none, .mov (.t 12)⟩]))))))
  (.seq (.reg [⟨0, some 2, none, .mov (.k (.bool true))⟩])
  (.ret))))⟩
/-- spec.CodeOk -/
def a71 : AFn := ⟨1, [.tmp 2],
  .seq (.reg [⟨0, some 2, none, .mov (.k (.bool false))⟩])
  (.seq (.reg [⟨0, some 6, none, .mov (.t 0)⟩,
    ⟨1, some 7, none, .len (.t 6)⟩,
    ⟨2, some 3, none, .mov (.t 7)⟩])
  (.seq (.seq (.reg [⟨0, some 8, none, .mov (.t 3)⟩,
    ⟨1, some 9, none, .call 63 [(.im, (.t 8)), (.im, (.k (.int .i64 1))), (.im, (.k (.int .i64 800)))]⟩,
    ⟨2, some 10, none, .un .not (.t 9)⟩])
  (.cond (.t 10) (.seq (.reg [⟨0, some 2, none, .mov (.k (.bool false))⟩])
  (.ret)) (.skip)))
  (.seq (.seq (.reg [⟨0, some 4, none, .mov (.k (.int .i64 0))⟩])
  (.block 0 (.loop (.seq (.seq (.reg [⟨0, some 11, none, .mov (.t 4)⟩,
    ⟨1, some 12, none, .mov (.t 3)⟩,
    ⟨2, some 13, none, .bin .lss (.t 11) (.t 12)⟩])
  (.cond (.t 13) (.skip) (.exit 0)))
  (.seq (.block 1 (.seq (.reg [⟨0, some 16, none, .mov (.t 0)⟩,
    ⟨1, some 17, none, .mov (.t 4)⟩,
    ⟨2, some 18, none, .ix (.t 16) (.t 17) 5⟩,
    ⟨3, some 19, none, .load (.t 18) 5 true⟩,
    ⟨4, some 20, none, .mov (.t 3)⟩,
    ⟨5, some 21, none, .call 120 [(.im, (.t 19)), (.im, (.t 20))]⟩,
    ⟨6, some 22, none, .un .not (.t 21)⟩])
  (.cond (.t 22) (.seq (.reg [⟨0, some 2, none, .mov (.k (.bool false))⟩])
  (.ret)) (.skip))))
  (.reg [⟨0, some 14, none, .mov (.t 4)⟩,
    ⟨1, some 15, none, .bin .add (.t 14) (.k (.int .i64 1))⟩,
    ⟨2, some 4, none, .mov (.t 15)⟩]))))))
  (.seq (.reg [⟨0, some 23, none, .mov (.t 0)⟩,
    ⟨1, some 24, none, .mov (.t 3)⟩,
    ⟨2, some 25, none, .bin .sub (.t 24) (.k (.int .i64 1))⟩,
    ⟨3, some 26, none, .ix (.t 23) (.t 25) 5⟩,
    ⟨4, some 27, none, .fa (.t 26) 0⟩,
    ⟨5, some 28, none, .load (.t 27) 1 false⟩,
    ⟨6, some 5, none, .mov (.t 28)⟩])
  (.seq (.reg [⟨0, some 29, none, .mov (.t 5)⟩,
    ⟨1, some 30, none, .bin .eql (.t 29) (.k (.int .i64 10))⟩,
    ⟨2, some 31, none, .mov (.t 30)⟩,
    ⟨3, some 32, (some (31, false)), .mov (.t 5)⟩,
    ⟨4, some 33, (some (31, false)), .bin .eql (.t 32) (.k (.int .i64 12))⟩,
    ⟨5, some 34, none, .pick (.t 31) (.k (.bool true)) (.t 33)⟩,
    ⟨6, some 35, none, .mov (.t 34)⟩,
    ⟨7, some 36, (some (35, false)), .mov (.t 5)⟩,
    ⟨8, some 37, (some (35, false)), .bin .eql (.t 36) (.k (.int .i64 13))⟩,
    ⟨9, some 38, none, .pick (.t 35) (.k (.bool true)) (.t 37)⟩,
    ⟨10, some 2, none, .mov (.t 38)⟩])
  (.ret))))))⟩
/-- spec.ViewOk -/
def a72 : AFn := ⟨2, [.tmp 4],
  .seq (.reg [⟨0, some 2, none, .box (.t 0)⟩,
    ⟨1, some 4, none, .mov (.k (.bool false))⟩])
  (.seq (.seq (.reg [⟨0, some 6, none, .mov (.t 1)⟩,
    ⟨1, some 7, none, .len (.t 6)⟩,
    ⟨2, some 8, none, .fa (.t 2) 0⟩,
    ⟨3, some 9, none, .load (.t 8) 1 false⟩,
    ⟨4, some 10, none, .len (.t 9)⟩,
    ⟨5, some 11, none, .bin .neq (.t 7) (.t 10)⟩])
  (.cond (.t 11) (.seq (.reg [⟨0, some 4, none, .mov (.k (.bool false))⟩])
  (.ret)) (.skip)))
  (.seq (.seq (.reg [⟨0, some 5, none, .mov (.k (.int .i64 0))⟩])
  (.block 0 (.loop (.seq (.seq (.reg [⟨0, some 12, none, .mov (.t 5)⟩,
    ⟨1, some 13, none, .mov (.t 1)⟩,
    ⟨2, some 14, none, .len (.t 13)⟩,
    ⟨3, some 15, none, .bin .lss (.t 12) (.t 14)⟩])
  (.cond (.t 15) (.skip) (.exit 0)))
  (.seq (.block 1 (.seq (.dreg [⟨0, some 18, none, .mov (.t 1)⟩,
    ⟨1, some 19, none, .mov (.t 5)⟩,
    ⟨2, some 20, none, .ix (.t 18) (.t 19) 1⟩,
    ⟨3, some 21, none, .load (.t 20) 1 false⟩,
    ⟨4, some 22, none, .fa (.t 2) 0⟩,
    ⟨5, some 23, none, .load (.t 22) 1 false⟩,
    ⟨6, some 24, none, .mov (.t 5)⟩,
    ⟨7, some 25, none, .ix (.t 23) (.t 24) 1⟩,
    ⟨8, some 26, none, .load (.t 25) 1 false⟩,
    ⟨9, some 27, none, .len (.t 26)⟩,
    ⟨10, some 28, none, .bin .sub (.t 27) (.k (.int .i64 1))⟩,
    ⟨11, some 29, none, .call 63 [(.im, (.t 21)), (.im, (.k (.int .i64 0))), (.im, (.t 28))]⟩,
    ⟨12, some 30, none, .un .not (.t 29)⟩] [])
  (.cond (.t 30) (.seq (.reg [⟨0, some 4, none, .mov (.k (.bool false))⟩])
  (.ret)) (.skip))))
  (.reg [⟨0, some 16, none, .mov (.t 5)⟩,
    ⟨1, some 17, none, .bin .add (.t 16) (.k (.int .i64 1))⟩,
    ⟨2, some 5, none, .mov (.t 17)⟩]))))))
  (.seq (.reg [⟨0, some 4, none, .mov (.k (.bool true))⟩])
  (.ret))))⟩
/-- spec.l15Alone -/
def a93 : AFn := ⟨3, [.cell 6 4 true],
  .seq (.reg [⟨0, some 3, none, .box (.t 0)⟩,
    ⟨1, some 6, none, .alloc [.nils, .nils, .nils, .nils]⟩])
  (.seq (.seq (.reg [⟨0, some 7, none, .mov (.k (.int .i64 0))⟩])
  (.block 0 (.loop (.seq (.seq (.reg [⟨0, some 10, none, .mov (.t 7)⟩,
    ⟨1, some 11, none, .mov (.t 2)⟩,
    ⟨2, some 12, none, .call 137 [(.im, (.t 11)), (.im, (.k (.int .i64 4000)))]⟩,
    ⟨3, some 13, none, .bin .lss (.t 10) (.t 12)⟩])
  (.cond (.t 13) (.skip) (.exit 0)))
  (.seq (.block 1 (.seq (.seq (.reg [⟨0, some 16, none, .fa (.t 3) 1⟩,
    ⟨1, some 17, none, .load (.t 16) 1 false⟩,
    ⟨2, some 18, none, .mov (.t 1)⟩,
    ⟨3, some 19, none, .ix (.t 17) (.t 18) 4⟩,
    ⟨4, some 20, none, .fa (.t 19) 3⟩,
    ⟨5, some 21, none, .load (.t 20) 1 false⟩,
    ⟨6, some 22, none, .bin .neq (.t 21) (.k (.int .i64 0))⟩])
  (.cond (.t 22) (.seq (.reg [⟨0, some 23, none, .load (.t 3) 4 true⟩,
    ⟨1, none, none, .store (.t 6) (.t 23) 4⟩])
  (.ret)) (.skip)))
  (.seq (.reg [⟨0, some 25, none, .load (.t 3) 4 true⟩,
    ⟨1, some 26, none, .mov (.t 1)⟩,
    ⟨2, some 27, none, .build [.int .i64 0, .int .i64 0] [(0, 1, (.t 26))]⟩,
    ⟨3, some 28, none, .call 65 [(.mv, (.t 25)), (.im, (.t 27))]⟩,
    ⟨4, some 24, none, .mov (.t 28)⟩,
    ⟨5, some 29, none, .ext (.t 24) 0⟩,
    ⟨6, some 30, none, .ext (.t 24) 1⟩,
    ⟨7, some 8, none, .alloc [.nils, .nils, .nils, .nils]⟩,
    ⟨8, none, none, .store (.t 8) (.t 29) 4⟩,
    ⟨9, some 9, none, .mov (.t 30)⟩])
  (.seq (.seq (.reg [⟨0, some 31, none, .mov (.t 9)⟩,
    ⟨1, some 32, none, .bin .neq (.t 31) (.k (.int .i64 0))⟩])
  (.cond (.t 32) (.seq (.reg [⟨0, some 33, none, .load (.t 3) 4 true⟩,
    ⟨1, none, none, .store (.t 6) (.t 33) 4⟩])
  (.ret)) (.skip)))
  (.reg [⟨0, some 34, none, .load (.t 8) 4 true⟩,
    ⟨1, none, none, .store (.t 3) (.t 34) 4⟩])))))
  (.reg [⟨0, some 14, none, .mov (.t 7)⟩,
    ⟨1, some 15, none, .bin .add (.t 14) (.k (.int .i64 1))⟩,
    ⟨2, some 7, none, .mov (.t 15)⟩]))))))
  (.seq (.reg [⟨0, some 35, none, .load (.t 3) 4 true⟩,
    ⟨1, none, none, .store (.t 6) (.t 35) 4⟩])
  (.ret)))⟩
/-- spec.l8DrawPicks -/
def a94 : AFn := ⟨3, [.tmp 6],
  .seq (.reg [⟨0, some 6, none, .mov (.k .nils)⟩])
  (.seq (.reg [⟨0, some 12, none, .bslice 2 0 [.int .i64 0, .int .i64 0] []⟩,
    ⟨1, some 7, none, .mov (.t 12)⟩])
  (.seq (.reg [⟨0, some 13, none, .mov (.t 0)⟩,
    ⟨1, some 14, none, .mov (.t 2)⟩,
    ⟨2, some 15, none, .bin .add (.t 14) (.k (.int .i64 1))⟩,
    ⟨3, some 16, none, .call 61 [(.io 3, (.t 13)), (.im, (.t 15))]⟩,
    ⟨4, some 8, none, .mov (.t 16)⟩])
  (.seq (.seq (.reg [⟨0, some 9, none, .mov (.k (.int .i64 0))⟩])
  (.block 0 (.loop (.seq (.seq (.reg [⟨0, some 17, none, .mov (.t 9)⟩,
    ⟨1, some 18, none, .mov (.t 8)⟩,
    ⟨2, some 19, none, .bin .lss (.t 17) (.t 18)⟩])
  (.cond (.t 19) (.skip) (.exit 0)))
  (.seq (.block 1 (.seq (.reg [⟨0, some 22, none, .mov (.t 0)⟩,
    ⟨1, some 23, none, .mov (.t 1)⟩,
    ⟨2, some 24, none, .call 138 [(.im, (.t 23)), (.im, (.k (.int .i64 1)))]⟩,
    ⟨3, some 25, none, .call 61 [(.io 3, (.t 22)), (.im, (.t 24))]⟩,
    ⟨4, some 10, none, .mov (.t 25)⟩])
  (.seq (.reg [⟨0, some 11, none, .mov (.k (.int .i64 0))⟩])
  (.block 2 (.loop (.seq (.seq (.reg [⟨0, some 26, none, .mov (.t 11)⟩,
    ⟨1, some 27, none, .mov (.t 0)⟩,
    ⟨2, some 28, none, .call 61 [(.io 3, (.t 27)), (.im, (.k (.int .i64 6)))]⟩,
    ⟨3, some 29, none, .bin .add (.k (.int .i64 1)) (.t 28)⟩,
    ⟨4, some 30, none, .bin .lss (.t 26) (.t 29)⟩])
  (.cond (.t 30) (.skip) (.exit 2)))
  (.seq (.block 3 (.reg [⟨0, some 33, none, .mov (.t 7)⟩,
    ⟨1, some 34, none, .mov (.t 10)⟩,
    ⟨2, some 35, none, .mov (.t 0)⟩,
    ⟨3, some 36, none, .call 61 [(.io 3, (.t 35)), (.im, (.k (.int .i64 4)))]⟩,
    ⟨4, some 37, none, .build [.int .i64 0, .int .i64 0] [(0, 1, (.t 34)), (1, 1, (.t 36))]⟩,
    ⟨5, some 38, none, .bslice 2 1 [.int .i64 0, .int .i64 0] [(0, 2, (.t 37))]⟩,
    ⟨6, some 39, none, .app 2 16 (.t 33) (.t 38)⟩,
    ⟨7, some 7, none, .mov (.t 39)⟩]))
  (.reg [⟨0, some 31, none, .mov (.t 11)⟩,
    ⟨1, some 32, none, .bin .add (.t 31) (.k (.int .i64 1))⟩,
    ⟨2, some 11, none, .mov (.t 32)⟩]))))))))
  (.reg [⟨0, some 20, none, .mov (.t 9)⟩,
    ⟨1, some 21, none, .bin .add (.t 20) (.k (.int .i64 1))⟩,
    ⟨2, some 9, none, .mov (.t 21)⟩]))))))
  (.seq (.reg [⟨0, some 40, none, .mov (.t 7)⟩,
    ⟨1, some 6, none, .mov (.t 40)⟩])
  (.ret)))))⟩
/-- spec.l1Once -/
def a95 : AFn := ⟨2, [.tmp 4],
  .seq (.reg [⟨0, some 4, none, .mov (.k (.bool false))⟩])
  (.seq (.reg [⟨0, some 5, none, .mov (.t 0)⟩,
    ⟨1, some 6, none, .mov (.t 1)⟩,
    ⟨2, some 7, none, .call 61 [(.io 3, (.t 5)), (.im, (.t 6))]⟩,
    ⟨3, some 8, none, .bin .eql (.t 7) (.k (.int .i64 0))⟩,
    ⟨4, some 4, none, .mov (.t 8)⟩])
  (.ret))⟩
/-- spec.l7DrawCode -/
def a96 : AFn := ⟨1, [.tmp 2],
  .seq (.reg [⟨0, some 2, none, .mov (.k .nils)⟩])
  (.seq (.reg [⟨0, some 6, none, .mov (.t 0)⟩,
    ⟨1, some 7, none, .call 61 [(.io 3, (.t 6)), (.im, (.k (.int .i64 14)))]⟩,
    ⟨2, some 8, none, .bin .add (.k (.int .i64 2)) (.t 7)⟩,
    ⟨3, some 3, none, .mov (.t 8)⟩])
  (.seq (.reg [⟨0, some 9, none, .bslice 5 0 [.int .i64 0, .int .i64 0, .int .i64 0, .int .i64 0, .int .i64 0] []⟩,
    ⟨1, some 4, none, .mov (.t 9)⟩])
  (.seq (.seq (.reg [⟨0, some 5, none, .mov (.k (.int .i64 0))⟩])
  (.block 0 (.loop (.seq (.seq (.reg [⟨0, some 10, none, .mov (.t 5)⟩,
    ⟨1, some 11, none, .mov (.t 3)⟩,
    ⟨2, some 12, none, .bin .sub (.t 11) (.k (.int .i64 1))⟩,
    ⟨3, some 13, none, .bin .lss (.t 10) (.t 12)⟩])
  (.cond (.t 13) (.skip) (.exit 0)))
  (.seq (.block 1 (.reg [⟨0, some 16, none, .mov (.t 4)⟩,
    ⟨1, some 17, none, .mov (.t 0)⟩,
    ⟨2, some 18, none, .mov (.t 3)⟩,
    ⟨3, some 19, none, .call 139 [(.io 3, (.t 17)), (.im, (.t 18))]⟩,
    ⟨4, some 20, none, .bslice 5 1 [.int .i64 0, .int .i64 0, .int .i64 0, .int .i64 0, .int .i64 0] [(0, 5, (.t 19))]⟩,
    ⟨5, some 21, none, .app 5 40 (.t 16) (.t 20)⟩,
    ⟨6, some 4, none, .mov (.t 21)⟩]))
  (.reg [⟨0, some 14, none, .mov (.t 5)⟩,
    ⟨1, some 15, none, .bin .add (.t 14) (.k (.int .i64 1))⟩,
    ⟨2, some 5, none, .mov (.t 15)⟩]))))))
  (.seq (.reg [⟨0, some 22, none, .mov (.t 4)⟩,
    ⟨1, some 23, none, .mov (.t 0)⟩,
    ⟨2, some 24, none, .bslice 1 2 [.int .i64 0] [(0, 1, (.k (.int .i64 12))), (1, 1, (.k (.int .i64 10)))]⟩,
    ⟨3, some 25, none, .call 62 [(.io 3, (.t 23)), (.im, (.t 24))]⟩,
    ⟨4, some 26, none, .build [.int .i64 0, .int .i64 0, .int .i64 0, .int .i64 0, .int .i64 0] [(0, 1, (.t 25))]⟩,
    ⟨5, some 27, none, .bslice 5 1 [.int .i64 0, .int .i64 0, .int .i64 0, .int .i64 0, .int .i64 0] [(0, 5, (.t 26))]⟩,
    ⟨6, some 28, none, .app 5 40 (.t 22) (.t 27)⟩,
    ⟨7, some 2, none, .mov (.t 28)⟩])
  (.ret)))))⟩
/-- spec.l7Spoil -/
def a97 : AFn := ⟨2, [.cell 4 5 true],
  .seq (.reg [⟨0, some 3, none, .box (.t 1)⟩,
    ⟨1, some 4, none, .alloc [.int .i64 0, .int .i64 0, .int .i64 0, .int .i64 0, .int .i64 0]⟩])
  (.seq (.seq (.reg [⟨0, some 5, none, .mov (.t 0)⟩,
    ⟨1, some 6, none, .call 61 [(.io 3, (.t 5)), (.im, (.k (.int .i64 6)))]⟩])
  (.block 0 (.seq (.reg [⟨0, some 8, none, .bin .eql (.t 6) (.k (.int .i64 0))⟩,
    ⟨1, some 7, none, .mov (.t 8)⟩])
  (.cond (.t 7) (.reg [⟨0, some 9, none, .mov (.t 0)⟩,
    ⟨1, some 10, none, .call 61 [(.io 3, (.t 9)), (.im, (.k (.int .i64 16)))]⟩,
    ⟨2, some 11, none, .bin .sub (.t 10) (.k (.int .i64 1))⟩,
    ⟨3, some 12, none, .fa (.t 3) 0⟩,
    ⟨4, none, none, .store (.t 12) (.t 11) 1⟩]) (.seq (.reg [⟨0, some 14, none, .bin .eql (.t 6) (.k (.int .i64 1))⟩,
    ⟨1, some 13, none, .mov (.t 14)⟩])
  (.cond (.t 13) (.reg [⟨0, some 15, none, .mov (.t 0)⟩,
    ⟨1, some 16, none, .bslice 1 3 [.int .i64 0] [(0, 1, (.k (.int .i64 (-1)))), (1, 1, (.k (.int .i64 7))), (2, 1, (.k (.int .i64 8)))]⟩,
    ⟨2, some 17, none, .call 62 [(.io 3, (.t 15)), (.im, (.t 16))]⟩,
    ⟨3, some 18, none, .fa (.t 3) 1⟩,
    ⟨4, none, none, .store (.t 18) (.t 17) 1⟩]) (.seq (.reg [⟨0, some 20, none, .bin .eql (.t 6) (.k (.int .i64 2))⟩,
    ⟨1, some 19, none, .mov (.t 20)⟩])
  (.cond (.t 19) (.reg [⟨0, some 21, none, .mov (.t 0)⟩,
    ⟨1, some 22, none, .bslice 1 4 [.int .i64 0] [(0, 1, (.k (.int .i64 (-2)))), (1, 1, (.k (.int .i64 (-1)))), (2, 1, (.k (.int .i64 7))), (3, 1, (.k (.int .i64 8)))]⟩,
    ⟨2, some 23, none, .call 62 [(.io 3, (.t 21)), (.im, (.t 22))]⟩,
    ⟨3, some 24, none, .fa (.t 3) 2⟩,
    ⟨4, none, none, .store (.t 24) (.t 23) 1⟩]) (.seq (.reg [⟨0, some 26, none, .bin .eql (.t 6) (.k (.int .i64 3))⟩,
    ⟨1, some 25, none, .mov (.t 26)⟩])
  (.cond (.t 25) (.reg [⟨0, some 27, none, .mov (.t 0)⟩,
    ⟨1, some 28, none, .bslice 1 6 [.int .i64 0] [(0, 1, (.k (.int .i64 (-1)))), (1, 1, (.k (.int .i64 24))), (2, 1, (.k (.int .i64 1000000000))), (3, 1, (.k (.int .i64 1000000001))), (4, 1, (.k (.int .i64 699))), (5, 1, (.k (.int .i64 700)))]⟩,
    ⟨2, some 29, none, .call 62 [(.io 3, (.t 27)), (.im, (.t 28))]⟩,
    ⟨3, some 30, none, .fa (.t 3) 4⟩,
    ⟨4, none, none, .store (.t 30) (.t 29) 1⟩]) (.skip)))))))))))
  (.seq (.reg [⟨0, some 31, none, .load (.t 3) 5 true⟩,
    ⟨1, none, none, .store (.t 4) (.t 31) 5⟩])
  (.ret)))⟩
/-- impl.copyMemory -/
def a101 : AFn := ⟨1, [.cell 2 1 true],
  .seq (.reg [⟨0, some 1, none, .box (.t 0)⟩,
    ⟨1, some 2, none, .alloc [.nils]⟩])
  (.seq (.reg [⟨0, some 9, none, .build [.nils] []⟩,
    ⟨1, some 3, none, .alloc [.nils]⟩,
    ⟨2, none, none, .store (.t 3) (.t 9) 1⟩])
  (.seq (.seq (.reg [⟨0, some 10, none, .fa (.t 1) 0⟩,
    ⟨1, some 11, none, .load (.t 10) 1 false⟩,
    ⟨2, some 12, none, .len (.t 11)⟩,
    ⟨3, some 13, none, .mov (.k (.int .i64 0))⟩])
  (.block 0 (.loop (.seq (.reg [⟨0, some 14, none, .bin .lss (.t 13) (.t 12)⟩])
  (.seq (.cond (.t 14) (.skip) (.exit 0))
  (.seq (.block 1 (.seq (.reg [⟨0, some 15, none, .ix (.t 11) (.t 13) 1⟩,
    ⟨1, some 16, none, .load (.t 15) 1 false⟩,
    ⟨2, some 5, none, .mov (.t 16)⟩])
  (.seq (.reg [⟨0, some 17, none, .bslice 2 0 [.int .i64 0, .nils] []⟩,
    ⟨1, some 6, none, .mov (.t 17)⟩])
  (.seq (.seq (.reg [⟨0, some 18, none, .mov (.t 5)⟩,
    ⟨1, some 19, none, .len (.t 18)⟩,
    ⟨2, some 20, none, .mov (.k (.int .i64 0))⟩])
  (.block 2 (.loop (.seq (.reg [⟨0, some 21, none, .bin .lss (.t 20) (.t 19)⟩])
  (.seq (.cond (.t 21) (.skip) (.exit 2))
  (.seq (.block 3 (.seq (.reg [⟨0, some 22, none, .ix (.t 18) (.t 20) 2⟩,
    ⟨1, some 23, none, .load (.t 22) 2 true⟩,
    ⟨2, some 8, none, .alloc [.int .i64 0, .nils]⟩,
    ⟨3, none, none, .store (.t 8) (.t 23) 2⟩])
  (.dreg [⟨0, some 24, none, .mov (.t 6)⟩,
    ⟨1, some 25, none, .fa (.t 8) 0⟩,
    ⟨2, some 26, none, .load (.t 25) 1 false⟩,
    ⟨3, some 27, none, .fa (.t 8) 1⟩,
    ⟨4, some 28, none, .load (.t 27) 1 false⟩,
    ⟨5, some 29, none, .call 52 [(.im, (.t 28))]⟩,
    ⟨6, some 30, none, .build [.int .i64 0, .nils] [(0, 1, (.t 26)), (1, 1, (.t 29))]⟩,
    ⟨7, some 31, none, .bslice 2 1 [.int .i64 0, .nils] [(0, 2, (.t 30))]⟩,
    ⟨8, some 32, none, .app 2 32 (.t 24) (.t 31)⟩,
    ⟨9, some 6, none, .mov (.t 32)⟩] [(2, 8)])))
  (.reg [⟨0, some 33, none, .bin .add (.t 20) (.k (.int .i64 1))⟩,
    ⟨1, some 20, none, .mov (.t 33)⟩])))))))
  (.reg [⟨0, some 34, none, .fa (.t 3) 0⟩,
    ⟨1, some 35, none, .load (.t 34) 1 false⟩,
    ⟨2, some 36, none, .mov (.t 6)⟩,
    ⟨3, some 37, none, .bslice 1 1 [.nils] [(0, 1, (.t 36))]⟩,
    ⟨4, some 38, none, .app 1 24 (.t 35) (.t 37)⟩,
    ⟨5, some 39, none, .fa (.t 3) 0⟩,
    ⟨6, none, none, .store (.t 39) (.t 38) 1⟩])))))
  (.reg [⟨0, some 40, none, .bin .add (.t 13) (.k (.int .i64 1))⟩,
    ⟨1, some 13, none, .mov (.t 40)⟩])))))))
  (.seq (.reg [⟨0, some 41, none, .load (.t 3) 1 true⟩,
    ⟨1, none, none, .store (.t 2) (.t 41) 1⟩])
  (.ret))))⟩
/-- impl.copyNotes -/
def a102 : AFn := ⟨1, [.tmp 2],
  .seq (.reg [⟨0, some 2, none, .mov (.k .nils)⟩])
  (.seq (.reg [⟨0, some 3, none, .bslice 2 0 [.int .i64 0, .int .i64 0] []⟩,
    ⟨1, some 4, none, .mov (.t 0)⟩,
    ⟨2, some 5, none, .app 2 16 (.t 3) (.t 4)⟩,
    ⟨3, some 2, none, .mov (.t 5)⟩])
  (.ret))⟩
/-- impl.isCore -/
def a103 : AFn := ⟨2, [.tmp 4],
  .seq (.reg [⟨0, some 4, none, .mov (.k (.bool false))⟩])
  (.seq (.reg [⟨0, some 5, none, .mov (.t 1)⟩,
    ⟨1, some 6, none, .mov (.t 0)⟩,
    ⟨2, some 7, none, .nilck (.t 6)⟩,
    ⟨3, some 8, none, .fa (.t 7) 1⟩,
    ⟨4, some 9, none, .load (.t 8) 1 false⟩,
    ⟨5, some 10, none, .len (.t 9)⟩,
    ⟨6, some 11, none, .bin .sub (.t 10) (.k (.int .i64 1))⟩,
    ⟨7, some 12, none, .call 50 [(.im, (.t 5)), (.im, (.k (.int .i64 0))), (.im, (.t 11))]⟩,
    ⟨8, some 4, none, .mov (.t 12)⟩])
  (.ret))⟩
/-- impl.number -/
def a104 : AFn := ⟨1, [.tmp 2],
  .seq (.reg [⟨0, some 2, none, .mov (.k (.int .i64 0))⟩])
  (.seq (.seq (.reg [⟨0, some 3, none, .mov (.t 0)⟩])
  (.cond (.t 3) (.seq (.reg [⟨0, some 2, none, .mov (.k (.int .i64 1))⟩])
  (.ret)) (.skip)))
  (.seq (.reg [⟨0, some 2, none, .mov (.k (.int .i64 0))⟩])
  (.ret)))⟩
/-- impl.cellOf -/
def a105 : AFn := ⟨2, [.tmp 4, .tmp 5],
  .seq (.reg [⟨0, some 3, none, .box (.t 1)⟩,
    ⟨1, some 4, none, .mov (.k (.int .i64 0))⟩,
    ⟨2, some 5, none, .mov (.k (.bool false))⟩])
  (.seq (.reg [⟨0, some 7, none, .fa (.t 3) 4⟩,
    ⟨1, some 8, none, .load (.t 7) 1 false⟩,
    ⟨2, some 6, none, .mov (.t 8)⟩])
  (.seq (.seq (.reg [⟨0, some 9, none, .fa (.t 3) 0⟩,
    ⟨1, some 10, none, .load (.t 9) 1 false⟩,
    ⟨2, some 11, none, .bin .neq (.t 10) (.k (.int .i64 8))⟩,
    ⟨3, some 12, none, .mov (.t 11)⟩,
    ⟨4, some 13, (some (12, true)), .fa (.t 3) 2⟩,
    ⟨5, some 14, (some (12, true)), .load (.t 13) 1 false⟩,
    ⟨6, some 15, (some (12, true)), .bin .geq (.t 14) (.k (.int .i64 0))⟩,
    ⟨7, some 16, none, .pick (.t 12) (.t 15) (.k (.bool false))⟩])
  (.cond (.t 16) (.dreg [⟨0, some 17, none, .mov (.t 6)⟩,
    ⟨1, some 18, none, .mov (.t 0)⟩,
    ⟨2, some 19, none, .nilck (.t 18)⟩,
    ⟨3, some 20, none, .fa (.t 19) 1⟩,
    ⟨4, some 21, none, .load (.t 20) 1 false⟩,
    ⟨5, some 22, none, .fa (.t 3) 2⟩,
    ⟨6, some 23, none, .load (.t 22) 1 false⟩,
    ⟨7, some 24, none, .ix (.t 21) (.t 23) 1⟩,
    ⟨8, some 25, none, .load (.t 24) 1 false⟩,
    ⟨9, some 26, none, .bin .add (.t 17) (.t 25)⟩,
    ⟨10, some 6, none, .mov (.t 26)⟩] []) (.skip)))
  (.seq (.reg [⟨0, some 27, none, .mov (.t 6)⟩,
    ⟨1, some 28, none, .mov (.t 6)⟩,
    ⟨2, some 29, none, .call 144 [(.im, (.t 28))]⟩,
    ⟨3, some 4, none, .mov (.t 27)⟩,
    ⟨4, some 5, none, .mov (.t 29)⟩])
  (.ret))))⟩
/-- impl.Memory).hasRoom -/
def a106 : AFn := ⟨2, [.tmp 4],
  .seq (.reg [⟨0, some 4, none, .mov (.k (.bool false))⟩])
  (.seq (.reg [⟨0, some 5, none, .mov (.t 0)⟩,
    ⟨1, some 6, none, .nilck (.t 5)⟩,
    ⟨2, some 7, none, .fa (.t 6) 0⟩,
    ⟨3, some 8, none, .load (.t 7) 1 false⟩,
    ⟨4, some 9, none, .mov (.t 1)⟩,
    ⟨5, some 10, none, .ix (.t 8) (.t 9) 1⟩,
    ⟨6, some 11, none, .load (.t 10) 1 false⟩,
    ⟨7, some 12, none, .len (.t 11)⟩,
    ⟨8, some 13, none, .bin .lss (.t 12) (.k (.int .i64 4000))⟩,
    ⟨9, some 4, none, .mov (.t 13)⟩])
  (.ret))⟩
/-- impl.Machine).access -/
def a107 : AFn := ⟨5, [],
  .seq (.reg [⟨0, some 7, none, .box (.t 2)⟩])
  (.seq (.reg [⟨0, some 14, none, .fa (.t 7) 0⟩,
    ⟨1, some 15, none, .load (.t 14) 1 false⟩])
  (.block 0 (.seq (.reg [⟨0, some 40, none, .bin .eql (.t 15) (.k (.int .i64 5))⟩,
    ⟨1, some 39, none, .mov (.t 40)⟩])
  (.cond (.t 39) (.seq (.dreg [⟨0, some 42, none, .mov (.t 0)⟩,
    ⟨1, some 43, none, .nilck (.t 42)⟩,
    ⟨2, some 44, none, .fa (.t 43) 2⟩,
    ⟨3, some 45, none, .mov (.t 1)⟩,
    ⟨4, some 46, none, .nilck (.t 45)⟩,
    ⟨5, some 47, none, .fa (.t 46) 2⟩,
    ⟨6, some 48, none, .load (.t 47) 1 false⟩,
    ⟨7, some 49, none, .mov (.t 3)⟩,
    ⟨8, some 50, none, .mov (.t 4)⟩,
    ⟨9, some 51, none, .call 145 [(.im, (.t 44)), (.im, (.t 48)), (.im, (.t 49)), (.im, (.t 50)), (.im, (.k (.bool false)))]⟩,
    ⟨10, some 41, none, .mov (.t 51)⟩,
    ⟨11, some 52, none, .ext (.t 41) 0⟩,
    ⟨12, some 53, none, .ext (.t 41) 1⟩,
    ⟨13, some 10, none, .mov (.t 52)⟩,
    ⟨14, some 11, none, .mov (.t 53)⟩] [])
  (.dreg [⟨0, some 54, none, .mov (.t 1)⟩,
    ⟨1, some 55, none, .nilck (.t 54)⟩,
    ⟨2, some 56, none, .fa (.t 55) 1⟩,
    ⟨3, some 57, none, .load (.t 56) 1 false⟩,
    ⟨4, some 58, none, .fa (.t 7) 1⟩,
    ⟨5, some 59, none, .load (.t 58) 1 false⟩,
    ⟨6, some 60, none, .mov (.t 1)⟩,
    ⟨7, some 61, none, .mov (.t 10)⟩,
    ⟨8, some 62, none, .mov (.t 11)⟩,
    ⟨9, some 63, none, .ix (.t 57) (.t 59) 1⟩,
    ⟨10, none, none, .store (.t 63) (.t 61) 1⟩,
    ⟨11, some 64, none, .nilck (.t 60)⟩,
    ⟨12, some 65, none, .fa (.t 64) 2⟩,
    ⟨13, none, none, .store (.t 65) (.t 62) 1⟩] [])) (.seq (.reg [⟨0, some 67, none, .bin .eql (.t 15) (.k (.int .i64 8))⟩,
    ⟨1, some 66, none, .mov (.t 67)⟩])
  (.cond (.t 66) (.seq (.dreg [⟨0, some 69, none, .mov (.t 0)⟩,
    ⟨1, some 70, none, .nilck (.t 69)⟩,
    ⟨2, some 71, none, .fa (.t 70) 2⟩,
    ⟨3, some 72, none, .mov (.t 1)⟩,
    ⟨4, some 73, none, .nilck (.t 72)⟩,
    ⟨5, some 74, none, .fa (.t 73) 2⟩,
    ⟨6, some 75, none, .load (.t 74) 1 false⟩,
    ⟨7, some 76, none, .mov (.t 3)⟩,
    ⟨8, some 77, none, .call 145 [(.im, (.t 71)), (.im, (.t 75)), (.im, (.t 76)), (.im, (.k (.int .i64 0))), (.im, (.k (.bool true)))]⟩,
    ⟨9, some 68, none, .mov (.t 77)⟩,
    ⟨10, some 78, none, .ext (.t 68) 0⟩,
    ⟨11, some 79, none, .ext (.t 68) 1⟩,
    ⟨12, some 12, none, .mov (.t 78)⟩,
    ⟨13, some 13, none, .mov (.t 79)⟩] [])
  (.seq (.dreg [⟨0, some 80, none, .mov (.t 1)⟩,
    ⟨1, some 81, none, .mov (.t 0)⟩,
    ⟨2, some 82, none, .nilck (.t 81)⟩,
    ⟨3, some 83, none, .fa (.t 82) 2⟩,
    ⟨4, some 84, none, .mov (.t 13)⟩,
    ⟨5, some 85, none, .mov (.t 3)⟩,
    ⟨6, some 86, none, .mov (.t 1)⟩,
    ⟨7, some 87, none, .nilck (.t 86)⟩,
    ⟨8, some 88, none, .fa (.t 87) 1⟩,
    ⟨9, some 89, none, .load (.t 88) 1 false⟩,
    ⟨10, some 90, none, .fa (.t 7) 3⟩,
    ⟨11, some 91, none, .load (.t 90) 1 false⟩,
    ⟨12, some 92, none, .ix (.t 89) (.t 91) 1⟩,
    ⟨13, some 93, none, .load (.t 92) 1 false⟩,
    ⟨14, some 94, none, .call 146 [(.io 1, (.t 83)), (.im, (.t 84)), (.im, (.t 85)), (.im, (.t 93)), (.im, (.k (.bool true)))]⟩,
    ⟨15, some 95, none, .nilck (.t 80)⟩,
    ⟨16, some 96, none, .fa (.t 95) 2⟩,
    ⟨17, none, none, .store (.t 96) (.t 94) 1⟩] [])
  (.dreg [⟨0, some 97, none, .mov (.t 1)⟩,
    ⟨1, some 98, none, .nilck (.t 97)⟩,
    ⟨2, some 99, none, .fa (.t 98) 1⟩,
    ⟨3, some 100, none, .load (.t 99) 1 false⟩,
    ⟨4, some 101, none, .fa (.t 7) 1⟩,
    ⟨5, some 102, none, .load (.t 101) 1 false⟩,
    ⟨6, some 103, none, .mov (.t 12)⟩,
    ⟨7, some 104, none, .ix (.t 100) (.t 102) 1⟩,
    ⟨8, none, none, .store (.t 104) (.t 103) 1⟩] []))) (.dreg [⟨0, some 16, none, .mov (.t 1)⟩,
    ⟨1, some 17, none, .mov (.t 0)⟩,
    ⟨2, some 18, none, .nilck (.t 17)⟩,
    ⟨3, some 19, none, .fa (.t 18) 2⟩,
    ⟨4, some 20, none, .mov (.t 1)⟩,
    ⟨5, some 21, none, .nilck (.t 20)⟩,
    ⟨6, some 22, none, .fa (.t 21) 2⟩,
    ⟨7, some 23, none, .load (.t 22) 1 false⟩,
    ⟨8, some 24, none, .mov (.t 3)⟩,
    ⟨9, some 25, none, .mov (.t 1)⟩,
    ⟨10, some 26, none, .nilck (.t 25)⟩,
    ⟨11, some 27, none, .fa (.t 26) 1⟩,
    ⟨12, some 28, none, .load (.t 27) 1 false⟩,
    ⟨13, some 29, none, .fa (.t 7) 3⟩,
    ⟨14, some 30, none, .load (.t 29) 1 false⟩,
    ⟨15, some 31, none, .ix (.t 28) (.t 30) 1⟩,
    ⟨16, some 32, none, .load (.t 31) 1 false⟩,
    ⟨17, some 33, none, .fa (.t 7) 0⟩,
    ⟨18, some 34, none, .load (.t 33) 1 false⟩,
    ⟨19, some 35, none, .bin .eql (.t 34) (.k (.int .i64 7))⟩,
    ⟨20, some 36, none, .call 146 [(.io 1, (.t 19)), (.im, (.t 23)), (.im, (.t 24)), (.im, (.t 32)), (.im, (.t 35))]⟩,
    ⟨21, some 37, none, .nilck (.t 16)⟩,
    ⟨22, some 38, none, .fa (.t 37) 2⟩,
    ⟨23, none, none, .store (.t 38) (.t 36) 1⟩] [])))))))⟩
/-- spec.l8DrawRight -/
def a113 : AFn := ⟨1, [.cell 2 4 true],
  .seq (.reg [⟨0, some 2, none, .alloc [.nils, .nils, .nils, .nils]⟩])
  (.seq (.reg [⟨0, some 7, none, .bslice 1 0 [.nils] []⟩,
    ⟨1, some 3, none, .mov (.t 7)⟩])
  (.seq (.seq (.reg [⟨0, some 4, none, .mov (.k (.int .i64 0))⟩])
  (.block 0 (.loop (.seq (.seq (.reg [⟨0, some 8, none, .mov (.t 4)⟩,
    ⟨1, some 9, none, .mov (.t 0)⟩,
    ⟨2, some 10, none, .call 61 [(.io 3, (.t 9)), (.im, (.k (.int .i64 3)))]⟩,
    ⟨3, some 11, none, .bin .add (.k (.int .i64 1)) (.t 10)⟩,
    ⟨4, some 12, none, .bin .lss (.t 8) (.t 11)⟩])
  (.cond (.t 12) (.skip) (.exit 0)))
  (.seq (.block 1 (.reg [⟨0, some 15, none, .mov (.t 3)⟩,
    ⟨1, some 16, none, .mov (.t 0)⟩,
    ⟨2, some 17, none, .call 96 [(.io 3, (.t 16))]⟩,
    ⟨3, some 18, none, .bslice 1 1 [.nils] [(0, 1, (.t 17))]⟩,
    ⟨4, some 19, none, .app 1 24 (.t 15) (.t 18)⟩,
    ⟨5, some 3, none, .mov (.t 19)⟩]))
  (.reg [⟨0, some 13, none, .mov (.t 4)⟩,
    ⟨1, some 14, none, .bin .add (.t 13) (.k (.int .i64 1))⟩,
    ⟨2, some 4, none, .mov (.t 14)⟩]))))))
  (.seq (.reg [⟨0, some 21, none, .mov (.t 3)⟩,
    ⟨1, some 22, none, .call 12 [(.im, (.t 21))]⟩,
    ⟨2, some 20, none, .mov (.t 22)⟩,
    ⟨3, some 23, none, .ext (.t 20) 0⟩,
    ⟨4, some 24, none, .ext (.t 20) 1⟩,
    ⟨5, some 5, none, .alloc [.nils, .nils, .nils, .nils]⟩,
    ⟨6, none, none, .store (.t 5) (.t 23) 4⟩,
    ⟨7, some 6, none, .mov (.t 24)⟩])
  (.seq (.dreg [⟨0, some 26, none, .load (.t 5) 4 true⟩,
    ⟨1, some 27, none, .mov (.t 0)⟩,
    ⟨2, some 28, none, .mov (.t 3)⟩,
    ⟨3, some 29, none, .len (.t 28)⟩,
    ⟨4, some 30, none, .call 94 [(.io 3, (.t 27)), (.im, (.t 29)), (.im, (.k (.int .i64 12)))]⟩,
    ⟨5, some 31, none, .call 39 [(.im, (.t 26)), (.im, (.t 30))]⟩,
    ⟨6, some 25, none, .mov (.t 31)⟩,
    ⟨7, some 32, none, .ext (.t 25) 0⟩,
    ⟨8, some 33, none, .ext (.t 25) 1⟩,
    ⟨9, none, none, .store (.t 5) (.t 32) 4⟩] [(0, 5)])
  (.seq (.reg [⟨0, some 34, none, .load (.t 5) 4 true⟩,
    ⟨1, none, none, .store (.t 2) (.t 34) 4⟩])
  (.ret))))))⟩
/-- spec.l1Byte -/
def a114 : AFn := ⟨1, [.tmp 2],
  .seq (.reg [⟨0, some 2, none, .mov (.k (.int .i64 0))⟩])
  (.seq (.reg [⟨0, some 4, none, .mov (.t 0)⟩,
    ⟨1, some 5, none, .mov (.t 0)⟩,
    ⟨2, some 6, none, .nilck (.t 5)⟩,
    ⟨3, some 7, none, .fa (.t 6) 2⟩,
    ⟨4, some 8, none, .load (.t 7) 1 false⟩,
    ⟨5, some 9, none, .bin .mul (.t 8) (.k (.int .i64 6364136223846793005))⟩,
    ⟨6, some 10, none, .bin .add (.t 9) (.k (.int .i64 1442695040888963407))⟩,
    ⟨7, some 11, none, .nilck (.t 4)⟩,
    ⟨8, some 12, none, .fa (.t 11) 2⟩,
    ⟨9, none, none, .store (.t 12) (.t 10) 1⟩])
  (.seq (.dreg [⟨0, some 13, none, .mov (.t 0)⟩,
    ⟨1, some 14, none, .nilck (.t 13)⟩,
    ⟨2, some 15, none, .fa (.t 14) 2⟩,
    ⟨3, some 16, none, .load (.t 15) 1 false⟩,
    ⟨4, some 17, none, .bin .shr (.t 16) (.k (.int .u64 33))⟩,
    ⟨5, some 18, none, .mov (.t 0)⟩,
    ⟨6, some 19, none, .nilck (.t 18)⟩,
    ⟨7, some 20, none, .fa (.t 19) 2⟩,
    ⟨8, some 21, none, .load (.t 20) 1 false⟩,
    ⟨9, some 22, none, .bin .shr (.t 21) (.k (.int .u64 45))⟩,
    ⟨10, some 23, none, .bin .xor (.t 17) (.t 22)⟩,
    ⟨11, some 24, none, .bin .and (.t 23) (.k (.int .i64 255))⟩,
    ⟨12, some 3, none, .mov (.t 24)⟩] [])
  (.seq (.seq (.dreg [⟨0, some 25, none, .mov (.t 0)⟩,
    ⟨1, some 26, none, .nilck (.t 25)⟩,
    ⟨2, some 27, none, .fa (.t 26) 1⟩,
    ⟨3, some 28, none, .load (.t 27) 1 false⟩,
    ⟨4, some 29, none, .mov (.t 0)⟩,
    ⟨5, some 30, none, .nilck (.t 29)⟩,
    ⟨6, some 31, none, .fa (.t 30) 0⟩,
    ⟨7, some 32, none, .load (.t 31) 1 false⟩,
    ⟨8, some 33, none, .len (.t 32)⟩,
    ⟨9, some 34, none, .bin .lss (.t 28) (.t 33)⟩] [])
  (.cond (.t 34) (.seq (.dreg [⟨0, some 35, none, .mov (.t 3)⟩,
    ⟨1, some 36, none, .mov (.t 0)⟩,
    ⟨2, some 37, none, .nilck (.t 36)⟩,
    ⟨3, some 38, none, .fa (.t 37) 0⟩,
    ⟨4, some 39, none, .load (.t 38) 1 false⟩,
    ⟨5, some 40, none, .mov (.t 0)⟩,
    ⟨6, some 41, none, .nilck (.t 40)⟩,
    ⟨7, some 42, none, .fa (.t 41) 1⟩,
    ⟨8, some 43, none, .load (.t 42) 1 false⟩,
    ⟨9, some 44, none, .ix (.t 39) (.t 43) 1⟩,
    ⟨10, some 45, none, .load (.t 44) 1 false⟩,
    ⟨11, some 46, none, .conv .i64 (.t 45)⟩,
    ⟨12, some 47, none, .bin .add (.t 35) (.t 46)⟩,
    ⟨13, some 48, none, .bin .and (.t 47) (.k (.int .i64 255))⟩,
    ⟨14, some 3, none, .mov (.t 48)⟩] [])
  (.reg [⟨0, some 49, none, .mov (.t 0)⟩,
    ⟨1, some 50, none, .mov (.t 0)⟩,
    ⟨2, some 51, none, .nilck (.t 50)⟩,
    ⟨3, some 52, none, .fa (.t 51) 1⟩,
    ⟨4, some 53, none, .load (.t 52) 1 false⟩,
    ⟨5, some 54, none, .bin .add (.t 53) (.k (.int .i64 1))⟩,
    ⟨6, some 55, none, .nilck (.t 49)⟩,
    ⟨7, some 56, none, .fa (.t 55) 1⟩,
    ⟨8, none, none, .store (.t 56) (.t 54) 1⟩])) (.skip)))
  (.seq (.reg [⟨0, some 57, none, .mov (.t 3)⟩,
    ⟨1, some 2, none, .mov (.t 57)⟩])
  (.ret)))))⟩
/-- spec.l6Copy -/
def a115 : AFn := ⟨1, [.cell 2 1 true],
  .seq (.reg [⟨0, some 1, none, .box (.t 0)⟩,
    ⟨1, some 2, none, .alloc [.nils]⟩])
  (.seq (.reg [⟨0, some 7, none, .build [.nils] []⟩,
    ⟨1, some 3, none, .alloc [.nils]⟩,
    ⟨2, none, none, .store (.t 3) (.t 7) 1⟩])
  (.seq (.seq (.reg [⟨0, some 4, none, .mov (.k (.int .i64 0))⟩])
  (.block 0 (.loop (.seq (.seq (.reg [⟨0, some 8, none, .mov (.t 4)⟩,
    ⟨1, some 9, none, .fa (.t 1) 0⟩,
    ⟨2, some 10, none, .load (.t 9) 1 false⟩,
    ⟨3, some 11, none, .len (.t 10)⟩,
    ⟨4, some 12, none, .bin .lss (.t 8) (.t 11)⟩])
  (.cond (.t 12) (.skip) (.exit 0)))
  (.seq (.block 1 (.seq (.reg [⟨0, some 15, none, .bslice 2 0 [.int .i64 0, .nils] []⟩,
    ⟨1, some 5, none, .mov (.t 15)⟩])
  (.seq (.seq (.reg [⟨0, some 6, none, .mov (.k (.int .i64 0))⟩])
  (.block 2 (.loop (.seq (.seq (.reg [⟨0, some 16, none, .mov (.t 6)⟩,
    ⟨1, some 17, none, .fa (.t 1) 0⟩,
    ⟨2, some 18, none, .load (.t 17) 1 false⟩,
    ⟨3, some 19, none, .mov (.t 4)⟩,
    ⟨4, some 20, none, .ix (.t 18) (.t 19) 1⟩,
    ⟨5, some 21, none, .load (.t 20) 1 false⟩,
    ⟨6, some 22, none, .len (.t 21)⟩,
    ⟨7, some 23, none, .bin .lss (.t 16) (.t 22)⟩])
  (.cond (.t 23) (.skip) (.exit 2)))
  (.seq (.block 3 (.dreg [⟨0, some 26, none, .mov (.t 5)⟩,
    ⟨1, some 27, none, .fa (.t 1) 0⟩,
    ⟨2, some 28, none, .load (.t 27) 1 false⟩,
    ⟨3, some 29, none, .mov (.t 4)⟩,
    ⟨4, some 30, none, .ix (.t 28) (.t 29) 1⟩,
    ⟨5, some 31, none, .load (.t 30) 1 false⟩,
    ⟨6, some 32, none, .mov (.t 6)⟩,
    ⟨7, some 33, none, .ix (.t 31) (.t 32) 2⟩,
    ⟨8, some 34, none, .fa (.t 33) 0⟩,
    ⟨9, some 35, none, .load (.t 34) 1 false⟩,
    ⟨10, some 36, none, .bslice 1 0 [.int .i64 0] []⟩,
    ⟨11, some 37, none, .fa (.t 1) 0⟩,
    ⟨12, some 38, none, .load (.t 37) 1 false⟩,
    ⟨13, some 39, none, .mov (.t 4)⟩,
    ⟨14, some 40, none, .ix (.t 38) (.t 39) 1⟩,
    ⟨15, some 41, none, .load (.t 40) 1 false⟩,
    ⟨16, some 42, none, .mov (.t 6)⟩,
    ⟨17, some 43, none, .ix (.t 41) (.t 42) 2⟩,
    ⟨18, some 44, none, .fa (.t 43) 1⟩,
    ⟨19, some 45, none, .load (.t 44) 1 false⟩,
    ⟨20, some 46, none, .app 1 8 (.t 36) (.t 45)⟩,
    ⟨21, some 47, none, .build [.int .i64 0, .nils] [(0, 1, (.t 35)), (1, 1, (.t 46))]⟩,
    ⟨22, some 48, none, .bslice 2 1 [.int .i64 0, .nils] [(0, 2, (.t 47))]⟩,
    ⟨23, some 49, none, .app 2 32 (.t 26) (.t 48)⟩,
    ⟨24, some 5, none, .mov (.t 49)⟩] [(2, 20), (2, 23), (5, 20), (5, 23), (9, 20), (9, 23)]))
  (.reg [⟨0, some 24, none, .mov (.t 6)⟩,
    ⟨1, some 25, none, .bin .add (.t 24) (.k (.int .i64 1))⟩,
    ⟨2, some 6, none, .mov (.t 25)⟩]))))))
  (.reg [⟨0, some 50, none, .fa (.t 3) 0⟩,
    ⟨1, some 51, none, .load (.t 50) 1 false⟩,
    ⟨2, some 52, none, .mov (.t 5)⟩,
    ⟨3, some 53, none, .bslice 1 1 [.nils] [(0, 1, (.t 52))]⟩,
    ⟨4, some 54, none, .app 1 24 (.t 51) (.t 53)⟩,
    ⟨5, some 55, none, .fa (.t 3) 0⟩,
    ⟨6, none, none, .store (.t 55) (.t 54) 1⟩]))))
  (.reg [⟨0, some 13, none, .mov (.t 4)⟩,
    ⟨1, some 14, none, .bin .add (.t 13) (.k (.int .i64 1))⟩,
    ⟨2, some 4, none, .mov (.t 14)⟩]))))))
  (.seq (.reg [⟨0, some 56, none, .load (.t 3) 1 true⟩,
    ⟨1, none, none, .store (.t 2) (.t 56) 1⟩])
  (.ret))))⟩
/-- spec.l8Core -/
def a116 : AFn := ⟨1, [.cell 2 4 true],
  .seq (.reg [⟨0, some 1, none, .box (.t 0)⟩,
    ⟨1, some 2, none, .alloc [.int .i64 0, .nils, .nils, .int .i64 0]⟩])
  (.seq (.reg [⟨0, some 3, none, .bslice 1 0 [.int .i64 0] []⟩,
    ⟨1, some 4, none, .fa (.t 1) 1⟩,
    ⟨2, some 5, none, .load (.t 4) 1 false⟩,
    ⟨3, some 6, none, .app 1 8 (.t 3) (.t 5)⟩,
    ⟨4, some 7, none, .fa (.t 1) 1⟩,
    ⟨5, none, none, .store (.t 7) (.t 6) 1⟩])
  (.seq (.reg [⟨0, some 8, none, .bslice 1 0 [.int .i64 0] []⟩,
    ⟨1, some 9, none, .fa (.t 1) 2⟩,
    ⟨2, some 10, none, .load (.t 9) 1 false⟩,
    ⟨3, some 11, none, .app 1 8 (.t 8) (.t 10)⟩,
    ⟨4, some 12, none, .fa (.t 1) 2⟩,
    ⟨5, none, none, .store (.t 12) (.t 11) 1⟩])
  (.seq (.reg [⟨0, some 13, none, .load (.t 1) 4 true⟩,
    ⟨1, none, none, .store (.t 2) (.t 13) 4⟩])
  (.ret))))⟩
/-- spec.l4Bit -/
def a117 : AFn := ⟨1, [.tmp 2],
  .seq (.reg [⟨0, some 2, none, .mov (.k (.int .i64 0))⟩])
  (.seq (.seq (.reg [⟨0, some 3, none, .mov (.t 0)⟩])
  (.cond (.t 3) (.seq (.reg [⟨0, some 2, none, .mov (.k (.int .i64 1))⟩])
  (.ret)) (.skip)))
  (.seq (.reg [⟨0, some 2, none, .mov (.k (.int .i64 0))⟩])
  (.ret)))⟩
/-- spec.l8Memory -/
def a118 : AFn := ⟨3, [.cell 6 4 true, .tmp 7, .tmp 8],
  .seq (.reg [⟨0, some 3, none, .box (.t 0)⟩,
    ⟨1, some 4, none, .box (.t 1)⟩,
    ⟨2, some 5, none, .box (.t 2)⟩,
    ⟨3, some 6, none, .alloc [.nils, .nils, .nils, .nils]⟩,
    ⟨4, some 7, none, .mov (.k (.bool false))⟩,
    ⟨5, some 8, none, .mov (.k (.bool false))⟩])
  (.seq (.reg [⟨0, some 14, none, .fa (.t 3) 1⟩,
    ⟨1, some 15, none, .load (.t 14) 1 false⟩,
    ⟨2, some 16, none, .fa (.t 4) 0⟩,
    ⟨3, some 17, none, .load (.t 16) 1 false⟩,
    ⟨4, some 18, none, .ix (.t 15) (.t 17) 4⟩,
    ⟨5, some 19, none, .load (.t 18) 4 true⟩,
    ⟨6, some 9, none, .alloc [.int .i64 0, .nils, .nils, .int .i64 0]⟩,
    ⟨7, none, none, .store (.t 9) (.t 19) 4⟩])
  (.seq (.reg [⟨0, some 20, none, .fa (.t 5) 4⟩,
    ⟨1, some 21, none, .load (.t 20) 1 false⟩,
    ⟨2, some 10, none, .mov (.t 21)⟩])
  (.seq (.seq (.reg [⟨0, some 22, none, .fa (.t 5) 0⟩,
    ⟨1, some 23, none, .load (.t 22) 1 false⟩,
    ⟨2, some 24, none, .bin .neq (.t 23) (.k (.int .i64 8))⟩,
    ⟨3, some 25, none, .mov (.t 24)⟩,
    ⟨4, some 26, (some (25, true)), .fa (.t 5) 2⟩,
    ⟨5, some 27, (some (25, true)), .load (.t 26) 1 false⟩,
    ⟨6, some 28, (some (25, true)), .bin .geq (.t 27) (.k (.int .i64 0))⟩,
    ⟨7, some 29, none, .pick (.t 25) (.t 28) (.k (.bool false))⟩])
  (.cond (.t 29) (.dreg [⟨0, some 30, none, .fa (.t 5) 4⟩,
    ⟨1, some 31, none, .load (.t 30) 1 false⟩,
    ⟨2, some 32, none, .fa (.t 9) 1⟩,
    ⟨3, some 33, none, .load (.t 32) 1 false⟩,
    ⟨4, some 34, none, .fa (.t 5) 2⟩,
    ⟨5, some 35, none, .load (.t 34) 1 false⟩,
    ⟨6, some 36, none, .ix (.t 33) (.t 35) 1⟩,
    ⟨7, some 37, none, .load (.t 36) 1 false⟩,
    ⟨8, some 38, none, .bin .add (.t 31) (.t 37)⟩,
    ⟨9, some 10, none, .mov (.t 38)⟩] []) (.skip)))
  (.seq (.seq (.reg [⟨0, some 39, none, .mov (.t 10)⟩,
    ⟨1, some 40, none, .call 63 [(.im, (.t 39)), (.im, (.k (.int .i64 0))), (.im, (.k (.int .i64 23)))]⟩,
    ⟨2, some 41, none, .un .not (.t 40)⟩])
  (.cond (.t 41) (.seq (.reg [⟨0, some 42, none, .load (.t 3) 4 true⟩,
    ⟨1, none, none, .store (.t 6) (.t 42) 4⟩,
    ⟨2, some 7, none, .mov (.k (.bool false))⟩,
    ⟨3, some 8, none, .mov (.k (.bool false))⟩])
  (.ret)) (.skip)))
  (.seq (.seq (.reg [⟨0, some 43, none, .fa (.t 5) 0⟩,
    ⟨1, some 44, none, .load (.t 43) 1 false⟩,
    ⟨2, some 45, none, .bin .neq (.t 44) (.k (.int .i64 5))⟩,
    ⟨3, some 46, none, .mov (.t 45)⟩,
    ⟨4, some 47, (some (46, true)), .fa (.t 3) 2⟩,
    ⟨5, some 48, (some (46, true)), .fa (.t 47) 0⟩,
    ⟨6, some 49, (some (46, true)), .load (.t 48) 1 false⟩,
    ⟨7, some 50, (some (46, true)), .mov (.t 10)⟩,
    ⟨8, some 51, (some (46, true)), .ix (.t 49) (.t 50) 1⟩,
    ⟨9, some 52, (some (46, true)), .load (.t 51) 1 false⟩,
    ⟨10, some 53, (some (46, true)), .len (.t 52)⟩,
    ⟨11, some 54, (some (46, true)), .bin .eql (.t 53) (.k (.int .i64 4000))⟩,
    ⟨12, some 55, none, .pick (.t 46) (.t 54) (.k (.bool false))⟩])
  (.cond (.t 55) (.seq (.reg [⟨0, some 56, none, .load (.t 3) 4 true⟩,
    ⟨1, none, none, .store (.t 6) (.t 56) 4⟩,
    ⟨2, some 7, none, .mov (.k (.bool true))⟩,
    ⟨3, some 8, none, .mov (.k (.bool true))⟩])
  (.ret)) (.skip)))
  (.seq (.seq (.reg [⟨0, some 57, none, .fa (.t 5) 0⟩,
    ⟨1, some 58, none, .load (.t 57) 1 false⟩])
  (.block 0 (.seq (.reg [⟨0, some 80, none, .bin .eql (.t 58) (.k (.int .i64 5))⟩,
    ⟨1, some 79, none, .mov (.t 80)⟩])
  (.cond (.t 79) (.dreg [⟨0, some 82, none, .fa (.t 9) 1⟩,
    ⟨1, some 83, none, .load (.t 82) 1 false⟩,
    ⟨2, some 84, none, .fa (.t 5) 1⟩,
    ⟨3, some 85, none, .load (.t 84) 1 false⟩,
    ⟨4, some 86, none, .fa (.t 3) 2⟩,
    ⟨5, some 87, none, .load (.t 86) 1 true⟩,
    ⟨6, some 88, none, .fa (.t 9) 2⟩,
    ⟨7, some 89, none, .load (.t 88) 1 false⟩,
    ⟨8, some 90, none, .mov (.t 10)⟩,
    ⟨9, some 91, none, .fa (.t 4) 1⟩,
    ⟨10, some 92, none, .load (.t 91) 1 false⟩,
    ⟨11, some 93, none, .call 155 [(.im, (.t 87)), (.im, (.t 89)), (.im, (.t 90)), (.im, (.t 92)), (.im, (.k (.bool false)))]⟩,
    ⟨12, some 81, none, .mov (.t 93)⟩,
    ⟨13, some 94, none, .ext (.t 81) 0⟩,
    ⟨14, some 95, none, .ext (.t 81) 1⟩,
    ⟨15, some 96, none, .ix (.t 83) (.t 85) 1⟩,
    ⟨16, none, none, .store (.t 96) (.t 94) 1⟩,
    ⟨17, some 97, none, .fa (.t 9) 2⟩,
    ⟨18, none, none, .store (.t 97) (.t 95) 1⟩] [(1, 16), (3, 16)]) (.seq (.reg [⟨0, some 99, none, .bin .eql (.t 58) (.k (.int .i64 8))⟩,
    ⟨1, some 98, none, .mov (.t 99)⟩])
  (.cond (.t 98) (.seq (.reg [⟨0, some 101, none, .fa (.t 3) 2⟩,
    ⟨1, some 102, none, .load (.t 101) 1 true⟩,
    ⟨2, some 103, none, .fa (.t 9) 2⟩,
    ⟨3, some 104, none, .load (.t 103) 1 false⟩,
    ⟨4, some 105, none, .mov (.t 10)⟩,
    ⟨5, some 106, none, .call 155 [(.im, (.t 102)), (.im, (.t 104)), (.im, (.t 105)), (.im, (.k (.int .i64 0))), (.im, (.k (.bool true)))]⟩,
    ⟨6, some 100, none, .mov (.t 106)⟩,
    ⟨7, some 107, none, .ext (.t 100) 0⟩,
    ⟨8, some 108, none, .ext (.t 100) 1⟩,
    ⟨9, some 11, none, .mov (.t 107)⟩,
    ⟨10, some 12, none, .mov (.t 108)⟩])
  (.seq (.reg [⟨0, some 109, none, .fa (.t 9) 1⟩,
    ⟨1, some 110, none, .load (.t 109) 1 false⟩,
    ⟨2, some 111, none, .fa (.t 5) 3⟩,
    ⟨3, some 112, none, .load (.t 111) 1 false⟩,
    ⟨4, some 113, none, .ix (.t 110) (.t 112) 1⟩,
    ⟨5, some 114, none, .load (.t 113) 1 false⟩,
    ⟨6, some 13, none, .mov (.t 114)⟩])
  (.seq (.reg [⟨0, some 115, none, .fa (.t 9) 1⟩,
    ⟨1, some 116, none, .load (.t 115) 1 false⟩,
    ⟨2, some 117, none, .fa (.t 5) 1⟩,
    ⟨3, some 118, none, .load (.t 117) 1 false⟩,
    ⟨4, some 119, none, .mov (.t 11)⟩,
    ⟨5, some 120, none, .ix (.t 116) (.t 118) 1⟩,
    ⟨6, none, none, .store (.t 120) (.t 119) 1⟩])
  (.reg [⟨0, some 122, none, .fa (.t 3) 2⟩,
    ⟨1, some 123, none, .load (.t 122) 1 true⟩,
    ⟨2, some 124, none, .mov (.t 12)⟩,
    ⟨3, some 125, none, .mov (.t 10)⟩,
    ⟨4, some 126, none, .mov (.t 13)⟩,
    ⟨5, some 127, none, .call 156 [(.mv, (.t 123)), (.im, (.t 124)), (.im, (.t 125)), (.im, (.t 126)), (.im, (.k (.bool true)))]⟩,
    ⟨6, some 121, none, .mov (.t 127)⟩,
    ⟨7, some 128, none, .ext (.t 121) 0⟩,
    ⟨8, some 129, none, .ext (.t 121) 1⟩,
    ⟨9, some 130, none, .fa (.t 3) 2⟩,
    ⟨10, none, none, .store (.t 130) (.t 128) 1⟩,
    ⟨11, some 131, none, .fa (.t 9) 2⟩,
    ⟨12, none, none, .store (.t 131) (.t 129) 1⟩])))) (.dreg [⟨0, some 60, none, .fa (.t 3) 2⟩,
    ⟨1, some 61, none, .load (.t 60) 1 true⟩,
    ⟨2, some 62, none, .fa (.t 9) 2⟩,
    ⟨3, some 63, none, .load (.t 62) 1 false⟩,
    ⟨4, some 64, none, .mov (.t 10)⟩,
    ⟨5, some 65, none, .fa (.t 9) 1⟩,
    ⟨6, some 66, none, .load (.t 65) 1 false⟩,
    ⟨7, some 67, none, .fa (.t 5) 3⟩,
    ⟨8, some 68, none, .load (.t 67) 1 false⟩,
    ⟨9, some 69, none, .ix (.t 66) (.t 68) 1⟩,
    ⟨10, some 70, none, .load (.t 69) 1 false⟩,
    ⟨11, some 71, none, .fa (.t 5) 0⟩,
    ⟨12, some 72, none, .load (.t 71) 1 false⟩,
    ⟨13, some 73, none, .bin .eql (.t 72) (.k (.int .i64 7))⟩,
    ⟨14, some 74, none, .call 156 [(.mv, (.t 61)), (.im, (.t 63)), (.im, (.t 64)), (.im, (.t 70)), (.im, (.t 73))]⟩,
    ⟨15, some 59, none, .mov (.t 74)⟩,
    ⟨16, some 75, none, .ext (.t 59) 0⟩,
    ⟨17, some 76, none, .ext (.t 59) 1⟩,
    ⟨18, some 77, none, .fa (.t 3) 2⟩,
    ⟨19, none, none, .store (.t 77) (.t 75) 1⟩,
    ⟨20, some 78, none, .fa (.t 9) 2⟩,
    ⟨21, none, none, .store (.t 78) (.t 76) 1⟩] [])))))))
  (.seq (.reg [⟨0, some 132, none, .fa (.t 3) 1⟩,
    ⟨1, some 133, none, .load (.t 132) 1 false⟩,
    ⟨2, some 134, none, .fa (.t 4) 0⟩,
    ⟨3, some 135, none, .load (.t 134) 1 false⟩,
    ⟨4, some 136, none, .load (.t 9) 4 true⟩,
    ⟨5, some 137, none, .ix (.t 133) (.t 135) 4⟩,
    ⟨6, none, none, .store (.t 137) (.t 136) 4⟩])
  (.seq (.reg [⟨0, some 138, none, .load (.t 3) 4 true⟩,
    ⟨1, none, none, .store (.t 6) (.t 138) 4⟩,
    ⟨2, some 7, none, .mov (.k (.bool true))⟩,
    ⟨3, some 8, none, .mov (.k (.bool false))⟩])
  (.ret)))))))))⟩
/-- impl.StepOk -/
def a119 : AFn := ⟨2, [.tmp 4],
  .seq (.reg [⟨0, some 2, none, .box (.t 0)⟩,
    ⟨1, some 4, none, .mov (.k (.bool false))⟩])
  (.seq (.reg [⟨0, some 5, none, .mov (.k (.int .i64 0))⟩])
  (.seq (.seq (.reg [⟨0, some 6, none, .fa (.t 2) 0⟩,
    ⟨1, some 7, none, .load (.t 6) 1 false⟩,
    ⟨2, some 8, none, .call 50 [(.im, (.t 7)), (.im, (.k (.int .i64 5))), (.im, (.k (.int .i64 7)))]⟩])
  (.cond (.t 8) (.reg [⟨0, some 5, none, .mov (.k (.int .i64 (-1)))⟩]) (.skip)))
  (.seq (.seq (.dreg [⟨0, some 9, none, .fa (.t 2) 0⟩,
    ⟨1, some 10, none, .load (.t 9) 1 false⟩,
    ⟨2, some 11, none, .call 50 [(.im, (.t 10)), (.im, (.k (.int .i64 1))), (.im, (.k (.int .i64 13)))]⟩,
    ⟨3, some 12, none, .un .not (.t 11)⟩,
    ⟨4, some 13, none, .mov (.t 12)⟩,
    ⟨5, some 14, (some (13, false)), .load (.t 2) 5 true⟩,
    ⟨6, some 15, (some (13, false)), .load (.t 2) 5 true⟩,
    ⟨7, some 16, (some (13, false)), .call 157 [(.im, (.t 15))]⟩,
    ⟨8, some 17, (some (13, false)), .eqs true [true, true, true, true, true] (.t 14) (.t 16)⟩,
    ⟨9, some 18, none, .pick (.t 13) (.k (.bool true)) (.t 17)⟩,
    ⟨10, some 19, none, .mov (.t 18)⟩,
    ⟨11, some 20, (some (19, false)), .fa (.t 2) 1⟩,
    ⟨12, some 21, (some (19, false)), .load (.t 20) 1 false⟩,
    ⟨13, some 22, (some (19, false)), .call 50 [(.im, (.t 21)), (.im, (.k (.int .i64 0))), (.im, (.k (.int .i64 7)))]⟩,
    ⟨14, some 23, (some (19, false)), .un .not (.t 22)⟩,
    ⟨15, some 24, none, .pick (.t 19) (.k (.bool true)) (.t 23)⟩,
    ⟨16, some 25, none, .mov (.t 24)⟩,
    ⟨17, some 26, (some (25, false)), .fa (.t 2) 2⟩,
    ⟨18, some 27, (some (25, false)), .load (.t 26) 1 false⟩,
    ⟨19, some 28, (some (25, false)), .mov (.t 5)⟩,
    ⟨20, some 29, (some (25, false)), .call 50 [(.im, (.t 27)), (.im, (.t 28)), (.im, (.k (.int .i64 7)))]⟩,
    ⟨21, some 30, (some (25, false)), .un .not (.t 29)⟩,
    ⟨22, some 31, none, .pick (.t 25) (.k (.bool true)) (.t 30)⟩,
    ⟨23, some 32, none, .mov (.t 31)⟩,
    ⟨24, some 33, (some (32, false)), .fa (.t 2) 3⟩,
    ⟨25, some 34, (some (32, false)), .load (.t 33) 1 false⟩,
    ⟨26, some 35, (some (32, false)), .call 50 [(.im, (.t 34)), (.im, (.k (.int .i64 0))), (.im, (.k (.int .i64 7)))]⟩,
    ⟨27, some 36, (some (32, false)), .un .not (.t 35)⟩,
    ⟨28, some 37, none, .pick (.t 32) (.k (.bool true)) (.t 36)⟩] [(5, 13)])
  (.cond (.t 37) (.seq (.reg [⟨0, some 4, none, .mov (.k (.bool false))⟩])
  (.ret)) (.skip)))
  (.seq (.seq (.reg [⟨0, some 38, none, .fa (.t 2) 0⟩,
    ⟨1, some 39, none, .load (.t 38) 1 false⟩])
  (.block 0 (.seq (.reg [⟨0, some 41, none, .bin .eql (.t 39) (.k (.int .i64 1))⟩,
    ⟨1, some 40, none, .mov (.t 41)⟩])
  (.cond (.t 40) (.seq (.reg [⟨0, some 42, none, .fa (.t 2) 4⟩,
    ⟨1, some 43, none, .load (.t 42) 1 false⟩,
    ⟨2, some 44, none, .call 50 [(.im, (.t 43)), (.im, (.k (.int .i64 (-1000000000)))), (.im, (.k (.int .i64 1000000000)))]⟩,
    ⟨3, some 4, none, .mov (.t 44)⟩])
  (.ret)) (.seq (.seq (.reg [⟨0, some 46, none, .bin .eql (.t 39) (.k (.int .i64 5))⟩,
    ⟨1, some 45, none, .mov (.t 46)⟩])
  (.cond (.t 45) (.skip) (.seq (.reg [⟨0, some 47, none, .bin .eql (.t 39) (.k (.int .i64 6))⟩,
    ⟨1, some 45, none, .mov (.t 47)⟩])
  (.cond (.t 45) (.skip) (.seq (.reg [⟨0, some 48, none, .bin .eql (.t 39) (.k (.int .i64 7))⟩,
    ⟨1, some 45, none, .mov (.t 48)⟩])
  (.cond (.t 45) (.skip) (.reg [⟨0, some 49, none, .bin .eql (.t 39) (.k (.int .i64 8))⟩,
    ⟨1, some 45, none, .mov (.t 49)⟩])))))))
  (.cond (.t 45) (.seq (.reg [⟨0, some 50, none, .fa (.t 2) 4⟩,
    ⟨1, some 51, none, .load (.t 50) 1 false⟩,
    ⟨2, some 52, none, .call 144 [(.im, (.t 51))]⟩,
    ⟨3, some 4, none, .mov (.t 52)⟩])
  (.ret)) (.seq (.seq (.reg [⟨0, some 54, none, .bin .eql (.t 39) (.k (.int .i64 10))⟩,
    ⟨1, some 53, none, .mov (.t 54)⟩])
  (.cond (.t 53) (.skip) (.reg [⟨0, some 55, none, .bin .eql (.t 39) (.k (.int .i64 11))⟩,
    ⟨1, some 53, none, .mov (.t 55)⟩])))
  (.cond (.t 53) (.seq (.reg [⟨0, some 56, none, .fa (.t 2) 4⟩,
    ⟨1, some 57, none, .load (.t 56) 1 false⟩,
    ⟨2, some 58, none, .bin .geq (.t 57) (.k (.int .i64 0))⟩,
    ⟨3, some 59, none, .mov (.t 58)⟩,
    ⟨4, some 60, (some (59, true)), .fa (.t 2) 4⟩,
    ⟨5, some 61, (some (59, true)), .load (.t 60) 1 false⟩,
    ⟨6, some 62, (some (59, true)), .mov (.t 1)⟩,
    ⟨7, some 63, (some (59, true)), .bin .lss (.t 61) (.t 62)⟩,
    ⟨8, some 64, none, .pick (.t 59) (.t 63) (.k (.bool false))⟩,
    ⟨9, some 4, none, .mov (.t 64)⟩])
  (.ret)) (.skip)))))))))
  (.seq (.reg [⟨0, some 4, none, .mov (.k (.bool true))⟩])
  (.ret))))))⟩
/-- spec.StepOk -/
def a120 : AFn := ⟨2, [.tmp 4],
  .seq (.reg [⟨0, some 2, none, .box (.t 0)⟩,
    ⟨1, some 4, none, .mov (.k (.bool false))⟩])
  (.seq (.reg [⟨0, some 8, none, .fa (.t 2) 0⟩,
    ⟨1, some 9, none, .load (.t 8) 1 false⟩,
    ⟨2, some 10, none, .bin .eql (.t 9) (.k (.int .i64 5))⟩,
    ⟨3, some 11, none, .mov (.t 10)⟩,
    ⟨4, some 12, (some (11, false)), .fa (.t 2) 0⟩,
    ⟨5, some 13, (some (11, false)), .load (.t 12) 1 false⟩,
    ⟨6, some 14, (some (11, false)), .bin .eql (.t 13) (.k (.int .i64 6))⟩,
    ⟨7, some 15, none, .pick (.t 11) (.k (.bool true)) (.t 14)⟩,
    ⟨8, some 16, none, .mov (.t 15)⟩,
    ⟨9, some 17, (some (16, false)), .fa (.t 2) 0⟩,
    ⟨10, some 18, (some (16, false)), .load (.t 17) 1 false⟩,
    ⟨11, some 19, (some (16, false)), .bin .eql (.t 18) (.k (.int .i64 7))⟩,
    ⟨12, some 20, none, .pick (.t 16) (.k (.bool true)) (.t 19)⟩,
    ⟨13, some 5, none, .mov (.t 20)⟩])
  (.seq (.seq (.reg [⟨0, some 21, none, .fa (.t 2) 1⟩,
    ⟨1, some 22, none, .load (.t 21) 1 false⟩,
    ⟨2, some 23, none, .call 158 [(.im, (.t 22))]⟩,
    ⟨3, some 24, none, .un .not (.t 23)⟩,
    ⟨4, some 25, none, .mov (.t 24)⟩,
    ⟨5, some 26, (some (25, false)), .fa (.t 2) 3⟩,
    ⟨6, some 27, (some (25, false)), .load (.t 26) 1 false⟩,
    ⟨7, some 28, (some (25, false)), .call 158 [(.im, (.t 27))]⟩,
    ⟨8, some 29, (some (25, false)), .un .not (.t 28)⟩,
    ⟨9, some 30, none, .pick (.t 25) (.k (.bool true)) (.t 29)⟩,
    ⟨10, some 31, none, .mov (.t 30)⟩,
    ⟨11, some 32, (some (31, false)), .fa (.t 2) 2⟩,
    ⟨12, some 33, (some (31, false)), .load (.t 32) 1 false⟩,
    ⟨13, some 34, (some (31, false)), .call 158 [(.im, (.t 33))]⟩,
    ⟨14, some 35, (some (31, false)), .un .not (.t 34)⟩,
    ⟨15, some 36, (some (31, false)), .mov (.t 35)⟩,
    ⟨16, some 37, (some (36, true)), .mov (.t 5)⟩,
    ⟨17, some 38, (some (36, true)), .un .not (.t 37)⟩,
    ⟨18, some 39, (some (36, true)), .mov (.t 38)⟩,
    ⟨19, some 40, (some (39, false)), .fa (.t 2) 2⟩,
    ⟨20, some 41, (some (39, false)), .load (.t 40) 1 false⟩,
    ⟨21, some 42, (some (39, false)), .bin .neq (.t 41) (.k (.int .i64 (-1)))⟩,
    ⟨22, some 43, (some (36, true)), .pick (.t 39) (.k (.bool true)) (.t 42)⟩,
    ⟨23, some 44, (some (31, false)), .pick (.t 36) (.t 43) (.k (.bool false))⟩,
    ⟨24, some 45, none, .pick (.t 31) (.k (.bool true)) (.t 44)⟩])
  (.cond (.t 45) (.seq (.reg [⟨0, some 4, none, .mov (.k (.bool false))⟩])
  (.ret)) (.skip)))
  (.seq (.reg [⟨0, some 46, none, .fa (.t 2) 4⟩,
    ⟨1, some 47, none, .load (.t 46) 1 false⟩,
    ⟨2, some 48, none, .bin .geq (.t 47) (.k (.int .i64 0))⟩,
    ⟨3, some 49, none, .mov (.t 48)⟩,
    ⟨4, some 50, (some (49, true)), .fa (.t 2) 4⟩,
    ⟨5, some 51, (some (49, true)), .load (.t 50) 1 false⟩,
    ⟨6, some 52, (some (49, true)), .mov (.t 1)⟩,
    ⟨7, some 53, (some (49, true)), .bin .lss (.t 51) (.t 52)⟩,
    ⟨8, some 54, none, .pick (.t 49) (.t 53) (.k (.bool false))⟩,
    ⟨9, some 6, none, .mov (.t 54)⟩])
  (.seq (.reg [⟨0, some 55, none, .fa (.t 2) 4⟩,
    ⟨1, some 56, none, .load (.t 55) 1 false⟩,
    ⟨2, some 57, none, .call 63 [(.im, (.t 56)), (.im, (.k (.int .i64 0))), (.im, (.k (.int .i64 23)))]⟩,
    ⟨3, some 7, none, .mov (.t 57)⟩])
  (.seq (.seq (.reg [⟨0, some 58, none, .fa (.t 2) 0⟩,
    ⟨1, some 59, none, .load (.t 58) 1 false⟩])
  (.block 0 (.seq (.reg [⟨0, some 61, none, .bin .eql (.t 59) (.k (.int .i64 1))⟩,
    ⟨1, some 60, none, .mov (.t 61)⟩])
  (.cond (.t 60) (.seq (.reg [⟨0, some 62, none, .fa (.t 2) 4⟩,
    ⟨1, some 63, none, .load (.t 62) 1 false⟩,
    ⟨2, some 64, none, .call 63 [(.im, (.t 63)), (.im, (.k (.int .i64 (-1000000000)))), (.im, (.k (.int .i64 1000000000)))]⟩,
    ⟨3, some 65, none, .mov (.t 64)⟩,
    ⟨4, some 66, (some (65, true)), .fa (.t 2) 2⟩,
    ⟨5, some 67, (some (65, true)), .load (.t 66) 1 false⟩,
    ⟨6, some 68, (some (65, true)), .bin .eql (.t 67) (.k (.int .i64 0))⟩,
    ⟨7, some 69, none, .pick (.t 65) (.t 68) (.k (.bool false))⟩,
    ⟨8, some 70, none, .mov (.t 69)⟩,
    ⟨9, some 71, (some (70, true)), .fa (.t 2) 3⟩,
    ⟨10, some 72, (some (70, true)), .load (.t 71) 1 false⟩,
    ⟨11, some 73, (some (70, true)), .bin .eql (.t 72) (.k (.int .i64 0))⟩,
    ⟨12, some 74, none, .pick (.t 70) (.t 73) (.k (.bool false))⟩,
    ⟨13, some 4, none, .mov (.t 74)⟩])
  (.ret)) (.seq (.seq (.reg [⟨0, some 76, none, .bin .eql (.t 59) (.k (.int .i64 2))⟩,
    ⟨1, some 75, none, .mov (.t 76)⟩])
  (.cond (.t 75) (.skip) (.seq (.reg [⟨0, some 77, none, .bin .eql (.t 59) (.k (.int .i64 3))⟩,
    ⟨1, some 75, none, .mov (.t 77)⟩])
  (.cond (.t 75) (.skip) (.reg [⟨0, some 78, none, .bin .eql (.t 59) (.k (.int .i64 4))⟩,
    ⟨1, some 75, none, .mov (.t 78)⟩])))))
  (.cond (.t 75) (.seq (.reg [⟨0, some 79, none, .fa (.t 2) 4⟩,
    ⟨1, some 80, none, .load (.t 79) 1 false⟩,
    ⟨2, some 81, none, .bin .eql (.t 80) (.k (.int .i64 0))⟩,
    ⟨3, some 4, none, .mov (.t 81)⟩])
  (.ret)) (.seq (.reg [⟨0, some 83, none, .bin .eql (.t 59) (.k (.int .i64 5))⟩,
    ⟨1, some 82, none, .mov (.t 83)⟩])
  (.cond (.t 82) (.seq (.reg [⟨0, some 84, none, .mov (.t 7)⟩,
    ⟨1, some 85, none, .mov (.t 84)⟩,
    ⟨2, some 86, (some (85, true)), .fa (.t 2) 3⟩,
    ⟨3, some 87, (some (85, true)), .load (.t 86) 1 false⟩,
    ⟨4, some 88, (some (85, true)), .bin .eql (.t 87) (.k (.int .i64 0))⟩,
    ⟨5, some 89, none, .pick (.t 85) (.t 88) (.k (.bool false))⟩,
    ⟨6, some 4, none, .mov (.t 89)⟩])
  (.ret)) (.seq (.seq (.reg [⟨0, some 91, none, .bin .eql (.t 59) (.k (.int .i64 6))⟩,
    ⟨1, some 90, none, .mov (.t 91)⟩])
  (.cond (.t 90) (.skip) (.reg [⟨0, some 92, none, .bin .eql (.t 59) (.k (.int .i64 7))⟩,
    ⟨1, some 90, none, .mov (.t 92)⟩])))
  (.cond (.t 90) (.seq (.reg [⟨0, some 93, none, .mov (.t 7)⟩,
    ⟨1, some 94, none, .mov (.t 93)⟩,
    ⟨2, some 95, (some (94, true)), .fa (.t 2) 1⟩,
    ⟨3, some 96, (some (94, true)), .load (.t 95) 1 false⟩,
    ⟨4, some 97, (some (94, true)), .bin .eql (.t 96) (.k (.int .i64 0))⟩,
    ⟨5, some 98, none, .pick (.t 94) (.t 97) (.k (.bool false))⟩,
    ⟨6, some 4, none, .mov (.t 98)⟩])
  (.ret)) (.seq (.reg [⟨0, some 100, none, .bin .eql (.t 59) (.k (.int .i64 8))⟩,
    ⟨1, some 99, none, .mov (.t 100)⟩])
  (.cond (.t 99) (.seq (.reg [⟨0, some 101, none, .mov (.t 7)⟩,
    ⟨1, some 102, none, .mov (.t 101)⟩,
    ⟨2, some 103, (some (102, true)), .fa (.t 2) 2⟩,
    ⟨3, some 104, (some (102, true)), .load (.t 103) 1 false⟩,
    ⟨4, some 105, (some (102, true)), .bin .eql (.t 104) (.k (.int .i64 0))⟩,
    ⟨5, some 106, none, .pick (.t 102) (.t 105) (.k (.bool false))⟩,
    ⟨6, some 4, none, .mov (.t 106)⟩])
  (.ret)) (.seq (.reg [⟨0, some 108, none, .bin .eql (.t 59) (.k (.int .i64 9))⟩,
    ⟨1, some 107, none, .mov (.t 108)⟩])
  (.cond (.t 107) (.seq (.reg [⟨0, some 109, none, .fa (.t 2) 1⟩,
    ⟨1, some 110, none, .load (.t 109) 1 false⟩,
    ⟨2, some 111, none, .bin .eql (.t 110) (.k (.int .i64 0))⟩,
    ⟨3, some 112, none, .mov (.t 111)⟩,
    ⟨4, some 113, (some (112, true)), .fa (.t 2) 3⟩,
    ⟨5, some 114, (some (112, true)), .load (.t 113) 1 false⟩,
    ⟨6, some 115, (some (112, true)), .bin .eql (.t 114) (.k (.int .i64 0))⟩,
    ⟨7, some 116, none, .pick (.t 112) (.t 115) (.k (.bool false))⟩,
    ⟨8, some 117, none, .mov (.t 116)⟩,
    ⟨9, some 118, (some (117, true)), .fa (.t 2) 4⟩,
    ⟨10, some 119, (some (117, true)), .load (.t 118) 1 false⟩,
    ⟨11, some 120, (some (117, true)), .bin .eql (.t 119) (.k (.int .i64 0))⟩,
    ⟨12, some 121, none, .pick (.t 117) (.t 120) (.k (.bool false))⟩,
    ⟨13, some 4, none, .mov (.t 121)⟩])
  (.ret)) (.seq (.reg [⟨0, some 123, none, .bin .eql (.t 59) (.k (.int .i64 10))⟩,
    ⟨1, some 122, none, .mov (.t 123)⟩])
  (.cond (.t 122) (.seq (.reg [⟨0, some 124, none, .mov (.t 6)⟩,
    ⟨1, some 125, none, .mov (.t 124)⟩,
    ⟨2, some 126, (some (125, true)), .fa (.t 2) 1⟩,
    ⟨3, some 127, (some (125, true)), .load (.t 126) 1 false⟩,
    ⟨4, some 128, (some (125, true)), .bin .eql (.t 127) (.k (.int .i64 0))⟩,
    ⟨5, some 129, none, .pick (.t 125) (.t 128) (.k (.bool false))⟩,
    ⟨6, some 130, none, .mov (.t 129)⟩,
    ⟨7, some 131, (some (130, true)), .fa (.t 2) 2⟩,
    ⟨8, some 132, (some (130, true)), .load (.t 131) 1 false⟩,
    ⟨9, some 133, (some (130, true)), .bin .eql (.t 132) (.k (.int .i64 0))⟩,
    ⟨10, some 134, none, .pick (.t 130) (.t 133) (.k (.bool false))⟩,
    ⟨11, some 135, none, .mov (.t 134)⟩,
    ⟨12, some 136, (some (135, true)), .fa (.t 2) 3⟩,
    ⟨13, some 137, (some (135, true)), .load (.t 136) 1 false⟩,
    ⟨14, some 138, (some (135, true)), .bin .eql (.t 137) (.k (.int .i64 0))⟩,
    ⟨15, some 139, none, .pick (.t 135) (.t 138) (.k (.bool false))⟩,
    ⟨16, some 4, none, .mov (.t 139)⟩])
  (.ret)) (.seq (.reg [⟨0, some 141, none, .bin .eql (.t 59) (.k (.int .i64 11))⟩,
    ⟨1, some 140, none, .mov (.t 141)⟩])
  (.cond (.t 140) (.seq (.reg [⟨0, some 142, none, .mov (.t 6)⟩,
    ⟨1, some 143, none, .mov (.t 142)⟩,
    ⟨2, some 144, (some (143, true)), .fa (.t 2) 1⟩,
    ⟨3, some 145, (some (143, true)), .load (.t 144) 1 false⟩,
    ⟨4, some 146, (some (143, true)), .bin .eql (.t 145) (.k (.int .i64 0))⟩,
    ⟨5, some 147, none, .pick (.t 143) (.t 146) (.k (.bool false))⟩,
    ⟨6, some 148, none, .mov (.t 147)⟩,
    ⟨7, some 149, (some (148, true)), .fa (.t 2) 3⟩,
    ⟨8, some 150, (some (148, true)), .load (.t 149) 1 false⟩,
    ⟨9, some 151, (some (148, true)), .bin .eql (.t 150) (.k (.int .i64 0))⟩,
    ⟨10, some 152, none, .pick (.t 148) (.t 151) (.k (.bool false))⟩,
    ⟨11, some 4, none, .mov (.t 152)⟩])
  (.ret)) (.seq (.seq (.reg [⟨0, some 154, none, .bin .eql (.t 59) (.k (.int .i64 12))⟩,
    ⟨1, some 153, none, .mov (.t 154)⟩])
  (.cond (.t 153) (.skip) (.reg [⟨0, some 155, none, .bin .eql (.t 59) (.k (.int .i64 13))⟩,
    ⟨1, some 153, none, .mov (.t 155)⟩])))
  (.cond (.t 153) (.seq (.reg [⟨0, some 156, none, .load (.t 2) 5 true⟩,
    ⟨1, some 157, none, .fa (.t 2) 0⟩,
    ⟨2, some 158, none, .load (.t 157) 1 false⟩,
    ⟨3, some 159, none, .build [.int .i64 0, .int .i64 0, .int .i64 0, .int .i64 0, .int .i64 0] [(0, 1, (.t 158))]⟩,
    ⟨4, some 160, none, .eqs false [true, true, true, true, true] (.t 156) (.t 159)⟩,
    ⟨5, some 4, none, .mov (.t 160)⟩])
  (.ret)) (.skip)))))))))))))))))))))
  (.seq (.reg [⟨0, some 4, none, .mov (.k (.bool false))⟩])
  (.ret)))))))⟩
/-- spec.l1Min -/
def a137 : AFn := ⟨2, [.tmp 4],
  .seq (.reg [⟨0, some 4, none, .mov (.k (.int .i64 0))⟩])
  (.seq (.seq (.reg [⟨0, some 5, none, .mov (.t 0)⟩,
    ⟨1, some 6, none, .mov (.t 1)⟩,
    ⟨2, some 7, none, .bin .lss (.t 5) (.t 6)⟩])
  (.cond (.t 7) (.seq (.reg [⟨0, some 8, none, .mov (.t 0)⟩,
    ⟨1, some 4, none, .mov (.t 8)⟩])
  (.ret)) (.skip)))
  (.seq (.reg [⟨0, some 9, none, .mov (.t 1)⟩,
    ⟨1, some 4, none, .mov (.t 9)⟩])
  (.ret)))⟩
/-- spec.l1Max -/
def a138 : AFn := ⟨2, [.tmp 4],
  .seq (.reg [⟨0, some 4, none, .mov (.k (.int .i64 0))⟩])
  (.seq (.seq (.reg [⟨0, some 5, none, .mov (.t 0)⟩,
    ⟨1, some 6, none, .mov (.t 1)⟩,
    ⟨2, some 7, none, .bin .gtr (.t 5) (.t 6)⟩])
  (.cond (.t 7) (.seq (.reg [⟨0, some 8, none, .mov (.t 0)⟩,
    ⟨1, some 4, none, .mov (.t 8)⟩])
  (.ret)) (.skip)))
  (.seq (.reg [⟨0, some 9, none, .mov (.t 1)⟩,
    ⟨1, some 4, none, .mov (.t 9)⟩])
  (.ret)))⟩
/-- spec.l7DrawStep -/
def a139 : AFn := ⟨2, [.cell 4 5 true],
  .seq (.reg [⟨0, some 4, none, .alloc [.int .i64 0, .int .i64 0, .int .i64 0, .int .i64 0, .int .i64 0]⟩])
  (.seq (.reg [⟨0, some 10, none, .mov (.t 0)⟩,
    ⟨1, some 11, none, .call 61 [(.io 3, (.t 10)), (.im, (.k (.int .i64 13)))]⟩,
    ⟨2, some 12, none, .bin .add (.k (.int .i64 1)) (.t 11)⟩,
    ⟨3, some 13, none, .build [.int .i64 0, .int .i64 0, .int .i64 0, .int .i64 0, .int .i64 0] [(0, 1, (.t 12))]⟩,
    ⟨4, some 5, none, .alloc [.int .i64 0, .int .i64 0, .int .i64 0, .int .i64 0, .int .i64 0]⟩,
    ⟨5, none, none, .store (.t 5) (.t 13) 5⟩])
  (.seq (.reg [⟨0, some 14, none, .mov (.t 0)⟩,
    ⟨1, some 15, none, .call 61 [(.io 3, (.t 14)), (.im, (.k (.int .i64 8)))]⟩,
    ⟨2, some 16, none, .mov (.t 0)⟩,
    ⟨3, some 17, none, .call 61 [(.io 3, (.t 16)), (.im, (.k (.int .i64 8)))]⟩,
    ⟨4, some 18, none, .mov (.t 0)⟩,
    ⟨5, some 19, none, .call 61 [(.io 3, (.t 18)), (.im, (.k (.int .i64 8)))]⟩,
    ⟨6, some 20, none, .mov (.t 0)⟩,
    ⟨7, some 21, none, .bslice 1 5 [.int .i64 0] [(0, 1, (.k (.int .i64 0))), (1, 1, (.k (.int .i64 1))), (2, 1, (.k (.int .i64 2))), (3, 1, (.k (.int .i64 5))), (4, 1, (.k (.int .i64 23)))]⟩,
    ⟨8, some 22, none, .call 62 [(.io 3, (.t 20)), (.im, (.t 21))]⟩,
    ⟨9, some 6, none, .mov (.t 15)⟩,
    ⟨10, some 7, none, .mov (.t 17)⟩,
    ⟨11, some 8, none, .mov (.t 19)⟩,
    ⟨12, some 9, none, .mov (.t 22)⟩])
  (.seq (.seq (.reg [⟨0, some 23, none, .fa (.t 5) 0⟩,
    ⟨1, some 24, none, .load (.t 23) 1 false⟩])
  (.block 0 (.seq (.reg [⟨0, some 26, none, .bin .eql (.t 24) (.k (.int .i64 1))⟩,
    ⟨1, some 25, none, .mov (.t 26)⟩])
  (.cond (.t 25) (.seq (.reg [⟨0, some 27, none, .mov (.t 6)⟩,
    ⟨1, some 28, none, .fa (.t 5) 1⟩,
    ⟨2, none, none, .store (.t 28) (.t 27) 1⟩])
  (.reg [⟨0, some 29, none, .mov (.t 0)⟩,
    ⟨1, some 30, none, .call 61 [(.io 3, (.t 29)), (.im, (.k (.int .i64 20)))]⟩,
    ⟨2, some 31, none, .bin .sub (.t 30) (.k (.int .i64 5))⟩,
    ⟨3, some 32, none, .fa (.t 5) 4⟩,
    ⟨4, none, none, .store (.t 32) (.t 31) 1⟩])) (.seq (.seq (.reg [⟨0, some 34, none, .bin .eql (.t 24) (.k (.int .i64 2))⟩,
    ⟨1, some 33, none, .mov (.t 34)⟩])
  (.cond (.t 33) (.skip) (.seq (.reg [⟨0, some 35, none, .bin .eql (.t 24) (.k (.int .i64 3))⟩,
    ⟨1, some 33, none, .mov (.t 35)⟩])
  (.cond (.t 33) (.skip) (.reg [⟨0, some 36, none, .bin .eql (.t 24) (.k (.int .i64 4))⟩,
    ⟨1, some 33, none, .mov (.t 36)⟩])))))
  (.cond (.t 33) (.seq (.reg [⟨0, some 37, none, .mov (.t 6)⟩,
    ⟨1, some 38, none, .fa (.t 5) 1⟩,
    ⟨2, none, none, .store (.t 38) (.t 37) 1⟩])
  (.seq (.reg [⟨0, some 39, none, .mov (.t 7)⟩,
    ⟨1, some 40, none, .fa (.t 5) 2⟩,
    ⟨2, none, none, .store (.t 40) (.t 39) 1⟩])
  (.reg [⟨0, some 41, none, .mov (.t 8)⟩,
    ⟨1, some 42, none, .fa (.t 5) 3⟩,
    ⟨2, none, none, .store (.t 42) (.t 41) 1⟩]))) (.seq (.reg [⟨0, some 44, none, .bin .eql (.t 24) (.k (.int .i64 5))⟩,
    ⟨1, some 43, none, .mov (.t 44)⟩])
  (.cond (.t 43) (.seq (.reg [⟨0, some 45, none, .mov (.t 6)⟩,
    ⟨1, some 46, none, .fa (.t 5) 1⟩,
    ⟨2, none, none, .store (.t 46) (.t 45) 1⟩])
  (.seq (.reg [⟨0, some 47, none, .mov (.t 0)⟩,
    ⟨1, some 48, none, .mov (.t 7)⟩,
    ⟨2, some 49, none, .bslice 1 3 [.int .i64 0] [(0, 1, (.k (.int .i64 (-1)))), (1, 1, (.k (.int .i64 (-1)))), (2, 1, (.t 48))]⟩,
    ⟨3, some 50, none, .call 62 [(.io 3, (.t 47)), (.im, (.t 49))]⟩,
    ⟨4, some 51, none, .fa (.t 5) 2⟩,
    ⟨5, none, none, .store (.t 51) (.t 50) 1⟩])
  (.reg [⟨0, some 52, none, .mov (.t 9)⟩,
    ⟨1, some 53, none, .fa (.t 5) 4⟩,
    ⟨2, none, none, .store (.t 53) (.t 52) 1⟩]))) (.seq (.seq (.reg [⟨0, some 55, none, .bin .eql (.t 24) (.k (.int .i64 6))⟩,
    ⟨1, some 54, none, .mov (.t 55)⟩])
  (.cond (.t 54) (.skip) (.reg [⟨0, some 56, none, .bin .eql (.t 24) (.k (.int .i64 7))⟩,
    ⟨1, some 54, none, .mov (.t 56)⟩])))
  (.cond (.t 54) (.seq (.reg [⟨0, some 57, none, .mov (.t 8)⟩,
    ⟨1, some 58, none, .fa (.t 5) 3⟩,
    ⟨2, none, none, .store (.t 58) (.t 57) 1⟩])
  (.seq (.reg [⟨0, some 59, none, .mov (.t 0)⟩,
    ⟨1, some 60, none, .mov (.t 7)⟩,
    ⟨2, some 61, none, .bslice 1 3 [.int .i64 0] [(0, 1, (.k (.int .i64 (-1)))), (1, 1, (.k (.int .i64 (-1)))), (2, 1, (.t 60))]⟩,
    ⟨3, some 62, none, .call 62 [(.io 3, (.t 59)), (.im, (.t 61))]⟩,
    ⟨4, some 63, none, .fa (.t 5) 2⟩,
    ⟨5, none, none, .store (.t 63) (.t 62) 1⟩])
  (.reg [⟨0, some 64, none, .mov (.t 9)⟩,
    ⟨1, some 65, none, .fa (.t 5) 4⟩,
    ⟨2, none, none, .store (.t 65) (.t 64) 1⟩]))) (.seq (.reg [⟨0, some 67, none, .bin .eql (.t 24) (.k (.int .i64 8))⟩,
    ⟨1, some 66, none, .mov (.t 67)⟩])
  (.cond (.t 66) (.seq (.reg [⟨0, some 68, none, .mov (.t 6)⟩,
    ⟨1, some 69, none, .fa (.t 5) 1⟩,
    ⟨2, none, none, .store (.t 69) (.t 68) 1⟩])
  (.seq (.reg [⟨0, some 70, none, .mov (.t 8)⟩,
    ⟨1, some 71, none, .fa (.t 5) 3⟩,
    ⟨2, none, none, .store (.t 71) (.t 70) 1⟩])
  (.reg [⟨0, some 72, none, .mov (.t 9)⟩,
    ⟨1, some 73, none, .fa (.t 5) 4⟩,
    ⟨2, none, none, .store (.t 73) (.t 72) 1⟩]))) (.seq (.reg [⟨0, some 75, none, .bin .eql (.t 24) (.k (.int .i64 9))⟩,
    ⟨1, some 74, none, .mov (.t 75)⟩])
  (.cond (.t 74) (.reg [⟨0, some 76, none, .mov (.t 7)⟩,
    ⟨1, some 77, none, .fa (.t 5) 2⟩,
    ⟨2, none, none, .store (.t 77) (.t 76) 1⟩]) (.seq (.reg [⟨0, some 79, none, .bin .eql (.t 24) (.k (.int .i64 10))⟩,
    ⟨1, some 78, none, .mov (.t 79)⟩])
  (.cond (.t 78) (.reg [⟨0, some 80, none, .mov (.t 0)⟩,
    ⟨1, some 81, none, .mov (.t 1)⟩,
    ⟨2, some 82, none, .call 61 [(.io 3, (.t 80)), (.im, (.t 81))]⟩,
    ⟨3, some 83, none, .fa (.t 5) 4⟩,
    ⟨4, none, none, .store (.t 83) (.t 82) 1⟩]) (.seq (.reg [⟨0, some 85, none, .bin .eql (.t 24) (.k (.int .i64 11))⟩,
    ⟨1, some 84, none, .mov (.t 85)⟩])
  (.cond (.t 84) (.seq (.reg [⟨0, some 86, none, .mov (.t 7)⟩,
    ⟨1, some 87, none, .fa (.t 5) 2⟩,
    ⟨2, none, none, .store (.t 87) (.t 86) 1⟩])
  (.reg [⟨0, some 88, none, .mov (.t 0)⟩,
    ⟨1, some 89, none, .mov (.t 1)⟩,
    ⟨2, some 90, none, .call 61 [(.io 3, (.t 88)), (.im, (.t 89))]⟩,
    ⟨3, some 91, none, .fa (.t 5) 4⟩,
    ⟨4, none, none, .store (.t 91) (.t 90) 1⟩])) (.skip)))))))))))))))))))
  (.seq (.reg [⟨0, some 92, none, .load (.t 5) 5 true⟩,
    ⟨1, none, none, .store (.t 4) (.t 92) 5⟩])
  (.ret)))))⟩
/-- impl.isCell -/
def a144 : AFn := ⟨1, [.tmp 2],
  .seq (.reg [⟨0, some 2, none, .mov (.k (.bool false))⟩])
  (.seq (.reg [⟨0, some 3, none, .mov (.t 0)⟩,
    ⟨1, some 4, none, .call 50 [(.im, (.t 3)), (.im, (.k (.int .i64 0))), (.im, (.k (.int .i64 23)))]⟩,
    ⟨2, some 2, none, .mov (.t 4)⟩])
  (.ret))⟩
/-- impl.Memory).load -/
def a145 : AFn := ⟨5, [.tmp 10, .tmp 11],
  .seq (.reg [⟨0, some 10, none, .mov (.k (.int .i64 0))⟩,
    ⟨1, some 11, none, .mov (.k .nils)⟩])
  (.seq (.reg [⟨0, some 16, none, .mov (.t 0)⟩,
    ⟨1, some 17, none, .nilck (.t 16)⟩,
    ⟨2, some 18, none, .fa (.t 17) 0⟩,
    ⟨3, some 19, none, .load (.t 18) 1 false⟩,
    ⟨4, some 20, none, .mov (.t 2)⟩,
    ⟨5, some 21, none, .ix (.t 19) (.t 20) 1⟩,
    ⟨6, some 22, none, .load (.t 21) 1 false⟩,
    ⟨7, some 23, none, .len (.t 22)⟩,
    ⟨8, some 24, none, .bin .sub (.t 23) (.k (.int .i64 1))⟩,
    ⟨9, some 12, none, .mov (.t 24)⟩])
  (.seq (.reg [⟨0, some 25, none, .mov (.t 12)⟩,
    ⟨1, some 26, none, .mov (.t 3)⟩,
    ⟨2, some 27, none, .mx (.t 26) (.k (.int .i64 0))⟩,
    ⟨3, some 28, none, .bin .sub (.t 25) (.t 27)⟩,
    ⟨4, some 29, none, .mov (.t 1)⟩,
    ⟨5, some 30, none, .mov (.t 2)⟩,
    ⟨6, some 31, none, .ix (.t 29) (.t 30) 1⟩,
    ⟨7, some 32, none, .load (.t 31) 1 false⟩,
    ⟨8, some 33, none, .mx (.t 28) (.t 32)⟩,
    ⟨9, some 13, none, .mov (.t 33)⟩])
  (.seq (.reg [⟨0, some 34, none, .mov (.t 1)⟩,
    ⟨1, some 35, none, .call 52 [(.im, (.t 34))]⟩,
    ⟨2, some 14, none, .mov (.t 35)⟩])
  (.seq (.reg [⟨0, some 36, none, .mov (.t 14)⟩,
    ⟨1, some 37, none, .mov (.t 2)⟩,
    ⟨2, some 38, none, .mov (.t 13)⟩,
    ⟨3, some 39, none, .ix (.t 36) (.t 37) 1⟩,
    ⟨4, none, none, .store (.t 39) (.t 38) 1⟩])
  (.seq (.reg [⟨0, some 40, none, .mov (.t 0)⟩,
    ⟨1, some 41, none, .nilck (.t 40)⟩,
    ⟨2, some 42, none, .fa (.t 41) 0⟩,
    ⟨3, some 43, none, .load (.t 42) 1 false⟩,
    ⟨4, some 44, none, .mov (.t 2)⟩,
    ⟨5, some 45, none, .ix (.t 43) (.t 44) 1⟩,
    ⟨6, some 46, none, .load (.t 45) 1 false⟩,
    ⟨7, some 47, none, .mov (.t 13)⟩,
    ⟨8, some 48, none, .ix (.t 46) (.t 47) 2⟩,
    ⟨9, some 49, none, .load (.t 48) 2 true⟩,
    ⟨10, some 15, none, .alloc [.int .i64 0, .nils]⟩,
    ⟨11, none, none, .store (.t 15) (.t 49) 2⟩])
  (.seq (.seq (.reg [⟨0, some 50, none, .mov (.t 4)⟩])
  (.cond (.t 50) (.reg [⟨0, some 51, none, .mov (.t 14)⟩,
    ⟨1, some 52, none, .fa (.t 15) 1⟩,
    ⟨2, some 53, none, .load (.t 52) 1 false⟩,
    ⟨3, some 54, none, .call 171 [(.im, (.t 51)), (.im, (.t 53))]⟩,
    ⟨4, some 14, none, .mov (.t 54)⟩]) (.skip)))
  (.seq (.reg [⟨0, some 55, none, .fa (.t 15) 0⟩,
    ⟨1, some 56, none, .load (.t 55) 1 false⟩,
    ⟨2, some 57, none, .mov (.t 14)⟩,
    ⟨3, some 10, none, .mov (.t 56)⟩,
    ⟨4, some 11, none, .mov (.t 57)⟩])
  (.ret))))))))⟩
/-- impl.Memory).store -/
def a146 : AFn := ⟨5, [.tmp 10],
  .seq (.reg [⟨0, some 10, none, .mov (.k .nils)⟩])
  (.seq (.reg [⟨0, some 13, none, .mov (.t 1)⟩,
    ⟨1, some 14, none, .call 52 [(.im, (.t 13))]⟩,
    ⟨2, some 11, none, .mov (.t 14)⟩])
  (.seq (.reg [⟨0, some 15, none, .mov (.t 11)⟩,
    ⟨1, some 16, none, .mov (.t 2)⟩,
    ⟨2, some 17, none, .mov (.t 0)⟩,
    ⟨3, some 18, none, .nilck (.t 17)⟩,
    ⟨4, some 19, none, .fa (.t 18) 0⟩,
    ⟨5, some 20, none, .load (.t 19) 1 false⟩,
    ⟨6, some 21, none, .mov (.t 2)⟩,
    ⟨7, some 22, none, .ix (.t 20) (.t 21) 1⟩,
    ⟨8, some 23, none, .load (.t 22) 1 false⟩,
    ⟨9, some 24, none, .len (.t 23)⟩,
    ⟨10, some 25, none, .ix (.t 15) (.t 16) 1⟩,
    ⟨11, none, none, .store (.t 25) (.t 24) 1⟩])
  (.seq (.reg [⟨0, some 26, none, .mks 1 8 [.int .i64 0] (.k (.int .i64 24)) (.k (.int .i64 24))⟩,
    ⟨1, some 12, none, .mov (.t 26)⟩])
  (.seq (.reg [⟨0, some 27, none, .mov (.t 12)⟩,
    ⟨1, some 28, none, .mov (.t 2)⟩,
    ⟨2, some 29, none, .mov (.t 11)⟩,
    ⟨3, some 30, none, .mov (.t 2)⟩,
    ⟨4, some 31, none, .ix (.t 29) (.t 30) 1⟩,
    ⟨5, some 32, none, .load (.t 31) 1 false⟩,
    ⟨6, some 33, none, .ix (.t 27) (.t 28) 1⟩,
    ⟨7, none, none, .store (.t 33) (.t 32) 1⟩])
  (.seq (.seq (.reg [⟨0, some 34, none, .mov (.t 4)⟩])
  (.cond (.t 34) (.reg [⟨0, some 35, none, .mov (.t 11)⟩,
    ⟨1, some 36, none, .call 52 [(.im, (.t 35))]⟩,
    ⟨2, some 12, none, .mov (.t 36)⟩]) (.skip)))
  (.seq (.dreg [⟨0, some 37, none, .mov (.t 0)⟩,
    ⟨1, some 38, none, .nilck (.t 37)⟩,
    ⟨2, some 39, none, .fa (.t 38) 0⟩,
    ⟨3, some 40, none, .load (.t 39) 1 false⟩,
    ⟨4, some 41, none, .mov (.t 2)⟩,
    ⟨5, some 42, none, .mov (.t 0)⟩,
    ⟨6, some 43, none, .nilck (.t 42)⟩,
    ⟨7, some 44, none, .fa (.t 43) 0⟩,
    ⟨8, some 45, none, .load (.t 44) 1 false⟩,
    ⟨9, some 46, none, .mov (.t 2)⟩,
    ⟨10, some 47, none, .ix (.t 45) (.t 46) 1⟩,
    ⟨11, some 48, none, .load (.t 47) 1 false⟩,
    ⟨12, some 49, none, .mov (.t 3)⟩,
    ⟨13, some 50, none, .mov (.t 12)⟩,
    ⟨14, some 51, none, .build [.int .i64 0, .nils] [(0, 1, (.t 49)), (1, 1, (.t 50))]⟩,
    ⟨15, some 52, none, .bslice 2 1 [.int .i64 0, .nils] [(0, 2, (.t 51))]⟩,
    ⟨16, some 53, none, .app 2 32 (.t 48) (.t 52)⟩,
    ⟨17, some 54, none, .ix (.t 40) (.t 41) 1⟩,
    ⟨18, none, none, .store (.t 54) (.t 53) 1⟩] [(3, 16), (3, 18), (8, 16), (11, 16)])
  (.seq (.reg [⟨0, some 55, none, .mov (.t 11)⟩,
    ⟨1, some 10, none, .mov (.t 55)⟩])
  (.ret))))))))⟩
/-- spec.l6Load -/
def a155 : AFn := ⟨5, [.tmp 10, .tmp 11],
  .seq (.reg [⟨0, some 5, none, .box (.t 0)⟩,
    ⟨1, some 10, none, .mov (.k (.int .i64 0))⟩,
    ⟨2, some 11, none, .mov (.k .nils)⟩])
  (.seq (.reg [⟨0, some 15, none, .fa (.t 5) 0⟩,
    ⟨1, some 16, none, .load (.t 15) 1 false⟩,
    ⟨2, some 17, none, .mov (.t 2)⟩,
    ⟨3, some 18, none, .ix (.t 16) (.t 17) 1⟩,
    ⟨4, some 19, none, .load (.t 18) 1 false⟩,
    ⟨5, some 12, none, .mov (.t 19)⟩])
  (.seq (.dreg [⟨0, some 20, none, .mov (.t 12)⟩,
    ⟨1, some 21, none, .len (.t 20)⟩,
    ⟨2, some 22, none, .bin .sub (.t 21) (.k (.int .i64 1))⟩,
    ⟨3, some 23, none, .mov (.t 3)⟩,
    ⟨6, some 26, none, .mov (.t 1)⟩,
    ⟨7, some 27, none, .mov (.t 2)⟩,
    ⟨8, some 28, none, .ix (.t 26) (.t 27) 1⟩,
    ⟨9, some 29, none, .load (.t 28) 1 false⟩,
    ⟨4, some 24, none, .call 138 [(.im, (.t 23)), (.im, (.k (.int .i64 0)))]⟩,
    ⟨5, some 25, none, .bin .sub (.t 22) (.t 24)⟩,
    ⟨10, some 30, none, .call 138 [(.im, (.t 25)), (.im, (.t 29))]⟩,
    ⟨11, some 13, none, .mov (.t 30)⟩] [(7, 10)])
  (.seq (.reg [⟨0, some 31, none, .bslice 1 0 [.int .i64 0] []⟩,
    ⟨1, some 32, none, .mov (.t 1)⟩,
    ⟨2, some 33, none, .app 1 8 (.t 31) (.t 32)⟩,
    ⟨3, some 14, none, .mov (.t 33)⟩])
  (.seq (.reg [⟨0, some 34, none, .mov (.t 14)⟩,
    ⟨1, some 35, none, .mov (.t 2)⟩,
    ⟨2, some 36, none, .mov (.t 13)⟩,
    ⟨3, some 37, none, .ix (.t 34) (.t 35) 1⟩,
    ⟨4, none, none, .store (.t 37) (.t 36) 1⟩])
  (.seq (.seq (.reg [⟨0, some 38, none, .mov (.t 4)⟩])
  (.cond (.t 38) (.reg [⟨0, some 39, none, .mov (.t 14)⟩,
    ⟨1, some 40, none, .mov (.t 12)⟩,
    ⟨2, some 41, none, .mov (.t 13)⟩,
    ⟨3, some 42, none, .ix (.t 40) (.t 41) 2⟩,
    ⟨4, some 43, none, .fa (.t 42) 1⟩,
    ⟨5, some 44, none, .load (.t 43) 1 false⟩,
    ⟨6, some 45, none, .call 182 [(.im, (.t 39)), (.im, (.t 44))]⟩,
    ⟨7, some 14, none, .mov (.t 45)⟩]) (.skip)))
  (.seq (.reg [⟨0, some 46, none, .mov (.t 12)⟩,
    ⟨1, some 47, none, .mov (.t 13)⟩,
    ⟨2, some 48, none, .ix (.t 46) (.t 47) 2⟩,
    ⟨3, some 49, none, .fa (.t 48) 0⟩,
    ⟨4, some 50, none, .load (.t 49) 1 false⟩,
    ⟨5, some 51, none, .mov (.t 14)⟩,
    ⟨6, some 10, none, .mov (.t 50)⟩,
    ⟨7, some 11, none, .mov (.t 51)⟩])
  (.ret)))))))⟩
/-- spec.l6Store -/
def a156 : AFn := ⟨5, [.cell 10 1 true, .tmp 11],
  .seq (.reg [⟨0, some 5, none, .box (.t 0)⟩,
    ⟨1, some 10, none, .alloc [.nils]⟩,
    ⟨2, some 11, none, .mov (.k .nils)⟩])
  (.seq (.reg [⟨0, some 14, none, .bslice 1 0 [.int .i64 0] []⟩,
    ⟨1, some 15, none, .mov (.t 1)⟩,
    ⟨2, some 16, none, .app 1 8 (.t 14) (.t 15)⟩,
    ⟨3, some 12, none, .mov (.t 16)⟩])
  (.seq (.reg [⟨0, some 17, none, .mov (.t 12)⟩,
    ⟨1, some 18, none, .mov (.t 2)⟩,
    ⟨2, some 19, none, .fa (.t 5) 0⟩,
    ⟨3, some 20, none, .load (.t 19) 1 false⟩,
    ⟨4, some 21, none, .mov (.t 2)⟩,
    ⟨5, some 22, none, .ix (.t 20) (.t 21) 1⟩,
    ⟨6, some 23, none, .load (.t 22) 1 false⟩,
    ⟨7, some 24, none, .len (.t 23)⟩,
    ⟨8, some 25, none, .ix (.t 17) (.t 18) 1⟩,
    ⟨9, none, none, .store (.t 25) (.t 24) 1⟩])
  (.seq (.reg [⟨0, some 26, none, .mov (.t 3)⟩,
    ⟨1, some 27, none, .mks 1 8 [.int .i64 0] (.k (.int .i64 24)) (.k (.int .i64 24))⟩,
    ⟨2, some 28, none, .build [.int .i64 0, .nils] [(0, 1, (.t 26)), (1, 1, (.t 27))]⟩,
    ⟨3, some 13, none, .alloc [.int .i64 0, .nils]⟩,
    ⟨4, none, none, .store (.t 13) (.t 28) 2⟩])
  (.seq (.dreg [⟨0, some 29, none, .fa (.t 13) 1⟩,
    ⟨1, some 30, none, .load (.t 29) 1 false⟩,
    ⟨2, some 31, none, .mov (.t 2)⟩,
    ⟨3, some 32, none, .mov (.t 12)⟩,
    ⟨4, some 33, none, .mov (.t 2)⟩,
    ⟨5, some 34, none, .ix (.t 32) (.t 33) 1⟩,
    ⟨6, some 35, none, .load (.t 34) 1 false⟩,
    ⟨7, some 36, none, .ix (.t 30) (.t 31) 1⟩,
    ⟨8, none, none, .store (.t 36) (.t 35) 1⟩] [])
  (.seq (.seq (.reg [⟨0, some 37, none, .mov (.t 4)⟩])
  (.cond (.t 37) (.reg [⟨0, some 38, none, .bslice 1 0 [.int .i64 0] []⟩,
    ⟨1, some 39, none, .mov (.t 12)⟩,
    ⟨2, some 40, none, .app 1 8 (.t 38) (.t 39)⟩,
    ⟨3, some 41, none, .fa (.t 13) 1⟩,
    ⟨4, none, none, .store (.t 41) (.t 40) 1⟩]) (.skip)))
  (.seq (.dreg [⟨0, some 42, none, .fa (.t 5) 0⟩,
    ⟨1, some 43, none, .load (.t 42) 1 false⟩,
    ⟨2, some 44, none, .mov (.t 2)⟩,
    ⟨3, some 45, none, .fa (.t 5) 0⟩,
    ⟨4, some 46, none, .load (.t 45) 1 false⟩,
    ⟨5, some 47, none, .mov (.t 2)⟩,
    ⟨6, some 48, none, .ix (.t 46) (.t 47) 1⟩,
    ⟨7, some 49, none, .load (.t 48) 1 false⟩,
    ⟨8, some 50, none, .load (.t 13) 2 true⟩,
    ⟨9, some 51, none, .bslice 2 1 [.int .i64 0, .nils] [(0, 2, (.t 50))]⟩,
    ⟨10, some 52, none, .app 2 32 (.t 49) (.t 51)⟩,
    ⟨11, some 53, none, .ix (.t 43) (.t 44) 1⟩,
    ⟨12, none, none, .store (.t 53) (.t 52) 1⟩] [(1, 10), (1, 12), (4, 10), (7, 10), (8, 10)])
  (.seq (.reg [⟨0, some 54, none, .load (.t 5) 1 true⟩,
    ⟨1, some 55, none, .mov (.t 12)⟩,
    ⟨2, none, none, .store (.t 10) (.t 54) 1⟩,
    ⟨3, some 11, none, .mov (.t 55)⟩])
  (.ret))))))))⟩
/-- impl.stepNamed -/
def a157 : AFn := ⟨1, [.cell 2 5 true],
  .seq (.reg [⟨0, some 1, none, .box (.t 0)⟩,
    ⟨1, some 2, none, .alloc [.int .i64 0, .int .i64 0, .int .i64 0, .int .i64 0, .int .i64 0]⟩])
  (.seq (.reg [⟨0, some 4, none, .fa (.t 1) 0⟩,
    ⟨1, some 5, none, .load (.t 4) 1 false⟩,
    ⟨2, some 6, none, .build [.int .i64 0, .int .i64 0, .int .i64 0, .int .i64 0, .int .i64 0] [(0, 1, (.t 5))]⟩,
    ⟨3, some 3, none, .alloc [.int .i64 0, .int .i64 0, .int .i64 0, .int .i64 0, .int .i64 0]⟩,
    ⟨4, none, none, .store (.t 3) (.t 6) 5⟩])
  (.seq (.seq (.reg [⟨0, some 7, none, .fa (.t 1) 0⟩,
    ⟨1, some 8, none, .load (.t 7) 1 false⟩])
  (.block 0 (.seq (.reg [⟨0, some 10, none, .bin .eql (.t 8) (.k (.int .i64 1))⟩,
    ⟨1, some 9, none, .mov (.t 10)⟩])
  (.cond (.t 9) (.dreg [⟨0, some 11, none, .fa (.t 1) 1⟩,
    ⟨1, some 12, none, .load (.t 11) 1 false⟩,
    ⟨2, some 13, none, .fa (.t 1) 4⟩,
    ⟨3, some 14, none, .load (.t 13) 1 false⟩,
    ⟨4, some 15, none, .fa (.t 3) 1⟩,
    ⟨5, none, none, .store (.t 15) (.t 12) 1⟩,
    ⟨6, some 16, none, .fa (.t 3) 4⟩,
    ⟨7, none, none, .store (.t 16) (.t 14) 1⟩] [(3, 7)]) (.seq (.seq (.reg [⟨0, some 18, none, .bin .eql (.t 8) (.k (.int .i64 2))⟩,
    ⟨1, some 17, none, .mov (.t 18)⟩])
  (.cond (.t 17) (.skip) (.seq (.reg [⟨0, some 19, none, .bin .eql (.t 8) (.k (.int .i64 3))⟩,
    ⟨1, some 17, none, .mov (.t 19)⟩])
  (.cond (.t 17) (.skip) (.reg [⟨0, some 20, none, .bin .eql (.t 8) (.k (.int .i64 4))⟩,
    ⟨1, some 17, none, .mov (.t 20)⟩])))))
  (.cond (.t 17) (.dreg [⟨0, some 21, none, .fa (.t 1) 1⟩,
    ⟨1, some 22, none, .load (.t 21) 1 false⟩,
    ⟨2, some 23, none, .fa (.t 1) 2⟩,
    ⟨3, some 24, none, .load (.t 23) 1 false⟩,
    ⟨4, some 25, none, .fa (.t 1) 3⟩,
    ⟨5, some 26, none, .load (.t 25) 1 false⟩,
    ⟨6, some 27, none, .fa (.t 3) 1⟩,
    ⟨7, none, none, .store (.t 27) (.t 22) 1⟩,
    ⟨8, some 28, none, .fa (.t 3) 2⟩,
    ⟨9, none, none, .store (.t 28) (.t 24) 1⟩,
    ⟨10, some 29, none, .fa (.t 3) 3⟩,
    ⟨11, none, none, .store (.t 29) (.t 26) 1⟩] [(3, 9), (5, 9), (5, 11)]) (.seq (.reg [⟨0, some 31, none, .bin .eql (.t 8) (.k (.int .i64 5))⟩,
    ⟨1, some 30, none, .mov (.t 31)⟩])
  (.cond (.t 30) (.dreg [⟨0, some 32, none, .fa (.t 1) 1⟩,
    ⟨1, some 33, none, .load (.t 32) 1 false⟩,
    ⟨2, some 34, none, .fa (.t 1) 2⟩,
    ⟨3, some 35, none, .load (.t 34) 1 false⟩,
    ⟨4, some 36, none, .fa (.t 1) 4⟩,
    ⟨5, some 37, none, .load (.t 36) 1 false⟩,
    ⟨6, some 38, none, .fa (.t 3) 1⟩,
    ⟨7, none, none, .store (.t 38) (.t 33) 1⟩,
    ⟨8, some 39, none, .fa (.t 3) 2⟩,
    ⟨9, none, none, .store (.t 39) (.t 35) 1⟩,
    ⟨10, some 40, none, .fa (.t 3) 4⟩,
    ⟨11, none, none, .store (.t 40) (.t 37) 1⟩] [(3, 9), (5, 9), (5, 11)]) (.seq (.seq (.reg [⟨0, some 42, none, .bin .eql (.t 8) (.k (.int .i64 6))⟩,
    ⟨1, some 41, none, .mov (.t 42)⟩])
  (.cond (.t 41) (.skip) (.reg [⟨0, some 43, none, .bin .eql (.t 8) (.k (.int .i64 7))⟩,
    ⟨1, some 41, none, .mov (.t 43)⟩])))
  (.cond (.t 41) (.dreg [⟨0, some 44, none, .fa (.t 1) 2⟩,
    ⟨1, some 45, none, .load (.t 44) 1 false⟩,
    ⟨2, some 46, none, .fa (.t 1) 3⟩,
    ⟨3, some 47, none, .load (.t 46) 1 false⟩,
    ⟨4, some 48, none, .fa (.t 1) 4⟩,
    ⟨5, some 49, none, .load (.t 48) 1 false⟩,
    ⟨6, some 50, none, .fa (.t 3) 2⟩,
    ⟨7, none, none, .store (.t 50) (.t 45) 1⟩,
    ⟨8, some 51, none, .fa (.t 3) 3⟩,
    ⟨9, none, none, .store (.t 51) (.t 47) 1⟩,
    ⟨10, some 52, none, .fa (.t 3) 4⟩,
    ⟨11, none, none, .store (.t 52) (.t 49) 1⟩] [(3, 9), (5, 9), (5, 11)]) (.seq (.reg [⟨0, some 54, none, .bin .eql (.t 8) (.k (.int .i64 8))⟩,
    ⟨1, some 53, none, .mov (.t 54)⟩])
  (.cond (.t 53) (.dreg [⟨0, some 55, none, .fa (.t 1) 1⟩,
    ⟨1, some 56, none, .load (.t 55) 1 false⟩,
    ⟨2, some 57, none, .fa (.t 1) 3⟩,
    ⟨3, some 58, none, .load (.t 57) 1 false⟩,
    ⟨4, some 59, none, .fa (.t 1) 4⟩,
    ⟨5, some 60, none, .load (.t 59) 1 false⟩,
    ⟨6, some 61, none, .fa (.t 3) 1⟩,
    ⟨7, none, none, .store (.t 61) (.t 56) 1⟩,
    ⟨8, some 62, none, .fa (.t 3) 3⟩,
    ⟨9, none, none, .store (.t 62) (.t 58) 1⟩,
    ⟨10, some 63, none, .fa (.t 3) 4⟩,
    ⟨11, none, none, .store (.t 63) (.t 60) 1⟩] [(3, 9), (5, 9), (5, 11)]) (.seq (.reg [⟨0, some 65, none, .bin .eql (.t 8) (.k (.int .i64 9))⟩,
    ⟨1, some 64, none, .mov (.t 65)⟩])
  (.cond (.t 64) (.reg [⟨0, some 66, none, .fa (.t 1) 2⟩,
    ⟨1, some 67, none, .load (.t 66) 1 false⟩,
    ⟨2, some 68, none, .fa (.t 3) 2⟩,
    ⟨3, none, none, .store (.t 68) (.t 67) 1⟩]) (.seq (.reg [⟨0, some 70, none, .bin .eql (.t 8) (.k (.int .i64 10))⟩,
    ⟨1, some 69, none, .mov (.t 70)⟩])
  (.cond (.t 69) (.reg [⟨0, some 71, none, .fa (.t 1) 4⟩,
    ⟨1, some 72, none, .load (.t 71) 1 false⟩,
    ⟨2, some 73, none, .fa (.t 3) 4⟩,
    ⟨3, none, none, .store (.t 73) (.t 72) 1⟩]) (.seq (.reg [⟨0, some 75, none, .bin .eql (.t 8) (.k (.int .i64 11))⟩,
    ⟨1, some 74, none, .mov (.t 75)⟩])
  (.cond (.t 74) (.dreg [⟨0, some 76, none, .fa (.t 1) 2⟩,
    ⟨1, some 77, none, .load (.t 76) 1 false⟩,
    ⟨2, some 78, none, .fa (.t 1) 4⟩,
    ⟨3, some 79, none, .load (.t 78) 1 false⟩,
    ⟨4, some 80, none, .fa (.t 3) 2⟩,
    ⟨5, none, none, .store (.t 80) (.t 77) 1⟩,
    ⟨6, some 81, none, .fa (.t 3) 4⟩,
    ⟨7, none, none, .store (.t 81) (.t 79) 1⟩] [(3, 7)]) (.skip)))))))))))))))))))
  (.seq (.reg [⟨0, some 82, none, .load (.t 3) 5 true⟩,
    ⟨1, none, none, .store (.t 2) (.t 82) 5⟩])
  (.ret))))⟩
/-- spec.l7Reg -/
def a158 : AFn := ⟨1, [.tmp 2],
  .seq (.reg [⟨0, some 2, none, .mov (.k (.bool false))⟩])
  (.seq (.reg [⟨0, some 3, none, .mov (.t 0)⟩,
    ⟨1, some 4, none, .call 63 [(.im, (.t 3)), (.im, (.k (.int .i64 0))), (.im, (.k (.int .i64 7)))]⟩,
    ⟨2, some 2, none, .mov (.t 4)⟩])
  (.ret))⟩
/-- impl.Join -/
def a171 : AFn := ⟨2, [.tmp 4],
  .seq (.reg [⟨0, some 4, none, .mov (.k .nils)⟩])
  (.seq (.reg [⟨0, some 7, none, .bslice 1 0 [.int .i64 0] []⟩,
    ⟨1, some 5, none, .mov (.t 7)⟩])
  (.seq (.seq (.reg [⟨0, some 6, none, .mov (.k (.int .i64 0))⟩])
  (.block 0 (.loop (.seq (.seq (.reg [⟨0, some 8, none, .mov (.t 6)⟩,
    ⟨1, some 9, none, .mov (.t 0)⟩,
    ⟨2, some 10, none, .len (.t 9)⟩,
    ⟨3, some 11, none, .bin .lss (.t 8) (.t 10)⟩,
    ⟨4, some 12, none, .mov (.t 11)⟩,
    ⟨5, some 13, (some (12, true)), .mov (.t 6)⟩,
    ⟨6, some 14, (some (12, true)), .mov (.t 1)⟩,
    ⟨7, some 15, (some (12, true)), .len (.t 14)⟩,
    ⟨8, some 16, (some (12, true)), .bin .lss (.t 13) (.t 15)⟩,
    ⟨9, some 17, none, .pick (.t 12) (.t 16) (.k (.bool false))⟩])
  (.cond (.t 17) (.skip) (.exit 0)))
  (.seq (.block 1 (.dreg [⟨0, some 20, none, .mov (.t 5)⟩,
    ⟨1, some 21, none, .mov (.t 0)⟩,
    ⟨2, some 22, none, .mov (.t 6)⟩,
    ⟨3, some 23, none, .ix (.t 21) (.t 22) 1⟩,
    ⟨4, some 24, none, .load (.t 23) 1 false⟩,
    ⟨5, some 25, none, .mov (.t 1)⟩,
    ⟨6, some 26, none, .mov (.t 6)⟩,
    ⟨7, some 27, none, .ix (.t 25) (.t 26) 1⟩,
    ⟨8, some 28, none, .load (.t 27) 1 false⟩,
    ⟨9, some 29, none, .mx (.t 24) (.t 28)⟩,
    ⟨10, some 30, none, .bslice 1 1 [.int .i64 0] [(0, 1, (.t 29))]⟩,
    ⟨11, some 31, none, .app 1 8 (.t 20) (.t 30)⟩,
    ⟨12, some 5, none, .mov (.t 31)⟩] [(4, 11), (8, 11)]))
  (.reg [⟨0, some 18, none, .mov (.t 6)⟩,
    ⟨1, some 19, none, .bin .add (.t 18) (.k (.int .i64 1))⟩,
    ⟨2, some 6, none, .mov (.t 19)⟩]))))))
  (.seq (.reg [⟨0, some 32, none, .mov (.t 5)⟩,
    ⟨1, some 4, none, .mov (.t 32)⟩])
  (.ret))))⟩
/-- spec.Join -/
def a182 : AFn := ⟨2, [.tmp 4],
  .seq (.reg [⟨0, some 4, none, .mov (.k .nils)⟩])
  (.seq (.reg [⟨0, some 7, none, .bslice 1 0 [.int .i64 0] []⟩,
    ⟨1, some 5, none, .mov (.t 7)⟩])
  (.seq (.seq (.reg [⟨0, some 6, none, .mov (.k (.int .i64 0))⟩])
  (.block 0 (.loop (.seq (.seq (.reg [⟨0, some 8, none, .mov (.t 6)⟩,
    ⟨1, some 9, none, .mov (.t 0)⟩,
    ⟨2, some 10, none, .len (.t 9)⟩,
    ⟨3, some 11, none, .bin .lss (.t 8) (.t 10)⟩,
    ⟨4, some 12, none, .mov (.t 11)⟩,
    ⟨5, some 13, (some (12, true)), .mov (.t 6)⟩,
    ⟨6, some 14, (some (12, true)), .mov (.t 1)⟩,
    ⟨7, some 15, (some (12, true)), .len (.t 14)⟩,
    ⟨8, some 16, (some (12, true)), .bin .lss (.t 13) (.t 15)⟩,
    ⟨9, some 17, none, .pick (.t 12) (.t 16) (.k (.bool false))⟩])
  (.cond (.t 17) (.skip) (.exit 0)))
  (.seq (.block 1 (.dreg [⟨0, some 20, none, .mov (.t 5)⟩,
    ⟨1, some 21, none, .mov (.t 0)⟩,
    ⟨2, some 22, none, .mov (.t 6)⟩,
    ⟨3, some 23, none, .ix (.t 21) (.t 22) 1⟩,
    ⟨4, some 24, none, .load (.t 23) 1 false⟩,
    ⟨5, some 25, none, .mov (.t 1)⟩,
    ⟨6, some 26, none, .mov (.t 6)⟩,
    ⟨7, some 27, none, .ix (.t 25) (.t 26) 1⟩,
    ⟨8, some 28, none, .load (.t 27) 1 false⟩,
    ⟨9, some 29, none, .call 138 [(.im, (.t 24)), (.im, (.t 28))]⟩,
    ⟨10, some 30, none, .bslice 1 1 [.int .i64 0] [(0, 1, (.t 29))]⟩,
    ⟨11, some 31, none, .app 1 8 (.t 20) (.t 30)⟩,
    ⟨12, some 5, none, .mov (.t 31)⟩] []))
  (.reg [⟨0, some 18, none, .mov (.t 6)⟩,
    ⟨1, some 19, none, .bin .add (.t 18) (.k (.int .i64 1))⟩,
    ⟨2, some 6, none, .mov (.t 19)⟩]))))))
  (.seq (.reg [⟨0, some 32, none, .mov (.t 5)⟩,
    ⟨1, some 4, none, .mov (.t 32)⟩])
  (.ret))))⟩
def code : List (FuncId × AFn) := [(3, a3), (5, a5), (7, a7), (8, a8), (10, a10), (11, a11), (12, a12), (13, a13), (14, a14), (19, a19), (20, a20), (21, a21), (22, a22), (23, a23), (24, a24), (25, a25), (26, a26), (35, a35), (36, a36), (37, a37), (38, a38), (39, a39), (40, a40), (41, a41), (42, a42), (45, a45), (46, a46), (47, a47), (48, a48), (50, a50), (52, a52), (58, a58), (59, a59), (60, a60), (61, a61), (62, a62), (63, a63), (64, a64), (65, a65), (66, a66), (67, a67), (68, a68), (69, a69), (70, a70), (71, a71), (72, a72), (93, a93), (94, a94), (95, a95), (96, a96), (97, a97), (101, a101), (102, a102), (103, a103), (104, a104), (105, a105), (106, a106), (107, a107), (113, a113), (114, a114), (115, a115), (116, a116), (117, a117), (118, a118), (119, a119), (120, a120), (137, a137), (138, a138), (139, a139), (144, a144), (145, a145), (146, a146), (155, a155), (156, a156), (157, a157), (158, a158), (171, a171), (182, a182)]
theorem code_ok : (code.all fun p => fnOk Go.Proofs.Try.prog p.1 p.2) = true := by kernel_rfl
theorem ok : ∀ f fn, gam code f = some fn → fnOk Go.Proofs.Try.prog f fn = true := gam_ok code_ok
end Go.Proofs.Ytgodaiiegcdpcaa.Abs.MC
end
