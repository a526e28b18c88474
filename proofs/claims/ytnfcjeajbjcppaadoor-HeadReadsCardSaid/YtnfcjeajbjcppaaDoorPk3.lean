/- The functions of a seat, compiled for the small machine. Printed by Print.lean. -/
import Derived.Test.YtnfcjeajbjcppaaDoorProg
import Derived.Test.YtnfcjeajbjcppaaDoorPk2
import Derived.KernelRfl
section
set_option maxRecDepth 100000
set_option linter.unusedVariables false
namespace Go.Proofs.YtnfcjeajbjcppaaDoor.Vh
open Go.Vm
def i_gatepostlaw05_HeadNobody : FuncId := 3
def i_gatepostlaw05_HeadMany : FuncId := 4
def i_gatepostlaw05_HeadFields : FuncId := 5
def i_gatepostlaw05_HeadReads : FuncId := 6
def i_gatepostlaw05_HeadCuts : FuncId := 7
def i___gatepost_head_Reader__Feed : FuncId := 8
def i___gatepost_head_Reader__Request : FuncId := 9
def i___gatepost_head_Reader__Response : FuncId := 10
def i_head_New : FuncId := 11
def i_gatepostref01_Value : FuncId := 12
def i_gatepostlaw05_names : FuncId := 13
def i_gatepostlaw05_piece : FuncId := 14
def i___gatepost_gatepostref05_Reader__Feed : FuncId := 15
def i___gatepost_gatepostref05_Reader__Request : FuncId := 16
def i___gatepost_gatepostref05_Reader__Response : FuncId := 17
def i_gatepostref05_SameRequest : FuncId := 18
def i_gatepostref05_SameResponse : FuncId := 19
def i___gatepost_head_Reader__none : FuncId := 20
def i___gatepost_head_Reader__take : FuncId := 21
def i___gatepost_head_Reader__whole : FuncId := 22
def i_head_New_1 : FuncId := 23
def i_line_Request : FuncId := 24
def i_head_New_2 : FuncId := 25
def i_line_Status : FuncId := 26
def i_gatepostref01_blank : FuncId := 27
def i___gatepost_gatepostref05_Reader__ended : FuncId := 28
def i_gatepostref04_Same : FuncId := 29
def i_head_cut : FuncId := 30
def i___gatepost_head_Reader__ended : FuncId := 31
def i_line_words : FuncId := 32
def i_token_Is : FuncId := 33
def i_line_isTarget : FuncId := 34
def i_line_version : FuncId := 35
def i_line_Status_1 : FuncId := 36
def i_strings_Cut : FuncId := 37
def i_token_Number : FuncId := 38
def i_line_isReason : FuncId := 39
def i_gatepostref03_Status : FuncId := 40
def i_gatepostref03_Request : FuncId := 41
def i_gatepostref04_Parse : FuncId := 42
def i_field_Parse : FuncId := 43
def i_strings_Split : FuncId := 44
def i_token_all : FuncId := 45
def i_token_inToken : FuncId := 46
def i_internal_stringslite_Cut : FuncId := 47
def i_token_Number_1 : FuncId := 48
def i_gatepostref03_version : FuncId := 49
def i_gatepostref01_Number : FuncId := 50
def i_gatepostref03_reason : FuncId := 51
def i_gatepostref01_Is : FuncId := 52
def i_gatepostref03_target : FuncId := 53
def i_gatepostref01_Trim : FuncId := 54
def i_token_Trim : FuncId := 55
def i_field_fine : FuncId := 56
def i_strings_genSplit : FuncId := 57
def i_token_marks : FuncId := 58
def i_internal_stringslite_Index : FuncId := 59
def i_gatepostref01_tchar : FuncId := 60
def i_strings_Trim : FuncId := 61
def i_token_Value : FuncId := 62
def i_strings_explode : FuncId := 63
def i_strings_Count : FuncId := 64
def i_strings_Index : FuncId := 65
def i_strings_trimLeftByte : FuncId := 70
def i_strings_trimRightByte : FuncId := 71
def i_strings_makeASCIISet : FuncId := 72
def i_strings_trimLeftASCII : FuncId := 73
def i_strings_trimRightASCII : FuncId := 74
def i_strings_trimLeftUnicode : FuncId := 75
def i_strings_trimRightUnicode : FuncId := 76
def i_token_Value_1 : FuncId := 77
def i_token_isBlank : FuncId := 78
def i___strings_asciiSet__contains : FuncId := 84
/-- gatepost/gatepostlaw05.HeadNobody -/
def c_gatepostlaw05_HeadNobody : FnC := ⟨55, [.tmp 2],
  (.seq (.region [⟨(some 2), none, .mv (.c (.bool false))⟩])
  (.seq (.seq (.region [⟨(some 12), none, .build [.nfn, (.bool false), (.bool false), (.bool false), (.int .i64 0), (.int .i64 0), .nsl, (.str []), (.str []), (.int .i64 0), .nsl, (.int .i64 0), (.int .i64 0), (.str []), .nsl, .nsl] []⟩, ⟨(some 13), none, .box (.t 12)⟩, ⟨(some 14), none, .bsl 1 [(.c .nilp), (.t 13)]⟩, ⟨(some 15), none, .len 1 (.t 14)⟩, ⟨(some 16), none, .mv (.c (.int .i64 0))⟩])
  (.block 0 (.loop
    (.seq (.region [⟨(some 17), none, .bin .lss (.t 16) (.t 15)⟩])
    (.seq (.cond (.t 17)
      .skip
      (.exit 0))
    (.seq (.block 1 (.seq (.region [⟨(some 18), none, .ixaSl 1 (.t 14) (.t 16)⟩, ⟨(some 19), none, .load false 1 (.t 18)⟩, ⟨(some 4), none, .mv (.t 19)⟩])
    (.seq (.region [⟨(some 21), none, .mv (.t 4)⟩, ⟨(some 22), none, .mv (.t 0)⟩, ⟨(some 23), none, .call i___gatepost_head_Reader__Feed [(.t 21), (.t 22)]⟩, ⟨(some 20), none, .mv (.t 23)⟩, ⟨(some 24), none, .ext 0 (.t 20)⟩, ⟨(some 25), none, .ext 1 (.t 20)⟩, ⟨(some 26), none, .ext 2 (.t 20)⟩, ⟨(some 5), none, .mv (.t 24)⟩, ⟨(some 6), none, .mv (.t 25)⟩, ⟨(some 7), none, .mv (.t 26)⟩])
    (.seq (.region [⟨(some 28), none, .mv (.t 4)⟩, ⟨(some 29), none, .call i___gatepost_head_Reader__Request [(.t 28)]⟩, ⟨(some 27), none, .mv (.t 29)⟩, ⟨(some 30), none, .ext 0 (.t 27)⟩, ⟨(some 31), none, .ext 1 (.t 27)⟩, ⟨(some 8), none, .boxz [(.str []), (.str []), (.int .i64 0), .nsl]⟩, ⟨none, none, .store 4 (.t 8) (.t 30)⟩, ⟨(some 9), none, .mv (.t 31)⟩])
    (.seq (.region [⟨(some 33), none, .mv (.t 4)⟩, ⟨(some 34), none, .call i___gatepost_head_Reader__Response [(.t 33)]⟩, ⟨(some 32), none, .mv (.t 34)⟩, ⟨(some 35), none, .ext 0 (.t 32)⟩, ⟨(some 36), none, .ext 1 (.t 32)⟩, ⟨(some 10), none, .boxz [(.int .i64 0), (.int .i64 0), (.str []), .nsl]⟩, ⟨none, none, .store 4 (.t 10) (.t 35)⟩, ⟨(some 11), none, .mv (.t 36)⟩])
    (.seq (.region [⟨(some 37), none, .mv (.t 5)⟩, ⟨(some 38), none, .bin .neq (.t 37) (.c (.int .i64 0))⟩, ⟨(some 39), none, .mv (.t 38)⟩, ⟨(some 40), (some (39, false)), .mv (.t 6)⟩, ⟨(some 41), none, .pick (.t 39) (.c (.bool true)) (.t 40)⟩, ⟨(some 42), none, .mv (.t 41)⟩, ⟨(some 43), (some (42, false)), .mv (.t 7)⟩, ⟨(some 44), (some (42, false)), .bin .neq (.t 43) (.c (.int .i64 1))⟩, ⟨(some 45), none, .pick (.t 42) (.c (.bool true)) (.t 44)⟩, ⟨(some 46), none, .mv (.t 45)⟩, ⟨(some 47), (some (46, false)), .mv (.t 9)⟩, ⟨(some 48), (some (46, false)), .bin .neq (.t 47) (.c (.int .i64 1))⟩, ⟨(some 49), none, .pick (.t 46) (.c (.bool true)) (.t 48)⟩, ⟨(some 50), none, .mv (.t 49)⟩, ⟨(some 51), (some (50, false)), .mv (.t 11)⟩, ⟨(some 52), (some (50, false)), .bin .neq (.t 51) (.c (.int .i64 1))⟩, ⟨(some 53), none, .pick (.t 50) (.c (.bool true)) (.t 52)⟩])
    (.cond (.t 53)
      (.seq (.region [⟨(some 2), none, .mv (.c (.bool false))⟩])
      .ret)
      .skip)))))))
    (.region [⟨(some 54), none, .bin .add (.t 16) (.c (.int .i64 1))⟩, ⟨(some 16), none, .mv (.t 54)⟩])))))))
  (.seq (.region [⟨(some 2), none, .mv (.c (.bool true))⟩])
  .ret)))⟩
/-- gatepost/gatepostlaw05.HeadMany -/
def c_gatepostlaw05_HeadMany : FnC := ⟨98, [.tmp 4],
  (.seq (.region [⟨(some 4), none, .mv (.c (.bool false))⟩])
  (.seq (.region [⟨(some 12), none, .mv (.t 0)⟩, ⟨(some 13), none, .bin .and (.t 12) (.c (.int .i64 7))⟩, ⟨(some 14), none, .bin .add (.c (.int .i64 60)) (.t 13)⟩, ⟨(some 0), none, .mv (.t 14)⟩])
  (.seq (.region [⟨(some 5), none, .mv (.c (.str [71, 69, 84, 32, 47, 32, 72, 84, 84, 80, 47, 49, 46, 49, 10]))⟩])
  (.seq (.seq (.region [⟨(some 6), none, .mv (.c (.int .i64 0))⟩])
  (.block 0 (.loop
    (.seq (.seq (.region [⟨(some 15), none, .mv (.t 6)⟩, ⟨(some 16), none, .mv (.t 0)⟩, ⟨(some 17), none, .bin .lss (.t 15) (.t 16)⟩])
    (.cond (.t 17)
      .skip
      (.exit 0)))
    (.seq (.block 1 (.region [⟨(some 20), none, .mv (.t 5)⟩, ⟨(some 21), none, .bin .add (.t 20) (.c (.str [97, 58, 32, 98, 10]))⟩, ⟨(some 5), none, .mv (.t 21)⟩]))
    (.region [⟨(some 18), none, .mv (.t 6)⟩, ⟨(some 19), none, .bin .add (.t 18) (.c (.int .i64 1))⟩, ⟨(some 6), none, .mv (.t 19)⟩]))))))
  (.seq (.region [⟨(some 22), none, .mv (.t 5)⟩, ⟨(some 23), none, .bin .add (.t 22) (.c (.str [10]))⟩, ⟨(some 5), none, .mv (.t 23)⟩])
  (.seq (.region [⟨(some 25), none, .call i_head_New [(.c (.bool false))]⟩, ⟨(some 26), none, .mv (.t 5)⟩, ⟨(some 27), none, .toBytes (.t 26)⟩, ⟨(some 28), none, .call i___gatepost_head_Reader__Feed [(.t 25), (.t 27)]⟩, ⟨(some 24), none, .mv (.t 28)⟩, ⟨(some 29), none, .ext 0 (.t 24)⟩, ⟨(some 30), none, .ext 1 (.t 24)⟩, ⟨(some 31), none, .ext 2 (.t 24)⟩, ⟨(some 7), none, .mv (.t 29)⟩, ⟨(some 8), none, .mv (.t 30)⟩, ⟨(some 9), none, .mv (.t 31)⟩])
  (.seq (.seq (.region [⟨(some 32), none, .mv (.t 0)⟩, ⟨(some 33), none, .bin .leq (.t 32) (.c (.int .i64 64))⟩, ⟨(some 34), none, .mv (.t 33)⟩, ⟨(some 35), (some (34, true)), .mv (.t 8)⟩, ⟨(some 36), (some (34, true)), .un .not (.t 35)⟩, ⟨(some 37), (some (34, true)), .mv (.t 36)⟩, ⟨(some 38), (some (37, false)), .mv (.t 9)⟩, ⟨(some 39), (some (37, false)), .bin .neq (.t 38) (.c (.int .i64 0))⟩, ⟨(some 40), (some (34, true)), .pick (.t 37) (.c (.bool true)) (.t 39)⟩, ⟨(some 41), none, .pick (.t 34) (.t 40) (.c (.bool false))⟩, ⟨(some 42), none, .mv (.t 41)⟩, ⟨(some 43), (some (42, false)), .mv (.t 0)⟩, ⟨(some 44), (some (42, false)), .bin .gtr (.t 43) (.c (.int .i64 64))⟩, ⟨(some 45), (some (42, false)), .mv (.t 44)⟩, ⟨(some 46), (some (45, true)), .mv (.t 8)⟩, ⟨(some 47), (some (45, true)), .mv (.t 46)⟩, ⟨(some 48), (some (47, false)), .mv (.t 9)⟩, ⟨(some 49), (some (47, false)), .bin .neq (.t 48) (.c (.int .i64 3))⟩, ⟨(some 50), (some (45, true)), .pick (.t 47) (.c (.bool true)) (.t 49)⟩, ⟨(some 51), (some (42, false)), .pick (.t 45) (.t 50) (.c (.bool false))⟩, ⟨(some 52), none, .pick (.t 42) (.c (.bool true)) (.t 51)⟩])
  (.cond (.t 52)
    (.seq (.region [⟨(some 4), none, .mv (.c (.bool false))⟩])
    .ret)
    .skip))
  (.seq (.region [⟨(some 53), none, .mv (.t 1)⟩, ⟨(some 54), none, .bin .and (.t 53) (.c (.int .i64 63))⟩, ⟨(some 55), none, .bin .add (.c (.int .i64 8160)) (.t 54)⟩, ⟨(some 1), none, .mv (.t 55)⟩])
  (.seq (.region [⟨(some 56), none, .bslb [(.c (.int .u8 71)), (.c (.int .u8 69)), (.c (.int .u8 84)), (.c (.int .u8 32)), (.c (.int .u8 47)), (.c (.int .u8 32)), (.c (.int .u8 72)), (.c (.int .u8 84)), (.c (.int .u8 84)), (.c (.int .u8 80)), (.c (.int .u8 47)), (.c (.int .u8 49)), (.c (.int .u8 46)), (.c (.int .u8 49)), (.c (.int .u8 10)), (.c (.int .u8 97)), (.c (.int .u8 58)), (.c (.int .u8 32))]⟩, ⟨(some 57), none, .mark (.t 56)⟩, ⟨(some 10), none, .mv (.t 57)⟩])
  (.seq (.block 2 (.loop
    (.seq (.seq (.region [⟨(some 58), none, .mv (.t 10)⟩, ⟨(some 59), none, .len 1 (.t 58)⟩, ⟨(some 60), none, .mv (.t 1)⟩, ⟨(some 61), none, .bin .lss (.t 59) (.t 60)⟩])
    (.cond (.t 61)
      .skip
      (.exit 2)))
    (.block 3 (.region [⟨(some 62), none, .mv (.t 10)⟩, ⟨(some 63), none, .bsl 1 [(.c (.int .u8 120))]⟩, ⟨(some 64), none, .app 1 1 true (.t 62) (.t 63)⟩, ⟨(some 10), none, .mv (.t 64)⟩])))))
  (.seq (.region [⟨(some 66), none, .call i_head_New [(.c (.bool false))]⟩, ⟨(some 67), none, .mv (.t 10)⟩, ⟨(some 68), none, .bsl 1 [(.c (.int .u8 10)), (.c (.int .u8 10))]⟩, ⟨(some 69), none, .app 1 1 true (.t 67) (.t 68)⟩, ⟨(some 70), none, .call i___gatepost_head_Reader__Feed [(.t 66), (.t 69)]⟩, ⟨(some 65), none, .mv (.t 70)⟩, ⟨(some 71), none, .ext 0 (.t 65)⟩, ⟨(some 72), none, .ext 1 (.t 65)⟩, ⟨(some 73), none, .ext 2 (.t 65)⟩, ⟨(some 11), none, .mv (.t 71)⟩, ⟨(some 8), none, .mv (.t 72)⟩, ⟨(some 9), none, .mv (.t 73)⟩])
  (.seq (.seq (.region [⟨(some 74), none, .mv (.t 1)⟩, ⟨(some 75), none, .bin .add (.t 74) (.c (.int .i64 2))⟩, ⟨(some 76), none, .bin .leq (.t 75) (.c (.int .i64 8192))⟩])
  (.cond (.t 76)
    (.seq (.region [⟨(some 77), none, .mv (.t 8)⟩, ⟨(some 78), none, .mv (.t 77)⟩, ⟨(some 79), (some (78, true)), .mv (.t 9)⟩, ⟨(some 80), (some (78, true)), .bin .eql (.t 79) (.c (.int .i64 0))⟩, ⟨(some 81), none, .pick (.t 78) (.t 80) (.c (.bool false))⟩, ⟨(some 82), none, .mv (.t 81)⟩, ⟨(some 83), (some (82, true)), .mv (.t 11)⟩, ⟨(some 84), (some (82, true)), .mv (.t 1)⟩, ⟨(some 85), (some (82, true)), .bin .add (.t 84) (.c (.int .i64 2))⟩, ⟨(some 86), (some (82, true)), .bin .eql (.t 83) (.t 85)⟩, ⟨(some 87), none, .pick (.t 82) (.t 86) (.c (.bool false))⟩, ⟨(some 4), none, .mv (.t 87)⟩])
    .ret)
    .skip))
  (.seq (.region [⟨(some 88), none, .mv (.t 8)⟩, ⟨(some 89), none, .un .not (.t 88)⟩, ⟨(some 90), none, .mv (.t 89)⟩, ⟨(some 91), (some (90, true)), .mv (.t 9)⟩, ⟨(some 92), (some (90, true)), .bin .eql (.t 91) (.c (.int .i64 3))⟩, ⟨(some 93), none, .pick (.t 90) (.t 92) (.c (.bool false))⟩, ⟨(some 94), none, .mv (.t 93)⟩, ⟨(some 95), (some (94, true)), .mv (.t 11)⟩, ⟨(some 96), (some (94, true)), .bin .eql (.t 95) (.c (.int .i64 8193))⟩, ⟨(some 97), none, .pick (.t 94) (.t 96) (.c (.bool false))⟩, ⟨(some 4), none, .mv (.t 97)⟩])
  .ret)))))))))))))⟩
/-- gatepost/gatepostlaw05.HeadFields -/
def c_gatepostlaw05_HeadFields : FnC := ⟨138, [.tmp 4],
  (.seq (.region [⟨(some 4), none, .mv (.c (.bool false))⟩])
  (.seq (.region [⟨(some 5), none, .mv (.c (.str [10]))⟩])
  (.seq (.seq (.region [⟨(some 17), none, .mv (.t 1)⟩])
  (.cond (.t 17)
    (.region [⟨(some 5), none, .mv (.c (.str [13, 10]))⟩])
    .skip))
  (.seq (.region [⟨(some 18), none, .mv (.t 5)⟩, ⟨(some 19), none, .bin .add (.t 18) (.c (.str [80, 85, 84, 32, 47, 120, 32, 72, 84, 84, 80, 47, 49, 46, 48]))⟩, ⟨(some 20), none, .mv (.t 5)⟩, ⟨(some 21), none, .bin .add (.t 19) (.t 20)⟩, ⟨(some 6), none, .mv (.t 21)⟩])
  (.seq (.region [⟨(some 7), none, .mv (.c .nsl)⟩])
  (.seq (.seq (.region [⟨(some 8), none, .mv (.c (.int .i64 0))⟩])
  (.block 0 (.loop
    (.seq (.seq (.region [⟨(some 22), none, .mv (.t 8)⟩, ⟨(some 23), none, .mv (.t 0)⟩, ⟨(some 24), none, .len 1 (.t 23)⟩, ⟨(some 25), none, .bin .lss (.t 22) (.t 24)⟩, ⟨(some 26), none, .mv (.t 25)⟩, ⟨(some 27), (some (26, true)), .mv (.t 8)⟩, ⟨(some 28), (some (26, true)), .bin .lss (.t 27) (.c (.int .i64 20))⟩, ⟨(some 29), none, .pick (.t 26) (.t 28) (.c (.bool false))⟩])
    (.cond (.t 29)
      .skip
      (.exit 0)))
    (.seq (.block 1 (.seq (.region [⟨(some 32), none, .mv (.t 0)⟩, ⟨(some 33), none, .mv (.t 8)⟩, ⟨(some 34), none, .ixaSl 1 (.t 32) (.t 33)⟩, ⟨(some 35), none, .load false 1 (.t 34)⟩, ⟨(some 9), none, .mv (.t 35)⟩])
    (.seq (.seq (.region [⟨(some 36), none, .mv (.t 9)⟩, ⟨(some 37), none, .len 0 (.t 36)⟩, ⟨(some 38), none, .bin .gtr (.t 37) (.c (.int .i64 100))⟩, ⟨(some 39), none, .mv (.t 38)⟩, ⟨(some 40), (some (39, false)), .mv (.t 9)⟩, ⟨(some 41), (some (39, false)), .call i_gatepostref01_Value [(.t 40)]⟩, ⟨(some 42), (some (39, false)), .un .not (.t 41)⟩, ⟨(some 43), none, .pick (.t 39) (.c (.bool true)) (.t 42)⟩])
    (.cond (.t 43)
      (.exit 1)
      .skip))
    (.seq (.region [⟨(some 44), none, .mv (.t 7)⟩, ⟨(some 45), none, .mv (.t 9)⟩, ⟨(some 46), none, .bsl 1 [(.t 45)]⟩, ⟨(some 47), none, .app 1 16 false (.t 44) (.t 46)⟩, ⟨(some 7), none, .mv (.t 47)⟩])
    (.region [⟨(some 48), none, .mv (.t 6)⟩, ⟨(some 49), none, .bin .add (.t 48) (.c (.str [78]))⟩, ⟨(some 50), none, .mv (.t 8)⟩, ⟨(some 51), none, .bin .add (.c (.int .i64 97)) (.t 50)⟩, ⟨(some 52), none, .toInt .u8 (.t 51)⟩, ⟨(some 53), none, .bsl 1 [(.t 52)]⟩, ⟨(some 54), none, .toStr (.t 53)⟩, ⟨(some 55), none, .bin .add (.t 49) (.t 54)⟩, ⟨(some 56), none, .bin .add (.t 55) (.c (.str [58, 9]))⟩, ⟨(some 57), none, .mv (.t 9)⟩, ⟨(some 58), none, .bin .add (.t 56) (.t 57)⟩, ⟨(some 59), none, .bin .add (.t 58) (.c (.str [32]))⟩, ⟨(some 60), none, .mv (.t 5)⟩, ⟨(some 61), none, .bin .add (.t 59) (.t 60)⟩, ⟨(some 6), none, .mv (.t 61)⟩])))))
    (.region [⟨(some 30), none, .mv (.t 8)⟩, ⟨(some 31), none, .bin .add (.t 30) (.c (.int .i64 1))⟩, ⟨(some 8), none, .mv (.t 31)⟩]))))))
  (.seq (.region [⟨(some 62), none, .call i_head_New [(.c (.bool false))]⟩, ⟨(some 10), none, .mv (.t 62)⟩])
  (.seq (.region [⟨(some 64), none, .mv (.t 10)⟩, ⟨(some 65), none, .mv (.t 6)⟩, ⟨(some 66), none, .mv (.t 5)⟩, ⟨(some 67), none, .bin .add (.t 65) (.t 66)⟩, ⟨(some 68), none, .bin .add (.t 67) (.c (.str [120]))⟩, ⟨(some 69), none, .toBytes (.t 68)⟩, ⟨(some 70), none, .call i___gatepost_head_Reader__Feed [(.t 64), (.t 69)]⟩, ⟨(some 63), none, .mv (.t 70)⟩, ⟨(some 71), none, .ext 0 (.t 63)⟩, ⟨(some 72), none, .ext 1 (.t 63)⟩, ⟨(some 73), none, .ext 2 (.t 63)⟩, ⟨(some 11), none, .mv (.t 71)⟩, ⟨(some 12), none, .mv (.t 72)⟩, ⟨(some 13), none, .mv (.t 73)⟩])
  (.seq (.region [⟨(some 75), none, .mv (.t 10)⟩, ⟨(some 76), none, .call i___gatepost_head_Reader__Request [(.t 75)]⟩, ⟨(some 74), none, .mv (.t 76)⟩, ⟨(some 77), none, .ext 0 (.t 74)⟩, ⟨(some 78), none, .ext 1 (.t 74)⟩, ⟨(some 14), none, .boxz [(.str []), (.str []), (.int .i64 0), .nsl]⟩, ⟨none, none, .store 4 (.t 14) (.t 77)⟩, ⟨(some 15), none, .mv (.t 78)⟩])
  (.seq (.seq (.region [⟨(some 79), none, .mv (.t 11)⟩, ⟨(some 80), none, .mv (.t 6)⟩, ⟨(some 81), none, .len 0 (.t 80)⟩, ⟨(some 82), none, .mv (.t 5)⟩, ⟨(some 83), none, .len 0 (.t 82)⟩, ⟨(some 84), none, .bin .add (.t 81) (.t 83)⟩, ⟨(some 85), none, .bin .neq (.t 79) (.t 84)⟩, ⟨(some 86), none, .mv (.t 85)⟩, ⟨(some 87), (some (86, false)), .mv (.t 12)⟩, ⟨(some 88), (some (86, false)), .un .not (.t 87)⟩, ⟨(some 89), none, .pick (.t 86) (.c (.bool true)) (.t 88)⟩, ⟨(some 90), none, .mv (.t 89)⟩, ⟨(some 91), (some (90, false)), .mv (.t 13)⟩, ⟨(some 92), (some (90, false)), .bin .neq (.t 91) (.c (.int .i64 0))⟩, ⟨(some 93), none, .pick (.t 90) (.c (.bool true)) (.t 92)⟩, ⟨(some 94), none, .mv (.t 93)⟩, ⟨(some 95), (some (94, false)), .mv (.t 15)⟩, ⟨(some 96), (some (94, false)), .bin .neq (.t 95) (.c (.int .i64 0))⟩, ⟨(some 97), none, .pick (.t 94) (.c (.bool true)) (.t 96)⟩, ⟨(some 98), none, .mv (.t 97)⟩, ⟨(some 99), (some (98, false)), .faddr 0 (.t 14)⟩, ⟨(some 100), (some (98, false)), .load false 1 (.t 99)⟩, ⟨(some 101), (some (98, false)), .bin .neq (.t 100) (.c (.str [80, 85, 84]))⟩, ⟨(some 102), none, .pick (.t 98) (.c (.bool true)) (.t 101)⟩, ⟨(some 103), none, .mv (.t 102)⟩, ⟨(some 104), (some (103, false)), .faddr 1 (.t 14)⟩, ⟨(some 105), (some (103, false)), .load false 1 (.t 104)⟩, ⟨(some 106), (some (103, false)), .bin .neq (.t 105) (.c (.str [47, 120]))⟩, ⟨(some 107), none, .pick (.t 103) (.c (.bool true)) (.t 106)⟩, ⟨(some 108), none, .mv (.t 107)⟩, ⟨(some 109), (some (108, false)), .faddr 2 (.t 14)⟩, ⟨(some 110), (some (108, false)), .load false 1 (.t 109)⟩, ⟨(some 111), (some (108, false)), .bin .neq (.t 110) (.c (.int .i64 0))⟩, ⟨(some 112), none, .pick (.t 108) (.c (.bool true)) (.t 111)⟩, ⟨(some 113), none, .mv (.t 112)⟩, ⟨(some 114), (some (113, false)), .faddr 3 (.t 14)⟩, ⟨(some 115), (some (113, false)), .load false 1 (.t 114)⟩, ⟨(some 116), (some (113, false)), .len 1 (.t 115)⟩, ⟨(some 117), (some (113, false)), .mv (.t 7)⟩, ⟨(some 118), (some (113, false)), .len 1 (.t 117)⟩, ⟨(some 119), (some (113, false)), .bin .neq (.t 116) (.t 118)⟩, ⟨(some 120), none, .pick (.t 113) (.c (.bool true)) (.t 119)⟩])
  (.cond (.t 120)
    (.seq (.region [⟨(some 4), none, .mv (.c (.bool false))⟩])
    .ret)
    .skip))
  (.seq (.seq (.region [⟨(some 16), none, .mv (.c (.int .i64 0))⟩])
  (.block 2 (.loop
    (.seq (.seq (.region [⟨(some 121), none, .mv (.t 16)⟩, ⟨(some 122), none, .mv (.t 7)⟩, ⟨(some 123), none, .len 1 (.t 122)⟩, ⟨(some 124), none, .bin .lss (.t 121) (.t 123)⟩])
    (.cond (.t 124)
      .skip
      (.exit 2)))
    (.seq (.block 3 (.seq (.dregion [⟨(some 127), none, .faddr 3 (.t 14)⟩, ⟨(some 128), none, .load false 1 (.t 127)⟩, ⟨(some 129), none, .mv (.t 16)⟩, ⟨(some 130), none, .ixaSl 2 (.t 128) (.t 129)⟩, ⟨(some 131), none, .faddr 1 (.t 130)⟩, ⟨(some 132), none, .load false 1 (.t 131)⟩, ⟨(some 133), none, .mv (.t 7)⟩, ⟨(some 134), none, .mv (.t 16)⟩, ⟨(some 135), none, .ixaSl 1 (.t 133) (.t 134)⟩, ⟨(some 136), none, .load false 1 (.t 135)⟩] [⟨(some 137), none, .bin .neq (.t 132) (.t 136)⟩])
    (.cond (.t 137)
      (.seq (.region [⟨(some 4), none, .mv (.c (.bool false))⟩])
      .ret)
      .skip)))
    (.region [⟨(some 125), none, .mv (.t 16)⟩, ⟨(some 126), none, .bin .add (.t 125) (.c (.int .i64 1))⟩, ⟨(some 16), none, .mv (.t 126)⟩]))))))
  (.seq (.region [⟨(some 4), none, .mv (.c (.bool true))⟩])
  .ret))))))))))))⟩
/-- gatepost/gatepostlaw05.HeadReads -/
def c_gatepostlaw05_HeadReads : FnC := ⟨137, [.tmp 6],
  (.seq (.region [⟨(some 6), none, .mv (.c (.bool false))⟩])
  (.seq (.seq (.region [⟨(some 26), none, .mv (.t 0)⟩, ⟨(some 27), none, .len 1 (.t 26)⟩, ⟨(some 28), none, .bin .gtr (.t 27) (.c (.int .i64 9000))⟩])
  (.cond (.t 28)
    (.region [⟨(some 29), none, .mv (.t 0)⟩, ⟨(some 30), none, .slsl 1 (.t 29) none (some (.c (.int .i64 9000))) none⟩, ⟨(some 0), none, .mv (.t 30)⟩])
    .skip))
  (.seq (.region [⟨(some 31), none, .mv (.t 2)⟩, ⟨(some 32), none, .call i_head_New [(.t 31)]⟩, ⟨(some 33), none, .mv (.t 2)⟩, ⟨(some 34), none, .build [(.bool false), (.int .i64 0), (.str []), (.bool false), (.str []), (.str []), (.int .i64 0), .nsl, (.int .i64 0), (.int .i64 0), (.str []), .nsl, .nsl, (.bool false), (.int .i64 0)] [(0, 1, (.t 33))]⟩, ⟨(some 35), none, .box (.t 34)⟩, ⟨(some 7), none, .mv (.t 32)⟩, ⟨(some 8), none, .mv (.t 35)⟩])
  (.seq (.seq (.region [⟨(some 36), none, .mv (.t 7)⟩, ⟨(some 37), none, .eq (.nil 3) false (.t 36) (.c .nilp)⟩, ⟨(some 38), none, .mv (.t 37)⟩, ⟨(some 39), (some (38, false)), .call i_gatepostlaw05_names []⟩, ⟨(some 40), (some (38, false)), .un .not (.t 39)⟩, ⟨(some 41), none, .pick (.t 38) (.c (.bool true)) (.t 40)⟩])
  (.cond (.t 41)
    (.seq (.region [⟨(some 6), none, .mv (.c (.bool false))⟩])
    .ret)
    .skip))
  (.seq (.region [⟨(some 9), none, .mv (.c (.int .i64 0))⟩])
  (.seq (.seq (.region [⟨(some 10), none, .mv (.c (.int .i64 0))⟩])
  (.block 0 (.loop
    (.seq (.seq (.region [⟨(some 42), none, .mv (.t 10)⟩, ⟨(some 43), none, .mv (.t 1)⟩, ⟨(some 44), none, .len 1 (.t 43)⟩, ⟨(some 45), none, .bin .leq (.t 42) (.t 44)⟩, ⟨(some 46), none, .mv (.t 45)⟩, ⟨(some 47), (some (46, true)), .mv (.t 10)⟩, ⟨(some 48), (some (46, true)), .bin .lss (.t 47) (.c (.int .i64 40))⟩, ⟨(some 49), none, .pick (.t 46) (.t 48) (.c (.bool false))⟩])
    (.cond (.t 49)
      .skip
      (.exit 0)))
    (.seq (.block 1 (.seq (.region [⟨(some 52), none, .mv (.t 1)⟩, ⟨(some 53), none, .mv (.t 10)⟩, ⟨(some 54), none, .mv (.t 9)⟩, ⟨(some 55), none, .mv (.t 0)⟩, ⟨(some 56), none, .len 1 (.t 55)⟩, ⟨(some 57), none, .call i_gatepostlaw05_piece [(.t 52), (.t 53), (.t 54), (.t 56)]⟩, ⟨(some 11), none, .mv (.t 57)⟩])
    (.seq (.region [⟨(some 59), none, .mv (.t 7)⟩, ⟨(some 60), none, .mv (.t 0)⟩, ⟨(some 61), none, .mv (.t 9)⟩, ⟨(some 62), none, .mv (.t 11)⟩, ⟨(some 63), none, .slsl 1 (.t 60) (some (.t 61)) (some (.t 62)) none⟩, ⟨(some 64), none, .call i___gatepost_head_Reader__Feed [(.t 59), (.t 63)]⟩, ⟨(some 58), none, .mv (.t 64)⟩, ⟨(some 65), none, .ext 0 (.t 58)⟩, ⟨(some 66), none, .ext 1 (.t 58)⟩, ⟨(some 67), none, .ext 2 (.t 58)⟩, ⟨(some 12), none, .mv (.t 65)⟩, ⟨(some 13), none, .mv (.t 66)⟩, ⟨(some 14), none, .mv (.t 67)⟩])
    (.seq (.region [⟨(some 69), none, .mv (.t 8)⟩, ⟨(some 70), none, .mv (.t 0)⟩, ⟨(some 71), none, .mv (.t 9)⟩, ⟨(some 72), none, .mv (.t 11)⟩, ⟨(some 73), none, .slsl 1 (.t 70) (some (.t 71)) (some (.t 72)) none⟩, ⟨(some 74), none, .call i___gatepost_gatepostref05_Reader__Feed [(.t 69), (.t 73)]⟩, ⟨(some 68), none, .mv (.t 74)⟩, ⟨(some 75), none, .ext 0 (.t 68)⟩, ⟨(some 76), none, .ext 1 (.t 68)⟩, ⟨(some 77), none, .ext 2 (.t 68)⟩, ⟨(some 15), none, .mv (.t 75)⟩, ⟨(some 16), none, .mv (.t 76)⟩, ⟨(some 17), none, .mv (.t 77)⟩])
    (.seq (.seq (.region [⟨(some 78), none, .mv (.t 12)⟩, ⟨(some 79), none, .mv (.t 15)⟩, ⟨(some 80), none, .bin .neq (.t 78) (.t 79)⟩, ⟨(some 81), none, .mv (.t 80)⟩, ⟨(some 82), (some (81, false)), .mv (.t 13)⟩, ⟨(some 83), (some (81, false)), .mv (.t 16)⟩, ⟨(some 84), (some (81, false)), .eq .bool true (.t 82) (.t 83)⟩, ⟨(some 85), none, .pick (.t 81) (.c (.bool true)) (.t 84)⟩, ⟨(some 86), none, .mv (.t 85)⟩, ⟨(some 87), (some (86, false)), .mv (.t 14)⟩, ⟨(some 88), (some (86, false)), .mv (.t 17)⟩, ⟨(some 89), (some (86, false)), .bin .neq (.t 87) (.t 88)⟩, ⟨(some 90), none, .pick (.t 86) (.c (.bool true)) (.t 89)⟩])
    (.cond (.t 90)
      (.seq (.region [⟨(some 6), none, .mv (.c (.bool false))⟩])
      .ret)
      .skip))
    (.seq (.region [⟨(some 91), none, .mv (.t 9)⟩, ⟨(some 92), none, .mv (.t 12)⟩, ⟨(some 93), none, .bin .add (.t 91) (.t 92)⟩, ⟨(some 9), none, .mv (.t 93)⟩])
    (.seq (.region [⟨(some 94), none, .mv (.t 13)⟩, ⟨(some 95), none, .mv (.t 94)⟩, ⟨(some 96), (some (95, false)), .mv (.t 14)⟩, ⟨(some 97), (some (95, false)), .bin .neq (.t 96) (.c (.int .i64 0))⟩, ⟨(some 98), none, .pick (.t 95) (.c (.bool true)) (.t 97)⟩])
    (.cond (.t 98)
      (.exit 0)
      .skip))))))))
    (.region [⟨(some 50), none, .mv (.t 10)⟩, ⟨(some 51), none, .bin .add (.t 50) (.c (.int .i64 1))⟩, ⟨(some 10), none, .mv (.t 51)⟩]))))))
  (.seq (.region [⟨(some 100), none, .mv (.t 7)⟩, ⟨(some 101), none, .call i___gatepost_head_Reader__Request [(.t 100)]⟩, ⟨(some 99), none, .mv (.t 101)⟩, ⟨(some 102), none, .ext 0 (.t 99)⟩, ⟨(some 103), none, .ext 1 (.t 99)⟩, ⟨(some 18), none, .boxz [(.str []), (.str []), (.int .i64 0), .nsl]⟩, ⟨none, none, .store 4 (.t 18) (.t 102)⟩, ⟨(some 19), none, .mv (.t 103)⟩])
  (.seq (.region [⟨(some 105), none, .mv (.t 8)⟩, ⟨(some 106), none, .call i___gatepost_gatepostref05_Reader__Request [(.t 105)]⟩, ⟨(some 104), none, .mv (.t 106)⟩, ⟨(some 107), none, .ext 0 (.t 104)⟩, ⟨(some 108), none, .ext 1 (.t 104)⟩, ⟨(some 20), none, .boxz [(.str []), (.str []), (.int .i64 0), .nsl]⟩, ⟨none, none, .store 4 (.t 20) (.t 107)⟩, ⟨(some 21), none, .mv (.t 108)⟩])
  (.seq (.region [⟨(some 110), none, .mv (.t 7)⟩, ⟨(some 111), none, .call i___gatepost_head_Reader__Response [(.t 110)]⟩, ⟨(some 109), none, .mv (.t 111)⟩, ⟨(some 112), none, .ext 0 (.t 109)⟩, ⟨(some 113), none, .ext 1 (.t 109)⟩, ⟨(some 22), none, .boxz [(.int .i64 0), (.int .i64 0), (.str []), .nsl]⟩, ⟨none, none, .store 4 (.t 22) (.t 112)⟩, ⟨(some 23), none, .mv (.t 113)⟩])
  (.seq (.region [⟨(some 115), none, .mv (.t 8)⟩, ⟨(some 116), none, .call i___gatepost_gatepostref05_Reader__Response [(.t 115)]⟩, ⟨(some 114), none, .mv (.t 116)⟩, ⟨(some 117), none, .ext 0 (.t 114)⟩, ⟨(some 118), none, .ext 1 (.t 114)⟩, ⟨(some 24), none, .boxz [(.int .i64 0), (.int .i64 0), (.str []), .nsl]⟩, ⟨none, none, .store 4 (.t 24) (.t 117)⟩, ⟨(some 25), none, .mv (.t 118)⟩])
  (.seq (.region [⟨(some 119), none, .load true 4 (.t 18)⟩, ⟨(some 120), none, .load true 4 (.t 20)⟩, ⟨(some 121), none, .call i_gatepostref05_SameRequest [(.t 119), (.t 120)]⟩, ⟨(some 122), none, .mv (.t 121)⟩, ⟨(some 123), (some (122, true)), .mv (.t 19)⟩, ⟨(some 124), (some (122, true)), .mv (.t 21)⟩, ⟨(some 125), (some (122, true)), .bin .eql (.t 123) (.t 124)⟩, ⟨(some 126), none, .pick (.t 122) (.t 125) (.c (.bool false))⟩, ⟨(some 127), none, .mv (.t 126)⟩, ⟨(some 128), (some (127, true)), .load true 4 (.t 22)⟩, ⟨(some 129), (some (127, true)), .load true 4 (.t 24)⟩, ⟨(some 130), (some (127, true)), .call i_gatepostref05_SameResponse [(.t 128), (.t 129)]⟩, ⟨(some 131), none, .pick (.t 127) (.t 130) (.c (.bool false))⟩, ⟨(some 132), none, .mv (.t 131)⟩, ⟨(some 133), (some (132, true)), .mv (.t 23)⟩, ⟨(some 134), (some (132, true)), .mv (.t 25)⟩, ⟨(some 135), (some (132, true)), .bin .eql (.t 133) (.t 134)⟩, ⟨(some 136), none, .pick (.t 132) (.t 135) (.c (.bool false))⟩, ⟨(some 6), none, .mv (.t 136)⟩])
  .ret)))))))))))⟩
/-- gatepost/gatepostlaw05.HeadCuts -/
def c_gatepostlaw05_HeadCuts : FnC := ⟨162, [.tmp 6],
  (.seq (.region [⟨(some 6), none, .mv (.c (.bool false))⟩])
  (.seq (.seq (.region [⟨(some 29), none, .mv (.t 0)⟩, ⟨(some 30), none, .len 1 (.t 29)⟩, ⟨(some 31), none, .bin .gtr (.t 30) (.c (.int .i64 9000))⟩])
  (.cond (.t 31)
    (.region [⟨(some 32), none, .mv (.t 0)⟩, ⟨(some 33), none, .slsl 1 (.t 32) none (some (.c (.int .i64 9000))) none⟩, ⟨(some 0), none, .mv (.t 33)⟩])
    .skip))
  (.seq (.region [⟨(some 34), none, .mv (.t 2)⟩, ⟨(some 35), none, .call i_head_New [(.t 34)]⟩, ⟨(some 36), none, .mv (.t 2)⟩, ⟨(some 37), none, .call i_head_New [(.t 36)]⟩, ⟨(some 7), none, .mv (.t 35)⟩, ⟨(some 8), none, .mv (.t 37)⟩])
  (.seq (.seq (.region [⟨(some 38), none, .mv (.t 7)⟩, ⟨(some 39), none, .eq (.nil 3) false (.t 38) (.c .nilp)⟩, ⟨(some 40), none, .mv (.t 39)⟩, ⟨(some 41), (some (40, false)), .mv (.t 8)⟩, ⟨(some 42), (some (40, false)), .eq (.nil 3) false (.t 41) (.c .nilp)⟩, ⟨(some 43), none, .pick (.t 40) (.c (.bool true)) (.t 42)⟩])
  (.cond (.t 43)
    (.seq (.region [⟨(some 6), none, .mv (.c (.bool false))⟩])
    .ret)
    .skip))
  (.seq (.region [⟨(some 45), none, .mv (.t 7)⟩, ⟨(some 46), none, .mv (.t 0)⟩, ⟨(some 47), none, .call i___gatepost_head_Reader__Feed [(.t 45), (.t 46)]⟩, ⟨(some 44), none, .mv (.t 47)⟩, ⟨(some 48), none, .ext 0 (.t 44)⟩, ⟨(some 49), none, .ext 1 (.t 44)⟩, ⟨(some 50), none, .ext 2 (.t 44)⟩, ⟨(some 9), none, .mv (.t 48)⟩, ⟨(some 10), none, .mv (.t 49)⟩, ⟨(some 11), none, .mv (.t 50)⟩])
  (.seq (.region [⟨(some 12), none, .mv (.c (.int .i64 0))⟩])
  (.seq (.region [⟨(some 13), none, .mv (.c (.bool false))⟩])
  (.seq (.region [⟨(some 14), none, .mv (.c (.int .i64 0))⟩])
  (.seq (.seq (.region [⟨(some 15), none, .mv (.c (.int .i64 0))⟩])
  (.block 0 (.loop
    (.seq (.seq (.region [⟨(some 51), none, .mv (.t 12)⟩, ⟨(some 52), none, .mv (.t 0)⟩, ⟨(some 53), none, .len 1 (.t 52)⟩, ⟨(some 54), none, .bin .lss (.t 51) (.t 53)⟩, ⟨(some 55), none, .mv (.t 54)⟩, ⟨(some 56), (some (55, true)), .mv (.t 13)⟩, ⟨(some 57), (some (55, true)), .un .not (.t 56)⟩, ⟨(some 58), none, .pick (.t 55) (.t 57) (.c (.bool false))⟩, ⟨(some 59), none, .mv (.t 58)⟩, ⟨(some 60), (some (59, true)), .mv (.t 14)⟩, ⟨(some 61), (some (59, true)), .bin .eql (.t 60) (.c (.int .i64 0))⟩, ⟨(some 62), none, .pick (.t 59) (.t 61) (.c (.bool false))⟩])
    (.cond (.t 62)
      .skip
      (.exit 0)))
    (.seq (.block 1 (.seq (.region [⟨(some 65), none, .mv (.t 1)⟩, ⟨(some 66), none, .mv (.t 15)⟩, ⟨(some 67), none, .mv (.t 12)⟩, ⟨(some 68), none, .mv (.t 0)⟩, ⟨(some 69), none, .len 1 (.t 68)⟩, ⟨(some 70), none, .call i_gatepostlaw05_piece [(.t 65), (.t 66), (.t 67), (.t 69)]⟩, ⟨(some 16), none, .mv (.t 70)⟩])
    (.seq (.region [⟨(some 17), none, .mv (.c (.int .i64 0))⟩])
    (.seq (.region [⟨(some 72), none, .mv (.t 8)⟩, ⟨(some 73), none, .mv (.t 0)⟩, ⟨(some 74), none, .mv (.t 12)⟩, ⟨(some 75), none, .mv (.t 16)⟩, ⟨(some 76), none, .slsl 1 (.t 73) (some (.t 74)) (some (.t 75)) none⟩, ⟨(some 77), none, .call i___gatepost_head_Reader__Feed [(.t 72), (.t 76)]⟩, ⟨(some 71), none, .mv (.t 77)⟩, ⟨(some 78), none, .ext 0 (.t 71)⟩, ⟨(some 79), none, .ext 1 (.t 71)⟩, ⟨(some 80), none, .ext 2 (.t 71)⟩, ⟨(some 17), none, .mv (.t 78)⟩, ⟨(some 13), none, .mv (.t 79)⟩, ⟨(some 14), none, .mv (.t 80)⟩])
    (.seq (.seq (.region [⟨(some 81), none, .mv (.t 13)⟩, ⟨(some 82), none, .un .not (.t 81)⟩, ⟨(some 83), none, .mv (.t 82)⟩, ⟨(some 84), (some (83, true)), .mv (.t 14)⟩, ⟨(some 85), (some (83, true)), .bin .eql (.t 84) (.c (.int .i64 0))⟩, ⟨(some 86), none, .pick (.t 83) (.t 85) (.c (.bool false))⟩, ⟨(some 87), none, .mv (.t 86)⟩, ⟨(some 88), (some (87, true)), .mv (.t 17)⟩, ⟨(some 89), (some (87, true)), .mv (.t 16)⟩, ⟨(some 90), (some (87, true)), .mv (.t 12)⟩, ⟨(some 91), (some (87, true)), .bin .sub (.t 89) (.t 90)⟩, ⟨(some 92), (some (87, true)), .bin .neq (.t 88) (.t 91)⟩, ⟨(some 93), none, .pick (.t 87) (.t 92) (.c (.bool false))⟩])
    (.cond (.t 93)
      (.seq (.region [⟨(some 6), none, .mv (.c (.bool false))⟩])
      .ret)
      .skip))
    (.region [⟨(some 94), none, .mv (.t 12)⟩, ⟨(some 95), none, .mv (.t 17)⟩, ⟨(some 96), none, .bin .add (.t 94) (.t 95)⟩, ⟨(some 12), none, .mv (.t 96)⟩]))))))
    (.region [⟨(some 63), none, .mv (.t 15)⟩, ⟨(some 64), none, .bin .add (.t 63) (.c (.int .i64 1))⟩, ⟨(some 15), none, .mv (.t 64)⟩]))))))
  (.seq (.region [⟨(some 98), none, .mv (.t 7)⟩, ⟨(some 99), none, .call i___gatepost_head_Reader__Request [(.t 98)]⟩, ⟨(some 97), none, .mv (.t 99)⟩, ⟨(some 100), none, .ext 0 (.t 97)⟩, ⟨(some 101), none, .ext 1 (.t 97)⟩, ⟨(some 18), none, .boxz [(.str []), (.str []), (.int .i64 0), .nsl]⟩, ⟨none, none, .store 4 (.t 18) (.t 100)⟩, ⟨(some 19), none, .mv (.t 101)⟩])
  (.seq (.region [⟨(some 103), none, .mv (.t 8)⟩, ⟨(some 104), none, .call i___gatepost_head_Reader__Request [(.t 103)]⟩, ⟨(some 102), none, .mv (.t 104)⟩, ⟨(some 105), none, .ext 0 (.t 102)⟩, ⟨(some 106), none, .ext 1 (.t 102)⟩, ⟨(some 20), none, .boxz [(.str []), (.str []), (.int .i64 0), .nsl]⟩, ⟨none, none, .store 4 (.t 20) (.t 105)⟩, ⟨(some 21), none, .mv (.t 106)⟩])
  (.seq (.region [⟨(some 108), none, .mv (.t 7)⟩, ⟨(some 109), none, .call i___gatepost_head_Reader__Response [(.t 108)]⟩, ⟨(some 107), none, .mv (.t 109)⟩, ⟨(some 110), none, .ext 0 (.t 107)⟩, ⟨(some 111), none, .ext 1 (.t 107)⟩, ⟨(some 22), none, .boxz [(.int .i64 0), (.int .i64 0), (.str []), .nsl]⟩, ⟨none, none, .store 4 (.t 22) (.t 110)⟩, ⟨(some 23), none, .mv (.t 111)⟩])
  (.seq (.region [⟨(some 113), none, .mv (.t 8)⟩, ⟨(some 114), none, .call i___gatepost_head_Reader__Response [(.t 113)]⟩, ⟨(some 112), none, .mv (.t 114)⟩, ⟨(some 115), none, .ext 0 (.t 112)⟩, ⟨(some 116), none, .ext 1 (.t 112)⟩, ⟨(some 24), none, .boxz [(.int .i64 0), (.int .i64 0), (.str []), .nsl]⟩, ⟨none, none, .store 4 (.t 24) (.t 115)⟩, ⟨(some 25), none, .mv (.t 116)⟩])
  (.seq (.region [⟨(some 118), none, .call i_head_New [(.c (.bool false))]⟩, ⟨(some 119), none, .bslb [(.c (.int .u8 71)), (.c (.int .u8 69)), (.c (.int .u8 84)), (.c (.int .u8 32)), (.c (.int .u8 47)), (.c (.int .u8 32)), (.c (.int .u8 72)), (.c (.int .u8 84)), (.c (.int .u8 84)), (.c (.int .u8 80)), (.c (.int .u8 47)), (.c (.int .u8 49)), (.c (.int .u8 46)), (.c (.int .u8 49)), (.c (.int .u8 13)), (.c (.int .u8 10)), (.c (.int .u8 13)), (.c (.int .u8 10)), (.c (.int .u8 120))]⟩, ⟨(some 120), none, .mark (.t 119)⟩, ⟨(some 121), none, .call i___gatepost_head_Reader__Feed [(.t 118), (.t 120)]⟩, ⟨(some 117), none, .mv (.t 121)⟩, ⟨(some 122), none, .ext 0 (.t 117)⟩, ⟨(some 123), none, .ext 1 (.t 117)⟩, ⟨(some 124), none, .ext 2 (.t 117)⟩, ⟨(some 26), none, .mv (.t 122)⟩, ⟨(some 27), none, .mv (.t 123)⟩, ⟨(some 28), none, .mv (.t 124)⟩])
  (.seq (.region [⟨(some 125), none, .mv (.t 26)⟩, ⟨(some 126), none, .bin .eql (.t 125) (.c (.int .i64 18))⟩, ⟨(some 127), none, .mv (.t 126)⟩, ⟨(some 128), (some (127, true)), .mv (.t 9)⟩, ⟨(some 129), (some (127, true)), .mv (.t 12)⟩, ⟨(some 130), (some (127, true)), .bin .eql (.t 128) (.t 129)⟩, ⟨(some 131), none, .pick (.t 127) (.t 130) (.c (.bool false))⟩, ⟨(some 132), none, .mv (.t 131)⟩, ⟨(some 133), (some (132, true)), .mv (.t 10)⟩, ⟨(some 134), (some (132, true)), .mv (.t 13)⟩, ⟨(some 135), (some (132, true)), .eq .bool false (.t 133) (.t 134)⟩, ⟨(some 136), none, .pick (.t 132) (.t 135) (.c (.bool false))⟩, ⟨(some 137), none, .mv (.t 136)⟩, ⟨(some 138), (some (137, true)), .mv (.t 11)⟩, ⟨(some 139), (some (137, true)), .mv (.t 14)⟩, ⟨(some 140), (some (137, true)), .bin .eql (.t 138) (.t 139)⟩, ⟨(some 141), none, .pick (.t 137) (.t 140) (.c (.bool false))⟩, ⟨(some 142), none, .mv (.t 141)⟩, ⟨(some 143), (some (142, true)), .load true 4 (.t 18)⟩, ⟨(some 144), (some (142, true)), .load true 4 (.t 20)⟩, ⟨(some 145), (some (142, true)), .call i_gatepostref05_SameRequest [(.t 143), (.t 144)]⟩, ⟨(some 146), none, .pick (.t 142) (.t 145) (.c (.bool false))⟩, ⟨(some 147), none, .mv (.t 146)⟩, ⟨(some 148), (some (147, true)), .mv (.t 19)⟩, ⟨(some 149), (some (147, true)), .mv (.t 21)⟩, ⟨(some 150), (some (147, true)), .bin .eql (.t 148) (.t 149)⟩, ⟨(some 151), none, .pick (.t 147) (.t 150) (.c (.bool false))⟩, ⟨(some 152), none, .mv (.t 151)⟩, ⟨(some 153), (some (152, true)), .load true 4 (.t 22)⟩, ⟨(some 154), (some (152, true)), .load true 4 (.t 24)⟩, ⟨(some 155), (some (152, true)), .call i_gatepostref05_SameResponse [(.t 153), (.t 154)]⟩, ⟨(some 156), none, .pick (.t 152) (.t 155) (.c (.bool false))⟩, ⟨(some 157), none, .mv (.t 156)⟩, ⟨(some 158), (some (157, true)), .mv (.t 23)⟩, ⟨(some 159), (some (157, true)), .mv (.t 25)⟩, ⟨(some 160), (some (157, true)), .bin .eql (.t 158) (.t 159)⟩, ⟨(some 161), none, .pick (.t 157) (.t 160) (.c (.bool false))⟩, ⟨(some 6), none, .mv (.t 161)⟩])
  .ret)))))))))))))))⟩
/-- (*gatepost/head.Reader).Feed -/
def c___gatepost_head_Reader__Feed : FnC := ⟨47, [.tmp 4, .tmp 5, .tmp 6],
  (.seq (.region [⟨(some 4), none, .mv (.c (.int .i64 0))⟩, ⟨(some 5), none, .mv (.c (.bool false))⟩, ⟨(some 6), none, .mv (.c (.int .i64 0))⟩])
  (.seq (.seq (.region [⟨(some 7), none, .mv (.t 0)⟩, ⟨(some 8), none, .call i___gatepost_head_Reader__none [(.t 7)]⟩])
  (.cond (.t 8)
    (.seq (.region [⟨(some 4), none, .mv (.c (.int .i64 0))⟩, ⟨(some 5), none, .mv (.c (.bool false))⟩, ⟨(some 6), none, .mv (.c (.int .i64 1))⟩])
    .ret)
    .skip))
  (.seq (.block 0 (.loop
    (.seq (.seq (.region [⟨(some 9), none, .mv (.t 4)⟩, ⟨(some 10), none, .mv (.t 1)⟩, ⟨(some 11), none, .len 1 (.t 10)⟩, ⟨(some 12), none, .bin .lss (.t 9) (.t 11)⟩, ⟨(some 13), none, .mv (.t 12)⟩, ⟨(some 14), (some (13, true)), .mv (.t 0)⟩, ⟨(some 15), (some (13, true)), .nilck (.t 14)⟩, ⟨(some 16), (some (13, true)), .faddr 4 (.t 15)⟩, ⟨(some 17), (some (13, true)), .load false 1 (.t 16)⟩, ⟨(some 18), (some (13, true)), .bin .eql (.t 17) (.c (.int .i64 0))⟩, ⟨(some 19), none, .pick (.t 13) (.t 18) (.c (.bool false))⟩, ⟨(some 20), none, .mv (.t 19)⟩, ⟨(some 21), (some (20, true)), .mv (.t 0)⟩, ⟨(some 22), (some (20, true)), .nilck (.t 21)⟩, ⟨(some 23), (some (20, true)), .faddr 3 (.t 22)⟩, ⟨(some 24), (some (20, true)), .load false 1 (.t 23)⟩, ⟨(some 25), (some (20, true)), .un .not (.t 24)⟩, ⟨(some 26), none, .pick (.t 20) (.t 25) (.c (.bool false))⟩])
    (.cond (.t 26)
      .skip
      (.exit 0)))
    (.block 1 (.seq (.region [⟨(some 27), none, .mv (.t 0)⟩, ⟨(some 28), none, .mv (.t 0)⟩, ⟨(some 29), none, .mv (.t 1)⟩, ⟨(some 30), none, .mv (.t 4)⟩, ⟨(some 31), none, .ixaSl 1 (.t 29) (.t 30)⟩, ⟨(some 32), none, .load false 1 (.t 31)⟩, ⟨(some 33), none, .call i___gatepost_head_Reader__take [(.t 28), (.t 32)]⟩, ⟨(some 34), none, .nilck (.t 27)⟩, ⟨(some 35), none, .faddr 4 (.t 34)⟩, ⟨none, none, .store 1 (.t 35) (.t 33)⟩])
    (.region [⟨(some 36), none, .mv (.t 4)⟩, ⟨(some 37), none, .bin .add (.t 36) (.c (.int .i64 1))⟩, ⟨(some 4), none, .mv (.t 37)⟩]))))))
  (.seq (.dregion [⟨(some 38), none, .mv (.t 4)⟩, ⟨(some 39), none, .mv (.t 0)⟩, ⟨(some 40), none, .nilck (.t 39)⟩, ⟨(some 41), none, .faddr 3 (.t 40)⟩, ⟨(some 42), none, .load false 1 (.t 41)⟩, ⟨(some 43), none, .mv (.t 0)⟩, ⟨(some 44), none, .nilck (.t 43)⟩, ⟨(some 45), none, .faddr 4 (.t 44)⟩, ⟨(some 46), none, .load false 1 (.t 45)⟩, ⟨(some 4), none, .mv (.t 38)⟩, ⟨(some 5), none, .mv (.t 42)⟩] [⟨(some 6), none, .mv (.t 46)⟩])
  .ret))))⟩
/-- (*gatepost/head.Reader).Request -/
def c___gatepost_head_Reader__Request : FnC := ⟨23, [.cell 2 true 4, .tmp 3],
  (.seq (.region [⟨(some 2), none, .boxz [(.str []), (.str []), (.int .i64 0), .nsl]⟩, ⟨(some 3), none, .mv (.c (.int .i64 0))⟩])
  (.seq (.region [⟨(some 8), none, .mv (.t 0)⟩, ⟨(some 9), none, .call i___gatepost_head_Reader__whole [(.t 8), (.c (.bool false))]⟩, ⟨(some 7), none, .mv (.t 9)⟩, ⟨(some 10), none, .ext 0 (.t 7)⟩, ⟨(some 11), none, .ext 1 (.t 7)⟩, ⟨(some 4), none, .mv (.t 10)⟩, ⟨(some 5), none, .mv (.t 11)⟩])
  (.seq (.seq (.region [⟨(some 12), none, .mv (.t 5)⟩, ⟨(some 13), none, .bin .neq (.t 12) (.c (.int .i64 0))⟩])
  (.cond (.t 13)
    (.seq (.region [⟨(some 14), none, .build [(.str []), (.str []), (.int .i64 0), .nsl] []⟩, ⟨(some 15), none, .mv (.t 5)⟩, ⟨none, none, .store 4 (.t 2) (.t 14)⟩, ⟨(some 3), none, .mv (.t 15)⟩])
    .ret)
    .skip))
  (.seq (.region [⟨(some 16), none, .mv (.t 0)⟩, ⟨(some 17), none, .nilck (.t 16)⟩, ⟨(some 18), none, .faddr 7 (.t 17)⟩, ⟨(some 19), none, .load true 4 (.t 18)⟩, ⟨(some 6), none, .boxz [(.str []), (.str []), (.int .i64 0), .nsl]⟩, ⟨none, none, .store 4 (.t 6) (.t 19)⟩])
  (.seq (.region [⟨(some 20), none, .mv (.t 4)⟩, ⟨(some 21), none, .faddr 3 (.t 6)⟩, ⟨none, none, .store 1 (.t 21) (.t 20)⟩])
  (.seq (.region [⟨(some 22), none, .load true 4 (.t 6)⟩, ⟨none, none, .store 4 (.t 2) (.t 22)⟩, ⟨(some 3), none, .mv (.c (.int .i64 0))⟩])
  .ret))))))⟩
/-- (*gatepost/head.Reader).Response -/
def c___gatepost_head_Reader__Response : FnC := ⟨23, [.cell 2 true 4, .tmp 3],
  (.seq (.region [⟨(some 2), none, .boxz [(.int .i64 0), (.int .i64 0), (.str []), .nsl]⟩, ⟨(some 3), none, .mv (.c (.int .i64 0))⟩])
  (.seq (.region [⟨(some 8), none, .mv (.t 0)⟩, ⟨(some 9), none, .call i___gatepost_head_Reader__whole [(.t 8), (.c (.bool true))]⟩, ⟨(some 7), none, .mv (.t 9)⟩, ⟨(some 10), none, .ext 0 (.t 7)⟩, ⟨(some 11), none, .ext 1 (.t 7)⟩, ⟨(some 4), none, .mv (.t 10)⟩, ⟨(some 5), none, .mv (.t 11)⟩])
  (.seq (.seq (.region [⟨(some 12), none, .mv (.t 5)⟩, ⟨(some 13), none, .bin .neq (.t 12) (.c (.int .i64 0))⟩])
  (.cond (.t 13)
    (.seq (.region [⟨(some 14), none, .build [(.int .i64 0), (.int .i64 0), (.str []), .nsl] []⟩, ⟨(some 15), none, .mv (.t 5)⟩, ⟨none, none, .store 4 (.t 2) (.t 14)⟩, ⟨(some 3), none, .mv (.t 15)⟩])
    .ret)
    .skip))
  (.seq (.region [⟨(some 16), none, .mv (.t 0)⟩, ⟨(some 17), none, .nilck (.t 16)⟩, ⟨(some 18), none, .faddr 11 (.t 17)⟩, ⟨(some 19), none, .load true 4 (.t 18)⟩, ⟨(some 6), none, .boxz [(.int .i64 0), (.int .i64 0), (.str []), .nsl]⟩, ⟨none, none, .store 4 (.t 6) (.t 19)⟩])
  (.seq (.region [⟨(some 20), none, .mv (.t 4)⟩, ⟨(some 21), none, .faddr 3 (.t 6)⟩, ⟨none, none, .store 1 (.t 21) (.t 20)⟩])
  (.seq (.region [⟨(some 22), none, .load true 4 (.t 6)⟩, ⟨none, none, .store 4 (.t 2) (.t 22)⟩, ⟨(some 3), none, .mv (.c (.int .i64 0))⟩])
  .ret))))))⟩
/-- gatepost/head.New -/
def c_head_New : FnC := ⟨17, [.tmp 2],
  (.seq (.region [⟨(some 2), none, .mv (.c .nilp)⟩])
  (.seq (.region [⟨(some 4), none, .mv (.t 0)⟩, ⟨(some 5), none, .build [.nfn, (.bool false), (.bool false), (.bool false), (.int .i64 0), (.int .i64 0), .nsl, (.str []), (.str []), (.int .i64 0), .nsl, (.int .i64 0), (.int .i64 0), (.str []), .nsl, .nsl] [(1, 1, (.t 4))]⟩, ⟨(some 6), none, .box (.t 5)⟩, ⟨(some 3), none, .boxz [.nilp]⟩, ⟨none, none, .store 1 (.t 3) (.t 6)⟩])
  (.seq (.region [⟨(some 7), none, .load false 1 (.t 3)⟩, ⟨(some 8), none, .mkfn i_head_New_1 [(.t 3)]⟩, ⟨(some 9), none, .nilck (.t 7)⟩, ⟨(some 10), none, .faddr 0 (.t 9)⟩, ⟨none, none, .store 1 (.t 10) (.t 8)⟩])
  (.seq (.seq (.region [⟨(some 11), none, .mv (.t 0)⟩])
  (.cond (.t 11)
    (.region [⟨(some 12), none, .load false 1 (.t 3)⟩, ⟨(some 13), none, .mkfn i_head_New_2 [(.t 3)]⟩, ⟨(some 14), none, .nilck (.t 12)⟩, ⟨(some 15), none, .faddr 0 (.t 14)⟩, ⟨none, none, .store 1 (.t 15) (.t 13)⟩])
    .skip))
  (.seq (.region [⟨(some 16), none, .load false 1 (.t 3)⟩, ⟨(some 2), none, .mv (.t 16)⟩])
  .ret)))))⟩
/-- gatepost/gatepostref01.Value -/
def c_gatepostref01_Value : FnC := ⟨42, [.tmp 2],
  (.seq (.region [⟨(some 2), none, .mv (.c (.bool false))⟩])
  (.seq (.seq (.region [⟨(some 3), none, .mv (.c (.int .i64 0))⟩])
  (.block 0 (.loop
    (.seq (.seq (.region [⟨(some 5), none, .mv (.t 3)⟩, ⟨(some 6), none, .mv (.t 0)⟩, ⟨(some 7), none, .len 0 (.t 6)⟩, ⟨(some 8), none, .bin .lss (.t 5) (.t 7)⟩])
    (.cond (.t 8)
      .skip
      (.exit 0)))
    (.seq (.block 1 (.seq (.region [⟨(some 11), none, .mv (.t 0)⟩, ⟨(some 12), none, .mv (.t 3)⟩, ⟨(some 13), none, .ixStr (.t 11) (.t 12)⟩, ⟨(some 4), none, .mv (.t 13)⟩])
    (.seq (.region [⟨(some 14), none, .mv (.t 4)⟩, ⟨(some 15), none, .call i_gatepostref01_blank [(.t 14)]⟩, ⟨(some 16), none, .un .not (.t 15)⟩, ⟨(some 17), none, .mv (.t 16)⟩, ⟨(some 18), (some (17, true)), .mv (.t 4)⟩, ⟨(some 19), (some (17, true)), .bin .lss (.t 18) (.c (.int .u8 33))⟩, ⟨(some 20), (some (17, true)), .mv (.t 19)⟩, ⟨(some 21), (some (20, false)), .mv (.t 4)⟩, ⟨(some 22), (some (20, false)), .bin .eql (.t 21) (.c (.int .u8 127))⟩, ⟨(some 23), (some (17, true)), .pick (.t 20) (.c (.bool true)) (.t 22)⟩, ⟨(some 24), none, .pick (.t 17) (.t 23) (.c (.bool false))⟩])
    (.cond (.t 24)
      (.seq (.region [⟨(some 2), none, .mv (.c (.bool false))⟩])
      .ret)
      .skip))))
    (.region [⟨(some 9), none, .mv (.t 3)⟩, ⟨(some 10), none, .bin .add (.t 9) (.c (.int .i64 1))⟩, ⟨(some 3), none, .mv (.t 10)⟩]))))))
  (.seq (.region [⟨(some 25), none, .mv (.t 0)⟩, ⟨(some 26), none, .bin .eql (.t 25) (.c (.str []))⟩, ⟨(some 27), none, .mv (.t 26)⟩, ⟨(some 28), (some (27, false)), .mv (.t 0)⟩, ⟨(some 29), (some (27, false)), .ixStr (.t 28) (.c (.int .i64 0))⟩, ⟨(some 30), (some (27, false)), .call i_gatepostref01_blank [(.t 29)]⟩, ⟨(some 31), (some (27, false)), .un .not (.t 30)⟩, ⟨(some 32), (some (27, false)), .mv (.t 31)⟩, ⟨(some 33), (some (32, true)), .mv (.t 0)⟩, ⟨(some 34), (some (32, true)), .mv (.t 0)⟩, ⟨(some 35), (some (32, true)), .len 0 (.t 34)⟩, ⟨(some 36), (some (32, true)), .bin .sub (.t 35) (.c (.int .i64 1))⟩, ⟨(some 37), (some (32, true)), .ixStr (.t 33) (.t 36)⟩, ⟨(some 38), (some (32, true)), .call i_gatepostref01_blank [(.t 37)]⟩, ⟨(some 39), (some (32, true)), .un .not (.t 38)⟩, ⟨(some 40), (some (27, false)), .pick (.t 32) (.t 39) (.c (.bool false))⟩, ⟨(some 41), none, .pick (.t 27) (.c (.bool true)) (.t 40)⟩, ⟨(some 2), none, .mv (.t 41)⟩])
  .ret)))⟩
/-- gatepost/gatepostlaw05.names -/
def c_gatepostlaw05_names : FnC := ⟨1, [.tmp 0],
  (.seq (.region [⟨(some 0), none, .mv (.c (.bool false))⟩])
  (.seq (.region [⟨(some 0), none, .mv (.c (.bool true))⟩])
  .ret))⟩
/-- gatepost/gatepostlaw05.piece -/
def c_gatepostlaw05_piece : FnC := ⟨34, [.tmp 8],
  (.seq (.region [⟨(some 8), none, .mv (.c (.int .i64 0))⟩])
  (.seq (.region [⟨(some 10), none, .mv (.t 3)⟩, ⟨(some 11), none, .mv (.t 2)⟩, ⟨(some 12), none, .bin .sub (.t 10) (.t 11)⟩, ⟨(some 9), none, .mv (.t 12)⟩])
  (.seq (.seq (.region [⟨(some 13), none, .mv (.t 1)⟩, ⟨(some 14), none, .mv (.t 0)⟩, ⟨(some 15), none, .len 1 (.t 14)⟩, ⟨(some 16), none, .bin .lss (.t 13) (.t 15)⟩, ⟨(some 17), none, .mv (.t 16)⟩, ⟨(some 18), (some (17, true)), .mv (.t 0)⟩, ⟨(some 19), (some (17, true)), .mv (.t 1)⟩, ⟨(some 20), (some (17, true)), .ixaSl 1 (.t 18) (.t 19)⟩, ⟨(some 21), (some (17, true)), .load false 1 (.t 20)⟩, ⟨(some 22), (some (17, true)), .bin .and (.t 21) (.c (.int .i64 1023))⟩, ⟨(some 23), (some (17, true)), .mv (.t 9)⟩, ⟨(some 24), (some (17, true)), .bin .lss (.t 22) (.t 23)⟩, ⟨(some 25), none, .pick (.t 17) (.t 24) (.c (.bool false))⟩])
  (.cond (.t 25)
    (.region [⟨(some 26), none, .mv (.t 0)⟩, ⟨(some 27), none, .mv (.t 1)⟩, ⟨(some 28), none, .ixaSl 1 (.t 26) (.t 27)⟩, ⟨(some 29), none, .load false 1 (.t 28)⟩, ⟨(some 30), none, .bin .and (.t 29) (.c (.int .i64 1023))⟩, ⟨(some 9), none, .mv (.t 30)⟩])
    .skip))
  (.seq (.region [⟨(some 31), none, .mv (.t 2)⟩, ⟨(some 32), none, .mv (.t 9)⟩, ⟨(some 33), none, .bin .add (.t 31) (.t 32)⟩, ⟨(some 8), none, .mv (.t 33)⟩])
  .ret))))⟩
/-- (*gatepost/gatepostref05.Reader).Feed -/
def c___gatepost_gatepostref05_Reader__Feed : FnC := ⟨119, [.tmp 4, .tmp 5, .tmp 6],
  (.seq (.region [⟨(some 4), none, .mv (.c (.int .i64 0))⟩, ⟨(some 5), none, .mv (.c (.bool false))⟩, ⟨(some 6), none, .mv (.c (.int .i64 0))⟩])
  (.seq (.region [⟨(some 7), none, .mv (.c (.int .i64 0))⟩])
  (.seq (.block 0 (.loop
    (.seq (.seq (.region [⟨(some 10), none, .mv (.t 7)⟩, ⟨(some 11), none, .mv (.t 1)⟩, ⟨(some 12), none, .len 1 (.t 11)⟩, ⟨(some 13), none, .bin .lss (.t 10) (.t 12)⟩, ⟨(some 14), none, .mv (.t 13)⟩, ⟨(some 15), (some (14, true)), .mv (.t 0)⟩, ⟨(some 16), (some (14, true)), .nilck (.t 15)⟩, ⟨(some 17), (some (14, true)), .faddr 14 (.t 16)⟩, ⟨(some 18), (some (14, true)), .load false 1 (.t 17)⟩, ⟨(some 19), (some (14, true)), .bin .eql (.t 18) (.c (.int .i64 0))⟩, ⟨(some 20), none, .pick (.t 14) (.t 19) (.c (.bool false))⟩, ⟨(some 21), none, .mv (.t 20)⟩, ⟨(some 22), (some (21, true)), .mv (.t 0)⟩, ⟨(some 23), (some (21, true)), .nilck (.t 22)⟩, ⟨(some 24), (some (21, true)), .faddr 13 (.t 23)⟩, ⟨(some 25), (some (21, true)), .load false 1 (.t 24)⟩, ⟨(some 26), (some (21, true)), .un .not (.t 25)⟩, ⟨(some 27), none, .pick (.t 21) (.t 26) (.c (.bool false))⟩])
    (.cond (.t 27)
      .skip
      (.exit 0)))
    (.block 1 (.seq (.region [⟨(some 28), none, .mv (.t 1)⟩, ⟨(some 29), none, .mv (.t 7)⟩, ⟨(some 30), none, .ixaSl 1 (.t 28) (.t 29)⟩, ⟨(some 31), none, .load false 1 (.t 30)⟩, ⟨(some 8), none, .mv (.t 31)⟩])
    (.seq (.region [⟨(some 32), none, .mv (.t 7)⟩, ⟨(some 33), none, .bin .add (.t 32) (.c (.int .i64 1))⟩, ⟨(some 7), none, .mv (.t 33)⟩])
    (.seq (.region [⟨(some 34), none, .mv (.t 0)⟩, ⟨(some 35), none, .nilck (.t 34)⟩, ⟨(some 36), none, .faddr 1 (.t 35)⟩, ⟨(some 37), none, .load false 1 (.t 36)⟩, ⟨(some 38), none, .bin .add (.t 37) (.c (.int .i64 1))⟩, ⟨(some 39), none, .nilck (.t 34)⟩, ⟨(some 40), none, .faddr 1 (.t 39)⟩, ⟨none, none, .store 1 (.t 40) (.t 38)⟩])
    (.seq (.dregion [⟨(some 41), none, .mv (.t 0)⟩, ⟨(some 42), none, .mv (.t 0)⟩, ⟨(some 43), none, .nilck (.t 42)⟩, ⟨(some 44), none, .faddr 2 (.t 43)⟩, ⟨(some 45), none, .load false 1 (.t 44)⟩, ⟨(some 46), none, .mv (.t 8)⟩, ⟨(some 47), none, .bsl 1 [(.t 46)]⟩, ⟨(some 48), none, .toStr (.t 47)⟩, ⟨(some 49), none, .bin .add (.t 45) (.t 48)⟩] [⟨(some 50), none, .nilck (.t 41)⟩, ⟨(some 51), none, .faddr 2 (.t 50)⟩, ⟨none, none, .store 1 (.t 51) (.t 49)⟩])
    (.seq (.seq (.region [⟨(some 52), none, .mv (.t 0)⟩, ⟨(some 53), none, .nilck (.t 52)⟩, ⟨(some 54), none, .faddr 1 (.t 53)⟩, ⟨(some 55), none, .load false 1 (.t 54)⟩, ⟨(some 56), none, .bin .gtr (.t 55) (.c (.int .i64 8192))⟩, ⟨(some 57), none, .mv (.t 56)⟩, ⟨(some 58), (some (57, false)), .mv (.t 0)⟩, ⟨(some 59), (some (57, false)), .nilck (.t 58)⟩, ⟨(some 60), (some (57, false)), .faddr 3 (.t 59)⟩, ⟨(some 61), (some (57, false)), .load false 1 (.t 60)⟩, ⟨(some 62), (some (57, false)), .un .not (.t 61)⟩, ⟨(some 63), (some (57, false)), .mv (.t 62)⟩, ⟨(some 64), (some (63, true)), .mv (.t 0)⟩, ⟨(some 65), (some (63, true)), .nilck (.t 64)⟩, ⟨(some 66), (some (63, true)), .faddr 2 (.t 65)⟩, ⟨(some 67), (some (63, true)), .load false 1 (.t 66)⟩, ⟨(some 68), (some (63, true)), .len 0 (.t 67)⟩, ⟨(some 69), (some (63, true)), .bin .gtr (.t 68) (.c (.int .i64 1026))⟩, ⟨(some 70), (some (57, false)), .pick (.t 63) (.t 69) (.c (.bool false))⟩, ⟨(some 71), none, .pick (.t 57) (.c (.bool true)) (.t 70)⟩])
    (.cond (.t 71)
      (.seq (.region [⟨(some 72), none, .mv (.t 0)⟩, ⟨(some 73), none, .nilck (.t 72)⟩, ⟨(some 74), none, .faddr 14 (.t 73)⟩, ⟨none, none, .store 1 (.t 74) (.c (.int .i64 3))⟩])
      (.exit 0))
      .skip))
    (.seq (.seq (.region [⟨(some 75), none, .mv (.t 8)⟩, ⟨(some 76), none, .bin .neq (.t 75) (.c (.int .u8 10))⟩])
    (.cond (.t 76)
      (.exit 1)
      .skip))
    (.seq (.dregion [⟨(some 77), none, .mv (.t 0)⟩, ⟨(some 78), none, .nilck (.t 77)⟩, ⟨(some 79), none, .faddr 2 (.t 78)⟩, ⟨(some 80), none, .load false 1 (.t 79)⟩, ⟨(some 81), none, .mv (.t 0)⟩, ⟨(some 82), none, .nilck (.t 81)⟩, ⟨(some 83), none, .faddr 2 (.t 82)⟩, ⟨(some 84), none, .load false 1 (.t 83)⟩, ⟨(some 85), none, .len 0 (.t 84)⟩, ⟨(some 86), none, .bin .sub (.t 85) (.c (.int .i64 1))⟩] [⟨(some 87), none, .slstr (.t 80) none (some (.t 86))⟩, ⟨(some 9), none, .mv (.t 87)⟩])
    (.seq (.seq (.region [⟨(some 88), none, .mv (.t 9)⟩, ⟨(some 89), none, .len 0 (.t 88)⟩, ⟨(some 90), none, .bin .gtr (.t 89) (.c (.int .i64 0))⟩, ⟨(some 91), none, .mv (.t 90)⟩, ⟨(some 92), (some (91, true)), .mv (.t 9)⟩, ⟨(some 93), (some (91, true)), .mv (.t 9)⟩, ⟨(some 94), (some (91, true)), .len 0 (.t 93)⟩, ⟨(some 95), (some (91, true)), .bin .sub (.t 94) (.c (.int .i64 1))⟩, ⟨(some 96), (some (91, true)), .ixStr (.t 92) (.t 95)⟩, ⟨(some 97), (some (91, true)), .bin .eql (.t 96) (.c (.int .u8 13))⟩, ⟨(some 98), none, .pick (.t 91) (.t 97) (.c (.bool false))⟩])
    (.cond (.t 98)
      (.region [⟨(some 99), none, .mv (.t 9)⟩, ⟨(some 100), none, .mv (.t 9)⟩, ⟨(some 101), none, .len 0 (.t 100)⟩, ⟨(some 102), none, .bin .sub (.t 101) (.c (.int .i64 1))⟩, ⟨(some 103), none, .slstr (.t 99) none (some (.t 102))⟩, ⟨(some 9), none, .mv (.t 103)⟩])
      .skip))
    (.seq (.region [⟨(some 104), none, .mv (.t 0)⟩, ⟨(some 105), none, .nilck (.t 104)⟩, ⟨(some 106), none, .faddr 2 (.t 105)⟩, ⟨none, none, .store 1 (.t 106) (.c (.str []))⟩])
    (.region [⟨(some 107), none, .mv (.t 0)⟩, ⟨(some 108), none, .mv (.t 9)⟩, ⟨(some 109), none, .call i___gatepost_gatepostref05_Reader__ended [(.t 107), (.t 108)]⟩]))))))))))))))
  (.seq (.dregion [⟨(some 110), none, .mv (.t 7)⟩, ⟨(some 111), none, .mv (.t 0)⟩, ⟨(some 112), none, .nilck (.t 111)⟩, ⟨(some 113), none, .faddr 13 (.t 112)⟩, ⟨(some 114), none, .load false 1 (.t 113)⟩, ⟨(some 115), none, .mv (.t 0)⟩, ⟨(some 116), none, .nilck (.t 115)⟩, ⟨(some 117), none, .faddr 14 (.t 116)⟩, ⟨(some 118), none, .load false 1 (.t 117)⟩, ⟨(some 4), none, .mv (.t 110)⟩, ⟨(some 5), none, .mv (.t 114)⟩] [⟨(some 6), none, .mv (.t 118)⟩])
  .ret))))⟩
/-- (*gatepost/gatepostref05.Reader).Request -/
def c___gatepost_gatepostref05_Reader__Request : FnC := ⟨36, [.cell 2 true 4, .tmp 3],
  (.seq (.region [⟨(some 2), none, .boxz [(.str []), (.str []), (.int .i64 0), .nsl]⟩, ⟨(some 3), none, .mv (.c (.int .i64 0))⟩])
  (.seq (.seq (.region [⟨(some 5), none, .mv (.t 0)⟩, ⟨(some 6), none, .nilck (.t 5)⟩, ⟨(some 7), none, .faddr 13 (.t 6)⟩, ⟨(some 8), none, .load false 1 (.t 7)⟩, ⟨(some 9), none, .un .not (.t 8)⟩, ⟨(some 10), none, .mv (.t 9)⟩, ⟨(some 11), (some (10, false)), .mv (.t 0)⟩, ⟨(some 12), (some (10, false)), .nilck (.t 11)⟩, ⟨(some 13), (some (10, false)), .faddr 14 (.t 12)⟩, ⟨(some 14), (some (10, false)), .load false 1 (.t 13)⟩, ⟨(some 15), (some (10, false)), .bin .neq (.t 14) (.c (.int .i64 0))⟩, ⟨(some 16), none, .pick (.t 10) (.c (.bool true)) (.t 15)⟩, ⟨(some 17), none, .mv (.t 16)⟩, ⟨(some 18), (some (17, false)), .mv (.t 0)⟩, ⟨(some 19), (some (17, false)), .nilck (.t 18)⟩, ⟨(some 20), (some (17, false)), .faddr 0 (.t 19)⟩, ⟨(some 21), (some (17, false)), .load false 1 (.t 20)⟩, ⟨(some 22), none, .pick (.t 17) (.c (.bool true)) (.t 21)⟩])
  (.cond (.t 22)
    (.seq (.region [⟨(some 23), none, .build [(.str []), (.str []), (.int .i64 0), .nsl] []⟩, ⟨none, none, .store 4 (.t 2) (.t 23)⟩, ⟨(some 3), none, .mv (.c (.int .i64 16))⟩])
    .ret)
    .skip))
  (.seq (.region [⟨(some 24), none, .mv (.t 0)⟩, ⟨(some 25), none, .nilck (.t 24)⟩, ⟨(some 26), none, .faddr 4 (.t 25)⟩, ⟨(some 27), none, .load true 4 (.t 26)⟩, ⟨(some 4), none, .boxz [(.str []), (.str []), (.int .i64 0), .nsl]⟩, ⟨none, none, .store 4 (.t 4) (.t 27)⟩])
  (.seq (.region [⟨(some 28), none, .bsl 2 []⟩, ⟨(some 29), none, .mv (.t 0)⟩, ⟨(some 30), none, .nilck (.t 29)⟩, ⟨(some 31), none, .faddr 12 (.t 30)⟩, ⟨(some 32), none, .load false 1 (.t 31)⟩, ⟨(some 33), none, .app 2 32 false (.t 28) (.t 32)⟩, ⟨(some 34), none, .faddr 3 (.t 4)⟩, ⟨none, none, .store 1 (.t 34) (.t 33)⟩])
  (.seq (.region [⟨(some 35), none, .load true 4 (.t 4)⟩, ⟨none, none, .store 4 (.t 2) (.t 35)⟩, ⟨(some 3), none, .mv (.c (.int .i64 0))⟩])
  .ret)))))⟩
/-- (*gatepost/gatepostref05.Reader).Response -/
def c___gatepost_gatepostref05_Reader__Response : FnC := ⟨37, [.cell 2 true 4, .tmp 3],
  (.seq (.region [⟨(some 2), none, .boxz [(.int .i64 0), (.int .i64 0), (.str []), .nsl]⟩, ⟨(some 3), none, .mv (.c (.int .i64 0))⟩])
  (.seq (.seq (.region [⟨(some 5), none, .mv (.t 0)⟩, ⟨(some 6), none, .nilck (.t 5)⟩, ⟨(some 7), none, .faddr 13 (.t 6)⟩, ⟨(some 8), none, .load false 1 (.t 7)⟩, ⟨(some 9), none, .un .not (.t 8)⟩, ⟨(some 10), none, .mv (.t 9)⟩, ⟨(some 11), (some (10, false)), .mv (.t 0)⟩, ⟨(some 12), (some (10, false)), .nilck (.t 11)⟩, ⟨(some 13), (some (10, false)), .faddr 14 (.t 12)⟩, ⟨(some 14), (some (10, false)), .load false 1 (.t 13)⟩, ⟨(some 15), (some (10, false)), .bin .neq (.t 14) (.c (.int .i64 0))⟩, ⟨(some 16), none, .pick (.t 10) (.c (.bool true)) (.t 15)⟩, ⟨(some 17), none, .mv (.t 16)⟩, ⟨(some 18), (some (17, false)), .mv (.t 0)⟩, ⟨(some 19), (some (17, false)), .nilck (.t 18)⟩, ⟨(some 20), (some (17, false)), .faddr 0 (.t 19)⟩, ⟨(some 21), (some (17, false)), .load false 1 (.t 20)⟩, ⟨(some 22), (some (17, false)), .un .not (.t 21)⟩, ⟨(some 23), none, .pick (.t 17) (.c (.bool true)) (.t 22)⟩])
  (.cond (.t 23)
    (.seq (.region [⟨(some 24), none, .build [(.int .i64 0), (.int .i64 0), (.str []), .nsl] []⟩, ⟨none, none, .store 4 (.t 2) (.t 24)⟩, ⟨(some 3), none, .mv (.c (.int .i64 16))⟩])
    .ret)
    .skip))
  (.seq (.region [⟨(some 25), none, .mv (.t 0)⟩, ⟨(some 26), none, .nilck (.t 25)⟩, ⟨(some 27), none, .faddr 8 (.t 26)⟩, ⟨(some 28), none, .load true 4 (.t 27)⟩, ⟨(some 4), none, .boxz [(.int .i64 0), (.int .i64 0), (.str []), .nsl]⟩, ⟨none, none, .store 4 (.t 4) (.t 28)⟩])
  (.seq (.region [⟨(some 29), none, .bsl 2 []⟩, ⟨(some 30), none, .mv (.t 0)⟩, ⟨(some 31), none, .nilck (.t 30)⟩, ⟨(some 32), none, .faddr 12 (.t 31)⟩, ⟨(some 33), none, .load false 1 (.t 32)⟩, ⟨(some 34), none, .app 2 32 false (.t 29) (.t 33)⟩, ⟨(some 35), none, .faddr 3 (.t 4)⟩, ⟨none, none, .store 1 (.t 35) (.t 34)⟩])
  (.seq (.region [⟨(some 36), none, .load true 4 (.t 4)⟩, ⟨none, none, .store 4 (.t 2) (.t 36)⟩, ⟨(some 3), none, .mv (.c (.int .i64 0))⟩])
  .ret)))))⟩
/-- gatepost/gatepostref05.SameRequest -/
def c_gatepostref05_SameRequest : FnC := ⟨31, [.tmp 4],
  (.seq (.region [⟨(some 2), none, .box (.t 0)⟩, ⟨(some 3), none, .box (.t 1)⟩, ⟨(some 4), none, .mv (.c (.bool false))⟩])
  (.seq (.region [⟨(some 5), none, .faddr 0 (.t 2)⟩, ⟨(some 6), none, .load false 1 (.t 5)⟩, ⟨(some 7), none, .faddr 0 (.t 3)⟩, ⟨(some 8), none, .load false 1 (.t 7)⟩, ⟨(some 9), none, .bin .eql (.t 6) (.t 8)⟩, ⟨(some 10), none, .mv (.t 9)⟩, ⟨(some 11), (some (10, true)), .faddr 1 (.t 2)⟩, ⟨(some 12), (some (10, true)), .load false 1 (.t 11)⟩, ⟨(some 13), (some (10, true)), .faddr 1 (.t 3)⟩, ⟨(some 14), (some (10, true)), .load false 1 (.t 13)⟩, ⟨(some 15), (some (10, true)), .bin .eql (.t 12) (.t 14)⟩, ⟨(some 16), none, .pick (.t 10) (.t 15) (.c (.bool false))⟩, ⟨(some 17), none, .mv (.t 16)⟩, ⟨(some 18), (some (17, true)), .faddr 2 (.t 2)⟩, ⟨(some 19), (some (17, true)), .load false 1 (.t 18)⟩, ⟨(some 20), (some (17, true)), .faddr 2 (.t 3)⟩, ⟨(some 21), (some (17, true)), .load false 1 (.t 20)⟩, ⟨(some 22), (some (17, true)), .bin .eql (.t 19) (.t 21)⟩, ⟨(some 23), none, .pick (.t 17) (.t 22) (.c (.bool false))⟩, ⟨(some 24), none, .mv (.t 23)⟩, ⟨(some 25), (some (24, true)), .faddr 3 (.t 2)⟩, ⟨(some 26), (some (24, true)), .load false 1 (.t 25)⟩, ⟨(some 27), (some (24, true)), .faddr 3 (.t 3)⟩, ⟨(some 28), (some (24, true)), .load false 1 (.t 27)⟩, ⟨(some 29), (some (24, true)), .call i_gatepostref04_Same [(.t 26), (.t 28)]⟩, ⟨(some 30), none, .pick (.t 24) (.t 29) (.c (.bool false))⟩, ⟨(some 4), none, .mv (.t 30)⟩])
  .ret))⟩
/-- gatepost/gatepostref05.SameResponse -/
def c_gatepostref05_SameResponse : FnC := ⟨31, [.tmp 4],
  (.seq (.region [⟨(some 2), none, .box (.t 0)⟩, ⟨(some 3), none, .box (.t 1)⟩, ⟨(some 4), none, .mv (.c (.bool false))⟩])
  (.seq (.region [⟨(some 5), none, .faddr 1 (.t 2)⟩, ⟨(some 6), none, .load false 1 (.t 5)⟩, ⟨(some 7), none, .faddr 1 (.t 3)⟩, ⟨(some 8), none, .load false 1 (.t 7)⟩, ⟨(some 9), none, .bin .eql (.t 6) (.t 8)⟩, ⟨(some 10), none, .mv (.t 9)⟩, ⟨(some 11), (some (10, true)), .faddr 2 (.t 2)⟩, ⟨(some 12), (some (10, true)), .load false 1 (.t 11)⟩, ⟨(some 13), (some (10, true)), .faddr 2 (.t 3)⟩, ⟨(some 14), (some (10, true)), .load false 1 (.t 13)⟩, ⟨(some 15), (some (10, true)), .bin .eql (.t 12) (.t 14)⟩, ⟨(some 16), none, .pick (.t 10) (.t 15) (.c (.bool false))⟩, ⟨(some 17), none, .mv (.t 16)⟩, ⟨(some 18), (some (17, true)), .faddr 0 (.t 2)⟩, ⟨(some 19), (some (17, true)), .load false 1 (.t 18)⟩, ⟨(some 20), (some (17, true)), .faddr 0 (.t 3)⟩, ⟨(some 21), (some (17, true)), .load false 1 (.t 20)⟩, ⟨(some 22), (some (17, true)), .bin .eql (.t 19) (.t 21)⟩, ⟨(some 23), none, .pick (.t 17) (.t 22) (.c (.bool false))⟩, ⟨(some 24), none, .mv (.t 23)⟩, ⟨(some 25), (some (24, true)), .faddr 3 (.t 2)⟩, ⟨(some 26), (some (24, true)), .load false 1 (.t 25)⟩, ⟨(some 27), (some (24, true)), .faddr 3 (.t 3)⟩, ⟨(some 28), (some (24, true)), .load false 1 (.t 27)⟩, ⟨(some 29), (some (24, true)), .call i_gatepostref04_Same [(.t 26), (.t 28)]⟩, ⟨(some 30), none, .pick (.t 24) (.t 29) (.c (.bool false))⟩, ⟨(some 4), none, .mv (.t 30)⟩])
  .ret))⟩
/-- (*gatepost/head.Reader).none -/
def c___gatepost_head_Reader__none : FnC := ⟨12, [.tmp 2],
  (.seq (.region [⟨(some 2), none, .mv (.c (.bool false))⟩])
  (.seq (.region [⟨(some 3), none, .mv (.t 0)⟩, ⟨(some 4), none, .eq (.nil 3) false (.t 3) (.c .nilp)⟩, ⟨(some 5), none, .mv (.t 4)⟩, ⟨(some 6), (some (5, false)), .mv (.t 0)⟩, ⟨(some 7), (some (5, false)), .nilck (.t 6)⟩, ⟨(some 8), (some (5, false)), .faddr 0 (.t 7)⟩, ⟨(some 9), (some (5, false)), .load false 1 (.t 8)⟩, ⟨(some 10), (some (5, false)), .eq (.nil 2) false (.t 9) (.c .nfn)⟩, ⟨(some 11), none, .pick (.t 5) (.c (.bool true)) (.t 10)⟩, ⟨(some 2), none, .mv (.t 11)⟩])
  .ret))⟩
/-- (*gatepost/head.Reader).take -/
def c___gatepost_head_Reader__take : FnC := ⟨61, [.tmp 4],
  (.seq (.region [⟨(some 4), none, .mv (.c (.int .i64 0))⟩])
  (.seq (.region [⟨(some 6), none, .mv (.t 0)⟩, ⟨(some 7), none, .nilck (.t 6)⟩, ⟨(some 8), none, .faddr 5 (.t 7)⟩, ⟨(some 9), none, .load false 1 (.t 8)⟩, ⟨(some 10), none, .bin .add (.t 9) (.c (.int .i64 1))⟩, ⟨(some 11), none, .nilck (.t 6)⟩, ⟨(some 12), none, .faddr 5 (.t 11)⟩, ⟨none, none, .store 1 (.t 12) (.t 10)⟩])
  (.seq (.region [⟨(some 13), none, .mv (.t 0)⟩, ⟨(some 14), none, .mv (.t 0)⟩, ⟨(some 15), none, .nilck (.t 14)⟩, ⟨(some 16), none, .faddr 6 (.t 15)⟩, ⟨(some 17), none, .load false 1 (.t 16)⟩, ⟨(some 18), none, .mv (.t 1)⟩, ⟨(some 19), none, .bsl 1 [(.t 18)]⟩, ⟨(some 20), none, .app 1 1 true (.t 17) (.t 19)⟩, ⟨(some 21), none, .nilck (.t 13)⟩, ⟨(some 22), none, .faddr 6 (.t 21)⟩, ⟨none, none, .store 1 (.t 22) (.t 20)⟩])
  (.seq (.seq (.region [⟨(some 23), none, .mv (.t 0)⟩, ⟨(some 24), none, .nilck (.t 23)⟩, ⟨(some 25), none, .faddr 5 (.t 24)⟩, ⟨(some 26), none, .load false 1 (.t 25)⟩, ⟨(some 27), none, .bin .gtr (.t 26) (.c (.int .i64 8192))⟩, ⟨(some 28), none, .mv (.t 27)⟩, ⟨(some 29), (some (28, false)), .mv (.t 0)⟩, ⟨(some 30), (some (28, false)), .nilck (.t 29)⟩, ⟨(some 31), (some (28, false)), .faddr 2 (.t 30)⟩, ⟨(some 32), (some (28, false)), .load false 1 (.t 31)⟩, ⟨(some 33), (some (28, false)), .un .not (.t 32)⟩, ⟨(some 34), (some (28, false)), .mv (.t 33)⟩, ⟨(some 35), (some (34, true)), .mv (.t 0)⟩, ⟨(some 36), (some (34, true)), .nilck (.t 35)⟩, ⟨(some 37), (some (34, true)), .faddr 6 (.t 36)⟩, ⟨(some 38), (some (34, true)), .load false 1 (.t 37)⟩, ⟨(some 39), (some (34, true)), .len 1 (.t 38)⟩, ⟨(some 40), (some (34, true)), .bin .gtr (.t 39) (.c (.int .i64 1026))⟩, ⟨(some 41), (some (28, false)), .pick (.t 34) (.t 40) (.c (.bool false))⟩, ⟨(some 42), none, .pick (.t 28) (.c (.bool true)) (.t 41)⟩])
  (.cond (.t 42)
    (.seq (.region [⟨(some 4), none, .mv (.c (.int .i64 3))⟩])
    .ret)
    .skip))
  (.seq (.seq (.region [⟨(some 43), none, .mv (.t 1)⟩, ⟨(some 44), none, .bin .neq (.t 43) (.c (.int .u8 10))⟩])
  (.cond (.t 44)
    (.seq (.region [⟨(some 4), none, .mv (.c (.int .i64 0))⟩])
    .ret)
    .skip))
  (.seq (.region [⟨(some 45), none, .mv (.t 0)⟩, ⟨(some 46), none, .nilck (.t 45)⟩, ⟨(some 47), none, .faddr 6 (.t 46)⟩, ⟨(some 48), none, .load false 1 (.t 47)⟩, ⟨(some 49), none, .call i_head_cut [(.t 48)]⟩, ⟨(some 5), none, .mv (.t 49)⟩])
  (.seq (.region [⟨(some 50), none, .mv (.t 0)⟩, ⟨(some 51), none, .mv (.t 0)⟩, ⟨(some 52), none, .nilck (.t 51)⟩, ⟨(some 53), none, .faddr 6 (.t 52)⟩, ⟨(some 54), none, .load false 1 (.t 53)⟩, ⟨(some 55), none, .slsl 1 (.t 54) none (some (.c (.int .i64 0))) none⟩, ⟨(some 56), none, .nilck (.t 50)⟩, ⟨(some 57), none, .faddr 6 (.t 56)⟩, ⟨none, none, .store 1 (.t 57) (.t 55)⟩])
  (.seq (.region [⟨(some 58), none, .mv (.t 0)⟩, ⟨(some 59), none, .mv (.t 5)⟩, ⟨(some 60), none, .call i___gatepost_head_Reader__ended [(.t 58), (.t 59)]⟩, ⟨(some 4), none, .mv (.t 60)⟩])
  .ret))))))))⟩
/-- (*gatepost/head.Reader).whole -/
def c___gatepost_head_Reader__whole : FnC := ⟨37, [.tmp 4, .tmp 5],
  (.seq (.region [⟨(some 4), none, .mv (.c .nsl)⟩, ⟨(some 5), none, .mv (.c (.int .i64 0))⟩])
  (.seq (.block 0 (.seq (.region [⟨(some 8), none, .mv (.t 0)⟩, ⟨(some 9), none, .call i___gatepost_head_Reader__none [(.t 8)]⟩, ⟨(some 7), none, .mv (.t 9)⟩])
  (.cond (.t 7)
    (.seq (.region [⟨(some 4), none, .mv (.c .nsl)⟩, ⟨(some 5), none, .mv (.c (.int .i64 1))⟩])
    .ret)
    (.seq (.region [⟨(some 11), none, .mv (.t 0)⟩, ⟨(some 12), none, .nilck (.t 11)⟩, ⟨(some 13), none, .faddr 3 (.t 12)⟩, ⟨(some 14), none, .load false 1 (.t 13)⟩, ⟨(some 15), none, .un .not (.t 14)⟩, ⟨(some 16), none, .mv (.t 15)⟩, ⟨(some 17), (some (16, false)), .mv (.t 0)⟩, ⟨(some 18), (some (16, false)), .nilck (.t 17)⟩, ⟨(some 19), (some (16, false)), .faddr 1 (.t 18)⟩, ⟨(some 20), (some (16, false)), .load false 1 (.t 19)⟩, ⟨(some 21), (some (16, false)), .mv (.t 1)⟩, ⟨(some 22), (some (16, false)), .eq .bool true (.t 20) (.t 21)⟩, ⟨(some 23), none, .pick (.t 16) (.c (.bool true)) (.t 22)⟩, ⟨(some 10), none, .mv (.t 23)⟩])
    (.cond (.t 10)
      (.seq (.region [⟨(some 4), none, .mv (.c .nsl)⟩, ⟨(some 5), none, .mv (.c (.int .i64 16))⟩])
      .ret)
      .skip)))))
  (.seq (.region [⟨(some 24), none, .mv (.t 0)⟩, ⟨(some 25), none, .nilck (.t 24)⟩, ⟨(some 26), none, .faddr 15 (.t 25)⟩, ⟨(some 27), none, .load false 1 (.t 26)⟩, ⟨(some 28), none, .len 1 (.t 27)⟩, ⟨(some 29), none, .mksl 2 32 [(.str []), (.str [])] (.t 28) (.t 28)⟩, ⟨(some 6), none, .mv (.t 29)⟩])
  (.seq (.region [⟨(some 30), none, .mv (.t 6)⟩, ⟨(some 31), none, .mv (.t 0)⟩, ⟨(some 32), none, .nilck (.t 31)⟩, ⟨(some 33), none, .faddr 15 (.t 32)⟩, ⟨(some 34), none, .load false 1 (.t 33)⟩, ⟨(some 35), none, .copy 2 (.t 30) (.t 34)⟩])
  (.seq (.region [⟨(some 36), none, .mv (.t 6)⟩, ⟨(some 4), none, .mv (.t 36)⟩, ⟨(some 5), none, .mv (.c (.int .i64 0))⟩])
  .ret)))))⟩
/-- gatepost/head.New$1 -/
def c_head_New_1 : FnC := ⟨24, [.tmp 3],
  (.seq (.region [⟨(some 3), none, .mv (.c (.int .i64 0))⟩])
  (.seq (.mregion [⟨(some 5), none, .load false 1 (.t 1)⟩, ⟨(some 6), none, .load false 1 (.t 1)⟩, ⟨(some 7), none, .load false 1 (.t 1)⟩, ⟨(some 8), none, .mv (.t 0)⟩, ⟨(some 9), none, .call i_line_Request [(.t 8)]⟩, ⟨(some 4), none, .mv (.t 9)⟩, ⟨(some 10), none, .ext 0 (.t 4)⟩, ⟨(some 11), none, .ext 1 (.t 4)⟩, ⟨(some 12), none, .ext 2 (.t 4)⟩, ⟨(some 13), none, .ext 3 (.t 4)⟩, ⟨(some 14), none, .nilck (.t 5)⟩, ⟨(some 15), none, .faddr 7 (.t 14)⟩, ⟨(some 16), none, .faddr 0 (.t 15)⟩] [⟨none, none, .store 1 (.t 16) (.t 10)⟩, ⟨(some 17), none, .nilck (.t 6)⟩, ⟨(some 18), none, .faddr 7 (.t 17)⟩, ⟨(some 19), none, .faddr 1 (.t 18)⟩, ⟨none, none, .store 1 (.t 19) (.t 11)⟩, ⟨(some 20), none, .nilck (.t 7)⟩, ⟨(some 21), none, .faddr 7 (.t 20)⟩, ⟨(some 22), none, .faddr 2 (.t 21)⟩, ⟨none, none, .store 1 (.t 22) (.t 12)⟩] [⟨(some 3), none, .mv (.t 13)⟩] [(6, false, 1, (.t 1)), (7, false, 1, (.t 1))])
  (.seq (.region [⟨(some 23), none, .mv (.t 3)⟩, ⟨(some 3), none, .mv (.t 23)⟩])
  .ret)))⟩
/-- gatepost/line.Request -/
def c_line_Request : FnC := ⟨46, [.tmp 2, .tmp 3, .tmp 4, .tmp 5],
  (.seq (.region [⟨(some 2), none, .mv (.c (.str []))⟩, ⟨(some 3), none, .mv (.c (.str []))⟩, ⟨(some 4), none, .mv (.c (.int .i64 0))⟩, ⟨(some 5), none, .mv (.c (.int .i64 0))⟩])
  (.seq (.seq (.region [⟨(some 7), none, .mv (.t 0)⟩, ⟨(some 8), none, .len 0 (.t 7)⟩, ⟨(some 9), none, .bin .gtr (.t 8) (.c (.int .i64 1024))⟩])
  (.cond (.t 9)
    (.seq (.region [⟨(some 2), none, .mv (.c (.str []))⟩, ⟨(some 3), none, .mv (.c (.str []))⟩, ⟨(some 4), none, .mv (.c (.int .i64 0))⟩, ⟨(some 5), none, .mv (.c (.int .i64 3))⟩])
    .ret)
    .skip))
  (.seq (.region [⟨(some 10), none, .mv (.t 0)⟩, ⟨(some 11), none, .call i_line_words [(.t 10)]⟩, ⟨(some 6), none, .mv (.t 11)⟩])
  (.seq (.seq (.region [⟨(some 12), none, .mv (.t 6)⟩, ⟨(some 13), none, .len 1 (.t 12)⟩, ⟨(some 14), none, .bin .neq (.t 13) (.c (.int .i64 3))⟩, ⟨(some 15), none, .mv (.t 14)⟩, ⟨(some 16), (some (15, false)), .mv (.t 6)⟩, ⟨(some 17), (some (15, false)), .ixaSl 1 (.t 16) (.c (.int .i64 0))⟩, ⟨(some 18), (some (15, false)), .load false 1 (.t 17)⟩, ⟨(some 19), (some (15, false)), .call i_token_Is [(.t 18)]⟩, ⟨(some 20), (some (15, false)), .un .not (.t 19)⟩, ⟨(some 21), none, .pick (.t 15) (.c (.bool true)) (.t 20)⟩, ⟨(some 22), none, .mv (.t 21)⟩, ⟨(some 23), (some (22, false)), .mv (.t 6)⟩, ⟨(some 24), (some (22, false)), .ixaSl 1 (.t 23) (.c (.int .i64 1))⟩, ⟨(some 25), (some (22, false)), .load false 1 (.t 24)⟩, ⟨(some 26), (some (22, false)), .call i_line_isTarget [(.t 25)]⟩, ⟨(some 27), (some (22, false)), .un .not (.t 26)⟩, ⟨(some 28), none, .pick (.t 22) (.c (.bool true)) (.t 27)⟩, ⟨(some 29), none, .mv (.t 28)⟩, ⟨(some 30), (some (29, false)), .mv (.t 6)⟩, ⟨(some 31), (some (29, false)), .ixaSl 1 (.t 30) (.c (.int .i64 2))⟩, ⟨(some 32), (some (29, false)), .load false 1 (.t 31)⟩, ⟨(some 33), (some (29, false)), .call i_line_version [(.t 32)]⟩, ⟨(some 34), (some (29, false)), .bin .lss (.t 33) (.c (.int .i64 0))⟩, ⟨(some 35), none, .pick (.t 29) (.c (.bool true)) (.t 34)⟩])
  (.cond (.t 35)
    (.seq (.region [⟨(some 2), none, .mv (.c (.str []))⟩, ⟨(some 3), none, .mv (.c (.str []))⟩, ⟨(some 4), none, .mv (.c (.int .i64 0))⟩, ⟨(some 5), none, .mv (.c (.int .i64 30))⟩])
    .ret)
    .skip))
  (.seq (.dregion [⟨(some 36), none, .mv (.t 6)⟩, ⟨(some 37), none, .ixaSl 1 (.t 36) (.c (.int .i64 0))⟩, ⟨(some 38), none, .load false 1 (.t 37)⟩, ⟨(some 39), none, .mv (.t 6)⟩, ⟨(some 40), none, .ixaSl 1 (.t 39) (.c (.int .i64 1))⟩, ⟨(some 41), none, .load false 1 (.t 40)⟩, ⟨(some 42), none, .mv (.t 6)⟩, ⟨(some 43), none, .ixaSl 1 (.t 42) (.c (.int .i64 2))⟩, ⟨(some 44), none, .load false 1 (.t 43)⟩, ⟨(some 45), none, .call i_line_version [(.t 44)]⟩, ⟨(some 2), none, .mv (.t 38)⟩] [⟨(some 3), none, .mv (.t 41)⟩, ⟨(some 4), none, .mv (.t 45)⟩, ⟨(some 5), none, .mv (.c (.int .i64 0))⟩])
  .ret)))))⟩
/-- gatepost/head.New$2 -/
def c_head_New_2 : FnC := ⟨24, [.tmp 3],
  (.seq (.region [⟨(some 3), none, .mv (.c (.int .i64 0))⟩])
  (.seq (.mregion [⟨(some 5), none, .load false 1 (.t 1)⟩, ⟨(some 6), none, .load false 1 (.t 1)⟩, ⟨(some 7), none, .load false 1 (.t 1)⟩, ⟨(some 8), none, .mv (.t 0)⟩, ⟨(some 9), none, .call i_line_Status [(.t 8)]⟩, ⟨(some 4), none, .mv (.t 9)⟩, ⟨(some 10), none, .ext 0 (.t 4)⟩, ⟨(some 11), none, .ext 1 (.t 4)⟩, ⟨(some 12), none, .ext 2 (.t 4)⟩, ⟨(some 13), none, .ext 3 (.t 4)⟩, ⟨(some 14), none, .nilck (.t 5)⟩, ⟨(some 15), none, .faddr 11 (.t 14)⟩, ⟨(some 16), none, .faddr 0 (.t 15)⟩] [⟨none, none, .store 1 (.t 16) (.t 10)⟩, ⟨(some 17), none, .nilck (.t 6)⟩, ⟨(some 18), none, .faddr 11 (.t 17)⟩, ⟨(some 19), none, .faddr 1 (.t 18)⟩, ⟨none, none, .store 1 (.t 19) (.t 11)⟩, ⟨(some 20), none, .nilck (.t 7)⟩, ⟨(some 21), none, .faddr 11 (.t 20)⟩, ⟨(some 22), none, .faddr 2 (.t 21)⟩, ⟨none, none, .store 1 (.t 22) (.t 12)⟩] [⟨(some 3), none, .mv (.t 13)⟩] [(6, false, 1, (.t 1)), (7, false, 1, (.t 1))])
  (.seq (.region [⟨(some 23), none, .mv (.t 3)⟩, ⟨(some 3), none, .mv (.t 23)⟩])
  .ret)))⟩
/-- gatepost/line.Status -/
def c_line_Status : FnC := ⟨74, [.tmp 2, .tmp 3, .tmp 4, .tmp 5],
  (.seq (.region [⟨(some 2), none, .mv (.c (.int .i64 0))⟩, ⟨(some 3), none, .mv (.c (.int .i64 0))⟩, ⟨(some 4), none, .mv (.c (.str []))⟩, ⟨(some 5), none, .mv (.c (.int .i64 0))⟩])
  (.seq (.region [⟨(some 6), none, .mv (.c (.fn i_line_Status_1 []))⟩])
  (.seq (.seq (.region [⟨(some 13), none, .mv (.t 0)⟩, ⟨(some 14), none, .len 0 (.t 13)⟩, ⟨(some 15), none, .bin .gtr (.t 14) (.c (.int .i64 1024))⟩])
  (.cond (.t 15)
    (.seq (.region [⟨(some 16), none, .mv (.t 6)⟩, ⟨(some 17), none, .callv (.t 16) [(.c (.int .i64 3))]⟩, ⟨(some 18), none, .ext 0 (.t 17)⟩, ⟨(some 19), none, .ext 1 (.t 17)⟩, ⟨(some 20), none, .ext 2 (.t 17)⟩, ⟨(some 21), none, .ext 3 (.t 17)⟩, ⟨(some 2), none, .mv (.t 18)⟩, ⟨(some 3), none, .mv (.t 19)⟩, ⟨(some 4), none, .mv (.t 20)⟩, ⟨(some 5), none, .mv (.t 21)⟩])
    .ret)
    .skip))
  (.seq (.region [⟨(some 23), none, .mv (.t 0)⟩, ⟨(some 24), none, .call i_strings_Cut [(.t 23), (.c (.str [32]))]⟩, ⟨(some 22), none, .mv (.t 24)⟩, ⟨(some 25), none, .ext 0 (.t 22)⟩, ⟨(some 26), none, .ext 1 (.t 22)⟩, ⟨(some 27), none, .ext 2 (.t 22)⟩, ⟨(some 7), none, .mv (.t 25)⟩, ⟨(some 8), none, .mv (.t 26)⟩, ⟨(some 9), none, .mv (.t 27)⟩])
  (.seq (.region [⟨(some 29), none, .mv (.t 8)⟩, ⟨(some 30), none, .call i_strings_Cut [(.t 29), (.c (.str [32]))]⟩, ⟨(some 28), none, .mv (.t 30)⟩, ⟨(some 31), none, .ext 0 (.t 28)⟩, ⟨(some 32), none, .ext 1 (.t 28)⟩, ⟨(some 33), none, .ext 2 (.t 28)⟩, ⟨(some 10), none, .mv (.t 31)⟩, ⟨(some 4), none, .mv (.t 32)⟩, ⟨(some 11), none, .mv (.t 33)⟩])
  (.seq (.region [⟨(some 35), none, .mv (.t 10)⟩, ⟨(some 36), none, .call i_token_Number [(.t 35), (.c (.int .i64 1024))]⟩, ⟨(some 34), none, .mv (.t 36)⟩, ⟨(some 37), none, .ext 0 (.t 34)⟩, ⟨(some 38), none, .ext 1 (.t 34)⟩, ⟨(some 3), none, .mv (.t 37)⟩, ⟨(some 12), none, .mv (.t 38)⟩])
  (.seq (.region [⟨(some 39), none, .mv (.t 7)⟩, ⟨(some 40), none, .call i_line_version [(.t 39)]⟩, ⟨(some 2), none, .mv (.t 40)⟩])
  (.seq (.seq (.region [⟨(some 41), none, .mv (.t 2)⟩, ⟨(some 42), none, .bin .lss (.t 41) (.c (.int .i64 0))⟩, ⟨(some 43), none, .mv (.t 42)⟩, ⟨(some 44), (some (43, false)), .mv (.t 12)⟩, ⟨(some 45), (some (43, false)), .un .not (.t 44)⟩, ⟨(some 46), none, .pick (.t 43) (.c (.bool true)) (.t 45)⟩, ⟨(some 47), none, .mv (.t 46)⟩, ⟨(some 48), (some (47, false)), .mv (.t 10)⟩, ⟨(some 49), (some (47, false)), .len 0 (.t 48)⟩, ⟨(some 50), (some (47, false)), .bin .neq (.t 49) (.c (.int .i64 3))⟩, ⟨(some 51), none, .pick (.t 47) (.c (.bool true)) (.t 50)⟩, ⟨(some 52), none, .mv (.t 51)⟩, ⟨(some 53), (some (52, false)), .mv (.t 3)⟩, ⟨(some 54), (some (52, false)), .bin .lss (.t 53) (.c (.int .i64 100))⟩, ⟨(some 55), none, .pick (.t 52) (.c (.bool true)) (.t 54)⟩, ⟨(some 56), none, .mv (.t 55)⟩, ⟨(some 57), (some (56, false)), .mv (.t 3)⟩, ⟨(some 58), (some (56, false)), .bin .gtr (.t 57) (.c (.int .i64 599))⟩, ⟨(some 59), none, .pick (.t 56) (.c (.bool true)) (.t 58)⟩, ⟨(some 60), none, .mv (.t 59)⟩, ⟨(some 61), (some (60, false)), .mv (.t 4)⟩, ⟨(some 62), (some (60, false)), .call i_line_isReason [(.t 61)]⟩, ⟨(some 63), (some (60, false)), .un .not (.t 62)⟩, ⟨(some 64), none, .pick (.t 60) (.c (.bool true)) (.t 63)⟩])
  (.cond (.t 64)
    (.seq (.region [⟨(some 65), none, .mv (.t 6)⟩, ⟨(some 66), none, .callv (.t 65) [(.c (.int .i64 30))]⟩, ⟨(some 67), none, .ext 0 (.t 66)⟩, ⟨(some 68), none, .ext 1 (.t 66)⟩, ⟨(some 69), none, .ext 2 (.t 66)⟩, ⟨(some 70), none, .ext 3 (.t 66)⟩, ⟨(some 2), none, .mv (.t 67)⟩, ⟨(some 3), none, .mv (.t 68)⟩, ⟨(some 4), none, .mv (.t 69)⟩, ⟨(some 5), none, .mv (.t 70)⟩])
    .ret)
    .skip))
  (.seq (.region [⟨(some 71), none, .mv (.t 2)⟩, ⟨(some 72), none, .mv (.t 3)⟩, ⟨(some 73), none, .mv (.t 4)⟩, ⟨(some 2), none, .mv (.t 71)⟩, ⟨(some 3), none, .mv (.t 72)⟩, ⟨(some 4), none, .mv (.t 73)⟩, ⟨(some 5), none, .mv (.c (.int .i64 0))⟩])
  .ret)))))))))⟩
/-- gatepost/gatepostref01.blank -/
def c_gatepostref01_blank : FnC := ⟨9, [.tmp 2],
  (.seq (.region [⟨(some 2), none, .mv (.c (.bool false))⟩])
  (.seq (.region [⟨(some 3), none, .mv (.t 0)⟩, ⟨(some 4), none, .bin .eql (.t 3) (.c (.int .u8 32))⟩, ⟨(some 5), none, .mv (.t 4)⟩, ⟨(some 6), (some (5, false)), .mv (.t 0)⟩, ⟨(some 7), (some (5, false)), .bin .eql (.t 6) (.c (.int .u8 9))⟩, ⟨(some 8), none, .pick (.t 5) (.c (.bool true)) (.t 7)⟩, ⟨(some 2), none, .mv (.t 8)⟩])
  .ret))⟩
/-- (*gatepost/gatepostref05.Reader).ended -/
def c___gatepost_gatepostref05_Reader__ended : FnC := ⟨97, [],
  (.seq (.seq (.region [⟨(some 6), none, .mv (.t 0)⟩, ⟨(some 7), none, .nilck (.t 6)⟩, ⟨(some 8), none, .faddr 3 (.t 7)⟩, ⟨(some 9), none, .load false 1 (.t 8)⟩, ⟨(some 10), none, .un .not (.t 9)⟩])
  (.cond (.t 10)
    (.seq (.seq (.region [⟨(some 11), none, .mv (.t 1)⟩, ⟨(some 12), none, .bin .eql (.t 11) (.c (.str []))⟩])
    (.cond (.t 12)
      .ret
      .skip))
    (.seq (.seq (.region [⟨(some 13), none, .mv (.t 0)⟩, ⟨(some 14), none, .nilck (.t 13)⟩, ⟨(some 15), none, .faddr 0 (.t 14)⟩, ⟨(some 16), none, .load false 1 (.t 15)⟩])
    (.cond (.t 16)
      (.region [⟨(some 18), none, .mv (.t 0)⟩, ⟨(some 19), none, .mv (.t 0)⟩, ⟨(some 20), none, .mv (.t 0)⟩, ⟨(some 21), none, .mv (.t 0)⟩, ⟨(some 22), none, .mv (.t 1)⟩, ⟨(some 23), none, .call i_gatepostref03_Status [(.t 22)]⟩, ⟨(some 17), none, .mv (.t 23)⟩, ⟨(some 24), none, .ext 0 (.t 17)⟩, ⟨(some 25), none, .ext 1 (.t 17)⟩, ⟨(some 26), none, .ext 2 (.t 17)⟩, ⟨(some 27), none, .ext 3 (.t 17)⟩, ⟨(some 28), none, .nilck (.t 18)⟩, ⟨(some 29), none, .faddr 8 (.t 28)⟩, ⟨(some 30), none, .faddr 0 (.t 29)⟩, ⟨none, none, .store 1 (.t 30) (.t 24)⟩, ⟨(some 31), none, .nilck (.t 19)⟩, ⟨(some 32), none, .faddr 8 (.t 31)⟩, ⟨(some 33), none, .faddr 1 (.t 32)⟩, ⟨none, none, .store 1 (.t 33) (.t 25)⟩, ⟨(some 34), none, .nilck (.t 20)⟩, ⟨(some 35), none, .faddr 8 (.t 34)⟩, ⟨(some 36), none, .faddr 2 (.t 35)⟩, ⟨none, none, .store 1 (.t 36) (.t 26)⟩, ⟨(some 37), none, .nilck (.t 21)⟩, ⟨(some 38), none, .faddr 14 (.t 37)⟩, ⟨none, none, .store 1 (.t 38) (.t 27)⟩])
      (.region [⟨(some 40), none, .mv (.t 0)⟩, ⟨(some 41), none, .mv (.t 0)⟩, ⟨(some 42), none, .mv (.t 0)⟩, ⟨(some 43), none, .mv (.t 0)⟩, ⟨(some 44), none, .mv (.t 1)⟩, ⟨(some 45), none, .call i_gatepostref03_Request [(.t 44)]⟩, ⟨(some 39), none, .mv (.t 45)⟩, ⟨(some 46), none, .ext 0 (.t 39)⟩, ⟨(some 47), none, .ext 1 (.t 39)⟩, ⟨(some 48), none, .ext 2 (.t 39)⟩, ⟨(some 49), none, .ext 3 (.t 39)⟩, ⟨(some 50), none, .nilck (.t 40)⟩, ⟨(some 51), none, .faddr 4 (.t 50)⟩, ⟨(some 52), none, .faddr 0 (.t 51)⟩, ⟨none, none, .store 1 (.t 52) (.t 46)⟩, ⟨(some 53), none, .nilck (.t 41)⟩, ⟨(some 54), none, .faddr 4 (.t 53)⟩, ⟨(some 55), none, .faddr 1 (.t 54)⟩, ⟨none, none, .store 1 (.t 55) (.t 47)⟩, ⟨(some 56), none, .nilck (.t 42)⟩, ⟨(some 57), none, .faddr 4 (.t 56)⟩, ⟨(some 58), none, .faddr 2 (.t 57)⟩, ⟨none, none, .store 1 (.t 58) (.t 48)⟩, ⟨(some 59), none, .nilck (.t 43)⟩, ⟨(some 60), none, .faddr 14 (.t 59)⟩, ⟨none, none, .store 1 (.t 60) (.t 49)⟩])))
    (.seq (.region [⟨(some 61), none, .mv (.t 0)⟩, ⟨(some 62), none, .nilck (.t 61)⟩, ⟨(some 63), none, .faddr 3 (.t 62)⟩, ⟨none, none, .store 1 (.t 63) (.c (.bool true))⟩])
    .ret)))
    .skip))
  (.seq (.seq (.region [⟨(some 64), none, .mv (.t 1)⟩, ⟨(some 65), none, .bin .eql (.t 64) (.c (.str []))⟩])
  (.cond (.t 65)
    (.seq (.region [⟨(some 66), none, .mv (.t 0)⟩, ⟨(some 67), none, .nilck (.t 66)⟩, ⟨(some 68), none, .faddr 13 (.t 67)⟩, ⟨none, none, .store 1 (.t 68) (.c (.bool true))⟩])
    .ret)
    .skip))
  (.seq (.seq (.region [⟨(some 69), none, .mv (.t 0)⟩, ⟨(some 70), none, .nilck (.t 69)⟩, ⟨(some 71), none, .faddr 12 (.t 70)⟩, ⟨(some 72), none, .load false 1 (.t 71)⟩, ⟨(some 73), none, .len 1 (.t 72)⟩, ⟨(some 74), none, .bin .eql (.t 73) (.c (.int .i64 64))⟩])
  (.cond (.t 74)
    (.seq (.region [⟨(some 75), none, .mv (.t 0)⟩, ⟨(some 76), none, .nilck (.t 75)⟩, ⟨(some 77), none, .faddr 14 (.t 76)⟩, ⟨none, none, .store 1 (.t 77) (.c (.int .i64 3))⟩])
    .ret)
    .skip))
  (.seq (.region [⟨(some 79), none, .mv (.t 1)⟩, ⟨(some 80), none, .call i_gatepostref04_Parse [(.t 79)]⟩, ⟨(some 78), none, .mv (.t 80)⟩, ⟨(some 81), none, .ext 0 (.t 78)⟩, ⟨(some 82), none, .ext 1 (.t 78)⟩, ⟨(some 4), none, .boxz [(.str []), (.str [])]⟩, ⟨none, none, .store 2 (.t 4) (.t 81)⟩, ⟨(some 5), none, .mv (.t 82)⟩])
  (.seq (.region [⟨(some 83), none, .mv (.t 0)⟩, ⟨(some 84), none, .mv (.t 5)⟩, ⟨(some 85), none, .nilck (.t 83)⟩, ⟨(some 86), none, .faddr 14 (.t 85)⟩, ⟨none, none, .store 1 (.t 86) (.t 84)⟩])
  (.mregion [⟨(some 87), none, .mv (.t 0)⟩, ⟨(some 88), none, .mv (.t 0)⟩, ⟨(some 89), none, .nilck (.t 88)⟩, ⟨(some 90), none, .faddr 12 (.t 89)⟩, ⟨(some 91), none, .load false 1 (.t 90)⟩, ⟨(some 92), none, .load true 2 (.t 4)⟩, ⟨(some 93), none, .bsl 2 [(.t 92)]⟩] [⟨(some 94), none, .app 2 32 false (.t 91) (.t 93)⟩] [⟨(some 95), none, .nilck (.t 87)⟩, ⟨(some 96), none, .faddr 12 (.t 95)⟩, ⟨none, none, .store 1 (.t 96) (.t 94)⟩] []))))))⟩
/-- gatepost/gatepostref04.Same -/
def c_gatepostref04_Same : FnC := ⟨41, [.tmp 4],
  (.seq (.region [⟨(some 4), none, .mv (.c (.bool false))⟩])
  (.seq (.seq (.region [⟨(some 6), none, .mv (.t 0)⟩, ⟨(some 7), none, .len 1 (.t 6)⟩, ⟨(some 8), none, .mv (.t 1)⟩, ⟨(some 9), none, .len 1 (.t 8)⟩, ⟨(some 10), none, .bin .neq (.t 7) (.t 9)⟩])
  (.cond (.t 10)
    (.seq (.region [⟨(some 4), none, .mv (.c (.bool false))⟩])
    .ret)
    .skip))
  (.seq (.seq (.region [⟨(some 5), none, .mv (.c (.int .i64 0))⟩])
  (.block 0 (.loop
    (.seq (.seq (.region [⟨(some 11), none, .mv (.t 5)⟩, ⟨(some 12), none, .mv (.t 0)⟩, ⟨(some 13), none, .len 1 (.t 12)⟩, ⟨(some 14), none, .bin .lss (.t 11) (.t 13)⟩])
    (.cond (.t 14)
      .skip
      (.exit 0)))
    (.seq (.block 1 (.seq (.dregion [⟨(some 17), none, .mv (.t 0)⟩, ⟨(some 18), none, .mv (.t 5)⟩, ⟨(some 19), none, .ixaSl 2 (.t 17) (.t 18)⟩, ⟨(some 20), none, .faddr 0 (.t 19)⟩, ⟨(some 21), none, .load false 1 (.t 20)⟩, ⟨(some 22), none, .mv (.t 1)⟩, ⟨(some 23), none, .mv (.t 5)⟩, ⟨(some 24), none, .ixaSl 2 (.t 22) (.t 23)⟩, ⟨(some 25), none, .faddr 0 (.t 24)⟩, ⟨(some 26), none, .load false 1 (.t 25)⟩, ⟨(some 27), none, .bin .neq (.t 21) (.t 26)⟩, ⟨(some 28), none, .mv (.t 27)⟩, ⟨(some 29), (some (28, false)), .mv (.t 0)⟩, ⟨(some 30), (some (28, false)), .mv (.t 5)⟩, ⟨(some 31), (some (28, false)), .ixaSl 2 (.t 29) (.t 30)⟩, ⟨(some 32), (some (28, false)), .faddr 1 (.t 31)⟩, ⟨(some 33), (some (28, false)), .load false 1 (.t 32)⟩, ⟨(some 34), (some (28, false)), .mv (.t 1)⟩, ⟨(some 35), (some (28, false)), .mv (.t 5)⟩, ⟨(some 36), (some (28, false)), .ixaSl 2 (.t 34) (.t 35)⟩, ⟨(some 37), (some (28, false)), .faddr 1 (.t 36)⟩, ⟨(some 38), (some (28, false)), .load false 1 (.t 37)⟩] [⟨(some 39), (some (28, false)), .bin .neq (.t 33) (.t 38)⟩, ⟨(some 40), none, .pick (.t 28) (.c (.bool true)) (.t 39)⟩])
    (.cond (.t 40)
      (.seq (.region [⟨(some 4), none, .mv (.c (.bool false))⟩])
      .ret)
      .skip)))
    (.region [⟨(some 15), none, .mv (.t 5)⟩, ⟨(some 16), none, .bin .add (.t 15) (.c (.int .i64 1))⟩, ⟨(some 5), none, .mv (.t 16)⟩]))))))
  (.seq (.region [⟨(some 4), none, .mv (.c (.bool true))⟩])
  .ret))))⟩
/-- gatepost/head.cut -/
def c_head_cut : FnC := ⟨27, [.tmp 2],
  (.seq (.region [⟨(some 2), none, .mv (.c (.str []))⟩])
  (.seq (.region [⟨(some 4), none, .mv (.t 0)⟩, ⟨(some 5), none, .mv (.t 0)⟩, ⟨(some 6), none, .len 1 (.t 5)⟩, ⟨(some 7), none, .bin .sub (.t 6) (.c (.int .i64 1))⟩, ⟨(some 8), none, .slsl 1 (.t 4) none (some (.t 7)) none⟩, ⟨(some 0), none, .mv (.t 8)⟩])
  (.seq (.seq (.region [⟨(some 9), none, .mv (.t 0)⟩, ⟨(some 10), none, .len 1 (.t 9)⟩, ⟨(some 3), none, .mv (.t 10)⟩])
  (.seq (.region [⟨(some 11), none, .mv (.t 3)⟩, ⟨(some 12), none, .bin .gtr (.t 11) (.c (.int .i64 0))⟩, ⟨(some 13), none, .mv (.t 12)⟩, ⟨(some 14), (some (13, true)), .mv (.t 0)⟩, ⟨(some 15), (some (13, true)), .mv (.t 3)⟩, ⟨(some 16), (some (13, true)), .bin .sub (.t 15) (.c (.int .i64 1))⟩, ⟨(some 17), (some (13, true)), .ixaSl 1 (.t 14) (.t 16)⟩, ⟨(some 18), (some (13, true)), .load false 1 (.t 17)⟩, ⟨(some 19), (some (13, true)), .bin .eql (.t 18) (.c (.int .u8 13))⟩, ⟨(some 20), none, .pick (.t 13) (.t 19) (.c (.bool false))⟩])
  (.cond (.t 20)
    (.region [⟨(some 21), none, .mv (.t 0)⟩, ⟨(some 22), none, .mv (.t 3)⟩, ⟨(some 23), none, .bin .sub (.t 22) (.c (.int .i64 1))⟩, ⟨(some 24), none, .slsl 1 (.t 21) none (some (.t 23)) none⟩, ⟨(some 0), none, .mv (.t 24)⟩])
    .skip)))
  (.seq (.region [⟨(some 25), none, .mv (.t 0)⟩, ⟨(some 26), none, .toStr (.t 25)⟩, ⟨(some 2), none, .mv (.t 26)⟩])
  .ret))))⟩
/-- (*gatepost/head.Reader).ended -/
def c___gatepost_head_Reader__ended : FnC := ⟨61, [.tmp 4],
  (.seq (.region [⟨(some 4), none, .mv (.c (.int .i64 0))⟩])
  (.seq (.block 0 (.seq (.region [⟨(some 8), none, .mv (.t 0)⟩, ⟨(some 9), none, .nilck (.t 8)⟩, ⟨(some 10), none, .faddr 2 (.t 9)⟩, ⟨(some 11), none, .load false 1 (.t 10)⟩, ⟨(some 12), none, .un .not (.t 11)⟩, ⟨(some 13), none, .mv (.t 12)⟩, ⟨(some 14), (some (13, true)), .mv (.t 1)⟩, ⟨(some 15), (some (13, true)), .bin .eql (.t 14) (.c (.str []))⟩, ⟨(some 16), none, .pick (.t 13) (.t 15) (.c (.bool false))⟩, ⟨(some 7), none, .mv (.t 16)⟩])
  (.cond (.t 7)
    (.seq (.region [⟨(some 4), none, .mv (.c (.int .i64 0))⟩])
    .ret)
    (.seq (.region [⟨(some 18), none, .mv (.t 0)⟩, ⟨(some 19), none, .nilck (.t 18)⟩, ⟨(some 20), none, .faddr 2 (.t 19)⟩, ⟨(some 21), none, .load false 1 (.t 20)⟩, ⟨(some 22), none, .un .not (.t 21)⟩, ⟨(some 17), none, .mv (.t 22)⟩])
    (.cond (.t 17)
      (.seq (.region [⟨(some 23), none, .mv (.t 0)⟩, ⟨(some 24), none, .nilck (.t 23)⟩, ⟨(some 25), none, .faddr 2 (.t 24)⟩, ⟨none, none, .store 1 (.t 25) (.c (.bool true))⟩])
      (.seq (.region [⟨(some 26), none, .mv (.t 0)⟩, ⟨(some 27), none, .nilck (.t 26)⟩, ⟨(some 28), none, .faddr 0 (.t 27)⟩, ⟨(some 29), none, .load false 1 (.t 28)⟩, ⟨(some 30), none, .mv (.t 1)⟩, ⟨(some 31), none, .callv (.t 29) [(.t 30)]⟩, ⟨(some 4), none, .mv (.t 31)⟩])
      .ret))
      (.seq (.region [⟨(some 33), none, .mv (.t 1)⟩, ⟨(some 34), none, .bin .eql (.t 33) (.c (.str []))⟩, ⟨(some 32), none, .mv (.t 34)⟩])
      (.cond (.t 32)
        (.seq (.region [⟨(some 35), none, .mv (.t 0)⟩, ⟨(some 36), none, .nilck (.t 35)⟩, ⟨(some 37), none, .faddr 3 (.t 36)⟩, ⟨none, none, .store 1 (.t 37) (.c (.bool true))⟩])
        (.seq (.region [⟨(some 4), none, .mv (.c (.int .i64 0))⟩])
        .ret))
        (.seq (.region [⟨(some 39), none, .mv (.t 0)⟩, ⟨(some 40), none, .nilck (.t 39)⟩, ⟨(some 41), none, .faddr 15 (.t 40)⟩, ⟨(some 42), none, .load false 1 (.t 41)⟩, ⟨(some 43), none, .len 1 (.t 42)⟩, ⟨(some 44), none, .bin .eql (.t 43) (.c (.int .i64 64))⟩, ⟨(some 38), none, .mv (.t 44)⟩])
        (.cond (.t 38)
          (.seq (.region [⟨(some 4), none, .mv (.c (.int .i64 3))⟩])
          .ret)
          .skip)))))))))
  (.seq (.region [⟨(some 46), none, .mv (.t 1)⟩, ⟨(some 47), none, .call i_field_Parse [(.t 46)]⟩, ⟨(some 45), none, .mv (.t 47)⟩, ⟨(some 48), none, .ext 0 (.t 45)⟩, ⟨(some 49), none, .ext 1 (.t 45)⟩, ⟨(some 5), none, .boxz [(.str []), (.str [])]⟩, ⟨none, none, .store 2 (.t 5) (.t 48)⟩, ⟨(some 6), none, .mv (.t 49)⟩])
  (.seq (.mregion [⟨(some 50), none, .mv (.t 0)⟩, ⟨(some 51), none, .mv (.t 0)⟩, ⟨(some 52), none, .nilck (.t 51)⟩, ⟨(some 53), none, .faddr 15 (.t 52)⟩, ⟨(some 54), none, .load false 1 (.t 53)⟩, ⟨(some 55), none, .load true 2 (.t 5)⟩, ⟨(some 56), none, .bsl 2 [(.t 55)]⟩] [⟨(some 57), none, .app 2 32 false (.t 54) (.t 56)⟩] [⟨(some 58), none, .nilck (.t 50)⟩, ⟨(some 59), none, .faddr 15 (.t 58)⟩, ⟨none, none, .store 1 (.t 59) (.t 57)⟩] [])
  (.seq (.region [⟨(some 60), none, .mv (.t 6)⟩, ⟨(some 4), none, .mv (.t 60)⟩])
  .ret)))))⟩
/-- gatepost/line.words -/
def c_line_words : FnC := ⟨12, [.tmp 2],
  (.seq (.region [⟨(some 2), none, .mv (.c .nsl)⟩])
  (.seq (.region [⟨(some 4), none, .mv (.t 0)⟩, ⟨(some 5), none, .call i_strings_Split [(.t 4), (.c (.str [32]))]⟩, ⟨(some 3), none, .mv (.t 5)⟩])
  (.seq (.region [⟨(some 6), none, .mv (.t 3)⟩, ⟨(some 7), none, .mv (.t 3)⟩, ⟨(some 8), none, .len 1 (.t 7)⟩, ⟨(some 9), none, .mv (.t 3)⟩, ⟨(some 10), none, .len 1 (.t 9)⟩, ⟨(some 11), none, .slsl 1 (.t 6) none (some (.t 8)) (some (.t 10))⟩, ⟨(some 2), none, .mv (.t 11)⟩])
  .ret)))⟩
/-- gatepost/token.Is -/
def c_token_Is : FnC := ⟨9, [.tmp 2],
  (.seq (.region [⟨(some 2), none, .mv (.c (.bool false))⟩])
  (.seq (.region [⟨(some 3), none, .mv (.t 0)⟩, ⟨(some 4), none, .bin .neq (.t 3) (.c (.str []))⟩, ⟨(some 5), none, .mv (.t 4)⟩, ⟨(some 6), (some (5, true)), .mv (.t 0)⟩, ⟨(some 7), (some (5, true)), .call i_token_all [(.t 6), (.c (.fn i_token_inToken []))]⟩, ⟨(some 8), none, .pick (.t 5) (.t 7) (.c (.bool false))⟩, ⟨(some 2), none, .mv (.t 8)⟩])
  .ret))⟩
/-- gatepost/line.isTarget -/
def c_line_isTarget : FnC := ⟨22, [.tmp 2],
  (.seq (.region [⟨(some 2), none, .mv (.c (.bool false))⟩])
  (.seq (.seq (.region [⟨(some 4), none, .mv (.t 0)⟩, ⟨(some 5), none, .len 0 (.t 4)⟩, ⟨(some 6), none, .mv (.c (.int .i64 0))⟩])
  (.block 0 (.loop
    (.seq (.region [⟨(some 7), none, .bin .lss (.t 6) (.t 5)⟩])
    (.seq (.cond (.t 7)
      .skip
      (.exit 0))
    (.seq (.block 1 (.seq (.region [⟨(some 8), none, .mv (.t 6)⟩, ⟨(some 3), none, .mv (.t 8)⟩])
    (.seq (.region [⟨(some 9), none, .mv (.t 0)⟩, ⟨(some 10), none, .mv (.t 3)⟩, ⟨(some 11), none, .ixStr (.t 9) (.t 10)⟩, ⟨(some 12), none, .bin .leq (.t 11) (.c (.int .u8 32))⟩, ⟨(some 13), none, .mv (.t 12)⟩, ⟨(some 14), (some (13, false)), .mv (.t 0)⟩, ⟨(some 15), (some (13, false)), .mv (.t 3)⟩, ⟨(some 16), (some (13, false)), .ixStr (.t 14) (.t 15)⟩, ⟨(some 17), (some (13, false)), .bin .gtr (.t 16) (.c (.int .u8 126))⟩, ⟨(some 18), none, .pick (.t 13) (.c (.bool true)) (.t 17)⟩])
    (.cond (.t 18)
      (.seq (.region [⟨(some 2), none, .mv (.c (.bool false))⟩])
      .ret)
      .skip))))
    (.region [⟨(some 19), none, .bin .add (.t 6) (.c (.int .i64 1))⟩, ⟨(some 6), none, .mv (.t 19)⟩])))))))
  (.seq (.region [⟨(some 20), none, .mv (.t 0)⟩, ⟨(some 21), none, .bin .neq (.t 20) (.c (.str []))⟩, ⟨(some 2), none, .mv (.t 21)⟩])
  .ret)))⟩
/-- gatepost/line.version -/
def c_line_version : FnC := ⟨8, [.tmp 2],
  (.seq (.region [⟨(some 2), none, .mv (.c (.int .i64 0))⟩])
  (.seq (.seq (.region [⟨(some 3), none, .mv (.t 0)⟩])
  (.block 0 (.seq (.region [⟨(some 5), none, .bin .eql (.t 3) (.c (.str [72, 84, 84, 80, 47, 49, 46, 48]))⟩, ⟨(some 4), none, .mv (.t 5)⟩])
  (.cond (.t 4)
    (.seq (.region [⟨(some 2), none, .mv (.c (.int .i64 0))⟩])
    .ret)
    (.seq (.region [⟨(some 7), none, .bin .eql (.t 3) (.c (.str [72, 84, 84, 80, 47, 49, 46, 49]))⟩, ⟨(some 6), none, .mv (.t 7)⟩])
    (.cond (.t 6)
      (.seq (.region [⟨(some 2), none, .mv (.c (.int .i64 1))⟩])
      .ret)
      .skip))))))
  (.seq (.region [⟨(some 2), none, .mv (.c (.int .i64 (-1)))⟩])
  .ret)))⟩
/-- gatepost/line.Status$1 -/
def c_line_Status_1 : FnC := ⟨7, [.tmp 2, .tmp 3, .tmp 4, .tmp 5],
  (.seq (.region [⟨(some 2), none, .mv (.c (.int .i64 0))⟩, ⟨(some 3), none, .mv (.c (.int .i64 0))⟩, ⟨(some 4), none, .mv (.c (.str []))⟩, ⟨(some 5), none, .mv (.c (.int .i64 0))⟩])
  (.seq (.region [⟨(some 6), none, .mv (.t 0)⟩, ⟨(some 2), none, .mv (.c (.int .i64 0))⟩, ⟨(some 3), none, .mv (.c (.int .i64 0))⟩, ⟨(some 4), none, .mv (.c (.str []))⟩, ⟨(some 5), none, .mv (.t 6)⟩])
  .ret))⟩
/-- strings.Cut -/
def c_strings_Cut : FnC := ⟨13, [.tmp 4, .tmp 5, .tmp 6],
  (.seq (.region [⟨(some 4), none, .mv (.c (.str []))⟩, ⟨(some 5), none, .mv (.c (.str []))⟩, ⟨(some 6), none, .mv (.c (.bool false))⟩])
  (.seq (.region [⟨(some 7), none, .mv (.t 0)⟩, ⟨(some 8), none, .mv (.t 1)⟩, ⟨(some 9), none, .call i_internal_stringslite_Cut [(.t 7), (.t 8)]⟩, ⟨(some 10), none, .ext 0 (.t 9)⟩, ⟨(some 11), none, .ext 1 (.t 9)⟩, ⟨(some 12), none, .ext 2 (.t 9)⟩, ⟨(some 4), none, .mv (.t 10)⟩, ⟨(some 5), none, .mv (.t 11)⟩, ⟨(some 6), none, .mv (.t 12)⟩])
  .ret))⟩
/-- gatepost/token.Number -/
def c_token_Number : FnC := ⟨48, [.tmp 4, .tmp 5],
  (.seq (.region [⟨(some 4), none, .mv (.c (.int .i64 0))⟩, ⟨(some 5), none, .mv (.c (.bool false))⟩])
  (.seq (.seq (.region [⟨(some 9), none, .mv (.t 0)⟩, ⟨(some 10), none, .bin .eql (.t 9) (.c (.str []))⟩, ⟨(some 11), none, .mv (.t 10)⟩, ⟨(some 12), (some (11, false)), .mv (.t 1)⟩, ⟨(some 13), (some (11, false)), .bin .lss (.t 12) (.c (.int .i64 0))⟩, ⟨(some 14), none, .pick (.t 11) (.c (.bool true)) (.t 13)⟩, ⟨(some 15), none, .mv (.t 14)⟩, ⟨(some 16), (some (15, false)), .mv (.t 0)⟩, ⟨(some 17), (some (15, false)), .call i_token_all [(.t 16), (.c (.fn i_token_Number_1 []))]⟩, ⟨(some 18), (some (15, false)), .un .not (.t 17)⟩, ⟨(some 19), none, .pick (.t 15) (.c (.bool true)) (.t 18)⟩])
  (.cond (.t 19)
    (.seq (.region [⟨(some 4), none, .mv (.c (.int .i64 0))⟩, ⟨(some 5), none, .mv (.c (.bool false))⟩])
    .ret)
    .skip))
  (.seq (.region [⟨(some 6), none, .mv (.c (.int .i64 0))⟩])
  (.seq (.seq (.region [⟨(some 20), none, .mv (.t 0)⟩, ⟨(some 21), none, .len 0 (.t 20)⟩, ⟨(some 22), none, .mv (.c (.int .i64 0))⟩])
  (.block 0 (.loop
    (.seq (.region [⟨(some 23), none, .bin .lss (.t 22) (.t 21)⟩])
    (.seq (.cond (.t 23)
      .skip
      (.exit 0))
    (.seq (.block 1 (.seq (.region [⟨(some 24), none, .mv (.t 22)⟩, ⟨(some 7), none, .mv (.t 24)⟩])
    (.seq (.region [⟨(some 25), none, .mv (.t 0)⟩, ⟨(some 26), none, .mv (.t 7)⟩, ⟨(some 27), none, .ixStr (.t 25) (.t 26)⟩, ⟨(some 28), none, .bin .sub (.t 27) (.c (.int .u8 48))⟩, ⟨(some 29), none, .toInt .i64 (.t 28)⟩, ⟨(some 8), none, .mv (.t 29)⟩])
    (.seq (.seq (.region [⟨(some 30), none, .mv (.t 8)⟩, ⟨(some 31), none, .mv (.t 1)⟩, ⟨(some 32), none, .bin .gtr (.t 30) (.t 31)⟩, ⟨(some 33), none, .mv (.t 32)⟩, ⟨(some 34), (some (33, false)), .mv (.t 6)⟩, ⟨(some 35), (some (33, false)), .mv (.t 1)⟩, ⟨(some 36), (some (33, false)), .mv (.t 8)⟩, ⟨(some 37), (some (33, false)), .bin .sub (.t 35) (.t 36)⟩, ⟨(some 38), (some (33, false)), .bin .quo (.t 37) (.c (.int .i64 10))⟩, ⟨(some 39), (some (33, false)), .bin .gtr (.t 34) (.t 38)⟩, ⟨(some 40), none, .pick (.t 33) (.c (.bool true)) (.t 39)⟩])
    (.cond (.t 40)
      (.seq (.region [⟨(some 41), none, .mv (.t 1)⟩, ⟨(some 4), none, .mv (.t 41)⟩, ⟨(some 5), none, .mv (.c (.bool true))⟩])
      .ret)
      .skip))
    (.region [⟨(some 42), none, .mv (.t 6)⟩, ⟨(some 43), none, .bin .mul (.c (.int .i64 10)) (.t 42)⟩, ⟨(some 44), none, .mv (.t 8)⟩, ⟨(some 45), none, .bin .add (.t 43) (.t 44)⟩, ⟨(some 6), none, .mv (.t 45)⟩])))))
    (.region [⟨(some 46), none, .bin .add (.t 22) (.c (.int .i64 1))⟩, ⟨(some 22), none, .mv (.t 46)⟩])))))))
  (.seq (.region [⟨(some 47), none, .mv (.t 6)⟩, ⟨(some 4), none, .mv (.t 47)⟩, ⟨(some 5), none, .mv (.c (.bool true))⟩])
  .ret)))))⟩
/-- gatepost/line.isReason -/
def c_line_isReason : FnC := ⟨24, [.tmp 2],
  (.seq (.region [⟨(some 2), none, .mv (.c (.bool false))⟩])
  (.seq (.seq (.region [⟨(some 5), none, .mv (.t 0)⟩, ⟨(some 6), none, .len 0 (.t 5)⟩, ⟨(some 7), none, .mv (.c (.int .i64 0))⟩])
  (.block 0 (.loop
    (.seq (.region [⟨(some 8), none, .bin .lss (.t 7) (.t 6)⟩])
    (.seq (.cond (.t 8)
      .skip
      (.exit 0))
    (.seq (.block 1 (.seq (.region [⟨(some 9), none, .mv (.t 7)⟩, ⟨(some 3), none, .mv (.t 9)⟩])
    (.seq (.region [⟨(some 10), none, .mv (.t 0)⟩, ⟨(some 11), none, .mv (.t 3)⟩, ⟨(some 12), none, .ixStr (.t 10) (.t 11)⟩, ⟨(some 4), none, .mv (.t 12)⟩])
    (.seq (.region [⟨(some 13), none, .mv (.t 4)⟩, ⟨(some 14), none, .bin .lss (.t 13) (.c (.int .u8 32))⟩, ⟨(some 15), none, .mv (.t 14)⟩, ⟨(some 16), (some (15, true)), .mv (.t 4)⟩, ⟨(some 17), (some (15, true)), .bin .neq (.t 16) (.c (.int .u8 9))⟩, ⟨(some 18), none, .pick (.t 15) (.t 17) (.c (.bool false))⟩, ⟨(some 19), none, .mv (.t 18)⟩, ⟨(some 20), (some (19, false)), .mv (.t 4)⟩, ⟨(some 21), (some (19, false)), .bin .eql (.t 20) (.c (.int .u8 127))⟩, ⟨(some 22), none, .pick (.t 19) (.c (.bool true)) (.t 21)⟩])
    (.cond (.t 22)
      (.seq (.region [⟨(some 2), none, .mv (.c (.bool false))⟩])
      .ret)
      .skip)))))
    (.region [⟨(some 23), none, .bin .add (.t 7) (.c (.int .i64 1))⟩, ⟨(some 7), none, .mv (.t 23)⟩])))))))
  (.seq (.region [⟨(some 2), none, .mv (.c (.bool true))⟩])
  .ret)))⟩
/-- gatepost/gatepostref03.Status -/
def c_gatepostref03_Status : FnC := ⟨63, [.tmp 2, .tmp 3, .tmp 4, .tmp 5],
  (.seq (.region [⟨(some 2), none, .mv (.c (.int .i64 0))⟩, ⟨(some 3), none, .mv (.c (.int .i64 0))⟩, ⟨(some 4), none, .mv (.c (.str []))⟩, ⟨(some 5), none, .mv (.c (.int .i64 0))⟩])
  (.seq (.seq (.region [⟨(some 8), none, .mv (.t 0)⟩, ⟨(some 9), none, .len 0 (.t 8)⟩, ⟨(some 10), none, .bin .gtr (.t 9) (.c (.int .i64 1024))⟩])
  (.cond (.t 10)
    (.seq (.region [⟨(some 2), none, .mv (.c (.int .i64 0))⟩, ⟨(some 3), none, .mv (.c (.int .i64 0))⟩, ⟨(some 4), none, .mv (.c (.str []))⟩, ⟨(some 5), none, .mv (.c (.int .i64 3))⟩])
    .ret)
    .skip))
  (.seq (.seq (.region [⟨(some 11), none, .mv (.t 0)⟩, ⟨(some 12), none, .len 0 (.t 11)⟩, ⟨(some 13), none, .bin .lss (.t 12) (.c (.int .i64 12))⟩, ⟨(some 14), none, .mv (.t 13)⟩, ⟨(some 15), (some (14, false)), .mv (.t 0)⟩, ⟨(some 16), (some (14, false)), .slstr (.t 15) none (some (.c (.int .i64 8)))⟩, ⟨(some 17), (some (14, false)), .call i_gatepostref03_version [(.t 16)]⟩, ⟨(some 18), (some (14, false)), .bin .lss (.t 17) (.c (.int .i64 0))⟩, ⟨(some 19), none, .pick (.t 14) (.c (.bool true)) (.t 18)⟩, ⟨(some 20), none, .mv (.t 19)⟩, ⟨(some 21), (some (20, false)), .mv (.t 0)⟩, ⟨(some 22), (some (20, false)), .ixStr (.t 21) (.c (.int .i64 8))⟩, ⟨(some 23), (some (20, false)), .bin .neq (.t 22) (.c (.int .u8 32))⟩, ⟨(some 24), none, .pick (.t 20) (.c (.bool true)) (.t 23)⟩])
  (.cond (.t 24)
    (.seq (.region [⟨(some 2), none, .mv (.c (.int .i64 0))⟩, ⟨(some 3), none, .mv (.c (.int .i64 0))⟩, ⟨(some 4), none, .mv (.c (.str []))⟩, ⟨(some 5), none, .mv (.c (.int .i64 30))⟩])
    .ret)
    .skip))
  (.seq (.region [⟨(some 26), none, .mv (.t 0)⟩, ⟨(some 27), none, .slstr (.t 26) (some (.c (.int .i64 9))) (some (.c (.int .i64 12)))⟩, ⟨(some 28), none, .call i_gatepostref01_Number [(.t 27), (.c (.int .i64 1000))]⟩, ⟨(some 25), none, .mv (.t 28)⟩, ⟨(some 29), none, .ext 0 (.t 25)⟩, ⟨(some 30), none, .ext 1 (.t 25)⟩, ⟨(some 6), none, .mv (.t 29)⟩, ⟨(some 7), none, .mv (.t 30)⟩])
  (.seq (.seq (.region [⟨(some 31), none, .mv (.t 7)⟩, ⟨(some 32), none, .un .not (.t 31)⟩, ⟨(some 33), none, .mv (.t 32)⟩, ⟨(some 34), (some (33, false)), .mv (.t 6)⟩, ⟨(some 35), (some (33, false)), .bin .lss (.t 34) (.c (.int .i64 100))⟩, ⟨(some 36), none, .pick (.t 33) (.c (.bool true)) (.t 35)⟩, ⟨(some 37), none, .mv (.t 36)⟩, ⟨(some 38), (some (37, false)), .mv (.t 6)⟩, ⟨(some 39), (some (37, false)), .bin .gtr (.t 38) (.c (.int .i64 599))⟩, ⟨(some 40), none, .pick (.t 37) (.c (.bool true)) (.t 39)⟩])
  (.cond (.t 40)
    (.seq (.region [⟨(some 2), none, .mv (.c (.int .i64 0))⟩, ⟨(some 3), none, .mv (.c (.int .i64 0))⟩, ⟨(some 4), none, .mv (.c (.str []))⟩, ⟨(some 5), none, .mv (.c (.int .i64 30))⟩])
    .ret)
    .skip))
  (.seq (.seq (.region [⟨(some 41), none, .mv (.t 0)⟩, ⟨(some 42), none, .len 0 (.t 41)⟩, ⟨(some 43), none, .bin .eql (.t 42) (.c (.int .i64 12))⟩])
  (.cond (.t 43)
    (.seq (.region [⟨(some 44), none, .mv (.t 0)⟩, ⟨(some 45), none, .slstr (.t 44) none (some (.c (.int .i64 8)))⟩, ⟨(some 46), none, .call i_gatepostref03_version [(.t 45)]⟩, ⟨(some 47), none, .mv (.t 6)⟩, ⟨(some 2), none, .mv (.t 46)⟩, ⟨(some 3), none, .mv (.t 47)⟩, ⟨(some 4), none, .mv (.c (.str []))⟩, ⟨(some 5), none, .mv (.c (.int .i64 0))⟩])
    .ret)
    .skip))
  (.seq (.seq (.region [⟨(some 48), none, .mv (.t 0)⟩, ⟨(some 49), none, .ixStr (.t 48) (.c (.int .i64 12))⟩, ⟨(some 50), none, .bin .neq (.t 49) (.c (.int .u8 32))⟩, ⟨(some 51), none, .mv (.t 50)⟩, ⟨(some 52), (some (51, false)), .mv (.t 0)⟩, ⟨(some 53), (some (51, false)), .slstr (.t 52) (some (.c (.int .i64 13))) none⟩, ⟨(some 54), (some (51, false)), .call i_gatepostref03_reason [(.t 53)]⟩, ⟨(some 55), (some (51, false)), .un .not (.t 54)⟩, ⟨(some 56), none, .pick (.t 51) (.c (.bool true)) (.t 55)⟩])
  (.cond (.t 56)
    (.seq (.region [⟨(some 2), none, .mv (.c (.int .i64 0))⟩, ⟨(some 3), none, .mv (.c (.int .i64 0))⟩, ⟨(some 4), none, .mv (.c (.str []))⟩, ⟨(some 5), none, .mv (.c (.int .i64 30))⟩])
    .ret)
    .skip))
  (.seq (.dregion [⟨(some 57), none, .mv (.t 0)⟩, ⟨(some 58), none, .slstr (.t 57) none (some (.c (.int .i64 8)))⟩, ⟨(some 59), none, .call i_gatepostref03_version [(.t 58)]⟩, ⟨(some 60), none, .mv (.t 6)⟩, ⟨(some 61), none, .mv (.t 0)⟩, ⟨(some 62), none, .slstr (.t 61) (some (.c (.int .i64 13))) none⟩, ⟨(some 2), none, .mv (.t 59)⟩, ⟨(some 3), none, .mv (.t 60)⟩] [⟨(some 4), none, .mv (.t 62)⟩, ⟨(some 5), none, .mv (.c (.int .i64 0))⟩])
  .ret))))))))⟩
/-- gatepost/gatepostref03.Request -/
def c_gatepostref03_Request : FnC := ⟨68, [.tmp 2, .tmp 3, .tmp 4, .tmp 5],
  (.seq (.region [⟨(some 2), none, .mv (.c (.str []))⟩, ⟨(some 3), none, .mv (.c (.str []))⟩, ⟨(some 4), none, .mv (.c (.int .i64 0))⟩, ⟨(some 5), none, .mv (.c (.int .i64 0))⟩])
  (.seq (.seq (.region [⟨(some 8), none, .mv (.t 0)⟩, ⟨(some 9), none, .len 0 (.t 8)⟩, ⟨(some 10), none, .bin .gtr (.t 9) (.c (.int .i64 1024))⟩])
  (.cond (.t 10)
    (.seq (.region [⟨(some 2), none, .mv (.c (.str []))⟩, ⟨(some 3), none, .mv (.c (.str []))⟩, ⟨(some 4), none, .mv (.c (.int .i64 0))⟩, ⟨(some 5), none, .mv (.c (.int .i64 3))⟩])
    .ret)
    .skip))
  (.seq (.seq (.region [⟨(some 6), none, .mv (.c (.int .i64 0))⟩])
  (.block 0 (.loop
    (.seq (.seq (.region [⟨(some 11), none, .mv (.t 6)⟩, ⟨(some 12), none, .mv (.t 0)⟩, ⟨(some 13), none, .len 0 (.t 12)⟩, ⟨(some 14), none, .bin .lss (.t 11) (.t 13)⟩])
    (.cond (.t 14)
      .skip
      (.exit 0)))
    (.seq (.block 1 (.seq (.seq (.region [⟨(some 17), none, .mv (.t 0)⟩, ⟨(some 18), none, .mv (.t 6)⟩, ⟨(some 19), none, .ixStr (.t 17) (.t 18)⟩, ⟨(some 20), none, .bin .neq (.t 19) (.c (.int .u8 32))⟩])
    (.cond (.t 20)
      (.exit 1)
      .skip))
    (.seq (.region [⟨(some 21), none, .mv (.t 6)⟩, ⟨(some 22), none, .bin .add (.t 21) (.c (.int .i64 1))⟩, ⟨(some 7), none, .mv (.t 22)⟩])
    (.block 2 (.loop
      (.seq (.seq (.region [⟨(some 23), none, .mv (.t 7)⟩, ⟨(some 24), none, .mv (.t 0)⟩, ⟨(some 25), none, .len 0 (.t 24)⟩, ⟨(some 26), none, .bin .lss (.t 23) (.t 25)⟩])
      (.cond (.t 26)
        .skip
        (.exit 2)))
      (.seq (.block 3 (.seq (.region [⟨(some 29), none, .mv (.t 0)⟩, ⟨(some 30), none, .mv (.t 7)⟩, ⟨(some 31), none, .ixStr (.t 29) (.t 30)⟩, ⟨(some 32), none, .bin .eql (.t 31) (.c (.int .u8 32))⟩, ⟨(some 33), none, .mv (.t 32)⟩, ⟨(some 34), (some (33, true)), .mv (.t 0)⟩, ⟨(some 35), (some (33, true)), .mv (.t 6)⟩, ⟨(some 36), (some (33, true)), .slstr (.t 34) none (some (.t 35))⟩, ⟨(some 37), (some (33, true)), .call i_gatepostref01_Is [(.t 36)]⟩, ⟨(some 38), none, .pick (.t 33) (.t 37) (.c (.bool false))⟩, ⟨(some 39), none, .mv (.t 38)⟩, ⟨(some 40), (some (39, true)), .mv (.t 0)⟩, ⟨(some 41), (some (39, true)), .mv (.t 6)⟩, ⟨(some 42), (some (39, true)), .bin .add (.t 41) (.c (.int .i64 1))⟩, ⟨(some 43), (some (39, true)), .mv (.t 7)⟩, ⟨(some 44), (some (39, true)), .slstr (.t 40) (some (.t 42)) (some (.t 43))⟩, ⟨(some 45), (some (39, true)), .call i_gatepostref03_target [(.t 44)]⟩, ⟨(some 46), none, .pick (.t 39) (.t 45) (.c (.bool false))⟩, ⟨(some 47), none, .mv (.t 46)⟩, ⟨(some 48), (some (47, true)), .mv (.t 0)⟩, ⟨(some 49), (some (47, true)), .mv (.t 7)⟩, ⟨(some 50), (some (47, true)), .bin .add (.t 49) (.c (.int .i64 1))⟩, ⟨(some 51), (some (47, true)), .slstr (.t 48) (some (.t 50)) none⟩, ⟨(some 52), (some (47, true)), .call i_gatepostref03_version [(.t 51)]⟩, ⟨(some 53), (some (47, true)), .bin .geq (.t 52) (.c (.int .i64 0))⟩, ⟨(some 54), none, .pick (.t 47) (.t 53) (.c (.bool false))⟩])
      (.cond (.t 54)
        (.seq (.dregion [⟨(some 55), none, .mv (.t 0)⟩, ⟨(some 56), none, .mv (.t 6)⟩, ⟨(some 57), none, .slstr (.t 55) none (some (.t 56))⟩, ⟨(some 58), none, .mv (.t 0)⟩, ⟨(some 59), none, .mv (.t 6)⟩, ⟨(some 60), none, .bin .add (.t 59) (.c (.int .i64 1))⟩, ⟨(some 61), none, .mv (.t 7)⟩, ⟨(some 62), none, .slstr (.t 58) (some (.t 60)) (some (.t 61))⟩, ⟨(some 63), none, .mv (.t 0)⟩, ⟨(some 64), none, .mv (.t 7)⟩, ⟨(some 65), none, .bin .add (.t 64) (.c (.int .i64 1))⟩, ⟨(some 66), none, .slstr (.t 63) (some (.t 65)) none⟩, ⟨(some 67), none, .call i_gatepostref03_version [(.t 66)]⟩, ⟨(some 2), none, .mv (.t 57)⟩] [⟨(some 3), none, .mv (.t 62)⟩, ⟨(some 4), none, .mv (.t 67)⟩, ⟨(some 5), none, .mv (.c (.int .i64 0))⟩])
        .ret)
        .skip)))
      (.region [⟨(some 27), none, .mv (.t 7)⟩, ⟨(some 28), none, .bin .add (.t 27) (.c (.int .i64 1))⟩, ⟨(some 7), none, .mv (.t 28)⟩]))))))))
    (.region [⟨(some 15), none, .mv (.t 6)⟩, ⟨(some 16), none, .bin .add (.t 15) (.c (.int .i64 1))⟩, ⟨(some 6), none, .mv (.t 16)⟩]))))))
  (.seq (.region [⟨(some 2), none, .mv (.c (.str []))⟩, ⟨(some 3), none, .mv (.c (.str []))⟩, ⟨(some 4), none, .mv (.c (.int .i64 0))⟩, ⟨(some 5), none, .mv (.c (.int .i64 30))⟩])
  .ret))))⟩
/-- gatepost/gatepostref04.Parse -/
def c_gatepostref04_Parse : FnC := ⟨44, [.cell 2 true 2, .tmp 3],
  (.seq (.region [⟨(some 2), none, .boxz [(.str []), (.str [])]⟩, ⟨(some 3), none, .mv (.c (.int .i64 0))⟩])
  (.seq (.region [⟨(some 4), none, .mv (.c (.int .i64 0))⟩])
  (.seq (.block 0 (.loop
    (.seq (.seq (.region [⟨(some 6), none, .mv (.t 4)⟩, ⟨(some 7), none, .mv (.t 0)⟩, ⟨(some 8), none, .len 0 (.t 7)⟩, ⟨(some 9), none, .bin .lss (.t 6) (.t 8)⟩, ⟨(some 10), none, .mv (.t 9)⟩, ⟨(some 11), (some (10, true)), .mv (.t 0)⟩, ⟨(some 12), (some (10, true)), .mv (.t 4)⟩, ⟨(some 13), (some (10, true)), .ixStr (.t 11) (.t 12)⟩, ⟨(some 14), (some (10, true)), .bin .neq (.t 13) (.c (.int .u8 58))⟩, ⟨(some 15), none, .pick (.t 10) (.t 14) (.c (.bool false))⟩])
    (.cond (.t 15)
      .skip
      (.exit 0)))
    (.block 1 (.region [⟨(some 16), none, .mv (.t 4)⟩, ⟨(some 17), none, .bin .add (.t 16) (.c (.int .i64 1))⟩, ⟨(some 4), none, .mv (.t 17)⟩])))))
  (.seq (.seq (.region [⟨(some 18), none, .mv (.t 4)⟩, ⟨(some 19), none, .mv (.t 0)⟩, ⟨(some 20), none, .len 0 (.t 19)⟩, ⟨(some 21), none, .bin .eql (.t 18) (.t 20)⟩, ⟨(some 22), none, .mv (.t 21)⟩, ⟨(some 23), (some (22, false)), .mv (.t 0)⟩, ⟨(some 24), (some (22, false)), .mv (.t 4)⟩, ⟨(some 25), (some (22, false)), .slstr (.t 23) none (some (.t 24))⟩, ⟨(some 26), (some (22, false)), .call i_gatepostref01_Is [(.t 25)]⟩, ⟨(some 27), (some (22, false)), .un .not (.t 26)⟩, ⟨(some 28), none, .pick (.t 22) (.c (.bool true)) (.t 27)⟩])
  (.cond (.t 28)
    (.seq (.region [⟨(some 29), none, .build [(.str []), (.str [])] []⟩, ⟨none, none, .store 2 (.t 2) (.t 29)⟩, ⟨(some 3), none, .mv (.c (.int .i64 31))⟩])
    .ret)
    .skip))
  (.seq (.region [⟨(some 30), none, .mv (.t 0)⟩, ⟨(some 31), none, .mv (.t 4)⟩, ⟨(some 32), none, .bin .add (.t 31) (.c (.int .i64 1))⟩, ⟨(some 33), none, .slstr (.t 30) (some (.t 32)) none⟩, ⟨(some 34), none, .call i_gatepostref01_Trim [(.t 33)]⟩, ⟨(some 5), none, .mv (.t 34)⟩])
  (.seq (.seq (.region [⟨(some 35), none, .mv (.t 5)⟩, ⟨(some 36), none, .call i_gatepostref01_Value [(.t 35)]⟩, ⟨(some 37), none, .un .not (.t 36)⟩])
  (.cond (.t 37)
    (.seq (.region [⟨(some 38), none, .build [(.str []), (.str [])] []⟩, ⟨none, none, .store 2 (.t 2) (.t 38)⟩, ⟨(some 3), none, .mv (.c (.int .i64 31))⟩])
    .ret)
    .skip))
  (.seq (.region [⟨(some 39), none, .mv (.t 0)⟩, ⟨(some 40), none, .mv (.t 4)⟩, ⟨(some 41), none, .slstr (.t 39) none (some (.t 40))⟩, ⟨(some 42), none, .mv (.t 5)⟩, ⟨(some 43), none, .build [(.str []), (.str [])] [(0, 1, (.t 41)), (1, 1, (.t 42))]⟩, ⟨none, none, .store 2 (.t 2) (.t 43)⟩, ⟨(some 3), none, .mv (.c (.int .i64 0))⟩])
  .ret)))))))⟩
/-- gatepost/field.Parse -/
def c_field_Parse : FnC := ⟨27, [.cell 2 true 2, .tmp 3],
  (.seq (.region [⟨(some 2), none, .boxz [(.str []), (.str [])]⟩, ⟨(some 3), none, .mv (.c (.int .i64 0))⟩])
  (.seq (.region [⟨(some 9), none, .mv (.t 0)⟩, ⟨(some 10), none, .call i_strings_Cut [(.t 9), (.c (.str [58]))]⟩, ⟨(some 8), none, .mv (.t 10)⟩, ⟨(some 11), none, .ext 0 (.t 8)⟩, ⟨(some 12), none, .ext 1 (.t 8)⟩, ⟨(some 13), none, .ext 2 (.t 8)⟩, ⟨(some 4), none, .mv (.t 11)⟩, ⟨(some 5), none, .mv (.t 12)⟩, ⟨(some 6), none, .mv (.t 13)⟩])
  (.seq (.region [⟨(some 14), none, .mv (.t 4)⟩, ⟨(some 15), none, .mv (.t 5)⟩, ⟨(some 16), none, .call i_token_Trim [(.t 15)]⟩, ⟨(some 17), none, .build [(.str []), (.str [])] [(0, 1, (.t 14)), (1, 1, (.t 16))]⟩, ⟨(some 7), none, .boxz [(.str []), (.str [])]⟩, ⟨none, none, .store 2 (.t 7) (.t 17)⟩])
  (.seq (.seq (.region [⟨(some 18), none, .mv (.t 6)⟩, ⟨(some 19), none, .un .not (.t 18)⟩, ⟨(some 20), none, .mv (.t 19)⟩, ⟨(some 21), (some (20, false)), .load true 2 (.t 7)⟩, ⟨(some 22), (some (20, false)), .call i_field_fine [(.t 21)]⟩, ⟨(some 23), (some (20, false)), .un .not (.t 22)⟩, ⟨(some 24), none, .pick (.t 20) (.c (.bool true)) (.t 23)⟩])
  (.cond (.t 24)
    (.seq (.region [⟨(some 25), none, .build [(.str []), (.str [])] []⟩, ⟨none, none, .store 2 (.t 2) (.t 25)⟩, ⟨(some 3), none, .mv (.c (.int .i64 31))⟩])
    .ret)
    .skip))
  (.seq (.region [⟨(some 26), none, .load true 2 (.t 7)⟩, ⟨none, none, .store 2 (.t 2) (.t 26)⟩, ⟨(some 3), none, .mv (.c (.int .i64 0))⟩])
  .ret)))))⟩
/-- strings.Split -/
def c_strings_Split : FnC := ⟨8, [.tmp 4],
  (.seq (.region [⟨(some 4), none, .mv (.c .nsl)⟩])
  (.seq (.region [⟨(some 5), none, .mv (.t 0)⟩, ⟨(some 6), none, .mv (.t 1)⟩, ⟨(some 7), none, .call i_strings_genSplit [(.t 5), (.t 6), (.c (.int .i64 0)), (.c (.int .i64 (-1)))]⟩, ⟨(some 4), none, .mv (.t 7)⟩])
  .ret))⟩
/-- gatepost/token.all -/
def c_token_all : FnC := ⟨18, [.tmp 4],
  (.seq (.region [⟨(some 4), none, .mv (.c (.bool false))⟩])
  (.seq (.seq (.region [⟨(some 6), none, .mv (.t 0)⟩, ⟨(some 7), none, .len 0 (.t 6)⟩, ⟨(some 8), none, .mv (.c (.int .i64 0))⟩])
  (.block 0 (.loop
    (.seq (.region [⟨(some 9), none, .bin .lss (.t 8) (.t 7)⟩])
    (.seq (.cond (.t 9)
      .skip
      (.exit 0))
    (.seq (.block 1 (.seq (.region [⟨(some 10), none, .mv (.t 8)⟩, ⟨(some 5), none, .mv (.t 10)⟩])
    (.seq (.region [⟨(some 11), none, .mv (.t 1)⟩, ⟨(some 12), none, .mv (.t 0)⟩, ⟨(some 13), none, .mv (.t 5)⟩, ⟨(some 14), none, .ixStr (.t 12) (.t 13)⟩, ⟨(some 15), none, .callv (.t 11) [(.t 14)]⟩, ⟨(some 16), none, .un .not (.t 15)⟩])
    (.cond (.t 16)
      (.seq (.region [⟨(some 4), none, .mv (.c (.bool false))⟩])
      .ret)
      .skip))))
    (.region [⟨(some 17), none, .bin .add (.t 8) (.c (.int .i64 1))⟩, ⟨(some 8), none, .mv (.t 17)⟩])))))))
  (.seq (.region [⟨(some 4), none, .mv (.c (.bool true))⟩])
  .ret)))⟩
/-- gatepost/token.inToken -/
def c_token_inToken : FnC := ⟨30, [.tmp 2],
  (.seq (.region [⟨(some 2), none, .mv (.c (.bool false))⟩])
  (.seq (.seq (.region [⟨(some 6), none, .mv (.t 0)⟩, ⟨(some 7), none, .bin .or (.t 6) (.c (.int .u8 32))⟩, ⟨(some 3), none, .mv (.t 7)⟩])
  (.seq (.region [⟨(some 8), none, .mv (.t 3)⟩, ⟨(some 9), none, .bin .geq (.t 8) (.c (.int .u8 97))⟩, ⟨(some 10), none, .mv (.t 9)⟩, ⟨(some 11), (some (10, true)), .mv (.t 3)⟩, ⟨(some 12), (some (10, true)), .bin .leq (.t 11) (.c (.int .u8 122))⟩, ⟨(some 13), none, .pick (.t 10) (.t 12) (.c (.bool false))⟩, ⟨(some 14), none, .mv (.t 13)⟩, ⟨(some 15), (some (14, false)), .mv (.t 0)⟩, ⟨(some 16), (some (14, false)), .bin .geq (.t 15) (.c (.int .u8 48))⟩, ⟨(some 17), (some (14, false)), .mv (.t 16)⟩, ⟨(some 18), (some (17, true)), .mv (.t 0)⟩, ⟨(some 19), (some (17, true)), .bin .leq (.t 18) (.c (.int .u8 57))⟩, ⟨(some 20), (some (14, false)), .pick (.t 17) (.t 19) (.c (.bool false))⟩, ⟨(some 21), none, .pick (.t 14) (.c (.bool true)) (.t 20)⟩])
  (.cond (.t 21)
    (.seq (.region [⟨(some 2), none, .mv (.c (.bool true))⟩])
    .ret)
    .skip)))
  (.seq (.seq (.region [⟨(some 22), none, .call i_token_marks []⟩, ⟨(some 23), none, .mv (.c (.int .i64 0))⟩])
  (.block 0 (.loop
    (.seq (.region [⟨(some 24), none, .bin .lss (.t 23) (.c (.int .i64 15))⟩])
    (.seq (.cond (.t 24)
      .skip
      (.exit 0))
    (.seq (.block 1 (.seq (.region [⟨(some 25), none, .ixArr 15 1 false (.t 22) (.t 23)⟩, ⟨(some 5), none, .mv (.t 25)⟩])
    (.seq (.region [⟨(some 26), none, .mv (.t 5)⟩, ⟨(some 27), none, .mv (.t 0)⟩, ⟨(some 28), none, .bin .eql (.t 26) (.t 27)⟩])
    (.cond (.t 28)
      (.seq (.region [⟨(some 2), none, .mv (.c (.bool true))⟩])
      .ret)
      .skip))))
    (.region [⟨(some 29), none, .bin .add (.t 23) (.c (.int .i64 1))⟩, ⟨(some 23), none, .mv (.t 29)⟩])))))))
  (.seq (.region [⟨(some 2), none, .mv (.c (.bool false))⟩])
  .ret))))⟩
/-- internal/stringslite.Cut -/
def c_internal_stringslite_Cut : FnC := ⟨23, [.tmp 4, .tmp 5, .tmp 6],
  (.seq (.region [⟨(some 4), none, .mv (.c (.str []))⟩, ⟨(some 5), none, .mv (.c (.str []))⟩, ⟨(some 6), none, .mv (.c (.bool false))⟩])
  (.seq (.seq (.region [⟨(some 8), none, .mv (.t 0)⟩, ⟨(some 9), none, .mv (.t 1)⟩, ⟨(some 10), none, .call i_internal_stringslite_Index [(.t 8), (.t 9)]⟩, ⟨(some 7), none, .mv (.t 10)⟩])
  (.seq (.region [⟨(some 11), none, .mv (.t 7)⟩, ⟨(some 12), none, .bin .geq (.t 11) (.c (.int .i64 0))⟩])
  (.cond (.t 12)
    (.seq (.dregion [⟨(some 13), none, .mv (.t 0)⟩, ⟨(some 14), none, .mv (.t 7)⟩, ⟨(some 15), none, .slstr (.t 13) none (some (.t 14))⟩, ⟨(some 16), none, .mv (.t 0)⟩, ⟨(some 17), none, .mv (.t 7)⟩, ⟨(some 18), none, .mv (.t 1)⟩, ⟨(some 19), none, .len 0 (.t 18)⟩, ⟨(some 20), none, .bin .add (.t 17) (.t 19)⟩, ⟨(some 21), none, .slstr (.t 16) (some (.t 20)) none⟩, ⟨(some 4), none, .mv (.t 15)⟩] [⟨(some 5), none, .mv (.t 21)⟩, ⟨(some 6), none, .mv (.c (.bool true))⟩])
    .ret)
    .skip)))
  (.seq (.region [⟨(some 22), none, .mv (.t 0)⟩, ⟨(some 4), none, .mv (.t 22)⟩, ⟨(some 5), none, .mv (.c (.str []))⟩, ⟨(some 6), none, .mv (.c (.bool false))⟩])
  .ret)))⟩
/-- gatepost/token.Number$1 -/
def c_token_Number_1 : FnC := ⟨9, [.tmp 2],
  (.seq (.region [⟨(some 2), none, .mv (.c (.bool false))⟩])
  (.seq (.region [⟨(some 3), none, .mv (.t 0)⟩, ⟨(some 4), none, .bin .geq (.t 3) (.c (.int .u8 48))⟩, ⟨(some 5), none, .mv (.t 4)⟩, ⟨(some 6), (some (5, true)), .mv (.t 0)⟩, ⟨(some 7), (some (5, true)), .bin .leq (.t 6) (.c (.int .u8 57))⟩, ⟨(some 8), none, .pick (.t 5) (.t 7) (.c (.bool false))⟩, ⟨(some 2), none, .mv (.t 8)⟩])
  .ret))⟩
/-- gatepost/gatepostref03.version -/
def c_gatepostref03_version : FnC := ⟨7, [.tmp 2],
  (.seq (.region [⟨(some 2), none, .mv (.c (.int .i64 0))⟩])
  (.seq (.seq (.region [⟨(some 3), none, .mv (.t 0)⟩, ⟨(some 4), none, .bin .eql (.t 3) (.c (.str [72, 84, 84, 80, 47, 49, 46, 48]))⟩])
  (.cond (.t 4)
    (.seq (.region [⟨(some 2), none, .mv (.c (.int .i64 0))⟩])
    .ret)
    .skip))
  (.seq (.seq (.region [⟨(some 5), none, .mv (.t 0)⟩, ⟨(some 6), none, .bin .eql (.t 5) (.c (.str [72, 84, 84, 80, 47, 49, 46, 49]))⟩])
  (.cond (.t 6)
    (.seq (.region [⟨(some 2), none, .mv (.c (.int .i64 1))⟩])
    .ret)
    .skip))
  (.seq (.region [⟨(some 2), none, .mv (.c (.int .i64 (-1)))⟩])
  .ret))))⟩
/-- gatepost/gatepostref01.Number -/
def c_gatepostref01_Number : FnC := ⟨61, [.tmp 4, .tmp 5],
  (.seq (.region [⟨(some 4), none, .mv (.c (.int .i64 0))⟩, ⟨(some 5), none, .mv (.c (.bool false))⟩])
  (.seq (.seq (.region [⟨(some 10), none, .mv (.t 1)⟩, ⟨(some 11), none, .bin .lss (.t 10) (.c (.int .i64 0))⟩, ⟨(some 12), none, .mv (.t 11)⟩, ⟨(some 13), (some (12, false)), .mv (.t 0)⟩, ⟨(some 14), (some (12, false)), .len 0 (.t 13)⟩, ⟨(some 15), (some (12, false)), .bin .eql (.t 14) (.c (.int .i64 0))⟩, ⟨(some 16), none, .pick (.t 12) (.c (.bool true)) (.t 15)⟩])
  (.cond (.t 16)
    (.seq (.region [⟨(some 4), none, .mv (.c (.int .i64 0))⟩, ⟨(some 5), none, .mv (.c (.bool false))⟩])
    .ret)
    .skip))
  (.seq (.region [⟨(some 6), none, .mv (.c (.int .i64 0))⟩])
  (.seq (.seq (.region [⟨(some 7), none, .mv (.c (.int .i64 0))⟩])
  (.block 0 (.loop
    (.seq (.seq (.region [⟨(some 17), none, .mv (.t 7)⟩, ⟨(some 18), none, .mv (.t 0)⟩, ⟨(some 19), none, .len 0 (.t 18)⟩, ⟨(some 20), none, .bin .lss (.t 17) (.t 19)⟩])
    (.cond (.t 20)
      .skip
      (.exit 0)))
    (.seq (.block 1 (.seq (.region [⟨(some 23), none, .mv (.t 0)⟩, ⟨(some 24), none, .mv (.t 7)⟩, ⟨(some 25), none, .ixStr (.t 23) (.t 24)⟩, ⟨(some 26), none, .bin .lss (.t 25) (.c (.int .u8 48))⟩, ⟨(some 27), none, .mv (.t 26)⟩, ⟨(some 28), (some (27, false)), .mv (.t 0)⟩, ⟨(some 29), (some (27, false)), .mv (.t 7)⟩, ⟨(some 30), (some (27, false)), .ixStr (.t 28) (.t 29)⟩, ⟨(some 31), (some (27, false)), .bin .gtr (.t 30) (.c (.int .u8 57))⟩, ⟨(some 32), none, .pick (.t 27) (.c (.bool true)) (.t 31)⟩])
    (.cond (.t 32)
      (.seq (.region [⟨(some 4), none, .mv (.c (.int .i64 0))⟩, ⟨(some 5), none, .mv (.c (.bool false))⟩])
      .ret)
      .skip)))
    (.region [⟨(some 21), none, .mv (.t 7)⟩, ⟨(some 22), none, .bin .add (.t 21) (.c (.int .i64 1))⟩, ⟨(some 7), none, .mv (.t 22)⟩]))))))
  (.seq (.seq (.region [⟨(some 8), none, .mv (.c (.int .i64 0))⟩])
  (.block 2 (.loop
    (.seq (.seq (.region [⟨(some 33), none, .mv (.t 8)⟩, ⟨(some 34), none, .mv (.t 0)⟩, ⟨(some 35), none, .len 0 (.t 34)⟩, ⟨(some 36), none, .bin .lss (.t 33) (.t 35)⟩])
    (.cond (.t 36)
      .skip
      (.exit 2)))
    (.seq (.block 3 (.seq (.region [⟨(some 39), none, .mv (.t 0)⟩, ⟨(some 40), none, .mv (.t 8)⟩, ⟨(some 41), none, .ixStr (.t 39) (.t 40)⟩, ⟨(some 42), none, .bin .sub (.t 41) (.c (.int .u8 48))⟩, ⟨(some 43), none, .toInt .i64 (.t 42)⟩, ⟨(some 9), none, .mv (.t 43)⟩])
    (.seq (.seq (.region [⟨(some 44), none, .mv (.t 6)⟩, ⟨(some 45), none, .mv (.t 1)⟩, ⟨(some 46), none, .mv (.t 9)⟩, ⟨(some 47), none, .bin .sub (.t 45) (.t 46)⟩, ⟨(some 48), none, .bin .quo (.t 47) (.c (.int .i64 10))⟩, ⟨(some 49), none, .bin .gtr (.t 44) (.t 48)⟩, ⟨(some 50), none, .mv (.t 49)⟩, ⟨(some 51), (some (50, false)), .mv (.t 1)⟩, ⟨(some 52), (some (50, false)), .mv (.t 9)⟩, ⟨(some 53), (some (50, false)), .bin .lss (.t 51) (.t 52)⟩, ⟨(some 54), none, .pick (.t 50) (.c (.bool true)) (.t 53)⟩])
    (.cond (.t 54)
      (.seq (.region [⟨(some 55), none, .mv (.t 1)⟩, ⟨(some 4), none, .mv (.t 55)⟩, ⟨(some 5), none, .mv (.c (.bool true))⟩])
      .ret)
      .skip))
    (.region [⟨(some 56), none, .mv (.t 6)⟩, ⟨(some 57), none, .bin .mul (.t 56) (.c (.int .i64 10))⟩, ⟨(some 58), none, .mv (.t 9)⟩, ⟨(some 59), none, .bin .add (.t 57) (.t 58)⟩, ⟨(some 6), none, .mv (.t 59)⟩]))))
    (.region [⟨(some 37), none, .mv (.t 8)⟩, ⟨(some 38), none, .bin .add (.t 37) (.c (.int .i64 1))⟩, ⟨(some 8), none, .mv (.t 38)⟩]))))))
  (.seq (.region [⟨(some 60), none, .mv (.t 6)⟩, ⟨(some 4), none, .mv (.t 60)⟩, ⟨(some 5), none, .mv (.c (.bool true))⟩])
  .ret))))))⟩
/-- gatepost/gatepostref03.reason -/
def c_gatepostref03_reason : FnC := ⟨26, [.tmp 2],
  (.seq (.region [⟨(some 2), none, .mv (.c (.bool false))⟩])
  (.seq (.seq (.region [⟨(some 3), none, .mv (.c (.int .i64 0))⟩])
  (.block 0 (.loop
    (.seq (.seq (.region [⟨(some 4), none, .mv (.t 3)⟩, ⟨(some 5), none, .mv (.t 0)⟩, ⟨(some 6), none, .len 0 (.t 5)⟩, ⟨(some 7), none, .bin .lss (.t 4) (.t 6)⟩])
    (.cond (.t 7)
      .skip
      (.exit 0)))
    (.seq (.block 1 (.seq (.region [⟨(some 10), none, .mv (.t 0)⟩, ⟨(some 11), none, .mv (.t 3)⟩, ⟨(some 12), none, .ixStr (.t 10) (.t 11)⟩, ⟨(some 13), none, .bin .neq (.t 12) (.c (.int .u8 9))⟩, ⟨(some 14), none, .mv (.t 13)⟩, ⟨(some 15), (some (14, true)), .mv (.t 0)⟩, ⟨(some 16), (some (14, true)), .mv (.t 3)⟩, ⟨(some 17), (some (14, true)), .ixStr (.t 15) (.t 16)⟩, ⟨(some 18), (some (14, true)), .bin .lss (.t 17) (.c (.int .u8 32))⟩, ⟨(some 19), none, .pick (.t 14) (.t 18) (.c (.bool false))⟩, ⟨(some 20), none, .mv (.t 19)⟩, ⟨(some 21), (some (20, false)), .mv (.t 0)⟩, ⟨(some 22), (some (20, false)), .mv (.t 3)⟩, ⟨(some 23), (some (20, false)), .ixStr (.t 21) (.t 22)⟩, ⟨(some 24), (some (20, false)), .bin .eql (.t 23) (.c (.int .u8 127))⟩, ⟨(some 25), none, .pick (.t 20) (.c (.bool true)) (.t 24)⟩])
    (.cond (.t 25)
      (.seq (.region [⟨(some 2), none, .mv (.c (.bool false))⟩])
      .ret)
      .skip)))
    (.region [⟨(some 8), none, .mv (.t 3)⟩, ⟨(some 9), none, .bin .add (.t 8) (.c (.int .i64 1))⟩, ⟨(some 3), none, .mv (.t 9)⟩]))))))
  (.seq (.region [⟨(some 2), none, .mv (.c (.bool true))⟩])
  .ret)))⟩
/-- gatepost/gatepostref01.Is -/
def c_gatepostref01_Is : FnC := ⟨18, [.tmp 2],
  (.seq (.region [⟨(some 2), none, .mv (.c (.bool false))⟩])
  (.seq (.seq (.region [⟨(some 3), none, .mv (.c (.int .i64 0))⟩])
  (.block 0 (.loop
    (.seq (.seq (.region [⟨(some 4), none, .mv (.t 3)⟩, ⟨(some 5), none, .mv (.t 0)⟩, ⟨(some 6), none, .len 0 (.t 5)⟩, ⟨(some 7), none, .bin .lss (.t 4) (.t 6)⟩])
    (.cond (.t 7)
      .skip
      (.exit 0)))
    (.seq (.block 1 (.seq (.region [⟨(some 10), none, .mv (.t 0)⟩, ⟨(some 11), none, .mv (.t 3)⟩, ⟨(some 12), none, .ixStr (.t 10) (.t 11)⟩, ⟨(some 13), none, .call i_gatepostref01_tchar [(.t 12)]⟩, ⟨(some 14), none, .un .not (.t 13)⟩])
    (.cond (.t 14)
      (.seq (.region [⟨(some 2), none, .mv (.c (.bool false))⟩])
      .ret)
      .skip)))
    (.region [⟨(some 8), none, .mv (.t 3)⟩, ⟨(some 9), none, .bin .add (.t 8) (.c (.int .i64 1))⟩, ⟨(some 3), none, .mv (.t 9)⟩]))))))
  (.seq (.region [⟨(some 15), none, .mv (.t 0)⟩, ⟨(some 16), none, .len 0 (.t 15)⟩, ⟨(some 17), none, .bin .gtr (.t 16) (.c (.int .i64 0))⟩, ⟨(some 2), none, .mv (.t 17)⟩])
  .ret)))⟩
/-- gatepost/gatepostref03.target -/
def c_gatepostref03_target : FnC := ⟨23, [.tmp 2],
  (.seq (.region [⟨(some 2), none, .mv (.c (.bool false))⟩])
  (.seq (.seq (.region [⟨(some 3), none, .mv (.c (.int .i64 0))⟩])
  (.block 0 (.loop
    (.seq (.seq (.region [⟨(some 4), none, .mv (.t 3)⟩, ⟨(some 5), none, .mv (.t 0)⟩, ⟨(some 6), none, .len 0 (.t 5)⟩, ⟨(some 7), none, .bin .lss (.t 4) (.t 6)⟩])
    (.cond (.t 7)
      .skip
      (.exit 0)))
    (.seq (.block 1 (.seq (.region [⟨(some 10), none, .mv (.t 0)⟩, ⟨(some 11), none, .mv (.t 3)⟩, ⟨(some 12), none, .ixStr (.t 10) (.t 11)⟩, ⟨(some 13), none, .bin .lss (.t 12) (.c (.int .u8 33))⟩, ⟨(some 14), none, .mv (.t 13)⟩, ⟨(some 15), (some (14, false)), .mv (.t 0)⟩, ⟨(some 16), (some (14, false)), .mv (.t 3)⟩, ⟨(some 17), (some (14, false)), .ixStr (.t 15) (.t 16)⟩, ⟨(some 18), (some (14, false)), .bin .gtr (.t 17) (.c (.int .u8 126))⟩, ⟨(some 19), none, .pick (.t 14) (.c (.bool true)) (.t 18)⟩])
    (.cond (.t 19)
      (.seq (.region [⟨(some 2), none, .mv (.c (.bool false))⟩])
      .ret)
      .skip)))
    (.region [⟨(some 8), none, .mv (.t 3)⟩, ⟨(some 9), none, .bin .add (.t 8) (.c (.int .i64 1))⟩, ⟨(some 3), none, .mv (.t 9)⟩]))))))
  (.seq (.region [⟨(some 20), none, .mv (.t 0)⟩, ⟨(some 21), none, .len 0 (.t 20)⟩, ⟨(some 22), none, .bin .gtr (.t 21) (.c (.int .i64 0))⟩, ⟨(some 2), none, .mv (.t 22)⟩])
  .ret)))⟩
/-- gatepost/gatepostref01.Trim -/
def c_gatepostref01_Trim : FnC := ⟨30, [.tmp 2],
  (.seq (.region [⟨(some 2), none, .mv (.c (.str []))⟩])
  (.seq (.block 0 (.loop
    (.seq (.seq (.region [⟨(some 3), none, .mv (.t 0)⟩, ⟨(some 4), none, .len 0 (.t 3)⟩, ⟨(some 5), none, .bin .gtr (.t 4) (.c (.int .i64 0))⟩, ⟨(some 6), none, .mv (.t 5)⟩, ⟨(some 7), (some (6, true)), .mv (.t 0)⟩, ⟨(some 8), (some (6, true)), .ixStr (.t 7) (.c (.int .i64 0))⟩, ⟨(some 9), (some (6, true)), .call i_gatepostref01_blank [(.t 8)]⟩, ⟨(some 10), none, .pick (.t 6) (.t 9) (.c (.bool false))⟩])
    (.cond (.t 10)
      .skip
      (.exit 0)))
    (.block 1 (.region [⟨(some 11), none, .mv (.t 0)⟩, ⟨(some 12), none, .slstr (.t 11) (some (.c (.int .i64 1))) none⟩, ⟨(some 0), none, .mv (.t 12)⟩])))))
  (.seq (.block 2 (.loop
    (.seq (.seq (.region [⟨(some 13), none, .mv (.t 0)⟩, ⟨(some 14), none, .len 0 (.t 13)⟩, ⟨(some 15), none, .bin .gtr (.t 14) (.c (.int .i64 0))⟩, ⟨(some 16), none, .mv (.t 15)⟩, ⟨(some 17), (some (16, true)), .mv (.t 0)⟩, ⟨(some 18), (some (16, true)), .mv (.t 0)⟩, ⟨(some 19), (some (16, true)), .len 0 (.t 18)⟩, ⟨(some 20), (some (16, true)), .bin .sub (.t 19) (.c (.int .i64 1))⟩, ⟨(some 21), (some (16, true)), .ixStr (.t 17) (.t 20)⟩, ⟨(some 22), (some (16, true)), .call i_gatepostref01_blank [(.t 21)]⟩, ⟨(some 23), none, .pick (.t 16) (.t 22) (.c (.bool false))⟩])
    (.cond (.t 23)
      .skip
      (.exit 2)))
    (.block 3 (.region [⟨(some 24), none, .mv (.t 0)⟩, ⟨(some 25), none, .mv (.t 0)⟩, ⟨(some 26), none, .len 0 (.t 25)⟩, ⟨(some 27), none, .bin .sub (.t 26) (.c (.int .i64 1))⟩, ⟨(some 28), none, .slstr (.t 24) none (some (.t 27))⟩, ⟨(some 0), none, .mv (.t 28)⟩])))))
  (.seq (.region [⟨(some 29), none, .mv (.t 0)⟩, ⟨(some 2), none, .mv (.t 29)⟩])
  .ret))))⟩
/-- gatepost/token.Trim -/
def c_token_Trim : FnC := ⟨5, [.tmp 2],
  (.seq (.region [⟨(some 2), none, .mv (.c (.str []))⟩])
  (.seq (.region [⟨(some 3), none, .mv (.t 0)⟩, ⟨(some 4), none, .call i_strings_Trim [(.t 3), (.c (.str [32, 9]))]⟩, ⟨(some 2), none, .mv (.t 4)⟩])
  .ret))⟩
/-- gatepost/field.fine -/
def c_field_fine : FnC := ⟨11, [.tmp 2],
  (.seq (.region [⟨(some 1), none, .box (.t 0)⟩, ⟨(some 2), none, .mv (.c (.bool false))⟩])
  (.seq (.region [⟨(some 3), none, .faddr 0 (.t 1)⟩, ⟨(some 4), none, .load false 1 (.t 3)⟩, ⟨(some 5), none, .call i_token_Is [(.t 4)]⟩, ⟨(some 6), none, .mv (.t 5)⟩, ⟨(some 7), (some (6, true)), .faddr 1 (.t 1)⟩, ⟨(some 8), (some (6, true)), .load false 1 (.t 7)⟩, ⟨(some 9), (some (6, true)), .call i_token_Value [(.t 8)]⟩, ⟨(some 10), none, .pick (.t 6) (.t 9) (.c (.bool false))⟩, ⟨(some 2), none, .mv (.t 10)⟩])
  .ret))⟩
/-- strings.genSplit -/
def c_strings_genSplit : FnC := ⟨66, [.tmp 8],
  (.seq (.region [⟨(some 8), none, .mv (.c .nsl)⟩])
  (.seq (.seq (.region [⟨(some 12), none, .mv (.t 3)⟩, ⟨(some 13), none, .bin .eql (.t 12) (.c (.int .i64 0))⟩])
  (.cond (.t 13)
    (.seq (.region [⟨(some 8), none, .mv (.c .nsl)⟩])
    .ret)
    .skip))
  (.seq (.seq (.region [⟨(some 14), none, .mv (.t 1)⟩, ⟨(some 15), none, .bin .eql (.t 14) (.c (.str []))⟩])
  (.cond (.t 15)
    (.seq (.region [⟨(some 16), none, .mv (.t 0)⟩, ⟨(some 17), none, .mv (.t 3)⟩, ⟨(some 18), none, .call i_strings_explode [(.t 16), (.t 17)]⟩, ⟨(some 8), none, .mv (.t 18)⟩])
    .ret)
    .skip))
  (.seq (.seq (.region [⟨(some 19), none, .mv (.t 3)⟩, ⟨(some 20), none, .bin .lss (.t 19) (.c (.int .i64 0))⟩])
  (.cond (.t 20)
    (.region [⟨(some 21), none, .mv (.t 0)⟩, ⟨(some 22), none, .mv (.t 1)⟩, ⟨(some 23), none, .call i_strings_Count [(.t 21), (.t 22)]⟩, ⟨(some 24), none, .bin .add (.t 23) (.c (.int .i64 1))⟩, ⟨(some 3), none, .mv (.t 24)⟩])
    .skip))
  (.seq (.region [⟨(some 25), none, .mv (.t 3)⟩, ⟨(some 26), none, .mv (.t 0)⟩, ⟨(some 27), none, .len 0 (.t 26)⟩, ⟨(some 28), none, .bin .add (.t 27) (.c (.int .i64 1))⟩, ⟨(some 29), none, .mn [(.t 25), (.t 28)]⟩, ⟨(some 3), none, .mv (.t 29)⟩])
  (.seq (.region [⟨(some 30), none, .mv (.t 3)⟩, ⟨(some 31), none, .mksl 1 16 [(.str [])] (.t 30) (.t 30)⟩, ⟨(some 9), none, .mv (.t 31)⟩])
  (.seq (.region [⟨(some 32), none, .mv (.t 3)⟩, ⟨(some 33), none, .bin .sub (.t 32) (.c (.int .i64 1))⟩, ⟨(some 3), none, .mv (.t 33)⟩])
  (.seq (.region [⟨(some 10), none, .mv (.c (.int .i64 0))⟩])
  (.seq (.block 0 (.loop
    (.seq (.seq (.region [⟨(some 34), none, .mv (.t 10)⟩, ⟨(some 35), none, .mv (.t 3)⟩, ⟨(some 36), none, .bin .lss (.t 34) (.t 35)⟩])
    (.cond (.t 36)
      .skip
      (.exit 0)))
    (.block 1 (.seq (.region [⟨(some 37), none, .mv (.t 0)⟩, ⟨(some 38), none, .mv (.t 1)⟩, ⟨(some 39), none, .call i_strings_Index [(.t 37), (.t 38)]⟩, ⟨(some 11), none, .mv (.t 39)⟩])
    (.seq (.seq (.region [⟨(some 40), none, .mv (.t 11)⟩, ⟨(some 41), none, .bin .lss (.t 40) (.c (.int .i64 0))⟩])
    (.cond (.t 41)
      (.exit 0)
      .skip))
    (.seq (.region [⟨(some 42), none, .mv (.t 9)⟩, ⟨(some 43), none, .mv (.t 10)⟩, ⟨(some 44), none, .mv (.t 0)⟩, ⟨(some 45), none, .mv (.t 11)⟩, ⟨(some 46), none, .mv (.t 2)⟩, ⟨(some 47), none, .bin .add (.t 45) (.t 46)⟩, ⟨(some 48), none, .slstr (.t 44) none (some (.t 47))⟩, ⟨(some 49), none, .ixaSl 1 (.t 42) (.t 43)⟩, ⟨none, none, .store 1 (.t 49) (.t 48)⟩])
    (.seq (.region [⟨(some 50), none, .mv (.t 0)⟩, ⟨(some 51), none, .mv (.t 11)⟩, ⟨(some 52), none, .mv (.t 1)⟩, ⟨(some 53), none, .len 0 (.t 52)⟩, ⟨(some 54), none, .bin .add (.t 51) (.t 53)⟩, ⟨(some 55), none, .slstr (.t 50) (some (.t 54)) none⟩, ⟨(some 0), none, .mv (.t 55)⟩])
    (.region [⟨(some 56), none, .mv (.t 10)⟩, ⟨(some 57), none, .bin .add (.t 56) (.c (.int .i64 1))⟩, ⟨(some 10), none, .mv (.t 57)⟩])))))))))
  (.seq (.region [⟨(some 58), none, .mv (.t 9)⟩, ⟨(some 59), none, .mv (.t 10)⟩, ⟨(some 60), none, .mv (.t 0)⟩, ⟨(some 61), none, .ixaSl 1 (.t 58) (.t 59)⟩, ⟨none, none, .store 1 (.t 61) (.t 60)⟩])
  (.seq (.region [⟨(some 62), none, .mv (.t 9)⟩, ⟨(some 63), none, .mv (.t 10)⟩, ⟨(some 64), none, .bin .add (.t 63) (.c (.int .i64 1))⟩, ⟨(some 65), none, .slsl 1 (.t 62) none (some (.t 64)) none⟩, ⟨(some 8), none, .mv (.t 65)⟩])
  .ret)))))))))))⟩
/-- gatepost/token.marks -/
def c_token_marks : FnC := ⟨2, [.cell 0 true 15],
  (.seq (.region [⟨(some 0), none, .boxz [(.int .u8 0), (.int .u8 0), (.int .u8 0), (.int .u8 0), (.int .u8 0), (.int .u8 0), (.int .u8 0), (.int .u8 0), (.int .u8 0), (.int .u8 0), (.int .u8 0), (.int .u8 0), (.int .u8 0), (.int .u8 0), (.int .u8 0)]⟩])
  (.seq (.region [⟨(some 1), none, .build [(.int .u8 0), (.int .u8 0), (.int .u8 0), (.int .u8 0), (.int .u8 0), (.int .u8 0), (.int .u8 0), (.int .u8 0), (.int .u8 0), (.int .u8 0), (.int .u8 0), (.int .u8 0), (.int .u8 0), (.int .u8 0), (.int .u8 0)] [(0, 1, (.c (.int .u8 33))), (1, 1, (.c (.int .u8 35))), (2, 1, (.c (.int .u8 36))), (3, 1, (.c (.int .u8 37))), (4, 1, (.c (.int .u8 38))), (5, 1, (.c (.int .u8 39))), (6, 1, (.c (.int .u8 42))), (7, 1, (.c (.int .u8 43))), (8, 1, (.c (.int .u8 45))), (9, 1, (.c (.int .u8 46))), (10, 1, (.c (.int .u8 94))), (11, 1, (.c (.int .u8 95))), (12, 1, (.c (.int .u8 96))), (13, 1, (.c (.int .u8 124))), (14, 1, (.c (.int .u8 126)))]⟩, ⟨none, none, .store 15 (.t 0) (.t 1)⟩])
  .ret))⟩
/-- gatepost/gatepostref01.tchar -/
def c_gatepostref01_tchar : FnC := ⟨42, [.tmp 2],
  (.seq (.region [⟨(some 2), none, .mv (.c (.bool false))⟩])
  (.seq (.seq (.region [⟨(some 3), none, .mv (.t 0)⟩, ⟨(some 4), none, .bin .geq (.t 3) (.c (.int .u8 97))⟩, ⟨(some 5), none, .mv (.t 4)⟩, ⟨(some 6), (some (5, true)), .mv (.t 0)⟩, ⟨(some 7), (some (5, true)), .bin .leq (.t 6) (.c (.int .u8 122))⟩, ⟨(some 8), none, .pick (.t 5) (.t 7) (.c (.bool false))⟩, ⟨(some 9), none, .mv (.t 8)⟩, ⟨(some 10), (some (9, false)), .mv (.t 0)⟩, ⟨(some 11), (some (9, false)), .bin .geq (.t 10) (.c (.int .u8 65))⟩, ⟨(some 12), (some (9, false)), .mv (.t 11)⟩, ⟨(some 13), (some (12, true)), .mv (.t 0)⟩, ⟨(some 14), (some (12, true)), .bin .leq (.t 13) (.c (.int .u8 90))⟩, ⟨(some 15), (some (9, false)), .pick (.t 12) (.t 14) (.c (.bool false))⟩, ⟨(some 16), none, .pick (.t 9) (.c (.bool true)) (.t 15)⟩, ⟨(some 17), none, .mv (.t 16)⟩, ⟨(some 18), (some (17, false)), .mv (.t 0)⟩, ⟨(some 19), (some (17, false)), .bin .geq (.t 18) (.c (.int .u8 48))⟩, ⟨(some 20), (some (17, false)), .mv (.t 19)⟩, ⟨(some 21), (some (20, true)), .mv (.t 0)⟩, ⟨(some 22), (some (20, true)), .bin .leq (.t 21) (.c (.int .u8 57))⟩, ⟨(some 23), (some (17, false)), .pick (.t 20) (.t 22) (.c (.bool false))⟩, ⟨(some 24), none, .pick (.t 17) (.c (.bool true)) (.t 23)⟩])
  (.cond (.t 24)
    (.seq (.region [⟨(some 2), none, .mv (.c (.bool true))⟩])
    .ret)
    .skip))
  (.seq (.seq (.region [⟨(some 25), none, .mv (.t 0)⟩])
  (.block 0 (.seq (.seq (.region [⟨(some 27), none, .bin .eql (.t 25) (.c (.int .u8 33))⟩, ⟨(some 26), none, .mv (.t 27)⟩])
  (.cond (.t 26)
    .skip
    (.seq (.region [⟨(some 28), none, .bin .eql (.t 25) (.c (.int .u8 35))⟩, ⟨(some 26), none, .mv (.t 28)⟩])
    (.cond (.t 26)
      .skip
      (.seq (.region [⟨(some 29), none, .bin .eql (.t 25) (.c (.int .u8 36))⟩, ⟨(some 26), none, .mv (.t 29)⟩])
      (.cond (.t 26)
        .skip
        (.seq (.region [⟨(some 30), none, .bin .eql (.t 25) (.c (.int .u8 37))⟩, ⟨(some 26), none, .mv (.t 30)⟩])
        (.cond (.t 26)
          .skip
          (.seq (.region [⟨(some 31), none, .bin .eql (.t 25) (.c (.int .u8 38))⟩, ⟨(some 26), none, .mv (.t 31)⟩])
          (.cond (.t 26)
            .skip
            (.seq (.region [⟨(some 32), none, .bin .eql (.t 25) (.c (.int .u8 39))⟩, ⟨(some 26), none, .mv (.t 32)⟩])
            (.cond (.t 26)
              .skip
              (.seq (.region [⟨(some 33), none, .bin .eql (.t 25) (.c (.int .u8 42))⟩, ⟨(some 26), none, .mv (.t 33)⟩])
              (.cond (.t 26)
                .skip
                (.seq (.region [⟨(some 34), none, .bin .eql (.t 25) (.c (.int .u8 43))⟩, ⟨(some 26), none, .mv (.t 34)⟩])
                (.cond (.t 26)
                  .skip
                  (.seq (.region [⟨(some 35), none, .bin .eql (.t 25) (.c (.int .u8 45))⟩, ⟨(some 26), none, .mv (.t 35)⟩])
                  (.cond (.t 26)
                    .skip
                    (.seq (.region [⟨(some 36), none, .bin .eql (.t 25) (.c (.int .u8 46))⟩, ⟨(some 26), none, .mv (.t 36)⟩])
                    (.cond (.t 26)
                      .skip
                      (.seq (.region [⟨(some 37), none, .bin .eql (.t 25) (.c (.int .u8 94))⟩, ⟨(some 26), none, .mv (.t 37)⟩])
                      (.cond (.t 26)
                        .skip
                        (.seq (.region [⟨(some 38), none, .bin .eql (.t 25) (.c (.int .u8 95))⟩, ⟨(some 26), none, .mv (.t 38)⟩])
                        (.cond (.t 26)
                          .skip
                          (.seq (.region [⟨(some 39), none, .bin .eql (.t 25) (.c (.int .u8 96))⟩, ⟨(some 26), none, .mv (.t 39)⟩])
                          (.cond (.t 26)
                            .skip
                            (.seq (.region [⟨(some 40), none, .bin .eql (.t 25) (.c (.int .u8 124))⟩, ⟨(some 26), none, .mv (.t 40)⟩])
                            (.cond (.t 26)
                              .skip
                              (.region [⟨(some 41), none, .bin .eql (.t 25) (.c (.int .u8 126))⟩, ⟨(some 26), none, .mv (.t 41)⟩])))))))))))))))))))))))))))))
  (.cond (.t 26)
    (.seq (.region [⟨(some 2), none, .mv (.c (.bool true))⟩])
    .ret)
    .skip))))
  (.seq (.region [⟨(some 2), none, .mv (.c (.bool false))⟩])
  .ret))))⟩
/-- strings.Trim -/
def c_strings_Trim : FnC := ⟨43, [.tmp 4],
  (.seq (.region [⟨(some 4), none, .mv (.c (.str []))⟩])
  (.seq (.seq (.region [⟨(some 7), none, .mv (.t 0)⟩, ⟨(some 8), none, .bin .eql (.t 7) (.c (.str []))⟩, ⟨(some 9), none, .mv (.t 8)⟩, ⟨(some 10), (some (9, false)), .mv (.t 1)⟩, ⟨(some 11), (some (9, false)), .bin .eql (.t 10) (.c (.str []))⟩, ⟨(some 12), none, .pick (.t 9) (.c (.bool true)) (.t 11)⟩])
  (.cond (.t 12)
    (.seq (.region [⟨(some 13), none, .mv (.t 0)⟩, ⟨(some 4), none, .mv (.t 13)⟩])
    .ret)
    .skip))
  (.seq (.seq (.region [⟨(some 14), none, .mv (.t 1)⟩, ⟨(some 15), none, .len 0 (.t 14)⟩, ⟨(some 16), none, .bin .eql (.t 15) (.c (.int .i64 1))⟩, ⟨(some 17), none, .mv (.t 16)⟩, ⟨(some 18), (some (17, true)), .mv (.t 1)⟩, ⟨(some 19), (some (17, true)), .ixStr (.t 18) (.c (.int .i64 0))⟩, ⟨(some 20), (some (17, true)), .bin .lss (.t 19) (.c (.int .u8 128))⟩, ⟨(some 21), none, .pick (.t 17) (.t 20) (.c (.bool false))⟩])
  (.cond (.t 21)
    (.seq (.dregion [⟨(some 22), none, .mv (.t 0)⟩, ⟨(some 23), none, .mv (.t 1)⟩, ⟨(some 24), none, .ixStr (.t 23) (.c (.int .i64 0))⟩, ⟨(some 25), none, .call i_strings_trimRightByte [(.t 22), (.t 24)]⟩, ⟨(some 26), none, .mv (.t 1)⟩, ⟨(some 27), none, .ixStr (.t 26) (.c (.int .i64 0))⟩] [⟨(some 28), none, .call i_strings_trimLeftByte [(.t 25), (.t 27)]⟩, ⟨(some 4), none, .mv (.t 28)⟩])
    .ret)
    .skip))
  (.seq (.seq (.region [⟨(some 30), none, .mv (.t 1)⟩, ⟨(some 31), none, .call i_strings_makeASCIISet [(.t 30)]⟩, ⟨(some 29), none, .mv (.t 31)⟩, ⟨(some 32), none, .ext 0 (.t 29)⟩, ⟨(some 33), none, .ext 1 (.t 29)⟩, ⟨(some 5), none, .boxz (List.replicate 256 (.bool false))⟩, ⟨none, none, .store 256 (.t 5) (.t 32)⟩, ⟨(some 6), none, .mv (.t 33)⟩])
  (.seq (.region [⟨(some 34), none, .mv (.t 6)⟩])
  (.cond (.t 34)
    (.seq (.region [⟨(some 35), none, .mv (.t 0)⟩, ⟨(some 36), none, .call i_strings_trimRightASCII [(.t 35), (.t 5)]⟩, ⟨(some 37), none, .call i_strings_trimLeftASCII [(.t 36), (.t 5)]⟩, ⟨(some 4), none, .mv (.t 37)⟩])
    .ret)
    .skip)))
  (.seq (.region [⟨(some 38), none, .mv (.t 0)⟩, ⟨(some 39), none, .mv (.t 1)⟩, ⟨(some 40), none, .call i_strings_trimRightUnicode [(.t 38), (.t 39)]⟩, ⟨(some 41), none, .mv (.t 1)⟩, ⟨(some 42), none, .call i_strings_trimLeftUnicode [(.t 40), (.t 41)]⟩, ⟨(some 4), none, .mv (.t 42)⟩])
  .ret)))))⟩
/-- gatepost/token.Value -/
def c_token_Value : FnC := ⟨11, [.tmp 2],
  (.seq (.region [⟨(some 2), none, .mv (.c (.bool false))⟩])
  (.seq (.region [⟨(some 3), none, .mv (.t 0)⟩, ⟨(some 4), none, .call i_token_Trim [(.t 3)]⟩, ⟨(some 5), none, .mv (.t 0)⟩, ⟨(some 6), none, .bin .eql (.t 4) (.t 5)⟩, ⟨(some 7), none, .mv (.t 6)⟩, ⟨(some 8), (some (7, true)), .mv (.t 0)⟩, ⟨(some 9), (some (7, true)), .call i_token_all [(.t 8), (.c (.fn i_token_Value_1 []))]⟩, ⟨(some 10), none, .pick (.t 7) (.t 9) (.c (.bool false))⟩, ⟨(some 2), none, .mv (.t 10)⟩])
  .ret))⟩
/-- strings.Index -/
def c_strings_Index : FnC := ⟨8, [.tmp 4],
  (.seq (.region [⟨(some 4), none, .mv (.c (.int .i64 0))⟩])
  (.seq (.region [⟨(some 5), none, .mv (.t 0)⟩, ⟨(some 6), none, .mv (.t 1)⟩, ⟨(some 7), none, .call i_internal_stringslite_Index [(.t 5), (.t 6)]⟩, ⟨(some 4), none, .mv (.t 7)⟩])
  .ret))⟩
/-- strings.makeASCIISet -/
def c_strings_makeASCIISet : FnC := ⟨21, [.cell 2 true 256, .tmp 3],
  (.seq (.region [⟨(some 2), none, .boxz (List.replicate 256 (.bool false))⟩, ⟨(some 3), none, .mv (.c (.bool false))⟩])
  (.seq (.seq (.region [⟨(some 4), none, .mv (.c (.int .i64 0))⟩])
  (.block 0 (.loop
    (.seq (.seq (.region [⟨(some 6), none, .mv (.t 4)⟩, ⟨(some 7), none, .mv (.t 0)⟩, ⟨(some 8), none, .len 0 (.t 7)⟩, ⟨(some 9), none, .bin .lss (.t 6) (.t 8)⟩])
    (.cond (.t 9)
      .skip
      (.exit 0)))
    (.seq (.block 1 (.seq (.region [⟨(some 12), none, .mv (.t 0)⟩, ⟨(some 13), none, .mv (.t 4)⟩, ⟨(some 14), none, .ixStr (.t 12) (.t 13)⟩, ⟨(some 5), none, .mv (.t 14)⟩])
    (.seq (.seq (.region [⟨(some 15), none, .mv (.t 5)⟩, ⟨(some 16), none, .bin .geq (.t 15) (.c (.int .u8 128))⟩])
    (.cond (.t 16)
      (.seq (.region [⟨(some 17), none, .load true 256 (.t 2)⟩, ⟨none, none, .store 256 (.t 2) (.t 17)⟩, ⟨(some 3), none, .mv (.c (.bool false))⟩])
      .ret)
      .skip))
    (.region [⟨(some 18), none, .mv (.t 5)⟩, ⟨(some 19), none, .ixaArr 256 1 (.t 2) (.t 18)⟩, ⟨none, none, .store 1 (.t 19) (.c (.bool true))⟩]))))
    (.region [⟨(some 10), none, .mv (.t 4)⟩, ⟨(some 11), none, .bin .add (.t 10) (.c (.int .i64 1))⟩, ⟨(some 4), none, .mv (.t 11)⟩]))))))
  (.seq (.region [⟨(some 20), none, .load true 256 (.t 2)⟩, ⟨none, none, .store 256 (.t 2) (.t 20)⟩, ⟨(some 3), none, .mv (.c (.bool true))⟩])
  .ret)))⟩
/-- strings.trimLeftASCII -/
def c_strings_trimLeftASCII : FnC := ⟨16, [.tmp 4],
  (.seq (.region [⟨(some 4), none, .mv (.c (.str []))⟩])
  (.seq (.block 0 (.loop
    (.seq (.seq (.region [⟨(some 5), none, .mv (.t 0)⟩, ⟨(some 6), none, .len 0 (.t 5)⟩, ⟨(some 7), none, .bin .gtr (.t 6) (.c (.int .i64 0))⟩])
    (.cond (.t 7)
      .skip
      (.exit 0)))
    (.block 1 (.seq (.seq (.region [⟨(some 8), none, .mv (.t 1)⟩, ⟨(some 9), none, .mv (.t 0)⟩, ⟨(some 10), none, .ixStr (.t 9) (.c (.int .i64 0))⟩, ⟨(some 11), none, .call i___strings_asciiSet__contains [(.t 8), (.t 10)]⟩, ⟨(some 12), none, .un .not (.t 11)⟩])
    (.cond (.t 12)
      (.exit 0)
      .skip))
    (.region [⟨(some 13), none, .mv (.t 0)⟩, ⟨(some 14), none, .slstr (.t 13) (some (.c (.int .i64 1))) none⟩, ⟨(some 0), none, .mv (.t 14)⟩]))))))
  (.seq (.region [⟨(some 15), none, .mv (.t 0)⟩, ⟨(some 4), none, .mv (.t 15)⟩])
  .ret)))⟩
/-- strings.trimRightASCII -/
def c_strings_trimRightASCII : FnC := ⟨22, [.tmp 4],
  (.seq (.region [⟨(some 4), none, .mv (.c (.str []))⟩])
  (.seq (.block 0 (.loop
    (.seq (.seq (.region [⟨(some 5), none, .mv (.t 0)⟩, ⟨(some 6), none, .len 0 (.t 5)⟩, ⟨(some 7), none, .bin .gtr (.t 6) (.c (.int .i64 0))⟩])
    (.cond (.t 7)
      .skip
      (.exit 0)))
    (.block 1 (.seq (.seq (.region [⟨(some 8), none, .mv (.t 1)⟩, ⟨(some 9), none, .mv (.t 0)⟩, ⟨(some 10), none, .mv (.t 0)⟩, ⟨(some 11), none, .len 0 (.t 10)⟩, ⟨(some 12), none, .bin .sub (.t 11) (.c (.int .i64 1))⟩, ⟨(some 13), none, .ixStr (.t 9) (.t 12)⟩, ⟨(some 14), none, .call i___strings_asciiSet__contains [(.t 8), (.t 13)]⟩, ⟨(some 15), none, .un .not (.t 14)⟩])
    (.cond (.t 15)
      (.exit 0)
      .skip))
    (.region [⟨(some 16), none, .mv (.t 0)⟩, ⟨(some 17), none, .mv (.t 0)⟩, ⟨(some 18), none, .len 0 (.t 17)⟩, ⟨(some 19), none, .bin .sub (.t 18) (.c (.int .i64 1))⟩, ⟨(some 20), none, .slstr (.t 16) none (some (.t 19))⟩, ⟨(some 0), none, .mv (.t 20)⟩]))))))
  (.seq (.region [⟨(some 21), none, .mv (.t 0)⟩, ⟨(some 4), none, .mv (.t 21)⟩])
  .ret)))⟩
/-- gatepost/token.Value$1 -/
def c_token_Value_1 : FnC := ⟨13, [.tmp 2],
  (.seq (.region [⟨(some 2), none, .mv (.c (.bool false))⟩])
  (.seq (.region [⟨(some 3), none, .mv (.t 0)⟩, ⟨(some 4), none, .call i_token_isBlank [(.t 3)]⟩, ⟨(some 5), none, .mv (.t 4)⟩, ⟨(some 6), (some (5, false)), .mv (.t 0)⟩, ⟨(some 7), (some (5, false)), .bin .gtr (.t 6) (.c (.int .u8 32))⟩, ⟨(some 8), (some (5, false)), .mv (.t 7)⟩, ⟨(some 9), (some (8, true)), .mv (.t 0)⟩, ⟨(some 10), (some (8, true)), .bin .neq (.t 9) (.c (.int .u8 127))⟩, ⟨(some 11), (some (5, false)), .pick (.t 8) (.t 10) (.c (.bool false))⟩, ⟨(some 12), none, .pick (.t 5) (.c (.bool true)) (.t 11)⟩, ⟨(some 2), none, .mv (.t 12)⟩])
  .ret))⟩
/-- gatepost/token.isBlank -/
def c_token_isBlank : FnC := ⟨9, [.tmp 2],
  (.seq (.region [⟨(some 2), none, .mv (.c (.bool false))⟩])
  (.seq (.region [⟨(some 3), none, .mv (.t 0)⟩, ⟨(some 4), none, .bin .eql (.t 3) (.c (.int .u8 32))⟩, ⟨(some 5), none, .mv (.t 4)⟩, ⟨(some 6), (some (5, false)), .mv (.t 0)⟩, ⟨(some 7), (some (5, false)), .bin .eql (.t 6) (.c (.int .u8 9))⟩, ⟨(some 8), none, .pick (.t 5) (.c (.bool true)) (.t 7)⟩, ⟨(some 2), none, .mv (.t 8)⟩])
  .ret))⟩
/-- (*strings.asciiSet).contains -/
def c___strings_asciiSet__contains : FnC := ⟨10, [.tmp 4],
  (.seq (.region [⟨(some 4), none, .mv (.c (.bool false))⟩])
  (.seq (.region [⟨(some 5), none, .mv (.t 0)⟩, ⟨(some 6), none, .mv (.t 1)⟩, ⟨(some 7), none, .nilck (.t 5)⟩, ⟨(some 8), none, .ixaArr 256 1 (.t 7) (.t 6)⟩, ⟨(some 9), none, .load false 1 (.t 8)⟩, ⟨(some 4), none, .mv (.t 9)⟩])
  .ret))⟩
def tab : List (FuncId × FnC) := [(i_gatepostlaw05_HeadNobody, c_gatepostlaw05_HeadNobody), (i_gatepostlaw05_HeadMany, c_gatepostlaw05_HeadMany), (i_gatepostlaw05_HeadFields, c_gatepostlaw05_HeadFields), (i_gatepostlaw05_HeadReads, c_gatepostlaw05_HeadReads), (i_gatepostlaw05_HeadCuts, c_gatepostlaw05_HeadCuts), (i___gatepost_head_Reader__Feed, c___gatepost_head_Reader__Feed), (i___gatepost_head_Reader__Request, c___gatepost_head_Reader__Request), (i___gatepost_head_Reader__Response, c___gatepost_head_Reader__Response), (i_head_New, c_head_New), (i_gatepostref01_Value, c_gatepostref01_Value), (i_gatepostlaw05_names, c_gatepostlaw05_names), (i_gatepostlaw05_piece, c_gatepostlaw05_piece), (i___gatepost_gatepostref05_Reader__Feed, c___gatepost_gatepostref05_Reader__Feed), (i___gatepost_gatepostref05_Reader__Request, c___gatepost_gatepostref05_Reader__Request), (i___gatepost_gatepostref05_Reader__Response, c___gatepost_gatepostref05_Reader__Response), (i_gatepostref05_SameRequest, c_gatepostref05_SameRequest), (i_gatepostref05_SameResponse, c_gatepostref05_SameResponse), (i___gatepost_head_Reader__none, c___gatepost_head_Reader__none), (i___gatepost_head_Reader__take, c___gatepost_head_Reader__take), (i___gatepost_head_Reader__whole, c___gatepost_head_Reader__whole), (i_head_New_1, c_head_New_1), (i_line_Request, c_line_Request), (i_head_New_2, c_head_New_2), (i_line_Status, c_line_Status), (i_gatepostref01_blank, c_gatepostref01_blank), (i___gatepost_gatepostref05_Reader__ended, c___gatepost_gatepostref05_Reader__ended), (i_gatepostref04_Same, c_gatepostref04_Same), (i_head_cut, c_head_cut), (i___gatepost_head_Reader__ended, c___gatepost_head_Reader__ended), (i_line_words, c_line_words), (i_token_Is, c_token_Is), (i_line_isTarget, c_line_isTarget), (i_line_version, c_line_version), (i_line_Status_1, c_line_Status_1), (i_strings_Cut, c_strings_Cut), (i_token_Number, c_token_Number), (i_line_isReason, c_line_isReason), (i_gatepostref03_Status, c_gatepostref03_Status), (i_gatepostref03_Request, c_gatepostref03_Request), (i_gatepostref04_Parse, c_gatepostref04_Parse), (i_field_Parse, c_field_Parse), (i_strings_Split, c_strings_Split), (i_token_all, c_token_all), (i_token_inToken, c_token_inToken), (i_internal_stringslite_Cut, c_internal_stringslite_Cut), (i_token_Number_1, c_token_Number_1), (i_gatepostref03_version, c_gatepostref03_version), (i_gatepostref01_Number, c_gatepostref01_Number), (i_gatepostref03_reason, c_gatepostref03_reason), (i_gatepostref01_Is, c_gatepostref01_Is), (i_gatepostref03_target, c_gatepostref03_target), (i_gatepostref01_Trim, c_gatepostref01_Trim), (i_token_Trim, c_token_Trim), (i_field_fine, c_field_fine), (i_strings_genSplit, c_strings_genSplit), (i_token_marks, c_token_marks), (i_gatepostref01_tchar, c_gatepostref01_tchar), (i_strings_Trim, c_strings_Trim), (i_token_Value, c_token_Value), (i_strings_Index, c_strings_Index), (i_strings_makeASCIISet, c_strings_makeASCIISet), (i_strings_trimLeftASCII, c_strings_trimLeftASCII), (i_strings_trimRightASCII, c_strings_trimRightASCII), (i_token_Value_1, c_token_Value_1), (i_token_isBlank, c_token_isBlank), (i___strings_asciiSet__contains, c___strings_asciiSet__contains)]
def F (f : FuncId) : Option FnC := tab.lookup f
end Go.Proofs.YtnfcjeajbjcppaaDoor.Vh
end
