/- The functions of a seat, compiled for the small machine. Printed by Print.lean. -/
import Derived.Test.YtfihnnebffkbfaaDoorProg
import Derived.Test.YtfihnnebffkbfaaDoorPk2
import Derived.KernelRfl
section
set_option maxRecDepth 100000
set_option linter.unusedVariables false
namespace Go.Proofs.YtfihnnebffkbfaaDoor.Vh
open Go.Vm
def i_gatepostlaw11_VaryParts : FuncId := 3
def i_gatepostlaw11_VaryOrder : FuncId := 4
def i_gatepostlaw11_VaryTells : FuncId := 5
def i_vary_Same : FuncId := 6
def i_gatepostlaw11_few : FuncId := 7
def i_gatepostlaw11_short : FuncId := 8
def i_gatepostref01_Is : FuncId := 9
def i_gatepostref04_Get : FuncId := 10
def i_vary_Key : FuncId := 11
def i_vary_Names : FuncId := 12
def i_gatepostref11_Names : FuncId := 13
def i_gatepostref11_Key : FuncId := 14
def i_gatepostref01_tchar : FuncId := 15
def i_gatepostref01_Same : FuncId := 16
def i_vary_Key_1 : FuncId := 17
def i___strings_Builder__WriteString : FuncId := 18
def i_field_Get : FuncId := 19
def i_strconv_Itoa : FuncId := 20
def i___strings_Builder__String : FuncId := 21
def i_field_Names : FuncId := 22
def i_slices_Sort___string_string_ : FuncId := 23
def i_gatepostref04_Names : FuncId := 24
def i_gatepostref11_digits : FuncId := 25
def i_gatepostref01_Lower : FuncId := 26
def i_token_Same : FuncId := 28
def i_strings_Join : FuncId := 29
def i_token_Split : FuncId := 31
def i_token_Is : FuncId := 32
def i_token_Lower : FuncId := 33
def i_gatepostref01_Split : FuncId := 36
def i_token_Split_1 : FuncId := 40
def i_token_Trim : FuncId := 41
def i_token_all : FuncId := 42
def i_token_inToken : FuncId := 43
def i_gatepostref01_Trim : FuncId := 55
def i_strings_Trim : FuncId := 61
def i_token_marks : FuncId := 62
def i_gatepostref01_blank : FuncId := 69
def i_strings_trimLeftByte : FuncId := 75
def i_strings_trimRightByte : FuncId := 76
def i_strings_makeASCIISet : FuncId := 77
def i_strings_trimLeftASCII : FuncId := 78
def i_strings_trimRightASCII : FuncId := 79
def i_strings_trimLeftUnicode : FuncId := 80
def i_strings_trimRightUnicode : FuncId := 81
def i___strings_asciiSet__contains : FuncId := 85
/-- gatepost/gatepostlaw11.VaryParts -/
def c_gatepostlaw11_VaryParts : FnC := ⟨90, [.tmp 6],
  (.seq (.region [⟨(some 6), none, .mv (.c (.bool false))⟩])
  (.seq (.seq (.region [⟨(some 13), none, .mv (.t 1)⟩, ⟨(some 14), none, .mv (.t 2)⟩, ⟨(some 15), none, .call i_vary_Same [(.c .nsl), (.t 13), (.t 14)]⟩, ⟨(some 16), none, .un .not (.t 15)⟩])
  (.cond (.t 16)
    (.seq (.region [⟨(some 6), none, .mv (.c (.bool false))⟩])
    .ret)
    .skip))
  (.seq (.seq (.region [⟨(some 17), none, .mv (.t 1)⟩, ⟨(some 18), none, .call i_gatepostlaw11_few [(.t 17)]⟩, ⟨(some 19), none, .un .not (.t 18)⟩, ⟨(some 20), none, .mv (.t 19)⟩, ⟨(some 21), (some (20, false)), .mv (.t 2)⟩, ⟨(some 22), (some (20, false)), .call i_gatepostlaw11_few [(.t 21)]⟩, ⟨(some 23), (some (20, false)), .un .not (.t 22)⟩, ⟨(some 24), none, .pick (.t 20) (.c (.bool true)) (.t 23)⟩, ⟨(some 25), none, .mv (.t 24)⟩, ⟨(some 26), (some (25, false)), .mv (.t 0)⟩, ⟨(some 27), (some (25, false)), .call i_gatepostlaw11_short [(.t 26)]⟩, ⟨(some 28), (some (25, false)), .un .not (.t 27)⟩, ⟨(some 29), none, .pick (.t 25) (.c (.bool true)) (.t 28)⟩])
  (.cond (.t 29)
    (.seq (.region [⟨(some 6), none, .mv (.c (.bool true))⟩])
    .ret)
    .skip))
  (.seq (.region [⟨(some 7), none, .mv (.c (.bool true))⟩])
  (.seq (.seq (.region [⟨(some 8), none, .mv (.c (.int .i64 0))⟩])
  (.block 0 (.loop
    (.seq (.seq (.region [⟨(some 30), none, .mv (.t 8)⟩, ⟨(some 31), none, .mv (.t 0)⟩, ⟨(some 32), none, .len 1 (.t 31)⟩, ⟨(some 33), none, .bin .lss (.t 30) (.t 32)⟩])
    (.cond (.t 33)
      .skip
      (.exit 0)))
    (.seq (.block 1 (.seq (.seq (.region [⟨(some 36), none, .mv (.t 0)⟩, ⟨(some 37), none, .mv (.t 8)⟩, ⟨(some 38), none, .ixaSl 1 (.t 36) (.t 37)⟩, ⟨(some 39), none, .load false 1 (.t 38)⟩, ⟨(some 40), none, .call i_gatepostref01_Is [(.t 39)]⟩, ⟨(some 41), none, .un .not (.t 40)⟩])
    (.cond (.t 41)
      (.seq (.region [⟨(some 6), none, .mv (.c (.bool true))⟩])
      .ret)
      .skip))
    (.seq (.region [⟨(some 43), none, .mv (.t 1)⟩, ⟨(some 44), none, .mv (.t 0)⟩, ⟨(some 45), none, .mv (.t 8)⟩, ⟨(some 46), none, .ixaSl 1 (.t 44) (.t 45)⟩, ⟨(some 47), none, .load false 1 (.t 46)⟩, ⟨(some 48), none, .call i_gatepostref04_Get [(.t 43), (.t 47)]⟩, ⟨(some 42), none, .mv (.t 48)⟩, ⟨(some 49), none, .ext 0 (.t 42)⟩, ⟨(some 50), none, .ext 1 (.t 42)⟩, ⟨(some 9), none, .mv (.t 49)⟩, ⟨(some 10), none, .mv (.t 50)⟩])
    (.seq (.region [⟨(some 52), none, .mv (.t 2)⟩, ⟨(some 53), none, .mv (.t 0)⟩, ⟨(some 54), none, .mv (.t 8)⟩, ⟨(some 55), none, .ixaSl 1 (.t 53) (.t 54)⟩, ⟨(some 56), none, .load false 1 (.t 55)⟩, ⟨(some 57), none, .call i_gatepostref04_Get [(.t 52), (.t 56)]⟩, ⟨(some 51), none, .mv (.t 57)⟩, ⟨(some 58), none, .ext 0 (.t 51)⟩, ⟨(some 59), none, .ext 1 (.t 51)⟩, ⟨(some 11), none, .mv (.t 58)⟩, ⟨(some 12), none, .mv (.t 59)⟩])
    (.region [⟨(some 60), none, .mv (.t 7)⟩, ⟨(some 61), none, .mv (.t 60)⟩, ⟨(some 62), (some (61, true)), .mv (.t 9)⟩, ⟨(some 63), (some (61, true)), .mv (.t 11)⟩, ⟨(some 64), (some (61, true)), .bin .eql (.t 62) (.t 63)⟩, ⟨(some 65), none, .pick (.t 61) (.t 64) (.c (.bool false))⟩, ⟨(some 66), none, .mv (.t 65)⟩, ⟨(some 67), (some (66, true)), .mv (.t 10)⟩, ⟨(some 68), (some (66, true)), .bin .gtr (.t 67) (.c (.int .i64 0))⟩, ⟨(some 69), (some (66, true)), .mv (.t 12)⟩, ⟨(some 70), (some (66, true)), .bin .gtr (.t 69) (.c (.int .i64 0))⟩, ⟨(some 71), (some (66, true)), .eq .bool false (.t 68) (.t 70)⟩, ⟨(some 72), none, .pick (.t 66) (.t 71) (.c (.bool false))⟩, ⟨(some 7), none, .mv (.t 72)⟩])))))
    (.region [⟨(some 34), none, .mv (.t 8)⟩, ⟨(some 35), none, .bin .add (.t 34) (.c (.int .i64 1))⟩, ⟨(some 8), none, .mv (.t 35)⟩]))))))
  (.seq (.region [⟨(some 73), none, .mv (.t 0)⟩, ⟨(some 74), none, .mv (.t 1)⟩, ⟨(some 75), none, .mv (.t 2)⟩, ⟨(some 76), none, .call i_vary_Same [(.t 73), (.t 74), (.t 75)]⟩, ⟨(some 77), none, .mv (.t 7)⟩, ⟨(some 78), none, .eq .bool false (.t 76) (.t 77)⟩, ⟨(some 79), none, .mv (.t 78)⟩, ⟨(some 80), (some (79, true)), .mv (.t 0)⟩, ⟨(some 81), (some (79, true)), .mv (.t 1)⟩, ⟨(some 82), (some (79, true)), .call i_vary_Key [(.t 80), (.t 81)]⟩, ⟨(some 83), (some (79, true)), .mv (.t 0)⟩, ⟨(some 84), (some (79, true)), .mv (.t 2)⟩, ⟨(some 85), (some (79, true)), .call i_vary_Key [(.t 83), (.t 84)]⟩, ⟨(some 86), (some (79, true)), .bin .eql (.t 82) (.t 85)⟩, ⟨(some 87), (some (79, true)), .mv (.t 7)⟩, ⟨(some 88), (some (79, true)), .eq .bool false (.t 86) (.t 87)⟩, ⟨(some 89), none, .pick (.t 79) (.t 88) (.c (.bool false))⟩, ⟨(some 6), none, .mv (.t 89)⟩])
  .ret))))))⟩
/-- gatepost/gatepostlaw11.VaryOrder -/
def c_gatepostlaw11_VaryOrder : FnC := ⟨105, [.tmp 4],
  (.seq (.region [⟨(some 4), none, .mv (.c (.bool false))⟩])
  (.seq (.region [⟨(some 16), none, .bsl 1 [(.c (.str [97, 99, 99, 101, 112, 116])), (.c (.str [98])), (.c (.str [120, 45, 121]))]⟩, ⟨(some 5), none, .mv (.t 16)⟩])
  (.seq (.region [⟨(some 6), none, .mv (.c (.str []))⟩])
  (.seq (.region [⟨(some 17), none, .build [(.bool false), (.bool false), (.bool false)] []⟩, ⟨(some 7), none, .boxz [(.bool false), (.bool false), (.bool false)]⟩, ⟨none, none, .store 3 (.t 7) (.t 17)⟩])
  (.seq (.seq (.region [⟨(some 8), none, .mv (.c (.int .i64 0))⟩])
  (.block 0 (.loop
    (.seq (.seq (.region [⟨(some 18), none, .mv (.t 8)⟩, ⟨(some 19), none, .mv (.t 0)⟩, ⟨(some 20), none, .len 1 (.t 19)⟩, ⟨(some 21), none, .bin .lss (.t 18) (.t 20)⟩, ⟨(some 22), none, .mv (.t 21)⟩, ⟨(some 23), (some (22, true)), .mv (.t 8)⟩, ⟨(some 24), (some (22, true)), .bin .lss (.t 23) (.c (.int .i64 12))⟩, ⟨(some 25), none, .pick (.t 22) (.t 24) (.c (.bool false))⟩])
    (.cond (.t 25)
      .skip
      (.exit 0)))
    (.seq (.block 1 (.seq (.region [⟨(some 28), none, .mv (.t 0)⟩, ⟨(some 29), none, .mv (.t 8)⟩, ⟨(some 30), none, .ixaSl 1 (.t 28) (.t 29)⟩, ⟨(some 31), none, .load false 1 (.t 30)⟩, ⟨(some 32), none, .bin .rem (.t 31) (.c (.int .i64 3))⟩, ⟨(some 33), none, .bin .add (.t 32) (.c (.int .i64 3))⟩, ⟨(some 34), none, .bin .rem (.t 33) (.c (.int .i64 3))⟩, ⟨(some 9), none, .mv (.t 34)⟩])
    (.seq (.region [⟨(some 35), none, .mv (.t 9)⟩, ⟨(some 36), none, .ixaArr 3 1 (.t 7) (.t 35)⟩, ⟨none, none, .store 1 (.t 36) (.c (.bool true))⟩])
    (.seq (.region [⟨(some 37), none, .mv (.t 5)⟩, ⟨(some 38), none, .mv (.t 9)⟩, ⟨(some 39), none, .ixaSl 1 (.t 37) (.t 38)⟩, ⟨(some 40), none, .load false 1 (.t 39)⟩, ⟨(some 10), none, .mv (.t 40)⟩])
    (.seq (.seq (.region [⟨(some 41), none, .mv (.t 1)⟩, ⟨(some 42), none, .mv (.t 41)⟩, ⟨(some 43), (some (42, true)), .mv (.t 8)⟩, ⟨(some 44), (some (42, true)), .bin .rem (.t 43) (.c (.int .i64 2))⟩, ⟨(some 45), (some (42, true)), .bin .eql (.t 44) (.c (.int .i64 0))⟩, ⟨(some 46), none, .pick (.t 42) (.t 45) (.c (.bool false))⟩])
    (.cond (.t 46)
      (.region [⟨(some 47), none, .bsl 1 [(.c (.str [65, 67, 67, 69, 80, 84])), (.c (.str [66])), (.c (.str [88, 45, 89]))]⟩, ⟨(some 48), none, .mv (.t 9)⟩, ⟨(some 49), none, .ixaSl 1 (.t 47) (.t 48)⟩, ⟨(some 50), none, .load false 1 (.t 49)⟩, ⟨(some 10), none, .mv (.t 50)⟩])
      .skip))
    (.region [⟨(some 51), none, .mv (.t 6)⟩, ⟨(some 52), none, .mv (.t 10)⟩, ⟨(some 53), none, .bin .add (.t 51) (.t 52)⟩, ⟨(some 54), none, .bin .add (.t 53) (.c (.str [32, 44]))⟩, ⟨(some 6), none, .mv (.t 54)⟩]))))))
    (.region [⟨(some 26), none, .mv (.t 8)⟩, ⟨(some 27), none, .bin .add (.t 26) (.c (.int .i64 1))⟩, ⟨(some 8), none, .mv (.t 27)⟩]))))))
  (.seq (.region [⟨(some 56), none, .mv (.t 6)⟩, ⟨(some 57), none, .build [(.str []), (.str [])] [(0, 1, (.c (.str [118, 97, 114, 121]))), (1, 1, (.t 56))]⟩, ⟨(some 58), none, .bsl 2 [(.t 57)]⟩, ⟨(some 59), none, .call i_vary_Names [(.t 58)]⟩, ⟨(some 55), none, .mv (.t 59)⟩, ⟨(some 60), none, .ext 0 (.t 55)⟩, ⟨(some 61), none, .ext 1 (.t 55)⟩, ⟨(some 11), none, .mv (.t 60)⟩, ⟨(some 12), none, .mv (.t 61)⟩])
  (.seq (.region [⟨(some 13), none, .mv (.c .nsl)⟩])
  (.seq (.seq (.region [⟨(some 14), none, .mv (.c (.int .i64 0))⟩])
  (.block 2 (.loop
    (.seq (.seq (.region [⟨(some 62), none, .mv (.t 14)⟩, ⟨(some 63), none, .bin .lss (.t 62) (.c (.int .i64 3))⟩])
    (.cond (.t 63)
      .skip
      (.exit 2)))
    (.seq (.block 3 (.seq (.region [⟨(some 66), none, .mv (.t 14)⟩, ⟨(some 67), none, .ixaArr 3 1 (.t 7) (.t 66)⟩, ⟨(some 68), none, .load false 1 (.t 67)⟩])
    (.cond (.t 68)
      (.region [⟨(some 69), none, .mv (.t 13)⟩, ⟨(some 70), none, .mv (.t 5)⟩, ⟨(some 71), none, .mv (.t 14)⟩, ⟨(some 72), none, .ixaSl 1 (.t 70) (.t 71)⟩, ⟨(some 73), none, .load false 1 (.t 72)⟩, ⟨(some 74), none, .bsl 1 [(.t 73)]⟩, ⟨(some 75), none, .app 1 16 false (.t 69) (.t 74)⟩, ⟨(some 13), none, .mv (.t 75)⟩])
      .skip)))
    (.region [⟨(some 64), none, .mv (.t 14)⟩, ⟨(some 65), none, .bin .add (.t 64) (.c (.int .i64 1))⟩, ⟨(some 14), none, .mv (.t 65)⟩]))))))
  (.seq (.seq (.region [⟨(some 76), none, .mv (.t 12)⟩, ⟨(some 77), none, .un .not (.t 76)⟩, ⟨(some 78), none, .mv (.t 77)⟩, ⟨(some 79), (some (78, false)), .mv (.t 11)⟩, ⟨(some 80), (some (78, false)), .len 1 (.t 79)⟩, ⟨(some 81), (some (78, false)), .mv (.t 13)⟩, ⟨(some 82), (some (78, false)), .len 1 (.t 81)⟩, ⟨(some 83), (some (78, false)), .bin .neq (.t 80) (.t 82)⟩, ⟨(some 84), none, .pick (.t 78) (.c (.bool true)) (.t 83)⟩, ⟨(some 85), none, .mv (.t 84)⟩, ⟨(some 86), (some (85, false)), .bsl 1 [(.c (.str [113]))]⟩, ⟨(some 87), (some (85, false)), .call i_vary_Key [(.t 86), (.c .nsl)]⟩, ⟨(some 88), (some (85, false)), .bin .neq (.t 87) (.c (.str [113, 58, 45, 44]))⟩, ⟨(some 89), none, .pick (.t 85) (.c (.bool true)) (.t 88)⟩])
  (.cond (.t 89)
    (.seq (.region [⟨(some 4), none, .mv (.c (.bool false))⟩])
    .ret)
    .skip))
  (.seq (.seq (.region [⟨(some 15), none, .mv (.c (.int .i64 0))⟩])
  (.block 4 (.loop
    (.seq (.seq (.region [⟨(some 90), none, .mv (.t 15)⟩, ⟨(some 91), none, .mv (.t 13)⟩, ⟨(some 92), none, .len 1 (.t 91)⟩, ⟨(some 93), none, .bin .lss (.t 90) (.t 92)⟩])
    (.cond (.t 93)
      .skip
      (.exit 4)))
    (.seq (.block 5 (.seq (.dregion [⟨(some 96), none, .mv (.t 11)⟩, ⟨(some 97), none, .mv (.t 15)⟩, ⟨(some 98), none, .ixaSl 1 (.t 96) (.t 97)⟩, ⟨(some 99), none, .load false 1 (.t 98)⟩, ⟨(some 100), none, .mv (.t 13)⟩, ⟨(some 101), none, .mv (.t 15)⟩, ⟨(some 102), none, .ixaSl 1 (.t 100) (.t 101)⟩, ⟨(some 103), none, .load false 1 (.t 102)⟩] [⟨(some 104), none, .bin .neq (.t 99) (.t 103)⟩])
    (.cond (.t 104)
      (.seq (.region [⟨(some 4), none, .mv (.c (.bool false))⟩])
      .ret)
      .skip)))
    (.region [⟨(some 94), none, .mv (.t 15)⟩, ⟨(some 95), none, .bin .add (.t 94) (.c (.int .i64 1))⟩, ⟨(some 15), none, .mv (.t 95)⟩]))))))
  (.seq (.region [⟨(some 4), none, .mv (.c (.bool true))⟩])
  .ret)))))))))))⟩
/-- gatepost/gatepostlaw11.VaryTells -/
def c_gatepostlaw11_VaryTells : FnC := ⟨86, [.tmp 6],
  (.seq (.region [⟨(some 6), none, .mv (.c (.bool false))⟩])
  (.seq (.seq (.region [⟨(some 12), none, .mv (.t 0)⟩, ⟨(some 13), none, .call i_gatepostlaw11_few [(.t 12)]⟩, ⟨(some 14), none, .un .not (.t 13)⟩, ⟨(some 15), none, .mv (.t 14)⟩, ⟨(some 16), (some (15, false)), .mv (.t 2)⟩, ⟨(some 17), (some (15, false)), .call i_gatepostlaw11_few [(.t 16)]⟩, ⟨(some 18), (some (15, false)), .un .not (.t 17)⟩, ⟨(some 19), none, .pick (.t 15) (.c (.bool true)) (.t 18)⟩, ⟨(some 20), none, .mv (.t 19)⟩, ⟨(some 21), (some (20, false)), .mv (.t 1)⟩, ⟨(some 22), (some (20, false)), .call i_gatepostlaw11_short [(.t 21)]⟩, ⟨(some 23), (some (20, false)), .un .not (.t 22)⟩, ⟨(some 24), none, .pick (.t 20) (.c (.bool true)) (.t 23)⟩])
  (.cond (.t 24)
    (.seq (.region [⟨(some 6), none, .mv (.c (.bool true))⟩])
    .ret)
    .skip))
  (.seq (.region [⟨(some 26), none, .mv (.t 0)⟩, ⟨(some 27), none, .call i_vary_Names [(.t 26)]⟩, ⟨(some 25), none, .mv (.t 27)⟩, ⟨(some 28), none, .ext 0 (.t 25)⟩, ⟨(some 29), none, .ext 1 (.t 25)⟩, ⟨(some 7), none, .mv (.t 28)⟩, ⟨(some 8), none, .mv (.t 29)⟩])
  (.seq (.region [⟨(some 31), none, .mv (.t 0)⟩, ⟨(some 32), none, .call i_gatepostref11_Names [(.t 31)]⟩, ⟨(some 30), none, .mv (.t 32)⟩, ⟨(some 33), none, .ext 0 (.t 30)⟩, ⟨(some 34), none, .ext 1 (.t 30)⟩, ⟨(some 9), none, .mv (.t 33)⟩, ⟨(some 10), none, .mv (.t 34)⟩])
  (.seq (.seq (.region [⟨(some 35), none, .mv (.t 8)⟩, ⟨(some 36), none, .mv (.t 10)⟩, ⟨(some 37), none, .eq .bool true (.t 35) (.t 36)⟩, ⟨(some 38), none, .mv (.t 37)⟩, ⟨(some 39), (some (38, false)), .mv (.t 7)⟩, ⟨(some 40), (some (38, false)), .len 1 (.t 39)⟩, ⟨(some 41), (some (38, false)), .mv (.t 9)⟩, ⟨(some 42), (some (38, false)), .len 1 (.t 41)⟩, ⟨(some 43), (some (38, false)), .bin .neq (.t 40) (.t 42)⟩, ⟨(some 44), none, .pick (.t 38) (.c (.bool true)) (.t 43)⟩, ⟨(some 45), none, .mv (.t 44)⟩, ⟨(some 46), (some (45, false)), .mv (.t 1)⟩, ⟨(some 47), (some (45, false)), .mv (.t 0)⟩, ⟨(some 48), (some (45, false)), .call i_vary_Key [(.t 46), (.t 47)]⟩, ⟨(some 49), (some (45, false)), .mv (.t 1)⟩, ⟨(some 50), (some (45, false)), .mv (.t 0)⟩, ⟨(some 51), (some (45, false)), .call i_gatepostref11_Key [(.t 49), (.t 50)]⟩, ⟨(some 52), (some (45, false)), .bin .neq (.t 48) (.t 51)⟩, ⟨(some 53), none, .pick (.t 45) (.c (.bool true)) (.t 52)⟩, ⟨(some 54), none, .mv (.t 53)⟩, ⟨(some 55), (some (54, false)), .mv (.t 1)⟩, ⟨(some 56), (some (54, false)), .mv (.t 0)⟩, ⟨(some 57), (some (54, false)), .mv (.t 2)⟩, ⟨(some 58), (some (54, false)), .call i_vary_Same [(.t 55), (.t 56), (.t 57)]⟩, ⟨(some 59), (some (54, false)), .mv (.t 1)⟩, ⟨(some 60), (some (54, false)), .mv (.t 0)⟩, ⟨(some 61), (some (54, false)), .call i_gatepostref11_Key [(.t 59), (.t 60)]⟩, ⟨(some 62), (some (54, false)), .mv (.t 1)⟩, ⟨(some 63), (some (54, false)), .mv (.t 2)⟩, ⟨(some 64), (some (54, false)), .call i_gatepostref11_Key [(.t 62), (.t 63)]⟩, ⟨(some 65), (some (54, false)), .bin .eql (.t 61) (.t 64)⟩, ⟨(some 66), (some (54, false)), .eq .bool true (.t 58) (.t 65)⟩, ⟨(some 67), none, .pick (.t 54) (.c (.bool true)) (.t 66)⟩])
  (.cond (.t 67)
    (.seq (.region [⟨(some 6), none, .mv (.c (.bool false))⟩])
    .ret)
    .skip))
  (.seq (.seq (.region [⟨(some 11), none, .mv (.c (.int .i64 0))⟩])
  (.block 0 (.loop
    (.seq (.seq (.region [⟨(some 68), none, .mv (.t 11)⟩, ⟨(some 69), none, .mv (.t 9)⟩, ⟨(some 70), none, .len 1 (.t 69)⟩, ⟨(some 71), none, .bin .lss (.t 68) (.t 70)⟩])
    (.cond (.t 71)
      .skip
      (.exit 0)))
    (.seq (.block 1 (.seq (.dregion [⟨(some 74), none, .mv (.t 7)⟩, ⟨(some 75), none, .mv (.t 11)⟩, ⟨(some 76), none, .ixaSl 1 (.t 74) (.t 75)⟩, ⟨(some 77), none, .load false 1 (.t 76)⟩, ⟨(some 78), none, .mv (.t 9)⟩, ⟨(some 79), none, .mv (.t 11)⟩, ⟨(some 80), none, .ixaSl 1 (.t 78) (.t 79)⟩, ⟨(some 81), none, .load false 1 (.t 80)⟩] [⟨(some 82), none, .bin .neq (.t 77) (.t 81)⟩])
    (.cond (.t 82)
      (.seq (.region [⟨(some 6), none, .mv (.c (.bool false))⟩])
      .ret)
      .skip)))
    (.region [⟨(some 72), none, .mv (.t 11)⟩, ⟨(some 73), none, .bin .add (.t 72) (.c (.int .i64 1))⟩, ⟨(some 11), none, .mv (.t 73)⟩]))))))
  (.seq (.region [⟨(some 83), none, .bsl 1 [(.c (.str [97]))]⟩, ⟨(some 84), none, .call i_vary_Key [(.t 83), (.c .nsl)]⟩, ⟨(some 85), none, .bin .eql (.t 84) (.c (.str [97, 58, 45, 44]))⟩, ⟨(some 6), none, .mv (.t 85)⟩])
  .ret)))))))⟩
/-- gatepost/vary.Same -/
def c_vary_Same : FnC := ⟨14, [.tmp 6],
  (.seq (.region [⟨(some 6), none, .mv (.c (.bool false))⟩])
  (.seq (.region [⟨(some 7), none, .mv (.t 0)⟩, ⟨(some 8), none, .mv (.t 1)⟩, ⟨(some 9), none, .call i_vary_Key [(.t 7), (.t 8)]⟩, ⟨(some 10), none, .mv (.t 0)⟩, ⟨(some 11), none, .mv (.t 2)⟩, ⟨(some 12), none, .call i_vary_Key [(.t 10), (.t 11)]⟩, ⟨(some 13), none, .bin .eql (.t 9) (.t 12)⟩, ⟨(some 6), none, .mv (.t 13)⟩])
  .ret))⟩
/-- gatepost/gatepostlaw11.few -/
def c_gatepostlaw11_few : FnC := ⟨35, [.tmp 2],
  (.seq (.region [⟨(some 2), none, .mv (.c (.bool false))⟩])
  (.seq (.region [⟨(some 5), none, .mv (.t 0)⟩, ⟨(some 6), none, .len 1 (.t 5)⟩, ⟨(some 7), none, .bin .mul (.c (.int .i64 20)) (.t 6)⟩, ⟨(some 3), none, .mv (.t 7)⟩])
  (.seq (.seq (.region [⟨(some 4), none, .mv (.c (.int .i64 0))⟩])
  (.block 0 (.loop
    (.seq (.seq (.region [⟨(some 8), none, .mv (.t 4)⟩, ⟨(some 9), none, .mv (.t 0)⟩, ⟨(some 10), none, .len 1 (.t 9)⟩, ⟨(some 11), none, .bin .lss (.t 8) (.t 10)⟩, ⟨(some 12), none, .mv (.t 11)⟩, ⟨(some 13), (some (12, true)), .mv (.t 3)⟩, ⟨(some 14), (some (12, true)), .bin .lss (.t 13) (.c (.int .i64 3000))⟩, ⟨(some 15), none, .pick (.t 12) (.t 14) (.c (.bool false))⟩])
    (.cond (.t 15)
      .skip
      (.exit 0)))
    (.seq (.block 1 (.dregion [⟨(some 18), none, .mv (.t 3)⟩, ⟨(some 19), none, .mv (.t 0)⟩, ⟨(some 20), none, .mv (.t 4)⟩, ⟨(some 21), none, .ixaSl 2 (.t 19) (.t 20)⟩, ⟨(some 22), none, .faddr 0 (.t 21)⟩, ⟨(some 23), none, .load false 1 (.t 22)⟩, ⟨(some 24), none, .len 0 (.t 23)⟩, ⟨(some 25), none, .bin .add (.t 18) (.t 24)⟩, ⟨(some 26), none, .mv (.t 0)⟩, ⟨(some 27), none, .mv (.t 4)⟩, ⟨(some 28), none, .ixaSl 2 (.t 26) (.t 27)⟩, ⟨(some 29), none, .faddr 1 (.t 28)⟩, ⟨(some 30), none, .load false 1 (.t 29)⟩, ⟨(some 31), none, .len 0 (.t 30)⟩] [⟨(some 32), none, .bin .add (.t 25) (.t 31)⟩, ⟨(some 3), none, .mv (.t 32)⟩]))
    (.region [⟨(some 16), none, .mv (.t 4)⟩, ⟨(some 17), none, .bin .add (.t 16) (.c (.int .i64 1))⟩, ⟨(some 4), none, .mv (.t 17)⟩]))))))
  (.seq (.region [⟨(some 33), none, .mv (.t 3)⟩, ⟨(some 34), none, .bin .lss (.t 33) (.c (.int .i64 3000))⟩, ⟨(some 2), none, .mv (.t 34)⟩])
  .ret))))⟩
/-- gatepost/gatepostlaw11.short -/
def c_gatepostlaw11_short : FnC := ⟨25, [.tmp 2],
  (.seq (.region [⟨(some 2), none, .mv (.c (.bool false))⟩])
  (.seq (.region [⟨(some 3), none, .mv (.c (.int .i64 0))⟩])
  (.seq (.seq (.region [⟨(some 4), none, .mv (.c (.int .i64 0))⟩])
  (.block 0 (.loop
    (.seq (.seq (.region [⟨(some 5), none, .mv (.t 4)⟩, ⟨(some 6), none, .mv (.t 0)⟩, ⟨(some 7), none, .len 1 (.t 6)⟩, ⟨(some 8), none, .bin .lss (.t 5) (.t 7)⟩, ⟨(some 9), none, .mv (.t 8)⟩, ⟨(some 10), (some (9, true)), .mv (.t 3)⟩, ⟨(some 11), (some (9, true)), .bin .lss (.t 10) (.c (.int .i64 300))⟩, ⟨(some 12), none, .pick (.t 9) (.t 11) (.c (.bool false))⟩])
    (.cond (.t 12)
      .skip
      (.exit 0)))
    (.seq (.block 1 (.region [⟨(some 15), none, .mv (.t 3)⟩, ⟨(some 16), none, .bin .add (.t 15) (.c (.int .i64 5))⟩, ⟨(some 17), none, .mv (.t 0)⟩, ⟨(some 18), none, .mv (.t 4)⟩, ⟨(some 19), none, .ixaSl 1 (.t 17) (.t 18)⟩, ⟨(some 20), none, .load false 1 (.t 19)⟩, ⟨(some 21), none, .len 0 (.t 20)⟩, ⟨(some 22), none, .bin .add (.t 16) (.t 21)⟩, ⟨(some 3), none, .mv (.t 22)⟩]))
    (.region [⟨(some 13), none, .mv (.t 4)⟩, ⟨(some 14), none, .bin .add (.t 13) (.c (.int .i64 1))⟩, ⟨(some 4), none, .mv (.t 14)⟩]))))))
  (.seq (.region [⟨(some 23), none, .mv (.t 3)⟩, ⟨(some 24), none, .bin .lss (.t 23) (.c (.int .i64 300))⟩, ⟨(some 2), none, .mv (.t 24)⟩])
  .ret))))⟩
/-- gatepost/gatepostref01.Is -/
def c_gatepostref01_Is : FnC := ⟨18, [.tmp 2],
  (.seq (.region [⟨(some 2), none, .mv (.c (.bool false))⟩])
  (.seq (.seq (.region [⟨(some 3), none, .mv (.c (.int .i64 0))⟩])
  (.block 0 (.loop
    (.seq (.seq (.region [⟨(some 4), none, .mv (.t 3)⟩, ⟨(some 5), none, .mv (.t 0)⟩, ⟨(some 6), none, .len 0 (.t 5)⟩, ⟨(some 7), none, .bin .lss (.t 4) (.t 6)⟩])
    (.cond (.t 7)
      .skip
      (.exit 0)))
    (.seq (.block 1 (.seq (.region [⟨(some 10), none, .mv (.t 0)⟩, ⟨(some 11), none, .mv (.t 3)⟩, ⟨(some 12), none, .ixStr (.t 10) (.t 11)⟩, ⟨(some 13), none, .call i_gatepostref01_tchar [(.t 12)]⟩, ⟨(some 14), none, .un .not (.t 13)⟩])
    (.cond (.t 14)
      (.seq (.region [⟨(some 2), none, .mv (.c (.bool false))⟩])
      .ret)
      .skip)))
    (.region [⟨(some 8), none, .mv (.t 3)⟩, ⟨(some 9), none, .bin .add (.t 8) (.c (.int .i64 1))⟩, ⟨(some 3), none, .mv (.t 9)⟩]))))))
  (.seq (.region [⟨(some 15), none, .mv (.t 0)⟩, ⟨(some 16), none, .len 0 (.t 15)⟩, ⟨(some 17), none, .bin .gtr (.t 16) (.c (.int .i64 0))⟩, ⟨(some 2), none, .mv (.t 17)⟩])
  .ret)))⟩
/-- gatepost/gatepostref04.Get -/
def c_gatepostref04_Get : FnC := ⟨37, [.tmp 4, .tmp 5],
  (.seq (.region [⟨(some 4), none, .mv (.c (.str []))⟩, ⟨(some 5), none, .mv (.c (.int .i64 0))⟩])
  (.seq (.region [⟨(some 6), none, .mv (.c (.str []))⟩])
  (.seq (.region [⟨(some 7), none, .mv (.c (.int .i64 0))⟩])
  (.seq (.seq (.region [⟨(some 8), none, .mv (.c (.int .i64 0))⟩])
  (.block 0 (.loop
    (.seq (.seq (.region [⟨(some 9), none, .mv (.t 8)⟩, ⟨(some 10), none, .mv (.t 0)⟩, ⟨(some 11), none, .len 1 (.t 10)⟩, ⟨(some 12), none, .bin .lss (.t 9) (.t 11)⟩])
    (.cond (.t 12)
      .skip
      (.exit 0)))
    (.seq (.block 1 (.seq (.region [⟨(some 15), none, .mv (.t 0)⟩, ⟨(some 16), none, .mv (.t 8)⟩, ⟨(some 17), none, .ixaSl 2 (.t 15) (.t 16)⟩, ⟨(some 18), none, .faddr 0 (.t 17)⟩, ⟨(some 19), none, .load false 1 (.t 18)⟩, ⟨(some 20), none, .mv (.t 1)⟩, ⟨(some 21), none, .call i_gatepostref01_Same [(.t 19), (.t 20)]⟩])
    (.cond (.t 21)
      (.seq (.seq (.region [⟨(some 22), none, .mv (.t 7)⟩, ⟨(some 23), none, .bin .gtr (.t 22) (.c (.int .i64 0))⟩])
      (.cond (.t 23)
        (.region [⟨(some 24), none, .mv (.t 6)⟩, ⟨(some 25), none, .bin .add (.t 24) (.c (.str [44, 32]))⟩, ⟨(some 6), none, .mv (.t 25)⟩])
        .skip))
      (.seq (.region [⟨(some 26), none, .mv (.t 6)⟩, ⟨(some 27), none, .mv (.t 0)⟩, ⟨(some 28), none, .mv (.t 8)⟩, ⟨(some 29), none, .ixaSl 2 (.t 27) (.t 28)⟩, ⟨(some 30), none, .faddr 1 (.t 29)⟩, ⟨(some 31), none, .load false 1 (.t 30)⟩, ⟨(some 32), none, .bin .add (.t 26) (.t 31)⟩, ⟨(some 6), none, .mv (.t 32)⟩])
      (.region [⟨(some 33), none, .mv (.t 7)⟩, ⟨(some 34), none, .bin .add (.t 33) (.c (.int .i64 1))⟩, ⟨(some 7), none, .mv (.t 34)⟩])))
      .skip)))
    (.region [⟨(some 13), none, .mv (.t 8)⟩, ⟨(some 14), none, .bin .add (.t 13) (.c (.int .i64 1))⟩, ⟨(some 8), none, .mv (.t 14)⟩]))))))
  (.seq (.region [⟨(some 35), none, .mv (.t 6)⟩, ⟨(some 36), none, .mv (.t 7)⟩, ⟨(some 4), none, .mv (.t 35)⟩, ⟨(some 5), none, .mv (.t 36)⟩])
  .ret)))))⟩
/-- gatepost/vary.Key -/
def c_vary_Key : FnC := ⟨21, [.tmp 4],
  (.seq (.region [⟨(some 3), none, .box (.t 1)⟩, ⟨(some 4), none, .mv (.c (.str []))⟩])
  (.seq (.region [⟨(some 5), none, .boxz [.nilp, .nsl]⟩])
  (.seq (.region [⟨(some 9), none, .mkfn i_vary_Key_1 [(.t 5), (.t 3)]⟩, ⟨(some 6), none, .mv (.t 9)⟩])
  (.seq (.seq (.region [⟨(some 10), none, .mv (.t 0)⟩, ⟨(some 11), none, .len 1 (.t 10)⟩, ⟨(some 12), none, .mv (.c (.int .i64 0))⟩])
  (.block 0 (.loop
    (.seq (.region [⟨(some 13), none, .bin .lss (.t 12) (.t 11)⟩])
    (.seq (.cond (.t 13)
      .skip
      (.exit 0))
    (.seq (.block 1 (.seq (.region [⟨(some 14), none, .ixaSl 1 (.t 10) (.t 12)⟩, ⟨(some 15), none, .load false 1 (.t 14)⟩, ⟨(some 8), none, .mv (.t 15)⟩])
    (.region [⟨(some 16), none, .mv (.t 6)⟩, ⟨(some 17), none, .mv (.t 8)⟩, ⟨(some 18), none, .callv (.t 16) [(.t 17)]⟩])))
    (.region [⟨(some 19), none, .bin .add (.t 12) (.c (.int .i64 1))⟩, ⟨(some 12), none, .mv (.t 19)⟩])))))))
  (.seq (.region [⟨(some 20), none, .call i___strings_Builder__String [(.t 5)]⟩, ⟨(some 4), none, .mv (.t 20)⟩])
  .ret)))))⟩
/-- gatepost/vary.Names -/
def c_vary_Names : FnC := ⟨43, [.tmp 2, .tmp 3],
  (.seq (.region [⟨(some 2), none, .mv (.c .nsl)⟩, ⟨(some 3), none, .mv (.c (.bool false))⟩])
  (.seq (.region [⟨(some 11), none, .mv (.t 0)⟩, ⟨(some 12), none, .call i_field_Names [(.t 11), (.c (.str [86, 97, 114, 121]))]⟩, ⟨(some 10), none, .mv (.t 12)⟩, ⟨(some 13), none, .ext 0 (.t 10)⟩, ⟨(some 14), none, .ext 1 (.t 10)⟩, ⟨(some 4), none, .mv (.t 13)⟩, ⟨(some 5), none, .mv (.t 14)⟩])
  (.seq (.region [⟨(some 15), none, .mkmap⟩, ⟨(some 6), none, .mv (.t 15)⟩])
  (.seq (.region [⟨(some 7), none, .mv (.c .nsl)⟩])
  (.seq (.seq (.region [⟨(some 16), none, .mv (.t 4)⟩, ⟨(some 17), none, .len 1 (.t 16)⟩, ⟨(some 18), none, .mv (.c (.int .i64 0))⟩])
  (.block 0 (.loop
    (.seq (.region [⟨(some 19), none, .bin .lss (.t 18) (.t 17)⟩])
    (.seq (.cond (.t 19)
      .skip
      (.exit 0))
    (.seq (.block 1 (.seq (.region [⟨(some 20), none, .ixaSl 1 (.t 16) (.t 18)⟩, ⟨(some 21), none, .load false 1 (.t 20)⟩, ⟨(some 9), none, .mv (.t 21)⟩])
    (.seq (.region [⟨(some 22), none, .mv (.t 6)⟩, ⟨(some 23), none, .mv (.t 9)⟩, ⟨(some 24), none, .lookup .s (.bool false) false (.t 22) (.t 23)⟩, ⟨(some 25), none, .un .not (.t 24)⟩])
    (.cond (.t 25)
      (.seq (.region [⟨(some 26), none, .mv (.t 6)⟩, ⟨(some 27), none, .mv (.t 9)⟩, ⟨none, none, .mapset .s (.t 26) (.t 27) (.c (.bool true))⟩])
      (.region [⟨(some 28), none, .mv (.t 7)⟩, ⟨(some 29), none, .mv (.t 9)⟩, ⟨(some 30), none, .bsl 1 [(.t 29)]⟩, ⟨(some 31), none, .app 1 16 true (.t 28) (.t 30)⟩, ⟨(some 7), none, .mv (.t 31)⟩]))
      .skip))))
    (.region [⟨(some 32), none, .bin .add (.t 18) (.c (.int .i64 1))⟩, ⟨(some 18), none, .mv (.t 32)⟩])))))))
  (.seq (.seq (.region [⟨(some 33), none, .mv (.t 5)⟩, ⟨(some 34), none, .un .not (.t 33)⟩, ⟨(some 35), none, .mv (.t 34)⟩, ⟨(some 36), (some (35, false)), .mv (.t 6)⟩, ⟨(some 37), (some (35, false)), .lookup .s (.bool false) false (.t 36) (.c (.str [42]))⟩, ⟨(some 38), none, .pick (.t 35) (.c (.bool true)) (.t 37)⟩])
  (.cond (.t 38)
    (.seq (.region [⟨(some 39), none, .mv (.t 6)⟩, ⟨none, none, .clear (.t 39)⟩])
    (.seq (.region [⟨(some 2), none, .mv (.c .nsl)⟩, ⟨(some 3), none, .mv (.c (.bool false))⟩])
    .ret))
    .skip))
  (.seq (.region [⟨(some 40), none, .mv (.t 7)⟩, ⟨(some 41), none, .call i_slices_Sort___string_string_ [(.t 40)]⟩])
  (.seq (.region [⟨(some 42), none, .mv (.t 7)⟩, ⟨(some 2), none, .mv (.t 42)⟩, ⟨(some 3), none, .mv (.c (.bool true))⟩])
  .ret))))))))⟩
/-- gatepost/gatepostref11.Names -/
def c_gatepostref11_Names : FnC := ⟨74, [.tmp 2, .tmp 3],
  (.seq (.region [⟨(some 2), none, .mv (.c .nsl)⟩, ⟨(some 3), none, .mv (.c (.bool false))⟩])
  (.seq (.region [⟨(some 10), none, .mv (.t 0)⟩, ⟨(some 11), none, .call i_gatepostref04_Names [(.t 10), (.c (.str [118, 97, 114, 121]))]⟩, ⟨(some 9), none, .mv (.t 11)⟩, ⟨(some 12), none, .ext 0 (.t 9)⟩, ⟨(some 13), none, .ext 1 (.t 9)⟩, ⟨(some 4), none, .mv (.t 12)⟩, ⟨(some 5), none, .mv (.t 13)⟩])
  (.seq (.seq (.region [⟨(some 14), none, .mv (.t 5)⟩, ⟨(some 15), none, .un .not (.t 14)⟩])
  (.cond (.t 15)
    (.seq (.region [⟨(some 2), none, .mv (.c .nsl)⟩, ⟨(some 3), none, .mv (.c (.bool false))⟩])
    .ret)
    .skip))
  (.seq (.region [⟨(some 6), none, .mv (.c .nsl)⟩])
  (.seq (.block 0 (.loop
    (.seq (.seq (.region [⟨(some 16), none, .mv (.t 4)⟩, ⟨(some 17), none, .len 1 (.t 16)⟩, ⟨(some 18), none, .bin .gtr (.t 17) (.c (.int .i64 0))⟩])
    (.cond (.t 18)
      .skip
      (.exit 0)))
    (.block 1 (.seq (.region [⟨(some 7), none, .mv (.c (.int .i64 0))⟩])
    (.seq (.seq (.region [⟨(some 8), none, .mv (.c (.int .i64 1))⟩])
    (.block 2 (.loop
      (.seq (.seq (.region [⟨(some 19), none, .mv (.t 8)⟩, ⟨(some 20), none, .mv (.t 4)⟩, ⟨(some 21), none, .len 1 (.t 20)⟩, ⟨(some 22), none, .bin .lss (.t 19) (.t 21)⟩])
      (.cond (.t 22)
        .skip
        (.exit 2)))
      (.seq (.block 3 (.seq (.dregion [⟨(some 25), none, .mv (.t 4)⟩, ⟨(some 26), none, .mv (.t 8)⟩, ⟨(some 27), none, .ixaSl 1 (.t 25) (.t 26)⟩, ⟨(some 28), none, .load false 1 (.t 27)⟩, ⟨(some 29), none, .mv (.t 4)⟩, ⟨(some 30), none, .mv (.t 7)⟩, ⟨(some 31), none, .ixaSl 1 (.t 29) (.t 30)⟩, ⟨(some 32), none, .load false 1 (.t 31)⟩] [⟨(some 33), none, .bin .lss (.t 28) (.t 32)⟩])
      (.cond (.t 33)
        (.region [⟨(some 34), none, .mv (.t 8)⟩, ⟨(some 7), none, .mv (.t 34)⟩])
        .skip)))
      (.region [⟨(some 23), none, .mv (.t 8)⟩, ⟨(some 24), none, .bin .add (.t 23) (.c (.int .i64 1))⟩, ⟨(some 8), none, .mv (.t 24)⟩]))))))
    (.seq (.seq (.region [⟨(some 35), none, .mv (.t 4)⟩, ⟨(some 36), none, .mv (.t 7)⟩, ⟨(some 37), none, .ixaSl 1 (.t 35) (.t 36)⟩, ⟨(some 38), none, .load false 1 (.t 37)⟩, ⟨(some 39), none, .bin .eql (.t 38) (.c (.str [42]))⟩])
    (.cond (.t 39)
      (.seq (.region [⟨(some 2), none, .mv (.c .nsl)⟩, ⟨(some 3), none, .mv (.c (.bool false))⟩])
      .ret)
      .skip))
    (.seq (.seq (.dregion [⟨(some 40), none, .mv (.t 6)⟩, ⟨(some 41), none, .len 1 (.t 40)⟩, ⟨(some 42), none, .bin .eql (.t 41) (.c (.int .i64 0))⟩, ⟨(some 43), none, .mv (.t 42)⟩, ⟨(some 44), (some (43, false)), .mv (.t 6)⟩, ⟨(some 45), (some (43, false)), .mv (.t 6)⟩, ⟨(some 46), (some (43, false)), .len 1 (.t 45)⟩, ⟨(some 47), (some (43, false)), .bin .sub (.t 46) (.c (.int .i64 1))⟩, ⟨(some 48), (some (43, false)), .ixaSl 1 (.t 44) (.t 47)⟩, ⟨(some 49), (some (43, false)), .load false 1 (.t 48)⟩, ⟨(some 50), (some (43, false)), .mv (.t 4)⟩, ⟨(some 51), (some (43, false)), .mv (.t 7)⟩, ⟨(some 52), (some (43, false)), .ixaSl 1 (.t 50) (.t 51)⟩, ⟨(some 53), (some (43, false)), .load false 1 (.t 52)⟩] [⟨(some 54), (some (43, false)), .bin .neq (.t 49) (.t 53)⟩, ⟨(some 55), none, .pick (.t 43) (.c (.bool true)) (.t 54)⟩])
    (.cond (.t 55)
      (.region [⟨(some 56), none, .mv (.t 6)⟩, ⟨(some 57), none, .mv (.t 4)⟩, ⟨(some 58), none, .mv (.t 7)⟩, ⟨(some 59), none, .ixaSl 1 (.t 57) (.t 58)⟩, ⟨(some 60), none, .load false 1 (.t 59)⟩, ⟨(some 61), none, .bsl 1 [(.t 60)]⟩, ⟨(some 62), none, .app 1 16 false (.t 56) (.t 61)⟩, ⟨(some 6), none, .mv (.t 62)⟩])
      .skip))
    (.dregion [⟨(some 63), none, .bsl 1 []⟩, ⟨(some 64), none, .mv (.t 4)⟩, ⟨(some 65), none, .mv (.t 7)⟩, ⟨(some 66), none, .slsl 1 (.t 64) none (some (.t 65)) none⟩, ⟨(some 67), none, .app 1 16 false (.t 63) (.t 66)⟩, ⟨(some 68), none, .mv (.t 4)⟩, ⟨(some 69), none, .mv (.t 7)⟩, ⟨(some 70), none, .bin .add (.t 69) (.c (.int .i64 1))⟩, ⟨(some 71), none, .slsl 1 (.t 68) (some (.t 70)) none none⟩] [⟨(some 72), none, .app 1 16 false (.t 67) (.t 71)⟩, ⟨(some 4), none, .mv (.t 72)⟩])))))))))
  (.seq (.region [⟨(some 73), none, .mv (.t 6)⟩, ⟨(some 2), none, .mv (.t 73)⟩, ⟨(some 3), none, .mv (.c (.bool true))⟩])
  .ret))))))⟩
/-- gatepost/gatepostref11.Key -/
def c_gatepostref11_Key : FnC := ⟨49, [.tmp 4],
  (.seq (.region [⟨(some 4), none, .mv (.c (.str []))⟩])
  (.seq (.region [⟨(some 5), none, .mv (.c (.str []))⟩])
  (.seq (.seq (.region [⟨(some 6), none, .mv (.c (.int .i64 0))⟩])
  (.block 0 (.loop
    (.seq (.seq (.region [⟨(some 9), none, .mv (.t 6)⟩, ⟨(some 10), none, .mv (.t 0)⟩, ⟨(some 11), none, .len 1 (.t 10)⟩, ⟨(some 12), none, .bin .lss (.t 9) (.t 11)⟩])
    (.cond (.t 12)
      .skip
      (.exit 0)))
    (.seq (.block 1 (.seq (.region [⟨(some 16), none, .mv (.t 1)⟩, ⟨(some 17), none, .mv (.t 0)⟩, ⟨(some 18), none, .mv (.t 6)⟩, ⟨(some 19), none, .ixaSl 1 (.t 17) (.t 18)⟩, ⟨(some 20), none, .load false 1 (.t 19)⟩, ⟨(some 21), none, .call i_gatepostref04_Get [(.t 16), (.t 20)]⟩, ⟨(some 15), none, .mv (.t 21)⟩, ⟨(some 22), none, .ext 0 (.t 15)⟩, ⟨(some 23), none, .ext 1 (.t 15)⟩, ⟨(some 7), none, .mv (.t 22)⟩, ⟨(some 8), none, .mv (.t 23)⟩])
    (.seq (.region [⟨(some 24), none, .mv (.t 8)⟩, ⟨(some 25), none, .bin .eql (.t 24) (.c (.int .i64 0))⟩])
    (.cond (.t 25)
      (.region [⟨(some 26), none, .mv (.t 5)⟩, ⟨(some 27), none, .mv (.t 0)⟩, ⟨(some 28), none, .mv (.t 6)⟩, ⟨(some 29), none, .ixaSl 1 (.t 27) (.t 28)⟩, ⟨(some 30), none, .load false 1 (.t 29)⟩, ⟨(some 31), none, .bin .add (.t 26) (.t 30)⟩, ⟨(some 32), none, .bin .add (.t 31) (.c (.str [58, 45, 44]))⟩, ⟨(some 5), none, .mv (.t 32)⟩])
      (.dregion [⟨(some 33), none, .mv (.t 5)⟩, ⟨(some 34), none, .mv (.t 0)⟩, ⟨(some 35), none, .mv (.t 6)⟩, ⟨(some 36), none, .ixaSl 1 (.t 34) (.t 35)⟩, ⟨(some 37), none, .load false 1 (.t 36)⟩, ⟨(some 38), none, .bin .add (.t 33) (.t 37)⟩, ⟨(some 39), none, .bin .add (.t 38) (.c (.str [58]))⟩, ⟨(some 40), none, .mv (.t 7)⟩, ⟨(some 41), none, .len 0 (.t 40)⟩, ⟨(some 42), none, .call i_gatepostref11_digits [(.t 41)]⟩, ⟨(some 43), none, .bin .add (.t 39) (.t 42)⟩, ⟨(some 44), none, .bin .add (.t 43) (.c (.str [58]))⟩, ⟨(some 45), none, .mv (.t 7)⟩] [⟨(some 46), none, .bin .add (.t 44) (.t 45)⟩, ⟨(some 47), none, .bin .add (.t 46) (.c (.str [44]))⟩, ⟨(some 5), none, .mv (.t 47)⟩])))))
    (.region [⟨(some 13), none, .mv (.t 6)⟩, ⟨(some 14), none, .bin .add (.t 13) (.c (.int .i64 1))⟩, ⟨(some 6), none, .mv (.t 14)⟩]))))))
  (.seq (.region [⟨(some 48), none, .mv (.t 5)⟩, ⟨(some 4), none, .mv (.t 48)⟩])
  .ret))))⟩
/-- gatepost/gatepostref01.tchar -/
def c_gatepostref01_tchar : FnC := ⟨42, [.tmp 2],
  (.seq (.region [⟨(some 2), none, .mv (.c (.bool false))⟩])
  (.seq (.seq (.region [⟨(some 3), none, .mv (.t 0)⟩, ⟨(some 4), none, .bin .geq (.t 3) (.c (.int .u8 97))⟩, ⟨(some 5), none, .mv (.t 4)⟩, ⟨(some 6), (some (5, true)), .mv (.t 0)⟩, ⟨(some 7), (some (5, true)), .bin .leq (.t 6) (.c (.int .u8 122))⟩, ⟨(some 8), none, .pick (.t 5) (.t 7) (.c (.bool false))⟩, ⟨(some 9), none, .mv (.t 8)⟩, ⟨(some 10), (some (9, false)), .mv (.t 0)⟩, ⟨(some 11), (some (9, false)), .bin .geq (.t 10) (.c (.int .u8 65))⟩, ⟨(some 12), (some (9, false)), .mv (.t 11)⟩, ⟨(some 13), (some (12, true)), .mv (.t 0)⟩, ⟨(some 14), (some (12, true)), .bin .leq (.t 13) (.c (.int .u8 90))⟩, ⟨(some 15), (some (9, false)), .pick (.t 12) (.t 14) (.c (.bool false))⟩, ⟨(some 16), none, .pick (.t 9) (.c (.bool true)) (.t 15)⟩, ⟨(some 17), none, .mv (.t 16)⟩, ⟨(some 18), (some (17, false)), .mv (.t 0)⟩, ⟨(some 19), (some (17, false)), .bin .geq (.t 18) (.c (.int .u8 48))⟩, ⟨(some 20), (some (17, false)), .mv (.t 19)⟩, ⟨(some 21), (some (20, true)), .mv (.t 0)⟩, ⟨(some 22), (some (20, true)), .bin .leq (.t 21) (.c (.int .u8 57))⟩, ⟨(some 23), (some (17, false)), .pick (.t 20) (.t 22) (.c (.bool false))⟩, ⟨(some 24), none, .pick (.t 17) (.c (.bool true)) (.t 23)⟩])
  (.cond (.t 24)
    (.seq (.region [⟨(some 2), none, .mv (.c (.bool true))⟩])
    .ret)
    .skip))
  (.seq (.seq (.region [⟨(some 25), none, .mv (.t 0)⟩])
  (.block 0 (.seq (.seq (.region [⟨(some 27), none, .bin .eql (.t 25) (.c (.int .u8 33))⟩, ⟨(some 26), none, .mv (.t 27)⟩])
  (.cond (.t 26)
    .skip
    (.seq (.region [⟨(some 28), none, .bin .eql (.t 25) (.c (.int .u8 35))⟩, ⟨(some 26), none, .mv (.t 28)⟩])
    (.cond (.t 26)
      .skip
      (.seq (.region [⟨(some 29), none, .bin .eql (.t 25) (.c (.int .u8 36))⟩, ⟨(some 26), none, .mv (.t 29)⟩])
      (.cond (.t 26)
        .skip
        (.seq (.region [⟨(some 30), none, .bin .eql (.t 25) (.c (.int .u8 37))⟩, ⟨(some 26), none, .mv (.t 30)⟩])
        (.cond (.t 26)
          .skip
          (.seq (.region [⟨(some 31), none, .bin .eql (.t 25) (.c (.int .u8 38))⟩, ⟨(some 26), none, .mv (.t 31)⟩])
          (.cond (.t 26)
            .skip
            (.seq (.region [⟨(some 32), none, .bin .eql (.t 25) (.c (.int .u8 39))⟩, ⟨(some 26), none, .mv (.t 32)⟩])
            (.cond (.t 26)
              .skip
              (.seq (.region [⟨(some 33), none, .bin .eql (.t 25) (.c (.int .u8 42))⟩, ⟨(some 26), none, .mv (.t 33)⟩])
              (.cond (.t 26)
                .skip
                (.seq (.region [⟨(some 34), none, .bin .eql (.t 25) (.c (.int .u8 43))⟩, ⟨(some 26), none, .mv (.t 34)⟩])
                (.cond (.t 26)
                  .skip
                  (.seq (.region [⟨(some 35), none, .bin .eql (.t 25) (.c (.int .u8 45))⟩, ⟨(some 26), none, .mv (.t 35)⟩])
                  (.cond (.t 26)
                    .skip
                    (.seq (.region [⟨(some 36), none, .bin .eql (.t 25) (.c (.int .u8 46))⟩, ⟨(some 26), none, .mv (.t 36)⟩])
                    (.cond (.t 26)
                      .skip
                      (.seq (.region [⟨(some 37), none, .bin .eql (.t 25) (.c (.int .u8 94))⟩, ⟨(some 26), none, .mv (.t 37)⟩])
                      (.cond (.t 26)
                        .skip
                        (.seq (.region [⟨(some 38), none, .bin .eql (.t 25) (.c (.int .u8 95))⟩, ⟨(some 26), none, .mv (.t 38)⟩])
                        (.cond (.t 26)
                          .skip
                          (.seq (.region [⟨(some 39), none, .bin .eql (.t 25) (.c (.int .u8 96))⟩, ⟨(some 26), none, .mv (.t 39)⟩])
                          (.cond (.t 26)
                            .skip
                            (.seq (.region [⟨(some 40), none, .bin .eql (.t 25) (.c (.int .u8 124))⟩, ⟨(some 26), none, .mv (.t 40)⟩])
                            (.cond (.t 26)
                              .skip
                              (.region [⟨(some 41), none, .bin .eql (.t 25) (.c (.int .u8 126))⟩, ⟨(some 26), none, .mv (.t 41)⟩])))))))))))))))))))))))))))))
  (.cond (.t 26)
    (.seq (.region [⟨(some 2), none, .mv (.c (.bool true))⟩])
    .ret)
    .skip))))
  (.seq (.region [⟨(some 2), none, .mv (.c (.bool false))⟩])
  .ret))))⟩
/-- gatepost/gatepostref01.Same -/
def c_gatepostref01_Same : FnC := ⟨10, [.tmp 4],
  (.seq (.region [⟨(some 4), none, .mv (.c (.bool false))⟩])
  (.seq (.region [⟨(some 5), none, .mv (.t 0)⟩, ⟨(some 6), none, .call i_gatepostref01_Lower [(.t 5)]⟩, ⟨(some 7), none, .mv (.t 1)⟩, ⟨(some 8), none, .call i_gatepostref01_Lower [(.t 7)]⟩, ⟨(some 9), none, .bin .eql (.t 6) (.t 8)⟩, ⟨(some 4), none, .mv (.t 9)⟩])
  .ret))⟩
/-- gatepost/vary.Key$1 -/
def c_vary_Key_1 : FnC := ⟨26, [],
  (.seq (.region [⟨(some 6), none, .mv (.t 0)⟩, ⟨(some 7), none, .bin .add (.t 6) (.c (.str [58]))⟩, ⟨(some 8), none, .call i___strings_Builder__WriteString [(.t 1), (.t 7)]⟩])
  (.seq (.region [⟨(some 10), none, .load false 1 (.t 2)⟩, ⟨(some 11), none, .mv (.t 0)⟩, ⟨(some 12), none, .call i_field_Get [(.t 10), (.t 11)]⟩, ⟨(some 9), none, .mv (.t 12)⟩, ⟨(some 13), none, .ext 0 (.t 9)⟩, ⟨(some 14), none, .ext 1 (.t 9)⟩, ⟨(some 4), none, .mv (.t 13)⟩, ⟨(some 5), none, .mv (.t 14)⟩])
  (.seq (.seq (.region [⟨(some 15), none, .mv (.t 5)⟩, ⟨(some 16), none, .bin .eql (.t 15) (.c (.int .i64 0))⟩])
  (.cond (.t 16)
    (.seq (.region [⟨(some 17), none, .call i___strings_Builder__WriteString [(.t 1), (.c (.str [45, 44]))]⟩])
    .ret)
    .skip))
  (.region [⟨(some 18), none, .mv (.t 4)⟩, ⟨(some 19), none, .len 0 (.t 18)⟩, ⟨(some 20), none, .call i_strconv_Itoa [(.t 19)]⟩, ⟨(some 21), none, .bin .add (.t 20) (.c (.str [58]))⟩, ⟨(some 22), none, .mv (.t 4)⟩, ⟨(some 23), none, .bin .add (.t 21) (.t 22)⟩, ⟨(some 24), none, .bin .add (.t 23) (.c (.str [44]))⟩, ⟨(some 25), none, .call i___strings_Builder__WriteString [(.t 1), (.t 24)]⟩]))))⟩
/-- gatepost/field.Get -/
def c_field_Get : FnC := ⟨29, [.tmp 4, .tmp 5],
  (.seq (.region [⟨(some 4), none, .mv (.c (.str []))⟩, ⟨(some 5), none, .mv (.c (.int .i64 0))⟩])
  (.seq (.region [⟨(some 6), none, .mv (.c .nsl)⟩])
  (.seq (.seq (.region [⟨(some 9), none, .mv (.t 0)⟩, ⟨(some 10), none, .len 1 (.t 9)⟩, ⟨(some 11), none, .mv (.c (.int .i64 0))⟩])
  (.block 0 (.loop
    (.seq (.region [⟨(some 12), none, .bin .lss (.t 11) (.t 10)⟩])
    (.seq (.cond (.t 12)
      .skip
      (.exit 0))
    (.seq (.block 1 (.seq (.region [⟨(some 13), none, .ixaSl 2 (.t 9) (.t 11)⟩, ⟨(some 14), none, .load true 2 (.t 13)⟩, ⟨(some 8), none, .boxz [(.str []), (.str [])]⟩, ⟨none, none, .store 2 (.t 8) (.t 14)⟩])
    (.seq (.region [⟨(some 15), none, .faddr 0 (.t 8)⟩, ⟨(some 16), none, .load false 1 (.t 15)⟩, ⟨(some 17), none, .mv (.t 1)⟩, ⟨(some 18), none, .call i_token_Same [(.t 16), (.t 17)]⟩])
    (.cond (.t 18)
      (.region [⟨(some 19), none, .mv (.t 6)⟩, ⟨(some 20), none, .faddr 1 (.t 8)⟩, ⟨(some 21), none, .load false 1 (.t 20)⟩, ⟨(some 22), none, .bsl 1 [(.t 21)]⟩, ⟨(some 23), none, .app 1 16 false (.t 19) (.t 22)⟩, ⟨(some 6), none, .mv (.t 23)⟩])
      .skip))))
    (.region [⟨(some 24), none, .bin .add (.t 11) (.c (.int .i64 1))⟩, ⟨(some 11), none, .mv (.t 24)⟩])))))))
  (.seq (.region [⟨(some 25), none, .mv (.t 6)⟩, ⟨(some 26), none, .call i_strings_Join [(.t 25), (.c (.str [44, 32]))]⟩, ⟨(some 27), none, .mv (.t 6)⟩, ⟨(some 28), none, .len 1 (.t 27)⟩, ⟨(some 4), none, .mv (.t 26)⟩, ⟨(some 5), none, .mv (.t 28)⟩])
  .ret))))⟩
/-- gatepost/field.Names -/
def c_field_Names : FnC := ⟨44, [.tmp 4, .tmp 5],
  (.seq (.region [⟨(some 4), none, .mv (.c .nsl)⟩, ⟨(some 5), none, .mv (.c (.bool false))⟩])
  (.seq (.region [⟨(some 14), none, .mv (.t 0)⟩, ⟨(some 15), none, .mv (.t 1)⟩, ⟨(some 16), none, .call i_field_Get [(.t 14), (.t 15)]⟩, ⟨(some 13), none, .mv (.t 16)⟩, ⟨(some 17), none, .ext 0 (.t 13)⟩, ⟨(some 18), none, .ext 1 (.t 13)⟩, ⟨(some 6), none, .mv (.t 17)⟩, ⟨(some 7), none, .mv (.t 18)⟩])
  (.seq (.region [⟨(some 20), none, .mv (.t 6)⟩, ⟨(some 21), none, .call i_token_Split [(.t 20)]⟩, ⟨(some 19), none, .mv (.t 21)⟩, ⟨(some 22), none, .ext 0 (.t 19)⟩, ⟨(some 23), none, .ext 1 (.t 19)⟩, ⟨(some 8), none, .mv (.t 22)⟩, ⟨(some 9), none, .mv (.t 23)⟩])
  (.seq (.region [⟨(some 10), none, .mv (.c .nsl)⟩])
  (.seq (.seq (.region [⟨(some 24), none, .mv (.t 8)⟩, ⟨(some 25), none, .len 1 (.t 24)⟩, ⟨(some 26), none, .mv (.c (.int .i64 0))⟩])
  (.block 0 (.loop
    (.seq (.region [⟨(some 27), none, .bin .lss (.t 26) (.t 25)⟩])
    (.seq (.cond (.t 27)
      .skip
      (.exit 0))
    (.seq (.block 1 (.seq (.region [⟨(some 28), none, .ixaSl 1 (.t 24) (.t 26)⟩, ⟨(some 29), none, .load false 1 (.t 28)⟩, ⟨(some 12), none, .mv (.t 29)⟩])
    (.seq (.region [⟨(some 30), none, .mv (.t 9)⟩, ⟨(some 31), none, .mv (.t 30)⟩, ⟨(some 32), (some (31, true)), .mv (.t 12)⟩, ⟨(some 33), (some (31, true)), .call i_token_Is [(.t 32)]⟩, ⟨(some 34), none, .pick (.t 31) (.t 33) (.c (.bool false))⟩, ⟨(some 9), none, .mv (.t 34)⟩])
    (.region [⟨(some 35), none, .mv (.t 10)⟩, ⟨(some 36), none, .mv (.t 12)⟩, ⟨(some 37), none, .call i_token_Lower [(.t 36)]⟩, ⟨(some 38), none, .bsl 1 [(.t 37)]⟩, ⟨(some 39), none, .app 1 16 false (.t 35) (.t 38)⟩, ⟨(some 10), none, .mv (.t 39)⟩]))))
    (.region [⟨(some 40), none, .bin .add (.t 26) (.c (.int .i64 1))⟩, ⟨(some 26), none, .mv (.t 40)⟩])))))))
  (.seq (.seq (.region [⟨(some 41), none, .mv (.t 9)⟩, ⟨(some 42), none, .un .not (.t 41)⟩])
  (.cond (.t 42)
    (.seq (.region [⟨(some 4), none, .mv (.c .nsl)⟩, ⟨(some 5), none, .mv (.c (.bool false))⟩])
    .ret)
    .skip))
  (.seq (.region [⟨(some 43), none, .mv (.t 10)⟩, ⟨(some 4), none, .mv (.t 43)⟩, ⟨(some 5), none, .mv (.c (.bool true))⟩])
  .ret)))))))⟩
/-- gatepost/gatepostref04.Names -/
def c_gatepostref04_Names : FnC := ⟨46, [.tmp 4, .tmp 5],
  (.seq (.region [⟨(some 4), none, .mv (.c .nsl)⟩, ⟨(some 5), none, .mv (.c (.bool false))⟩])
  (.seq (.region [⟨(some 13), none, .mv (.t 0)⟩, ⟨(some 14), none, .mv (.t 1)⟩, ⟨(some 15), none, .call i_gatepostref04_Get [(.t 13), (.t 14)]⟩, ⟨(some 12), none, .mv (.t 15)⟩, ⟨(some 16), none, .ext 0 (.t 12)⟩, ⟨(some 17), none, .ext 1 (.t 12)⟩, ⟨(some 6), none, .mv (.t 16)⟩, ⟨(some 7), none, .mv (.t 17)⟩])
  (.seq (.region [⟨(some 19), none, .mv (.t 6)⟩, ⟨(some 20), none, .call i_gatepostref01_Split [(.t 19)]⟩, ⟨(some 18), none, .mv (.t 20)⟩, ⟨(some 21), none, .ext 0 (.t 18)⟩, ⟨(some 22), none, .ext 1 (.t 18)⟩, ⟨(some 8), none, .mv (.t 21)⟩, ⟨(some 9), none, .mv (.t 22)⟩])
  (.seq (.seq (.region [⟨(some 23), none, .mv (.t 9)⟩, ⟨(some 24), none, .un .not (.t 23)⟩])
  (.cond (.t 24)
    (.seq (.region [⟨(some 4), none, .mv (.c .nsl)⟩, ⟨(some 5), none, .mv (.c (.bool false))⟩])
    .ret)
    .skip))
  (.seq (.region [⟨(some 10), none, .mv (.c .nsl)⟩])
  (.seq (.seq (.region [⟨(some 11), none, .mv (.c (.int .i64 0))⟩])
  (.block 0 (.loop
    (.seq (.seq (.region [⟨(some 25), none, .mv (.t 11)⟩, ⟨(some 26), none, .mv (.t 8)⟩, ⟨(some 27), none, .len 1 (.t 26)⟩, ⟨(some 28), none, .bin .lss (.t 25) (.t 27)⟩])
    (.cond (.t 28)
      .skip
      (.exit 0)))
    (.seq (.block 1 (.seq (.seq (.region [⟨(some 31), none, .mv (.t 8)⟩, ⟨(some 32), none, .mv (.t 11)⟩, ⟨(some 33), none, .ixaSl 1 (.t 31) (.t 32)⟩, ⟨(some 34), none, .load false 1 (.t 33)⟩, ⟨(some 35), none, .call i_gatepostref01_Is [(.t 34)]⟩, ⟨(some 36), none, .un .not (.t 35)⟩])
    (.cond (.t 36)
      (.seq (.region [⟨(some 4), none, .mv (.c .nsl)⟩, ⟨(some 5), none, .mv (.c (.bool false))⟩])
      .ret)
      .skip))
    (.region [⟨(some 37), none, .mv (.t 10)⟩, ⟨(some 38), none, .mv (.t 8)⟩, ⟨(some 39), none, .mv (.t 11)⟩, ⟨(some 40), none, .ixaSl 1 (.t 38) (.t 39)⟩, ⟨(some 41), none, .load false 1 (.t 40)⟩, ⟨(some 42), none, .call i_gatepostref01_Lower [(.t 41)]⟩, ⟨(some 43), none, .bsl 1 [(.t 42)]⟩, ⟨(some 44), none, .app 1 16 false (.t 37) (.t 43)⟩, ⟨(some 10), none, .mv (.t 44)⟩])))
    (.region [⟨(some 29), none, .mv (.t 11)⟩, ⟨(some 30), none, .bin .add (.t 29) (.c (.int .i64 1))⟩, ⟨(some 11), none, .mv (.t 30)⟩]))))))
  (.seq (.region [⟨(some 45), none, .mv (.t 10)⟩, ⟨(some 4), none, .mv (.t 45)⟩, ⟨(some 5), none, .mv (.c (.bool true))⟩])
  .ret)))))))⟩
/-- gatepost/gatepostref11.digits -/
def c_gatepostref11_digits : FnC := ⟨16, [.tmp 2],
  (.seq (.region [⟨(some 2), none, .mv (.c (.str []))⟩])
  (.seq (.seq (.region [⟨(some 3), none, .mv (.t 0)⟩, ⟨(some 4), none, .bin .lss (.t 3) (.c (.int .i64 10))⟩])
  (.cond (.t 4)
    (.seq (.region [⟨(some 5), none, .mv (.t 0)⟩, ⟨(some 6), none, .mv (.t 0)⟩, ⟨(some 7), none, .bin .add (.t 6) (.c (.int .i64 1))⟩, ⟨(some 8), none, .slstr (.c (.str [48, 49, 50, 51, 52, 53, 54, 55, 56, 57])) (some (.t 5)) (some (.t 7))⟩, ⟨(some 2), none, .mv (.t 8)⟩])
    .ret)
    .skip))
  (.seq (.region [⟨(some 9), none, .mv (.t 0)⟩, ⟨(some 10), none, .bin .quo (.t 9) (.c (.int .i64 10))⟩, ⟨(some 11), none, .call i_gatepostref11_digits [(.t 10)]⟩, ⟨(some 12), none, .mv (.t 0)⟩, ⟨(some 13), none, .bin .rem (.t 12) (.c (.int .i64 10))⟩, ⟨(some 14), none, .call i_gatepostref11_digits [(.t 13)]⟩, ⟨(some 15), none, .bin .add (.t 11) (.t 14)⟩, ⟨(some 2), none, .mv (.t 15)⟩])
  .ret)))⟩
/-- gatepost/gatepostref01.Lower -/
def c_gatepostref01_Lower : FnC := ⟨29, [.tmp 2],
  (.seq (.region [⟨(some 2), none, .mv (.c (.str []))⟩])
  (.seq (.region [⟨(some 3), none, .mv (.c (.str []))⟩])
  (.seq (.seq (.region [⟨(some 4), none, .mv (.c (.int .i64 0))⟩])
  (.block 0 (.loop
    (.seq (.seq (.region [⟨(some 6), none, .mv (.t 4)⟩, ⟨(some 7), none, .mv (.t 0)⟩, ⟨(some 8), none, .len 0 (.t 7)⟩, ⟨(some 9), none, .bin .lss (.t 6) (.t 8)⟩])
    (.cond (.t 9)
      .skip
      (.exit 0)))
    (.seq (.block 1 (.seq (.region [⟨(some 12), none, .mv (.t 0)⟩, ⟨(some 13), none, .mv (.t 4)⟩, ⟨(some 14), none, .ixStr (.t 12) (.t 13)⟩, ⟨(some 5), none, .mv (.t 14)⟩])
    (.seq (.seq (.region [⟨(some 15), none, .mv (.t 5)⟩, ⟨(some 16), none, .bin .geq (.t 15) (.c (.int .u8 65))⟩, ⟨(some 17), none, .mv (.t 16)⟩, ⟨(some 18), (some (17, true)), .mv (.t 5)⟩, ⟨(some 19), (some (17, true)), .bin .leq (.t 18) (.c (.int .u8 90))⟩, ⟨(some 20), none, .pick (.t 17) (.t 19) (.c (.bool false))⟩])
    (.cond (.t 20)
      (.region [⟨(some 21), none, .mv (.t 5)⟩, ⟨(some 22), none, .bin .add (.t 21) (.c (.int .u8 32))⟩, ⟨(some 5), none, .mv (.t 22)⟩])
      .skip))
    (.region [⟨(some 23), none, .mv (.t 3)⟩, ⟨(some 24), none, .mv (.t 5)⟩, ⟨(some 25), none, .bsl 1 [(.t 24)]⟩, ⟨(some 26), none, .toStr (.t 25)⟩, ⟨(some 27), none, .bin .add (.t 23) (.t 26)⟩, ⟨(some 3), none, .mv (.t 27)⟩]))))
    (.region [⟨(some 10), none, .mv (.t 4)⟩, ⟨(some 11), none, .bin .add (.t 10) (.c (.int .i64 1))⟩, ⟨(some 4), none, .mv (.t 11)⟩]))))))
  (.seq (.region [⟨(some 28), none, .mv (.t 3)⟩, ⟨(some 2), none, .mv (.t 28)⟩])
  .ret))))⟩
/-- gatepost/token.Same -/
def c_token_Same : FnC := ⟨17, [.tmp 4],
  (.seq (.region [⟨(some 4), none, .mv (.c (.bool false))⟩])
  (.seq (.region [⟨(some 5), none, .mv (.t 0)⟩, ⟨(some 6), none, .len 0 (.t 5)⟩, ⟨(some 7), none, .mv (.t 1)⟩, ⟨(some 8), none, .len 0 (.t 7)⟩, ⟨(some 9), none, .bin .eql (.t 6) (.t 8)⟩, ⟨(some 10), none, .mv (.t 9)⟩, ⟨(some 11), (some (10, true)), .mv (.t 0)⟩, ⟨(some 12), (some (10, true)), .call i_token_Lower [(.t 11)]⟩, ⟨(some 13), (some (10, true)), .mv (.t 1)⟩, ⟨(some 14), (some (10, true)), .call i_token_Lower [(.t 13)]⟩, ⟨(some 15), (some (10, true)), .bin .eql (.t 12) (.t 14)⟩, ⟨(some 16), none, .pick (.t 10) (.t 15) (.c (.bool false))⟩, ⟨(some 4), none, .mv (.t 16)⟩])
  .ret))⟩
/-- gatepost/token.Split -/
def c_token_Split : FnC := ⟨54, [.tmp 2, .tmp 3],
  (.seq (.region [⟨(some 1), none, .box (.t 0)⟩, ⟨(some 2), none, .mv (.c .nsl)⟩, ⟨(some 3), none, .mv (.c (.bool false))⟩])
  (.seq (.region [⟨(some 4), none, .boxz [.nsl]⟩])
  (.seq (.region [⟨(some 5), none, .boxz [(.int .i64 0)]⟩, ⟨none, none, .store 1 (.t 5) (.c (.int .i64 0))⟩])
  (.seq (.region [⟨(some 10), none, .mkfn i_token_Split_1 [(.t 1), (.t 5), (.t 4)]⟩, ⟨(some 6), none, .mv (.t 10)⟩])
  (.seq (.region [⟨(some 7), none, .mv (.c (.bool false))⟩])
  (.seq (.seq (.region [⟨(some 8), none, .mv (.c (.int .i64 0))⟩])
  (.block 0 (.loop
    (.seq (.seq (.region [⟨(some 11), none, .mv (.t 8)⟩, ⟨(some 12), none, .load false 1 (.t 1)⟩, ⟨(some 13), none, .len 0 (.t 12)⟩, ⟨(some 14), none, .bin .lss (.t 11) (.t 13)⟩])
    (.cond (.t 14)
      .skip
      (.exit 0)))
    (.seq (.block 1 (.seq (.region [⟨(some 17), none, .load false 1 (.t 1)⟩, ⟨(some 18), none, .mv (.t 8)⟩, ⟨(some 19), none, .ixStr (.t 17) (.t 18)⟩, ⟨(some 9), none, .mv (.t 19)⟩])
    (.block 2 (.seq (.region [⟨(some 21), none, .mv (.t 9)⟩, ⟨(some 22), none, .bin .eql (.t 21) (.c (.int .u8 34))⟩, ⟨(some 20), none, .mv (.t 22)⟩])
    (.cond (.t 20)
      (.region [⟨(some 23), none, .mv (.t 7)⟩, ⟨(some 24), none, .un .not (.t 23)⟩, ⟨(some 7), none, .mv (.t 24)⟩])
      (.seq (.region [⟨(some 26), none, .mv (.t 7)⟩, ⟨(some 27), none, .mv (.t 26)⟩, ⟨(some 28), (some (27, true)), .mv (.t 9)⟩, ⟨(some 29), (some (27, true)), .bin .eql (.t 28) (.c (.int .u8 92))⟩, ⟨(some 30), none, .pick (.t 27) (.t 29) (.c (.bool false))⟩, ⟨(some 25), none, .mv (.t 30)⟩])
      (.cond (.t 25)
        (.region [⟨(some 31), none, .mv (.t 8)⟩, ⟨(some 32), none, .bin .add (.t 31) (.c (.int .i64 1))⟩, ⟨(some 8), none, .mv (.t 32)⟩])
        (.seq (.region [⟨(some 34), none, .mv (.t 7)⟩, ⟨(some 35), none, .un .not (.t 34)⟩, ⟨(some 36), none, .mv (.t 35)⟩, ⟨(some 37), (some (36, true)), .mv (.t 9)⟩, ⟨(some 38), (some (36, true)), .bin .eql (.t 37) (.c (.int .u8 44))⟩, ⟨(some 39), none, .pick (.t 36) (.t 38) (.c (.bool false))⟩, ⟨(some 33), none, .mv (.t 39)⟩])
        (.cond (.t 33)
          (.region [⟨(some 40), none, .mv (.t 6)⟩, ⟨(some 41), none, .mv (.t 8)⟩, ⟨(some 42), none, .callv (.t 40) [(.t 41)]⟩])
          .skip)))))))))
    (.region [⟨(some 15), none, .mv (.t 8)⟩, ⟨(some 16), none, .bin .add (.t 15) (.c (.int .i64 1))⟩, ⟨(some 8), none, .mv (.t 16)⟩]))))))
  (.seq (.seq (.region [⟨(some 43), none, .mv (.t 7)⟩])
  (.cond (.t 43)
    (.seq (.region [⟨(some 2), none, .mv (.c .nsl)⟩, ⟨(some 3), none, .mv (.c (.bool false))⟩])
    .ret)
    .skip))
  (.seq (.region [⟨(some 44), none, .mv (.t 6)⟩, ⟨(some 45), none, .load false 1 (.t 1)⟩, ⟨(some 46), none, .len 0 (.t 45)⟩, ⟨(some 47), none, .callv (.t 44) [(.t 46)]⟩])
  (.seq (.region [⟨(some 48), none, .load false 1 (.t 4)⟩, ⟨(some 49), none, .load false 1 (.t 4)⟩, ⟨(some 50), none, .len 1 (.t 49)⟩, ⟨(some 51), none, .load false 1 (.t 4)⟩, ⟨(some 52), none, .len 1 (.t 51)⟩, ⟨(some 53), none, .slsl 1 (.t 48) none (some (.t 50)) (some (.t 52))⟩, ⟨(some 2), none, .mv (.t 53)⟩, ⟨(some 3), none, .mv (.c (.bool true))⟩])
  .ret)))))))))⟩
/-- gatepost/token.Is -/
def c_token_Is : FnC := ⟨9, [.tmp 2],
  (.seq (.region [⟨(some 2), none, .mv (.c (.bool false))⟩])
  (.seq (.region [⟨(some 3), none, .mv (.t 0)⟩, ⟨(some 4), none, .bin .neq (.t 3) (.c (.str []))⟩, ⟨(some 5), none, .mv (.t 4)⟩, ⟨(some 6), (some (5, true)), .mv (.t 0)⟩, ⟨(some 7), (some (5, true)), .call i_token_all [(.t 6), (.c (.fn i_token_inToken []))]⟩, ⟨(some 8), none, .pick (.t 5) (.t 7) (.c (.bool false))⟩, ⟨(some 2), none, .mv (.t 8)⟩])
  .ret))⟩
/-- gatepost/token.Lower -/
def c_token_Lower : FnC := ⟨29, [.tmp 2],
  (.seq (.region [⟨(some 2), none, .mv (.c (.str []))⟩])
  (.seq (.region [⟨(some 6), none, .mv (.t 0)⟩, ⟨(some 7), none, .toBytes (.t 6)⟩, ⟨(some 3), none, .mv (.t 7)⟩])
  (.seq (.seq (.region [⟨(some 8), none, .mv (.t 3)⟩, ⟨(some 9), none, .len 1 (.t 8)⟩, ⟨(some 10), none, .mv (.c (.int .i64 0))⟩])
  (.block 0 (.loop
    (.seq (.region [⟨(some 11), none, .bin .lss (.t 10) (.t 9)⟩])
    (.seq (.cond (.t 11)
      .skip
      (.exit 0))
    (.seq (.block 1 (.seq (.region [⟨(some 12), none, .mv (.t 10)⟩, ⟨(some 13), none, .ixaSl 1 (.t 8) (.t 10)⟩, ⟨(some 14), none, .load false 1 (.t 13)⟩, ⟨(some 4), none, .mv (.t 12)⟩, ⟨(some 5), none, .mv (.t 14)⟩])
    (.seq (.region [⟨(some 15), none, .mv (.t 5)⟩, ⟨(some 16), none, .bin .geq (.t 15) (.c (.int .u8 65))⟩, ⟨(some 17), none, .mv (.t 16)⟩, ⟨(some 18), (some (17, true)), .mv (.t 5)⟩, ⟨(some 19), (some (17, true)), .bin .leq (.t 18) (.c (.int .u8 90))⟩, ⟨(some 20), none, .pick (.t 17) (.t 19) (.c (.bool false))⟩])
    (.cond (.t 20)
      (.region [⟨(some 21), none, .mv (.t 3)⟩, ⟨(some 22), none, .mv (.t 4)⟩, ⟨(some 23), none, .mv (.t 5)⟩, ⟨(some 24), none, .bin .or (.t 23) (.c (.int .u8 32))⟩, ⟨(some 25), none, .ixaSl 1 (.t 21) (.t 22)⟩, ⟨none, none, .store 1 (.t 25) (.t 24)⟩])
      .skip))))
    (.region [⟨(some 26), none, .bin .add (.t 10) (.c (.int .i64 1))⟩, ⟨(some 10), none, .mv (.t 26)⟩])))))))
  (.seq (.region [⟨(some 27), none, .mv (.t 3)⟩, ⟨(some 28), none, .toStr (.t 27)⟩, ⟨(some 2), none, .mv (.t 28)⟩])
  .ret))))⟩
/-- gatepost/gatepostref01.Split -/
def c_gatepostref01_Split : FnC := ⟨74, [.tmp 2, .tmp 3],
  (.seq (.region [⟨(some 2), none, .mv (.c .nsl)⟩, ⟨(some 3), none, .mv (.c (.bool false))⟩])
  (.seq (.region [⟨(some 4), none, .mv (.c .nsl)⟩])
  (.seq (.region [⟨(some 5), none, .mv (.c (.str []))⟩])
  (.seq (.region [⟨(some 6), none, .mv (.c (.bool false))⟩])
  (.seq (.seq (.region [⟨(some 7), none, .mv (.c (.int .i64 0))⟩])
  (.block 0 (.loop
    (.seq (.seq (.region [⟨(some 9), none, .mv (.t 7)⟩, ⟨(some 10), none, .mv (.t 0)⟩, ⟨(some 11), none, .len 0 (.t 10)⟩, ⟨(some 12), none, .bin .lss (.t 9) (.t 11)⟩])
    (.cond (.t 12)
      .skip
      (.exit 0)))
    (.seq (.block 1 (.seq (.region [⟨(some 15), none, .mv (.t 0)⟩, ⟨(some 16), none, .mv (.t 7)⟩, ⟨(some 17), none, .ixStr (.t 15) (.t 16)⟩, ⟨(some 8), none, .mv (.t 17)⟩])
    (.seq (.seq (.region [⟨(some 18), none, .mv (.t 6)⟩, ⟨(some 19), none, .un .not (.t 18)⟩, ⟨(some 20), none, .mv (.t 19)⟩, ⟨(some 21), (some (20, true)), .mv (.t 8)⟩, ⟨(some 22), (some (20, true)), .bin .eql (.t 21) (.c (.int .u8 44))⟩, ⟨(some 23), none, .pick (.t 20) (.t 22) (.c (.bool false))⟩])
    (.cond (.t 23)
      (.seq (.region [⟨(some 24), none, .mv (.t 5)⟩, ⟨(some 25), none, .call i_gatepostref01_Trim [(.t 24)]⟩, ⟨(some 5), none, .mv (.t 25)⟩])
      (.seq (.seq (.region [⟨(some 26), none, .mv (.t 5)⟩, ⟨(some 27), none, .bin .neq (.t 26) (.c (.str []))⟩])
      (.cond (.t 27)
        (.region [⟨(some 28), none, .mv (.t 4)⟩, ⟨(some 29), none, .mv (.t 5)⟩, ⟨(some 30), none, .bsl 1 [(.t 29)]⟩, ⟨(some 31), none, .app 1 16 false (.t 28) (.t 30)⟩, ⟨(some 4), none, .mv (.t 31)⟩])
        .skip))
      (.seq (.region [⟨(some 5), none, .mv (.c (.str []))⟩])
      (.exit 1))))
      .skip))
    (.seq (.region [⟨(some 32), none, .mv (.t 5)⟩, ⟨(some 33), none, .mv (.t 0)⟩, ⟨(some 34), none, .mv (.t 7)⟩, ⟨(some 35), none, .mv (.t 7)⟩, ⟨(some 36), none, .bin .add (.t 35) (.c (.int .i64 1))⟩, ⟨(some 37), none, .slstr (.t 33) (some (.t 34)) (some (.t 36))⟩, ⟨(some 38), none, .bin .add (.t 32) (.t 37)⟩, ⟨(some 5), none, .mv (.t 38)⟩])
    (.seq (.seq (.region [⟨(some 39), none, .mv (.t 8)⟩, ⟨(some 40), none, .bin .eql (.t 39) (.c (.int .u8 34))⟩])
    (.cond (.t 40)
      (.region [⟨(some 41), none, .mv (.t 6)⟩, ⟨(some 42), none, .un .not (.t 41)⟩, ⟨(some 6), none, .mv (.t 42)⟩])
      .skip))
    (.seq (.region [⟨(some 43), none, .mv (.t 6)⟩, ⟨(some 44), none, .mv (.t 43)⟩, ⟨(some 45), (some (44, true)), .mv (.t 8)⟩, ⟨(some 46), (some (44, true)), .bin .eql (.t 45) (.c (.int .u8 92))⟩, ⟨(some 47), none, .pick (.t 44) (.t 46) (.c (.bool false))⟩, ⟨(some 48), none, .mv (.t 47)⟩, ⟨(some 49), (some (48, true)), .mv (.t 7)⟩, ⟨(some 50), (some (48, true)), .bin .add (.t 49) (.c (.int .i64 1))⟩, ⟨(some 51), (some (48, true)), .mv (.t 0)⟩, ⟨(some 52), (some (48, true)), .len 0 (.t 51)⟩, ⟨(some 53), (some (48, true)), .bin .lss (.t 50) (.t 52)⟩, ⟨(some 54), none, .pick (.t 48) (.t 53) (.c (.bool false))⟩])
    (.cond (.t 54)
      (.seq (.region [⟨(some 55), none, .mv (.t 7)⟩, ⟨(some 56), none, .bin .add (.t 55) (.c (.int .i64 1))⟩, ⟨(some 7), none, .mv (.t 56)⟩])
      (.region [⟨(some 57), none, .mv (.t 5)⟩, ⟨(some 58), none, .mv (.t 0)⟩, ⟨(some 59), none, .mv (.t 7)⟩, ⟨(some 60), none, .mv (.t 7)⟩, ⟨(some 61), none, .bin .add (.t 60) (.c (.int .i64 1))⟩, ⟨(some 62), none, .slstr (.t 58) (some (.t 59)) (some (.t 61))⟩, ⟨(some 63), none, .bin .add (.t 57) (.t 62)⟩, ⟨(some 5), none, .mv (.t 63)⟩]))
      .skip)))))))
    (.region [⟨(some 13), none, .mv (.t 7)⟩, ⟨(some 14), none, .bin .add (.t 13) (.c (.int .i64 1))⟩, ⟨(some 7), none, .mv (.t 14)⟩]))))))
  (.seq (.region [⟨(some 64), none, .mv (.t 5)⟩, ⟨(some 65), none, .call i_gatepostref01_Trim [(.t 64)]⟩, ⟨(some 5), none, .mv (.t 65)⟩])
  (.seq (.seq (.region [⟨(some 66), none, .mv (.t 6)⟩])
  (.cond (.t 66)
    (.seq (.region [⟨(some 2), none, .mv (.c .nsl)⟩, ⟨(some 3), none, .mv (.c (.bool false))⟩])
    .ret)
    .skip))
  (.seq (.seq (.region [⟨(some 67), none, .mv (.t 5)⟩, ⟨(some 68), none, .bin .neq (.t 67) (.c (.str []))⟩])
  (.cond (.t 68)
    (.region [⟨(some 69), none, .mv (.t 4)⟩, ⟨(some 70), none, .mv (.t 5)⟩, ⟨(some 71), none, .bsl 1 [(.t 70)]⟩, ⟨(some 72), none, .app 1 16 false (.t 69) (.t 71)⟩, ⟨(some 4), none, .mv (.t 72)⟩])
    .skip))
  (.seq (.region [⟨(some 73), none, .mv (.t 4)⟩, ⟨(some 2), none, .mv (.t 73)⟩, ⟨(some 3), none, .mv (.c (.bool true))⟩])
  .ret)))))))))⟩
/-- gatepost/token.Split$1 -/
def c_token_Split_1 : FnC := ⟨19, [],
  (.seq (.seq (.region [⟨(some 6), none, .load false 1 (.t 1)⟩, ⟨(some 7), none, .load false 1 (.t 2)⟩, ⟨(some 8), none, .mv (.t 0)⟩, ⟨(some 9), none, .slstr (.t 6) (some (.t 7)) (some (.t 8))⟩, ⟨(some 10), none, .call i_token_Trim [(.t 9)]⟩, ⟨(some 5), none, .mv (.t 10)⟩])
  (.seq (.region [⟨(some 11), none, .mv (.t 5)⟩, ⟨(some 12), none, .bin .neq (.t 11) (.c (.str []))⟩])
  (.cond (.t 12)
    (.region [⟨(some 13), none, .load false 1 (.t 3)⟩, ⟨(some 14), none, .mv (.t 5)⟩, ⟨(some 15), none, .bsl 1 [(.t 14)]⟩, ⟨(some 16), none, .app 1 16 false (.t 13) (.t 15)⟩, ⟨none, none, .store 1 (.t 3) (.t 16)⟩])
    .skip)))
  (.region [⟨(some 17), none, .mv (.t 0)⟩, ⟨(some 18), none, .bin .add (.t 17) (.c (.int .i64 1))⟩, ⟨none, none, .store 1 (.t 2) (.t 18)⟩]))⟩
/-- gatepost/token.Trim -/
def c_token_Trim : FnC := ⟨5, [.tmp 2],
  (.seq (.region [⟨(some 2), none, .mv (.c (.str []))⟩])
  (.seq (.region [⟨(some 3), none, .mv (.t 0)⟩, ⟨(some 4), none, .call i_strings_Trim [(.t 3), (.c (.str [32, 9]))]⟩, ⟨(some 2), none, .mv (.t 4)⟩])
  .ret))⟩
/-- gatepost/token.all -/
def c_token_all : FnC := ⟨18, [.tmp 4],
  (.seq (.region [⟨(some 4), none, .mv (.c (.bool false))⟩])
  (.seq (.seq (.region [⟨(some 6), none, .mv (.t 0)⟩, ⟨(some 7), none, .len 0 (.t 6)⟩, ⟨(some 8), none, .mv (.c (.int .i64 0))⟩])
  (.block 0 (.loop
    (.seq (.region [⟨(some 9), none, .bin .lss (.t 8) (.t 7)⟩])
    (.seq (.cond (.t 9)
      .skip
      (.exit 0))
    (.seq (.block 1 (.seq (.region [⟨(some 10), none, .mv (.t 8)⟩, ⟨(some 5), none, .mv (.t 10)⟩])
    (.seq (.region [⟨(some 11), none, .mv (.t 1)⟩, ⟨(some 12), none, .mv (.t 0)⟩, ⟨(some 13), none, .mv (.t 5)⟩, ⟨(some 14), none, .ixStr (.t 12) (.t 13)⟩, ⟨(some 15), none, .callv (.t 11) [(.t 14)]⟩, ⟨(some 16), none, .un .not (.t 15)⟩])
    (.cond (.t 16)
      (.seq (.region [⟨(some 4), none, .mv (.c (.bool false))⟩])
      .ret)
      .skip))))
    (.region [⟨(some 17), none, .bin .add (.t 8) (.c (.int .i64 1))⟩, ⟨(some 8), none, .mv (.t 17)⟩])))))))
  (.seq (.region [⟨(some 4), none, .mv (.c (.bool true))⟩])
  .ret)))⟩
/-- gatepost/token.inToken -/
def c_token_inToken : FnC := ⟨30, [.tmp 2],
  (.seq (.region [⟨(some 2), none, .mv (.c (.bool false))⟩])
  (.seq (.seq (.region [⟨(some 6), none, .mv (.t 0)⟩, ⟨(some 7), none, .bin .or (.t 6) (.c (.int .u8 32))⟩, ⟨(some 3), none, .mv (.t 7)⟩])
  (.seq (.region [⟨(some 8), none, .mv (.t 3)⟩, ⟨(some 9), none, .bin .geq (.t 8) (.c (.int .u8 97))⟩, ⟨(some 10), none, .mv (.t 9)⟩, ⟨(some 11), (some (10, true)), .mv (.t 3)⟩, ⟨(some 12), (some (10, true)), .bin .leq (.t 11) (.c (.int .u8 122))⟩, ⟨(some 13), none, .pick (.t 10) (.t 12) (.c (.bool false))⟩, ⟨(some 14), none, .mv (.t 13)⟩, ⟨(some 15), (some (14, false)), .mv (.t 0)⟩, ⟨(some 16), (some (14, false)), .bin .geq (.t 15) (.c (.int .u8 48))⟩, ⟨(some 17), (some (14, false)), .mv (.t 16)⟩, ⟨(some 18), (some (17, true)), .mv (.t 0)⟩, ⟨(some 19), (some (17, true)), .bin .leq (.t 18) (.c (.int .u8 57))⟩, ⟨(some 20), (some (14, false)), .pick (.t 17) (.t 19) (.c (.bool false))⟩, ⟨(some 21), none, .pick (.t 14) (.c (.bool true)) (.t 20)⟩])
  (.cond (.t 21)
    (.seq (.region [⟨(some 2), none, .mv (.c (.bool true))⟩])
    .ret)
    .skip)))
  (.seq (.seq (.region [⟨(some 22), none, .call i_token_marks []⟩, ⟨(some 23), none, .mv (.c (.int .i64 0))⟩])
  (.block 0 (.loop
    (.seq (.region [⟨(some 24), none, .bin .lss (.t 23) (.c (.int .i64 15))⟩])
    (.seq (.cond (.t 24)
      .skip
      (.exit 0))
    (.seq (.block 1 (.seq (.region [⟨(some 25), none, .ixArr 15 1 false (.t 22) (.t 23)⟩, ⟨(some 5), none, .mv (.t 25)⟩])
    (.seq (.region [⟨(some 26), none, .mv (.t 5)⟩, ⟨(some 27), none, .mv (.t 0)⟩, ⟨(some 28), none, .bin .eql (.t 26) (.t 27)⟩])
    (.cond (.t 28)
      (.seq (.region [⟨(some 2), none, .mv (.c (.bool true))⟩])
      .ret)
      .skip))))
    (.region [⟨(some 29), none, .bin .add (.t 23) (.c (.int .i64 1))⟩, ⟨(some 23), none, .mv (.t 29)⟩])))))))
  (.seq (.region [⟨(some 2), none, .mv (.c (.bool false))⟩])
  .ret))))⟩
/-- gatepost/gatepostref01.Trim -/
def c_gatepostref01_Trim : FnC := ⟨30, [.tmp 2],
  (.seq (.region [⟨(some 2), none, .mv (.c (.str []))⟩])
  (.seq (.block 0 (.loop
    (.seq (.seq (.region [⟨(some 3), none, .mv (.t 0)⟩, ⟨(some 4), none, .len 0 (.t 3)⟩, ⟨(some 5), none, .bin .gtr (.t 4) (.c (.int .i64 0))⟩, ⟨(some 6), none, .mv (.t 5)⟩, ⟨(some 7), (some (6, true)), .mv (.t 0)⟩, ⟨(some 8), (some (6, true)), .ixStr (.t 7) (.c (.int .i64 0))⟩, ⟨(some 9), (some (6, true)), .call i_gatepostref01_blank [(.t 8)]⟩, ⟨(some 10), none, .pick (.t 6) (.t 9) (.c (.bool false))⟩])
    (.cond (.t 10)
      .skip
      (.exit 0)))
    (.block 1 (.region [⟨(some 11), none, .mv (.t 0)⟩, ⟨(some 12), none, .slstr (.t 11) (some (.c (.int .i64 1))) none⟩, ⟨(some 0), none, .mv (.t 12)⟩])))))
  (.seq (.block 2 (.loop
    (.seq (.seq (.region [⟨(some 13), none, .mv (.t 0)⟩, ⟨(some 14), none, .len 0 (.t 13)⟩, ⟨(some 15), none, .bin .gtr (.t 14) (.c (.int .i64 0))⟩, ⟨(some 16), none, .mv (.t 15)⟩, ⟨(some 17), (some (16, true)), .mv (.t 0)⟩, ⟨(some 18), (some (16, true)), .mv (.t 0)⟩, ⟨(some 19), (some (16, true)), .len 0 (.t 18)⟩, ⟨(some 20), (some (16, true)), .bin .sub (.t 19) (.c (.int .i64 1))⟩, ⟨(some 21), (some (16, true)), .ixStr (.t 17) (.t 20)⟩, ⟨(some 22), (some (16, true)), .call i_gatepostref01_blank [(.t 21)]⟩, ⟨(some 23), none, .pick (.t 16) (.t 22) (.c (.bool false))⟩])
    (.cond (.t 23)
      .skip
      (.exit 2)))
    (.block 3 (.region [⟨(some 24), none, .mv (.t 0)⟩, ⟨(some 25), none, .mv (.t 0)⟩, ⟨(some 26), none, .len 0 (.t 25)⟩, ⟨(some 27), none, .bin .sub (.t 26) (.c (.int .i64 1))⟩, ⟨(some 28), none, .slstr (.t 24) none (some (.t 27))⟩, ⟨(some 0), none, .mv (.t 28)⟩])))))
  (.seq (.region [⟨(some 29), none, .mv (.t 0)⟩, ⟨(some 2), none, .mv (.t 29)⟩])
  .ret))))⟩
/-- strings.Trim -/
def c_strings_Trim : FnC := ⟨43, [.tmp 4],
  (.seq (.region [⟨(some 4), none, .mv (.c (.str []))⟩])
  (.seq (.seq (.region [⟨(some 7), none, .mv (.t 0)⟩, ⟨(some 8), none, .bin .eql (.t 7) (.c (.str []))⟩, ⟨(some 9), none, .mv (.t 8)⟩, ⟨(some 10), (some (9, false)), .mv (.t 1)⟩, ⟨(some 11), (some (9, false)), .bin .eql (.t 10) (.c (.str []))⟩, ⟨(some 12), none, .pick (.t 9) (.c (.bool true)) (.t 11)⟩])
  (.cond (.t 12)
    (.seq (.region [⟨(some 13), none, .mv (.t 0)⟩, ⟨(some 4), none, .mv (.t 13)⟩])
    .ret)
    .skip))
  (.seq (.seq (.region [⟨(some 14), none, .mv (.t 1)⟩, ⟨(some 15), none, .len 0 (.t 14)⟩, ⟨(some 16), none, .bin .eql (.t 15) (.c (.int .i64 1))⟩, ⟨(some 17), none, .mv (.t 16)⟩, ⟨(some 18), (some (17, true)), .mv (.t 1)⟩, ⟨(some 19), (some (17, true)), .ixStr (.t 18) (.c (.int .i64 0))⟩, ⟨(some 20), (some (17, true)), .bin .lss (.t 19) (.c (.int .u8 128))⟩, ⟨(some 21), none, .pick (.t 17) (.t 20) (.c (.bool false))⟩])
  (.cond (.t 21)
    (.seq (.dregion [⟨(some 22), none, .mv (.t 0)⟩, ⟨(some 23), none, .mv (.t 1)⟩, ⟨(some 24), none, .ixStr (.t 23) (.c (.int .i64 0))⟩, ⟨(some 25), none, .call i_strings_trimRightByte [(.t 22), (.t 24)]⟩, ⟨(some 26), none, .mv (.t 1)⟩, ⟨(some 27), none, .ixStr (.t 26) (.c (.int .i64 0))⟩] [⟨(some 28), none, .call i_strings_trimLeftByte [(.t 25), (.t 27)]⟩, ⟨(some 4), none, .mv (.t 28)⟩])
    .ret)
    .skip))
  (.seq (.seq (.region [⟨(some 30), none, .mv (.t 1)⟩, ⟨(some 31), none, .call i_strings_makeASCIISet [(.t 30)]⟩, ⟨(some 29), none, .mv (.t 31)⟩, ⟨(some 32), none, .ext 0 (.t 29)⟩, ⟨(some 33), none, .ext 1 (.t 29)⟩, ⟨(some 5), none, .boxz (List.replicate 256 (.bool false))⟩, ⟨none, none, .store 256 (.t 5) (.t 32)⟩, ⟨(some 6), none, .mv (.t 33)⟩])
  (.seq (.region [⟨(some 34), none, .mv (.t 6)⟩])
  (.cond (.t 34)
    (.seq (.region [⟨(some 35), none, .mv (.t 0)⟩, ⟨(some 36), none, .call i_strings_trimRightASCII [(.t 35), (.t 5)]⟩, ⟨(some 37), none, .call i_strings_trimLeftASCII [(.t 36), (.t 5)]⟩, ⟨(some 4), none, .mv (.t 37)⟩])
    .ret)
    .skip)))
  (.seq (.region [⟨(some 38), none, .mv (.t 0)⟩, ⟨(some 39), none, .mv (.t 1)⟩, ⟨(some 40), none, .call i_strings_trimRightUnicode [(.t 38), (.t 39)]⟩, ⟨(some 41), none, .mv (.t 1)⟩, ⟨(some 42), none, .call i_strings_trimLeftUnicode [(.t 40), (.t 41)]⟩, ⟨(some 4), none, .mv (.t 42)⟩])
  .ret)))))⟩
/-- gatepost/token.marks -/
def c_token_marks : FnC := ⟨2, [.cell 0 true 15],
  (.seq (.region [⟨(some 0), none, .boxz [(.int .u8 0), (.int .u8 0), (.int .u8 0), (.int .u8 0), (.int .u8 0), (.int .u8 0), (.int .u8 0), (.int .u8 0), (.int .u8 0), (.int .u8 0), (.int .u8 0), (.int .u8 0), (.int .u8 0), (.int .u8 0), (.int .u8 0)]⟩])
  (.seq (.region [⟨(some 1), none, .build [(.int .u8 0), (.int .u8 0), (.int .u8 0), (.int .u8 0), (.int .u8 0), (.int .u8 0), (.int .u8 0), (.int .u8 0), (.int .u8 0), (.int .u8 0), (.int .u8 0), (.int .u8 0), (.int .u8 0), (.int .u8 0), (.int .u8 0)] [(0, 1, (.c (.int .u8 33))), (1, 1, (.c (.int .u8 35))), (2, 1, (.c (.int .u8 36))), (3, 1, (.c (.int .u8 37))), (4, 1, (.c (.int .u8 38))), (5, 1, (.c (.int .u8 39))), (6, 1, (.c (.int .u8 42))), (7, 1, (.c (.int .u8 43))), (8, 1, (.c (.int .u8 45))), (9, 1, (.c (.int .u8 46))), (10, 1, (.c (.int .u8 94))), (11, 1, (.c (.int .u8 95))), (12, 1, (.c (.int .u8 96))), (13, 1, (.c (.int .u8 124))), (14, 1, (.c (.int .u8 126)))]⟩, ⟨none, none, .store 15 (.t 0) (.t 1)⟩])
  .ret))⟩
/-- gatepost/gatepostref01.blank -/
def c_gatepostref01_blank : FnC := ⟨9, [.tmp 2],
  (.seq (.region [⟨(some 2), none, .mv (.c (.bool false))⟩])
  (.seq (.region [⟨(some 3), none, .mv (.t 0)⟩, ⟨(some 4), none, .bin .eql (.t 3) (.c (.int .u8 32))⟩, ⟨(some 5), none, .mv (.t 4)⟩, ⟨(some 6), (some (5, false)), .mv (.t 0)⟩, ⟨(some 7), (some (5, false)), .bin .eql (.t 6) (.c (.int .u8 9))⟩, ⟨(some 8), none, .pick (.t 5) (.c (.bool true)) (.t 7)⟩, ⟨(some 2), none, .mv (.t 8)⟩])
  .ret))⟩
/-- strings.makeASCIISet -/
def c_strings_makeASCIISet : FnC := ⟨21, [.cell 2 true 256, .tmp 3],
  (.seq (.region [⟨(some 2), none, .boxz (List.replicate 256 (.bool false))⟩, ⟨(some 3), none, .mv (.c (.bool false))⟩])
  (.seq (.seq (.region [⟨(some 4), none, .mv (.c (.int .i64 0))⟩])
  (.block 0 (.loop
    (.seq (.seq (.region [⟨(some 6), none, .mv (.t 4)⟩, ⟨(some 7), none, .mv (.t 0)⟩, ⟨(some 8), none, .len 0 (.t 7)⟩, ⟨(some 9), none, .bin .lss (.t 6) (.t 8)⟩])
    (.cond (.t 9)
      .skip
      (.exit 0)))
    (.seq (.block 1 (.seq (.region [⟨(some 12), none, .mv (.t 0)⟩, ⟨(some 13), none, .mv (.t 4)⟩, ⟨(some 14), none, .ixStr (.t 12) (.t 13)⟩, ⟨(some 5), none, .mv (.t 14)⟩])
    (.seq (.seq (.region [⟨(some 15), none, .mv (.t 5)⟩, ⟨(some 16), none, .bin .geq (.t 15) (.c (.int .u8 128))⟩])
    (.cond (.t 16)
      (.seq (.region [⟨(some 17), none, .load true 256 (.t 2)⟩, ⟨none, none, .store 256 (.t 2) (.t 17)⟩, ⟨(some 3), none, .mv (.c (.bool false))⟩])
      .ret)
      .skip))
    (.region [⟨(some 18), none, .mv (.t 5)⟩, ⟨(some 19), none, .ixaArr 256 1 (.t 2) (.t 18)⟩, ⟨none, none, .store 1 (.t 19) (.c (.bool true))⟩]))))
    (.region [⟨(some 10), none, .mv (.t 4)⟩, ⟨(some 11), none, .bin .add (.t 10) (.c (.int .i64 1))⟩, ⟨(some 4), none, .mv (.t 11)⟩]))))))
  (.seq (.region [⟨(some 20), none, .load true 256 (.t 2)⟩, ⟨none, none, .store 256 (.t 2) (.t 20)⟩, ⟨(some 3), none, .mv (.c (.bool true))⟩])
  .ret)))⟩
/-- strings.trimLeftASCII -/
def c_strings_trimLeftASCII : FnC := ⟨16, [.tmp 4],
  (.seq (.region [⟨(some 4), none, .mv (.c (.str []))⟩])
  (.seq (.block 0 (.loop
    (.seq (.seq (.region [⟨(some 5), none, .mv (.t 0)⟩, ⟨(some 6), none, .len 0 (.t 5)⟩, ⟨(some 7), none, .bin .gtr (.t 6) (.c (.int .i64 0))⟩])
    (.cond (.t 7)
      .skip
      (.exit 0)))
    (.block 1 (.seq (.seq (.region [⟨(some 8), none, .mv (.t 1)⟩, ⟨(some 9), none, .mv (.t 0)⟩, ⟨(some 10), none, .ixStr (.t 9) (.c (.int .i64 0))⟩, ⟨(some 11), none, .call i___strings_asciiSet__contains [(.t 8), (.t 10)]⟩, ⟨(some 12), none, .un .not (.t 11)⟩])
    (.cond (.t 12)
      (.exit 0)
      .skip))
    (.region [⟨(some 13), none, .mv (.t 0)⟩, ⟨(some 14), none, .slstr (.t 13) (some (.c (.int .i64 1))) none⟩, ⟨(some 0), none, .mv (.t 14)⟩]))))))
  (.seq (.region [⟨(some 15), none, .mv (.t 0)⟩, ⟨(some 4), none, .mv (.t 15)⟩])
  .ret)))⟩
/-- strings.trimRightASCII -/
def c_strings_trimRightASCII : FnC := ⟨22, [.tmp 4],
  (.seq (.region [⟨(some 4), none, .mv (.c (.str []))⟩])
  (.seq (.block 0 (.loop
    (.seq (.seq (.region [⟨(some 5), none, .mv (.t 0)⟩, ⟨(some 6), none, .len 0 (.t 5)⟩, ⟨(some 7), none, .bin .gtr (.t 6) (.c (.int .i64 0))⟩])
    (.cond (.t 7)
      .skip
      (.exit 0)))
    (.block 1 (.seq (.seq (.region [⟨(some 8), none, .mv (.t 1)⟩, ⟨(some 9), none, .mv (.t 0)⟩, ⟨(some 10), none, .mv (.t 0)⟩, ⟨(some 11), none, .len 0 (.t 10)⟩, ⟨(some 12), none, .bin .sub (.t 11) (.c (.int .i64 1))⟩, ⟨(some 13), none, .ixStr (.t 9) (.t 12)⟩, ⟨(some 14), none, .call i___strings_asciiSet__contains [(.t 8), (.t 13)]⟩, ⟨(some 15), none, .un .not (.t 14)⟩])
    (.cond (.t 15)
      (.exit 0)
      .skip))
    (.region [⟨(some 16), none, .mv (.t 0)⟩, ⟨(some 17), none, .mv (.t 0)⟩, ⟨(some 18), none, .len 0 (.t 17)⟩, ⟨(some 19), none, .bin .sub (.t 18) (.c (.int .i64 1))⟩, ⟨(some 20), none, .slstr (.t 16) none (some (.t 19))⟩, ⟨(some 0), none, .mv (.t 20)⟩]))))))
  (.seq (.region [⟨(some 21), none, .mv (.t 0)⟩, ⟨(some 4), none, .mv (.t 21)⟩])
  .ret)))⟩
/-- (*strings.asciiSet).contains -/
def c___strings_asciiSet__contains : FnC := ⟨10, [.tmp 4],
  (.seq (.region [⟨(some 4), none, .mv (.c (.bool false))⟩])
  (.seq (.region [⟨(some 5), none, .mv (.t 0)⟩, ⟨(some 6), none, .mv (.t 1)⟩, ⟨(some 7), none, .nilck (.t 5)⟩, ⟨(some 8), none, .ixaArr 256 1 (.t 7) (.t 6)⟩, ⟨(some 9), none, .load false 1 (.t 8)⟩, ⟨(some 4), none, .mv (.t 9)⟩])
  .ret))⟩
def tab : List (FuncId × FnC) := [(i_gatepostlaw11_VaryParts, c_gatepostlaw11_VaryParts), (i_gatepostlaw11_VaryOrder, c_gatepostlaw11_VaryOrder), (i_gatepostlaw11_VaryTells, c_gatepostlaw11_VaryTells), (i_vary_Same, c_vary_Same), (i_gatepostlaw11_few, c_gatepostlaw11_few), (i_gatepostlaw11_short, c_gatepostlaw11_short), (i_gatepostref01_Is, c_gatepostref01_Is), (i_gatepostref04_Get, c_gatepostref04_Get), (i_vary_Key, c_vary_Key), (i_vary_Names, c_vary_Names), (i_gatepostref11_Names, c_gatepostref11_Names), (i_gatepostref11_Key, c_gatepostref11_Key), (i_gatepostref01_tchar, c_gatepostref01_tchar), (i_gatepostref01_Same, c_gatepostref01_Same), (i_vary_Key_1, c_vary_Key_1), (i_field_Get, c_field_Get), (i_field_Names, c_field_Names), (i_gatepostref04_Names, c_gatepostref04_Names), (i_gatepostref11_digits, c_gatepostref11_digits), (i_gatepostref01_Lower, c_gatepostref01_Lower), (i_token_Same, c_token_Same), (i_token_Split, c_token_Split), (i_token_Is, c_token_Is), (i_token_Lower, c_token_Lower), (i_gatepostref01_Split, c_gatepostref01_Split), (i_token_Split_1, c_token_Split_1), (i_token_Trim, c_token_Trim), (i_token_all, c_token_all), (i_token_inToken, c_token_inToken), (i_gatepostref01_Trim, c_gatepostref01_Trim), (i_strings_Trim, c_strings_Trim), (i_token_marks, c_token_marks), (i_gatepostref01_blank, c_gatepostref01_blank), (i_strings_makeASCIISet, c_strings_makeASCIISet), (i_strings_trimLeftASCII, c_strings_trimLeftASCII), (i_strings_trimRightASCII, c_strings_trimRightASCII), (i___strings_asciiSet__contains, c___strings_asciiSet__contains)]
def F (f : FuncId) : Option FnC := tab.lookup f
theorem kc_gatepostlaw11_VaryParts : compF Tryd.prog i_gatepostlaw11_VaryParts = some c_gatepostlaw11_VaryParts := by kernel_rfl
theorem kc_gatepostlaw11_VaryOrder : compF Tryd.prog i_gatepostlaw11_VaryOrder = some c_gatepostlaw11_VaryOrder := by kernel_rfl
theorem F_gatepostlaw11_VaryTells : F i_gatepostlaw11_VaryTells = some c_gatepostlaw11_VaryTells := rfl
theorem kc_gatepostlaw11_VaryTells : compF Tryd.prog i_gatepostlaw11_VaryTells = some c_gatepostlaw11_VaryTells := by kernel_rfl
theorem F_vary_Same : F i_vary_Same = some c_vary_Same := rfl
theorem kc_vary_Same : compF Tryd.prog i_vary_Same = some c_vary_Same := by kernel_rfl
theorem F_gatepostlaw11_few : F i_gatepostlaw11_few = some c_gatepostlaw11_few := rfl
theorem kc_gatepostlaw11_few : compF Tryd.prog i_gatepostlaw11_few = some c_gatepostlaw11_few := by kernel_rfl
theorem F_gatepostlaw11_short : F i_gatepostlaw11_short = some c_gatepostlaw11_short := rfl
theorem kc_gatepostlaw11_short : compF Tryd.prog i_gatepostlaw11_short = some c_gatepostlaw11_short := by kernel_rfl
theorem F_gatepostref01_Is : F i_gatepostref01_Is = some c_gatepostref01_Is := rfl
theorem kc_gatepostref01_Is : compF Tryd.prog i_gatepostref01_Is = some c_gatepostref01_Is := by kernel_rfl
theorem F_gatepostref04_Get : F i_gatepostref04_Get = some c_gatepostref04_Get := rfl
theorem kc_gatepostref04_Get : compF Tryd.prog i_gatepostref04_Get = some c_gatepostref04_Get := by kernel_rfl
theorem kc_vary_Key : compF Tryd.prog i_vary_Key = some c_vary_Key := by kernel_rfl
theorem F_vary_Names : F i_vary_Names = some c_vary_Names := rfl
theorem kc_vary_Names : compF Tryd.prog i_vary_Names = some c_vary_Names := by kernel_rfl
theorem F_gatepostref11_Names : F i_gatepostref11_Names = some c_gatepostref11_Names := rfl
theorem kc_gatepostref11_Names : compF Tryd.prog i_gatepostref11_Names = some c_gatepostref11_Names := by kernel_rfl
theorem F_gatepostref11_Key : F i_gatepostref11_Key = some c_gatepostref11_Key := rfl
theorem kc_gatepostref11_Key : compF Tryd.prog i_gatepostref11_Key = some c_gatepostref11_Key := by kernel_rfl
theorem F_gatepostref01_tchar : F i_gatepostref01_tchar = some c_gatepostref01_tchar := rfl
theorem kc_gatepostref01_tchar : compF Tryd.prog i_gatepostref01_tchar = some c_gatepostref01_tchar := by kernel_rfl
theorem F_gatepostref01_Same : F i_gatepostref01_Same = some c_gatepostref01_Same := rfl
theorem kc_gatepostref01_Same : compF Tryd.prog i_gatepostref01_Same = some c_gatepostref01_Same := by kernel_rfl
theorem kc_vary_Key_1 : compF Tryd.prog i_vary_Key_1 = some c_vary_Key_1 := by kernel_rfl
theorem F_field_Get : F i_field_Get = some c_field_Get := rfl
theorem kc_field_Get : compF Tryd.prog i_field_Get = some c_field_Get := by kernel_rfl
theorem F_field_Names : F i_field_Names = some c_field_Names := rfl
theorem kc_field_Names : compF Tryd.prog i_field_Names = some c_field_Names := by kernel_rfl
theorem F_gatepostref04_Names : F i_gatepostref04_Names = some c_gatepostref04_Names := rfl
theorem kc_gatepostref04_Names : compF Tryd.prog i_gatepostref04_Names = some c_gatepostref04_Names := by kernel_rfl
theorem F_gatepostref11_digits : F i_gatepostref11_digits = some c_gatepostref11_digits := rfl
theorem kc_gatepostref11_digits : compF Tryd.prog i_gatepostref11_digits = some c_gatepostref11_digits := by kernel_rfl
theorem F_gatepostref01_Lower : F i_gatepostref01_Lower = some c_gatepostref01_Lower := rfl
theorem kc_gatepostref01_Lower : compF Tryd.prog i_gatepostref01_Lower = some c_gatepostref01_Lower := by kernel_rfl
theorem F_token_Same : F i_token_Same = some c_token_Same := rfl
theorem kc_token_Same : compF Tryd.prog i_token_Same = some c_token_Same := by kernel_rfl
theorem F_token_Split : F i_token_Split = some c_token_Split := rfl
theorem kc_token_Split : compF Tryd.prog i_token_Split = some c_token_Split := by kernel_rfl
theorem F_token_Is : F i_token_Is = some c_token_Is := rfl
theorem kc_token_Is : compF Tryd.prog i_token_Is = some c_token_Is := by kernel_rfl
theorem F_token_Lower : F i_token_Lower = some c_token_Lower := rfl
theorem kc_token_Lower : compF Tryd.prog i_token_Lower = some c_token_Lower := by kernel_rfl
theorem F_gatepostref01_Split : F i_gatepostref01_Split = some c_gatepostref01_Split := rfl
theorem kc_gatepostref01_Split : compF Tryd.prog i_gatepostref01_Split = some c_gatepostref01_Split := by kernel_rfl
theorem F_token_Split_1 : F i_token_Split_1 = some c_token_Split_1 := rfl
theorem kc_token_Split_1 : compF Tryd.prog i_token_Split_1 = some c_token_Split_1 := by kernel_rfl
theorem F_token_Trim : F i_token_Trim = some c_token_Trim := rfl
theorem kc_token_Trim : compF Tryd.prog i_token_Trim = some c_token_Trim := by kernel_rfl
theorem F_token_all : F i_token_all = some c_token_all := rfl
theorem kc_token_all : compF Tryd.prog i_token_all = some c_token_all := by kernel_rfl
theorem F_token_inToken : F i_token_inToken = some c_token_inToken := rfl
theorem kc_token_inToken : compF Tryd.prog i_token_inToken = some c_token_inToken := by kernel_rfl
theorem F_gatepostref01_Trim : F i_gatepostref01_Trim = some c_gatepostref01_Trim := rfl
theorem kc_gatepostref01_Trim : compF Tryd.prog i_gatepostref01_Trim = some c_gatepostref01_Trim := by kernel_rfl
theorem F_strings_Trim : F i_strings_Trim = some c_strings_Trim := rfl
theorem kc_strings_Trim : compF Tryd.prog i_strings_Trim = some c_strings_Trim := by kernel_rfl
theorem F_token_marks : F i_token_marks = some c_token_marks := rfl
theorem kc_token_marks : compF Tryd.prog i_token_marks = some c_token_marks := by kernel_rfl
theorem F_gatepostref01_blank : F i_gatepostref01_blank = some c_gatepostref01_blank := rfl
theorem kc_gatepostref01_blank : compF Tryd.prog i_gatepostref01_blank = some c_gatepostref01_blank := by kernel_rfl
theorem F_strings_makeASCIISet : F i_strings_makeASCIISet = some c_strings_makeASCIISet := rfl
theorem kc_strings_makeASCIISet : compF Tryd.prog i_strings_makeASCIISet = some c_strings_makeASCIISet := by kernel_rfl
theorem F_strings_trimLeftASCII : F i_strings_trimLeftASCII = some c_strings_trimLeftASCII := rfl
theorem kc_strings_trimLeftASCII : compF Tryd.prog i_strings_trimLeftASCII = some c_strings_trimLeftASCII := by kernel_rfl
theorem F_strings_trimRightASCII : F i_strings_trimRightASCII = some c_strings_trimRightASCII := rfl
theorem kc_strings_trimRightASCII : compF Tryd.prog i_strings_trimRightASCII = some c_strings_trimRightASCII := by kernel_rfl
theorem F___strings_asciiSet__contains : F i___strings_asciiSet__contains = some c___strings_asciiSet__contains := rfl
theorem kc___strings_asciiSet__contains : compF Tryd.prog i___strings_asciiSet__contains = some c___strings_asciiSet__contains := by kernel_rfl
def k_gatepostlaw11_VaryTells_2 (L : FuncId → List V → V → Prop) (K : V → Heap → Prop) (h : Heap) : Prop :=
    (wi F L (.bsl 1 [(.c (.str [97]))]) E0 h fun v83 h =>
    (wi F L (.call i_vary_Key [(.c v83), (.c .nsl)]) E0 h fun v84 h =>
    (wi F L (.bin .eql (.c v84) (.c (.str [97, 58, 45, 44]))) E0 h fun v85 h =>
    (∃ v, some v85 = some v ∧ K v h))))
def k_gatepostlaw11_VaryTells_4 (L : FuncId → List V → V → Prop) (K : V → Heap → Prop) (N0 : Env → Heap → Prop) (e : Env) (v11 : V) (h : Heap) : Prop :=
    (wi F L (.bin .add (.c v11) (.c (.int .i64 1))) E0 h fun v73 h =>
    (N0 (upd (upd (upd e 72 v11) 73 v73) 11 v73) h))
def k_gatepostlaw11_VaryTells_3 (L : FuncId → List V → V → Prop) (K : V → Heap → Prop) (N0 : Env → Heap → Prop) (e : Env) (v7 v9 v11 : V) (h : Heap) : Prop :=
    (wi F L (.ixaSl 1 (.c v7) (.c v11)) E0 h fun v76 h' => Ext h h' ∧
    (wi F L (.load false 1 (.c v76)) E0 h' fun v77 h => Ext h' h ∧
    (wi F L (.ixaSl 1 (.c v9) (.c v11)) E0 h fun v80 h' => Ext h h' ∧
    (wi F L (.load false 1 (.c v80)) E0 h' fun v81 h => Ext h' h ∧
    (wi F L (.bin .neq (.c v77) (.c v81)) E0 h fun v82 h =>
    (wb v82
    (∃ v, some (.bool false) = some v ∧ K v h)
    (k_gatepostlaw11_VaryTells_4 L K N0 (upd (upd (upd (upd (upd (upd (upd (upd (upd e 74 v7) 75 v11) 76 v76) 77 v77) 78 v9) 79 v11) 80 v80) 81 v81) 82 v82) v11 h)))))))
def q_gatepostlaw11_VaryTells_0 (L : FuncId → List V → V → Prop) (K : V → Heap → Prop) : X → Env → Heap → Prop := (fun x => (seqX (fun e h => k_gatepostlaw11_VaryTells_2 L K  h) (retX c_gatepostlaw11_VaryTells.results K)) (X.out 0 x))
def lc_gatepostlaw11_VaryTells_0 : C :=
  (.seq (.seq (.region [⟨(some 68), none, .mv (.t 11)⟩, ⟨(some 69), none, .mv (.t 9)⟩, ⟨(some 70), none, .len 1 (.t 69)⟩, ⟨(some 71), none, .bin .lss (.t 68) (.t 70)⟩])
  (.cond (.t 71)
    .skip
    (.exit 0)))
  (.seq (.block 1 (.seq (.dregion [⟨(some 74), none, .mv (.t 7)⟩, ⟨(some 75), none, .mv (.t 11)⟩, ⟨(some 76), none, .ixaSl 1 (.t 74) (.t 75)⟩, ⟨(some 77), none, .load false 1 (.t 76)⟩, ⟨(some 78), none, .mv (.t 9)⟩, ⟨(some 79), none, .mv (.t 11)⟩, ⟨(some 80), none, .ixaSl 1 (.t 78) (.t 79)⟩, ⟨(some 81), none, .load false 1 (.t 80)⟩] [⟨(some 82), none, .bin .neq (.t 77) (.t 81)⟩])
  (.cond (.t 82)
    (.seq (.region [⟨(some 6), none, .mv (.c (.bool false))⟩])
    .ret)
    .skip)))
  (.region [⟨(some 72), none, .mv (.t 11)⟩, ⟨(some 73), none, .bin .add (.t 72) (.c (.int .i64 1))⟩, ⟨(some 11), none, .mv (.t 73)⟩])))
def b_gatepostlaw11_VaryTells_0 (L : FuncId → List V → V → Prop) (K : V → Heap → Prop) (N0 : Env → Heap → Prop) (e : Env) (h : Heap) : Prop :=
    (wi F L (.len 1 (.c (e 9))) E0 h fun v70 h =>
    (wi F L (.bin .lss (.c (e 11)) (.c v70)) E0 h fun v71 h =>
    (wb v71
    (k_gatepostlaw11_VaryTells_3 L K N0 (upd (upd (upd (upd e 68 (e 11)) 69 (e 9)) 70 v70) 71 v71) (e 7) (e 9) (e 11) h)
    (k_gatepostlaw11_VaryTells_2 L K  h))))
theorem l_gatepostlaw11_VaryTells_0 {L : FuncId → List V → V → Prop} {K : V → Heap → Prop} (I : Nat → Env → Heap → Prop) (hr : ∀ n e h, I n e h → b_gatepostlaw11_VaryTells_0 L K (fun e' h' => ∃ m, m < n ∧ I m e' h') e h) {n : Nat} {e : Env} {h : Heap} (hi : I n e h) : Wl F L lc_gatepostlaw11_VaryTells_0 (q_gatepostlaw11_VaryTells_0 L K) e h :=
  wloopp (b := b_gatepostlaw11_VaryTells_0 L K) I (fun _ _ _ => by kernel_rfl) hr hi
def k_gatepostlaw11_VaryTells_1 (L : FuncId → List V → V → Prop) (K : V → Heap → Prop) (e : Env) (h : Heap) : Prop :=
    (Wl F L lc_gatepostlaw11_VaryTells_0 (q_gatepostlaw11_VaryTells_0 L K) (upd e 11 (.int .i64 0)) h)
def k_gatepostlaw11_VaryTells_5 (L : FuncId → List V → V → Prop) (K : V → Heap → Prop) (e : Env) (v0 v27 v28 v29 v32 v33 v34 v37 v39 v40 v41 v42 v43 v44 v46 v47 v48 v49 v50 v51 v52 v53 v55 v56 v57 v58 v59 v60 v61 v62 v63 v64 : V) (h : Heap) : Prop :=
    (wg v53 false (wi F L (.bin .eql (.c v61) (.c v64)) E0 h) h fun v65 h =>
    (wg v53 false (wi F L (.eq .bool true (.c v58) (.c v65)) E0 h) h fun v66 h =>
    (wi F L (.pick (.c v53) (.c (.bool true)) (.c v66)) E0 h fun v67 h =>
    (wb v67
    (∃ v, some (.bool false) = some v ∧ K v h)
    (k_gatepostlaw11_VaryTells_1 L K (upd (upd (upd (upd (upd (upd (upd (upd (upd (upd (upd (upd (upd (upd (upd (upd (upd (upd (upd (upd (upd (upd (upd (upd (upd (upd (upd (upd (upd (upd (upd (upd (upd (upd (upd (upd (upd (upd (upd (upd (upd (upd (upd (upd (upd (upd (upd e 26 v0) 27 v27) 25 v27) 28 v28) 29 v29) 7 v28) 8 v29) 31 v0) 32 v32) 30 v32) 33 v33) 34 v34) 9 v33) 10 v34) 35 v29) 36 v34) 37 v37) 38 v37) 39 v39) 40 v40) 41 v41) 42 v42) 43 v43) 44 v44) 45 v44) 46 v46) 47 v47) 48 v48) 49 v49) 50 v50) 51 v51) 52 v52) 53 v53) 54 v53) 55 v55) 56 v56) 57 v57) 58 v58) 59 v59) 60 v60) 61 v61) 62 v62) 63 v63) 64 v64) 65 v65) 66 v66) 67 v67)  h)))))
def k_gatepostlaw11_VaryTells_6 (L : FuncId → List V → V → Prop) (K : V → Heap → Prop) (e : Env) (v0 v1 v2 v27 v28 v29 v32 v33 v34 v37 v39 v40 v41 v42 v43 v44 v46 v47 v48 v49 v50 v51 v52 v53 v55 v56 v57 v58 : V) (h : Heap) : Prop :=
    (wg v53 false (wi F L (.mv (.c v1)) E0 h) h fun v59 h =>
    (wg v53 false (wi F L (.mv (.c v0)) E0 h) h fun v60 h =>
    (wg v53 false (wi F L (.call i_gatepostref11_Key [(.c v59), (.c v60)]) E0 h) h fun v61 h =>
    (wg v53 false (wi F L (.mv (.c v1)) E0 h) h fun v62 h =>
    (wg v53 false (wi F L (.mv (.c v2)) E0 h) h fun v63 h =>
    (wg v53 false (wi F L (.call i_gatepostref11_Key [(.c v62), (.c v63)]) E0 h) h fun v64 h =>
    (k_gatepostlaw11_VaryTells_5 L K e v0 v27 v28 v29 v32 v33 v34 v37 v39 v40 v41 v42 v43 v44 v46 v47 v48 v49 v50 v51 v52 v53 v55 v56 v57 v58 v59 v60 v61 v62 v63 v64 h)))))))
def k_gatepostlaw11_VaryTells_7 (L : FuncId → List V → V → Prop) (K : V → Heap → Prop) (e : Env) (v0 v1 v2 v27 v28 v29 v32 v33 v34 v37 v39 v40 v41 v42 v43 v44 v46 v47 v48 v49 v50 v51 : V) (h : Heap) : Prop :=
    (wg v44 false (wi F L (.bin .neq (.c v48) (.c v51)) E0 h) h fun v52 h =>
    (wi F L (.pick (.c v44) (.c (.bool true)) (.c v52)) E0 h fun v53 h =>
    (wg v53 false (wi F L (.mv (.c v1)) E0 h) h fun v55 h =>
    (wg v53 false (wi F L (.mv (.c v0)) E0 h) h fun v56 h =>
    (wg v53 false (wi F L (.mv (.c v2)) E0 h) h fun v57 h =>
    (wg v53 false (wi F L (.call i_vary_Same [(.c v55), (.c v56), (.c v57)]) E0 h) h fun v58 h =>
    (k_gatepostlaw11_VaryTells_6 L K e v0 v1 v2 v27 v28 v29 v32 v33 v34 v37 v39 v40 v41 v42 v43 v44 v46 v47 v48 v49 v50 v51 v52 v53 v55 v56 v57 v58 h)))))))
def k_gatepostlaw11_VaryTells_8 (L : FuncId → List V → V → Prop) (K : V → Heap → Prop) (e : Env) (v0 v1 v2 v27 v28 v29 v32 : V) (h : Heap) : Prop :=
    (wi F L (.ext 0 (.c v32)) E0 h fun v33 h =>
    (wi F L (.ext 1 (.c v32)) E0 h fun v34 h =>
    (wi F L (.eq .bool true (.c v29) (.c v34)) E0 h fun v37 h =>
    (wg v37 false (wi F L (.mv (.c v28)) E0 h) h fun v39 h =>
    (wg v37 false (wi F L (.len 1 (.c v39)) E0 h) h fun v40 h =>
    (wg v37 false (wi F L (.mv (.c v33)) E0 h) h fun v41 h =>
    (wg v37 false (wi F L (.len 1 (.c v41)) E0 h) h fun v42 h =>
    (wg v37 false (wi F L (.bin .neq (.c v40) (.c v42)) E0 h) h fun v43 h =>
    (wi F L (.pick (.c v37) (.c (.bool true)) (.c v43)) E0 h fun v44 h =>
    (wg v44 false (wi F L (.mv (.c v1)) E0 h) h fun v46 h =>
    (wg v44 false (wi F L (.mv (.c v0)) E0 h) h fun v47 h =>
    (wg v44 false (wi F L (.call i_vary_Key [(.c v46), (.c v47)]) E0 h) h fun v48 h =>
    (wg v44 false (wi F L (.mv (.c v1)) E0 h) h fun v49 h =>
    (wg v44 false (wi F L (.mv (.c v0)) E0 h) h fun v50 h =>
    (wg v44 false (wi F L (.call i_gatepostref11_Key [(.c v49), (.c v50)]) E0 h) h fun v51 h =>
    (k_gatepostlaw11_VaryTells_7 L K e v0 v1 v2 v27 v28 v29 v32 v33 v34 v37 v39 v40 v41 v42 v43 v44 v46 v47 v48 v49 v50 v51 h))))))))))))))))
def k_gatepostlaw11_VaryTells_0 (L : FuncId → List V → V → Prop) (K : V → Heap → Prop) (e : Env) (v0 v1 v2 : V) (h : Heap) : Prop :=
    (wi F L (.call i_vary_Names [(.c v0)]) E0 h fun v27 h =>
    (wi F L (.ext 0 (.c v27)) E0 h fun v28 h =>
    (wi F L (.ext 1 (.c v27)) E0 h fun v29 h =>
    (wi F L (.call i_gatepostref11_Names [(.c v0)]) E0 h fun v32 h =>
    (k_gatepostlaw11_VaryTells_8 L K e v0 v1 v2 v27 v28 v29 v32 h)))))
def k_gatepostlaw11_VaryTells_9 (L : FuncId → List V → V → Prop) (K : V → Heap → Prop) (a0 a1 a2 v13 v14 v16 v17 v18 v19 v21 v22 : V) (h : Heap) : Prop :=
    (wg v19 false (wi F L (.un .not (.c v22)) E0 h) h fun v23 h =>
    (wi F L (.pick (.c v19) (.c (.bool true)) (.c v23)) E0 h fun v24 h =>
    (wb v24
    (∃ v, some (.bool true) = some v ∧ K v h)
    (k_gatepostlaw11_VaryTells_0 L K (upd (upd (upd (upd (upd (upd (upd (upd (upd (upd (upd (upd (upd (upd (enterE [a0, a1, a2]) 6 (.bool false)) 12 a0) 13 v13) 14 v14) 15 v14) 16 v16) 17 v17) 18 v18) 19 v19) 20 v19) 21 v21) 22 v22) 23 v23) 24 v24) a0 a1 a2 h))))
def k_gatepostlaw11_VaryTells_10 (L : FuncId → List V → V → Prop) (K : V → Heap → Prop) (a0 a1 a2 v13 : V) (h : Heap) : Prop :=
    (wi F L (.un .not (.c v13)) E0 h fun v14 h =>
    (wg v14 false (wi F L (.mv (.c a2)) E0 h) h fun v16 h =>
    (wg v14 false (wi F L (.call i_gatepostlaw11_few [(.c v16)]) E0 h) h fun v17 h =>
    (wg v14 false (wi F L (.un .not (.c v17)) E0 h) h fun v18 h =>
    (wi F L (.pick (.c v14) (.c (.bool true)) (.c v18)) E0 h fun v19 h =>
    (wg v19 false (wi F L (.mv (.c a1)) E0 h) h fun v21 h =>
    (wg v19 false (wi F L (.call i_gatepostlaw11_short [(.c v21)]) E0 h) h fun v22 h =>
    (k_gatepostlaw11_VaryTells_9 L K a0 a1 a2 v13 v14 v16 v17 v18 v19 v21 v22 h))))))))
def p_gatepostlaw11_VaryTells (L : FuncId → List V → V → Prop) (K : V → Heap → Prop) (a0 a1 a2 : V) (h : Heap) : Prop :=
    (wi F L (.call i_gatepostlaw11_few [(.c a0)]) E0 h fun v13 h =>
    (k_gatepostlaw11_VaryTells_10 L K a0 a1 a2 v13 h))
theorem run_gatepostlaw11_VaryTells {L : FuncId → List V → V → Prop} {K : V → Heap → Prop} {a0 a1 a2 : V} {h : Heap} (hp : p_gatepostlaw11_VaryTells L K a0 a1 a2 h) : Cf F L i_gatepostlaw11_VaryTells [a0, a1, a2] h K :=
  wcallp F_gatepostlaw11_VaryTells (show 3 ≤ 86 by decide) (p := p_gatepostlaw11_VaryTells L K a0 a1 a2 h) (by kernel_rfl) hp
def p_vary_Same (L : FuncId → List V → V → Prop) (K : V → Heap → Prop) (a0 a1 a2 : V) (h : Heap) : Prop :=
    (wi F L (.call i_vary_Key [(.c a0), (.c a1)]) E0 h fun v9 h =>
    (wi F L (.call i_vary_Key [(.c a0), (.c a2)]) E0 h fun v12 h =>
    (wi F L (.bin .eql (.c v9) (.c v12)) E0 h fun v13 h =>
    (∃ v, some v13 = some v ∧ K v h))))
theorem run_vary_Same {L : FuncId → List V → V → Prop} {K : V → Heap → Prop} {a0 a1 a2 : V} {h : Heap} (hp : p_vary_Same L K a0 a1 a2 h) : Cf F L i_vary_Same [a0, a1, a2] h K :=
  wcallp F_vary_Same (show 3 ≤ 14 by decide) (p := p_vary_Same L K a0 a1 a2 h) (by kernel_rfl) hp
def k_gatepostlaw11_few_0 (L : FuncId → List V → V → Prop) (K : V → Heap → Prop) (v3 : V) (h : Heap) : Prop :=
    (wi F L (.bin .lss (.c v3) (.c (.int .i64 3000))) E0 h fun v34 h =>
    (∃ v, some v34 = some v ∧ K v h))
def k_gatepostlaw11_few_2 (L : FuncId → List V → V → Prop) (K : V → Heap → Prop) (N0 : Env → Heap → Prop) (e : Env) (v4 : V) (h : Heap) : Prop :=
    (wi F L (.bin .add (.c v4) (.c (.int .i64 1))) E0 h fun v17 h =>
    (N0 (upd (upd (upd e 16 v4) 17 v17) 4 v17) h))
def k_gatepostlaw11_few_1 (L : FuncId → List V → V → Prop) (K : V → Heap → Prop) (N0 : Env → Heap → Prop) (e : Env) (v0 v3 v4 : V) (h : Heap) : Prop :=
    (wi F L (.ixaSl 2 (.c v0) (.c v4)) E0 h fun v21 h' => Ext h h' ∧
    (wi F L (.faddr 0 (.c v21)) E0 h' fun v22 h => Ext h' h ∧
    (wi F L (.load false 1 (.c v22)) E0 h fun v23 h' => Ext h h' ∧
    (wi F L (.len 0 (.c v23)) E0 h' fun v24 h => Ext h' h ∧
    (wi F L (.bin .add (.c v3) (.c v24)) E0 h fun v25 h' => Ext h h' ∧
    (wi F L (.ixaSl 2 (.c v0) (.c v4)) E0 h' fun v28 h => Ext h' h ∧
    (wi F L (.faddr 1 (.c v28)) E0 h fun v29 h' => Ext h h' ∧
    (wi F L (.load false 1 (.c v29)) E0 h' fun v30 h => Ext h' h ∧
    (wi F L (.len 0 (.c v30)) E0 h fun v31 h' => Ext h h' ∧
    (wi F L (.bin .add (.c v25) (.c v31)) E0 h' fun v32 h =>
    (k_gatepostlaw11_few_2 L K N0 (upd (upd (upd (upd (upd (upd (upd (upd (upd (upd (upd (upd (upd (upd (upd (upd e 18 v3) 19 v0) 20 v4) 21 v21) 22 v22) 23 v23) 24 v24) 25 v25) 26 v0) 27 v4) 28 v28) 29 v29) 30 v30) 31 v31) 32 v32) 3 v32) v4 h)))))))))))
def q_gatepostlaw11_few_0 (L : FuncId → List V → V → Prop) (K : V → Heap → Prop) : X → Env → Heap → Prop := (fun x => (seqX (fun e h => k_gatepostlaw11_few_0 L K (e 3) h) (retX c_gatepostlaw11_few.results K)) (X.out 0 x))
def lc_gatepostlaw11_few_0 : C :=
  (.seq (.seq (.region [⟨(some 8), none, .mv (.t 4)⟩, ⟨(some 9), none, .mv (.t 0)⟩, ⟨(some 10), none, .len 1 (.t 9)⟩, ⟨(some 11), none, .bin .lss (.t 8) (.t 10)⟩, ⟨(some 12), none, .mv (.t 11)⟩, ⟨(some 13), (some (12, true)), .mv (.t 3)⟩, ⟨(some 14), (some (12, true)), .bin .lss (.t 13) (.c (.int .i64 3000))⟩, ⟨(some 15), none, .pick (.t 12) (.t 14) (.c (.bool false))⟩])
  (.cond (.t 15)
    .skip
    (.exit 0)))
  (.seq (.block 1 (.dregion [⟨(some 18), none, .mv (.t 3)⟩, ⟨(some 19), none, .mv (.t 0)⟩, ⟨(some 20), none, .mv (.t 4)⟩, ⟨(some 21), none, .ixaSl 2 (.t 19) (.t 20)⟩, ⟨(some 22), none, .faddr 0 (.t 21)⟩, ⟨(some 23), none, .load false 1 (.t 22)⟩, ⟨(some 24), none, .len 0 (.t 23)⟩, ⟨(some 25), none, .bin .add (.t 18) (.t 24)⟩, ⟨(some 26), none, .mv (.t 0)⟩, ⟨(some 27), none, .mv (.t 4)⟩, ⟨(some 28), none, .ixaSl 2 (.t 26) (.t 27)⟩, ⟨(some 29), none, .faddr 1 (.t 28)⟩, ⟨(some 30), none, .load false 1 (.t 29)⟩, ⟨(some 31), none, .len 0 (.t 30)⟩] [⟨(some 32), none, .bin .add (.t 25) (.t 31)⟩, ⟨(some 3), none, .mv (.t 32)⟩]))
  (.region [⟨(some 16), none, .mv (.t 4)⟩, ⟨(some 17), none, .bin .add (.t 16) (.c (.int .i64 1))⟩, ⟨(some 4), none, .mv (.t 17)⟩])))
def b_gatepostlaw11_few_0 (L : FuncId → List V → V → Prop) (K : V → Heap → Prop) (N0 : Env → Heap → Prop) (e : Env) (h : Heap) : Prop :=
    (wi F L (.len 1 (.c (e 0))) E0 h fun v10 h =>
    (wi F L (.bin .lss (.c (e 4)) (.c v10)) E0 h fun v11 h =>
    (wg v11 true (wi F L (.mv (.c (e 3))) E0 h) h fun v13 h =>
    (wg v11 true (wi F L (.bin .lss (.c v13) (.c (.int .i64 3000))) E0 h) h fun v14 h =>
    (wi F L (.pick (.c v11) (.c v14) (.c (.bool false))) E0 h fun v15 h =>
    (wb v15
    (k_gatepostlaw11_few_1 L K N0 (upd (upd (upd (upd (upd (upd (upd (upd e 8 (e 4)) 9 (e 0)) 10 v10) 11 v11) 12 v11) 13 v13) 14 v14) 15 v15) (e 0) (e 3) (e 4) h)
    (k_gatepostlaw11_few_0 L K (e 3) h)))))))
theorem l_gatepostlaw11_few_0 {L : FuncId → List V → V → Prop} {K : V → Heap → Prop} (I : Nat → Env → Heap → Prop) (hr : ∀ n e h, I n e h → b_gatepostlaw11_few_0 L K (fun e' h' => ∃ m, m < n ∧ I m e' h') e h) {n : Nat} {e : Env} {h : Heap} (hi : I n e h) : Wl F L lc_gatepostlaw11_few_0 (q_gatepostlaw11_few_0 L K) e h :=
  wloopp (b := b_gatepostlaw11_few_0 L K) I (fun _ _ _ => by kernel_rfl) hr hi
def p_gatepostlaw11_few (L : FuncId → List V → V → Prop) (K : V → Heap → Prop) (a0 : V) (h : Heap) : Prop :=
    (wi F L (.len 1 (.c a0)) E0 h fun v6 h =>
    (wi F L (.bin .mul (.c (.int .i64 20)) (.c v6)) E0 h fun v7 h =>
    (Wl F L lc_gatepostlaw11_few_0 (q_gatepostlaw11_few_0 L K) (upd (upd (upd (upd (upd (upd (enterE [a0]) 2 (.bool false)) 5 a0) 6 v6) 7 v7) 3 v7) 4 (.int .i64 0)) h)))
theorem run_gatepostlaw11_few {L : FuncId → List V → V → Prop} {K : V → Heap → Prop} {a0 : V} {h : Heap} (hp : p_gatepostlaw11_few L K a0 h) : Cf F L i_gatepostlaw11_few [a0] h K :=
  wcallp F_gatepostlaw11_few (show 1 ≤ 35 by decide) (p := p_gatepostlaw11_few L K a0 h) (by kernel_rfl) hp
def k_gatepostlaw11_short_0 (L : FuncId → List V → V → Prop) (K : V → Heap → Prop) (v3 : V) (h : Heap) : Prop :=
    (wi F L (.bin .lss (.c v3) (.c (.int .i64 300))) E0 h fun v24 h =>
    (∃ v, some v24 = some v ∧ K v h))
def k_gatepostlaw11_short_2 (L : FuncId → List V → V → Prop) (K : V → Heap → Prop) (N0 : Env → Heap → Prop) (e : Env) (v4 : V) (h : Heap) : Prop :=
    (wi F L (.bin .add (.c v4) (.c (.int .i64 1))) E0 h fun v14 h =>
    (N0 (upd (upd (upd e 13 v4) 14 v14) 4 v14) h))
def k_gatepostlaw11_short_1 (L : FuncId → List V → V → Prop) (K : V → Heap → Prop) (N0 : Env → Heap → Prop) (e : Env) (v0 v3 v4 : V) (h : Heap) : Prop :=
    (wi F L (.bin .add (.c v3) (.c (.int .i64 5))) E0 h fun v16 h =>
    (wi F L (.ixaSl 1 (.c v0) (.c v4)) E0 h fun v19 h =>
    (wi F L (.load false 1 (.c v19)) E0 h fun v20 h =>
    (wi F L (.len 0 (.c v20)) E0 h fun v21 h =>
    (wi F L (.bin .add (.c v16) (.c v21)) E0 h fun v22 h =>
    (k_gatepostlaw11_short_2 L K N0 (upd (upd (upd (upd (upd (upd (upd (upd (upd e 15 v3) 16 v16) 17 v0) 18 v4) 19 v19) 20 v20) 21 v21) 22 v22) 3 v22) v4 h))))))
def q_gatepostlaw11_short_0 (L : FuncId → List V → V → Prop) (K : V → Heap → Prop) : X → Env → Heap → Prop := (fun x => (seqX (fun e h => k_gatepostlaw11_short_0 L K (e 3) h) (retX c_gatepostlaw11_short.results K)) (X.out 0 x))
def lc_gatepostlaw11_short_0 : C :=
  (.seq (.seq (.region [⟨(some 5), none, .mv (.t 4)⟩, ⟨(some 6), none, .mv (.t 0)⟩, ⟨(some 7), none, .len 1 (.t 6)⟩, ⟨(some 8), none, .bin .lss (.t 5) (.t 7)⟩, ⟨(some 9), none, .mv (.t 8)⟩, ⟨(some 10), (some (9, true)), .mv (.t 3)⟩, ⟨(some 11), (some (9, true)), .bin .lss (.t 10) (.c (.int .i64 300))⟩, ⟨(some 12), none, .pick (.t 9) (.t 11) (.c (.bool false))⟩])
  (.cond (.t 12)
    .skip
    (.exit 0)))
  (.seq (.block 1 (.region [⟨(some 15), none, .mv (.t 3)⟩, ⟨(some 16), none, .bin .add (.t 15) (.c (.int .i64 5))⟩, ⟨(some 17), none, .mv (.t 0)⟩, ⟨(some 18), none, .mv (.t 4)⟩, ⟨(some 19), none, .ixaSl 1 (.t 17) (.t 18)⟩, ⟨(some 20), none, .load false 1 (.t 19)⟩, ⟨(some 21), none, .len 0 (.t 20)⟩, ⟨(some 22), none, .bin .add (.t 16) (.t 21)⟩, ⟨(some 3), none, .mv (.t 22)⟩]))
  (.region [⟨(some 13), none, .mv (.t 4)⟩, ⟨(some 14), none, .bin .add (.t 13) (.c (.int .i64 1))⟩, ⟨(some 4), none, .mv (.t 14)⟩])))
def b_gatepostlaw11_short_0 (L : FuncId → List V → V → Prop) (K : V → Heap → Prop) (N0 : Env → Heap → Prop) (e : Env) (h : Heap) : Prop :=
    (wi F L (.len 1 (.c (e 0))) E0 h fun v7 h =>
    (wi F L (.bin .lss (.c (e 4)) (.c v7)) E0 h fun v8 h =>
    (wg v8 true (wi F L (.mv (.c (e 3))) E0 h) h fun v10 h =>
    (wg v8 true (wi F L (.bin .lss (.c v10) (.c (.int .i64 300))) E0 h) h fun v11 h =>
    (wi F L (.pick (.c v8) (.c v11) (.c (.bool false))) E0 h fun v12 h =>
    (wb v12
    (k_gatepostlaw11_short_1 L K N0 (upd (upd (upd (upd (upd (upd (upd (upd e 5 (e 4)) 6 (e 0)) 7 v7) 8 v8) 9 v8) 10 v10) 11 v11) 12 v12) (e 0) (e 3) (e 4) h)
    (k_gatepostlaw11_short_0 L K (e 3) h)))))))
theorem l_gatepostlaw11_short_0 {L : FuncId → List V → V → Prop} {K : V → Heap → Prop} (I : Nat → Env → Heap → Prop) (hr : ∀ n e h, I n e h → b_gatepostlaw11_short_0 L K (fun e' h' => ∃ m, m < n ∧ I m e' h') e h) {n : Nat} {e : Env} {h : Heap} (hi : I n e h) : Wl F L lc_gatepostlaw11_short_0 (q_gatepostlaw11_short_0 L K) e h :=
  wloopp (b := b_gatepostlaw11_short_0 L K) I (fun _ _ _ => by kernel_rfl) hr hi
def p_gatepostlaw11_short (L : FuncId → List V → V → Prop) (K : V → Heap → Prop) (a0 : V) (h : Heap) : Prop :=
    (Wl F L lc_gatepostlaw11_short_0 (q_gatepostlaw11_short_0 L K) (upd (upd (upd (enterE [a0]) 2 (.bool false)) 3 (.int .i64 0)) 4 (.int .i64 0)) h)
theorem run_gatepostlaw11_short {L : FuncId → List V → V → Prop} {K : V → Heap → Prop} {a0 : V} {h : Heap} (hp : p_gatepostlaw11_short L K a0 h) : Cf F L i_gatepostlaw11_short [a0] h K :=
  wcallp F_gatepostlaw11_short (show 1 ≤ 25 by decide) (p := p_gatepostlaw11_short L K a0 h) (by kernel_rfl) hp
def k_gatepostref01_Is_0 (L : FuncId → List V → V → Prop) (K : V → Heap → Prop) (v0 : V) (h : Heap) : Prop :=
    (wi F L (.len 0 (.c v0)) E0 h fun v16 h =>
    (wi F L (.bin .gtr (.c v16) (.c (.int .i64 0))) E0 h fun v17 h =>
    (∃ v, some v17 = some v ∧ K v h)))
def k_gatepostref01_Is_2 (L : FuncId → List V → V → Prop) (K : V → Heap → Prop) (N0 : Env → Heap → Prop) (e : Env) (v3 : V) (h : Heap) : Prop :=
    (wi F L (.bin .add (.c v3) (.c (.int .i64 1))) E0 h fun v9 h =>
    (N0 (upd (upd (upd e 8 v3) 9 v9) 3 v9) h))
def k_gatepostref01_Is_1 (L : FuncId → List V → V → Prop) (K : V → Heap → Prop) (N0 : Env → Heap → Prop) (e : Env) (v0 v3 : V) (h : Heap) : Prop :=
    (wi F L (.ixStr (.c v0) (.c v3)) E0 h fun v12 h =>
    (wi F L (.call i_gatepostref01_tchar [(.c v12)]) E0 h fun v13 h =>
    (wi F L (.un .not (.c v13)) E0 h fun v14 h =>
    (wb v14
    (∃ v, some (.bool false) = some v ∧ K v h)
    (k_gatepostref01_Is_2 L K N0 (upd (upd (upd (upd (upd e 10 v0) 11 v3) 12 v12) 13 v13) 14 v14) v3 h)))))
def q_gatepostref01_Is_0 (L : FuncId → List V → V → Prop) (K : V → Heap → Prop) : X → Env → Heap → Prop := (fun x => (seqX (fun e h => k_gatepostref01_Is_0 L K (e 0) h) (retX c_gatepostref01_Is.results K)) (X.out 0 x))
def lc_gatepostref01_Is_0 : C :=
  (.seq (.seq (.region [⟨(some 4), none, .mv (.t 3)⟩, ⟨(some 5), none, .mv (.t 0)⟩, ⟨(some 6), none, .len 0 (.t 5)⟩, ⟨(some 7), none, .bin .lss (.t 4) (.t 6)⟩])
  (.cond (.t 7)
    .skip
    (.exit 0)))
  (.seq (.block 1 (.seq (.region [⟨(some 10), none, .mv (.t 0)⟩, ⟨(some 11), none, .mv (.t 3)⟩, ⟨(some 12), none, .ixStr (.t 10) (.t 11)⟩, ⟨(some 13), none, .call i_gatepostref01_tchar [(.t 12)]⟩, ⟨(some 14), none, .un .not (.t 13)⟩])
  (.cond (.t 14)
    (.seq (.region [⟨(some 2), none, .mv (.c (.bool false))⟩])
    .ret)
    .skip)))
  (.region [⟨(some 8), none, .mv (.t 3)⟩, ⟨(some 9), none, .bin .add (.t 8) (.c (.int .i64 1))⟩, ⟨(some 3), none, .mv (.t 9)⟩])))
def b_gatepostref01_Is_0 (L : FuncId → List V → V → Prop) (K : V → Heap → Prop) (N0 : Env → Heap → Prop) (e : Env) (h : Heap) : Prop :=
    (wi F L (.len 0 (.c (e 0))) E0 h fun v6 h =>
    (wi F L (.bin .lss (.c (e 3)) (.c v6)) E0 h fun v7 h =>
    (wb v7
    (k_gatepostref01_Is_1 L K N0 (upd (upd (upd (upd e 4 (e 3)) 5 (e 0)) 6 v6) 7 v7) (e 0) (e 3) h)
    (k_gatepostref01_Is_0 L K (e 0) h))))
theorem l_gatepostref01_Is_0 {L : FuncId → List V → V → Prop} {K : V → Heap → Prop} (I : Nat → Env → Heap → Prop) (hr : ∀ n e h, I n e h → b_gatepostref01_Is_0 L K (fun e' h' => ∃ m, m < n ∧ I m e' h') e h) {n : Nat} {e : Env} {h : Heap} (hi : I n e h) : Wl F L lc_gatepostref01_Is_0 (q_gatepostref01_Is_0 L K) e h :=
  wloopp (b := b_gatepostref01_Is_0 L K) I (fun _ _ _ => by kernel_rfl) hr hi
def p_gatepostref01_Is (L : FuncId → List V → V → Prop) (K : V → Heap → Prop) (a0 : V) (h : Heap) : Prop :=
    (Wl F L lc_gatepostref01_Is_0 (q_gatepostref01_Is_0 L K) (upd (upd (enterE [a0]) 2 (.bool false)) 3 (.int .i64 0)) h)
theorem run_gatepostref01_Is {L : FuncId → List V → V → Prop} {K : V → Heap → Prop} {a0 : V} {h : Heap} (hp : p_gatepostref01_Is L K a0 h) : Cf F L i_gatepostref01_Is [a0] h K :=
  wcallp F_gatepostref01_Is (show 1 ≤ 18 by decide) (p := p_gatepostref01_Is L K a0 h) (by kernel_rfl) hp
def k_gatepostref04_Get_0 (L : FuncId → List V → V → Prop) (K : V → Heap → Prop) (v6 v7 : V) (h : Heap) : Prop :=
    (∃ v, resultsV h (enterE [v6, v7]) [.tmp 0, .tmp 1] = some v ∧ K v h)
def k_gatepostref04_Get_2 (L : FuncId → List V → V → Prop) (K : V → Heap → Prop) (N0 : Env → Heap → Prop) (e : Env) (v8 : V) (h : Heap) : Prop :=
    (wi F L (.bin .add (.c v8) (.c (.int .i64 1))) E0 h fun v14 h =>
    (N0 (upd (upd (upd e 13 v8) 14 v14) 8 v14) h))
def k_gatepostref04_Get_3 (L : FuncId → List V → V → Prop) (K : V → Heap → Prop) (N0 : Env → Heap → Prop) (e : Env) (v0 v6 v7 v8 : V) (h : Heap) : Prop :=
    (wi F L (.ixaSl 2 (.c v0) (.c v8)) E0 h fun v29 h =>
    (wi F L (.faddr 1 (.c v29)) E0 h fun v30 h =>
    (wi F L (.load false 1 (.c v30)) E0 h fun v31 h =>
    (wi F L (.bin .add (.c v6) (.c v31)) E0 h fun v32 h =>
    (wi F L (.bin .add (.c v7) (.c (.int .i64 1))) E0 h fun v34 h =>
    (k_gatepostref04_Get_2 L K N0 (upd (upd (upd (upd (upd (upd (upd (upd (upd (upd (upd e 26 v6) 27 v0) 28 v8) 29 v29) 30 v30) 31 v31) 32 v32) 6 v32) 33 v7) 34 v34) 7 v34) v8 h))))))
def k_gatepostref04_Get_1 (L : FuncId → List V → V → Prop) (K : V → Heap → Prop) (N0 : Env → Heap → Prop) (e : Env) (v0 v1 v6 v7 v8 : V) (h : Heap) : Prop :=
    (wi F L (.ixaSl 2 (.c v0) (.c v8)) E0 h fun v17 h =>
    (wi F L (.faddr 0 (.c v17)) E0 h fun v18 h =>
    (wi F L (.load false 1 (.c v18)) E0 h fun v19 h =>
    (wi F L (.call i_gatepostref01_Same [(.c v19), (.c v1)]) E0 h fun v21 h =>
    (wb v21
    (wi F L (.bin .gtr (.c v7) (.c (.int .i64 0))) E0 h fun v23 h =>
    (wb v23
    (wi F L (.bin .add (.c v6) (.c (.str [44, 32]))) E0 h fun v25 h =>
    (k_gatepostref04_Get_3 L K N0 (upd (upd (upd (upd (upd (upd (upd (upd (upd (upd (upd (upd e 15 v0) 16 v8) 17 v17) 18 v18) 19 v19) 20 v1) 21 v21) 22 v7) 23 v23) 24 v6) 25 v25) 6 v25) v0 v25 v7 v8 h))
    (k_gatepostref04_Get_3 L K N0 (upd (upd (upd (upd (upd (upd (upd (upd (upd e 15 v0) 16 v8) 17 v17) 18 v18) 19 v19) 20 v1) 21 v21) 22 v7) 23 v23) v0 v6 v7 v8 h)))
    (k_gatepostref04_Get_2 L K N0 (upd (upd (upd (upd (upd (upd (upd e 15 v0) 16 v8) 17 v17) 18 v18) 19 v19) 20 v1) 21 v21) v8 h))))))
def q_gatepostref04_Get_0 (L : FuncId → List V → V → Prop) (K : V → Heap → Prop) : X → Env → Heap → Prop := (fun x => (seqX (fun e h => k_gatepostref04_Get_0 L K (e 6) (e 7) h) (retX c_gatepostref04_Get.results K)) (X.out 0 x))
def lc_gatepostref04_Get_0 : C :=
  (.seq (.seq (.region [⟨(some 9), none, .mv (.t 8)⟩, ⟨(some 10), none, .mv (.t 0)⟩, ⟨(some 11), none, .len 1 (.t 10)⟩, ⟨(some 12), none, .bin .lss (.t 9) (.t 11)⟩])
  (.cond (.t 12)
    .skip
    (.exit 0)))
  (.seq (.block 1 (.seq (.region [⟨(some 15), none, .mv (.t 0)⟩, ⟨(some 16), none, .mv (.t 8)⟩, ⟨(some 17), none, .ixaSl 2 (.t 15) (.t 16)⟩, ⟨(some 18), none, .faddr 0 (.t 17)⟩, ⟨(some 19), none, .load false 1 (.t 18)⟩, ⟨(some 20), none, .mv (.t 1)⟩, ⟨(some 21), none, .call i_gatepostref01_Same [(.t 19), (.t 20)]⟩])
  (.cond (.t 21)
    (.seq (.seq (.region [⟨(some 22), none, .mv (.t 7)⟩, ⟨(some 23), none, .bin .gtr (.t 22) (.c (.int .i64 0))⟩])
    (.cond (.t 23)
      (.region [⟨(some 24), none, .mv (.t 6)⟩, ⟨(some 25), none, .bin .add (.t 24) (.c (.str [44, 32]))⟩, ⟨(some 6), none, .mv (.t 25)⟩])
      .skip))
    (.seq (.region [⟨(some 26), none, .mv (.t 6)⟩, ⟨(some 27), none, .mv (.t 0)⟩, ⟨(some 28), none, .mv (.t 8)⟩, ⟨(some 29), none, .ixaSl 2 (.t 27) (.t 28)⟩, ⟨(some 30), none, .faddr 1 (.t 29)⟩, ⟨(some 31), none, .load false 1 (.t 30)⟩, ⟨(some 32), none, .bin .add (.t 26) (.t 31)⟩, ⟨(some 6), none, .mv (.t 32)⟩])
    (.region [⟨(some 33), none, .mv (.t 7)⟩, ⟨(some 34), none, .bin .add (.t 33) (.c (.int .i64 1))⟩, ⟨(some 7), none, .mv (.t 34)⟩])))
    .skip)))
  (.region [⟨(some 13), none, .mv (.t 8)⟩, ⟨(some 14), none, .bin .add (.t 13) (.c (.int .i64 1))⟩, ⟨(some 8), none, .mv (.t 14)⟩])))
def b_gatepostref04_Get_0 (L : FuncId → List V → V → Prop) (K : V → Heap → Prop) (N0 : Env → Heap → Prop) (e : Env) (h : Heap) : Prop :=
    (wi F L (.len 1 (.c (e 0))) E0 h fun v11 h =>
    (wi F L (.bin .lss (.c (e 8)) (.c v11)) E0 h fun v12 h =>
    (wb v12
    (k_gatepostref04_Get_1 L K N0 (upd (upd (upd (upd e 9 (e 8)) 10 (e 0)) 11 v11) 12 v12) (e 0) (e 1) (e 6) (e 7) (e 8) h)
    (k_gatepostref04_Get_0 L K (e 6) (e 7) h))))
theorem l_gatepostref04_Get_0 {L : FuncId → List V → V → Prop} {K : V → Heap → Prop} (I : Nat → Env → Heap → Prop) (hr : ∀ n e h, I n e h → b_gatepostref04_Get_0 L K (fun e' h' => ∃ m, m < n ∧ I m e' h') e h) {n : Nat} {e : Env} {h : Heap} (hi : I n e h) : Wl F L lc_gatepostref04_Get_0 (q_gatepostref04_Get_0 L K) e h :=
  wloopp (b := b_gatepostref04_Get_0 L K) I (fun _ _ _ => by kernel_rfl) hr hi
def p_gatepostref04_Get (L : FuncId → List V → V → Prop) (K : V → Heap → Prop) (a0 a1 : V) (h : Heap) : Prop :=
    (Wl F L lc_gatepostref04_Get_0 (q_gatepostref04_Get_0 L K) (upd (upd (upd (upd (upd (enterE [a0, a1]) 4 (.str [])) 5 (.int .i64 0)) 6 (.str [])) 7 (.int .i64 0)) 8 (.int .i64 0)) h)
theorem run_gatepostref04_Get {L : FuncId → List V → V → Prop} {K : V → Heap → Prop} {a0 a1 : V} {h : Heap} (hp : p_gatepostref04_Get L K a0 a1 h) : Cf F L i_gatepostref04_Get [a0, a1] h K :=
  wcallp F_gatepostref04_Get (show 2 ≤ 37 by decide) (p := p_gatepostref04_Get L K a0 a1 h) (by kernel_rfl) hp
def k_vary_Names_1 (L : FuncId → List V → V → Prop) (K : V → Heap → Prop) (v7 : V) (h : Heap) : Prop :=
    (wi F L (.call i_slices_Sort___string_string_ [(.c v7)]) E0 h fun v41 h =>
    (∃ v, resultsV h (enterE [v7, (.bool true)]) [.tmp 0, .tmp 1] = some v ∧ K v h))
def k_vary_Names_0 (L : FuncId → List V → V → Prop) (K : V → Heap → Prop) (v5 v6 v7 : V) (h : Heap) : Prop :=
    (wi F L (.un .not (.c v5)) E0 h fun v34 h =>
    (wg v34 false (wi F L (.mv (.c v6)) E0 h) h fun v36 h =>
    (wg v34 false (wi F L (.lookup .s (.bool false) false (.c v36) (.c (.str [42]))) E0 h) h fun v37 h =>
    (wi F L (.pick (.c v34) (.c (.bool true)) (.c v37)) E0 h fun v38 h =>
    (wb v38
    (wi F L (.clear (.c v6)) E0 h fun _ h =>
    (∃ v, resultsV h (enterE [.nsl, (.bool false)]) [.tmp 0, .tmp 1] = some v ∧ K v h))
    (k_vary_Names_1 L K v7 h))))))
def k_vary_Names_3 (L : FuncId → List V → V → Prop) (K : V → Heap → Prop) (N0 : Env → Heap → Prop) (e : Env) (v18 : V) (h : Heap) : Prop :=
    (wi F L (.bin .add (.c v18) (.c (.int .i64 1))) E0 h fun v32 h =>
    (N0 (upd (upd e 32 v32) 18 v32) h))
def k_vary_Names_4 (L : FuncId → List V → V → Prop) (K : V → Heap → Prop) (N0 : Env → Heap → Prop) (e : Env) (v6 v7 v18 v20 v21 v24 : V) (h : Heap) : Prop :=
    (wi F L (.un .not (.c v24)) E0 h fun v25 h =>
    (wb v25
    (wi F L (.mapset .s (.c v6) (.c v21) (.c (.bool true))) E0 h fun _ h =>
    (wi F L (.bsl 1 [(.c v21)]) E0 h fun v30 h =>
    (wi F L (.app 1 16 true (.c v7) (.c v30)) E0 h fun v31 h =>
    (k_vary_Names_3 L K N0 (upd (upd (upd (upd (upd (upd (upd (upd (upd (upd (upd (upd (upd (upd e 20 v20) 21 v21) 9 v21) 22 v6) 23 v21) 24 v24) 25 v25) 26 v6) 27 v21) 28 v7) 29 v21) 30 v30) 31 v31) 7 v31) v18 h))))
    (k_vary_Names_3 L K N0 (upd (upd (upd (upd (upd (upd (upd e 20 v20) 21 v21) 9 v21) 22 v6) 23 v21) 24 v24) 25 v25) v18 h)))
def k_vary_Names_2 (L : FuncId → List V → V → Prop) (K : V → Heap → Prop) (N0 : Env → Heap → Prop) (e : Env) (v6 v7 v16 v18 : V) (h : Heap) : Prop :=
    (wi F L (.ixaSl 1 (.c v16) (.c v18)) E0 h fun v20 h =>
    (wi F L (.load false 1 (.c v20)) E0 h fun v21 h =>
    (wi F L (.lookup .s (.bool false) false (.c v6) (.c v21)) E0 h fun v24 h =>
    (k_vary_Names_4 L K N0 e v6 v7 v18 v20 v21 v24 h))))
def q_vary_Names_0 (L : FuncId → List V → V → Prop) (K : V → Heap → Prop) : X → Env → Heap → Prop := (fun x => (seqX (fun e h => k_vary_Names_0 L K (e 5) (e 6) (e 7) h) (retX c_vary_Names.results K)) (X.out 0 x))
def lc_vary_Names_0 : C :=
  (.seq (.region [⟨(some 19), none, .bin .lss (.t 18) (.t 17)⟩])
  (.seq (.cond (.t 19)
    .skip
    (.exit 0))
  (.seq (.block 1 (.seq (.region [⟨(some 20), none, .ixaSl 1 (.t 16) (.t 18)⟩, ⟨(some 21), none, .load false 1 (.t 20)⟩, ⟨(some 9), none, .mv (.t 21)⟩])
  (.seq (.region [⟨(some 22), none, .mv (.t 6)⟩, ⟨(some 23), none, .mv (.t 9)⟩, ⟨(some 24), none, .lookup .s (.bool false) false (.t 22) (.t 23)⟩, ⟨(some 25), none, .un .not (.t 24)⟩])
  (.cond (.t 25)
    (.seq (.region [⟨(some 26), none, .mv (.t 6)⟩, ⟨(some 27), none, .mv (.t 9)⟩, ⟨none, none, .mapset .s (.t 26) (.t 27) (.c (.bool true))⟩])
    (.region [⟨(some 28), none, .mv (.t 7)⟩, ⟨(some 29), none, .mv (.t 9)⟩, ⟨(some 30), none, .bsl 1 [(.t 29)]⟩, ⟨(some 31), none, .app 1 16 true (.t 28) (.t 30)⟩, ⟨(some 7), none, .mv (.t 31)⟩]))
    .skip))))
  (.region [⟨(some 32), none, .bin .add (.t 18) (.c (.int .i64 1))⟩, ⟨(some 18), none, .mv (.t 32)⟩]))))
def b_vary_Names_0 (L : FuncId → List V → V → Prop) (K : V → Heap → Prop) (N0 : Env → Heap → Prop) (e : Env) (h : Heap) : Prop :=
    (wi F L (.bin .lss (.c (e 18)) (.c (e 17))) E0 h fun v19 h =>
    (wb v19
    (k_vary_Names_2 L K N0 (upd e 19 v19) (e 6) (e 7) (e 16) (e 18) h)
    (k_vary_Names_0 L K (e 5) (e 6) (e 7) h)))
theorem l_vary_Names_0 {L : FuncId → List V → V → Prop} {K : V → Heap → Prop} (I : Nat → Env → Heap → Prop) (hr : ∀ n e h, I n e h → b_vary_Names_0 L K (fun e' h' => ∃ m, m < n ∧ I m e' h') e h) {n : Nat} {e : Env} {h : Heap} (hi : I n e h) : Wl F L lc_vary_Names_0 (q_vary_Names_0 L K) e h :=
  wloopp (b := b_vary_Names_0 L K) I (fun _ _ _ => by kernel_rfl) hr hi
def k_vary_Names_5 (L : FuncId → List V → V → Prop) (K : V → Heap → Prop) (a0 v12 : V) (h : Heap) : Prop :=
    (wi F L (.ext 0 (.c v12)) E0 h fun v13 h =>
    (wi F L (.ext 1 (.c v12)) E0 h fun v14 h =>
    (wi F L (.mkmap) E0 h fun v15 h =>
    (wi F L (.len 1 (.c v13)) E0 h fun v17 h =>
    (Wl F L lc_vary_Names_0 (q_vary_Names_0 L K) (upd (upd (upd (upd (upd (upd (upd (upd (upd (upd (upd (upd (upd (upd (upd (enterE [a0]) 2 .nsl) 3 (.bool false)) 11 a0) 12 v12) 10 v12) 13 v13) 14 v14) 4 v13) 5 v14) 15 v15) 6 v15) 7 .nsl) 16 v13) 17 v17) 18 (.int .i64 0)) h)))))
def p_vary_Names (L : FuncId → List V → V → Prop) (K : V → Heap → Prop) (a0 : V) (h : Heap) : Prop :=
    (wi F L (.call i_field_Names [(.c a0), (.c (.str [86, 97, 114, 121]))]) E0 h fun v12 h =>
    (k_vary_Names_5 L K a0 v12 h))
theorem run_vary_Names {L : FuncId → List V → V → Prop} {K : V → Heap → Prop} {a0 : V} {h : Heap} (hp : p_vary_Names L K a0 h) : Cf F L i_vary_Names [a0] h K :=
  wcallp F_vary_Names (show 1 ≤ 43 by decide) (p := p_vary_Names L K a0 h) (by kernel_rfl) hp
def k_gatepostref11_Names_1 (L : FuncId → List V → V → Prop) (K : V → Heap → Prop) (v6 : V) (h : Heap) : Prop :=
    (∃ v, resultsV h (enterE [v6, (.bool true)]) [.tmp 0, .tmp 1] = some v ∧ K v h)
def k_gatepostref11_Names_5 (L : FuncId → List V → V → Prop) (K : V → Heap → Prop) (N0 : Env → Heap → Prop) (e : Env) (v4 v7 : V) (h : Heap) : Prop :=
    (wi F L (.bsl 1 []) E0 h fun v63 h' => Ext h h' ∧
    (wi F L (.slsl 1 (.c v4) none (some (.c v7)) none) E0 h' fun v66 h => Ext h' h ∧
    (wi F L (.app 1 16 false (.c v63) (.c v66)) E0 h fun v67 h' => Ext h h' ∧
    (wi F L (.bin .add (.c v7) (.c (.int .i64 1))) E0 h' fun v70 h => Ext h' h ∧
    (wi F L (.slsl 1 (.c v4) (some (.c v70)) none none) E0 h fun v71 h' => Ext h h' ∧
    (wi F L (.app 1 16 false (.c v67) (.c v71)) E0 h' fun v72 h =>
    (N0 (upd (upd (upd (upd (upd (upd (upd (upd (upd (upd (upd e 63 v63) 64 v4) 65 v7) 66 v66) 67 v67) 68 v4) 69 v7) 70 v70) 71 v71) 72 v72) 4 v72) h)))))))
def k_gatepostref11_Names_4 (L : FuncId → List V → V → Prop) (K : V → Heap → Prop) (N0 : Env → Heap → Prop) (e : Env) (v4 v6 v7 : V) (h : Heap) : Prop :=
    (wi F L (.len 1 (.c v6)) E0 h fun v41 h' => Ext h h' ∧
    (wi F L (.bin .eql (.c v41) (.c (.int .i64 0))) E0 h' fun v42 h => Ext h' h ∧
    (wgd v42 false (wi F L (.mv (.c v6)) E0 h) h fun v44 h' =>
    (wgd v42 false (wi F L (.mv (.c v6)) E0 h') h' fun v45 h =>
    (wgd v42 false (wi F L (.len 1 (.c v45)) E0 h) h fun v46 h' =>
    (wgd v42 false (wi F L (.bin .sub (.c v46) (.c (.int .i64 1))) E0 h') h' fun v47 h =>
    (wgd v42 false (wi F L (.ixaSl 1 (.c v44) (.c v47)) E0 h) h fun v48 h' =>
    (wgd v42 false (wi F L (.load false 1 (.c v48)) E0 h') h' fun v49 h =>
    (wgd v42 false (wi F L (.mv (.c v4)) E0 h) h fun v50 h' =>
    (wgd v42 false (wi F L (.mv (.c v7)) E0 h') h' fun v51 h =>
    (wgd v42 false (wi F L (.ixaSl 1 (.c v50) (.c v51)) E0 h) h fun v52 h' =>
    (wgd v42 false (wi F L (.load false 1 (.c v52)) E0 h') h' fun v53 h =>
    (wg v42 false (wi F L (.bin .neq (.c v49) (.c v53)) E0 h) h fun v54 h =>
    (wi F L (.pick (.c v42) (.c (.bool true)) (.c v54)) E0 h fun v55 h =>
    (wb v55
    (wi F L (.ixaSl 1 (.c v4) (.c v7)) E0 h fun v59 h =>
    (wi F L (.load false 1 (.c v59)) E0 h fun v60 h =>
    (wi F L (.bsl 1 [(.c v60)]) E0 h fun v61 h =>
    (wi F L (.app 1 16 false (.c v6) (.c v61)) E0 h fun v62 h =>
    (k_gatepostref11_Names_5 L K N0 (upd (upd (upd (upd (upd (upd (upd (upd (upd (upd (upd (upd (upd (upd (upd (upd (upd (upd (upd (upd (upd (upd (upd (upd e 40 v6) 41 v41) 42 v42) 43 v42) 44 v44) 45 v45) 46 v46) 47 v47) 48 v48) 49 v49) 50 v50) 51 v51) 52 v52) 53 v53) 54 v54) 55 v55) 56 v6) 57 v4) 58 v7) 59 v59) 60 v60) 61 v61) 62 v62) 6 v62) v4 v7 h)))))
    (k_gatepostref11_Names_5 L K N0 (upd (upd (upd (upd (upd (upd (upd (upd (upd (upd (upd (upd (upd (upd (upd (upd e 40 v6) 41 v41) 42 v42) 43 v42) 44 v44) 45 v45) 46 v46) 47 v47) 48 v48) 49 v49) 50 v50) 51 v51) 52 v52) 53 v53) 54 v54) 55 v55) v4 v7 h))))))))))))))))
def k_gatepostref11_Names_3 (L : FuncId → List V → V → Prop) (K : V → Heap → Prop) (N0 : Env → Heap → Prop) (e : Env) (v4 v6 v7 : V) (h : Heap) : Prop :=
    (wi F L (.ixaSl 1 (.c v4) (.c v7)) E0 h fun v37 h =>
    (wi F L (.load false 1 (.c v37)) E0 h fun v38 h =>
    (wi F L (.bin .eql (.c v38) (.c (.str [42]))) E0 h fun v39 h =>
    (wb v39
    (∃ v, resultsV h (enterE [.nsl, (.bool false)]) [.tmp 0, .tmp 1] = some v ∧ K v h)
    (k_gatepostref11_Names_4 L K N0 (upd (upd (upd (upd (upd e 35 v4) 36 v7) 37 v37) 38 v38) 39 v39) v4 v6 v7 h)))))
def k_gatepostref11_Names_7 (L : FuncId → List V → V → Prop) (K : V → Heap → Prop) (N0 N1 : Env → Heap → Prop) (e : Env) (v8 : V) (h : Heap) : Prop :=
    (wi F L (.bin .add (.c v8) (.c (.int .i64 1))) E0 h fun v24 h =>
    (N1 (upd (upd (upd e 23 v8) 24 v24) 8 v24) h))
def k_gatepostref11_Names_6 (L : FuncId → List V → V → Prop) (K : V → Heap → Prop) (N0 N1 : Env → Heap → Prop) (e : Env) (v4 v7 v8 : V) (h : Heap) : Prop :=
    (wi F L (.ixaSl 1 (.c v4) (.c v8)) E0 h fun v27 h' => Ext h h' ∧
    (wi F L (.load false 1 (.c v27)) E0 h' fun v28 h => Ext h' h ∧
    (wi F L (.ixaSl 1 (.c v4) (.c v7)) E0 h fun v31 h' => Ext h h' ∧
    (wi F L (.load false 1 (.c v31)) E0 h' fun v32 h => Ext h' h ∧
    (wi F L (.bin .lss (.c v28) (.c v32)) E0 h fun v33 h =>
    (wb v33
    (k_gatepostref11_Names_7 L K N0 N1 (upd (upd (upd (upd (upd (upd (upd (upd (upd (upd (upd e 25 v4) 26 v8) 27 v27) 28 v28) 29 v4) 30 v7) 31 v31) 32 v32) 33 v33) 34 v8) 7 v8) v8 h)
    (k_gatepostref11_Names_7 L K N0 N1 (upd (upd (upd (upd (upd (upd (upd (upd (upd e 25 v4) 26 v8) 27 v27) 28 v28) 29 v4) 30 v7) 31 v31) 32 v32) 33 v33) v8 h)))))))
def q_gatepostref11_Names_1 (L : FuncId → List V → V → Prop) (K : V → Heap → Prop) (N0 : Env → Heap → Prop) : X → Env → Heap → Prop := (fun x => (seqX (fun e h => k_gatepostref11_Names_3 L K N0 e (e 4) (e 6) (e 7) h) (fun x => (seqX N0 (fun x => (seqX (fun e h => k_gatepostref11_Names_1 L K (e 6) h) (retX c_gatepostref11_Names.results K)) (X.out 0 x))) (X.out 1 x))) (X.out 2 x))
def lc_gatepostref11_Names_1 : C :=
  (.seq (.seq (.region [⟨(some 19), none, .mv (.t 8)⟩, ⟨(some 20), none, .mv (.t 4)⟩, ⟨(some 21), none, .len 1 (.t 20)⟩, ⟨(some 22), none, .bin .lss (.t 19) (.t 21)⟩])
  (.cond (.t 22)
    .skip
    (.exit 2)))
  (.seq (.block 3 (.seq (.dregion [⟨(some 25), none, .mv (.t 4)⟩, ⟨(some 26), none, .mv (.t 8)⟩, ⟨(some 27), none, .ixaSl 1 (.t 25) (.t 26)⟩, ⟨(some 28), none, .load false 1 (.t 27)⟩, ⟨(some 29), none, .mv (.t 4)⟩, ⟨(some 30), none, .mv (.t 7)⟩, ⟨(some 31), none, .ixaSl 1 (.t 29) (.t 30)⟩, ⟨(some 32), none, .load false 1 (.t 31)⟩] [⟨(some 33), none, .bin .lss (.t 28) (.t 32)⟩])
  (.cond (.t 33)
    (.region [⟨(some 34), none, .mv (.t 8)⟩, ⟨(some 7), none, .mv (.t 34)⟩])
    .skip)))
  (.region [⟨(some 23), none, .mv (.t 8)⟩, ⟨(some 24), none, .bin .add (.t 23) (.c (.int .i64 1))⟩, ⟨(some 8), none, .mv (.t 24)⟩])))
def b_gatepostref11_Names_1 (L : FuncId → List V → V → Prop) (K : V → Heap → Prop) (N0 : Env → Heap → Prop) (N1 : Env → Heap → Prop) (e : Env) (h : Heap) : Prop :=
    (wi F L (.len 1 (.c (e 4))) E0 h fun v21 h =>
    (wi F L (.bin .lss (.c (e 8)) (.c v21)) E0 h fun v22 h =>
    (wb v22
    (k_gatepostref11_Names_6 L K N0 N1 (upd (upd (upd (upd e 19 (e 8)) 20 (e 4)) 21 v21) 22 v22) (e 4) (e 7) (e 8) h)
    (k_gatepostref11_Names_3 L K N0 (upd (upd (upd (upd e 19 (e 8)) 20 (e 4)) 21 v21) 22 v22) (e 4) (e 6) (e 7) h))))
theorem l_gatepostref11_Names_1 {L : FuncId → List V → V → Prop} {K : V → Heap → Prop} {N0 : Env → Heap → Prop} (I : Nat → Env → Heap → Prop) (hr : ∀ n e h, I n e h → b_gatepostref11_Names_1 L K N0 (fun e' h' => ∃ m, m < n ∧ I m e' h') e h) {n : Nat} {e : Env} {h : Heap} (hi : I n e h) : Wl F L lc_gatepostref11_Names_1 (q_gatepostref11_Names_1 L K N0) e h :=
  wloopp (b := b_gatepostref11_Names_1 L K N0) I (fun _ _ _ => by kernel_rfl) hr hi
def k_gatepostref11_Names_2 (L : FuncId → List V → V → Prop) (K : V → Heap → Prop) (N0 : Env → Heap → Prop) (e : Env) (h : Heap) : Prop :=
    (Wl F L lc_gatepostref11_Names_1 (q_gatepostref11_Names_1 L K N0) (upd (upd e 7 (.int .i64 0)) 8 (.int .i64 1)) h)
def q_gatepostref11_Names_0 (L : FuncId → List V → V → Prop) (K : V → Heap → Prop) : X → Env → Heap → Prop := (fun x => (seqX (fun e h => k_gatepostref11_Names_1 L K (e 6) h) (retX c_gatepostref11_Names.results K)) (X.out 0 x))
def lc_gatepostref11_Names_0 : C :=
  (.seq (.seq (.region [⟨(some 16), none, .mv (.t 4)⟩, ⟨(some 17), none, .len 1 (.t 16)⟩, ⟨(some 18), none, .bin .gtr (.t 17) (.c (.int .i64 0))⟩])
  (.cond (.t 18)
    .skip
    (.exit 0)))
  (.block 1 (.seq (.region [⟨(some 7), none, .mv (.c (.int .i64 0))⟩])
  (.seq (.seq (.region [⟨(some 8), none, .mv (.c (.int .i64 1))⟩])
  (.block 2 (.loop
    (.seq (.seq (.region [⟨(some 19), none, .mv (.t 8)⟩, ⟨(some 20), none, .mv (.t 4)⟩, ⟨(some 21), none, .len 1 (.t 20)⟩, ⟨(some 22), none, .bin .lss (.t 19) (.t 21)⟩])
    (.cond (.t 22)
      .skip
      (.exit 2)))
    (.seq (.block 3 (.seq (.dregion [⟨(some 25), none, .mv (.t 4)⟩, ⟨(some 26), none, .mv (.t 8)⟩, ⟨(some 27), none, .ixaSl 1 (.t 25) (.t 26)⟩, ⟨(some 28), none, .load false 1 (.t 27)⟩, ⟨(some 29), none, .mv (.t 4)⟩, ⟨(some 30), none, .mv (.t 7)⟩, ⟨(some 31), none, .ixaSl 1 (.t 29) (.t 30)⟩, ⟨(some 32), none, .load false 1 (.t 31)⟩] [⟨(some 33), none, .bin .lss (.t 28) (.t 32)⟩])
    (.cond (.t 33)
      (.region [⟨(some 34), none, .mv (.t 8)⟩, ⟨(some 7), none, .mv (.t 34)⟩])
      .skip)))
    (.region [⟨(some 23), none, .mv (.t 8)⟩, ⟨(some 24), none, .bin .add (.t 23) (.c (.int .i64 1))⟩, ⟨(some 8), none, .mv (.t 24)⟩]))))))
  (.seq (.seq (.region [⟨(some 35), none, .mv (.t 4)⟩, ⟨(some 36), none, .mv (.t 7)⟩, ⟨(some 37), none, .ixaSl 1 (.t 35) (.t 36)⟩, ⟨(some 38), none, .load false 1 (.t 37)⟩, ⟨(some 39), none, .bin .eql (.t 38) (.c (.str [42]))⟩])
  (.cond (.t 39)
    (.seq (.region [⟨(some 2), none, .mv (.c .nsl)⟩, ⟨(some 3), none, .mv (.c (.bool false))⟩])
    .ret)
    .skip))
  (.seq (.seq (.dregion [⟨(some 40), none, .mv (.t 6)⟩, ⟨(some 41), none, .len 1 (.t 40)⟩, ⟨(some 42), none, .bin .eql (.t 41) (.c (.int .i64 0))⟩, ⟨(some 43), none, .mv (.t 42)⟩, ⟨(some 44), (some (43, false)), .mv (.t 6)⟩, ⟨(some 45), (some (43, false)), .mv (.t 6)⟩, ⟨(some 46), (some (43, false)), .len 1 (.t 45)⟩, ⟨(some 47), (some (43, false)), .bin .sub (.t 46) (.c (.int .i64 1))⟩, ⟨(some 48), (some (43, false)), .ixaSl 1 (.t 44) (.t 47)⟩, ⟨(some 49), (some (43, false)), .load false 1 (.t 48)⟩, ⟨(some 50), (some (43, false)), .mv (.t 4)⟩, ⟨(some 51), (some (43, false)), .mv (.t 7)⟩, ⟨(some 52), (some (43, false)), .ixaSl 1 (.t 50) (.t 51)⟩, ⟨(some 53), (some (43, false)), .load false 1 (.t 52)⟩] [⟨(some 54), (some (43, false)), .bin .neq (.t 49) (.t 53)⟩, ⟨(some 55), none, .pick (.t 43) (.c (.bool true)) (.t 54)⟩])
  (.cond (.t 55)
    (.region [⟨(some 56), none, .mv (.t 6)⟩, ⟨(some 57), none, .mv (.t 4)⟩, ⟨(some 58), none, .mv (.t 7)⟩, ⟨(some 59), none, .ixaSl 1 (.t 57) (.t 58)⟩, ⟨(some 60), none, .load false 1 (.t 59)⟩, ⟨(some 61), none, .bsl 1 [(.t 60)]⟩, ⟨(some 62), none, .app 1 16 false (.t 56) (.t 61)⟩, ⟨(some 6), none, .mv (.t 62)⟩])
    .skip))
  (.dregion [⟨(some 63), none, .bsl 1 []⟩, ⟨(some 64), none, .mv (.t 4)⟩, ⟨(some 65), none, .mv (.t 7)⟩, ⟨(some 66), none, .slsl 1 (.t 64) none (some (.t 65)) none⟩, ⟨(some 67), none, .app 1 16 false (.t 63) (.t 66)⟩, ⟨(some 68), none, .mv (.t 4)⟩, ⟨(some 69), none, .mv (.t 7)⟩, ⟨(some 70), none, .bin .add (.t 69) (.c (.int .i64 1))⟩, ⟨(some 71), none, .slsl 1 (.t 68) (some (.t 70)) none none⟩] [⟨(some 72), none, .app 1 16 false (.t 67) (.t 71)⟩, ⟨(some 4), none, .mv (.t 72)⟩])))))))
def b_gatepostref11_Names_0 (L : FuncId → List V → V → Prop) (K : V → Heap → Prop) (N0 : Env → Heap → Prop) (e : Env) (h : Heap) : Prop :=
    (wi F L (.len 1 (.c (e 4))) E0 h fun v17 h =>
    (wi F L (.bin .gtr (.c v17) (.c (.int .i64 0))) E0 h fun v18 h =>
    (wb v18
    (k_gatepostref11_Names_2 L K N0 (upd (upd (upd e 16 (e 4)) 17 v17) 18 v18)  h)
    (k_gatepostref11_Names_1 L K (e 6) h))))
theorem l_gatepostref11_Names_0 {L : FuncId → List V → V → Prop} {K : V → Heap → Prop} (I : Nat → Env → Heap → Prop) (hr : ∀ n e h, I n e h → b_gatepostref11_Names_0 L K (fun e' h' => ∃ m, m < n ∧ I m e' h') e h) {n : Nat} {e : Env} {h : Heap} (hi : I n e h) : Wl F L lc_gatepostref11_Names_0 (q_gatepostref11_Names_0 L K) e h :=
  wloopp (b := b_gatepostref11_Names_0 L K) I (fun _ _ _ => by kernel_rfl) hr hi
def k_gatepostref11_Names_0 (L : FuncId → List V → V → Prop) (K : V → Heap → Prop) (e : Env) (h : Heap) : Prop :=
    (Wl F L lc_gatepostref11_Names_0 (q_gatepostref11_Names_0 L K) (upd e 6 .nsl) h)
def k_gatepostref11_Names_8 (L : FuncId → List V → V → Prop) (K : V → Heap → Prop) (a0 v11 : V) (h : Heap) : Prop :=
    (wi F L (.ext 0 (.c v11)) E0 h fun v12 h =>
    (wi F L (.ext 1 (.c v11)) E0 h fun v13 h =>
    (wi F L (.un .not (.c v13)) E0 h fun v15 h =>
    (wb v15
    (∃ v, resultsV h (enterE [.nsl, (.bool false)]) [.tmp 0, .tmp 1] = some v ∧ K v h)
    (k_gatepostref11_Names_0 L K (upd (upd (upd (upd (upd (upd (upd (upd (upd (upd (upd (enterE [a0]) 2 .nsl) 3 (.bool false)) 10 a0) 11 v11) 9 v11) 12 v12) 13 v13) 4 v12) 5 v13) 14 v13) 15 v15)  h)))))
def p_gatepostref11_Names (L : FuncId → List V → V → Prop) (K : V → Heap → Prop) (a0 : V) (h : Heap) : Prop :=
    (wi F L (.call i_gatepostref04_Names [(.c a0), (.c (.str [118, 97, 114, 121]))]) E0 h fun v11 h =>
    (k_gatepostref11_Names_8 L K a0 v11 h))
theorem run_gatepostref11_Names {L : FuncId → List V → V → Prop} {K : V → Heap → Prop} {a0 : V} {h : Heap} (hp : p_gatepostref11_Names L K a0 h) : Cf F L i_gatepostref11_Names [a0] h K :=
  wcallp F_gatepostref11_Names (show 1 ≤ 74 by decide) (p := p_gatepostref11_Names L K a0 h) (by kernel_rfl) hp
def k_gatepostref11_Key_0 (L : FuncId → List V → V → Prop) (K : V → Heap → Prop) (v5 : V) (h : Heap) : Prop :=
    (∃ v, some v5 = some v ∧ K v h)
def k_gatepostref11_Key_2 (L : FuncId → List V → V → Prop) (K : V → Heap → Prop) (N0 : Env → Heap → Prop) (e : Env) (v6 : V) (h : Heap) : Prop :=
    (wi F L (.bin .add (.c v6) (.c (.int .i64 1))) E0 h fun v14 h =>
    (N0 (upd (upd (upd e 13 v6) 14 v14) 6 v14) h))
def k_gatepostref11_Key_3 (L : FuncId → List V → V → Prop) (K : V → Heap → Prop) (N0 : Env → Heap → Prop) (e : Env) (v0 v1 v5 v6 v19 v20 v21 v22 v23 v25 v36 v37 v38 v39 v41 v42 : V) (h : Heap) : Prop :=
    (wi F L (.bin .add (.c v39) (.c v42)) E0 h fun v43 h' => Ext h h' ∧
    (wi F L (.bin .add (.c v43) (.c (.str [58]))) E0 h' fun v44 h => Ext h' h ∧
    (wi F L (.bin .add (.c v44) (.c v22)) E0 h fun v46 h =>
    (wi F L (.bin .add (.c v46) (.c (.str [44]))) E0 h fun v47 h =>
    (k_gatepostref11_Key_2 L K N0 (upd (upd (upd (upd (upd (upd (upd (upd (upd (upd (upd (upd (upd (upd (upd (upd (upd (upd (upd (upd (upd (upd (upd (upd (upd (upd (upd (upd (upd e 16 v1) 17 v0) 18 v6) 19 v19) 20 v20) 21 v21) 15 v21) 22 v22) 23 v23) 7 v22) 8 v23) 24 v23) 25 v25) 33 v5) 34 v0) 35 v6) 36 v36) 37 v37) 38 v38) 39 v39) 40 v22) 41 v41) 42 v42) 43 v43) 44 v44) 45 v22) 46 v46) 47 v47) 5 v47) v6 h)))))
def k_gatepostref11_Key_4 (L : FuncId → List V → V → Prop) (K : V → Heap → Prop) (N0 : Env → Heap → Prop) (e : Env) (v0 v1 v5 v6 v19 v20 v21 : V) (h : Heap) : Prop :=
    (wi F L (.ext 0 (.c v21)) E0 h fun v22 h =>
    (wi F L (.ext 1 (.c v21)) E0 h fun v23 h =>
    (wi F L (.bin .eql (.c v23) (.c (.int .i64 0))) E0 h fun v25 h =>
    (wb v25
    (wi F L (.ixaSl 1 (.c v0) (.c v6)) E0 h fun v29 h =>
    (wi F L (.load false 1 (.c v29)) E0 h fun v30 h =>
    (wi F L (.bin .add (.c v5) (.c v30)) E0 h fun v31 h =>
    (wi F L (.bin .add (.c v31) (.c (.str [58, 45, 44]))) E0 h fun v32 h =>
    (k_gatepostref11_Key_2 L K N0 (upd (upd (upd (upd (upd (upd (upd (upd (upd (upd (upd (upd (upd (upd (upd (upd (upd (upd (upd (upd (upd e 16 v1) 17 v0) 18 v6) 19 v19) 20 v20) 21 v21) 15 v21) 22 v22) 23 v23) 7 v22) 8 v23) 24 v23) 25 v25) 26 v5) 27 v0) 28 v6) 29 v29) 30 v30) 31 v31) 32 v32) 5 v32) v6 h)))))
    (wi F L (.ixaSl 1 (.c v0) (.c v6)) E0 h fun v36 h' => Ext h h' ∧
    (wi F L (.load false 1 (.c v36)) E0 h' fun v37 h => Ext h' h ∧
    (wi F L (.bin .add (.c v5) (.c v37)) E0 h fun v38 h' => Ext h h' ∧
    (wi F L (.bin .add (.c v38) (.c (.str [58]))) E0 h' fun v39 h => Ext h' h ∧
    (wi F L (.len 0 (.c v22)) E0 h fun v41 h' => Ext h h' ∧
    (wi F L (.call i_gatepostref11_digits [(.c v41)]) E0 h' fun v42 h => Ext h' h ∧
    (k_gatepostref11_Key_3 L K N0 e v0 v1 v5 v6 v19 v20 v21 v22 v23 v25 v36 v37 v38 v39 v41 v42 h)))))))))))
def k_gatepostref11_Key_1 (L : FuncId → List V → V → Prop) (K : V → Heap → Prop) (N0 : Env → Heap → Prop) (e : Env) (v0 v1 v5 v6 : V) (h : Heap) : Prop :=
    (wi F L (.ixaSl 1 (.c v0) (.c v6)) E0 h fun v19 h =>
    (wi F L (.load false 1 (.c v19)) E0 h fun v20 h =>
    (wi F L (.call i_gatepostref04_Get [(.c v1), (.c v20)]) E0 h fun v21 h =>
    (k_gatepostref11_Key_4 L K N0 e v0 v1 v5 v6 v19 v20 v21 h))))
def q_gatepostref11_Key_0 (L : FuncId → List V → V → Prop) (K : V → Heap → Prop) : X → Env → Heap → Prop := (fun x => (seqX (fun e h => k_gatepostref11_Key_0 L K (e 5) h) (retX c_gatepostref11_Key.results K)) (X.out 0 x))
def lc_gatepostref11_Key_0 : C :=
  (.seq (.seq (.region [⟨(some 9), none, .mv (.t 6)⟩, ⟨(some 10), none, .mv (.t 0)⟩, ⟨(some 11), none, .len 1 (.t 10)⟩, ⟨(some 12), none, .bin .lss (.t 9) (.t 11)⟩])
  (.cond (.t 12)
    .skip
    (.exit 0)))
  (.seq (.block 1 (.seq (.region [⟨(some 16), none, .mv (.t 1)⟩, ⟨(some 17), none, .mv (.t 0)⟩, ⟨(some 18), none, .mv (.t 6)⟩, ⟨(some 19), none, .ixaSl 1 (.t 17) (.t 18)⟩, ⟨(some 20), none, .load false 1 (.t 19)⟩, ⟨(some 21), none, .call i_gatepostref04_Get [(.t 16), (.t 20)]⟩, ⟨(some 15), none, .mv (.t 21)⟩, ⟨(some 22), none, .ext 0 (.t 15)⟩, ⟨(some 23), none, .ext 1 (.t 15)⟩, ⟨(some 7), none, .mv (.t 22)⟩, ⟨(some 8), none, .mv (.t 23)⟩])
  (.seq (.region [⟨(some 24), none, .mv (.t 8)⟩, ⟨(some 25), none, .bin .eql (.t 24) (.c (.int .i64 0))⟩])
  (.cond (.t 25)
    (.region [⟨(some 26), none, .mv (.t 5)⟩, ⟨(some 27), none, .mv (.t 0)⟩, ⟨(some 28), none, .mv (.t 6)⟩, ⟨(some 29), none, .ixaSl 1 (.t 27) (.t 28)⟩, ⟨(some 30), none, .load false 1 (.t 29)⟩, ⟨(some 31), none, .bin .add (.t 26) (.t 30)⟩, ⟨(some 32), none, .bin .add (.t 31) (.c (.str [58, 45, 44]))⟩, ⟨(some 5), none, .mv (.t 32)⟩])
    (.dregion [⟨(some 33), none, .mv (.t 5)⟩, ⟨(some 34), none, .mv (.t 0)⟩, ⟨(some 35), none, .mv (.t 6)⟩, ⟨(some 36), none, .ixaSl 1 (.t 34) (.t 35)⟩, ⟨(some 37), none, .load false 1 (.t 36)⟩, ⟨(some 38), none, .bin .add (.t 33) (.t 37)⟩, ⟨(some 39), none, .bin .add (.t 38) (.c (.str [58]))⟩, ⟨(some 40), none, .mv (.t 7)⟩, ⟨(some 41), none, .len 0 (.t 40)⟩, ⟨(some 42), none, .call i_gatepostref11_digits [(.t 41)]⟩, ⟨(some 43), none, .bin .add (.t 39) (.t 42)⟩, ⟨(some 44), none, .bin .add (.t 43) (.c (.str [58]))⟩, ⟨(some 45), none, .mv (.t 7)⟩] [⟨(some 46), none, .bin .add (.t 44) (.t 45)⟩, ⟨(some 47), none, .bin .add (.t 46) (.c (.str [44]))⟩, ⟨(some 5), none, .mv (.t 47)⟩])))))
  (.region [⟨(some 13), none, .mv (.t 6)⟩, ⟨(some 14), none, .bin .add (.t 13) (.c (.int .i64 1))⟩, ⟨(some 6), none, .mv (.t 14)⟩])))
def b_gatepostref11_Key_0 (L : FuncId → List V → V → Prop) (K : V → Heap → Prop) (N0 : Env → Heap → Prop) (e : Env) (h : Heap) : Prop :=
    (wi F L (.len 1 (.c (e 0))) E0 h fun v11 h =>
    (wi F L (.bin .lss (.c (e 6)) (.c v11)) E0 h fun v12 h =>
    (wb v12
    (k_gatepostref11_Key_1 L K N0 (upd (upd (upd (upd e 9 (e 6)) 10 (e 0)) 11 v11) 12 v12) (e 0) (e 1) (e 5) (e 6) h)
    (k_gatepostref11_Key_0 L K (e 5) h))))
theorem l_gatepostref11_Key_0 {L : FuncId → List V → V → Prop} {K : V → Heap → Prop} (I : Nat → Env → Heap → Prop) (hr : ∀ n e h, I n e h → b_gatepostref11_Key_0 L K (fun e' h' => ∃ m, m < n ∧ I m e' h') e h) {n : Nat} {e : Env} {h : Heap} (hi : I n e h) : Wl F L lc_gatepostref11_Key_0 (q_gatepostref11_Key_0 L K) e h :=
  wloopp (b := b_gatepostref11_Key_0 L K) I (fun _ _ _ => by kernel_rfl) hr hi
def p_gatepostref11_Key (L : FuncId → List V → V → Prop) (K : V → Heap → Prop) (a0 a1 : V) (h : Heap) : Prop :=
    (Wl F L lc_gatepostref11_Key_0 (q_gatepostref11_Key_0 L K) (upd (upd (upd (enterE [a0, a1]) 4 (.str [])) 5 (.str [])) 6 (.int .i64 0)) h)
theorem run_gatepostref11_Key {L : FuncId → List V → V → Prop} {K : V → Heap → Prop} {a0 a1 : V} {h : Heap} (hp : p_gatepostref11_Key L K a0 a1 h) : Cf F L i_gatepostref11_Key [a0, a1] h K :=
  wcallp F_gatepostref11_Key (show 2 ≤ 49 by decide) (p := p_gatepostref11_Key L K a0 a1 h) (by kernel_rfl) hp
def k_gatepostref01_tchar_1 (L : FuncId → List V → V → Prop) (K : V → Heap → Prop) (h : Heap) : Prop :=
    (∃ v, some (.bool false) = some v ∧ K v h)
def k_gatepostref01_tchar_2 (L : FuncId → List V → V → Prop) (K : V → Heap → Prop) (v26 : V) (h : Heap) : Prop :=
    (wb v26
    (∃ v, some (.bool true) = some v ∧ K v h)
    (k_gatepostref01_tchar_1 L K  h))
def k_gatepostref01_tchar_0 (L : FuncId → List V → V → Prop) (K : V → Heap → Prop) (v0 : V) (h : Heap) : Prop :=
    (wi F L (.bin .eql (.c v0) (.c (.int .u8 33))) E0 h fun v27 h =>
    (wb v27
    (k_gatepostref01_tchar_2 L K v27 h)
    (wi F L (.bin .eql (.c v0) (.c (.int .u8 35))) E0 h fun v28 h =>
    (wb v28
    (k_gatepostref01_tchar_2 L K v28 h)
    (wi F L (.bin .eql (.c v0) (.c (.int .u8 36))) E0 h fun v29 h =>
    (wb v29
    (k_gatepostref01_tchar_2 L K v29 h)
    (wi F L (.bin .eql (.c v0) (.c (.int .u8 37))) E0 h fun v30 h =>
    (wb v30
    (k_gatepostref01_tchar_2 L K v30 h)
    (wi F L (.bin .eql (.c v0) (.c (.int .u8 38))) E0 h fun v31 h =>
    (wb v31
    (k_gatepostref01_tchar_2 L K v31 h)
    (wi F L (.bin .eql (.c v0) (.c (.int .u8 39))) E0 h fun v32 h =>
    (wb v32
    (k_gatepostref01_tchar_2 L K v32 h)
    (wi F L (.bin .eql (.c v0) (.c (.int .u8 42))) E0 h fun v33 h =>
    (wb v33
    (k_gatepostref01_tchar_2 L K v33 h)
    (wi F L (.bin .eql (.c v0) (.c (.int .u8 43))) E0 h fun v34 h =>
    (wb v34
    (k_gatepostref01_tchar_2 L K v34 h)
    (wi F L (.bin .eql (.c v0) (.c (.int .u8 45))) E0 h fun v35 h =>
    (wb v35
    (k_gatepostref01_tchar_2 L K v35 h)
    (wi F L (.bin .eql (.c v0) (.c (.int .u8 46))) E0 h fun v36 h =>
    (wb v36
    (k_gatepostref01_tchar_2 L K v36 h)
    (wi F L (.bin .eql (.c v0) (.c (.int .u8 94))) E0 h fun v37 h =>
    (wb v37
    (k_gatepostref01_tchar_2 L K v37 h)
    (wi F L (.bin .eql (.c v0) (.c (.int .u8 95))) E0 h fun v38 h =>
    (wb v38
    (k_gatepostref01_tchar_2 L K v38 h)
    (wi F L (.bin .eql (.c v0) (.c (.int .u8 96))) E0 h fun v39 h =>
    (wb v39
    (k_gatepostref01_tchar_2 L K v39 h)
    (wi F L (.bin .eql (.c v0) (.c (.int .u8 124))) E0 h fun v40 h =>
    (wb v40
    (k_gatepostref01_tchar_2 L K v40 h)
    (wi F L (.bin .eql (.c v0) (.c (.int .u8 126))) E0 h fun v41 h =>
    (k_gatepostref01_tchar_2 L K v41 h))))))))))))))))))))))))))))))
def p_gatepostref01_tchar (L : FuncId → List V → V → Prop) (K : V → Heap → Prop) (a0 : V) (h : Heap) : Prop :=
    (wi F L (.bin .geq (.c a0) (.c (.int .u8 97))) E0 h fun v4 h =>
    (wg v4 true (wi F L (.mv (.c a0)) E0 h) h fun v6 h =>
    (wg v4 true (wi F L (.bin .leq (.c v6) (.c (.int .u8 122))) E0 h) h fun v7 h =>
    (wi F L (.pick (.c v4) (.c v7) (.c (.bool false))) E0 h fun v8 h =>
    (wg v8 false (wi F L (.mv (.c a0)) E0 h) h fun v10 h =>
    (wg v8 false (wi F L (.bin .geq (.c v10) (.c (.int .u8 65))) E0 h) h fun v11 h =>
    (wg v8 false (wi F L (.mv (.c v11)) E0 h) h fun v12 h =>
    (wg v12 true (wi F L (.mv (.c a0)) E0 h) h fun v13 h =>
    (wg v12 true (wi F L (.bin .leq (.c v13) (.c (.int .u8 90))) E0 h) h fun v14 h =>
    (wg v8 false (wi F L (.pick (.c v12) (.c v14) (.c (.bool false))) E0 h) h fun v15 h =>
    (wi F L (.pick (.c v8) (.c (.bool true)) (.c v15)) E0 h fun v16 h =>
    (wg v16 false (wi F L (.mv (.c a0)) E0 h) h fun v18 h =>
    (wg v16 false (wi F L (.bin .geq (.c v18) (.c (.int .u8 48))) E0 h) h fun v19 h =>
    (wg v16 false (wi F L (.mv (.c v19)) E0 h) h fun v20 h =>
    (wg v20 true (wi F L (.mv (.c a0)) E0 h) h fun v21 h =>
    (wg v20 true (wi F L (.bin .leq (.c v21) (.c (.int .u8 57))) E0 h) h fun v22 h =>
    (wg v16 false (wi F L (.pick (.c v20) (.c v22) (.c (.bool false))) E0 h) h fun v23 h =>
    (wi F L (.pick (.c v16) (.c (.bool true)) (.c v23)) E0 h fun v24 h =>
    (wb v24
    (∃ v, some (.bool true) = some v ∧ K v h)
    (k_gatepostref01_tchar_0 L K a0 h))))))))))))))))))))
theorem run_gatepostref01_tchar {L : FuncId → List V → V → Prop} {K : V → Heap → Prop} {a0 : V} {h : Heap} (hp : p_gatepostref01_tchar L K a0 h) : Cf F L i_gatepostref01_tchar [a0] h K :=
  wcallp F_gatepostref01_tchar (show 1 ≤ 42 by decide) (p := p_gatepostref01_tchar L K a0 h) (by kernel_rfl) hp
def p_gatepostref01_Same (L : FuncId → List V → V → Prop) (K : V → Heap → Prop) (a0 a1 : V) (h : Heap) : Prop :=
    (wi F L (.call i_gatepostref01_Lower [(.c a0)]) E0 h fun v6 h =>
    (wi F L (.call i_gatepostref01_Lower [(.c a1)]) E0 h fun v8 h =>
    (wi F L (.bin .eql (.c v6) (.c v8)) E0 h fun v9 h =>
    (∃ v, some v9 = some v ∧ K v h))))
theorem run_gatepostref01_Same {L : FuncId → List V → V → Prop} {K : V → Heap → Prop} {a0 a1 : V} {h : Heap} (hp : p_gatepostref01_Same L K a0 a1 h) : Cf F L i_gatepostref01_Same [a0, a1] h K :=
  wcallp F_gatepostref01_Same (show 2 ≤ 10 by decide) (p := p_gatepostref01_Same L K a0 a1 h) (by kernel_rfl) hp
def k_field_Get_0 (L : FuncId → List V → V → Prop) (K : V → Heap → Prop) (v6 : V) (h : Heap) : Prop :=
    (wi F L (.call i_strings_Join [(.c v6), (.c (.str [44, 32]))]) E0 h fun v26 h =>
    (wi F L (.len 1 (.c v6)) E0 h fun v28 h =>
    (∃ v, resultsV h (enterE [v26, v28]) [.tmp 0, .tmp 1] = some v ∧ K v h)))
def k_field_Get_2 (L : FuncId → List V → V → Prop) (K : V → Heap → Prop) (N0 : Env → Heap → Prop) (e : Env) (v11 : V) (h : Heap) : Prop :=
    (wi F L (.bin .add (.c v11) (.c (.int .i64 1))) E0 h fun v24 h =>
    (N0 (upd (upd e 24 v24) 11 v24) h))
def k_field_Get_1 (L : FuncId → List V → V → Prop) (K : V → Heap → Prop) (N0 : Env → Heap → Prop) (e : Env) (v1 v6 v9 v11 : V) (h : Heap) : Prop :=
    (wi F L (.ixaSl 2 (.c v9) (.c v11)) E0 h fun v13 h =>
    (wi F L (.load true 2 (.c v13)) E0 h fun v14 h =>
    (wi F L (.boxz [(.str []), (.str [])]) E0 h fun v8 h =>
    (wi F L (.store 2 (.c v8) (.c v14)) E0 h fun _ h =>
    (wi F L (.faddr 0 (.c v8)) E0 h fun v15 h =>
    (wi F L (.load false 1 (.c v15)) E0 h fun v16 h =>
    (wi F L (.call i_token_Same [(.c v16), (.c v1)]) E0 h fun v18 h =>
    (wb v18
    (wi F L (.faddr 1 (.c v8)) E0 h fun v20 h =>
    (wi F L (.load false 1 (.c v20)) E0 h fun v21 h =>
    (wi F L (.bsl 1 [(.c v21)]) E0 h fun v22 h =>
    (wi F L (.app 1 16 false (.c v6) (.c v22)) E0 h fun v23 h =>
    (k_field_Get_2 L K N0 (upd (upd (upd (upd (upd (upd (upd (upd (upd (upd (upd (upd (upd e 13 v13) 14 v14) 8 v8) 15 v15) 16 v16) 17 v1) 18 v18) 19 v6) 20 v20) 21 v21) 22 v22) 23 v23) 6 v23) v11 h)))))
    (k_field_Get_2 L K N0 (upd (upd (upd (upd (upd (upd (upd e 13 v13) 14 v14) 8 v8) 15 v15) 16 v16) 17 v1) 18 v18) v11 h)))))))))
def q_field_Get_0 (L : FuncId → List V → V → Prop) (K : V → Heap → Prop) : X → Env → Heap → Prop := (fun x => (seqX (fun e h => k_field_Get_0 L K (e 6) h) (retX c_field_Get.results K)) (X.out 0 x))
def lc_field_Get_0 : C :=
  (.seq (.region [⟨(some 12), none, .bin .lss (.t 11) (.t 10)⟩])
  (.seq (.cond (.t 12)
    .skip
    (.exit 0))
  (.seq (.block 1 (.seq (.region [⟨(some 13), none, .ixaSl 2 (.t 9) (.t 11)⟩, ⟨(some 14), none, .load true 2 (.t 13)⟩, ⟨(some 8), none, .boxz [(.str []), (.str [])]⟩, ⟨none, none, .store 2 (.t 8) (.t 14)⟩])
  (.seq (.region [⟨(some 15), none, .faddr 0 (.t 8)⟩, ⟨(some 16), none, .load false 1 (.t 15)⟩, ⟨(some 17), none, .mv (.t 1)⟩, ⟨(some 18), none, .call i_token_Same [(.t 16), (.t 17)]⟩])
  (.cond (.t 18)
    (.region [⟨(some 19), none, .mv (.t 6)⟩, ⟨(some 20), none, .faddr 1 (.t 8)⟩, ⟨(some 21), none, .load false 1 (.t 20)⟩, ⟨(some 22), none, .bsl 1 [(.t 21)]⟩, ⟨(some 23), none, .app 1 16 false (.t 19) (.t 22)⟩, ⟨(some 6), none, .mv (.t 23)⟩])
    .skip))))
  (.region [⟨(some 24), none, .bin .add (.t 11) (.c (.int .i64 1))⟩, ⟨(some 11), none, .mv (.t 24)⟩]))))
def b_field_Get_0 (L : FuncId → List V → V → Prop) (K : V → Heap → Prop) (N0 : Env → Heap → Prop) (e : Env) (h : Heap) : Prop :=
    (wi F L (.bin .lss (.c (e 11)) (.c (e 10))) E0 h fun v12 h =>
    (wb v12
    (k_field_Get_1 L K N0 (upd e 12 v12) (e 1) (e 6) (e 9) (e 11) h)
    (k_field_Get_0 L K (e 6) h)))
theorem l_field_Get_0 {L : FuncId → List V → V → Prop} {K : V → Heap → Prop} (I : Nat → Env → Heap → Prop) (hr : ∀ n e h, I n e h → b_field_Get_0 L K (fun e' h' => ∃ m, m < n ∧ I m e' h') e h) {n : Nat} {e : Env} {h : Heap} (hi : I n e h) : Wl F L lc_field_Get_0 (q_field_Get_0 L K) e h :=
  wloopp (b := b_field_Get_0 L K) I (fun _ _ _ => by kernel_rfl) hr hi
def p_field_Get (L : FuncId → List V → V → Prop) (K : V → Heap → Prop) (a0 a1 : V) (h : Heap) : Prop :=
    (wi F L (.len 1 (.c a0)) E0 h fun v10 h =>
    (Wl F L lc_field_Get_0 (q_field_Get_0 L K) (upd (upd (upd (upd (upd (upd (enterE [a0, a1]) 4 (.str [])) 5 (.int .i64 0)) 6 .nsl) 9 a0) 10 v10) 11 (.int .i64 0)) h))
theorem run_field_Get {L : FuncId → List V → V → Prop} {K : V → Heap → Prop} {a0 a1 : V} {h : Heap} (hp : p_field_Get L K a0 a1 h) : Cf F L i_field_Get [a0, a1] h K :=
  wcallp F_field_Get (show 2 ≤ 29 by decide) (p := p_field_Get L K a0 a1 h) (by kernel_rfl) hp
def k_field_Names_1 (L : FuncId → List V → V → Prop) (K : V → Heap → Prop) (v10 : V) (h : Heap) : Prop :=
    (∃ v, resultsV h (enterE [v10, (.bool true)]) [.tmp 0, .tmp 1] = some v ∧ K v h)
def k_field_Names_0 (L : FuncId → List V → V → Prop) (K : V → Heap → Prop) (v9 v10 : V) (h : Heap) : Prop :=
    (wi F L (.un .not (.c v9)) E0 h fun v42 h =>
    (wb v42
    (∃ v, resultsV h (enterE [.nsl, (.bool false)]) [.tmp 0, .tmp 1] = some v ∧ K v h)
    (k_field_Names_1 L K v10 h)))
def k_field_Names_3 (L : FuncId → List V → V → Prop) (K : V → Heap → Prop) (N0 : Env → Heap → Prop) (e : Env) (v26 : V) (h : Heap) : Prop :=
    (wi F L (.bin .add (.c v26) (.c (.int .i64 1))) E0 h fun v40 h =>
    (N0 (upd (upd e 40 v40) 26 v40) h))
def k_field_Names_2 (L : FuncId → List V → V → Prop) (K : V → Heap → Prop) (N0 : Env → Heap → Prop) (e : Env) (v9 v10 v24 v26 : V) (h : Heap) : Prop :=
    (wi F L (.ixaSl 1 (.c v24) (.c v26)) E0 h fun v28 h =>
    (wi F L (.load false 1 (.c v28)) E0 h fun v29 h =>
    (wg v9 true (wi F L (.mv (.c v29)) E0 h) h fun v32 h =>
    (wg v9 true (wi F L (.call i_token_Is [(.c v32)]) E0 h) h fun v33 h =>
    (wi F L (.pick (.c v9) (.c v33) (.c (.bool false))) E0 h fun v34 h =>
    (wi F L (.call i_token_Lower [(.c v29)]) E0 h fun v37 h =>
    (wi F L (.bsl 1 [(.c v37)]) E0 h fun v38 h =>
    (wi F L (.app 1 16 false (.c v10) (.c v38)) E0 h fun v39 h =>
    (k_field_Names_3 L K N0 (upd (upd (upd (upd (upd (upd (upd (upd (upd (upd (upd (upd (upd (upd (upd e 28 v28) 29 v29) 12 v29) 30 v9) 31 v9) 32 v32) 33 v33) 34 v34) 9 v34) 35 v10) 36 v29) 37 v37) 38 v38) 39 v39) 10 v39) v26 h)))))))))
def q_field_Names_0 (L : FuncId → List V → V → Prop) (K : V → Heap → Prop) : X → Env → Heap → Prop := (fun x => (seqX (fun e h => k_field_Names_0 L K (e 9) (e 10) h) (retX c_field_Names.results K)) (X.out 0 x))
def lc_field_Names_0 : C :=
  (.seq (.region [⟨(some 27), none, .bin .lss (.t 26) (.t 25)⟩])
  (.seq (.cond (.t 27)
    .skip
    (.exit 0))
  (.seq (.block 1 (.seq (.region [⟨(some 28), none, .ixaSl 1 (.t 24) (.t 26)⟩, ⟨(some 29), none, .load false 1 (.t 28)⟩, ⟨(some 12), none, .mv (.t 29)⟩])
  (.seq (.region [⟨(some 30), none, .mv (.t 9)⟩, ⟨(some 31), none, .mv (.t 30)⟩, ⟨(some 32), (some (31, true)), .mv (.t 12)⟩, ⟨(some 33), (some (31, true)), .call i_token_Is [(.t 32)]⟩, ⟨(some 34), none, .pick (.t 31) (.t 33) (.c (.bool false))⟩, ⟨(some 9), none, .mv (.t 34)⟩])
  (.region [⟨(some 35), none, .mv (.t 10)⟩, ⟨(some 36), none, .mv (.t 12)⟩, ⟨(some 37), none, .call i_token_Lower [(.t 36)]⟩, ⟨(some 38), none, .bsl 1 [(.t 37)]⟩, ⟨(some 39), none, .app 1 16 false (.t 35) (.t 38)⟩, ⟨(some 10), none, .mv (.t 39)⟩]))))
  (.region [⟨(some 40), none, .bin .add (.t 26) (.c (.int .i64 1))⟩, ⟨(some 26), none, .mv (.t 40)⟩]))))
def b_field_Names_0 (L : FuncId → List V → V → Prop) (K : V → Heap → Prop) (N0 : Env → Heap → Prop) (e : Env) (h : Heap) : Prop :=
    (wi F L (.bin .lss (.c (e 26)) (.c (e 25))) E0 h fun v27 h =>
    (wb v27
    (k_field_Names_2 L K N0 (upd e 27 v27) (e 9) (e 10) (e 24) (e 26) h)
    (k_field_Names_0 L K (e 9) (e 10) h)))
theorem l_field_Names_0 {L : FuncId → List V → V → Prop} {K : V → Heap → Prop} (I : Nat → Env → Heap → Prop) (hr : ∀ n e h, I n e h → b_field_Names_0 L K (fun e' h' => ∃ m, m < n ∧ I m e' h') e h) {n : Nat} {e : Env} {h : Heap} (hi : I n e h) : Wl F L lc_field_Names_0 (q_field_Names_0 L K) e h :=
  wloopp (b := b_field_Names_0 L K) I (fun _ _ _ => by kernel_rfl) hr hi
def p_field_Names (L : FuncId → List V → V → Prop) (K : V → Heap → Prop) (a0 a1 : V) (h : Heap) : Prop :=
    (wi F L (.call i_field_Get [(.c a0), (.c a1)]) E0 h fun v16 h =>
    (wi F L (.ext 0 (.c v16)) E0 h fun v17 h =>
    (wi F L (.ext 1 (.c v16)) E0 h fun v18 h =>
    (wi F L (.call i_token_Split [(.c v17)]) E0 h fun v21 h =>
    (wi F L (.ext 0 (.c v21)) E0 h fun v22 h =>
    (wi F L (.ext 1 (.c v21)) E0 h fun v23 h =>
    (wi F L (.len 1 (.c v22)) E0 h fun v25 h =>
    (Wl F L lc_field_Names_0 (q_field_Names_0 L K) (upd (upd (upd (upd (upd (upd (upd (upd (upd (upd (upd (upd (upd (upd (upd (upd (upd (upd (upd (upd (upd (enterE [a0, a1]) 4 .nsl) 5 (.bool false)) 14 a0) 15 a1) 16 v16) 13 v16) 17 v17) 18 v18) 6 v17) 7 v18) 20 v17) 21 v21) 19 v21) 22 v22) 23 v23) 8 v22) 9 v23) 10 .nsl) 24 v22) 25 v25) 26 (.int .i64 0)) h))))))))
theorem run_field_Names {L : FuncId → List V → V → Prop} {K : V → Heap → Prop} {a0 a1 : V} {h : Heap} (hp : p_field_Names L K a0 a1 h) : Cf F L i_field_Names [a0, a1] h K :=
  wcallp F_field_Names (show 2 ≤ 44 by decide) (p := p_field_Names L K a0 a1 h) (by kernel_rfl) hp
def k_gatepostref04_Names_1 (L : FuncId → List V → V → Prop) (K : V → Heap → Prop) (v10 : V) (h : Heap) : Prop :=
    (∃ v, resultsV h (enterE [v10, (.bool true)]) [.tmp 0, .tmp 1] = some v ∧ K v h)
def k_gatepostref04_Names_3 (L : FuncId → List V → V → Prop) (K : V → Heap → Prop) (N0 : Env → Heap → Prop) (e : Env) (v11 : V) (h : Heap) : Prop :=
    (wi F L (.bin .add (.c v11) (.c (.int .i64 1))) E0 h fun v30 h =>
    (N0 (upd (upd (upd e 29 v11) 30 v30) 11 v30) h))
def k_gatepostref04_Names_4 (L : FuncId → List V → V → Prop) (K : V → Heap → Prop) (N0 : Env → Heap → Prop) (e : Env) (v8 v10 v11 : V) (h : Heap) : Prop :=
    (wi F L (.ixaSl 1 (.c v8) (.c v11)) E0 h fun v40 h =>
    (wi F L (.load false 1 (.c v40)) E0 h fun v41 h =>
    (wi F L (.call i_gatepostref01_Lower [(.c v41)]) E0 h fun v42 h =>
    (wi F L (.bsl 1 [(.c v42)]) E0 h fun v43 h =>
    (wi F L (.app 1 16 false (.c v10) (.c v43)) E0 h fun v44 h =>
    (k_gatepostref04_Names_3 L K N0 (upd (upd (upd (upd (upd (upd (upd (upd (upd e 37 v10) 38 v8) 39 v11) 40 v40) 41 v41) 42 v42) 43 v43) 44 v44) 10 v44) v11 h))))))
def k_gatepostref04_Names_2 (L : FuncId → List V → V → Prop) (K : V → Heap → Prop) (N0 : Env → Heap → Prop) (e : Env) (v8 v10 v11 : V) (h : Heap) : Prop :=
    (wi F L (.ixaSl 1 (.c v8) (.c v11)) E0 h fun v33 h =>
    (wi F L (.load false 1 (.c v33)) E0 h fun v34 h =>
    (wi F L (.call i_gatepostref01_Is [(.c v34)]) E0 h fun v35 h =>
    (wi F L (.un .not (.c v35)) E0 h fun v36 h =>
    (wb v36
    (∃ v, resultsV h (enterE [.nsl, (.bool false)]) [.tmp 0, .tmp 1] = some v ∧ K v h)
    (k_gatepostref04_Names_4 L K N0 (upd (upd (upd (upd (upd (upd e 31 v8) 32 v11) 33 v33) 34 v34) 35 v35) 36 v36) v8 v10 v11 h))))))
def q_gatepostref04_Names_0 (L : FuncId → List V → V → Prop) (K : V → Heap → Prop) : X → Env → Heap → Prop := (fun x => (seqX (fun e h => k_gatepostref04_Names_1 L K (e 10) h) (retX c_gatepostref04_Names.results K)) (X.out 0 x))
def lc_gatepostref04_Names_0 : C :=
  (.seq (.seq (.region [⟨(some 25), none, .mv (.t 11)⟩, ⟨(some 26), none, .mv (.t 8)⟩, ⟨(some 27), none, .len 1 (.t 26)⟩, ⟨(some 28), none, .bin .lss (.t 25) (.t 27)⟩])
  (.cond (.t 28)
    .skip
    (.exit 0)))
  (.seq (.block 1 (.seq (.seq (.region [⟨(some 31), none, .mv (.t 8)⟩, ⟨(some 32), none, .mv (.t 11)⟩, ⟨(some 33), none, .ixaSl 1 (.t 31) (.t 32)⟩, ⟨(some 34), none, .load false 1 (.t 33)⟩, ⟨(some 35), none, .call i_gatepostref01_Is [(.t 34)]⟩, ⟨(some 36), none, .un .not (.t 35)⟩])
  (.cond (.t 36)
    (.seq (.region [⟨(some 4), none, .mv (.c .nsl)⟩, ⟨(some 5), none, .mv (.c (.bool false))⟩])
    .ret)
    .skip))
  (.region [⟨(some 37), none, .mv (.t 10)⟩, ⟨(some 38), none, .mv (.t 8)⟩, ⟨(some 39), none, .mv (.t 11)⟩, ⟨(some 40), none, .ixaSl 1 (.t 38) (.t 39)⟩, ⟨(some 41), none, .load false 1 (.t 40)⟩, ⟨(some 42), none, .call i_gatepostref01_Lower [(.t 41)]⟩, ⟨(some 43), none, .bsl 1 [(.t 42)]⟩, ⟨(some 44), none, .app 1 16 false (.t 37) (.t 43)⟩, ⟨(some 10), none, .mv (.t 44)⟩])))
  (.region [⟨(some 29), none, .mv (.t 11)⟩, ⟨(some 30), none, .bin .add (.t 29) (.c (.int .i64 1))⟩, ⟨(some 11), none, .mv (.t 30)⟩])))
def b_gatepostref04_Names_0 (L : FuncId → List V → V → Prop) (K : V → Heap → Prop) (N0 : Env → Heap → Prop) (e : Env) (h : Heap) : Prop :=
    (wi F L (.len 1 (.c (e 8))) E0 h fun v27 h =>
    (wi F L (.bin .lss (.c (e 11)) (.c v27)) E0 h fun v28 h =>
    (wb v28
    (k_gatepostref04_Names_2 L K N0 (upd (upd (upd (upd e 25 (e 11)) 26 (e 8)) 27 v27) 28 v28) (e 8) (e 10) (e 11) h)
    (k_gatepostref04_Names_1 L K (e 10) h))))
theorem l_gatepostref04_Names_0 {L : FuncId → List V → V → Prop} {K : V → Heap → Prop} (I : Nat → Env → Heap → Prop) (hr : ∀ n e h, I n e h → b_gatepostref04_Names_0 L K (fun e' h' => ∃ m, m < n ∧ I m e' h') e h) {n : Nat} {e : Env} {h : Heap} (hi : I n e h) : Wl F L lc_gatepostref04_Names_0 (q_gatepostref04_Names_0 L K) e h :=
  wloopp (b := b_gatepostref04_Names_0 L K) I (fun _ _ _ => by kernel_rfl) hr hi
def k_gatepostref04_Names_0 (L : FuncId → List V → V → Prop) (K : V → Heap → Prop) (e : Env) (h : Heap) : Prop :=
    (Wl F L lc_gatepostref04_Names_0 (q_gatepostref04_Names_0 L K) (upd (upd e 10 .nsl) 11 (.int .i64 0)) h)
def p_gatepostref04_Names (L : FuncId → List V → V → Prop) (K : V → Heap → Prop) (a0 a1 : V) (h : Heap) : Prop :=
    (wi F L (.call i_gatepostref04_Get [(.c a0), (.c a1)]) E0 h fun v15 h =>
    (wi F L (.ext 0 (.c v15)) E0 h fun v16 h =>
    (wi F L (.ext 1 (.c v15)) E0 h fun v17 h =>
    (wi F L (.call i_gatepostref01_Split [(.c v16)]) E0 h fun v20 h =>
    (wi F L (.ext 0 (.c v20)) E0 h fun v21 h =>
    (wi F L (.ext 1 (.c v20)) E0 h fun v22 h =>
    (wi F L (.un .not (.c v22)) E0 h fun v24 h =>
    (wb v24
    (∃ v, resultsV h (enterE [.nsl, (.bool false)]) [.tmp 0, .tmp 1] = some v ∧ K v h)
    (k_gatepostref04_Names_0 L K (upd (upd (upd (upd (upd (upd (upd (upd (upd (upd (upd (upd (upd (upd (upd (upd (upd (upd (upd (enterE [a0, a1]) 4 .nsl) 5 (.bool false)) 13 a0) 14 a1) 15 v15) 12 v15) 16 v16) 17 v17) 6 v16) 7 v17) 19 v16) 20 v20) 18 v20) 21 v21) 22 v22) 8 v21) 9 v22) 23 v22) 24 v24)  h)))))))))
theorem run_gatepostref04_Names {L : FuncId → List V → V → Prop} {K : V → Heap → Prop} {a0 a1 : V} {h : Heap} (hp : p_gatepostref04_Names L K a0 a1 h) : Cf F L i_gatepostref04_Names [a0, a1] h K :=
  wcallp F_gatepostref04_Names (show 2 ≤ 46 by decide) (p := p_gatepostref04_Names L K a0 a1 h) (by kernel_rfl) hp
def k_gatepostref11_digits_0 (L : FuncId → List V → V → Prop) (K : V → Heap → Prop) (v0 : V) (h : Heap) : Prop :=
    (wi F L (.bin .quo (.c v0) (.c (.int .i64 10))) E0 h fun v10 h =>
    (wi F L (.call i_gatepostref11_digits [(.c v10)]) E0 h fun v11 h =>
    (wi F L (.bin .rem (.c v0) (.c (.int .i64 10))) E0 h fun v13 h =>
    (wi F L (.call i_gatepostref11_digits [(.c v13)]) E0 h fun v14 h =>
    (wi F L (.bin .add (.c v11) (.c v14)) E0 h fun v15 h =>
    (∃ v, some v15 = some v ∧ K v h))))))
def p_gatepostref11_digits (L : FuncId → List V → V → Prop) (K : V → Heap → Prop) (a0 : V) (h : Heap) : Prop :=
    (wi F L (.bin .lss (.c a0) (.c (.int .i64 10))) E0 h fun v4 h =>
    (wb v4
    (wi F L (.bin .add (.c a0) (.c (.int .i64 1))) E0 h fun v7 h =>
    (wi F L (.slstr (.c (.str [48, 49, 50, 51, 52, 53, 54, 55, 56, 57])) (some (.c a0)) (some (.c v7))) E0 h fun v8 h =>
    (∃ v, some v8 = some v ∧ K v h)))
    (k_gatepostref11_digits_0 L K a0 h)))
theorem run_gatepostref11_digits {L : FuncId → List V → V → Prop} {K : V → Heap → Prop} {a0 : V} {h : Heap} (hp : p_gatepostref11_digits L K a0 h) : Cf F L i_gatepostref11_digits [a0] h K :=
  wcallp F_gatepostref11_digits (show 1 ≤ 16 by decide) (p := p_gatepostref11_digits L K a0 h) (by kernel_rfl) hp
def k_gatepostref01_Lower_0 (L : FuncId → List V → V → Prop) (K : V → Heap → Prop) (v3 : V) (h : Heap) : Prop :=
    (∃ v, some v3 = some v ∧ K v h)
def k_gatepostref01_Lower_2 (L : FuncId → List V → V → Prop) (K : V → Heap → Prop) (N0 : Env → Heap → Prop) (e : Env) (v4 : V) (h : Heap) : Prop :=
    (wi F L (.bin .add (.c v4) (.c (.int .i64 1))) E0 h fun v11 h =>
    (N0 (upd (upd (upd e 10 v4) 11 v11) 4 v11) h))
def k_gatepostref01_Lower_3 (L : FuncId → List V → V → Prop) (K : V → Heap → Prop) (N0 : Env → Heap → Prop) (e : Env) (v3 v4 v5 : V) (h : Heap) : Prop :=
    (wi F L (.bsl 1 [(.c v5)]) E0 h fun v25 h =>
    (wi F L (.toStr (.c v25)) E0 h fun v26 h =>
    (wi F L (.bin .add (.c v3) (.c v26)) E0 h fun v27 h =>
    (k_gatepostref01_Lower_2 L K N0 (upd (upd (upd (upd (upd (upd e 23 v3) 24 v5) 25 v25) 26 v26) 27 v27) 3 v27) v4 h))))
def k_gatepostref01_Lower_1 (L : FuncId → List V → V → Prop) (K : V → Heap → Prop) (N0 : Env → Heap → Prop) (e : Env) (v0 v3 v4 : V) (h : Heap) : Prop :=
    (wi F L (.ixStr (.c v0) (.c v4)) E0 h fun v14 h =>
    (wi F L (.bin .geq (.c v14) (.c (.int .u8 65))) E0 h fun v16 h =>
    (wg v16 true (wi F L (.mv (.c v14)) E0 h) h fun v18 h =>
    (wg v16 true (wi F L (.bin .leq (.c v18) (.c (.int .u8 90))) E0 h) h fun v19 h =>
    (wi F L (.pick (.c v16) (.c v19) (.c (.bool false))) E0 h fun v20 h =>
    (wb v20
    (wi F L (.bin .add (.c v14) (.c (.int .u8 32))) E0 h fun v22 h =>
    (k_gatepostref01_Lower_3 L K N0 (upd (upd (upd (upd (upd (upd (upd (upd (upd (upd (upd (upd (upd e 12 v0) 13 v4) 14 v14) 5 v14) 15 v14) 16 v16) 17 v16) 18 v18) 19 v19) 20 v20) 21 v14) 22 v22) 5 v22) v3 v4 v22 h))
    (k_gatepostref01_Lower_3 L K N0 (upd (upd (upd (upd (upd (upd (upd (upd (upd (upd e 12 v0) 13 v4) 14 v14) 5 v14) 15 v14) 16 v16) 17 v16) 18 v18) 19 v19) 20 v20) v3 v4 v14 h)))))))
def q_gatepostref01_Lower_0 (L : FuncId → List V → V → Prop) (K : V → Heap → Prop) : X → Env → Heap → Prop := (fun x => (seqX (fun e h => k_gatepostref01_Lower_0 L K (e 3) h) (retX c_gatepostref01_Lower.results K)) (X.out 0 x))
def lc_gatepostref01_Lower_0 : C :=
  (.seq (.seq (.region [⟨(some 6), none, .mv (.t 4)⟩, ⟨(some 7), none, .mv (.t 0)⟩, ⟨(some 8), none, .len 0 (.t 7)⟩, ⟨(some 9), none, .bin .lss (.t 6) (.t 8)⟩])
  (.cond (.t 9)
    .skip
    (.exit 0)))
  (.seq (.block 1 (.seq (.region [⟨(some 12), none, .mv (.t 0)⟩, ⟨(some 13), none, .mv (.t 4)⟩, ⟨(some 14), none, .ixStr (.t 12) (.t 13)⟩, ⟨(some 5), none, .mv (.t 14)⟩])
  (.seq (.seq (.region [⟨(some 15), none, .mv (.t 5)⟩, ⟨(some 16), none, .bin .geq (.t 15) (.c (.int .u8 65))⟩, ⟨(some 17), none, .mv (.t 16)⟩, ⟨(some 18), (some (17, true)), .mv (.t 5)⟩, ⟨(some 19), (some (17, true)), .bin .leq (.t 18) (.c (.int .u8 90))⟩, ⟨(some 20), none, .pick (.t 17) (.t 19) (.c (.bool false))⟩])
  (.cond (.t 20)
    (.region [⟨(some 21), none, .mv (.t 5)⟩, ⟨(some 22), none, .bin .add (.t 21) (.c (.int .u8 32))⟩, ⟨(some 5), none, .mv (.t 22)⟩])
    .skip))
  (.region [⟨(some 23), none, .mv (.t 3)⟩, ⟨(some 24), none, .mv (.t 5)⟩, ⟨(some 25), none, .bsl 1 [(.t 24)]⟩, ⟨(some 26), none, .toStr (.t 25)⟩, ⟨(some 27), none, .bin .add (.t 23) (.t 26)⟩, ⟨(some 3), none, .mv (.t 27)⟩]))))
  (.region [⟨(some 10), none, .mv (.t 4)⟩, ⟨(some 11), none, .bin .add (.t 10) (.c (.int .i64 1))⟩, ⟨(some 4), none, .mv (.t 11)⟩])))
def b_gatepostref01_Lower_0 (L : FuncId → List V → V → Prop) (K : V → Heap → Prop) (N0 : Env → Heap → Prop) (e : Env) (h : Heap) : Prop :=
    (wi F L (.len 0 (.c (e 0))) E0 h fun v8 h =>
    (wi F L (.bin .lss (.c (e 4)) (.c v8)) E0 h fun v9 h =>
    (wb v9
    (k_gatepostref01_Lower_1 L K N0 (upd (upd (upd (upd e 6 (e 4)) 7 (e 0)) 8 v8) 9 v9) (e 0) (e 3) (e 4) h)
    (k_gatepostref01_Lower_0 L K (e 3) h))))
theorem l_gatepostref01_Lower_0 {L : FuncId → List V → V → Prop} {K : V → Heap → Prop} (I : Nat → Env → Heap → Prop) (hr : ∀ n e h, I n e h → b_gatepostref01_Lower_0 L K (fun e' h' => ∃ m, m < n ∧ I m e' h') e h) {n : Nat} {e : Env} {h : Heap} (hi : I n e h) : Wl F L lc_gatepostref01_Lower_0 (q_gatepostref01_Lower_0 L K) e h :=
  wloopp (b := b_gatepostref01_Lower_0 L K) I (fun _ _ _ => by kernel_rfl) hr hi
def p_gatepostref01_Lower (L : FuncId → List V → V → Prop) (K : V → Heap → Prop) (a0 : V) (h : Heap) : Prop :=
    (Wl F L lc_gatepostref01_Lower_0 (q_gatepostref01_Lower_0 L K) (upd (upd (upd (enterE [a0]) 2 (.str [])) 3 (.str [])) 4 (.int .i64 0)) h)
theorem run_gatepostref01_Lower {L : FuncId → List V → V → Prop} {K : V → Heap → Prop} {a0 : V} {h : Heap} (hp : p_gatepostref01_Lower L K a0 h) : Cf F L i_gatepostref01_Lower [a0] h K :=
  wcallp F_gatepostref01_Lower (show 1 ≤ 29 by decide) (p := p_gatepostref01_Lower L K a0 h) (by kernel_rfl) hp
def p_token_Same (L : FuncId → List V → V → Prop) (K : V → Heap → Prop) (a0 a1 : V) (h : Heap) : Prop :=
    (wi F L (.len 0 (.c a0)) E0 h fun v6 h =>
    (wi F L (.len 0 (.c a1)) E0 h fun v8 h =>
    (wi F L (.bin .eql (.c v6) (.c v8)) E0 h fun v9 h =>
    (wg v9 true (wi F L (.mv (.c a0)) E0 h) h fun v11 h =>
    (wg v9 true (wi F L (.call i_token_Lower [(.c v11)]) E0 h) h fun v12 h =>
    (wg v9 true (wi F L (.mv (.c a1)) E0 h) h fun v13 h =>
    (wg v9 true (wi F L (.call i_token_Lower [(.c v13)]) E0 h) h fun v14 h =>
    (wg v9 true (wi F L (.bin .eql (.c v12) (.c v14)) E0 h) h fun v15 h =>
    (wi F L (.pick (.c v9) (.c v15) (.c (.bool false))) E0 h fun v16 h =>
    (∃ v, some v16 = some v ∧ K v h))))))))))
theorem run_token_Same {L : FuncId → List V → V → Prop} {K : V → Heap → Prop} {a0 a1 : V} {h : Heap} (hp : p_token_Same L K a0 a1 h) : Cf F L i_token_Same [a0, a1] h K :=
  wcallp F_token_Same (show 2 ≤ 17 by decide) (p := p_token_Same L K a0 a1 h) (by kernel_rfl) hp
def k_token_Split_1 (L : FuncId → List V → V → Prop) (K : V → Heap → Prop) (v1 v4 v6 : V) (h : Heap) : Prop :=
    (wi F L (.load false 1 (.c v1)) E0 h fun v45 h =>
    (wi F L (.len 0 (.c v45)) E0 h fun v46 h =>
    (wi F L (.callv (.c v6) [(.c v46)]) E0 h fun v47 h =>
    (wi F L (.load false 1 (.c v4)) E0 h fun v48 h =>
    (wi F L (.load false 1 (.c v4)) E0 h fun v49 h =>
    (wi F L (.len 1 (.c v49)) E0 h fun v50 h =>
    (wi F L (.load false 1 (.c v4)) E0 h fun v51 h =>
    (wi F L (.len 1 (.c v51)) E0 h fun v52 h =>
    (wi F L (.slsl 1 (.c v48) none (some (.c v50)) (some (.c v52))) E0 h fun v53 h =>
    (∃ v, resultsV h (enterE [v53, (.bool true)]) [.tmp 0, .tmp 1] = some v ∧ K v h))))))))))
def k_token_Split_0 (L : FuncId → List V → V → Prop) (K : V → Heap → Prop) (v1 v4 v6 v7 : V) (h : Heap) : Prop :=
    (wb v7
    (∃ v, resultsV h (enterE [.nsl, (.bool false)]) [.tmp 0, .tmp 1] = some v ∧ K v h)
    (k_token_Split_1 L K v1 v4 v6 h))
def k_token_Split_3 (L : FuncId → List V → V → Prop) (K : V → Heap → Prop) (N0 : Env → Heap → Prop) (e : Env) (v8 : V) (h : Heap) : Prop :=
    (wi F L (.bin .add (.c v8) (.c (.int .i64 1))) E0 h fun v16 h =>
    (N0 (upd (upd (upd e 15 v8) 16 v16) 8 v16) h))
def k_token_Split_2 (L : FuncId → List V → V → Prop) (K : V → Heap → Prop) (N0 : Env → Heap → Prop) (e : Env) (v1 v6 v7 v8 : V) (h : Heap) : Prop :=
    (wi F L (.load false 1 (.c v1)) E0 h fun v17 h =>
    (wi F L (.ixStr (.c v17) (.c v8)) E0 h fun v19 h =>
    (wi F L (.bin .eql (.c v19) (.c (.int .u8 34))) E0 h fun v22 h =>
    (wb v22
    (wi F L (.un .not (.c v7)) E0 h fun v24 h =>
    (k_token_Split_3 L K N0 (upd (upd (upd (upd (upd (upd (upd (upd (upd (upd e 17 v17) 18 v8) 19 v19) 9 v19) 21 v19) 22 v22) 20 v22) 23 v7) 24 v24) 7 v24) v8 h))
    (wg v7 true (wi F L (.mv (.c v19)) E0 h) h fun v28 h =>
    (wg v7 true (wi F L (.bin .eql (.c v28) (.c (.int .u8 92))) E0 h) h fun v29 h =>
    (wi F L (.pick (.c v7) (.c v29) (.c (.bool false))) E0 h fun v30 h =>
    (wb v30
    (wi F L (.bin .add (.c v8) (.c (.int .i64 1))) E0 h fun v32 h =>
    (k_token_Split_3 L K N0 (upd (upd (upd (upd (upd (upd (upd (upd (upd (upd (upd (upd (upd (upd (upd (upd e 17 v17) 18 v8) 19 v19) 9 v19) 21 v19) 22 v22) 20 v22) 26 v7) 27 v7) 28 v28) 29 v29) 30 v30) 25 v30) 31 v8) 32 v32) 8 v32) v32 h))
    (wi F L (.un .not (.c v7)) E0 h fun v35 h =>
    (wg v35 true (wi F L (.mv (.c v19)) E0 h) h fun v37 h =>
    (wg v35 true (wi F L (.bin .eql (.c v37) (.c (.int .u8 44))) E0 h) h fun v38 h =>
    (wi F L (.pick (.c v35) (.c v38) (.c (.bool false))) E0 h fun v39 h =>
    (wb v39
    (wi F L (.callv (.c v6) [(.c v8)]) E0 h fun v42 h =>
    (k_token_Split_3 L K N0 (upd (upd (upd (upd (upd (upd (upd (upd (upd (upd (upd (upd (upd (upd (upd (upd (upd (upd (upd (upd (upd (upd (upd e 17 v17) 18 v8) 19 v19) 9 v19) 21 v19) 22 v22) 20 v22) 26 v7) 27 v7) 28 v28) 29 v29) 30 v30) 25 v30) 34 v7) 35 v35) 36 v35) 37 v37) 38 v38) 39 v39) 33 v39) 40 v6) 41 v8) 42 v42) v8 h))
    (k_token_Split_3 L K N0 (upd (upd (upd (upd (upd (upd (upd (upd (upd (upd (upd (upd (upd (upd (upd (upd (upd (upd (upd (upd e 17 v17) 18 v8) 19 v19) 9 v19) 21 v19) 22 v22) 20 v22) 26 v7) 27 v7) 28 v28) 29 v29) 30 v30) 25 v30) 34 v7) 35 v35) 36 v35) 37 v37) 38 v38) 39 v39) 33 v39) v8 h))))))))))))))
def q_token_Split_0 (L : FuncId → List V → V → Prop) (K : V → Heap → Prop) : X → Env → Heap → Prop := (fun x => (seqX (fun e h => k_token_Split_0 L K (e 1) (e 4) (e 6) (e 7) h) (retX c_token_Split.results K)) (X.out 0 x))
def lc_token_Split_0 : C :=
  (.seq (.seq (.region [⟨(some 11), none, .mv (.t 8)⟩, ⟨(some 12), none, .load false 1 (.t 1)⟩, ⟨(some 13), none, .len 0 (.t 12)⟩, ⟨(some 14), none, .bin .lss (.t 11) (.t 13)⟩])
  (.cond (.t 14)
    .skip
    (.exit 0)))
  (.seq (.block 1 (.seq (.region [⟨(some 17), none, .load false 1 (.t 1)⟩, ⟨(some 18), none, .mv (.t 8)⟩, ⟨(some 19), none, .ixStr (.t 17) (.t 18)⟩, ⟨(some 9), none, .mv (.t 19)⟩])
  (.block 2 (.seq (.region [⟨(some 21), none, .mv (.t 9)⟩, ⟨(some 22), none, .bin .eql (.t 21) (.c (.int .u8 34))⟩, ⟨(some 20), none, .mv (.t 22)⟩])
  (.cond (.t 20)
    (.region [⟨(some 23), none, .mv (.t 7)⟩, ⟨(some 24), none, .un .not (.t 23)⟩, ⟨(some 7), none, .mv (.t 24)⟩])
    (.seq (.region [⟨(some 26), none, .mv (.t 7)⟩, ⟨(some 27), none, .mv (.t 26)⟩, ⟨(some 28), (some (27, true)), .mv (.t 9)⟩, ⟨(some 29), (some (27, true)), .bin .eql (.t 28) (.c (.int .u8 92))⟩, ⟨(some 30), none, .pick (.t 27) (.t 29) (.c (.bool false))⟩, ⟨(some 25), none, .mv (.t 30)⟩])
    (.cond (.t 25)
      (.region [⟨(some 31), none, .mv (.t 8)⟩, ⟨(some 32), none, .bin .add (.t 31) (.c (.int .i64 1))⟩, ⟨(some 8), none, .mv (.t 32)⟩])
      (.seq (.region [⟨(some 34), none, .mv (.t 7)⟩, ⟨(some 35), none, .un .not (.t 34)⟩, ⟨(some 36), none, .mv (.t 35)⟩, ⟨(some 37), (some (36, true)), .mv (.t 9)⟩, ⟨(some 38), (some (36, true)), .bin .eql (.t 37) (.c (.int .u8 44))⟩, ⟨(some 39), none, .pick (.t 36) (.t 38) (.c (.bool false))⟩, ⟨(some 33), none, .mv (.t 39)⟩])
      (.cond (.t 33)
        (.region [⟨(some 40), none, .mv (.t 6)⟩, ⟨(some 41), none, .mv (.t 8)⟩, ⟨(some 42), none, .callv (.t 40) [(.t 41)]⟩])
        .skip)))))))))
  (.region [⟨(some 15), none, .mv (.t 8)⟩, ⟨(some 16), none, .bin .add (.t 15) (.c (.int .i64 1))⟩, ⟨(some 8), none, .mv (.t 16)⟩])))
def b_token_Split_0 (L : FuncId → List V → V → Prop) (K : V → Heap → Prop) (N0 : Env → Heap → Prop) (e : Env) (h : Heap) : Prop :=
    (wi F L (.load false 1 (.c (e 1))) E0 h fun v12 h =>
    (wi F L (.len 0 (.c v12)) E0 h fun v13 h =>
    (wi F L (.bin .lss (.c (e 8)) (.c v13)) E0 h fun v14 h =>
    (wb v14
    (k_token_Split_2 L K N0 (upd (upd (upd (upd e 11 (e 8)) 12 v12) 13 v13) 14 v14) (e 1) (e 6) (e 7) (e 8) h)
    (k_token_Split_0 L K (e 1) (e 4) (e 6) (e 7) h)))))
theorem l_token_Split_0 {L : FuncId → List V → V → Prop} {K : V → Heap → Prop} (I : Nat → Env → Heap → Prop) (hr : ∀ n e h, I n e h → b_token_Split_0 L K (fun e' h' => ∃ m, m < n ∧ I m e' h') e h) {n : Nat} {e : Env} {h : Heap} (hi : I n e h) : Wl F L lc_token_Split_0 (q_token_Split_0 L K) e h :=
  wloopp (b := b_token_Split_0 L K) I (fun _ _ _ => by kernel_rfl) hr hi
def p_token_Split (L : FuncId → List V → V → Prop) (K : V → Heap → Prop) (a0 : V) (h : Heap) : Prop :=
    (wi F L (.box (.c a0)) E0 h fun v1 h =>
    (wi F L (.boxz [.nsl]) E0 h fun v4 h =>
    (wi F L (.boxz [(.int .i64 0)]) E0 h fun v5 h =>
    (wi F L (.store 1 (.c v5) (.c (.int .i64 0))) E0 h fun _ h =>
    (wi F L (.mkfn i_token_Split_1 [(.c v1), (.c v5), (.c v4)]) E0 h fun v10 h =>
    (Wl F L lc_token_Split_0 (q_token_Split_0 L K) (upd (upd (upd (upd (upd (upd (upd (upd (upd (enterE [a0]) 1 v1) 2 .nsl) 3 (.bool false)) 4 v4) 5 v5) 10 v10) 6 v10) 7 (.bool false)) 8 (.int .i64 0)) h))))))
theorem run_token_Split {L : FuncId → List V → V → Prop} {K : V → Heap → Prop} {a0 : V} {h : Heap} (hp : p_token_Split L K a0 h) : Cf F L i_token_Split [a0] h K :=
  wcallp F_token_Split (show 1 ≤ 54 by decide) (p := p_token_Split L K a0 h) (by kernel_rfl) hp
def p_token_Is (L : FuncId → List V → V → Prop) (K : V → Heap → Prop) (a0 : V) (h : Heap) : Prop :=
    (wi F L (.bin .neq (.c a0) (.c (.str []))) E0 h fun v4 h =>
    (wg v4 true (wi F L (.mv (.c a0)) E0 h) h fun v6 h =>
    (wg v4 true (wi F L (.call i_token_all [(.c v6), (.c (.fn i_token_inToken []))]) E0 h) h fun v7 h =>
    (wi F L (.pick (.c v4) (.c v7) (.c (.bool false))) E0 h fun v8 h =>
    (∃ v, some v8 = some v ∧ K v h)))))
theorem run_token_Is {L : FuncId → List V → V → Prop} {K : V → Heap → Prop} {a0 : V} {h : Heap} (hp : p_token_Is L K a0 h) : Cf F L i_token_Is [a0] h K :=
  wcallp F_token_Is (show 1 ≤ 9 by decide) (p := p_token_Is L K a0 h) (by kernel_rfl) hp
def k_token_Lower_0 (L : FuncId → List V → V → Prop) (K : V → Heap → Prop) (v3 : V) (h : Heap) : Prop :=
    (wi F L (.toStr (.c v3)) E0 h fun v28 h =>
    (∃ v, some v28 = some v ∧ K v h))
def k_token_Lower_2 (L : FuncId → List V → V → Prop) (K : V → Heap → Prop) (N0 : Env → Heap → Prop) (e : Env) (v10 : V) (h : Heap) : Prop :=
    (wi F L (.bin .add (.c v10) (.c (.int .i64 1))) E0 h fun v26 h =>
    (N0 (upd (upd e 26 v26) 10 v26) h))
def k_token_Lower_1 (L : FuncId → List V → V → Prop) (K : V → Heap → Prop) (N0 : Env → Heap → Prop) (e : Env) (v3 v8 v10 : V) (h : Heap) : Prop :=
    (wi F L (.ixaSl 1 (.c v8) (.c v10)) E0 h fun v13 h =>
    (wi F L (.load false 1 (.c v13)) E0 h fun v14 h =>
    (wi F L (.bin .geq (.c v14) (.c (.int .u8 65))) E0 h fun v16 h =>
    (wg v16 true (wi F L (.mv (.c v14)) E0 h) h fun v18 h =>
    (wg v16 true (wi F L (.bin .leq (.c v18) (.c (.int .u8 90))) E0 h) h fun v19 h =>
    (wi F L (.pick (.c v16) (.c v19) (.c (.bool false))) E0 h fun v20 h =>
    (wb v20
    (wi F L (.bin .or (.c v14) (.c (.int .u8 32))) E0 h fun v24 h =>
    (wi F L (.ixaSl 1 (.c v3) (.c v10)) E0 h fun v25 h =>
    (wi F L (.store 1 (.c v25) (.c v24)) E0 h fun _ h =>
    (k_token_Lower_2 L K N0 (upd (upd (upd (upd (upd (upd (upd (upd (upd (upd (upd (upd (upd (upd (upd (upd e 12 v10) 13 v13) 14 v14) 4 v10) 5 v14) 15 v14) 16 v16) 17 v16) 18 v18) 19 v19) 20 v20) 21 v3) 22 v10) 23 v14) 24 v24) 25 v25) v10 h))))
    (k_token_Lower_2 L K N0 (upd (upd (upd (upd (upd (upd (upd (upd (upd (upd (upd e 12 v10) 13 v13) 14 v14) 4 v10) 5 v14) 15 v14) 16 v16) 17 v16) 18 v18) 19 v19) 20 v20) v10 h))))))))
def q_token_Lower_0 (L : FuncId → List V → V → Prop) (K : V → Heap → Prop) : X → Env → Heap → Prop := (fun x => (seqX (fun e h => k_token_Lower_0 L K (e 3) h) (retX c_token_Lower.results K)) (X.out 0 x))
def lc_token_Lower_0 : C :=
  (.seq (.region [⟨(some 11), none, .bin .lss (.t 10) (.t 9)⟩])
  (.seq (.cond (.t 11)
    .skip
    (.exit 0))
  (.seq (.block 1 (.seq (.region [⟨(some 12), none, .mv (.t 10)⟩, ⟨(some 13), none, .ixaSl 1 (.t 8) (.t 10)⟩, ⟨(some 14), none, .load false 1 (.t 13)⟩, ⟨(some 4), none, .mv (.t 12)⟩, ⟨(some 5), none, .mv (.t 14)⟩])
  (.seq (.region [⟨(some 15), none, .mv (.t 5)⟩, ⟨(some 16), none, .bin .geq (.t 15) (.c (.int .u8 65))⟩, ⟨(some 17), none, .mv (.t 16)⟩, ⟨(some 18), (some (17, true)), .mv (.t 5)⟩, ⟨(some 19), (some (17, true)), .bin .leq (.t 18) (.c (.int .u8 90))⟩, ⟨(some 20), none, .pick (.t 17) (.t 19) (.c (.bool false))⟩])
  (.cond (.t 20)
    (.region [⟨(some 21), none, .mv (.t 3)⟩, ⟨(some 22), none, .mv (.t 4)⟩, ⟨(some 23), none, .mv (.t 5)⟩, ⟨(some 24), none, .bin .or (.t 23) (.c (.int .u8 32))⟩, ⟨(some 25), none, .ixaSl 1 (.t 21) (.t 22)⟩, ⟨none, none, .store 1 (.t 25) (.t 24)⟩])
    .skip))))
  (.region [⟨(some 26), none, .bin .add (.t 10) (.c (.int .i64 1))⟩, ⟨(some 10), none, .mv (.t 26)⟩]))))
def b_token_Lower_0 (L : FuncId → List V → V → Prop) (K : V → Heap → Prop) (N0 : Env → Heap → Prop) (e : Env) (h : Heap) : Prop :=
    (wi F L (.bin .lss (.c (e 10)) (.c (e 9))) E0 h fun v11 h =>
    (wb v11
    (k_token_Lower_1 L K N0 (upd e 11 v11) (e 3) (e 8) (e 10) h)
    (k_token_Lower_0 L K (e 3) h)))
theorem l_token_Lower_0 {L : FuncId → List V → V → Prop} {K : V → Heap → Prop} (I : Nat → Env → Heap → Prop) (hr : ∀ n e h, I n e h → b_token_Lower_0 L K (fun e' h' => ∃ m, m < n ∧ I m e' h') e h) {n : Nat} {e : Env} {h : Heap} (hi : I n e h) : Wl F L lc_token_Lower_0 (q_token_Lower_0 L K) e h :=
  wloopp (b := b_token_Lower_0 L K) I (fun _ _ _ => by kernel_rfl) hr hi
def p_token_Lower (L : FuncId → List V → V → Prop) (K : V → Heap → Prop) (a0 : V) (h : Heap) : Prop :=
    (wi F L (.toBytes (.c a0)) E0 h fun v7 h =>
    (wi F L (.len 1 (.c v7)) E0 h fun v9 h =>
    (Wl F L lc_token_Lower_0 (q_token_Lower_0 L K) (upd (upd (upd (upd (upd (upd (upd (enterE [a0]) 2 (.str [])) 6 a0) 7 v7) 3 v7) 8 v7) 9 v9) 10 (.int .i64 0)) h)))
theorem run_token_Lower {L : FuncId → List V → V → Prop} {K : V → Heap → Prop} {a0 : V} {h : Heap} (hp : p_token_Lower L K a0 h) : Cf F L i_token_Lower [a0] h K :=
  wcallp F_token_Lower (show 1 ≤ 29 by decide) (p := p_token_Lower L K a0 h) (by kernel_rfl) hp
def k_gatepostref01_Split_2 (L : FuncId → List V → V → Prop) (K : V → Heap → Prop) (v4 : V) (h : Heap) : Prop :=
    (∃ v, resultsV h (enterE [v4, (.bool true)]) [.tmp 0, .tmp 1] = some v ∧ K v h)
def k_gatepostref01_Split_1 (L : FuncId → List V → V → Prop) (K : V → Heap → Prop) (v4 v5 : V) (h : Heap) : Prop :=
    (wi F L (.bin .neq (.c v5) (.c (.str []))) E0 h fun v68 h =>
    (wb v68
    (wi F L (.bsl 1 [(.c v5)]) E0 h fun v71 h =>
    (wi F L (.app 1 16 false (.c v4) (.c v71)) E0 h fun v72 h =>
    (k_gatepostref01_Split_2 L K v72 h)))
    (k_gatepostref01_Split_2 L K v4 h)))
def k_gatepostref01_Split_0 (L : FuncId → List V → V → Prop) (K : V → Heap → Prop) (v4 v5 v6 : V) (h : Heap) : Prop :=
    (wi F L (.call i_gatepostref01_Trim [(.c v5)]) E0 h fun v65 h =>
    (wb v6
    (∃ v, resultsV h (enterE [.nsl, (.bool false)]) [.tmp 0, .tmp 1] = some v ∧ K v h)
    (k_gatepostref01_Split_1 L K v4 v65 h)))
def k_gatepostref01_Split_4 (L : FuncId → List V → V → Prop) (K : V → Heap → Prop) (N0 : Env → Heap → Prop) (e : Env) (v7 : V) (h : Heap) : Prop :=
    (wi F L (.bin .add (.c v7) (.c (.int .i64 1))) E0 h fun v14 h =>
    (N0 (upd (upd (upd e 13 v7) 14 v14) 7 v14) h))
def k_gatepostref01_Split_6 (L : FuncId → List V → V → Prop) (K : V → Heap → Prop) (N0 : Env → Heap → Prop) (e : Env) (v0 v5 v6 v7 v8 : V) (h : Heap) : Prop :=
    (wg v6 true (wi F L (.mv (.c v8)) E0 h) h fun v45 h =>
    (wg v6 true (wi F L (.bin .eql (.c v45) (.c (.int .u8 92))) E0 h) h fun v46 h =>
    (wi F L (.pick (.c v6) (.c v46) (.c (.bool false))) E0 h fun v47 h =>
    (wg v47 true (wi F L (.mv (.c v7)) E0 h) h fun v49 h =>
    (wg v47 true (wi F L (.bin .add (.c v49) (.c (.int .i64 1))) E0 h) h fun v50 h =>
    (wg v47 true (wi F L (.mv (.c v0)) E0 h) h fun v51 h =>
    (wg v47 true (wi F L (.len 0 (.c v51)) E0 h) h fun v52 h =>
    (wg v47 true (wi F L (.bin .lss (.c v50) (.c v52)) E0 h) h fun v53 h =>
    (wi F L (.pick (.c v47) (.c v53) (.c (.bool false))) E0 h fun v54 h =>
    (wb v54
    (wi F L (.bin .add (.c v7) (.c (.int .i64 1))) E0 h fun v56 h =>
    (wi F L (.bin .add (.c v56) (.c (.int .i64 1))) E0 h fun v61 h =>
    (wi F L (.slstr (.c v0) (some (.c v56)) (some (.c v61))) E0 h fun v62 h =>
    (wi F L (.bin .add (.c v5) (.c v62)) E0 h fun v63 h =>
    (k_gatepostref01_Split_4 L K N0 (upd (upd (upd (upd (upd (upd (upd (upd (upd (upd (upd (upd (upd (upd (upd (upd (upd (upd (upd (upd (upd (upd (upd e 43 v6) 44 v6) 45 v45) 46 v46) 47 v47) 48 v47) 49 v49) 50 v50) 51 v51) 52 v52) 53 v53) 54 v54) 55 v7) 56 v56) 7 v56) 57 v5) 58 v0) 59 v56) 60 v56) 61 v61) 62 v62) 63 v63) 5 v63) v56 h)))))
    (k_gatepostref01_Split_4 L K N0 (upd (upd (upd (upd (upd (upd (upd (upd (upd (upd (upd (upd e 43 v6) 44 v6) 45 v45) 46 v46) 47 v47) 48 v47) 49 v49) 50 v50) 51 v51) 52 v52) 53 v53) 54 v54) v7 h)))))))))))
def k_gatepostref01_Split_5 (L : FuncId → List V → V → Prop) (K : V → Heap → Prop) (N0 : Env → Heap → Prop) (e : Env) (v0 v5 v6 v7 v8 : V) (h : Heap) : Prop :=
    (wi F L (.bin .add (.c v7) (.c (.int .i64 1))) E0 h fun v36 h =>
    (wi F L (.slstr (.c v0) (some (.c v7)) (some (.c v36))) E0 h fun v37 h =>
    (wi F L (.bin .add (.c v5) (.c v37)) E0 h fun v38 h =>
    (wi F L (.bin .eql (.c v8) (.c (.int .u8 34))) E0 h fun v40 h =>
    (wb v40
    (wi F L (.un .not (.c v6)) E0 h fun v42 h =>
    (k_gatepostref01_Split_6 L K N0 (upd (upd (upd (upd (upd (upd (upd (upd (upd (upd (upd (upd (upd e 32 v5) 33 v0) 34 v7) 35 v7) 36 v36) 37 v37) 38 v38) 5 v38) 39 v8) 40 v40) 41 v6) 42 v42) 6 v42) v0 v38 v42 v7 v8 h))
    (k_gatepostref01_Split_6 L K N0 (upd (upd (upd (upd (upd (upd (upd (upd (upd (upd e 32 v5) 33 v0) 34 v7) 35 v7) 36 v36) 37 v37) 38 v38) 5 v38) 39 v8) 40 v40) v0 v38 v6 v7 v8 h))))))
def k_gatepostref01_Split_7 (L : FuncId → List V → V → Prop) (K : V → Heap → Prop) (N0 : Env → Heap → Prop) (e : Env) (v7 : V) (h : Heap) : Prop :=
    (k_gatepostref01_Split_4 L K N0 (upd e 5 (.str [])) v7 h)
def k_gatepostref01_Split_3 (L : FuncId → List V → V → Prop) (K : V → Heap → Prop) (N0 : Env → Heap → Prop) (e : Env) (v0 v4 v5 v6 v7 : V) (h : Heap) : Prop :=
    (wi F L (.ixStr (.c v0) (.c v7)) E0 h fun v17 h =>
    (wi F L (.un .not (.c v6)) E0 h fun v19 h =>
    (wg v19 true (wi F L (.mv (.c v17)) E0 h) h fun v21 h =>
    (wg v19 true (wi F L (.bin .eql (.c v21) (.c (.int .u8 44))) E0 h) h fun v22 h =>
    (wi F L (.pick (.c v19) (.c v22) (.c (.bool false))) E0 h fun v23 h =>
    (wb v23
    (wi F L (.call i_gatepostref01_Trim [(.c v5)]) E0 h fun v25 h =>
    (wi F L (.bin .neq (.c v25) (.c (.str []))) E0 h fun v27 h =>
    (wb v27
    (wi F L (.bsl 1 [(.c v25)]) E0 h fun v30 h =>
    (wi F L (.app 1 16 false (.c v4) (.c v30)) E0 h fun v31 h =>
    (k_gatepostref01_Split_7 L K N0 (upd (upd (upd (upd (upd (upd (upd (upd (upd (upd (upd (upd (upd (upd (upd (upd (upd (upd (upd (upd e 15 v0) 16 v7) 17 v17) 8 v17) 18 v6) 19 v19) 20 v19) 21 v21) 22 v22) 23 v23) 24 v5) 25 v25) 5 v25) 26 v25) 27 v27) 28 v4) 29 v25) 30 v30) 31 v31) 4 v31) v7 h)))
    (k_gatepostref01_Split_7 L K N0 (upd (upd (upd (upd (upd (upd (upd (upd (upd (upd (upd (upd (upd (upd (upd e 15 v0) 16 v7) 17 v17) 8 v17) 18 v6) 19 v19) 20 v19) 21 v21) 22 v22) 23 v23) 24 v5) 25 v25) 5 v25) 26 v25) 27 v27) v7 h))))
    (k_gatepostref01_Split_5 L K N0 (upd (upd (upd (upd (upd (upd (upd (upd (upd (upd e 15 v0) 16 v7) 17 v17) 8 v17) 18 v6) 19 v19) 20 v19) 21 v21) 22 v22) 23 v23) v0 v5 v6 v7 v17 h)))))))
def q_gatepostref01_Split_0 (L : FuncId → List V → V → Prop) (K : V → Heap → Prop) : X → Env → Heap → Prop := (fun x => (seqX (fun e h => k_gatepostref01_Split_0 L K (e 4) (e 5) (e 6) h) (retX c_gatepostref01_Split.results K)) (X.out 0 x))
def lc_gatepostref01_Split_0 : C :=
  (.seq (.seq (.region [⟨(some 9), none, .mv (.t 7)⟩, ⟨(some 10), none, .mv (.t 0)⟩, ⟨(some 11), none, .len 0 (.t 10)⟩, ⟨(some 12), none, .bin .lss (.t 9) (.t 11)⟩])
  (.cond (.t 12)
    .skip
    (.exit 0)))
  (.seq (.block 1 (.seq (.region [⟨(some 15), none, .mv (.t 0)⟩, ⟨(some 16), none, .mv (.t 7)⟩, ⟨(some 17), none, .ixStr (.t 15) (.t 16)⟩, ⟨(some 8), none, .mv (.t 17)⟩])
  (.seq (.seq (.region [⟨(some 18), none, .mv (.t 6)⟩, ⟨(some 19), none, .un .not (.t 18)⟩, ⟨(some 20), none, .mv (.t 19)⟩, ⟨(some 21), (some (20, true)), .mv (.t 8)⟩, ⟨(some 22), (some (20, true)), .bin .eql (.t 21) (.c (.int .u8 44))⟩, ⟨(some 23), none, .pick (.t 20) (.t 22) (.c (.bool false))⟩])
  (.cond (.t 23)
    (.seq (.region [⟨(some 24), none, .mv (.t 5)⟩, ⟨(some 25), none, .call i_gatepostref01_Trim [(.t 24)]⟩, ⟨(some 5), none, .mv (.t 25)⟩])
    (.seq (.seq (.region [⟨(some 26), none, .mv (.t 5)⟩, ⟨(some 27), none, .bin .neq (.t 26) (.c (.str []))⟩])
    (.cond (.t 27)
      (.region [⟨(some 28), none, .mv (.t 4)⟩, ⟨(some 29), none, .mv (.t 5)⟩, ⟨(some 30), none, .bsl 1 [(.t 29)]⟩, ⟨(some 31), none, .app 1 16 false (.t 28) (.t 30)⟩, ⟨(some 4), none, .mv (.t 31)⟩])
      .skip))
    (.seq (.region [⟨(some 5), none, .mv (.c (.str []))⟩])
    (.exit 1))))
    .skip))
  (.seq (.region [⟨(some 32), none, .mv (.t 5)⟩, ⟨(some 33), none, .mv (.t 0)⟩, ⟨(some 34), none, .mv (.t 7)⟩, ⟨(some 35), none, .mv (.t 7)⟩, ⟨(some 36), none, .bin .add (.t 35) (.c (.int .i64 1))⟩, ⟨(some 37), none, .slstr (.t 33) (some (.t 34)) (some (.t 36))⟩, ⟨(some 38), none, .bin .add (.t 32) (.t 37)⟩, ⟨(some 5), none, .mv (.t 38)⟩])
  (.seq (.seq (.region [⟨(some 39), none, .mv (.t 8)⟩, ⟨(some 40), none, .bin .eql (.t 39) (.c (.int .u8 34))⟩])
  (.cond (.t 40)
    (.region [⟨(some 41), none, .mv (.t 6)⟩, ⟨(some 42), none, .un .not (.t 41)⟩, ⟨(some 6), none, .mv (.t 42)⟩])
    .skip))
  (.seq (.region [⟨(some 43), none, .mv (.t 6)⟩, ⟨(some 44), none, .mv (.t 43)⟩, ⟨(some 45), (some (44, true)), .mv (.t 8)⟩, ⟨(some 46), (some (44, true)), .bin .eql (.t 45) (.c (.int .u8 92))⟩, ⟨(some 47), none, .pick (.t 44) (.t 46) (.c (.bool false))⟩, ⟨(some 48), none, .mv (.t 47)⟩, ⟨(some 49), (some (48, true)), .mv (.t 7)⟩, ⟨(some 50), (some (48, true)), .bin .add (.t 49) (.c (.int .i64 1))⟩, ⟨(some 51), (some (48, true)), .mv (.t 0)⟩, ⟨(some 52), (some (48, true)), .len 0 (.t 51)⟩, ⟨(some 53), (some (48, true)), .bin .lss (.t 50) (.t 52)⟩, ⟨(some 54), none, .pick (.t 48) (.t 53) (.c (.bool false))⟩])
  (.cond (.t 54)
    (.seq (.region [⟨(some 55), none, .mv (.t 7)⟩, ⟨(some 56), none, .bin .add (.t 55) (.c (.int .i64 1))⟩, ⟨(some 7), none, .mv (.t 56)⟩])
    (.region [⟨(some 57), none, .mv (.t 5)⟩, ⟨(some 58), none, .mv (.t 0)⟩, ⟨(some 59), none, .mv (.t 7)⟩, ⟨(some 60), none, .mv (.t 7)⟩, ⟨(some 61), none, .bin .add (.t 60) (.c (.int .i64 1))⟩, ⟨(some 62), none, .slstr (.t 58) (some (.t 59)) (some (.t 61))⟩, ⟨(some 63), none, .bin .add (.t 57) (.t 62)⟩, ⟨(some 5), none, .mv (.t 63)⟩]))
    .skip)))))))
  (.region [⟨(some 13), none, .mv (.t 7)⟩, ⟨(some 14), none, .bin .add (.t 13) (.c (.int .i64 1))⟩, ⟨(some 7), none, .mv (.t 14)⟩])))
def b_gatepostref01_Split_0 (L : FuncId → List V → V → Prop) (K : V → Heap → Prop) (N0 : Env → Heap → Prop) (e : Env) (h : Heap) : Prop :=
    (wi F L (.len 0 (.c (e 0))) E0 h fun v11 h =>
    (wi F L (.bin .lss (.c (e 7)) (.c v11)) E0 h fun v12 h =>
    (wb v12
    (k_gatepostref01_Split_3 L K N0 (upd (upd (upd (upd e 9 (e 7)) 10 (e 0)) 11 v11) 12 v12) (e 0) (e 4) (e 5) (e 6) (e 7) h)
    (k_gatepostref01_Split_0 L K (e 4) (e 5) (e 6) h))))
theorem l_gatepostref01_Split_0 {L : FuncId → List V → V → Prop} {K : V → Heap → Prop} (I : Nat → Env → Heap → Prop) (hr : ∀ n e h, I n e h → b_gatepostref01_Split_0 L K (fun e' h' => ∃ m, m < n ∧ I m e' h') e h) {n : Nat} {e : Env} {h : Heap} (hi : I n e h) : Wl F L lc_gatepostref01_Split_0 (q_gatepostref01_Split_0 L K) e h :=
  wloopp (b := b_gatepostref01_Split_0 L K) I (fun _ _ _ => by kernel_rfl) hr hi
def p_gatepostref01_Split (L : FuncId → List V → V → Prop) (K : V → Heap → Prop) (a0 : V) (h : Heap) : Prop :=
    (Wl F L lc_gatepostref01_Split_0 (q_gatepostref01_Split_0 L K) (upd (upd (upd (upd (upd (upd (enterE [a0]) 2 .nsl) 3 (.bool false)) 4 .nsl) 5 (.str [])) 6 (.bool false)) 7 (.int .i64 0)) h)
theorem run_gatepostref01_Split {L : FuncId → List V → V → Prop} {K : V → Heap → Prop} {a0 : V} {h : Heap} (hp : p_gatepostref01_Split L K a0 h) : Cf F L i_gatepostref01_Split [a0] h K :=
  wcallp F_gatepostref01_Split (show 1 ≤ 74 by decide) (p := p_gatepostref01_Split L K a0 h) (by kernel_rfl) hp
def k_token_Split_1_0 (L : FuncId → List V → V → Prop) (K : V → Heap → Prop) (v0 v2 : V) (h : Heap) : Prop :=
    (wi F L (.bin .add (.c v0) (.c (.int .i64 1))) E0 h fun v18 h =>
    (wi F L (.store 1 (.c v2) (.c v18)) E0 h fun _ h =>
    (∃ v, resultsV h (enterE []) [] = some v ∧ K v h)))
def p_token_Split_1 (L : FuncId → List V → V → Prop) (K : V → Heap → Prop) (a0 a1 a2 a3 : V) (h : Heap) : Prop :=
    (wi F L (.load false 1 (.c a1)) E0 h fun v6 h =>
    (wi F L (.load false 1 (.c a2)) E0 h fun v7 h =>
    (wi F L (.slstr (.c v6) (some (.c v7)) (some (.c a0))) E0 h fun v9 h =>
    (wi F L (.call i_token_Trim [(.c v9)]) E0 h fun v10 h =>
    (wi F L (.bin .neq (.c v10) (.c (.str []))) E0 h fun v12 h =>
    (wb v12
    (wi F L (.load false 1 (.c a3)) E0 h fun v13 h =>
    (wi F L (.bsl 1 [(.c v10)]) E0 h fun v15 h =>
    (wi F L (.app 1 16 false (.c v13) (.c v15)) E0 h fun v16 h =>
    (wi F L (.store 1 (.c a3) (.c v16)) E0 h fun _ h =>
    (k_token_Split_1_0 L K a0 a2 h)))))
    (k_token_Split_1_0 L K a0 a2 h)))))))
theorem run_token_Split_1 {L : FuncId → List V → V → Prop} {K : V → Heap → Prop} {a0 a1 a2 a3 : V} {h : Heap} (hp : p_token_Split_1 L K a0 a1 a2 a3 h) : Cf F L i_token_Split_1 [a0, a1, a2, a3] h K :=
  wcallp F_token_Split_1 (show 4 ≤ 19 by decide) (p := p_token_Split_1 L K a0 a1 a2 a3 h) (by kernel_rfl) hp
def p_token_Trim (L : FuncId → List V → V → Prop) (K : V → Heap → Prop) (a0 : V) (h : Heap) : Prop :=
    (wi F L (.call i_strings_Trim [(.c a0), (.c (.str [32, 9]))]) E0 h fun v4 h =>
    (∃ v, some v4 = some v ∧ K v h))
theorem run_token_Trim {L : FuncId → List V → V → Prop} {K : V → Heap → Prop} {a0 : V} {h : Heap} (hp : p_token_Trim L K a0 h) : Cf F L i_token_Trim [a0] h K :=
  wcallp F_token_Trim (show 1 ≤ 5 by decide) (p := p_token_Trim L K a0 h) (by kernel_rfl) hp
def k_token_all_0 (L : FuncId → List V → V → Prop) (K : V → Heap → Prop) (h : Heap) : Prop :=
    (∃ v, some (.bool true) = some v ∧ K v h)
def k_token_all_2 (L : FuncId → List V → V → Prop) (K : V → Heap → Prop) (N0 : Env → Heap → Prop) (e : Env) (v8 : V) (h : Heap) : Prop :=
    (wi F L (.bin .add (.c v8) (.c (.int .i64 1))) E0 h fun v17 h =>
    (N0 (upd (upd e 17 v17) 8 v17) h))
def k_token_all_1 (L : FuncId → List V → V → Prop) (K : V → Heap → Prop) (N0 : Env → Heap → Prop) (e : Env) (v0 v1 v8 : V) (h : Heap) : Prop :=
    (wi F L (.ixStr (.c v0) (.c v8)) E0 h fun v14 h =>
    (wi F L (.callv (.c v1) [(.c v14)]) E0 h fun v15 h =>
    (wi F L (.un .not (.c v15)) E0 h fun v16 h =>
    (wb v16
    (∃ v, some (.bool false) = some v ∧ K v h)
    (k_token_all_2 L K N0 (upd (upd (upd (upd (upd (upd (upd (upd e 10 v8) 5 v8) 11 v1) 12 v0) 13 v8) 14 v14) 15 v15) 16 v16) v8 h)))))
def q_token_all_0 (L : FuncId → List V → V → Prop) (K : V → Heap → Prop) : X → Env → Heap → Prop := (fun x => (seqX (fun e h => k_token_all_0 L K  h) (retX c_token_all.results K)) (X.out 0 x))
def lc_token_all_0 : C :=
  (.seq (.region [⟨(some 9), none, .bin .lss (.t 8) (.t 7)⟩])
  (.seq (.cond (.t 9)
    .skip
    (.exit 0))
  (.seq (.block 1 (.seq (.region [⟨(some 10), none, .mv (.t 8)⟩, ⟨(some 5), none, .mv (.t 10)⟩])
  (.seq (.region [⟨(some 11), none, .mv (.t 1)⟩, ⟨(some 12), none, .mv (.t 0)⟩, ⟨(some 13), none, .mv (.t 5)⟩, ⟨(some 14), none, .ixStr (.t 12) (.t 13)⟩, ⟨(some 15), none, .callv (.t 11) [(.t 14)]⟩, ⟨(some 16), none, .un .not (.t 15)⟩])
  (.cond (.t 16)
    (.seq (.region [⟨(some 4), none, .mv (.c (.bool false))⟩])
    .ret)
    .skip))))
  (.region [⟨(some 17), none, .bin .add (.t 8) (.c (.int .i64 1))⟩, ⟨(some 8), none, .mv (.t 17)⟩]))))
def b_token_all_0 (L : FuncId → List V → V → Prop) (K : V → Heap → Prop) (N0 : Env → Heap → Prop) (e : Env) (h : Heap) : Prop :=
    (wi F L (.bin .lss (.c (e 8)) (.c (e 7))) E0 h fun v9 h =>
    (wb v9
    (k_token_all_1 L K N0 (upd e 9 v9) (e 0) (e 1) (e 8) h)
    (k_token_all_0 L K  h)))
theorem l_token_all_0 {L : FuncId → List V → V → Prop} {K : V → Heap → Prop} (I : Nat → Env → Heap → Prop) (hr : ∀ n e h, I n e h → b_token_all_0 L K (fun e' h' => ∃ m, m < n ∧ I m e' h') e h) {n : Nat} {e : Env} {h : Heap} (hi : I n e h) : Wl F L lc_token_all_0 (q_token_all_0 L K) e h :=
  wloopp (b := b_token_all_0 L K) I (fun _ _ _ => by kernel_rfl) hr hi
def p_token_all (L : FuncId → List V → V → Prop) (K : V → Heap → Prop) (a0 a1 : V) (h : Heap) : Prop :=
    (wi F L (.len 0 (.c a0)) E0 h fun v7 h =>
    (Wl F L lc_token_all_0 (q_token_all_0 L K) (upd (upd (upd (upd (enterE [a0, a1]) 4 (.bool false)) 6 a0) 7 v7) 8 (.int .i64 0)) h))
theorem run_token_all {L : FuncId → List V → V → Prop} {K : V → Heap → Prop} {a0 a1 : V} {h : Heap} (hp : p_token_all L K a0 a1 h) : Cf F L i_token_all [a0, a1] h K :=
  wcallp F_token_all (show 2 ≤ 18 by decide) (p := p_token_all L K a0 a1 h) (by kernel_rfl) hp
def k_token_inToken_1 (L : FuncId → List V → V → Prop) (K : V → Heap → Prop) (h : Heap) : Prop :=
    (∃ v, some (.bool false) = some v ∧ K v h)
def k_token_inToken_3 (L : FuncId → List V → V → Prop) (K : V → Heap → Prop) (N0 : Env → Heap → Prop) (e : Env) (v23 : V) (h : Heap) : Prop :=
    (wi F L (.bin .add (.c v23) (.c (.int .i64 1))) E0 h fun v29 h =>
    (N0 (upd (upd e 29 v29) 23 v29) h))
def k_token_inToken_2 (L : FuncId → List V → V → Prop) (K : V → Heap → Prop) (N0 : Env → Heap → Prop) (e : Env) (v0 v22 v23 : V) (h : Heap) : Prop :=
    (wi F L (.ixArr 15 1 false (.c v22) (.c v23)) E0 h fun v25 h =>
    (wi F L (.bin .eql (.c v25) (.c v0)) E0 h fun v28 h =>
    (wb v28
    (∃ v, some (.bool true) = some v ∧ K v h)
    (k_token_inToken_3 L K N0 (upd (upd (upd (upd (upd e 25 v25) 5 v25) 26 v25) 27 v0) 28 v28) v23 h))))
def q_token_inToken_0 (L : FuncId → List V → V → Prop) (K : V → Heap → Prop) : X → Env → Heap → Prop := (fun x => (seqX (fun e h => k_token_inToken_1 L K  h) (retX c_token_inToken.results K)) (X.out 0 x))
def lc_token_inToken_0 : C :=
  (.seq (.region [⟨(some 24), none, .bin .lss (.t 23) (.c (.int .i64 15))⟩])
  (.seq (.cond (.t 24)
    .skip
    (.exit 0))
  (.seq (.block 1 (.seq (.region [⟨(some 25), none, .ixArr 15 1 false (.t 22) (.t 23)⟩, ⟨(some 5), none, .mv (.t 25)⟩])
  (.seq (.region [⟨(some 26), none, .mv (.t 5)⟩, ⟨(some 27), none, .mv (.t 0)⟩, ⟨(some 28), none, .bin .eql (.t 26) (.t 27)⟩])
  (.cond (.t 28)
    (.seq (.region [⟨(some 2), none, .mv (.c (.bool true))⟩])
    .ret)
    .skip))))
  (.region [⟨(some 29), none, .bin .add (.t 23) (.c (.int .i64 1))⟩, ⟨(some 23), none, .mv (.t 29)⟩]))))
def b_token_inToken_0 (L : FuncId → List V → V → Prop) (K : V → Heap → Prop) (N0 : Env → Heap → Prop) (e : Env) (h : Heap) : Prop :=
    (wi F L (.bin .lss (.c (e 23)) (.c (.int .i64 15))) E0 h fun v24 h =>
    (wb v24
    (k_token_inToken_2 L K N0 (upd e 24 v24) (e 0) (e 22) (e 23) h)
    (k_token_inToken_1 L K  h)))
theorem l_token_inToken_0 {L : FuncId → List V → V → Prop} {K : V → Heap → Prop} (I : Nat → Env → Heap → Prop) (hr : ∀ n e h, I n e h → b_token_inToken_0 L K (fun e' h' => ∃ m, m < n ∧ I m e' h') e h) {n : Nat} {e : Env} {h : Heap} (hi : I n e h) : Wl F L lc_token_inToken_0 (q_token_inToken_0 L K) e h :=
  wloopp (b := b_token_inToken_0 L K) I (fun _ _ _ => by kernel_rfl) hr hi
def k_token_inToken_0 (L : FuncId → List V → V → Prop) (K : V → Heap → Prop) (e : Env) (h : Heap) : Prop :=
    (wi F L (.call i_token_marks []) E0 h fun v22 h =>
    (Wl F L lc_token_inToken_0 (q_token_inToken_0 L K) (upd (upd e 22 v22) 23 (.int .i64 0)) h))
def p_token_inToken (L : FuncId → List V → V → Prop) (K : V → Heap → Prop) (a0 : V) (h : Heap) : Prop :=
    (wi F L (.bin .or (.c a0) (.c (.int .u8 32))) E0 h fun v7 h =>
    (wi F L (.bin .geq (.c v7) (.c (.int .u8 97))) E0 h fun v9 h =>
    (wg v9 true (wi F L (.mv (.c v7)) E0 h) h fun v11 h =>
    (wg v9 true (wi F L (.bin .leq (.c v11) (.c (.int .u8 122))) E0 h) h fun v12 h =>
    (wi F L (.pick (.c v9) (.c v12) (.c (.bool false))) E0 h fun v13 h =>
    (wg v13 false (wi F L (.mv (.c a0)) E0 h) h fun v15 h =>
    (wg v13 false (wi F L (.bin .geq (.c v15) (.c (.int .u8 48))) E0 h) h fun v16 h =>
    (wg v13 false (wi F L (.mv (.c v16)) E0 h) h fun v17 h =>
    (wg v17 true (wi F L (.mv (.c a0)) E0 h) h fun v18 h =>
    (wg v17 true (wi F L (.bin .leq (.c v18) (.c (.int .u8 57))) E0 h) h fun v19 h =>
    (wg v13 false (wi F L (.pick (.c v17) (.c v19) (.c (.bool false))) E0 h) h fun v20 h =>
    (wi F L (.pick (.c v13) (.c (.bool true)) (.c v20)) E0 h fun v21 h =>
    (wb v21
    (∃ v, some (.bool true) = some v ∧ K v h)
    (k_token_inToken_0 L K (upd (upd (upd (upd (upd (upd (upd (upd (upd (upd (upd (upd (upd (upd (upd (upd (upd (upd (enterE [a0]) 2 (.bool false)) 6 a0) 7 v7) 3 v7) 8 v7) 9 v9) 10 v9) 11 v11) 12 v12) 13 v13) 14 v13) 15 v15) 16 v16) 17 v17) 18 v18) 19 v19) 20 v20) 21 v21)  h))))))))))))))
theorem run_token_inToken {L : FuncId → List V → V → Prop} {K : V → Heap → Prop} {a0 : V} {h : Heap} (hp : p_token_inToken L K a0 h) : Cf F L i_token_inToken [a0] h K :=
  wcallp F_token_inToken (show 1 ≤ 30 by decide) (p := p_token_inToken L K a0 h) (by kernel_rfl) hp
def k_gatepostref01_Trim_1 (L : FuncId → List V → V → Prop) (K : V → Heap → Prop) (v0 : V) (h : Heap) : Prop :=
    (∃ v, some v0 = some v ∧ K v h)
def k_gatepostref01_Trim_2 (L : FuncId → List V → V → Prop) (K : V → Heap → Prop) (N0 : Env → Heap → Prop) (e : Env) (v0 : V) (h : Heap) : Prop :=
    (wi F L (.len 0 (.c v0)) E0 h fun v26 h =>
    (wi F L (.bin .sub (.c v26) (.c (.int .i64 1))) E0 h fun v27 h =>
    (wi F L (.slstr (.c v0) none (some (.c v27))) E0 h fun v28 h =>
    (N0 (upd (upd (upd (upd (upd (upd e 24 v0) 25 v0) 26 v26) 27 v27) 28 v28) 0 v28) h))))
def q_gatepostref01_Trim_0 (L : FuncId → List V → V → Prop) (K : V → Heap → Prop) : X → Env → Heap → Prop := (fun x => (seqX (fun e h => k_gatepostref01_Trim_1 L K (e 0) h) (retX c_gatepostref01_Trim.results K)) (X.out 2 x))
def lc_gatepostref01_Trim_0 : C :=
  (.seq (.seq (.region [⟨(some 13), none, .mv (.t 0)⟩, ⟨(some 14), none, .len 0 (.t 13)⟩, ⟨(some 15), none, .bin .gtr (.t 14) (.c (.int .i64 0))⟩, ⟨(some 16), none, .mv (.t 15)⟩, ⟨(some 17), (some (16, true)), .mv (.t 0)⟩, ⟨(some 18), (some (16, true)), .mv (.t 0)⟩, ⟨(some 19), (some (16, true)), .len 0 (.t 18)⟩, ⟨(some 20), (some (16, true)), .bin .sub (.t 19) (.c (.int .i64 1))⟩, ⟨(some 21), (some (16, true)), .ixStr (.t 17) (.t 20)⟩, ⟨(some 22), (some (16, true)), .call i_gatepostref01_blank [(.t 21)]⟩, ⟨(some 23), none, .pick (.t 16) (.t 22) (.c (.bool false))⟩])
  (.cond (.t 23)
    .skip
    (.exit 2)))
  (.block 3 (.region [⟨(some 24), none, .mv (.t 0)⟩, ⟨(some 25), none, .mv (.t 0)⟩, ⟨(some 26), none, .len 0 (.t 25)⟩, ⟨(some 27), none, .bin .sub (.t 26) (.c (.int .i64 1))⟩, ⟨(some 28), none, .slstr (.t 24) none (some (.t 27))⟩, ⟨(some 0), none, .mv (.t 28)⟩])))
def b_gatepostref01_Trim_0 (L : FuncId → List V → V → Prop) (K : V → Heap → Prop) (N0 : Env → Heap → Prop) (e : Env) (h : Heap) : Prop :=
    (wi F L (.len 0 (.c (e 0))) E0 h fun v14 h =>
    (wi F L (.bin .gtr (.c v14) (.c (.int .i64 0))) E0 h fun v15 h =>
    (wg v15 true (wi F L (.mv (.c (e 0))) E0 h) h fun v17 h =>
    (wg v15 true (wi F L (.mv (.c (e 0))) E0 h) h fun v18 h =>
    (wg v15 true (wi F L (.len 0 (.c v18)) E0 h) h fun v19 h =>
    (wg v15 true (wi F L (.bin .sub (.c v19) (.c (.int .i64 1))) E0 h) h fun v20 h =>
    (wg v15 true (wi F L (.ixStr (.c v17) (.c v20)) E0 h) h fun v21 h =>
    (wg v15 true (wi F L (.call i_gatepostref01_blank [(.c v21)]) E0 h) h fun v22 h =>
    (wi F L (.pick (.c v15) (.c v22) (.c (.bool false))) E0 h fun v23 h =>
    (wb v23
    (k_gatepostref01_Trim_2 L K N0 (upd (upd (upd (upd (upd (upd (upd (upd (upd (upd (upd e 13 (e 0)) 14 v14) 15 v15) 16 v15) 17 v17) 18 v18) 19 v19) 20 v20) 21 v21) 22 v22) 23 v23) (e 0) h)
    (k_gatepostref01_Trim_1 L K (e 0) h)))))))))))
theorem l_gatepostref01_Trim_0 {L : FuncId → List V → V → Prop} {K : V → Heap → Prop} (I : Nat → Env → Heap → Prop) (hr : ∀ n e h, I n e h → b_gatepostref01_Trim_0 L K (fun e' h' => ∃ m, m < n ∧ I m e' h') e h) {n : Nat} {e : Env} {h : Heap} (hi : I n e h) : Wl F L lc_gatepostref01_Trim_0 (q_gatepostref01_Trim_0 L K) e h :=
  wloopp (b := b_gatepostref01_Trim_0 L K) I (fun _ _ _ => by kernel_rfl) hr hi
def k_gatepostref01_Trim_0 (L : FuncId → List V → V → Prop) (K : V → Heap → Prop) (e : Env) (h : Heap) : Prop :=
    (Wl F L lc_gatepostref01_Trim_0 (q_gatepostref01_Trim_0 L K) e h)
def k_gatepostref01_Trim_3 (L : FuncId → List V → V → Prop) (K : V → Heap → Prop) (N0 : Env → Heap → Prop) (e : Env) (v0 : V) (h : Heap) : Prop :=
    (wi F L (.slstr (.c v0) (some (.c (.int .i64 1))) none) E0 h fun v12 h =>
    (N0 (upd (upd (upd e 11 v0) 12 v12) 0 v12) h))
def q_gatepostref01_Trim_1 (L : FuncId → List V → V → Prop) (K : V → Heap → Prop) : X → Env → Heap → Prop := (fun x => (seqX (fun e h => k_gatepostref01_Trim_0 L K e  h) (retX c_gatepostref01_Trim.results K)) (X.out 0 x))
def lc_gatepostref01_Trim_1 : C :=
  (.seq (.seq (.region [⟨(some 3), none, .mv (.t 0)⟩, ⟨(some 4), none, .len 0 (.t 3)⟩, ⟨(some 5), none, .bin .gtr (.t 4) (.c (.int .i64 0))⟩, ⟨(some 6), none, .mv (.t 5)⟩, ⟨(some 7), (some (6, true)), .mv (.t 0)⟩, ⟨(some 8), (some (6, true)), .ixStr (.t 7) (.c (.int .i64 0))⟩, ⟨(some 9), (some (6, true)), .call i_gatepostref01_blank [(.t 8)]⟩, ⟨(some 10), none, .pick (.t 6) (.t 9) (.c (.bool false))⟩])
  (.cond (.t 10)
    .skip
    (.exit 0)))
  (.block 1 (.region [⟨(some 11), none, .mv (.t 0)⟩, ⟨(some 12), none, .slstr (.t 11) (some (.c (.int .i64 1))) none⟩, ⟨(some 0), none, .mv (.t 12)⟩])))
def b_gatepostref01_Trim_1 (L : FuncId → List V → V → Prop) (K : V → Heap → Prop) (N0 : Env → Heap → Prop) (e : Env) (h : Heap) : Prop :=
    (wi F L (.len 0 (.c (e 0))) E0 h fun v4 h =>
    (wi F L (.bin .gtr (.c v4) (.c (.int .i64 0))) E0 h fun v5 h =>
    (wg v5 true (wi F L (.mv (.c (e 0))) E0 h) h fun v7 h =>
    (wg v5 true (wi F L (.ixStr (.c v7) (.c (.int .i64 0))) E0 h) h fun v8 h =>
    (wg v5 true (wi F L (.call i_gatepostref01_blank [(.c v8)]) E0 h) h fun v9 h =>
    (wi F L (.pick (.c v5) (.c v9) (.c (.bool false))) E0 h fun v10 h =>
    (wb v10
    (k_gatepostref01_Trim_3 L K N0 (upd (upd (upd (upd (upd (upd (upd (upd e 3 (e 0)) 4 v4) 5 v5) 6 v5) 7 v7) 8 v8) 9 v9) 10 v10) (e 0) h)
    (k_gatepostref01_Trim_0 L K (upd (upd (upd (upd (upd (upd (upd (upd e 3 (e 0)) 4 v4) 5 v5) 6 v5) 7 v7) 8 v8) 9 v9) 10 v10)  h))))))))
theorem l_gatepostref01_Trim_1 {L : FuncId → List V → V → Prop} {K : V → Heap → Prop} (I : Nat → Env → Heap → Prop) (hr : ∀ n e h, I n e h → b_gatepostref01_Trim_1 L K (fun e' h' => ∃ m, m < n ∧ I m e' h') e h) {n : Nat} {e : Env} {h : Heap} (hi : I n e h) : Wl F L lc_gatepostref01_Trim_1 (q_gatepostref01_Trim_1 L K) e h :=
  wloopp (b := b_gatepostref01_Trim_1 L K) I (fun _ _ _ => by kernel_rfl) hr hi
def p_gatepostref01_Trim (L : FuncId → List V → V → Prop) (K : V → Heap → Prop) (a0 : V) (h : Heap) : Prop :=
    (Wl F L lc_gatepostref01_Trim_1 (q_gatepostref01_Trim_1 L K) (upd (enterE [a0]) 2 (.str [])) h)
theorem run_gatepostref01_Trim {L : FuncId → List V → V → Prop} {K : V → Heap → Prop} {a0 : V} {h : Heap} (hp : p_gatepostref01_Trim L K a0 h) : Cf F L i_gatepostref01_Trim [a0] h K :=
  wcallp F_gatepostref01_Trim (show 1 ≤ 30 by decide) (p := p_gatepostref01_Trim L K a0 h) (by kernel_rfl) hp
def k_strings_Trim_2 (L : FuncId → List V → V → Prop) (K : V → Heap → Prop) (v0 v1 : V) (h : Heap) : Prop :=
    (wi F L (.call i_strings_trimRightUnicode [(.c v0), (.c v1)]) E0 h fun v40 h =>
    (wi F L (.call i_strings_trimLeftUnicode [(.c v40), (.c v1)]) E0 h fun v42 h =>
    (∃ v, some v42 = some v ∧ K v h)))
def k_strings_Trim_1 (L : FuncId → List V → V → Prop) (K : V → Heap → Prop) (v0 v1 : V) (h : Heap) : Prop :=
    (wi F L (.call i_strings_makeASCIISet [(.c v1)]) E0 h fun v31 h =>
    (wi F L (.ext 0 (.c v31)) E0 h fun v32 h =>
    (wi F L (.ext 1 (.c v31)) E0 h fun v33 h =>
    (wi F L (.boxz (List.replicate 256 (.bool false))) E0 h fun v5 h =>
    (wi F L (.store 256 (.c v5) (.c v32)) E0 h fun _ h =>
    (wb v33
    (wi F L (.call i_strings_trimRightASCII [(.c v0), (.c v5)]) E0 h fun v36 h =>
    (wi F L (.call i_strings_trimLeftASCII [(.c v36), (.c v5)]) E0 h fun v37 h =>
    (∃ v, some v37 = some v ∧ K v h)))
    (k_strings_Trim_2 L K v0 v1 h)))))))
def k_strings_Trim_0 (L : FuncId → List V → V → Prop) (K : V → Heap → Prop) (v0 v1 : V) (h : Heap) : Prop :=
    (wi F L (.len 0 (.c v1)) E0 h fun v15 h =>
    (wi F L (.bin .eql (.c v15) (.c (.int .i64 1))) E0 h fun v16 h =>
    (wg v16 true (wi F L (.mv (.c v1)) E0 h) h fun v18 h =>
    (wg v16 true (wi F L (.ixStr (.c v18) (.c (.int .i64 0))) E0 h) h fun v19 h =>
    (wg v16 true (wi F L (.bin .lss (.c v19) (.c (.int .u8 128))) E0 h) h fun v20 h =>
    (wi F L (.pick (.c v16) (.c v20) (.c (.bool false))) E0 h fun v21 h =>
    (wb v21
    (wi F L (.ixStr (.c v1) (.c (.int .i64 0))) E0 h fun v24 h' => Ext h h' ∧
    (wi F L (.call i_strings_trimRightByte [(.c v0), (.c v24)]) E0 h' fun v25 h => Ext h' h ∧
    (wi F L (.ixStr (.c v1) (.c (.int .i64 0))) E0 h fun v27 h' => Ext h h' ∧
    (wi F L (.call i_strings_trimLeftByte [(.c v25), (.c v27)]) E0 h' fun v28 h =>
    (∃ v, some v28 = some v ∧ K v h)))))
    (k_strings_Trim_1 L K v0 v1 h))))))))
def p_strings_Trim (L : FuncId → List V → V → Prop) (K : V → Heap → Prop) (a0 a1 : V) (h : Heap) : Prop :=
    (wi F L (.bin .eql (.c a0) (.c (.str []))) E0 h fun v8 h =>
    (wg v8 false (wi F L (.mv (.c a1)) E0 h) h fun v10 h =>
    (wg v8 false (wi F L (.bin .eql (.c v10) (.c (.str []))) E0 h) h fun v11 h =>
    (wi F L (.pick (.c v8) (.c (.bool true)) (.c v11)) E0 h fun v12 h =>
    (wb v12
    (∃ v, some a0 = some v ∧ K v h)
    (k_strings_Trim_0 L K a0 a1 h))))))
theorem run_strings_Trim {L : FuncId → List V → V → Prop} {K : V → Heap → Prop} {a0 a1 : V} {h : Heap} (hp : p_strings_Trim L K a0 a1 h) : Cf F L i_strings_Trim [a0, a1] h K :=
  wcallp F_strings_Trim (show 2 ≤ 43 by decide) (p := p_strings_Trim L K a0 a1 h) (by kernel_rfl) hp
def p_token_marks (L : FuncId → List V → V → Prop) (K : V → Heap → Prop) (h : Heap) : Prop :=
    (wi F L (.boxz [(.int .u8 0), (.int .u8 0), (.int .u8 0), (.int .u8 0), (.int .u8 0), (.int .u8 0), (.int .u8 0), (.int .u8 0), (.int .u8 0), (.int .u8 0), (.int .u8 0), (.int .u8 0), (.int .u8 0), (.int .u8 0), (.int .u8 0)]) E0 h fun v0 h =>
    (wi F L (.build [(.int .u8 0), (.int .u8 0), (.int .u8 0), (.int .u8 0), (.int .u8 0), (.int .u8 0), (.int .u8 0), (.int .u8 0), (.int .u8 0), (.int .u8 0), (.int .u8 0), (.int .u8 0), (.int .u8 0), (.int .u8 0), (.int .u8 0)] [(0, 1, (.c (.int .u8 33))), (1, 1, (.c (.int .u8 35))), (2, 1, (.c (.int .u8 36))), (3, 1, (.c (.int .u8 37))), (4, 1, (.c (.int .u8 38))), (5, 1, (.c (.int .u8 39))), (6, 1, (.c (.int .u8 42))), (7, 1, (.c (.int .u8 43))), (8, 1, (.c (.int .u8 45))), (9, 1, (.c (.int .u8 46))), (10, 1, (.c (.int .u8 94))), (11, 1, (.c (.int .u8 95))), (12, 1, (.c (.int .u8 96))), (13, 1, (.c (.int .u8 124))), (14, 1, (.c (.int .u8 126)))]) E0 h fun v1 h =>
    (wi F L (.store 15 (.c v0) (.c v1)) E0 h fun _ h =>
    (∃ v, resultsV h (enterE [v0]) [.cell 0 true 15] = some v ∧ K v h))))
theorem run_token_marks {L : FuncId → List V → V → Prop} {K : V → Heap → Prop} {h : Heap} (hp : p_token_marks L K  h) : Cf F L i_token_marks [] h K :=
  wcallp F_token_marks (show 0 ≤ 2 by decide) (p := p_token_marks L K  h) (by kernel_rfl) hp
def p_gatepostref01_blank (L : FuncId → List V → V → Prop) (K : V → Heap → Prop) (a0 : V) (h : Heap) : Prop :=
    (wi F L (.bin .eql (.c a0) (.c (.int .u8 32))) E0 h fun v4 h =>
    (wg v4 false (wi F L (.mv (.c a0)) E0 h) h fun v6 h =>
    (wg v4 false (wi F L (.bin .eql (.c v6) (.c (.int .u8 9))) E0 h) h fun v7 h =>
    (wi F L (.pick (.c v4) (.c (.bool true)) (.c v7)) E0 h fun v8 h =>
    (∃ v, some v8 = some v ∧ K v h)))))
theorem run_gatepostref01_blank {L : FuncId → List V → V → Prop} {K : V → Heap → Prop} {a0 : V} {h : Heap} (hp : p_gatepostref01_blank L K a0 h) : Cf F L i_gatepostref01_blank [a0] h K :=
  wcallp F_gatepostref01_blank (show 1 ≤ 9 by decide) (p := p_gatepostref01_blank L K a0 h) (by kernel_rfl) hp
def k_strings_makeASCIISet_0 (L : FuncId → List V → V → Prop) (K : V → Heap → Prop) (v2 : V) (h : Heap) : Prop :=
    (wi F L (.load true 256 (.c v2)) E0 h fun v20 h =>
    (wi F L (.store 256 (.c v2) (.c v20)) E0 h fun _ h =>
    (∃ v, resultsV h (enterE [v2, (.bool true)]) [.cell 0 true 256, .tmp 1] = some v ∧ K v h)))
def k_strings_makeASCIISet_2 (L : FuncId → List V → V → Prop) (K : V → Heap → Prop) (N0 : Env → Heap → Prop) (e : Env) (v4 : V) (h : Heap) : Prop :=
    (wi F L (.bin .add (.c v4) (.c (.int .i64 1))) E0 h fun v11 h =>
    (N0 (upd (upd (upd e 10 v4) 11 v11) 4 v11) h))
def k_strings_makeASCIISet_3 (L : FuncId → List V → V → Prop) (K : V → Heap → Prop) (N0 : Env → Heap → Prop) (e : Env) (v2 v4 v5 : V) (h : Heap) : Prop :=
    (wi F L (.ixaArr 256 1 (.c v2) (.c v5)) E0 h fun v19 h =>
    (wi F L (.store 1 (.c v19) (.c (.bool true))) E0 h fun _ h =>
    (k_strings_makeASCIISet_2 L K N0 (upd (upd e 18 v5) 19 v19) v4 h)))
def k_strings_makeASCIISet_1 (L : FuncId → List V → V → Prop) (K : V → Heap → Prop) (N0 : Env → Heap → Prop) (e : Env) (v0 v2 v4 : V) (h : Heap) : Prop :=
    (wi F L (.ixStr (.c v0) (.c v4)) E0 h fun v14 h =>
    (wi F L (.bin .geq (.c v14) (.c (.int .u8 128))) E0 h fun v16 h =>
    (wb v16
    (wi F L (.load true 256 (.c v2)) E0 h fun v17 h =>
    (wi F L (.store 256 (.c v2) (.c v17)) E0 h fun _ h =>
    (∃ v, resultsV h (enterE [v2, (.bool false)]) [.cell 0 true 256, .tmp 1] = some v ∧ K v h)))
    (k_strings_makeASCIISet_3 L K N0 (upd (upd (upd (upd (upd (upd e 12 v0) 13 v4) 14 v14) 5 v14) 15 v14) 16 v16) v2 v4 v14 h))))
def q_strings_makeASCIISet_0 (L : FuncId → List V → V → Prop) (K : V → Heap → Prop) : X → Env → Heap → Prop := (fun x => (seqX (fun e h => k_strings_makeASCIISet_0 L K (e 2) h) (retX c_strings_makeASCIISet.results K)) (X.out 0 x))
def lc_strings_makeASCIISet_0 : C :=
  (.seq (.seq (.region [⟨(some 6), none, .mv (.t 4)⟩, ⟨(some 7), none, .mv (.t 0)⟩, ⟨(some 8), none, .len 0 (.t 7)⟩, ⟨(some 9), none, .bin .lss (.t 6) (.t 8)⟩])
  (.cond (.t 9)
    .skip
    (.exit 0)))
  (.seq (.block 1 (.seq (.region [⟨(some 12), none, .mv (.t 0)⟩, ⟨(some 13), none, .mv (.t 4)⟩, ⟨(some 14), none, .ixStr (.t 12) (.t 13)⟩, ⟨(some 5), none, .mv (.t 14)⟩])
  (.seq (.seq (.region [⟨(some 15), none, .mv (.t 5)⟩, ⟨(some 16), none, .bin .geq (.t 15) (.c (.int .u8 128))⟩])
  (.cond (.t 16)
    (.seq (.region [⟨(some 17), none, .load true 256 (.t 2)⟩, ⟨none, none, .store 256 (.t 2) (.t 17)⟩, ⟨(some 3), none, .mv (.c (.bool false))⟩])
    .ret)
    .skip))
  (.region [⟨(some 18), none, .mv (.t 5)⟩, ⟨(some 19), none, .ixaArr 256 1 (.t 2) (.t 18)⟩, ⟨none, none, .store 1 (.t 19) (.c (.bool true))⟩]))))
  (.region [⟨(some 10), none, .mv (.t 4)⟩, ⟨(some 11), none, .bin .add (.t 10) (.c (.int .i64 1))⟩, ⟨(some 4), none, .mv (.t 11)⟩])))
def b_strings_makeASCIISet_0 (L : FuncId → List V → V → Prop) (K : V → Heap → Prop) (N0 : Env → Heap → Prop) (e : Env) (h : Heap) : Prop :=
    (wi F L (.len 0 (.c (e 0))) E0 h fun v8 h =>
    (wi F L (.bin .lss (.c (e 4)) (.c v8)) E0 h fun v9 h =>
    (wb v9
    (k_strings_makeASCIISet_1 L K N0 (upd (upd (upd (upd e 6 (e 4)) 7 (e 0)) 8 v8) 9 v9) (e 0) (e 2) (e 4) h)
    (k_strings_makeASCIISet_0 L K (e 2) h))))
theorem l_strings_makeASCIISet_0 {L : FuncId → List V → V → Prop} {K : V → Heap → Prop} (I : Nat → Env → Heap → Prop) (hr : ∀ n e h, I n e h → b_strings_makeASCIISet_0 L K (fun e' h' => ∃ m, m < n ∧ I m e' h') e h) {n : Nat} {e : Env} {h : Heap} (hi : I n e h) : Wl F L lc_strings_makeASCIISet_0 (q_strings_makeASCIISet_0 L K) e h :=
  wloopp (b := b_strings_makeASCIISet_0 L K) I (fun _ _ _ => by kernel_rfl) hr hi
def p_strings_makeASCIISet (L : FuncId → List V → V → Prop) (K : V → Heap → Prop) (a0 : V) (h : Heap) : Prop :=
    (wi F L (.boxz (List.replicate 256 (.bool false))) E0 h fun v2 h =>
    (Wl F L lc_strings_makeASCIISet_0 (q_strings_makeASCIISet_0 L K) (upd (upd (upd (enterE [a0]) 2 v2) 3 (.bool false)) 4 (.int .i64 0)) h))
theorem run_strings_makeASCIISet {L : FuncId → List V → V → Prop} {K : V → Heap → Prop} {a0 : V} {h : Heap} (hp : p_strings_makeASCIISet L K a0 h) : Cf F L i_strings_makeASCIISet [a0] h K :=
  wcallp F_strings_makeASCIISet (show 1 ≤ 21 by decide) (p := p_strings_makeASCIISet L K a0 h) (by kernel_rfl) hp
def k_strings_trimLeftASCII_0 (L : FuncId → List V → V → Prop) (K : V → Heap → Prop) (v0 : V) (h : Heap) : Prop :=
    (∃ v, some v0 = some v ∧ K v h)
def k_strings_trimLeftASCII_2 (L : FuncId → List V → V → Prop) (K : V → Heap → Prop) (N0 : Env → Heap → Prop) (e : Env) (v0 : V) (h : Heap) : Prop :=
    (wi F L (.slstr (.c v0) (some (.c (.int .i64 1))) none) E0 h fun v14 h =>
    (N0 (upd (upd (upd e 13 v0) 14 v14) 0 v14) h))
def k_strings_trimLeftASCII_1 (L : FuncId → List V → V → Prop) (K : V → Heap → Prop) (N0 : Env → Heap → Prop) (e : Env) (v0 v1 : V) (h : Heap) : Prop :=
    (wi F L (.ixStr (.c v0) (.c (.int .i64 0))) E0 h fun v10 h =>
    (wi F L (.call i___strings_asciiSet__contains [(.c v1), (.c v10)]) E0 h fun v11 h =>
    (wi F L (.un .not (.c v11)) E0 h fun v12 h =>
    (wb v12
    (k_strings_trimLeftASCII_0 L K v0 h)
    (k_strings_trimLeftASCII_2 L K N0 (upd (upd (upd (upd (upd e 8 v1) 9 v0) 10 v10) 11 v11) 12 v12) v0 h)))))
def q_strings_trimLeftASCII_0 (L : FuncId → List V → V → Prop) (K : V → Heap → Prop) : X → Env → Heap → Prop := (fun x => (seqX (fun e h => k_strings_trimLeftASCII_0 L K (e 0) h) (retX c_strings_trimLeftASCII.results K)) (X.out 0 x))
def lc_strings_trimLeftASCII_0 : C :=
  (.seq (.seq (.region [⟨(some 5), none, .mv (.t 0)⟩, ⟨(some 6), none, .len 0 (.t 5)⟩, ⟨(some 7), none, .bin .gtr (.t 6) (.c (.int .i64 0))⟩])
  (.cond (.t 7)
    .skip
    (.exit 0)))
  (.block 1 (.seq (.seq (.region [⟨(some 8), none, .mv (.t 1)⟩, ⟨(some 9), none, .mv (.t 0)⟩, ⟨(some 10), none, .ixStr (.t 9) (.c (.int .i64 0))⟩, ⟨(some 11), none, .call i___strings_asciiSet__contains [(.t 8), (.t 10)]⟩, ⟨(some 12), none, .un .not (.t 11)⟩])
  (.cond (.t 12)
    (.exit 0)
    .skip))
  (.region [⟨(some 13), none, .mv (.t 0)⟩, ⟨(some 14), none, .slstr (.t 13) (some (.c (.int .i64 1))) none⟩, ⟨(some 0), none, .mv (.t 14)⟩]))))
def b_strings_trimLeftASCII_0 (L : FuncId → List V → V → Prop) (K : V → Heap → Prop) (N0 : Env → Heap → Prop) (e : Env) (h : Heap) : Prop :=
    (wi F L (.len 0 (.c (e 0))) E0 h fun v6 h =>
    (wi F L (.bin .gtr (.c v6) (.c (.int .i64 0))) E0 h fun v7 h =>
    (wb v7
    (k_strings_trimLeftASCII_1 L K N0 (upd (upd (upd e 5 (e 0)) 6 v6) 7 v7) (e 0) (e 1) h)
    (k_strings_trimLeftASCII_0 L K (e 0) h))))
theorem l_strings_trimLeftASCII_0 {L : FuncId → List V → V → Prop} {K : V → Heap → Prop} (I : Nat → Env → Heap → Prop) (hr : ∀ n e h, I n e h → b_strings_trimLeftASCII_0 L K (fun e' h' => ∃ m, m < n ∧ I m e' h') e h) {n : Nat} {e : Env} {h : Heap} (hi : I n e h) : Wl F L lc_strings_trimLeftASCII_0 (q_strings_trimLeftASCII_0 L K) e h :=
  wloopp (b := b_strings_trimLeftASCII_0 L K) I (fun _ _ _ => by kernel_rfl) hr hi
def p_strings_trimLeftASCII (L : FuncId → List V → V → Prop) (K : V → Heap → Prop) (a0 a1 : V) (h : Heap) : Prop :=
    (Wl F L lc_strings_trimLeftASCII_0 (q_strings_trimLeftASCII_0 L K) (upd (enterE [a0, a1]) 4 (.str [])) h)
theorem run_strings_trimLeftASCII {L : FuncId → List V → V → Prop} {K : V → Heap → Prop} {a0 a1 : V} {h : Heap} (hp : p_strings_trimLeftASCII L K a0 a1 h) : Cf F L i_strings_trimLeftASCII [a0, a1] h K :=
  wcallp F_strings_trimLeftASCII (show 2 ≤ 16 by decide) (p := p_strings_trimLeftASCII L K a0 a1 h) (by kernel_rfl) hp
def k_strings_trimRightASCII_0 (L : FuncId → List V → V → Prop) (K : V → Heap → Prop) (v0 : V) (h : Heap) : Prop :=
    (∃ v, some v0 = some v ∧ K v h)
def k_strings_trimRightASCII_2 (L : FuncId → List V → V → Prop) (K : V → Heap → Prop) (N0 : Env → Heap → Prop) (e : Env) (v0 : V) (h : Heap) : Prop :=
    (wi F L (.len 0 (.c v0)) E0 h fun v18 h =>
    (wi F L (.bin .sub (.c v18) (.c (.int .i64 1))) E0 h fun v19 h =>
    (wi F L (.slstr (.c v0) none (some (.c v19))) E0 h fun v20 h =>
    (N0 (upd (upd (upd (upd (upd (upd e 16 v0) 17 v0) 18 v18) 19 v19) 20 v20) 0 v20) h))))
def k_strings_trimRightASCII_1 (L : FuncId → List V → V → Prop) (K : V → Heap → Prop) (N0 : Env → Heap → Prop) (e : Env) (v0 v1 : V) (h : Heap) : Prop :=
    (wi F L (.len 0 (.c v0)) E0 h fun v11 h =>
    (wi F L (.bin .sub (.c v11) (.c (.int .i64 1))) E0 h fun v12 h =>
    (wi F L (.ixStr (.c v0) (.c v12)) E0 h fun v13 h =>
    (wi F L (.call i___strings_asciiSet__contains [(.c v1), (.c v13)]) E0 h fun v14 h =>
    (wi F L (.un .not (.c v14)) E0 h fun v15 h =>
    (wb v15
    (k_strings_trimRightASCII_0 L K v0 h)
    (k_strings_trimRightASCII_2 L K N0 (upd (upd (upd (upd (upd (upd (upd (upd e 8 v1) 9 v0) 10 v0) 11 v11) 12 v12) 13 v13) 14 v14) 15 v15) v0 h)))))))
def q_strings_trimRightASCII_0 (L : FuncId → List V → V → Prop) (K : V → Heap → Prop) : X → Env → Heap → Prop := (fun x => (seqX (fun e h => k_strings_trimRightASCII_0 L K (e 0) h) (retX c_strings_trimRightASCII.results K)) (X.out 0 x))
def lc_strings_trimRightASCII_0 : C :=
  (.seq (.seq (.region [⟨(some 5), none, .mv (.t 0)⟩, ⟨(some 6), none, .len 0 (.t 5)⟩, ⟨(some 7), none, .bin .gtr (.t 6) (.c (.int .i64 0))⟩])
  (.cond (.t 7)
    .skip
    (.exit 0)))
  (.block 1 (.seq (.seq (.region [⟨(some 8), none, .mv (.t 1)⟩, ⟨(some 9), none, .mv (.t 0)⟩, ⟨(some 10), none, .mv (.t 0)⟩, ⟨(some 11), none, .len 0 (.t 10)⟩, ⟨(some 12), none, .bin .sub (.t 11) (.c (.int .i64 1))⟩, ⟨(some 13), none, .ixStr (.t 9) (.t 12)⟩, ⟨(some 14), none, .call i___strings_asciiSet__contains [(.t 8), (.t 13)]⟩, ⟨(some 15), none, .un .not (.t 14)⟩])
  (.cond (.t 15)
    (.exit 0)
    .skip))
  (.region [⟨(some 16), none, .mv (.t 0)⟩, ⟨(some 17), none, .mv (.t 0)⟩, ⟨(some 18), none, .len 0 (.t 17)⟩, ⟨(some 19), none, .bin .sub (.t 18) (.c (.int .i64 1))⟩, ⟨(some 20), none, .slstr (.t 16) none (some (.t 19))⟩, ⟨(some 0), none, .mv (.t 20)⟩]))))
def b_strings_trimRightASCII_0 (L : FuncId → List V → V → Prop) (K : V → Heap → Prop) (N0 : Env → Heap → Prop) (e : Env) (h : Heap) : Prop :=
    (wi F L (.len 0 (.c (e 0))) E0 h fun v6 h =>
    (wi F L (.bin .gtr (.c v6) (.c (.int .i64 0))) E0 h fun v7 h =>
    (wb v7
    (k_strings_trimRightASCII_1 L K N0 (upd (upd (upd e 5 (e 0)) 6 v6) 7 v7) (e 0) (e 1) h)
    (k_strings_trimRightASCII_0 L K (e 0) h))))
theorem l_strings_trimRightASCII_0 {L : FuncId → List V → V → Prop} {K : V → Heap → Prop} (I : Nat → Env → Heap → Prop) (hr : ∀ n e h, I n e h → b_strings_trimRightASCII_0 L K (fun e' h' => ∃ m, m < n ∧ I m e' h') e h) {n : Nat} {e : Env} {h : Heap} (hi : I n e h) : Wl F L lc_strings_trimRightASCII_0 (q_strings_trimRightASCII_0 L K) e h :=
  wloopp (b := b_strings_trimRightASCII_0 L K) I (fun _ _ _ => by kernel_rfl) hr hi
def p_strings_trimRightASCII (L : FuncId → List V → V → Prop) (K : V → Heap → Prop) (a0 a1 : V) (h : Heap) : Prop :=
    (Wl F L lc_strings_trimRightASCII_0 (q_strings_trimRightASCII_0 L K) (upd (enterE [a0, a1]) 4 (.str [])) h)
theorem run_strings_trimRightASCII {L : FuncId → List V → V → Prop} {K : V → Heap → Prop} {a0 a1 : V} {h : Heap} (hp : p_strings_trimRightASCII L K a0 a1 h) : Cf F L i_strings_trimRightASCII [a0, a1] h K :=
  wcallp F_strings_trimRightASCII (show 2 ≤ 22 by decide) (p := p_strings_trimRightASCII L K a0 a1 h) (by kernel_rfl) hp
def p___strings_asciiSet__contains (L : FuncId → List V → V → Prop) (K : V → Heap → Prop) (a0 a1 : V) (h : Heap) : Prop :=
    (wi F L (.nilck (.c a0)) E0 h fun v7 h =>
    (wi F L (.ixaArr 256 1 (.c v7) (.c a1)) E0 h fun v8 h =>
    (wi F L (.load false 1 (.c v8)) E0 h fun v9 h =>
    (∃ v, some v9 = some v ∧ K v h))))
theorem run___strings_asciiSet__contains {L : FuncId → List V → V → Prop} {K : V → Heap → Prop} {a0 a1 : V} {h : Heap} (hp : p___strings_asciiSet__contains L K a0 a1 h) : Cf F L i___strings_asciiSet__contains [a0, a1] h K :=
  wcallp F___strings_asciiSet__contains (show 2 ≤ 10 by decide) (p := p___strings_asciiSet__contains L K a0 a1 h) (by kernel_rfl) hp
theorem hF : ∀ f fn, F f = some fn → compF Tryd.prog f = some fn := lookup_all ⟨kc_gatepostlaw11_VaryParts, kc_gatepostlaw11_VaryOrder, kc_gatepostlaw11_VaryTells, kc_vary_Same, kc_gatepostlaw11_few, kc_gatepostlaw11_short, kc_gatepostref01_Is, kc_gatepostref04_Get, kc_vary_Key, kc_vary_Names, kc_gatepostref11_Names, kc_gatepostref11_Key, kc_gatepostref01_tchar, kc_gatepostref01_Same, kc_vary_Key_1, kc_field_Get, kc_field_Names, kc_gatepostref04_Names, kc_gatepostref11_digits, kc_gatepostref01_Lower, kc_token_Same, kc_token_Split, kc_token_Is, kc_token_Lower, kc_gatepostref01_Split, kc_token_Split_1, kc_token_Trim, kc_token_all, kc_token_inToken, kc_gatepostref01_Trim, kc_strings_Trim, kc_token_marks, kc_gatepostref01_blank, kc_strings_makeASCIISet, kc_strings_trimLeftASCII, kc_strings_trimRightASCII, kc___strings_asciiSet__contains, trivial⟩
theorem hm : Tryd.prog.follows .mixedOrders = true := by kernel_rfl
end Go.Proofs.YtfihnnebffkbfaaDoor.Vh
end
