/- The functions of a seat, compiled for the small machine. Printed by Print.lean. -/
import Derived.Test.YtgplldjcopfjpaaDoorProg
import Derived.Test.YtgplldjcopfjpaaDoorPk2
import Derived.KernelRfl
section
set_option maxRecDepth 100000
set_option linter.unusedVariables false
namespace Go.Proofs.YtgplldjcopfjpaaDoor.Vh
open Go.Vm
def i_gatepostlaw08_ControlJoins : FuncId := 3
def i_gatepostlaw08_ControlNumbers : FuncId := 4
def i_gatepostlaw08_ControlTells : FuncId := 5
def i_control_Parse : FuncId := 6
def i_gatepostlaw08_less : FuncId := 7
def i_gatepostlaw08_number : FuncId := 8
def i_gatepostref08_Parse : FuncId := 9
def i_control_Of : FuncId := 10
def i_gatepostref08_Of : FuncId := 11
def i_control_nothing : FuncId := 12
def i_token_Split : FuncId := 13
def i_control_rules : FuncId := 14
def i_token_Pair : FuncId := 15
def i_token_Lower : FuncId := 16
def i__gatepost_control_rule__value : FuncId := 17
def i_gatepostref08_None : FuncId := 18
def i_gatepostref01_Split : FuncId := 19
def i_gatepostref01_Pair : FuncId := 20
def i_gatepostref01_Number : FuncId := 21
def i_gatepostref01_Lower : FuncId := 22
def i_gatepostref08_least : FuncId := 23
def i_field_Get : FuncId := 24
def i_slices_Contains___string_string_ : FuncId := 25
def i_gatepostref04_Get : FuncId := 26
def i_token_Split_1 : FuncId := 27
def i_token_Trim : FuncId := 28
def i_control_rules_1 : FuncId := 29
def i_control_rules_2 : FuncId := 30
def i_control_rules_3 : FuncId := 31
def i_control_rules_4 : FuncId := 32
def i_control_rules_5 : FuncId := 33
def i_control_rules_6 : FuncId := 34
def i_control_rules_7 : FuncId := 35
def i_control_rules_8 : FuncId := 36
def i_control_rules_9 : FuncId := 37
def i_control_rules_10 : FuncId := 38
def i_control_rules_11 : FuncId := 39
def i_control_rules_12 : FuncId := 40
def i_control_rules_13 : FuncId := 41
def i_control_rules_14 : FuncId := 42
def i_control_rules_15 : FuncId := 43
def i_strings_Cut : FuncId := 44
def i_token_Is : FuncId := 45
def i_token_unquote : FuncId := 46
def i_token_Number : FuncId := 47
def i_gatepostref01_Trim : FuncId := 48
def i_gatepostref01_Is : FuncId := 49
def i_gatepostref01_unquote : FuncId := 50
def i_token_Same : FuncId := 51
def i_strings_Join : FuncId := 52
def i_slices_Index___string_string_ : FuncId := 53
def i_gatepostref01_Same : FuncId := 54
def i_strings_Trim : FuncId := 55
def i_internal_stringslite_Cut : FuncId := 56
def i_token_all : FuncId := 57
def i_token_inToken : FuncId := 58
def i_strings_CutPrefix : FuncId := 59
def i___strings_Builder__String : FuncId := 60
def i_token_inQuotes : FuncId := 61
def i___strings_Builder__WriteByte : FuncId := 62
def i_token_Number_1 : FuncId := 63
def i_gatepostref01_blank : FuncId := 64
def i_gatepostref01_tchar : FuncId := 65
def i_gatepostref01_text : FuncId := 66
def i_strings_trimLeftByte : FuncId := 69
def i_strings_trimRightByte : FuncId := 70
def i_strings_makeASCIISet : FuncId := 71
def i_strings_trimLeftASCII : FuncId := 72
def i_strings_trimRightASCII : FuncId := 73
def i_strings_trimLeftUnicode : FuncId := 74
def i_strings_trimRightUnicode : FuncId := 75
def i_internal_stringslite_Index : FuncId := 76
def i_token_marks : FuncId := 77
def i___strings_asciiSet__contains : FuncId := 81
/-- gatepost/gatepostlaw08.ControlJoins -/
def c_gatepostlaw08_ControlJoins : FnC := ⟨157, [.tmp 4],
  (.seq (.region [⟨(some 4), none, .mv (.c (.bool false))⟩])
  (.seq (.seq (.region [⟨(some 16), none, .mv (.t 0)⟩, ⟨(some 17), none, .len 0 (.t 16)⟩, ⟨(some 18), none, .mv (.t 1)⟩, ⟨(some 19), none, .len 0 (.t 18)⟩, ⟨(some 20), none, .bin .add (.t 17) (.t 19)⟩, ⟨(some 21), none, .bin .gtr (.t 20) (.c (.int .i64 2000))⟩])
  (.cond (.t 21)
    (.seq (.region [⟨(some 4), none, .mv (.c (.bool true))⟩])
    .ret)
    .skip))
  (.seq (.region [⟨(some 23), none, .call i_control_Parse [(.c (.str [110, 111, 45, 115, 116, 111, 114, 101, 44, 32, 109, 97, 120, 45, 97, 103, 101, 61, 51]))]⟩, ⟨(some 22), none, .mv (.t 23)⟩, ⟨(some 24), none, .ext 0 (.t 22)⟩, ⟨(some 25), none, .ext 1 (.t 22)⟩, ⟨(some 5), none, .boxz [(.bool false), (.bool false), (.bool false), (.bool false), (.bool false), (.bool false), (.bool false), (.int .i64 0), (.int .i64 0), (.int .i64 0), (.int .i64 0), (.int .i64 0), (.int .i64 0)]⟩, ⟨none, none, .store 13 (.t 5) (.t 24)⟩, ⟨(some 6), none, .mv (.t 25)⟩])
  (.seq (.seq (.region [⟨(some 26), none, .mv (.t 6)⟩, ⟨(some 27), none, .un .not (.t 26)⟩, ⟨(some 28), none, .mv (.t 27)⟩, ⟨(some 29), (some (28, false)), .faddr 0 (.t 5)⟩, ⟨(some 30), (some (28, false)), .load false 1 (.t 29)⟩, ⟨(some 31), (some (28, false)), .un .not (.t 30)⟩, ⟨(some 32), none, .pick (.t 28) (.c (.bool true)) (.t 31)⟩, ⟨(some 33), none, .mv (.t 32)⟩, ⟨(some 34), (some (33, false)), .faddr 7 (.t 5)⟩, ⟨(some 35), (some (33, false)), .load false 1 (.t 34)⟩, ⟨(some 36), (some (33, false)), .bin .neq (.t 35) (.c (.int .i64 3))⟩, ⟨(some 37), none, .pick (.t 33) (.c (.bool true)) (.t 36)⟩])
  (.cond (.t 37)
    (.seq (.region [⟨(some 4), none, .mv (.c (.bool false))⟩])
    .ret)
    .skip))
  (.seq (.region [⟨(some 39), none, .mv (.t 0)⟩, ⟨(some 40), none, .call i_control_Parse [(.t 39)]⟩, ⟨(some 38), none, .mv (.t 40)⟩, ⟨(some 41), none, .ext 0 (.t 38)⟩, ⟨(some 42), none, .ext 1 (.t 38)⟩, ⟨(some 7), none, .boxz [(.bool false), (.bool false), (.bool false), (.bool false), (.bool false), (.bool false), (.bool false), (.int .i64 0), (.int .i64 0), (.int .i64 0), (.int .i64 0), (.int .i64 0), (.int .i64 0)]⟩, ⟨none, none, .store 13 (.t 7) (.t 41)⟩, ⟨(some 8), none, .mv (.t 42)⟩])
  (.seq (.region [⟨(some 44), none, .mv (.t 1)⟩, ⟨(some 45), none, .call i_control_Parse [(.t 44)]⟩, ⟨(some 43), none, .mv (.t 45)⟩, ⟨(some 46), none, .ext 0 (.t 43)⟩, ⟨(some 47), none, .ext 1 (.t 43)⟩, ⟨(some 9), none, .boxz [(.bool false), (.bool false), (.bool false), (.bool false), (.bool false), (.bool false), (.bool false), (.int .i64 0), (.int .i64 0), (.int .i64 0), (.int .i64 0), (.int .i64 0), (.int .i64 0)]⟩, ⟨none, none, .store 13 (.t 9) (.t 46)⟩, ⟨(some 10), none, .mv (.t 47)⟩])
  (.seq (.seq (.region [⟨(some 48), none, .mv (.t 8)⟩, ⟨(some 49), none, .un .not (.t 48)⟩, ⟨(some 50), none, .mv (.t 49)⟩, ⟨(some 51), (some (50, false)), .mv (.t 10)⟩, ⟨(some 52), (some (50, false)), .un .not (.t 51)⟩, ⟨(some 53), none, .pick (.t 50) (.c (.bool true)) (.t 52)⟩])
  (.cond (.t 53)
    (.seq (.region [⟨(some 4), none, .mv (.c (.bool true))⟩])
    .ret)
    .skip))
  (.seq (.region [⟨(some 55), none, .mv (.t 0)⟩, ⟨(some 56), none, .bin .add (.t 55) (.c (.str [44]))⟩, ⟨(some 57), none, .mv (.t 1)⟩, ⟨(some 58), none, .bin .add (.t 56) (.t 57)⟩, ⟨(some 59), none, .call i_control_Parse [(.t 58)]⟩, ⟨(some 54), none, .mv (.t 59)⟩, ⟨(some 60), none, .ext 0 (.t 54)⟩, ⟨(some 61), none, .ext 1 (.t 54)⟩, ⟨(some 11), none, .boxz [(.bool false), (.bool false), (.bool false), (.bool false), (.bool false), (.bool false), (.bool false), (.int .i64 0), (.int .i64 0), (.int .i64 0), (.int .i64 0), (.int .i64 0), (.int .i64 0)]⟩, ⟨none, none, .store 13 (.t 11) (.t 60)⟩, ⟨(some 12), none, .mv (.t 61)⟩])
  (.seq (.region [⟨(some 63), none, .mv (.t 1)⟩, ⟨(some 64), none, .bin .add (.t 63) (.c (.str [32, 44, 32]))⟩, ⟨(some 65), none, .mv (.t 0)⟩, ⟨(some 66), none, .bin .add (.t 64) (.t 65)⟩, ⟨(some 67), none, .call i_control_Parse [(.t 66)]⟩, ⟨(some 62), none, .mv (.t 67)⟩, ⟨(some 68), none, .ext 0 (.t 62)⟩, ⟨(some 69), none, .ext 1 (.t 62)⟩, ⟨(some 13), none, .boxz [(.bool false), (.bool false), (.bool false), (.bool false), (.bool false), (.bool false), (.bool false), (.int .i64 0), (.int .i64 0), (.int .i64 0), (.int .i64 0), (.int .i64 0), (.int .i64 0)]⟩, ⟨none, none, .store 13 (.t 13) (.t 68)⟩, ⟨(some 14), none, .mv (.t 69)⟩])
  (.seq (.dregion [⟨(some 70), none, .faddr 0 (.t 7)⟩, ⟨(some 71), none, .load false 1 (.t 70)⟩, ⟨(some 72), none, .mv (.t 71)⟩, ⟨(some 73), (some (72, false)), .faddr 0 (.t 9)⟩, ⟨(some 74), (some (72, false)), .load false 1 (.t 73)⟩, ⟨(some 75), none, .pick (.t 72) (.c (.bool true)) (.t 74)⟩, ⟨(some 76), none, .faddr 1 (.t 7)⟩, ⟨(some 77), none, .load false 1 (.t 76)⟩, ⟨(some 78), none, .mv (.t 77)⟩, ⟨(some 79), (some (78, false)), .faddr 1 (.t 9)⟩, ⟨(some 80), (some (78, false)), .load false 1 (.t 79)⟩, ⟨(some 81), none, .pick (.t 78) (.c (.bool true)) (.t 80)⟩, ⟨(some 82), none, .faddr 2 (.t 7)⟩, ⟨(some 83), none, .load false 1 (.t 82)⟩, ⟨(some 84), none, .mv (.t 83)⟩, ⟨(some 85), (some (84, false)), .faddr 2 (.t 9)⟩, ⟨(some 86), (some (84, false)), .load false 1 (.t 85)⟩, ⟨(some 87), none, .pick (.t 84) (.c (.bool true)) (.t 86)⟩, ⟨(some 88), none, .faddr 3 (.t 7)⟩, ⟨(some 89), none, .load false 1 (.t 88)⟩, ⟨(some 90), none, .mv (.t 89)⟩, ⟨(some 91), (some (90, false)), .faddr 3 (.t 9)⟩, ⟨(some 92), (some (90, false)), .load false 1 (.t 91)⟩, ⟨(some 93), none, .pick (.t 90) (.c (.bool true)) (.t 92)⟩, ⟨(some 94), none, .faddr 4 (.t 7)⟩, ⟨(some 95), none, .load false 1 (.t 94)⟩, ⟨(some 96), none, .mv (.t 95)⟩, ⟨(some 97), (some (96, false)), .faddr 4 (.t 9)⟩, ⟨(some 98), (some (96, false)), .load false 1 (.t 97)⟩, ⟨(some 99), none, .pick (.t 96) (.c (.bool true)) (.t 98)⟩, ⟨(some 100), none, .faddr 5 (.t 7)⟩, ⟨(some 101), none, .load false 1 (.t 100)⟩, ⟨(some 102), none, .mv (.t 101)⟩, ⟨(some 103), (some (102, false)), .faddr 5 (.t 9)⟩, ⟨(some 104), (some (102, false)), .load false 1 (.t 103)⟩, ⟨(some 105), none, .pick (.t 102) (.c (.bool true)) (.t 104)⟩, ⟨(some 106), none, .faddr 6 (.t 7)⟩, ⟨(some 107), none, .load false 1 (.t 106)⟩, ⟨(some 108), none, .mv (.t 107)⟩, ⟨(some 109), (some (108, false)), .faddr 6 (.t 9)⟩, ⟨(some 110), (some (108, false)), .load false 1 (.t 109)⟩, ⟨(some 111), none, .pick (.t 108) (.c (.bool true)) (.t 110)⟩, ⟨(some 112), none, .faddr 7 (.t 7)⟩, ⟨(some 113), none, .load false 1 (.t 112)⟩, ⟨(some 114), none, .faddr 7 (.t 9)⟩, ⟨(some 115), none, .load false 1 (.t 114)⟩, ⟨(some 116), none, .call i_gatepostlaw08_less [(.t 113), (.t 115)]⟩, ⟨(some 117), none, .faddr 8 (.t 7)⟩, ⟨(some 118), none, .load false 1 (.t 117)⟩, ⟨(some 119), none, .faddr 8 (.t 9)⟩, ⟨(some 120), none, .load false 1 (.t 119)⟩, ⟨(some 121), none, .call i_gatepostlaw08_less [(.t 118), (.t 120)]⟩, ⟨(some 122), none, .faddr 9 (.t 7)⟩, ⟨(some 123), none, .load false 1 (.t 122)⟩, ⟨(some 124), none, .faddr 9 (.t 9)⟩, ⟨(some 125), none, .load false 1 (.t 124)⟩, ⟨(some 126), none, .call i_gatepostlaw08_less [(.t 123), (.t 125)]⟩, ⟨(some 127), none, .faddr 10 (.t 7)⟩, ⟨(some 128), none, .load false 1 (.t 127)⟩, ⟨(some 129), none, .faddr 10 (.t 9)⟩, ⟨(some 130), none, .load false 1 (.t 129)⟩, ⟨(some 131), none, .call i_gatepostlaw08_less [(.t 128), (.t 130)]⟩, ⟨(some 132), none, .faddr 11 (.t 7)⟩, ⟨(some 133), none, .load false 1 (.t 132)⟩, ⟨(some 134), none, .faddr 11 (.t 9)⟩, ⟨(some 135), none, .load false 1 (.t 134)⟩, ⟨(some 136), none, .call i_gatepostlaw08_less [(.t 133), (.t 135)]⟩, ⟨(some 137), none, .faddr 12 (.t 7)⟩, ⟨(some 138), none, .load false 1 (.t 137)⟩, ⟨(some 139), none, .faddr 12 (.t 9)⟩, ⟨(some 140), none, .load false 1 (.t 139)⟩, ⟨(some 141), none, .call i_gatepostlaw08_less [(.t 138), (.t 140)]⟩, ⟨(some 142), none, .build [(.bool false), (.bool false), (.bool false), (.bool false), (.bool false), (.bool false), (.bool false), (.int .i64 0), (.int .i64 0), (.int .i64 0), (.int .i64 0), (.int .i64 0), (.int .i64 0)] [(0, 1, (.t 75)), (1, 1, (.t 81)), (2, 1, (.t 87)), (3, 1, (.t 93)), (4, 1, (.t 99)), (5, 1, (.t 105)), (6, 1, (.t 111)), (7, 1, (.t 116)), (8, 1, (.t 121)), (9, 1, (.t 126)), (10, 1, (.t 131)), (11, 1, (.t 136)), (12, 1, (.t 141))]⟩, ⟨(some 15), none, .boxz [(.bool false), (.bool false), (.bool false), (.bool false), (.bool false), (.bool false), (.bool false), (.int .i64 0), (.int .i64 0), (.int .i64 0), (.int .i64 0), (.int .i64 0), (.int .i64 0)]⟩] [⟨none, none, .store 13 (.t 15) (.t 142)⟩])
  (.seq (.region [⟨(some 143), none, .mv (.t 12)⟩, ⟨(some 144), none, .mv (.t 143)⟩, ⟨(some 145), (some (144, true)), .mv (.t 14)⟩, ⟨(some 146), none, .pick (.t 144) (.t 145) (.c (.bool false))⟩, ⟨(some 147), none, .mv (.t 146)⟩, ⟨(some 148), (some (147, true)), .load true 13 (.t 11)⟩, ⟨(some 149), (some (147, true)), .load true 13 (.t 15)⟩, ⟨(some 150), (some (147, true)), .eq (.agg [.b, .b, .b, .b, .b, .b, .b, .i, .i, .i, .i, .i, .i]) false (.t 148) (.t 149)⟩, ⟨(some 151), none, .pick (.t 147) (.t 150) (.c (.bool false))⟩, ⟨(some 152), none, .mv (.t 151)⟩, ⟨(some 153), (some (152, true)), .load true 13 (.t 13)⟩, ⟨(some 154), (some (152, true)), .load true 13 (.t 15)⟩, ⟨(some 155), (some (152, true)), .eq (.agg [.b, .b, .b, .b, .b, .b, .b, .i, .i, .i, .i, .i, .i]) false (.t 153) (.t 154)⟩, ⟨(some 156), none, .pick (.t 152) (.t 155) (.c (.bool false))⟩, ⟨(some 4), none, .mv (.t 156)⟩])
  .ret)))))))))))⟩
/-- gatepost/gatepostlaw08.ControlNumbers -/
def c_gatepostlaw08_ControlNumbers : FnC := ⟨99, [.tmp 6],
  (.seq (.region [⟨(some 6), none, .mv (.c (.bool false))⟩])
  (.seq (.region [⟨(some 14), none, .mv (.t 0)⟩, ⟨(some 15), none, .bin .and (.t 14) (.c (.int .i64 8589934591))⟩, ⟨(some 16), none, .mv (.t 1)⟩, ⟨(some 17), none, .bin .and (.t 16) (.c (.int .i64 8589934591))⟩, ⟨(some 0), none, .mv (.t 15)⟩, ⟨(some 1), none, .mv (.t 17)⟩])
  (.seq (.region [⟨(some 18), none, .bsl 1 [(.c (.str [109, 97, 120, 45, 97, 103, 101])), (.c (.str [83, 45, 77, 65, 88, 65, 71, 69])), (.c (.str [115, 116, 97, 108, 101, 45, 119, 104, 105, 108, 101, 45, 114, 101, 118, 97, 108, 105, 100, 97, 116, 101])), (.c (.str [115, 116, 97, 108, 101, 45, 105, 102, 45, 101, 114, 114, 111, 114])), (.c (.str [109, 105, 110, 45, 102, 114, 101, 115, 104])), (.c (.str [109, 97, 120, 45, 115, 116, 97, 108, 101]))]⟩, ⟨(some 7), none, .mv (.t 18)⟩])
  (.seq (.region [⟨(some 19), none, .mv (.t 2)⟩, ⟨(some 20), none, .bin .rem (.t 19) (.c (.int .i64 6))⟩, ⟨(some 21), none, .bin .add (.t 20) (.c (.int .i64 6))⟩, ⟨(some 22), none, .bin .rem (.t 21) (.c (.int .i64 6))⟩, ⟨(some 8), none, .mv (.t 22)⟩])
  (.seq (.mregion [⟨(some 24), none, .mv (.t 7)⟩, ⟨(some 25), none, .mv (.t 8)⟩, ⟨(some 26), none, .ixaSl 1 (.t 24) (.t 25)⟩, ⟨(some 27), none, .load false 1 (.t 26)⟩, ⟨(some 28), none, .bin .add (.t 27) (.c (.str [61]))⟩, ⟨(some 29), none, .mv (.t 0)⟩, ⟨(some 30), none, .call i_gatepostlaw08_number [(.t 29)]⟩, ⟨(some 31), none, .bin .add (.t 28) (.t 30)⟩, ⟨(some 32), none, .bin .add (.t 31) (.c (.str [44, 32, 80, 117, 98, 108, 105, 99, 32, 44]))⟩, ⟨(some 33), none, .mv (.t 7)⟩, ⟨(some 34), none, .mv (.t 8)⟩, ⟨(some 35), none, .ixaSl 1 (.t 33) (.t 34)⟩, ⟨(some 36), none, .load false 1 (.t 35)⟩, ⟨(some 37), none, .bin .add (.t 32) (.t 36)⟩, ⟨(some 38), none, .bin .add (.t 37) (.c (.str [61, 34]))⟩, ⟨(some 39), none, .mv (.t 1)⟩, ⟨(some 40), none, .call i_gatepostlaw08_number [(.t 39)]⟩, ⟨(some 41), none, .bin .add (.t 38) (.t 40)⟩, ⟨(some 42), none, .bin .add (.t 41) (.c (.str [34]))⟩, ⟨(some 43), none, .call i_control_Parse [(.t 42)]⟩, ⟨(some 23), none, .mv (.t 43)⟩, ⟨(some 44), none, .ext 0 (.t 23)⟩, ⟨(some 45), none, .ext 1 (.t 23)⟩, ⟨(some 9), none, .boxz [(.bool false), (.bool false), (.bool false), (.bool false), (.bool false), (.bool false), (.bool false), (.int .i64 0), (.int .i64 0), (.int .i64 0), (.int .i64 0), (.int .i64 0), (.int .i64 0)]⟩] [⟨none, none, .store 13 (.t 9) (.t 44)⟩] [⟨(some 10), none, .mv (.t 45)⟩] [])
  (.seq (.region [⟨(some 46), none, .faddr 7 (.t 9)⟩, ⟨(some 47), none, .load false 1 (.t 46)⟩, ⟨(some 48), none, .faddr 8 (.t 9)⟩, ⟨(some 49), none, .load false 1 (.t 48)⟩, ⟨(some 50), none, .faddr 9 (.t 9)⟩, ⟨(some 51), none, .load false 1 (.t 50)⟩, ⟨(some 52), none, .faddr 10 (.t 9)⟩, ⟨(some 53), none, .load false 1 (.t 52)⟩, ⟨(some 54), none, .faddr 11 (.t 9)⟩, ⟨(some 55), none, .load false 1 (.t 54)⟩, ⟨(some 56), none, .faddr 12 (.t 9)⟩, ⟨(some 57), none, .load false 1 (.t 56)⟩, ⟨(some 58), none, .bsl 1 [(.t 47), (.t 49), (.t 51), (.t 53), (.t 55), (.t 57)]⟩, ⟨(some 11), none, .mv (.t 58)⟩])
  (.seq (.region [⟨(some 59), none, .mv (.t 0)⟩, ⟨(some 60), none, .mv (.t 1)⟩, ⟨(some 61), none, .mn [(.t 59), (.t 60), (.c (.int .i64 2147483648))]⟩, ⟨(some 12), none, .mv (.t 61)⟩])
  (.seq (.seq (.region [⟨(some 13), none, .mv (.c (.int .i64 0))⟩])
  (.block 0 (.loop
    (.seq (.seq (.region [⟨(some 62), none, .mv (.t 13)⟩, ⟨(some 63), none, .bin .lss (.t 62) (.c (.int .i64 6))⟩])
    (.cond (.t 63)
      .skip
      (.exit 0)))
    (.seq (.block 1 (.seq (.region [⟨(some 66), none, .mv (.t 13)⟩, ⟨(some 67), none, .mv (.t 8)⟩, ⟨(some 68), none, .bin .eql (.t 66) (.t 67)⟩, ⟨(some 69), none, .mv (.t 68)⟩, ⟨(some 70), (some (69, true)), .mv (.t 11)⟩, ⟨(some 71), (some (69, true)), .mv (.t 13)⟩, ⟨(some 72), (some (69, true)), .ixaSl 1 (.t 70) (.t 71)⟩, ⟨(some 73), (some (69, true)), .load false 1 (.t 72)⟩, ⟨(some 74), (some (69, true)), .mv (.t 12)⟩, ⟨(some 75), (some (69, true)), .bin .neq (.t 73) (.t 74)⟩, ⟨(some 76), none, .pick (.t 69) (.t 75) (.c (.bool false))⟩, ⟨(some 77), none, .mv (.t 76)⟩, ⟨(some 78), (some (77, false)), .mv (.t 13)⟩, ⟨(some 79), (some (77, false)), .mv (.t 8)⟩, ⟨(some 80), (some (77, false)), .bin .neq (.t 78) (.t 79)⟩, ⟨(some 81), (some (77, false)), .mv (.t 80)⟩, ⟨(some 82), (some (81, true)), .mv (.t 11)⟩, ⟨(some 83), (some (81, true)), .mv (.t 13)⟩, ⟨(some 84), (some (81, true)), .ixaSl 1 (.t 82) (.t 83)⟩, ⟨(some 85), (some (81, true)), .load false 1 (.t 84)⟩, ⟨(some 86), (some (81, true)), .bin .neq (.t 85) (.c (.int .i64 (-1)))⟩, ⟨(some 87), (some (77, false)), .pick (.t 81) (.t 86) (.c (.bool false))⟩, ⟨(some 88), none, .pick (.t 77) (.c (.bool true)) (.t 87)⟩])
    (.cond (.t 88)
      (.seq (.region [⟨(some 6), none, .mv (.c (.bool false))⟩])
      .ret)
      .skip)))
    (.region [⟨(some 64), none, .mv (.t 13)⟩, ⟨(some 65), none, .bin .add (.t 64) (.c (.int .i64 1))⟩, ⟨(some 13), none, .mv (.t 65)⟩]))))))
  (.seq (.region [⟨(some 89), none, .mv (.t 10)⟩, ⟨(some 90), none, .mv (.t 89)⟩, ⟨(some 91), (some (90, true)), .faddr 3 (.t 9)⟩, ⟨(some 92), (some (90, true)), .load false 1 (.t 91)⟩, ⟨(some 93), none, .pick (.t 90) (.t 92) (.c (.bool false))⟩, ⟨(some 94), none, .mv (.t 93)⟩, ⟨(some 95), (some (94, true)), .faddr 2 (.t 9)⟩, ⟨(some 96), (some (94, true)), .load false 1 (.t 95)⟩, ⟨(some 97), (some (94, true)), .un .not (.t 96)⟩, ⟨(some 98), none, .pick (.t 94) (.t 97) (.c (.bool false))⟩, ⟨(some 6), none, .mv (.t 98)⟩])
  .ret)))))))))⟩
/-- gatepost/gatepostlaw08.ControlTells -/
def c_gatepostlaw08_ControlTells : FnC := ⟨79, [.tmp 4],
  (.seq (.region [⟨(some 4), none, .mv (.c (.bool false))⟩])
  (.seq (.seq (.region [⟨(some 12), none, .mv (.t 0)⟩, ⟨(some 13), none, .len 0 (.t 12)⟩, ⟨(some 14), none, .bin .gtr (.t 13) (.c (.int .i64 2000))⟩, ⟨(some 15), none, .mv (.t 14)⟩, ⟨(some 16), (some (15, false)), .mv (.t 1)⟩, ⟨(some 17), (some (15, false)), .len 1 (.t 16)⟩, ⟨(some 18), (some (15, false)), .bin .gtr (.t 17) (.c (.int .i64 50))⟩, ⟨(some 19), none, .pick (.t 15) (.c (.bool true)) (.t 18)⟩])
  (.cond (.t 19)
    (.seq (.region [⟨(some 4), none, .mv (.c (.bool true))⟩])
    .ret)
    .skip))
  (.seq (.seq (.region [⟨(some 5), none, .mv (.c (.int .i64 0))⟩])
  (.block 0 (.loop
    (.seq (.seq (.region [⟨(some 20), none, .mv (.t 5)⟩, ⟨(some 21), none, .mv (.t 1)⟩, ⟨(some 22), none, .len 1 (.t 21)⟩, ⟨(some 23), none, .bin .lss (.t 20) (.t 22)⟩])
    (.cond (.t 23)
      .skip
      (.exit 0)))
    (.seq (.block 1 (.seq (.dregion [⟨(some 26), none, .mv (.t 1)⟩, ⟨(some 27), none, .mv (.t 5)⟩, ⟨(some 28), none, .ixaSl 2 (.t 26) (.t 27)⟩, ⟨(some 29), none, .faddr 0 (.t 28)⟩, ⟨(some 30), none, .load false 1 (.t 29)⟩, ⟨(some 31), none, .len 0 (.t 30)⟩, ⟨(some 32), none, .mv (.t 1)⟩, ⟨(some 33), none, .mv (.t 5)⟩, ⟨(some 34), none, .ixaSl 2 (.t 32) (.t 33)⟩, ⟨(some 35), none, .faddr 1 (.t 34)⟩, ⟨(some 36), none, .load false 1 (.t 35)⟩, ⟨(some 37), none, .len 0 (.t 36)⟩] [⟨(some 38), none, .bin .add (.t 31) (.t 37)⟩, ⟨(some 39), none, .bin .gtr (.t 38) (.c (.int .i64 200))⟩])
    (.cond (.t 39)
      (.seq (.region [⟨(some 4), none, .mv (.c (.bool true))⟩])
      .ret)
      .skip)))
    (.region [⟨(some 24), none, .mv (.t 5)⟩, ⟨(some 25), none, .bin .add (.t 24) (.c (.int .i64 1))⟩, ⟨(some 5), none, .mv (.t 25)⟩]))))))
  (.seq (.region [⟨(some 41), none, .mv (.t 0)⟩, ⟨(some 42), none, .call i_control_Parse [(.t 41)]⟩, ⟨(some 40), none, .mv (.t 42)⟩, ⟨(some 43), none, .ext 0 (.t 40)⟩, ⟨(some 44), none, .ext 1 (.t 40)⟩, ⟨(some 6), none, .boxz [(.bool false), (.bool false), (.bool false), (.bool false), (.bool false), (.bool false), (.bool false), (.int .i64 0), (.int .i64 0), (.int .i64 0), (.int .i64 0), (.int .i64 0), (.int .i64 0)]⟩, ⟨none, none, .store 13 (.t 6) (.t 43)⟩, ⟨(some 7), none, .mv (.t 44)⟩])
  (.seq (.region [⟨(some 46), none, .mv (.t 0)⟩, ⟨(some 47), none, .call i_gatepostref08_Parse [(.t 46)]⟩, ⟨(some 45), none, .mv (.t 47)⟩, ⟨(some 48), none, .ext 0 (.t 45)⟩, ⟨(some 49), none, .ext 1 (.t 45)⟩, ⟨(some 8), none, .boxz [(.bool false), (.bool false), (.bool false), (.bool false), (.bool false), (.bool false), (.bool false), (.int .i64 0), (.int .i64 0), (.int .i64 0), (.int .i64 0), (.int .i64 0), (.int .i64 0)]⟩, ⟨none, none, .store 13 (.t 8) (.t 48)⟩, ⟨(some 9), none, .mv (.t 49)⟩])
  (.seq (.region [⟨(some 51), none, .call i_control_Parse [(.c (.str [109, 97, 120, 45, 97, 103, 101, 61, 55]))]⟩, ⟨(some 50), none, .mv (.t 51)⟩, ⟨(some 52), none, .ext 0 (.t 50)⟩, ⟨(some 53), none, .ext 1 (.t 50)⟩, ⟨(some 10), none, .boxz [(.bool false), (.bool false), (.bool false), (.bool false), (.bool false), (.bool false), (.bool false), (.int .i64 0), (.int .i64 0), (.int .i64 0), (.int .i64 0), (.int .i64 0), (.int .i64 0)]⟩, ⟨none, none, .store 13 (.t 10) (.t 52)⟩, ⟨(some 11), none, .mv (.t 53)⟩])
  (.seq (.region [⟨(some 54), none, .load true 13 (.t 6)⟩, ⟨(some 55), none, .load true 13 (.t 8)⟩, ⟨(some 56), none, .eq (.agg [.b, .b, .b, .b, .b, .b, .b, .i, .i, .i, .i, .i, .i]) false (.t 54) (.t 55)⟩, ⟨(some 57), none, .mv (.t 56)⟩, ⟨(some 58), (some (57, true)), .mv (.t 7)⟩, ⟨(some 59), (some (57, true)), .mv (.t 9)⟩, ⟨(some 60), (some (57, true)), .eq .bool false (.t 58) (.t 59)⟩, ⟨(some 61), none, .pick (.t 57) (.t 60) (.c (.bool false))⟩, ⟨(some 62), none, .mv (.t 61)⟩, ⟨(some 63), (some (62, true)), .mv (.t 1)⟩, ⟨(some 64), (some (62, true)), .call i_control_Of [(.t 63)]⟩, ⟨(some 65), (some (62, true)), .mv (.t 1)⟩, ⟨(some 66), (some (62, true)), .call i_gatepostref08_Of [(.t 65)]⟩, ⟨(some 67), (some (62, true)), .eq (.agg [.b, .b, .b, .b, .b, .b, .b, .i, .i, .i, .i, .i, .i]) false (.t 64) (.t 66)⟩, ⟨(some 68), none, .pick (.t 62) (.t 67) (.c (.bool false))⟩, ⟨(some 69), none, .mv (.t 68)⟩, ⟨(some 70), (some (69, true)), .faddr 7 (.t 10)⟩, ⟨(some 71), (some (69, true)), .load false 1 (.t 70)⟩, ⟨(some 72), (some (69, true)), .bin .eql (.t 71) (.c (.int .i64 7))⟩, ⟨(some 73), none, .pick (.t 69) (.t 72) (.c (.bool false))⟩, ⟨(some 74), none, .mv (.t 73)⟩, ⟨(some 75), (some (74, true)), .faddr 8 (.t 10)⟩, ⟨(some 76), (some (74, true)), .load false 1 (.t 75)⟩, ⟨(some 77), (some (74, true)), .bin .eql (.t 76) (.c (.int .i64 (-1)))⟩, ⟨(some 78), none, .pick (.t 74) (.t 77) (.c (.bool false))⟩, ⟨(some 4), none, .mv (.t 78)⟩])
  .ret)))))))⟩
/-- gatepost/control.Parse -/
def c_control_Parse : FnC := ⟨84, [.cell 2 true 13, .tmp 3],
  (.seq (.region [⟨(some 2), none, .boxz [(.bool false), (.bool false), (.bool false), (.bool false), (.bool false), (.bool false), (.bool false), (.int .i64 0), (.int .i64 0), (.int .i64 0), (.int .i64 0), (.int .i64 0), (.int .i64 0)]⟩, ⟨(some 3), none, .mv (.c (.bool false))⟩])
  (.seq (.region [⟨(some 17), none, .call i_control_nothing []⟩, ⟨(some 4), none, .boxz [(.bool false), (.bool false), (.bool false), (.bool false), (.bool false), (.bool false), (.bool false), (.int .i64 0), (.int .i64 0), (.int .i64 0), (.int .i64 0), (.int .i64 0), (.int .i64 0)]⟩, ⟨none, none, .store 13 (.t 4) (.t 17)⟩])
  (.seq (.region [⟨(some 19), none, .mv (.t 0)⟩, ⟨(some 20), none, .call i_token_Split [(.t 19)]⟩, ⟨(some 18), none, .mv (.t 20)⟩, ⟨(some 21), none, .ext 0 (.t 18)⟩, ⟨(some 22), none, .ext 1 (.t 18)⟩, ⟨(some 5), none, .mv (.t 21)⟩, ⟨(some 6), none, .mv (.t 22)⟩])
  (.seq (.seq (.region [⟨(some 23), none, .mv (.t 6)⟩, ⟨(some 24), none, .un .not (.t 23)⟩])
  (.cond (.t 24)
    (.seq (.region [⟨(some 25), none, .faddr 0 (.t 4)⟩, ⟨none, none, .store 1 (.t 25) (.c (.bool true))⟩, ⟨(some 26), none, .faddr 1 (.t 4)⟩, ⟨none, none, .store 1 (.t 26) (.c (.bool true))⟩])
    (.seq (.region [⟨(some 27), none, .load true 13 (.t 4)⟩, ⟨none, none, .store 13 (.t 2) (.t 27)⟩, ⟨(some 3), none, .mv (.c (.bool false))⟩])
    .ret))
    .skip))
  (.seq (.region [⟨(some 28), none, .call i_control_rules []⟩, ⟨(some 7), none, .mv (.t 28)⟩])
  (.seq (.seq (.region [⟨(some 29), none, .mv (.t 5)⟩, ⟨(some 30), none, .len 1 (.t 29)⟩, ⟨(some 31), none, .mv (.c (.int .i64 0))⟩])
  (.block 0 (.loop
    (.seq (.region [⟨(some 32), none, .bin .lss (.t 31) (.t 30)⟩])
    (.seq (.cond (.t 32)
      .skip
      (.exit 0))
    (.seq (.block 1 (.seq (.region [⟨(some 33), none, .ixaSl 1 (.t 29) (.t 31)⟩, ⟨(some 34), none, .load false 1 (.t 33)⟩, ⟨(some 9), none, .mv (.t 34)⟩])
    (.seq (.region [⟨(some 36), none, .mv (.t 9)⟩, ⟨(some 37), none, .call i_token_Pair [(.t 36)]⟩, ⟨(some 35), none, .mv (.t 37)⟩, ⟨(some 38), none, .ext 0 (.t 35)⟩, ⟨(some 39), none, .ext 1 (.t 35)⟩, ⟨(some 40), none, .ext 2 (.t 35)⟩, ⟨(some 41), none, .ext 3 (.t 35)⟩, ⟨(some 10), none, .mv (.t 38)⟩, ⟨(some 11), none, .mv (.t 39)⟩, ⟨(some 12), none, .mv (.t 40)⟩, ⟨(some 13), none, .mv (.t 41)⟩])
    (.seq (.region [⟨(some 42), none, .mv (.t 7)⟩, ⟨(some 43), none, .mv (.t 10)⟩, ⟨(some 44), none, .call i_token_Lower [(.t 43)]⟩, ⟨(some 45), none, .lookup .s (.agg [.nfn, .nfn, (.int .i64 0), (.int .i64 0)]) false (.t 42) (.t 44)⟩, ⟨(some 14), none, .boxz [.nfn, .nfn, (.int .i64 0), (.int .i64 0)]⟩, ⟨none, none, .store 4 (.t 14) (.t 45)⟩])
    (.block 2 (.seq (.region [⟨(some 47), none, .faddr 0 (.t 14)⟩, ⟨(some 48), none, .load false 1 (.t 47)⟩, ⟨(some 49), none, .eq (.nil 2) true (.t 48) (.c .nfn)⟩, ⟨(some 46), none, .mv (.t 49)⟩])
    (.cond (.t 46)
      (.region [⟨(some 50), none, .faddr 0 (.t 14)⟩, ⟨(some 51), none, .load false 1 (.t 50)⟩, ⟨(some 52), none, .callv (.t 51) [(.t 4)]⟩])
      (.seq (.region [⟨(some 54), none, .faddr 1 (.t 14)⟩, ⟨(some 55), none, .load false 1 (.t 54)⟩, ⟨(some 56), none, .eq (.nil 2) true (.t 55) (.c .nfn)⟩, ⟨(some 53), none, .mv (.t 56)⟩])
      (.cond (.t 53)
        (.seq (.dregion [⟨(some 57), none, .faddr 1 (.t 14)⟩, ⟨(some 58), none, .load false 1 (.t 57)⟩, ⟨(some 59), none, .callv (.t 58) [(.t 4)]⟩, ⟨(some 60), none, .load true 4 (.t 14)⟩, ⟨(some 61), none, .mv (.t 11)⟩, ⟨(some 62), none, .mv (.t 12)⟩] [⟨(some 63), none, .call i__gatepost_control_rule__value [(.t 60), (.t 61), (.t 62)]⟩, ⟨(some 15), none, .mv (.t 59)⟩, ⟨(some 16), none, .mv (.t 63)⟩])
        (.seq (.region [⟨(some 64), none, .mv (.t 16)⟩, ⟨(some 65), none, .bin .neq (.t 64) (.c (.int .i64 (-1)))⟩, ⟨(some 66), none, .mv (.t 65)⟩, ⟨(some 67), (some (66, true)), .mv (.t 15)⟩, ⟨(some 68), (some (66, true)), .nilck (.t 67)⟩, ⟨(some 69), (some (66, true)), .load false 1 (.t 68)⟩, ⟨(some 70), (some (66, true)), .bin .eql (.t 69) (.c (.int .i64 (-1)))⟩, ⟨(some 71), (some (66, true)), .mv (.t 70)⟩, ⟨(some 72), (some (71, false)), .mv (.t 16)⟩, ⟨(some 73), (some (71, false)), .mv (.t 15)⟩, ⟨(some 74), (some (71, false)), .nilck (.t 73)⟩, ⟨(some 75), (some (71, false)), .load false 1 (.t 74)⟩, ⟨(some 76), (some (71, false)), .bin .lss (.t 72) (.t 75)⟩, ⟨(some 77), (some (66, true)), .pick (.t 71) (.c (.bool true)) (.t 76)⟩, ⟨(some 78), none, .pick (.t 66) (.t 77) (.c (.bool false))⟩])
        (.cond (.t 78)
          (.region [⟨(some 79), none, .mv (.t 15)⟩, ⟨(some 80), none, .mv (.t 16)⟩, ⟨(some 81), none, .nilck (.t 79)⟩, ⟨none, none, .store 1 (.t 81) (.t 80)⟩])
          .skip)))
        .skip)))))))))
    (.region [⟨(some 82), none, .bin .add (.t 31) (.c (.int .i64 1))⟩, ⟨(some 31), none, .mv (.t 82)⟩])))))))
  (.seq (.region [⟨(some 83), none, .load true 13 (.t 4)⟩, ⟨none, none, .store 13 (.t 2) (.t 83)⟩, ⟨(some 3), none, .mv (.c (.bool true))⟩])
  .ret)))))))⟩
/-- gatepost/gatepostlaw08.less -/
def c_gatepostlaw08_less : FnC := ⟨18, [.tmp 4],
  (.seq (.region [⟨(some 4), none, .mv (.c (.int .i64 0))⟩])
  (.seq (.seq (.region [⟨(some 5), none, .mv (.t 0)⟩, ⟨(some 6), none, .bin .lss (.t 5) (.c (.int .i64 0))⟩, ⟨(some 7), none, .mv (.t 6)⟩, ⟨(some 8), (some (7, false)), .mv (.t 1)⟩, ⟨(some 9), (some (7, false)), .bin .geq (.t 8) (.c (.int .i64 0))⟩, ⟨(some 10), (some (7, false)), .mv (.t 9)⟩, ⟨(some 11), (some (10, true)), .mv (.t 1)⟩, ⟨(some 12), (some (10, true)), .mv (.t 0)⟩, ⟨(some 13), (some (10, true)), .bin .lss (.t 11) (.t 12)⟩, ⟨(some 14), (some (7, false)), .pick (.t 10) (.t 13) (.c (.bool false))⟩, ⟨(some 15), none, .pick (.t 7) (.c (.bool true)) (.t 14)⟩])
  (.cond (.t 15)
    (.seq (.region [⟨(some 16), none, .mv (.t 1)⟩, ⟨(some 4), none, .mv (.t 16)⟩])
    .ret)
    .skip))
  (.seq (.region [⟨(some 17), none, .mv (.t 0)⟩, ⟨(some 4), none, .mv (.t 17)⟩])
  .ret)))⟩
/-- gatepost/gatepostlaw08.number -/
def c_gatepostlaw08_number : FnC := ⟨16, [.tmp 2],
  (.seq (.region [⟨(some 2), none, .mv (.c (.str []))⟩])
  (.seq (.seq (.region [⟨(some 3), none, .mv (.t 0)⟩, ⟨(some 4), none, .bin .lss (.t 3) (.c (.int .i64 10))⟩])
  (.cond (.t 4)
    (.seq (.region [⟨(some 5), none, .mv (.t 0)⟩, ⟨(some 6), none, .mv (.t 0)⟩, ⟨(some 7), none, .bin .add (.t 6) (.c (.int .i64 1))⟩, ⟨(some 8), none, .slstr (.c (.str [48, 49, 50, 51, 52, 53, 54, 55, 56, 57])) (some (.t 5)) (some (.t 7))⟩, ⟨(some 2), none, .mv (.t 8)⟩])
    .ret)
    .skip))
  (.seq (.region [⟨(some 9), none, .mv (.t 0)⟩, ⟨(some 10), none, .bin .quo (.t 9) (.c (.int .i64 10))⟩, ⟨(some 11), none, .call i_gatepostlaw08_number [(.t 10)]⟩, ⟨(some 12), none, .mv (.t 0)⟩, ⟨(some 13), none, .bin .rem (.t 12) (.c (.int .i64 10))⟩, ⟨(some 14), none, .call i_gatepostlaw08_number [(.t 13)]⟩, ⟨(some 15), none, .bin .add (.t 11) (.t 14)⟩, ⟨(some 2), none, .mv (.t 15)⟩])
  .ret)))⟩
/-- gatepost/gatepostref08.Parse -/
def c_gatepostref08_Parse : FnC := ⟨132, [.cell 2 true 13, .tmp 3],
  (.seq (.region [⟨(some 2), none, .boxz [(.bool false), (.bool false), (.bool false), (.bool false), (.bool false), (.bool false), (.bool false), (.int .i64 0), (.int .i64 0), (.int .i64 0), (.int .i64 0), (.int .i64 0), (.int .i64 0)]⟩, ⟨(some 3), none, .mv (.c (.bool false))⟩])
  (.seq (.region [⟨(some 14), none, .call i_gatepostref08_None []⟩, ⟨(some 4), none, .boxz [(.bool false), (.bool false), (.bool false), (.bool false), (.bool false), (.bool false), (.bool false), (.int .i64 0), (.int .i64 0), (.int .i64 0), (.int .i64 0), (.int .i64 0), (.int .i64 0)]⟩, ⟨none, none, .store 13 (.t 4) (.t 14)⟩])
  (.seq (.region [⟨(some 16), none, .mv (.t 0)⟩, ⟨(some 17), none, .call i_gatepostref01_Split [(.t 16)]⟩, ⟨(some 15), none, .mv (.t 17)⟩, ⟨(some 18), none, .ext 0 (.t 15)⟩, ⟨(some 19), none, .ext 1 (.t 15)⟩, ⟨(some 5), none, .mv (.t 18)⟩, ⟨(some 6), none, .mv (.t 19)⟩])
  (.seq (.seq (.region [⟨(some 20), none, .mv (.t 6)⟩, ⟨(some 21), none, .un .not (.t 20)⟩])
  (.cond (.t 21)
    (.seq (.region [⟨(some 22), none, .faddr 0 (.t 4)⟩, ⟨none, none, .store 1 (.t 22) (.c (.bool true))⟩])
    (.seq (.region [⟨(some 23), none, .faddr 1 (.t 4)⟩, ⟨none, none, .store 1 (.t 23) (.c (.bool true))⟩])
    (.seq (.region [⟨(some 24), none, .load true 13 (.t 4)⟩, ⟨none, none, .store 13 (.t 2) (.t 24)⟩, ⟨(some 3), none, .mv (.c (.bool false))⟩])
    .ret)))
    .skip))
  (.seq (.seq (.region [⟨(some 7), none, .mv (.c (.int .i64 0))⟩])
  (.block 0 (.loop
    (.seq (.seq (.region [⟨(some 25), none, .mv (.t 7)⟩, ⟨(some 26), none, .mv (.t 5)⟩, ⟨(some 27), none, .len 1 (.t 26)⟩, ⟨(some 28), none, .bin .lss (.t 25) (.t 27)⟩])
    (.cond (.t 28)
      .skip
      (.exit 0)))
    (.seq (.block 1 (.seq (.region [⟨(some 32), none, .mv (.t 5)⟩, ⟨(some 33), none, .mv (.t 7)⟩, ⟨(some 34), none, .ixaSl 1 (.t 32) (.t 33)⟩, ⟨(some 35), none, .load false 1 (.t 34)⟩, ⟨(some 36), none, .call i_gatepostref01_Pair [(.t 35)]⟩, ⟨(some 31), none, .mv (.t 36)⟩, ⟨(some 37), none, .ext 0 (.t 31)⟩, ⟨(some 38), none, .ext 1 (.t 31)⟩, ⟨(some 39), none, .ext 2 (.t 31)⟩, ⟨(some 40), none, .ext 3 (.t 31)⟩, ⟨(some 8), none, .mv (.t 37)⟩, ⟨(some 9), none, .mv (.t 38)⟩, ⟨(some 10), none, .mv (.t 39)⟩, ⟨(some 11), none, .mv (.t 40)⟩])
    (.seq (.seq (.region [⟨(some 41), none, .mv (.t 11)⟩, ⟨(some 42), none, .un .not (.t 41)⟩])
    (.cond (.t 42)
      (.exit 1)
      .skip))
    (.seq (.region [⟨(some 44), none, .mv (.t 9)⟩, ⟨(some 45), none, .call i_gatepostref01_Number [(.t 44), (.c (.int .i64 2147483648))]⟩, ⟨(some 43), none, .mv (.t 45)⟩, ⟨(some 46), none, .ext 0 (.t 43)⟩, ⟨(some 47), none, .ext 1 (.t 43)⟩, ⟨(some 12), none, .mv (.t 46)⟩, ⟨(some 13), none, .mv (.t 47)⟩])
    (.seq (.region [⟨(some 48), none, .mv (.t 13)⟩, ⟨(some 49), none, .mv (.t 48)⟩, ⟨(some 50), (some (49, true)), .mv (.t 10)⟩, ⟨(some 51), none, .pick (.t 49) (.t 50) (.c (.bool false))⟩, ⟨(some 13), none, .mv (.t 51)⟩])
    (.seq (.region [⟨(some 52), none, .mv (.t 8)⟩, ⟨(some 53), none, .call i_gatepostref01_Lower [(.t 52)]⟩])
    (.block 2 (.seq (.region [⟨(some 55), none, .bin .eql (.t 53) (.c (.str [110, 111, 45, 115, 116, 111, 114, 101]))⟩, ⟨(some 54), none, .mv (.t 55)⟩])
    (.cond (.t 54)
      (.region [⟨(some 56), none, .faddr 0 (.t 4)⟩, ⟨none, none, .store 1 (.t 56) (.c (.bool true))⟩])
      (.seq (.region [⟨(some 58), none, .bin .eql (.t 53) (.c (.str [110, 111, 45, 99, 97, 99, 104, 101]))⟩, ⟨(some 57), none, .mv (.t 58)⟩])
      (.cond (.t 57)
        (.region [⟨(some 59), none, .faddr 1 (.t 4)⟩, ⟨none, none, .store 1 (.t 59) (.c (.bool true))⟩])
        (.seq (.region [⟨(some 61), none, .bin .eql (.t 53) (.c (.str [112, 114, 105, 118, 97, 116, 101]))⟩, ⟨(some 60), none, .mv (.t 61)⟩])
        (.cond (.t 60)
          (.region [⟨(some 62), none, .faddr 2 (.t 4)⟩, ⟨none, none, .store 1 (.t 62) (.c (.bool true))⟩])
          (.seq (.region [⟨(some 64), none, .bin .eql (.t 53) (.c (.str [112, 117, 98, 108, 105, 99]))⟩, ⟨(some 63), none, .mv (.t 64)⟩])
          (.cond (.t 63)
            (.region [⟨(some 65), none, .faddr 3 (.t 4)⟩, ⟨none, none, .store 1 (.t 65) (.c (.bool true))⟩])
            (.seq (.region [⟨(some 67), none, .bin .eql (.t 53) (.c (.str [109, 117, 115, 116, 45, 114, 101, 118, 97, 108, 105, 100, 97, 116, 101]))⟩, ⟨(some 66), none, .mv (.t 67)⟩])
            (.cond (.t 66)
              (.region [⟨(some 68), none, .faddr 4 (.t 4)⟩, ⟨none, none, .store 1 (.t 68) (.c (.bool true))⟩])
              (.seq (.region [⟨(some 70), none, .bin .eql (.t 53) (.c (.str [112, 114, 111, 120, 121, 45, 114, 101, 118, 97, 108, 105, 100, 97, 116, 101]))⟩, ⟨(some 69), none, .mv (.t 70)⟩])
              (.cond (.t 69)
                (.region [⟨(some 71), none, .faddr 5 (.t 4)⟩, ⟨none, none, .store 1 (.t 71) (.c (.bool true))⟩])
                (.seq (.region [⟨(some 73), none, .bin .eql (.t 53) (.c (.str [111, 110, 108, 121, 45, 105, 102, 45, 99, 97, 99, 104, 101, 100]))⟩, ⟨(some 72), none, .mv (.t 73)⟩])
                (.cond (.t 72)
                  (.region [⟨(some 74), none, .faddr 6 (.t 4)⟩, ⟨none, none, .store 1 (.t 74) (.c (.bool true))⟩])
                  (.seq (.region [⟨(some 76), none, .bin .eql (.t 53) (.c (.str [109, 97, 120, 45, 97, 103, 101]))⟩, ⟨(some 75), none, .mv (.t 76)⟩])
                  (.cond (.t 75)
                    (.seq (.seq (.region [⟨(some 77), none, .mv (.t 13)⟩, ⟨(some 78), none, .un .not (.t 77)⟩])
                    (.cond (.t 78)
                      (.region [⟨(some 12), none, .mv (.c (.int .i64 0))⟩])
                      .skip))
                    (.region [⟨(some 79), none, .faddr 7 (.t 4)⟩, ⟨(some 80), none, .load false 1 (.t 79)⟩, ⟨(some 81), none, .mv (.t 12)⟩, ⟨(some 82), none, .call i_gatepostref08_least [(.t 80), (.t 81)]⟩, ⟨(some 83), none, .faddr 7 (.t 4)⟩, ⟨none, none, .store 1 (.t 83) (.t 82)⟩]))
                    (.seq (.region [⟨(some 85), none, .bin .eql (.t 53) (.c (.str [115, 45, 109, 97, 120, 97, 103, 101]))⟩, ⟨(some 84), none, .mv (.t 85)⟩])
                    (.cond (.t 84)
                      (.seq (.seq (.region [⟨(some 86), none, .mv (.t 13)⟩, ⟨(some 87), none, .un .not (.t 86)⟩])
                      (.cond (.t 87)
                        (.region [⟨(some 12), none, .mv (.c (.int .i64 0))⟩])
                        .skip))
                      (.region [⟨(some 88), none, .faddr 8 (.t 4)⟩, ⟨(some 89), none, .load false 1 (.t 88)⟩, ⟨(some 90), none, .mv (.t 12)⟩, ⟨(some 91), none, .call i_gatepostref08_least [(.t 89), (.t 90)]⟩, ⟨(some 92), none, .faddr 8 (.t 4)⟩, ⟨none, none, .store 1 (.t 92) (.t 91)⟩]))
                      (.seq (.region [⟨(some 94), none, .bin .eql (.t 53) (.c (.str [115, 116, 97, 108, 101, 45, 119, 104, 105, 108, 101, 45, 114, 101, 118, 97, 108, 105, 100, 97, 116, 101]))⟩, ⟨(some 93), none, .mv (.t 94)⟩])
                      (.cond (.t 93)
                        (.seq (.region [⟨(some 95), none, .mv (.t 13)⟩])
                        (.cond (.t 95)
                          (.region [⟨(some 96), none, .faddr 9 (.t 4)⟩, ⟨(some 97), none, .load false 1 (.t 96)⟩, ⟨(some 98), none, .mv (.t 12)⟩, ⟨(some 99), none, .call i_gatepostref08_least [(.t 97), (.t 98)]⟩, ⟨(some 100), none, .faddr 9 (.t 4)⟩, ⟨none, none, .store 1 (.t 100) (.t 99)⟩])
                          .skip))
                        (.seq (.region [⟨(some 102), none, .bin .eql (.t 53) (.c (.str [115, 116, 97, 108, 101, 45, 105, 102, 45, 101, 114, 114, 111, 114]))⟩, ⟨(some 101), none, .mv (.t 102)⟩])
                        (.cond (.t 101)
                          (.seq (.region [⟨(some 103), none, .mv (.t 13)⟩])
                          (.cond (.t 103)
                            (.region [⟨(some 104), none, .faddr 10 (.t 4)⟩, ⟨(some 105), none, .load false 1 (.t 104)⟩, ⟨(some 106), none, .mv (.t 12)⟩, ⟨(some 107), none, .call i_gatepostref08_least [(.t 105), (.t 106)]⟩, ⟨(some 108), none, .faddr 10 (.t 4)⟩, ⟨none, none, .store 1 (.t 108) (.t 107)⟩])
                            .skip))
                          (.seq (.region [⟨(some 110), none, .bin .eql (.t 53) (.c (.str [109, 105, 110, 45, 102, 114, 101, 115, 104]))⟩, ⟨(some 109), none, .mv (.t 110)⟩])
                          (.cond (.t 109)
                            (.seq (.region [⟨(some 111), none, .mv (.t 13)⟩])
                            (.cond (.t 111)
                              (.region [⟨(some 112), none, .faddr 11 (.t 4)⟩, ⟨(some 113), none, .load false 1 (.t 112)⟩, ⟨(some 114), none, .mv (.t 12)⟩, ⟨(some 115), none, .call i_gatepostref08_least [(.t 113), (.t 114)]⟩, ⟨(some 116), none, .faddr 11 (.t 4)⟩, ⟨none, none, .store 1 (.t 116) (.t 115)⟩])
                              .skip))
                            (.seq (.region [⟨(some 118), none, .bin .eql (.t 53) (.c (.str [109, 97, 120, 45, 115, 116, 97, 108, 101]))⟩, ⟨(some 117), none, .mv (.t 118)⟩])
                            (.cond (.t 117)
                              (.seq (.region [⟨(some 119), none, .mv (.t 10)⟩, ⟨(some 120), none, .un .not (.t 119)⟩])
                              (.cond (.t 120)
                                (.region [⟨(some 121), none, .faddr 12 (.t 4)⟩, ⟨(some 122), none, .load false 1 (.t 121)⟩, ⟨(some 123), none, .call i_gatepostref08_least [(.t 122), (.c (.int .i64 2147483648))]⟩, ⟨(some 124), none, .faddr 12 (.t 4)⟩, ⟨none, none, .store 1 (.t 124) (.t 123)⟩])
                                (.seq (.region [⟨(some 125), none, .mv (.t 13)⟩])
                                (.cond (.t 125)
                                  (.region [⟨(some 126), none, .faddr 12 (.t 4)⟩, ⟨(some 127), none, .load false 1 (.t 126)⟩, ⟨(some 128), none, .mv (.t 12)⟩, ⟨(some 129), none, .call i_gatepostref08_least [(.t 127), (.t 128)]⟩, ⟨(some 130), none, .faddr 12 (.t 4)⟩, ⟨none, none, .store 1 (.t 130) (.t 129)⟩])
                                  .skip))))
                              .skip)))))))))))))))))))))))))))))))))
    (.region [⟨(some 29), none, .mv (.t 7)⟩, ⟨(some 30), none, .bin .add (.t 29) (.c (.int .i64 1))⟩, ⟨(some 7), none, .mv (.t 30)⟩]))))))
  (.seq (.region [⟨(some 131), none, .load true 13 (.t 4)⟩, ⟨none, none, .store 13 (.t 2) (.t 131)⟩, ⟨(some 3), none, .mv (.c (.bool true))⟩])
  .ret))))))⟩
/-- gatepost/control.Of -/
def c_control_Of : FnC := ⟨44, [.cell 2 true 13],
  (.seq (.region [⟨(some 2), none, .boxz [(.bool false), (.bool false), (.bool false), (.bool false), (.bool false), (.bool false), (.bool false), (.int .i64 0), (.int .i64 0), (.int .i64 0), (.int .i64 0), (.int .i64 0), (.int .i64 0)]⟩])
  (.seq (.seq (.region [⟨(some 13), none, .mv (.t 0)⟩, ⟨(some 14), none, .call i_field_Get [(.t 13), (.c (.str [67, 97, 99, 104, 101, 45, 67, 111, 110, 116, 114, 111, 108]))]⟩, ⟨(some 12), none, .mv (.t 14)⟩, ⟨(some 15), none, .ext 0 (.t 12)⟩, ⟨(some 16), none, .ext 1 (.t 12)⟩, ⟨(some 3), none, .mv (.t 15)⟩, ⟨(some 4), none, .mv (.t 16)⟩])
  (.seq (.region [⟨(some 17), none, .mv (.t 4)⟩, ⟨(some 18), none, .bin .gtr (.t 17) (.c (.int .i64 0))⟩])
  (.cond (.t 18)
    (.seq (.region [⟨(some 20), none, .mv (.t 3)⟩, ⟨(some 21), none, .call i_control_Parse [(.t 20)]⟩, ⟨(some 19), none, .mv (.t 21)⟩, ⟨(some 22), none, .ext 0 (.t 19)⟩, ⟨(some 23), none, .ext 1 (.t 19)⟩, ⟨(some 5), none, .boxz [(.bool false), (.bool false), (.bool false), (.bool false), (.bool false), (.bool false), (.bool false), (.int .i64 0), (.int .i64 0), (.int .i64 0), (.int .i64 0), (.int .i64 0), (.int .i64 0)]⟩, ⟨none, none, .store 13 (.t 5) (.t 22)⟩, ⟨(some 6), none, .mv (.t 23)⟩])
    (.seq (.region [⟨(some 24), none, .load true 13 (.t 5)⟩, ⟨none, none, .store 13 (.t 2) (.t 24)⟩])
    .ret))
    .skip)))
  (.seq (.region [⟨(some 25), none, .call i_control_nothing []⟩, ⟨(some 7), none, .boxz [(.bool false), (.bool false), (.bool false), (.bool false), (.bool false), (.bool false), (.bool false), (.int .i64 0), (.int .i64 0), (.int .i64 0), (.int .i64 0), (.int .i64 0), (.int .i64 0)]⟩, ⟨none, none, .store 13 (.t 7) (.t 25)⟩])
  (.seq (.region [⟨(some 27), none, .mv (.t 0)⟩, ⟨(some 28), none, .call i_field_Get [(.t 27), (.c (.str [80, 114, 97, 103, 109, 97]))]⟩, ⟨(some 26), none, .mv (.t 28)⟩, ⟨(some 29), none, .ext 0 (.t 26)⟩, ⟨(some 30), none, .ext 1 (.t 26)⟩, ⟨(some 8), none, .mv (.t 29)⟩, ⟨(some 9), none, .mv (.t 30)⟩])
  (.seq (.region [⟨(some 32), none, .mv (.t 8)⟩, ⟨(some 33), none, .call i_token_Lower [(.t 32)]⟩, ⟨(some 34), none, .call i_token_Split [(.t 33)]⟩, ⟨(some 31), none, .mv (.t 34)⟩, ⟨(some 35), none, .ext 0 (.t 31)⟩, ⟨(some 36), none, .ext 1 (.t 31)⟩, ⟨(some 10), none, .mv (.t 35)⟩, ⟨(some 11), none, .mv (.t 36)⟩])
  (.seq (.region [⟨(some 37), none, .mv (.t 11)⟩, ⟨(some 38), none, .mv (.t 37)⟩, ⟨(some 39), (some (38, true)), .mv (.t 10)⟩, ⟨(some 40), (some (38, true)), .call i_slices_Contains___string_string_ [(.t 39), (.c (.str [110, 111, 45, 99, 97, 99, 104, 101]))]⟩, ⟨(some 41), none, .pick (.t 38) (.t 40) (.c (.bool false))⟩, ⟨(some 42), none, .faddr 1 (.t 7)⟩, ⟨none, none, .store 1 (.t 42) (.t 41)⟩])
  (.seq (.region [⟨(some 43), none, .load true 13 (.t 7)⟩, ⟨none, none, .store 13 (.t 2) (.t 43)⟩])
  .ret)))))))⟩
/-- gatepost/gatepostref08.Of -/
def c_gatepostref08_Of : FnC := ⟨52, [.cell 2 true 13],
  (.seq (.region [⟨(some 2), none, .boxz [(.bool false), (.bool false), (.bool false), (.bool false), (.bool false), (.bool false), (.bool false), (.int .i64 0), (.int .i64 0), (.int .i64 0), (.int .i64 0), (.int .i64 0), (.int .i64 0)]⟩])
  (.seq (.region [⟨(some 12), none, .mv (.t 0)⟩, ⟨(some 13), none, .call i_gatepostref04_Get [(.t 12), (.c (.str [99, 97, 99, 104, 101, 45, 99, 111, 110, 116, 114, 111, 108]))]⟩, ⟨(some 11), none, .mv (.t 13)⟩, ⟨(some 14), none, .ext 0 (.t 11)⟩, ⟨(some 15), none, .ext 1 (.t 11)⟩, ⟨(some 3), none, .mv (.t 14)⟩, ⟨(some 4), none, .mv (.t 15)⟩])
  (.seq (.seq (.region [⟨(some 16), none, .mv (.t 4)⟩, ⟨(some 17), none, .bin .gtr (.t 16) (.c (.int .i64 0))⟩])
  (.cond (.t 17)
    (.seq (.region [⟨(some 19), none, .mv (.t 3)⟩, ⟨(some 20), none, .call i_gatepostref08_Parse [(.t 19)]⟩, ⟨(some 18), none, .mv (.t 20)⟩, ⟨(some 21), none, .ext 0 (.t 18)⟩, ⟨(some 22), none, .ext 1 (.t 18)⟩, ⟨(some 5), none, .boxz [(.bool false), (.bool false), (.bool false), (.bool false), (.bool false), (.bool false), (.bool false), (.int .i64 0), (.int .i64 0), (.int .i64 0), (.int .i64 0), (.int .i64 0), (.int .i64 0)]⟩, ⟨none, none, .store 13 (.t 5) (.t 21)⟩, ⟨(some 6), none, .mv (.t 22)⟩])
    (.seq (.region [⟨(some 23), none, .load true 13 (.t 5)⟩, ⟨none, none, .store 13 (.t 2) (.t 23)⟩])
    .ret))
    .skip))
  (.seq (.region [⟨(some 24), none, .call i_gatepostref08_None []⟩, ⟨(some 7), none, .boxz [(.bool false), (.bool false), (.bool false), (.bool false), (.bool false), (.bool false), (.bool false), (.int .i64 0), (.int .i64 0), (.int .i64 0), (.int .i64 0), (.int .i64 0), (.int .i64 0)]⟩, ⟨none, none, .store 13 (.t 7) (.t 24)⟩])
  (.seq (.region [⟨(some 26), none, .mv (.t 0)⟩, ⟨(some 27), none, .call i_gatepostref04_Get [(.t 26), (.c (.str [112, 114, 97, 103, 109, 97]))]⟩, ⟨(some 25), none, .mv (.t 27)⟩, ⟨(some 28), none, .ext 0 (.t 25)⟩, ⟨(some 29), none, .ext 1 (.t 25)⟩, ⟨(some 3), none, .mv (.t 28)⟩])
  (.seq (.region [⟨(some 31), none, .mv (.t 3)⟩, ⟨(some 32), none, .call i_gatepostref01_Lower [(.t 31)]⟩, ⟨(some 33), none, .call i_gatepostref01_Split [(.t 32)]⟩, ⟨(some 30), none, .mv (.t 33)⟩, ⟨(some 34), none, .ext 0 (.t 30)⟩, ⟨(some 35), none, .ext 1 (.t 30)⟩, ⟨(some 8), none, .mv (.t 34)⟩, ⟨(some 9), none, .mv (.t 35)⟩])
  (.seq (.seq (.region [⟨(some 10), none, .mv (.c (.int .i64 0))⟩])
  (.block 0 (.loop
    (.seq (.seq (.region [⟨(some 36), none, .mv (.t 10)⟩, ⟨(some 37), none, .mv (.t 8)⟩, ⟨(some 38), none, .len 1 (.t 37)⟩, ⟨(some 39), none, .bin .lss (.t 36) (.t 38)⟩])
    (.cond (.t 39)
      .skip
      (.exit 0)))
    (.seq (.block 1 (.seq (.region [⟨(some 42), none, .mv (.t 9)⟩, ⟨(some 43), none, .mv (.t 42)⟩, ⟨(some 44), (some (43, true)), .mv (.t 8)⟩, ⟨(some 45), (some (43, true)), .mv (.t 10)⟩, ⟨(some 46), (some (43, true)), .ixaSl 1 (.t 44) (.t 45)⟩, ⟨(some 47), (some (43, true)), .load false 1 (.t 46)⟩, ⟨(some 48), (some (43, true)), .bin .eql (.t 47) (.c (.str [110, 111, 45, 99, 97, 99, 104, 101]))⟩, ⟨(some 49), none, .pick (.t 43) (.t 48) (.c (.bool false))⟩])
    (.cond (.t 49)
      (.region [⟨(some 50), none, .faddr 1 (.t 7)⟩, ⟨none, none, .store 1 (.t 50) (.c (.bool true))⟩])
      .skip)))
    (.region [⟨(some 40), none, .mv (.t 10)⟩, ⟨(some 41), none, .bin .add (.t 40) (.c (.int .i64 1))⟩, ⟨(some 10), none, .mv (.t 41)⟩]))))))
  (.seq (.region [⟨(some 51), none, .load true 13 (.t 7)⟩, ⟨none, none, .store 13 (.t 2) (.t 51)⟩])
  .ret))))))))⟩
/-- gatepost/control.nothing -/
def c_control_nothing : FnC := ⟨2, [.cell 0 true 13],
  (.seq (.region [⟨(some 0), none, .boxz [(.bool false), (.bool false), (.bool false), (.bool false), (.bool false), (.bool false), (.bool false), (.int .i64 0), (.int .i64 0), (.int .i64 0), (.int .i64 0), (.int .i64 0), (.int .i64 0)]⟩])
  (.seq (.region [⟨(some 1), none, .build [(.bool false), (.bool false), (.bool false), (.bool false), (.bool false), (.bool false), (.bool false), (.int .i64 0), (.int .i64 0), (.int .i64 0), (.int .i64 0), (.int .i64 0), (.int .i64 0)] [(7, 1, (.c (.int .i64 (-1)))), (8, 1, (.c (.int .i64 (-1)))), (9, 1, (.c (.int .i64 (-1)))), (10, 1, (.c (.int .i64 (-1)))), (11, 1, (.c (.int .i64 (-1)))), (12, 1, (.c (.int .i64 (-1))))]⟩, ⟨none, none, .store 13 (.t 0) (.t 1)⟩])
  .ret))⟩
/-- gatepost/token.Split -/
def c_token_Split : FnC := ⟨54, [.tmp 2, .tmp 3],
  (.seq (.region [⟨(some 1), none, .box (.t 0)⟩, ⟨(some 2), none, .mv (.c .nsl)⟩, ⟨(some 3), none, .mv (.c (.bool false))⟩])
  (.seq (.region [⟨(some 4), none, .boxz [.nsl]⟩])
  (.seq (.region [⟨(some 5), none, .boxz [(.int .i64 0)]⟩, ⟨none, none, .store 1 (.t 5) (.c (.int .i64 0))⟩])
  (.seq (.region [⟨(some 10), none, .mkfn i_token_Split_1 [(.t 1), (.t 5), (.t 4)]⟩, ⟨(some 6), none, .mv (.t 10)⟩])
  (.seq (.region [⟨(some 7), none, .mv (.c (.bool false))⟩])
  (.seq (.seq (.region [⟨(some 8), none, .mv (.c (.int .i64 0))⟩])
  (.block 0 (.loop
    (.seq (.seq (.region [⟨(some 11), none, .mv (.t 8)⟩, ⟨(some 12), none, .load false 1 (.t 1)⟩, ⟨(some 13), none, .len 0 (.t 12)⟩, ⟨(some 14), none, .bin .lss (.t 11) (.t 13)⟩])
    (.cond (.t 14)
      .skip
      (.exit 0)))
    (.seq (.block 1 (.seq (.region [⟨(some 17), none, .load false 1 (.t 1)⟩, ⟨(some 18), none, .mv (.t 8)⟩, ⟨(some 19), none, .ixStr (.t 17) (.t 18)⟩, ⟨(some 9), none, .mv (.t 19)⟩])
    (.block 2 (.seq (.region [⟨(some 21), none, .mv (.t 9)⟩, ⟨(some 22), none, .bin .eql (.t 21) (.c (.int .u8 34))⟩, ⟨(some 20), none, .mv (.t 22)⟩])
    (.cond (.t 20)
      (.region [⟨(some 23), none, .mv (.t 7)⟩, ⟨(some 24), none, .un .not (.t 23)⟩, ⟨(some 7), none, .mv (.t 24)⟩])
      (.seq (.region [⟨(some 26), none, .mv (.t 7)⟩, ⟨(some 27), none, .mv (.t 26)⟩, ⟨(some 28), (some (27, true)), .mv (.t 9)⟩, ⟨(some 29), (some (27, true)), .bin .eql (.t 28) (.c (.int .u8 92))⟩, ⟨(some 30), none, .pick (.t 27) (.t 29) (.c (.bool false))⟩, ⟨(some 25), none, .mv (.t 30)⟩])
      (.cond (.t 25)
        (.region [⟨(some 31), none, .mv (.t 8)⟩, ⟨(some 32), none, .bin .add (.t 31) (.c (.int .i64 1))⟩, ⟨(some 8), none, .mv (.t 32)⟩])
        (.seq (.region [⟨(some 34), none, .mv (.t 7)⟩, ⟨(some 35), none, .un .not (.t 34)⟩, ⟨(some 36), none, .mv (.t 35)⟩, ⟨(some 37), (some (36, true)), .mv (.t 9)⟩, ⟨(some 38), (some (36, true)), .bin .eql (.t 37) (.c (.int .u8 44))⟩, ⟨(some 39), none, .pick (.t 36) (.t 38) (.c (.bool false))⟩, ⟨(some 33), none, .mv (.t 39)⟩])
        (.cond (.t 33)
          (.region [⟨(some 40), none, .mv (.t 6)⟩, ⟨(some 41), none, .mv (.t 8)⟩, ⟨(some 42), none, .callv (.t 40) [(.t 41)]⟩])
          .skip)))))))))
    (.region [⟨(some 15), none, .mv (.t 8)⟩, ⟨(some 16), none, .bin .add (.t 15) (.c (.int .i64 1))⟩, ⟨(some 8), none, .mv (.t 16)⟩]))))))
  (.seq (.seq (.region [⟨(some 43), none, .mv (.t 7)⟩])
  (.cond (.t 43)
    (.seq (.region [⟨(some 2), none, .mv (.c .nsl)⟩, ⟨(some 3), none, .mv (.c (.bool false))⟩])
    .ret)
    .skip))
  (.seq (.region [⟨(some 44), none, .mv (.t 6)⟩, ⟨(some 45), none, .load false 1 (.t 1)⟩, ⟨(some 46), none, .len 0 (.t 45)⟩, ⟨(some 47), none, .callv (.t 44) [(.t 46)]⟩])
  (.seq (.region [⟨(some 48), none, .load false 1 (.t 4)⟩, ⟨(some 49), none, .load false 1 (.t 4)⟩, ⟨(some 50), none, .len 1 (.t 49)⟩, ⟨(some 51), none, .load false 1 (.t 4)⟩, ⟨(some 52), none, .len 1 (.t 51)⟩, ⟨(some 53), none, .slsl 1 (.t 48) none (some (.t 50)) (some (.t 52))⟩, ⟨(some 2), none, .mv (.t 53)⟩, ⟨(some 3), none, .mv (.c (.bool true))⟩])
  .ret)))))))))⟩
/-- gatepost/control.rules -/
def c_control_rules : FnC := ⟨34, [.tmp 0],
  (.seq (.region [⟨(some 0), none, .mv (.c .nmap)⟩])
  (.seq (.region [⟨(some 4), none, .mkmap⟩, ⟨(some 1), none, .boxz [.nmap]⟩, ⟨none, none, .store 1 (.t 1) (.t 4)⟩])
  (.seq (.region [⟨(some 5), none, .mkfn i_control_rules_1 [(.t 1)]⟩, ⟨(some 2), none, .mv (.t 5)⟩])
  (.seq (.region [⟨(some 6), none, .mkfn i_control_rules_2 [(.t 1)]⟩, ⟨(some 3), none, .mv (.t 6)⟩])
  (.seq (.region [⟨(some 7), none, .mv (.t 2)⟩, ⟨(some 8), none, .callv (.t 7) [(.c (.str [110, 111, 45, 115, 116, 111, 114, 101])), (.c (.fn i_control_rules_3 []))]⟩])
  (.seq (.region [⟨(some 9), none, .mv (.t 2)⟩, ⟨(some 10), none, .callv (.t 9) [(.c (.str [110, 111, 45, 99, 97, 99, 104, 101])), (.c (.fn i_control_rules_4 []))]⟩])
  (.seq (.region [⟨(some 11), none, .mv (.t 2)⟩, ⟨(some 12), none, .callv (.t 11) [(.c (.str [112, 114, 105, 118, 97, 116, 101])), (.c (.fn i_control_rules_5 []))]⟩])
  (.seq (.region [⟨(some 13), none, .mv (.t 2)⟩, ⟨(some 14), none, .callv (.t 13) [(.c (.str [112, 117, 98, 108, 105, 99])), (.c (.fn i_control_rules_6 []))]⟩])
  (.seq (.region [⟨(some 15), none, .mv (.t 2)⟩, ⟨(some 16), none, .callv (.t 15) [(.c (.str [109, 117, 115, 116, 45, 114, 101, 118, 97, 108, 105, 100, 97, 116, 101])), (.c (.fn i_control_rules_7 []))]⟩])
  (.seq (.region [⟨(some 17), none, .mv (.t 2)⟩, ⟨(some 18), none, .callv (.t 17) [(.c (.str [112, 114, 111, 120, 121, 45, 114, 101, 118, 97, 108, 105, 100, 97, 116, 101])), (.c (.fn i_control_rules_8 []))]⟩])
  (.seq (.region [⟨(some 19), none, .mv (.t 2)⟩, ⟨(some 20), none, .callv (.t 19) [(.c (.str [111, 110, 108, 121, 45, 105, 102, 45, 99, 97, 99, 104, 101, 100])), (.c (.fn i_control_rules_9 []))]⟩])
  (.seq (.region [⟨(some 21), none, .mv (.t 3)⟩, ⟨(some 22), none, .callv (.t 21) [(.c (.str [109, 97, 120, 45, 97, 103, 101])), (.c (.int .i64 0)), (.c (.int .i64 0)), (.c (.fn i_control_rules_10 []))]⟩])
  (.seq (.region [⟨(some 23), none, .mv (.t 3)⟩, ⟨(some 24), none, .callv (.t 23) [(.c (.str [115, 45, 109, 97, 120, 97, 103, 101])), (.c (.int .i64 0)), (.c (.int .i64 0)), (.c (.fn i_control_rules_11 []))]⟩])
  (.seq (.region [⟨(some 25), none, .mv (.t 3)⟩, ⟨(some 26), none, .callv (.t 25) [(.c (.str [115, 116, 97, 108, 101, 45, 119, 104, 105, 108, 101, 45, 114, 101, 118, 97, 108, 105, 100, 97, 116, 101])), (.c (.int .i64 (-1))), (.c (.int .i64 (-1))), (.c (.fn i_control_rules_12 []))]⟩])
  (.seq (.region [⟨(some 27), none, .mv (.t 3)⟩, ⟨(some 28), none, .callv (.t 27) [(.c (.str [115, 116, 97, 108, 101, 45, 105, 102, 45, 101, 114, 114, 111, 114])), (.c (.int .i64 (-1))), (.c (.int .i64 (-1))), (.c (.fn i_control_rules_13 []))]⟩])
  (.seq (.region [⟨(some 29), none, .mv (.t 3)⟩, ⟨(some 30), none, .callv (.t 29) [(.c (.str [109, 105, 110, 45, 102, 114, 101, 115, 104])), (.c (.int .i64 (-1))), (.c (.int .i64 (-1))), (.c (.fn i_control_rules_14 []))]⟩])
  (.seq (.region [⟨(some 31), none, .mv (.t 3)⟩, ⟨(some 32), none, .callv (.t 31) [(.c (.str [109, 97, 120, 45, 115, 116, 97, 108, 101])), (.c (.int .i64 2147483648)), (.c (.int .i64 (-1))), (.c (.fn i_control_rules_15 []))]⟩])
  (.seq (.region [⟨(some 33), none, .load false 1 (.t 1)⟩, ⟨(some 0), none, .mv (.t 33)⟩])
  .ret))))))))))))))))))⟩
/-- gatepost/token.Pair -/
def c_token_Pair : FnC := ⟨33, [.tmp 2, .tmp 3, .tmp 4, .tmp 5],
  (.seq (.region [⟨(some 2), none, .mv (.c (.str []))⟩, ⟨(some 3), none, .mv (.c (.str []))⟩, ⟨(some 4), none, .mv (.c (.bool false))⟩, ⟨(some 5), none, .mv (.c (.bool false))⟩])
  (.seq (.region [⟨(some 7), none, .mv (.t 0)⟩, ⟨(some 8), none, .call i_strings_Cut [(.t 7), (.c (.str [61]))]⟩, ⟨(some 6), none, .mv (.t 8)⟩, ⟨(some 9), none, .ext 0 (.t 6)⟩, ⟨(some 10), none, .ext 1 (.t 6)⟩, ⟨(some 11), none, .ext 2 (.t 6)⟩, ⟨(some 2), none, .mv (.t 9)⟩, ⟨(some 3), none, .mv (.t 10)⟩, ⟨(some 4), none, .mv (.t 11)⟩])
  (.seq (.seq (.region [⟨(some 12), none, .mv (.t 2)⟩, ⟨(some 13), none, .call i_token_Is [(.t 12)]⟩, ⟨(some 14), none, .un .not (.t 13)⟩])
  (.cond (.t 14)
    (.seq (.region [⟨(some 2), none, .mv (.c (.str []))⟩, ⟨(some 3), none, .mv (.c (.str []))⟩, ⟨(some 4), none, .mv (.c (.bool false))⟩, ⟨(some 5), none, .mv (.c (.bool false))⟩])
    .ret)
    .skip))
  (.seq (.seq (.region [⟨(some 15), none, .mv (.t 4)⟩, ⟨(some 16), none, .un .not (.t 15)⟩, ⟨(some 17), none, .mv (.t 16)⟩, ⟨(some 18), (some (17, false)), .mv (.t 3)⟩, ⟨(some 19), (some (17, false)), .call i_token_Is [(.t 18)]⟩, ⟨(some 20), none, .pick (.t 17) (.c (.bool true)) (.t 19)⟩])
  (.cond (.t 20)
    (.seq (.region [⟨(some 21), none, .mv (.t 2)⟩, ⟨(some 22), none, .mv (.t 3)⟩, ⟨(some 23), none, .mv (.t 4)⟩, ⟨(some 2), none, .mv (.t 21)⟩, ⟨(some 3), none, .mv (.t 22)⟩, ⟨(some 4), none, .mv (.t 23)⟩, ⟨(some 5), none, .mv (.c (.bool true))⟩])
    .ret)
    .skip))
  (.seq (.seq (.region [⟨(some 25), none, .mv (.t 3)⟩, ⟨(some 26), none, .call i_token_unquote [(.t 25)]⟩, ⟨(some 24), none, .mv (.t 26)⟩, ⟨(some 27), none, .ext 0 (.t 24)⟩, ⟨(some 28), none, .ext 1 (.t 24)⟩, ⟨(some 3), none, .mv (.t 27)⟩, ⟨(some 5), none, .mv (.t 28)⟩])
  (.seq (.region [⟨(some 29), none, .mv (.t 5)⟩, ⟨(some 30), none, .un .not (.t 29)⟩])
  (.cond (.t 30)
    (.seq (.region [⟨(some 2), none, .mv (.c (.str []))⟩, ⟨(some 3), none, .mv (.c (.str []))⟩, ⟨(some 4), none, .mv (.c (.bool false))⟩, ⟨(some 5), none, .mv (.c (.bool false))⟩])
    .ret)
    .skip)))
  (.seq (.region [⟨(some 31), none, .mv (.t 2)⟩, ⟨(some 32), none, .mv (.t 3)⟩, ⟨(some 2), none, .mv (.t 31)⟩, ⟨(some 3), none, .mv (.t 32)⟩, ⟨(some 4), none, .mv (.c (.bool true))⟩, ⟨(some 5), none, .mv (.c (.bool true))⟩])
  .ret))))))⟩
/-- gatepost/token.Lower -/
def c_token_Lower : FnC := ⟨29, [.tmp 2],
  (.seq (.region [⟨(some 2), none, .mv (.c (.str []))⟩])
  (.seq (.region [⟨(some 6), none, .mv (.t 0)⟩, ⟨(some 7), none, .toBytes (.t 6)⟩, ⟨(some 3), none, .mv (.t 7)⟩])
  (.seq (.seq (.region [⟨(some 8), none, .mv (.t 3)⟩, ⟨(some 9), none, .len 1 (.t 8)⟩, ⟨(some 10), none, .mv (.c (.int .i64 0))⟩])
  (.block 0 (.loop
    (.seq (.region [⟨(some 11), none, .bin .lss (.t 10) (.t 9)⟩])
    (.seq (.cond (.t 11)
      .skip
      (.exit 0))
    (.seq (.block 1 (.seq (.region [⟨(some 12), none, .mv (.t 10)⟩, ⟨(some 13), none, .ixaSl 1 (.t 8) (.t 10)⟩, ⟨(some 14), none, .load false 1 (.t 13)⟩, ⟨(some 4), none, .mv (.t 12)⟩, ⟨(some 5), none, .mv (.t 14)⟩])
    (.seq (.region [⟨(some 15), none, .mv (.t 5)⟩, ⟨(some 16), none, .bin .geq (.t 15) (.c (.int .u8 65))⟩, ⟨(some 17), none, .mv (.t 16)⟩, ⟨(some 18), (some (17, true)), .mv (.t 5)⟩, ⟨(some 19), (some (17, true)), .bin .leq (.t 18) (.c (.int .u8 90))⟩, ⟨(some 20), none, .pick (.t 17) (.t 19) (.c (.bool false))⟩])
    (.cond (.t 20)
      (.region [⟨(some 21), none, .mv (.t 3)⟩, ⟨(some 22), none, .mv (.t 4)⟩, ⟨(some 23), none, .mv (.t 5)⟩, ⟨(some 24), none, .bin .or (.t 23) (.c (.int .u8 32))⟩, ⟨(some 25), none, .ixaSl 1 (.t 21) (.t 22)⟩, ⟨none, none, .store 1 (.t 25) (.t 24)⟩])
      .skip))))
    (.region [⟨(some 26), none, .bin .add (.t 10) (.c (.int .i64 1))⟩, ⟨(some 10), none, .mv (.t 26)⟩])))))))
  (.seq (.region [⟨(some 27), none, .mv (.t 3)⟩, ⟨(some 28), none, .toStr (.t 27)⟩, ⟨(some 2), none, .mv (.t 28)⟩])
  .ret))))⟩
/-- (gatepost/control.rule).value -/
def c__gatepost_control_rule__value : FnC := ⟨22, [.tmp 6],
  (.seq (.region [⟨(some 3), none, .box (.t 0)⟩, ⟨(some 6), none, .mv (.c (.int .i64 0))⟩])
  (.seq (.seq (.region [⟨(some 9), none, .mv (.t 2)⟩, ⟨(some 10), none, .un .not (.t 9)⟩])
  (.cond (.t 10)
    (.seq (.region [⟨(some 11), none, .faddr 2 (.t 3)⟩, ⟨(some 12), none, .load false 1 (.t 11)⟩, ⟨(some 6), none, .mv (.t 12)⟩])
    .ret)
    .skip))
  (.seq (.seq (.region [⟨(some 14), none, .mv (.t 1)⟩, ⟨(some 15), none, .call i_token_Number [(.t 14), (.c (.int .i64 2147483648))]⟩, ⟨(some 13), none, .mv (.t 15)⟩, ⟨(some 16), none, .ext 0 (.t 13)⟩, ⟨(some 17), none, .ext 1 (.t 13)⟩, ⟨(some 7), none, .mv (.t 16)⟩, ⟨(some 8), none, .mv (.t 17)⟩])
  (.seq (.region [⟨(some 18), none, .mv (.t 8)⟩])
  (.cond (.t 18)
    (.seq (.region [⟨(some 19), none, .mv (.t 7)⟩, ⟨(some 6), none, .mv (.t 19)⟩])
    .ret)
    .skip)))
  (.seq (.region [⟨(some 20), none, .faddr 3 (.t 3)⟩, ⟨(some 21), none, .load false 1 (.t 20)⟩, ⟨(some 6), none, .mv (.t 21)⟩])
  .ret))))⟩
/-- gatepost/gatepostref08.None -/
def c_gatepostref08_None : FnC := ⟨2, [.cell 0 true 13],
  (.seq (.region [⟨(some 0), none, .boxz [(.bool false), (.bool false), (.bool false), (.bool false), (.bool false), (.bool false), (.bool false), (.int .i64 0), (.int .i64 0), (.int .i64 0), (.int .i64 0), (.int .i64 0), (.int .i64 0)]⟩])
  (.seq (.region [⟨(some 1), none, .build [(.bool false), (.bool false), (.bool false), (.bool false), (.bool false), (.bool false), (.bool false), (.int .i64 0), (.int .i64 0), (.int .i64 0), (.int .i64 0), (.int .i64 0), (.int .i64 0)] [(7, 1, (.c (.int .i64 (-1)))), (8, 1, (.c (.int .i64 (-1)))), (9, 1, (.c (.int .i64 (-1)))), (10, 1, (.c (.int .i64 (-1)))), (11, 1, (.c (.int .i64 (-1)))), (12, 1, (.c (.int .i64 (-1))))]⟩, ⟨none, none, .store 13 (.t 0) (.t 1)⟩])
  .ret))⟩
/-- gatepost/gatepostref01.Split -/
def c_gatepostref01_Split : FnC := ⟨74, [.tmp 2, .tmp 3],
  (.seq (.region [⟨(some 2), none, .mv (.c .nsl)⟩, ⟨(some 3), none, .mv (.c (.bool false))⟩])
  (.seq (.region [⟨(some 4), none, .mv (.c .nsl)⟩])
  (.seq (.region [⟨(some 5), none, .mv (.c (.str []))⟩])
  (.seq (.region [⟨(some 6), none, .mv (.c (.bool false))⟩])
  (.seq (.seq (.region [⟨(some 7), none, .mv (.c (.int .i64 0))⟩])
  (.block 0 (.loop
    (.seq (.seq (.region [⟨(some 9), none, .mv (.t 7)⟩, ⟨(some 10), none, .mv (.t 0)⟩, ⟨(some 11), none, .len 0 (.t 10)⟩, ⟨(some 12), none, .bin .lss (.t 9) (.t 11)⟩])
    (.cond (.t 12)
      .skip
      (.exit 0)))
    (.seq (.block 1 (.seq (.region [⟨(some 15), none, .mv (.t 0)⟩, ⟨(some 16), none, .mv (.t 7)⟩, ⟨(some 17), none, .ixStr (.t 15) (.t 16)⟩, ⟨(some 8), none, .mv (.t 17)⟩])
    (.seq (.seq (.region [⟨(some 18), none, .mv (.t 6)⟩, ⟨(some 19), none, .un .not (.t 18)⟩, ⟨(some 20), none, .mv (.t 19)⟩, ⟨(some 21), (some (20, true)), .mv (.t 8)⟩, ⟨(some 22), (some (20, true)), .bin .eql (.t 21) (.c (.int .u8 44))⟩, ⟨(some 23), none, .pick (.t 20) (.t 22) (.c (.bool false))⟩])
    (.cond (.t 23)
      (.seq (.region [⟨(some 24), none, .mv (.t 5)⟩, ⟨(some 25), none, .call i_gatepostref01_Trim [(.t 24)]⟩, ⟨(some 5), none, .mv (.t 25)⟩])
      (.seq (.seq (.region [⟨(some 26), none, .mv (.t 5)⟩, ⟨(some 27), none, .bin .neq (.t 26) (.c (.str []))⟩])
      (.cond (.t 27)
        (.region [⟨(some 28), none, .mv (.t 4)⟩, ⟨(some 29), none, .mv (.t 5)⟩, ⟨(some 30), none, .bsl 1 [(.t 29)]⟩, ⟨(some 31), none, .app 1 16 false (.t 28) (.t 30)⟩, ⟨(some 4), none, .mv (.t 31)⟩])
        .skip))
      (.seq (.region [⟨(some 5), none, .mv (.c (.str []))⟩])
      (.exit 1))))
      .skip))
    (.seq (.region [⟨(some 32), none, .mv (.t 5)⟩, ⟨(some 33), none, .mv (.t 0)⟩, ⟨(some 34), none, .mv (.t 7)⟩, ⟨(some 35), none, .mv (.t 7)⟩, ⟨(some 36), none, .bin .add (.t 35) (.c (.int .i64 1))⟩, ⟨(some 37), none, .slstr (.t 33) (some (.t 34)) (some (.t 36))⟩, ⟨(some 38), none, .bin .add (.t 32) (.t 37)⟩, ⟨(some 5), none, .mv (.t 38)⟩])
    (.seq (.seq (.region [⟨(some 39), none, .mv (.t 8)⟩, ⟨(some 40), none, .bin .eql (.t 39) (.c (.int .u8 34))⟩])
    (.cond (.t 40)
      (.region [⟨(some 41), none, .mv (.t 6)⟩, ⟨(some 42), none, .un .not (.t 41)⟩, ⟨(some 6), none, .mv (.t 42)⟩])
      .skip))
    (.seq (.region [⟨(some 43), none, .mv (.t 6)⟩, ⟨(some 44), none, .mv (.t 43)⟩, ⟨(some 45), (some (44, true)), .mv (.t 8)⟩, ⟨(some 46), (some (44, true)), .bin .eql (.t 45) (.c (.int .u8 92))⟩, ⟨(some 47), none, .pick (.t 44) (.t 46) (.c (.bool false))⟩, ⟨(some 48), none, .mv (.t 47)⟩, ⟨(some 49), (some (48, true)), .mv (.t 7)⟩, ⟨(some 50), (some (48, true)), .bin .add (.t 49) (.c (.int .i64 1))⟩, ⟨(some 51), (some (48, true)), .mv (.t 0)⟩, ⟨(some 52), (some (48, true)), .len 0 (.t 51)⟩, ⟨(some 53), (some (48, true)), .bin .lss (.t 50) (.t 52)⟩, ⟨(some 54), none, .pick (.t 48) (.t 53) (.c (.bool false))⟩])
    (.cond (.t 54)
      (.seq (.region [⟨(some 55), none, .mv (.t 7)⟩, ⟨(some 56), none, .bin .add (.t 55) (.c (.int .i64 1))⟩, ⟨(some 7), none, .mv (.t 56)⟩])
      (.region [⟨(some 57), none, .mv (.t 5)⟩, ⟨(some 58), none, .mv (.t 0)⟩, ⟨(some 59), none, .mv (.t 7)⟩, ⟨(some 60), none, .mv (.t 7)⟩, ⟨(some 61), none, .bin .add (.t 60) (.c (.int .i64 1))⟩, ⟨(some 62), none, .slstr (.t 58) (some (.t 59)) (some (.t 61))⟩, ⟨(some 63), none, .bin .add (.t 57) (.t 62)⟩, ⟨(some 5), none, .mv (.t 63)⟩]))
      .skip)))))))
    (.region [⟨(some 13), none, .mv (.t 7)⟩, ⟨(some 14), none, .bin .add (.t 13) (.c (.int .i64 1))⟩, ⟨(some 7), none, .mv (.t 14)⟩]))))))
  (.seq (.region [⟨(some 64), none, .mv (.t 5)⟩, ⟨(some 65), none, .call i_gatepostref01_Trim [(.t 64)]⟩, ⟨(some 5), none, .mv (.t 65)⟩])
  (.seq (.seq (.region [⟨(some 66), none, .mv (.t 6)⟩])
  (.cond (.t 66)
    (.seq (.region [⟨(some 2), none, .mv (.c .nsl)⟩, ⟨(some 3), none, .mv (.c (.bool false))⟩])
    .ret)
    .skip))
  (.seq (.seq (.region [⟨(some 67), none, .mv (.t 5)⟩, ⟨(some 68), none, .bin .neq (.t 67) (.c (.str []))⟩])
  (.cond (.t 68)
    (.region [⟨(some 69), none, .mv (.t 4)⟩, ⟨(some 70), none, .mv (.t 5)⟩, ⟨(some 71), none, .bsl 1 [(.t 70)]⟩, ⟨(some 72), none, .app 1 16 false (.t 69) (.t 71)⟩, ⟨(some 4), none, .mv (.t 72)⟩])
    .skip))
  (.seq (.region [⟨(some 73), none, .mv (.t 4)⟩, ⟨(some 2), none, .mv (.t 73)⟩, ⟨(some 3), none, .mv (.c (.bool true))⟩])
  .ret)))))))))⟩
/-- gatepost/gatepostref01.Pair -/
def c_gatepostref01_Pair : FnC := ⟨53, [.tmp 2, .tmp 3, .tmp 4, .tmp 5],
  (.seq (.region [⟨(some 2), none, .mv (.c (.str []))⟩, ⟨(some 3), none, .mv (.c (.str []))⟩, ⟨(some 4), none, .mv (.c (.bool false))⟩, ⟨(some 5), none, .mv (.c (.bool false))⟩])
  (.seq (.region [⟨(some 6), none, .mv (.c (.int .i64 0))⟩])
  (.seq (.block 0 (.loop
    (.seq (.seq (.region [⟨(some 10), none, .mv (.t 6)⟩, ⟨(some 11), none, .mv (.t 0)⟩, ⟨(some 12), none, .len 0 (.t 11)⟩, ⟨(some 13), none, .bin .lss (.t 10) (.t 12)⟩, ⟨(some 14), none, .mv (.t 13)⟩, ⟨(some 15), (some (14, true)), .mv (.t 0)⟩, ⟨(some 16), (some (14, true)), .mv (.t 6)⟩, ⟨(some 17), (some (14, true)), .ixStr (.t 15) (.t 16)⟩, ⟨(some 18), (some (14, true)), .bin .neq (.t 17) (.c (.int .u8 61))⟩, ⟨(some 19), none, .pick (.t 14) (.t 18) (.c (.bool false))⟩])
    (.cond (.t 19)
      .skip
      (.exit 0)))
    (.block 1 (.region [⟨(some 20), none, .mv (.t 6)⟩, ⟨(some 21), none, .bin .add (.t 20) (.c (.int .i64 1))⟩, ⟨(some 6), none, .mv (.t 21)⟩])))))
  (.seq (.seq (.region [⟨(some 22), none, .mv (.t 0)⟩, ⟨(some 23), none, .mv (.t 6)⟩, ⟨(some 24), none, .slstr (.t 22) none (some (.t 23))⟩, ⟨(some 25), none, .call i_gatepostref01_Is [(.t 24)]⟩, ⟨(some 26), none, .un .not (.t 25)⟩])
  (.cond (.t 26)
    (.seq (.region [⟨(some 2), none, .mv (.c (.str []))⟩, ⟨(some 3), none, .mv (.c (.str []))⟩, ⟨(some 4), none, .mv (.c (.bool false))⟩, ⟨(some 5), none, .mv (.c (.bool false))⟩])
    .ret)
    .skip))
  (.seq (.seq (.region [⟨(some 27), none, .mv (.t 6)⟩, ⟨(some 28), none, .mv (.t 0)⟩, ⟨(some 29), none, .len 0 (.t 28)⟩, ⟨(some 30), none, .bin .eql (.t 27) (.t 29)⟩])
  (.cond (.t 30)
    (.seq (.region [⟨(some 31), none, .mv (.t 0)⟩, ⟨(some 2), none, .mv (.t 31)⟩, ⟨(some 3), none, .mv (.c (.str []))⟩, ⟨(some 4), none, .mv (.c (.bool false))⟩, ⟨(some 5), none, .mv (.c (.bool true))⟩])
    .ret)
    .skip))
  (.seq (.region [⟨(some 32), none, .mv (.t 0)⟩, ⟨(some 33), none, .mv (.t 6)⟩, ⟨(some 34), none, .bin .add (.t 33) (.c (.int .i64 1))⟩, ⟨(some 35), none, .slstr (.t 32) (some (.t 34)) none⟩, ⟨(some 7), none, .mv (.t 35)⟩])
  (.seq (.seq (.region [⟨(some 36), none, .mv (.t 7)⟩, ⟨(some 37), none, .call i_gatepostref01_Is [(.t 36)]⟩])
  (.cond (.t 37)
    (.seq (.region [⟨(some 38), none, .mv (.t 0)⟩, ⟨(some 39), none, .mv (.t 6)⟩, ⟨(some 40), none, .slstr (.t 38) none (some (.t 39))⟩, ⟨(some 41), none, .mv (.t 7)⟩, ⟨(some 2), none, .mv (.t 40)⟩, ⟨(some 3), none, .mv (.t 41)⟩, ⟨(some 4), none, .mv (.c (.bool true))⟩, ⟨(some 5), none, .mv (.c (.bool true))⟩])
    .ret)
    .skip))
  (.seq (.region [⟨(some 43), none, .mv (.t 7)⟩, ⟨(some 44), none, .call i_gatepostref01_unquote [(.t 43)]⟩, ⟨(some 42), none, .mv (.t 44)⟩, ⟨(some 45), none, .ext 0 (.t 42)⟩, ⟨(some 46), none, .ext 1 (.t 42)⟩, ⟨(some 8), none, .mv (.t 45)⟩, ⟨(some 9), none, .mv (.t 46)⟩])
  (.seq (.seq (.region [⟨(some 47), none, .mv (.t 9)⟩, ⟨(some 48), none, .un .not (.t 47)⟩])
  (.cond (.t 48)
    (.seq (.region [⟨(some 2), none, .mv (.c (.str []))⟩, ⟨(some 3), none, .mv (.c (.str []))⟩, ⟨(some 4), none, .mv (.c (.bool false))⟩, ⟨(some 5), none, .mv (.c (.bool false))⟩])
    .ret)
    .skip))
  (.seq (.region [⟨(some 49), none, .mv (.t 0)⟩, ⟨(some 50), none, .mv (.t 6)⟩, ⟨(some 51), none, .slstr (.t 49) none (some (.t 50))⟩, ⟨(some 52), none, .mv (.t 8)⟩, ⟨(some 2), none, .mv (.t 51)⟩, ⟨(some 3), none, .mv (.t 52)⟩, ⟨(some 4), none, .mv (.c (.bool true))⟩, ⟨(some 5), none, .mv (.c (.bool true))⟩])
  .ret))))))))))⟩
/-- gatepost/gatepostref01.Number -/
def c_gatepostref01_Number : FnC := ⟨61, [.tmp 4, .tmp 5],
  (.seq (.region [⟨(some 4), none, .mv (.c (.int .i64 0))⟩, ⟨(some 5), none, .mv (.c (.bool false))⟩])
  (.seq (.seq (.region [⟨(some 10), none, .mv (.t 1)⟩, ⟨(some 11), none, .bin .lss (.t 10) (.c (.int .i64 0))⟩, ⟨(some 12), none, .mv (.t 11)⟩, ⟨(some 13), (some (12, false)), .mv (.t 0)⟩, ⟨(some 14), (some (12, false)), .len 0 (.t 13)⟩, ⟨(some 15), (some (12, false)), .bin .eql (.t 14) (.c (.int .i64 0))⟩, ⟨(some 16), none, .pick (.t 12) (.c (.bool true)) (.t 15)⟩])
  (.cond (.t 16)
    (.seq (.region [⟨(some 4), none, .mv (.c (.int .i64 0))⟩, ⟨(some 5), none, .mv (.c (.bool false))⟩])
    .ret)
    .skip))
  (.seq (.region [⟨(some 6), none, .mv (.c (.int .i64 0))⟩])
  (.seq (.seq (.region [⟨(some 7), none, .mv (.c (.int .i64 0))⟩])
  (.block 0 (.loop
    (.seq (.seq (.region [⟨(some 17), none, .mv (.t 7)⟩, ⟨(some 18), none, .mv (.t 0)⟩, ⟨(some 19), none, .len 0 (.t 18)⟩, ⟨(some 20), none, .bin .lss (.t 17) (.t 19)⟩])
    (.cond (.t 20)
      .skip
      (.exit 0)))
    (.seq (.block 1 (.seq (.region [⟨(some 23), none, .mv (.t 0)⟩, ⟨(some 24), none, .mv (.t 7)⟩, ⟨(some 25), none, .ixStr (.t 23) (.t 24)⟩, ⟨(some 26), none, .bin .lss (.t 25) (.c (.int .u8 48))⟩, ⟨(some 27), none, .mv (.t 26)⟩, ⟨(some 28), (some (27, false)), .mv (.t 0)⟩, ⟨(some 29), (some (27, false)), .mv (.t 7)⟩, ⟨(some 30), (some (27, false)), .ixStr (.t 28) (.t 29)⟩, ⟨(some 31), (some (27, false)), .bin .gtr (.t 30) (.c (.int .u8 57))⟩, ⟨(some 32), none, .pick (.t 27) (.c (.bool true)) (.t 31)⟩])
    (.cond (.t 32)
      (.seq (.region [⟨(some 4), none, .mv (.c (.int .i64 0))⟩, ⟨(some 5), none, .mv (.c (.bool false))⟩])
      .ret)
      .skip)))
    (.region [⟨(some 21), none, .mv (.t 7)⟩, ⟨(some 22), none, .bin .add (.t 21) (.c (.int .i64 1))⟩, ⟨(some 7), none, .mv (.t 22)⟩]))))))
  (.seq (.seq (.region [⟨(some 8), none, .mv (.c (.int .i64 0))⟩])
  (.block 2 (.loop
    (.seq (.seq (.region [⟨(some 33), none, .mv (.t 8)⟩, ⟨(some 34), none, .mv (.t 0)⟩, ⟨(some 35), none, .len 0 (.t 34)⟩, ⟨(some 36), none, .bin .lss (.t 33) (.t 35)⟩])
    (.cond (.t 36)
      .skip
      (.exit 2)))
    (.seq (.block 3 (.seq (.region [⟨(some 39), none, .mv (.t 0)⟩, ⟨(some 40), none, .mv (.t 8)⟩, ⟨(some 41), none, .ixStr (.t 39) (.t 40)⟩, ⟨(some 42), none, .bin .sub (.t 41) (.c (.int .u8 48))⟩, ⟨(some 43), none, .toInt .i64 (.t 42)⟩, ⟨(some 9), none, .mv (.t 43)⟩])
    (.seq (.seq (.region [⟨(some 44), none, .mv (.t 6)⟩, ⟨(some 45), none, .mv (.t 1)⟩, ⟨(some 46), none, .mv (.t 9)⟩, ⟨(some 47), none, .bin .sub (.t 45) (.t 46)⟩, ⟨(some 48), none, .bin .quo (.t 47) (.c (.int .i64 10))⟩, ⟨(some 49), none, .bin .gtr (.t 44) (.t 48)⟩, ⟨(some 50), none, .mv (.t 49)⟩, ⟨(some 51), (some (50, false)), .mv (.t 1)⟩, ⟨(some 52), (some (50, false)), .mv (.t 9)⟩, ⟨(some 53), (some (50, false)), .bin .lss (.t 51) (.t 52)⟩, ⟨(some 54), none, .pick (.t 50) (.c (.bool true)) (.t 53)⟩])
    (.cond (.t 54)
      (.seq (.region [⟨(some 55), none, .mv (.t 1)⟩, ⟨(some 4), none, .mv (.t 55)⟩, ⟨(some 5), none, .mv (.c (.bool true))⟩])
      .ret)
      .skip))
    (.region [⟨(some 56), none, .mv (.t 6)⟩, ⟨(some 57), none, .bin .mul (.t 56) (.c (.int .i64 10))⟩, ⟨(some 58), none, .mv (.t 9)⟩, ⟨(some 59), none, .bin .add (.t 57) (.t 58)⟩, ⟨(some 6), none, .mv (.t 59)⟩]))))
    (.region [⟨(some 37), none, .mv (.t 8)⟩, ⟨(some 38), none, .bin .add (.t 37) (.c (.int .i64 1))⟩, ⟨(some 8), none, .mv (.t 38)⟩]))))))
  (.seq (.region [⟨(some 60), none, .mv (.t 6)⟩, ⟨(some 4), none, .mv (.t 60)⟩, ⟨(some 5), none, .mv (.c (.bool true))⟩])
  .ret))))))⟩
/-- gatepost/gatepostref01.Lower -/
def c_gatepostref01_Lower : FnC := ⟨29, [.tmp 2],
  (.seq (.region [⟨(some 2), none, .mv (.c (.str []))⟩])
  (.seq (.region [⟨(some 3), none, .mv (.c (.str []))⟩])
  (.seq (.seq (.region [⟨(some 4), none, .mv (.c (.int .i64 0))⟩])
  (.block 0 (.loop
    (.seq (.seq (.region [⟨(some 6), none, .mv (.t 4)⟩, ⟨(some 7), none, .mv (.t 0)⟩, ⟨(some 8), none, .len 0 (.t 7)⟩, ⟨(some 9), none, .bin .lss (.t 6) (.t 8)⟩])
    (.cond (.t 9)
      .skip
      (.exit 0)))
    (.seq (.block 1 (.seq (.region [⟨(some 12), none, .mv (.t 0)⟩, ⟨(some 13), none, .mv (.t 4)⟩, ⟨(some 14), none, .ixStr (.t 12) (.t 13)⟩, ⟨(some 5), none, .mv (.t 14)⟩])
    (.seq (.seq (.region [⟨(some 15), none, .mv (.t 5)⟩, ⟨(some 16), none, .bin .geq (.t 15) (.c (.int .u8 65))⟩, ⟨(some 17), none, .mv (.t 16)⟩, ⟨(some 18), (some (17, true)), .mv (.t 5)⟩, ⟨(some 19), (some (17, true)), .bin .leq (.t 18) (.c (.int .u8 90))⟩, ⟨(some 20), none, .pick (.t 17) (.t 19) (.c (.bool false))⟩])
    (.cond (.t 20)
      (.region [⟨(some 21), none, .mv (.t 5)⟩, ⟨(some 22), none, .bin .add (.t 21) (.c (.int .u8 32))⟩, ⟨(some 5), none, .mv (.t 22)⟩])
      .skip))
    (.region [⟨(some 23), none, .mv (.t 3)⟩, ⟨(some 24), none, .mv (.t 5)⟩, ⟨(some 25), none, .bsl 1 [(.t 24)]⟩, ⟨(some 26), none, .toStr (.t 25)⟩, ⟨(some 27), none, .bin .add (.t 23) (.t 26)⟩, ⟨(some 3), none, .mv (.t 27)⟩]))))
    (.region [⟨(some 10), none, .mv (.t 4)⟩, ⟨(some 11), none, .bin .add (.t 10) (.c (.int .i64 1))⟩, ⟨(some 4), none, .mv (.t 11)⟩]))))))
  (.seq (.region [⟨(some 28), none, .mv (.t 3)⟩, ⟨(some 2), none, .mv (.t 28)⟩])
  .ret))))⟩
/-- gatepost/gatepostref08.least -/
def c_gatepostref08_least : FnC := ⟨14, [.tmp 4],
  (.seq (.region [⟨(some 4), none, .mv (.c (.int .i64 0))⟩])
  (.seq (.seq (.region [⟨(some 5), none, .mv (.t 0)⟩, ⟨(some 6), none, .bin .lss (.t 5) (.c (.int .i64 0))⟩, ⟨(some 7), none, .mv (.t 6)⟩, ⟨(some 8), (some (7, false)), .mv (.t 1)⟩, ⟨(some 9), (some (7, false)), .mv (.t 0)⟩, ⟨(some 10), (some (7, false)), .bin .lss (.t 8) (.t 9)⟩, ⟨(some 11), none, .pick (.t 7) (.c (.bool true)) (.t 10)⟩])
  (.cond (.t 11)
    (.seq (.region [⟨(some 12), none, .mv (.t 1)⟩, ⟨(some 4), none, .mv (.t 12)⟩])
    .ret)
    .skip))
  (.seq (.region [⟨(some 13), none, .mv (.t 0)⟩, ⟨(some 4), none, .mv (.t 13)⟩])
  .ret)))⟩
/-- gatepost/field.Get -/
def c_field_Get : FnC := ⟨29, [.tmp 4, .tmp 5],
  (.seq (.region [⟨(some 4), none, .mv (.c (.str []))⟩, ⟨(some 5), none, .mv (.c (.int .i64 0))⟩])
  (.seq (.region [⟨(some 6), none, .mv (.c .nsl)⟩])
  (.seq (.seq (.region [⟨(some 9), none, .mv (.t 0)⟩, ⟨(some 10), none, .len 1 (.t 9)⟩, ⟨(some 11), none, .mv (.c (.int .i64 0))⟩])
  (.block 0 (.loop
    (.seq (.region [⟨(some 12), none, .bin .lss (.t 11) (.t 10)⟩])
    (.seq (.cond (.t 12)
      .skip
      (.exit 0))
    (.seq (.block 1 (.seq (.region [⟨(some 13), none, .ixaSl 2 (.t 9) (.t 11)⟩, ⟨(some 14), none, .load true 2 (.t 13)⟩, ⟨(some 8), none, .boxz [(.str []), (.str [])]⟩, ⟨none, none, .store 2 (.t 8) (.t 14)⟩])
    (.seq (.region [⟨(some 15), none, .faddr 0 (.t 8)⟩, ⟨(some 16), none, .load false 1 (.t 15)⟩, ⟨(some 17), none, .mv (.t 1)⟩, ⟨(some 18), none, .call i_token_Same [(.t 16), (.t 17)]⟩])
    (.cond (.t 18)
      (.region [⟨(some 19), none, .mv (.t 6)⟩, ⟨(some 20), none, .faddr 1 (.t 8)⟩, ⟨(some 21), none, .load false 1 (.t 20)⟩, ⟨(some 22), none, .bsl 1 [(.t 21)]⟩, ⟨(some 23), none, .app 1 16 false (.t 19) (.t 22)⟩, ⟨(some 6), none, .mv (.t 23)⟩])
      .skip))))
    (.region [⟨(some 24), none, .bin .add (.t 11) (.c (.int .i64 1))⟩, ⟨(some 11), none, .mv (.t 24)⟩])))))))
  (.seq (.region [⟨(some 25), none, .mv (.t 6)⟩, ⟨(some 26), none, .call i_strings_Join [(.t 25), (.c (.str [44, 32]))]⟩, ⟨(some 27), none, .mv (.t 6)⟩, ⟨(some 28), none, .len 1 (.t 27)⟩, ⟨(some 4), none, .mv (.t 26)⟩, ⟨(some 5), none, .mv (.t 28)⟩])
  .ret))))⟩
/-- slices.Contains[[]string,string] -/
def c_slices_Contains___string_string_ : FnC := ⟨9, [.tmp 4],
  (.seq (.region [⟨(some 4), none, .mv (.c (.bool false))⟩])
  (.seq (.region [⟨(some 5), none, .mv (.t 0)⟩, ⟨(some 6), none, .mv (.t 1)⟩, ⟨(some 7), none, .call i_slices_Index___string_string_ [(.t 5), (.t 6)]⟩, ⟨(some 8), none, .bin .geq (.t 7) (.c (.int .i64 0))⟩, ⟨(some 4), none, .mv (.t 8)⟩])
  .ret))⟩
/-- gatepost/gatepostref04.Get -/
def c_gatepostref04_Get : FnC := ⟨37, [.tmp 4, .tmp 5],
  (.seq (.region [⟨(some 4), none, .mv (.c (.str []))⟩, ⟨(some 5), none, .mv (.c (.int .i64 0))⟩])
  (.seq (.region [⟨(some 6), none, .mv (.c (.str []))⟩])
  (.seq (.region [⟨(some 7), none, .mv (.c (.int .i64 0))⟩])
  (.seq (.seq (.region [⟨(some 8), none, .mv (.c (.int .i64 0))⟩])
  (.block 0 (.loop
    (.seq (.seq (.region [⟨(some 9), none, .mv (.t 8)⟩, ⟨(some 10), none, .mv (.t 0)⟩, ⟨(some 11), none, .len 1 (.t 10)⟩, ⟨(some 12), none, .bin .lss (.t 9) (.t 11)⟩])
    (.cond (.t 12)
      .skip
      (.exit 0)))
    (.seq (.block 1 (.seq (.region [⟨(some 15), none, .mv (.t 0)⟩, ⟨(some 16), none, .mv (.t 8)⟩, ⟨(some 17), none, .ixaSl 2 (.t 15) (.t 16)⟩, ⟨(some 18), none, .faddr 0 (.t 17)⟩, ⟨(some 19), none, .load false 1 (.t 18)⟩, ⟨(some 20), none, .mv (.t 1)⟩, ⟨(some 21), none, .call i_gatepostref01_Same [(.t 19), (.t 20)]⟩])
    (.cond (.t 21)
      (.seq (.seq (.region [⟨(some 22), none, .mv (.t 7)⟩, ⟨(some 23), none, .bin .gtr (.t 22) (.c (.int .i64 0))⟩])
      (.cond (.t 23)
        (.region [⟨(some 24), none, .mv (.t 6)⟩, ⟨(some 25), none, .bin .add (.t 24) (.c (.str [44, 32]))⟩, ⟨(some 6), none, .mv (.t 25)⟩])
        .skip))
      (.seq (.region [⟨(some 26), none, .mv (.t 6)⟩, ⟨(some 27), none, .mv (.t 0)⟩, ⟨(some 28), none, .mv (.t 8)⟩, ⟨(some 29), none, .ixaSl 2 (.t 27) (.t 28)⟩, ⟨(some 30), none, .faddr 1 (.t 29)⟩, ⟨(some 31), none, .load false 1 (.t 30)⟩, ⟨(some 32), none, .bin .add (.t 26) (.t 31)⟩, ⟨(some 6), none, .mv (.t 32)⟩])
      (.region [⟨(some 33), none, .mv (.t 7)⟩, ⟨(some 34), none, .bin .add (.t 33) (.c (.int .i64 1))⟩, ⟨(some 7), none, .mv (.t 34)⟩])))
      .skip)))
    (.region [⟨(some 13), none, .mv (.t 8)⟩, ⟨(some 14), none, .bin .add (.t 13) (.c (.int .i64 1))⟩, ⟨(some 8), none, .mv (.t 14)⟩]))))))
  (.seq (.region [⟨(some 35), none, .mv (.t 6)⟩, ⟨(some 36), none, .mv (.t 7)⟩, ⟨(some 4), none, .mv (.t 35)⟩, ⟨(some 5), none, .mv (.t 36)⟩])
  .ret)))))⟩
/-- gatepost/token.Split$1 -/
def c_token_Split_1 : FnC := ⟨19, [],
  (.seq (.seq (.region [⟨(some 6), none, .load false 1 (.t 1)⟩, ⟨(some 7), none, .load false 1 (.t 2)⟩, ⟨(some 8), none, .mv (.t 0)⟩, ⟨(some 9), none, .slstr (.t 6) (some (.t 7)) (some (.t 8))⟩, ⟨(some 10), none, .call i_token_Trim [(.t 9)]⟩, ⟨(some 5), none, .mv (.t 10)⟩])
  (.seq (.region [⟨(some 11), none, .mv (.t 5)⟩, ⟨(some 12), none, .bin .neq (.t 11) (.c (.str []))⟩])
  (.cond (.t 12)
    (.region [⟨(some 13), none, .load false 1 (.t 3)⟩, ⟨(some 14), none, .mv (.t 5)⟩, ⟨(some 15), none, .bsl 1 [(.t 14)]⟩, ⟨(some 16), none, .app 1 16 false (.t 13) (.t 15)⟩, ⟨none, none, .store 1 (.t 3) (.t 16)⟩])
    .skip)))
  (.region [⟨(some 17), none, .mv (.t 0)⟩, ⟨(some 18), none, .bin .add (.t 17) (.c (.int .i64 1))⟩, ⟨none, none, .store 1 (.t 2) (.t 18)⟩]))⟩
/-- gatepost/token.Trim -/
def c_token_Trim : FnC := ⟨5, [.tmp 2],
  (.seq (.region [⟨(some 2), none, .mv (.c (.str []))⟩])
  (.seq (.region [⟨(some 3), none, .mv (.t 0)⟩, ⟨(some 4), none, .call i_strings_Trim [(.t 3), (.c (.str [32, 9]))]⟩, ⟨(some 2), none, .mv (.t 4)⟩])
  .ret))⟩
/-- gatepost/control.rules$1 -/
def c_control_rules_1 : FnC := ⟨9, [],
  (.region [⟨(some 5), none, .load false 1 (.t 2)⟩, ⟨(some 6), none, .mv (.t 0)⟩, ⟨(some 7), none, .mv (.t 1)⟩, ⟨(some 8), none, .build [.nfn, .nfn, (.int .i64 0), (.int .i64 0)] [(0, 1, (.t 7))]⟩, ⟨none, none, .mapset .s (.t 5) (.t 6) (.t 8)⟩])⟩
/-- gatepost/control.rules$2 -/
def c_control_rules_2 : FnC := ⟨15, [],
  (.region [⟨(some 9), none, .load false 1 (.t 4)⟩, ⟨(some 10), none, .mv (.t 0)⟩, ⟨(some 11), none, .mv (.t 3)⟩, ⟨(some 12), none, .mv (.t 1)⟩, ⟨(some 13), none, .mv (.t 2)⟩, ⟨(some 14), none, .build [.nfn, .nfn, (.int .i64 0), (.int .i64 0)] [(1, 1, (.t 11)), (2, 1, (.t 12)), (3, 1, (.t 13))]⟩, ⟨none, none, .mapset .s (.t 9) (.t 10) (.t 14)⟩])⟩
/-- gatepost/control.rules$3 -/
def c_control_rules_3 : FnC := ⟨5, [],
  (.region [⟨(some 2), none, .mv (.t 0)⟩, ⟨(some 3), none, .nilck (.t 2)⟩, ⟨(some 4), none, .faddr 0 (.t 3)⟩, ⟨none, none, .store 1 (.t 4) (.c (.bool true))⟩])⟩
/-- gatepost/control.rules$4 -/
def c_control_rules_4 : FnC := ⟨5, [],
  (.region [⟨(some 2), none, .mv (.t 0)⟩, ⟨(some 3), none, .nilck (.t 2)⟩, ⟨(some 4), none, .faddr 1 (.t 3)⟩, ⟨none, none, .store 1 (.t 4) (.c (.bool true))⟩])⟩
/-- gatepost/control.rules$5 -/
def c_control_rules_5 : FnC := ⟨5, [],
  (.region [⟨(some 2), none, .mv (.t 0)⟩, ⟨(some 3), none, .nilck (.t 2)⟩, ⟨(some 4), none, .faddr 2 (.t 3)⟩, ⟨none, none, .store 1 (.t 4) (.c (.bool true))⟩])⟩
/-- gatepost/control.rules$6 -/
def c_control_rules_6 : FnC := ⟨5, [],
  (.region [⟨(some 2), none, .mv (.t 0)⟩, ⟨(some 3), none, .nilck (.t 2)⟩, ⟨(some 4), none, .faddr 3 (.t 3)⟩, ⟨none, none, .store 1 (.t 4) (.c (.bool true))⟩])⟩
/-- gatepost/control.rules$7 -/
def c_control_rules_7 : FnC := ⟨5, [],
  (.region [⟨(some 2), none, .mv (.t 0)⟩, ⟨(some 3), none, .nilck (.t 2)⟩, ⟨(some 4), none, .faddr 4 (.t 3)⟩, ⟨none, none, .store 1 (.t 4) (.c (.bool true))⟩])⟩
/-- gatepost/control.rules$8 -/
def c_control_rules_8 : FnC := ⟨5, [],
  (.region [⟨(some 2), none, .mv (.t 0)⟩, ⟨(some 3), none, .nilck (.t 2)⟩, ⟨(some 4), none, .faddr 5 (.t 3)⟩, ⟨none, none, .store 1 (.t 4) (.c (.bool true))⟩])⟩
/-- gatepost/control.rules$9 -/
def c_control_rules_9 : FnC := ⟨5, [],
  (.region [⟨(some 2), none, .mv (.t 0)⟩, ⟨(some 3), none, .nilck (.t 2)⟩, ⟨(some 4), none, .faddr 6 (.t 3)⟩, ⟨none, none, .store 1 (.t 4) (.c (.bool true))⟩])⟩
/-- gatepost/control.rules$10 -/
def c_control_rules_10 : FnC := ⟨6, [.tmp 2],
  (.seq (.region [⟨(some 2), none, .mv (.c .nilp)⟩])
  (.seq (.region [⟨(some 3), none, .mv (.t 0)⟩, ⟨(some 4), none, .nilck (.t 3)⟩, ⟨(some 5), none, .faddr 7 (.t 4)⟩, ⟨(some 2), none, .mv (.t 5)⟩])
  .ret))⟩
/-- gatepost/control.rules$11 -/
def c_control_rules_11 : FnC := ⟨6, [.tmp 2],
  (.seq (.region [⟨(some 2), none, .mv (.c .nilp)⟩])
  (.seq (.region [⟨(some 3), none, .mv (.t 0)⟩, ⟨(some 4), none, .nilck (.t 3)⟩, ⟨(some 5), none, .faddr 8 (.t 4)⟩, ⟨(some 2), none, .mv (.t 5)⟩])
  .ret))⟩
/-- gatepost/control.rules$12 -/
def c_control_rules_12 : FnC := ⟨6, [.tmp 2],
  (.seq (.region [⟨(some 2), none, .mv (.c .nilp)⟩])
  (.seq (.region [⟨(some 3), none, .mv (.t 0)⟩, ⟨(some 4), none, .nilck (.t 3)⟩, ⟨(some 5), none, .faddr 9 (.t 4)⟩, ⟨(some 2), none, .mv (.t 5)⟩])
  .ret))⟩
/-- gatepost/control.rules$13 -/
def c_control_rules_13 : FnC := ⟨6, [.tmp 2],
  (.seq (.region [⟨(some 2), none, .mv (.c .nilp)⟩])
  (.seq (.region [⟨(some 3), none, .mv (.t 0)⟩, ⟨(some 4), none, .nilck (.t 3)⟩, ⟨(some 5), none, .faddr 10 (.t 4)⟩, ⟨(some 2), none, .mv (.t 5)⟩])
  .ret))⟩
/-- gatepost/control.rules$14 -/
def c_control_rules_14 : FnC := ⟨6, [.tmp 2],
  (.seq (.region [⟨(some 2), none, .mv (.c .nilp)⟩])
  (.seq (.region [⟨(some 3), none, .mv (.t 0)⟩, ⟨(some 4), none, .nilck (.t 3)⟩, ⟨(some 5), none, .faddr 11 (.t 4)⟩, ⟨(some 2), none, .mv (.t 5)⟩])
  .ret))⟩
/-- gatepost/control.rules$15 -/
def c_control_rules_15 : FnC := ⟨6, [.tmp 2],
  (.seq (.region [⟨(some 2), none, .mv (.c .nilp)⟩])
  (.seq (.region [⟨(some 3), none, .mv (.t 0)⟩, ⟨(some 4), none, .nilck (.t 3)⟩, ⟨(some 5), none, .faddr 12 (.t 4)⟩, ⟨(some 2), none, .mv (.t 5)⟩])
  .ret))⟩
/-- strings.Cut -/
def c_strings_Cut : FnC := ⟨13, [.tmp 4, .tmp 5, .tmp 6],
  (.seq (.region [⟨(some 4), none, .mv (.c (.str []))⟩, ⟨(some 5), none, .mv (.c (.str []))⟩, ⟨(some 6), none, .mv (.c (.bool false))⟩])
  (.seq (.region [⟨(some 7), none, .mv (.t 0)⟩, ⟨(some 8), none, .mv (.t 1)⟩, ⟨(some 9), none, .call i_internal_stringslite_Cut [(.t 7), (.t 8)]⟩, ⟨(some 10), none, .ext 0 (.t 9)⟩, ⟨(some 11), none, .ext 1 (.t 9)⟩, ⟨(some 12), none, .ext 2 (.t 9)⟩, ⟨(some 4), none, .mv (.t 10)⟩, ⟨(some 5), none, .mv (.t 11)⟩, ⟨(some 6), none, .mv (.t 12)⟩])
  .ret))⟩
/-- gatepost/token.Is -/
def c_token_Is : FnC := ⟨9, [.tmp 2],
  (.seq (.region [⟨(some 2), none, .mv (.c (.bool false))⟩])
  (.seq (.region [⟨(some 3), none, .mv (.t 0)⟩, ⟨(some 4), none, .bin .neq (.t 3) (.c (.str []))⟩, ⟨(some 5), none, .mv (.t 4)⟩, ⟨(some 6), (some (5, true)), .mv (.t 0)⟩, ⟨(some 7), (some (5, true)), .call i_token_all [(.t 6), (.c (.fn i_token_inToken []))]⟩, ⟨(some 8), none, .pick (.t 5) (.t 7) (.c (.bool false))⟩, ⟨(some 2), none, .mv (.t 8)⟩])
  .ret))⟩
/-- gatepost/token.unquote -/
def c_token_unquote : FnC := ⟨49, [.tmp 2, .tmp 3],
  (.seq (.region [⟨(some 2), none, .mv (.c (.str []))⟩, ⟨(some 3), none, .mv (.c (.bool false))⟩])
  (.seq (.region [⟨(some 10), none, .mv (.t 0)⟩, ⟨(some 11), none, .call i_strings_CutPrefix [(.t 10), (.c (.str [34]))]⟩, ⟨(some 9), none, .mv (.t 11)⟩, ⟨(some 12), none, .ext 0 (.t 9)⟩, ⟨(some 13), none, .ext 1 (.t 9)⟩, ⟨(some 4), none, .mv (.t 12)⟩, ⟨(some 5), none, .mv (.t 13)⟩])
  (.seq (.region [⟨(some 6), none, .boxz [.nilp, .nsl]⟩])
  (.seq (.seq (.region [⟨(some 7), none, .mv (.c (.int .i64 0))⟩])
  (.block 0 (.loop
    (.seq (.seq (.region [⟨(some 14), none, .mv (.t 5)⟩, ⟨(some 15), none, .mv (.t 14)⟩, ⟨(some 16), (some (15, true)), .mv (.t 7)⟩, ⟨(some 17), (some (15, true)), .mv (.t 4)⟩, ⟨(some 18), (some (15, true)), .len 0 (.t 17)⟩, ⟨(some 19), (some (15, true)), .bin .lss (.t 16) (.t 18)⟩, ⟨(some 20), none, .pick (.t 15) (.t 19) (.c (.bool false))⟩])
    (.cond (.t 20)
      .skip
      (.exit 0)))
    (.seq (.block 1 (.seq (.region [⟨(some 23), none, .mv (.t 4)⟩, ⟨(some 24), none, .mv (.t 7)⟩, ⟨(some 25), none, .ixStr (.t 23) (.t 24)⟩, ⟨(some 8), none, .mv (.t 25)⟩])
    (.seq (.seq (.region [⟨(some 26), none, .mv (.t 8)⟩, ⟨(some 27), none, .bin .eql (.t 26) (.c (.int .u8 34))⟩])
    (.cond (.t 27)
      (.seq (.region [⟨(some 28), none, .call i___strings_Builder__String [(.t 6)]⟩, ⟨(some 29), none, .mv (.t 7)⟩, ⟨(some 30), none, .mv (.t 4)⟩, ⟨(some 31), none, .len 0 (.t 30)⟩, ⟨(some 32), none, .bin .sub (.t 31) (.c (.int .i64 1))⟩, ⟨(some 33), none, .bin .eql (.t 29) (.t 32)⟩, ⟨(some 2), none, .mv (.t 28)⟩, ⟨(some 3), none, .mv (.t 33)⟩])
      .ret)
      .skip))
    (.seq (.seq (.region [⟨(some 34), none, .mv (.t 8)⟩, ⟨(some 35), none, .bin .eql (.t 34) (.c (.int .u8 92))⟩])
    (.cond (.t 35)
      (.seq (.seq (.region [⟨(some 36), none, .mv (.t 7)⟩, ⟨(some 37), none, .bin .add (.t 36) (.c (.int .i64 1))⟩, ⟨(some 7), none, .mv (.t 37)⟩])
      (.seq (.region [⟨(some 38), none, .mv (.t 7)⟩, ⟨(some 39), none, .mv (.t 4)⟩, ⟨(some 40), none, .len 0 (.t 39)⟩, ⟨(some 41), none, .bin .eql (.t 38) (.t 40)⟩])
      (.cond (.t 41)
        (.exit 0)
        .skip)))
      (.region [⟨(some 42), none, .mv (.t 4)⟩, ⟨(some 43), none, .mv (.t 7)⟩, ⟨(some 44), none, .ixStr (.t 42) (.t 43)⟩, ⟨(some 8), none, .mv (.t 44)⟩]))
      .skip))
    (.seq (.region [⟨(some 45), none, .mv (.t 8)⟩, ⟨(some 46), none, .call i_token_inQuotes [(.t 45)]⟩, ⟨(some 5), none, .mv (.t 46)⟩])
    (.region [⟨(some 47), none, .mv (.t 8)⟩, ⟨(some 48), none, .call i___strings_Builder__WriteByte [(.t 6), (.t 47)]⟩]))))))
    (.region [⟨(some 21), none, .mv (.t 7)⟩, ⟨(some 22), none, .bin .add (.t 21) (.c (.int .i64 1))⟩, ⟨(some 7), none, .mv (.t 22)⟩]))))))
  (.seq (.region [⟨(some 2), none, .mv (.c (.str []))⟩, ⟨(some 3), none, .mv (.c (.bool false))⟩])
  .ret)))))⟩
/-- gatepost/token.Number -/
def c_token_Number : FnC := ⟨48, [.tmp 4, .tmp 5],
  (.seq (.region [⟨(some 4), none, .mv (.c (.int .i64 0))⟩, ⟨(some 5), none, .mv (.c (.bool false))⟩])
  (.seq (.seq (.region [⟨(some 9), none, .mv (.t 0)⟩, ⟨(some 10), none, .bin .eql (.t 9) (.c (.str []))⟩, ⟨(some 11), none, .mv (.t 10)⟩, ⟨(some 12), (some (11, false)), .mv (.t 1)⟩, ⟨(some 13), (some (11, false)), .bin .lss (.t 12) (.c (.int .i64 0))⟩, ⟨(some 14), none, .pick (.t 11) (.c (.bool true)) (.t 13)⟩, ⟨(some 15), none, .mv (.t 14)⟩, ⟨(some 16), (some (15, false)), .mv (.t 0)⟩, ⟨(some 17), (some (15, false)), .call i_token_all [(.t 16), (.c (.fn i_token_Number_1 []))]⟩, ⟨(some 18), (some (15, false)), .un .not (.t 17)⟩, ⟨(some 19), none, .pick (.t 15) (.c (.bool true)) (.t 18)⟩])
  (.cond (.t 19)
    (.seq (.region [⟨(some 4), none, .mv (.c (.int .i64 0))⟩, ⟨(some 5), none, .mv (.c (.bool false))⟩])
    .ret)
    .skip))
  (.seq (.region [⟨(some 6), none, .mv (.c (.int .i64 0))⟩])
  (.seq (.seq (.region [⟨(some 20), none, .mv (.t 0)⟩, ⟨(some 21), none, .len 0 (.t 20)⟩, ⟨(some 22), none, .mv (.c (.int .i64 0))⟩])
  (.block 0 (.loop
    (.seq (.region [⟨(some 23), none, .bin .lss (.t 22) (.t 21)⟩])
    (.seq (.cond (.t 23)
      .skip
      (.exit 0))
    (.seq (.block 1 (.seq (.region [⟨(some 24), none, .mv (.t 22)⟩, ⟨(some 7), none, .mv (.t 24)⟩])
    (.seq (.region [⟨(some 25), none, .mv (.t 0)⟩, ⟨(some 26), none, .mv (.t 7)⟩, ⟨(some 27), none, .ixStr (.t 25) (.t 26)⟩, ⟨(some 28), none, .bin .sub (.t 27) (.c (.int .u8 48))⟩, ⟨(some 29), none, .toInt .i64 (.t 28)⟩, ⟨(some 8), none, .mv (.t 29)⟩])
    (.seq (.seq (.region [⟨(some 30), none, .mv (.t 8)⟩, ⟨(some 31), none, .mv (.t 1)⟩, ⟨(some 32), none, .bin .gtr (.t 30) (.t 31)⟩, ⟨(some 33), none, .mv (.t 32)⟩, ⟨(some 34), (some (33, false)), .mv (.t 6)⟩, ⟨(some 35), (some (33, false)), .mv (.t 1)⟩, ⟨(some 36), (some (33, false)), .mv (.t 8)⟩, ⟨(some 37), (some (33, false)), .bin .sub (.t 35) (.t 36)⟩, ⟨(some 38), (some (33, false)), .bin .quo (.t 37) (.c (.int .i64 10))⟩, ⟨(some 39), (some (33, false)), .bin .gtr (.t 34) (.t 38)⟩, ⟨(some 40), none, .pick (.t 33) (.c (.bool true)) (.t 39)⟩])
    (.cond (.t 40)
      (.seq (.region [⟨(some 41), none, .mv (.t 1)⟩, ⟨(some 4), none, .mv (.t 41)⟩, ⟨(some 5), none, .mv (.c (.bool true))⟩])
      .ret)
      .skip))
    (.region [⟨(some 42), none, .mv (.t 6)⟩, ⟨(some 43), none, .bin .mul (.c (.int .i64 10)) (.t 42)⟩, ⟨(some 44), none, .mv (.t 8)⟩, ⟨(some 45), none, .bin .add (.t 43) (.t 44)⟩, ⟨(some 6), none, .mv (.t 45)⟩])))))
    (.region [⟨(some 46), none, .bin .add (.t 22) (.c (.int .i64 1))⟩, ⟨(some 22), none, .mv (.t 46)⟩])))))))
  (.seq (.region [⟨(some 47), none, .mv (.t 6)⟩, ⟨(some 4), none, .mv (.t 47)⟩, ⟨(some 5), none, .mv (.c (.bool true))⟩])
  .ret)))))⟩
/-- gatepost/gatepostref01.Trim -/
def c_gatepostref01_Trim : FnC := ⟨30, [.tmp 2],
  (.seq (.region [⟨(some 2), none, .mv (.c (.str []))⟩])
  (.seq (.block 0 (.loop
    (.seq (.seq (.region [⟨(some 3), none, .mv (.t 0)⟩, ⟨(some 4), none, .len 0 (.t 3)⟩, ⟨(some 5), none, .bin .gtr (.t 4) (.c (.int .i64 0))⟩, ⟨(some 6), none, .mv (.t 5)⟩, ⟨(some 7), (some (6, true)), .mv (.t 0)⟩, ⟨(some 8), (some (6, true)), .ixStr (.t 7) (.c (.int .i64 0))⟩, ⟨(some 9), (some (6, true)), .call i_gatepostref01_blank [(.t 8)]⟩, ⟨(some 10), none, .pick (.t 6) (.t 9) (.c (.bool false))⟩])
    (.cond (.t 10)
      .skip
      (.exit 0)))
    (.block 1 (.region [⟨(some 11), none, .mv (.t 0)⟩, ⟨(some 12), none, .slstr (.t 11) (some (.c (.int .i64 1))) none⟩, ⟨(some 0), none, .mv (.t 12)⟩])))))
  (.seq (.block 2 (.loop
    (.seq (.seq (.region [⟨(some 13), none, .mv (.t 0)⟩, ⟨(some 14), none, .len 0 (.t 13)⟩, ⟨(some 15), none, .bin .gtr (.t 14) (.c (.int .i64 0))⟩, ⟨(some 16), none, .mv (.t 15)⟩, ⟨(some 17), (some (16, true)), .mv (.t 0)⟩, ⟨(some 18), (some (16, true)), .mv (.t 0)⟩, ⟨(some 19), (some (16, true)), .len 0 (.t 18)⟩, ⟨(some 20), (some (16, true)), .bin .sub (.t 19) (.c (.int .i64 1))⟩, ⟨(some 21), (some (16, true)), .ixStr (.t 17) (.t 20)⟩, ⟨(some 22), (some (16, true)), .call i_gatepostref01_blank [(.t 21)]⟩, ⟨(some 23), none, .pick (.t 16) (.t 22) (.c (.bool false))⟩])
    (.cond (.t 23)
      .skip
      (.exit 2)))
    (.block 3 (.region [⟨(some 24), none, .mv (.t 0)⟩, ⟨(some 25), none, .mv (.t 0)⟩, ⟨(some 26), none, .len 0 (.t 25)⟩, ⟨(some 27), none, .bin .sub (.t 26) (.c (.int .i64 1))⟩, ⟨(some 28), none, .slstr (.t 24) none (some (.t 27))⟩, ⟨(some 0), none, .mv (.t 28)⟩])))))
  (.seq (.region [⟨(some 29), none, .mv (.t 0)⟩, ⟨(some 2), none, .mv (.t 29)⟩])
  .ret))))⟩
/-- gatepost/gatepostref01.Is -/
def c_gatepostref01_Is : FnC := ⟨18, [.tmp 2],
  (.seq (.region [⟨(some 2), none, .mv (.c (.bool false))⟩])
  (.seq (.seq (.region [⟨(some 3), none, .mv (.c (.int .i64 0))⟩])
  (.block 0 (.loop
    (.seq (.seq (.region [⟨(some 4), none, .mv (.t 3)⟩, ⟨(some 5), none, .mv (.t 0)⟩, ⟨(some 6), none, .len 0 (.t 5)⟩, ⟨(some 7), none, .bin .lss (.t 4) (.t 6)⟩])
    (.cond (.t 7)
      .skip
      (.exit 0)))
    (.seq (.block 1 (.seq (.region [⟨(some 10), none, .mv (.t 0)⟩, ⟨(some 11), none, .mv (.t 3)⟩, ⟨(some 12), none, .ixStr (.t 10) (.t 11)⟩, ⟨(some 13), none, .call i_gatepostref01_tchar [(.t 12)]⟩, ⟨(some 14), none, .un .not (.t 13)⟩])
    (.cond (.t 14)
      (.seq (.region [⟨(some 2), none, .mv (.c (.bool false))⟩])
      .ret)
      .skip)))
    (.region [⟨(some 8), none, .mv (.t 3)⟩, ⟨(some 9), none, .bin .add (.t 8) (.c (.int .i64 1))⟩, ⟨(some 3), none, .mv (.t 9)⟩]))))))
  (.seq (.region [⟨(some 15), none, .mv (.t 0)⟩, ⟨(some 16), none, .len 0 (.t 15)⟩, ⟨(some 17), none, .bin .gtr (.t 16) (.c (.int .i64 0))⟩, ⟨(some 2), none, .mv (.t 17)⟩])
  .ret)))⟩
/-- gatepost/gatepostref01.unquote -/
def c_gatepostref01_unquote : FnC := ⟨56, [.tmp 2, .tmp 3],
  (.seq (.region [⟨(some 2), none, .mv (.c (.str []))⟩, ⟨(some 3), none, .mv (.c (.bool false))⟩])
  (.seq (.seq (.region [⟨(some 6), none, .mv (.t 0)⟩, ⟨(some 7), none, .len 0 (.t 6)⟩, ⟨(some 8), none, .bin .lss (.t 7) (.c (.int .i64 2))⟩, ⟨(some 9), none, .mv (.t 8)⟩, ⟨(some 10), (some (9, false)), .mv (.t 0)⟩, ⟨(some 11), (some (9, false)), .ixStr (.t 10) (.c (.int .i64 0))⟩, ⟨(some 12), (some (9, false)), .bin .neq (.t 11) (.c (.int .u8 34))⟩, ⟨(some 13), none, .pick (.t 9) (.c (.bool true)) (.t 12)⟩])
  (.cond (.t 13)
    (.seq (.region [⟨(some 2), none, .mv (.c (.str []))⟩, ⟨(some 3), none, .mv (.c (.bool false))⟩])
    .ret)
    .skip))
  (.seq (.region [⟨(some 4), none, .mv (.c (.str []))⟩])
  (.seq (.region [⟨(some 5), none, .mv (.c (.int .i64 1))⟩])
  (.seq (.block 0 (.loop
    (.seq (.seq (.region [⟨(some 14), none, .mv (.t 5)⟩, ⟨(some 15), none, .mv (.t 0)⟩, ⟨(some 16), none, .len 0 (.t 15)⟩, ⟨(some 17), none, .bin .lss (.t 14) (.t 16)⟩, ⟨(some 18), none, .mv (.t 17)⟩, ⟨(some 19), (some (18, true)), .mv (.t 0)⟩, ⟨(some 20), (some (18, true)), .mv (.t 5)⟩, ⟨(some 21), (some (18, true)), .ixStr (.t 19) (.t 20)⟩, ⟨(some 22), (some (18, true)), .bin .neq (.t 21) (.c (.int .u8 34))⟩, ⟨(some 23), none, .pick (.t 18) (.t 22) (.c (.bool false))⟩])
    (.cond (.t 23)
      .skip
      (.exit 0)))
    (.block 1 (.seq (.seq (.region [⟨(some 24), none, .mv (.t 0)⟩, ⟨(some 25), none, .mv (.t 5)⟩, ⟨(some 26), none, .ixStr (.t 24) (.t 25)⟩, ⟨(some 27), none, .bin .eql (.t 26) (.c (.int .u8 92))⟩])
    (.cond (.t 27)
      (.region [⟨(some 28), none, .mv (.t 5)⟩, ⟨(some 29), none, .bin .add (.t 28) (.c (.int .i64 1))⟩, ⟨(some 5), none, .mv (.t 29)⟩])
      .skip))
    (.seq (.seq (.region [⟨(some 30), none, .mv (.t 5)⟩, ⟨(some 31), none, .mv (.t 0)⟩, ⟨(some 32), none, .len 0 (.t 31)⟩, ⟨(some 33), none, .bin .geq (.t 30) (.t 32)⟩, ⟨(some 34), none, .mv (.t 33)⟩, ⟨(some 35), (some (34, false)), .mv (.t 0)⟩, ⟨(some 36), (some (34, false)), .mv (.t 5)⟩, ⟨(some 37), (some (34, false)), .ixStr (.t 35) (.t 36)⟩, ⟨(some 38), (some (34, false)), .call i_gatepostref01_text [(.t 37)]⟩, ⟨(some 39), (some (34, false)), .un .not (.t 38)⟩, ⟨(some 40), none, .pick (.t 34) (.c (.bool true)) (.t 39)⟩])
    (.cond (.t 40)
      (.seq (.region [⟨(some 2), none, .mv (.c (.str []))⟩, ⟨(some 3), none, .mv (.c (.bool false))⟩])
      .ret)
      .skip))
    (.seq (.region [⟨(some 41), none, .mv (.t 4)⟩, ⟨(some 42), none, .mv (.t 0)⟩, ⟨(some 43), none, .mv (.t 5)⟩, ⟨(some 44), none, .mv (.t 5)⟩, ⟨(some 45), none, .bin .add (.t 44) (.c (.int .i64 1))⟩, ⟨(some 46), none, .slstr (.t 42) (some (.t 43)) (some (.t 45))⟩, ⟨(some 47), none, .bin .add (.t 41) (.t 46)⟩, ⟨(some 4), none, .mv (.t 47)⟩])
    (.region [⟨(some 48), none, .mv (.t 5)⟩, ⟨(some 49), none, .bin .add (.t 48) (.c (.int .i64 1))⟩, ⟨(some 5), none, .mv (.t 49)⟩]))))))))
  (.seq (.region [⟨(some 50), none, .mv (.t 4)⟩, ⟨(some 51), none, .mv (.t 5)⟩, ⟨(some 52), none, .mv (.t 0)⟩, ⟨(some 53), none, .len 0 (.t 52)⟩, ⟨(some 54), none, .bin .sub (.t 53) (.c (.int .i64 1))⟩, ⟨(some 55), none, .bin .eql (.t 51) (.t 54)⟩, ⟨(some 2), none, .mv (.t 50)⟩, ⟨(some 3), none, .mv (.t 55)⟩])
  .ret))))))⟩
/-- gatepost/token.Same -/
def c_token_Same : FnC := ⟨17, [.tmp 4],
  (.seq (.region [⟨(some 4), none, .mv (.c (.bool false))⟩])
  (.seq (.region [⟨(some 5), none, .mv (.t 0)⟩, ⟨(some 6), none, .len 0 (.t 5)⟩, ⟨(some 7), none, .mv (.t 1)⟩, ⟨(some 8), none, .len 0 (.t 7)⟩, ⟨(some 9), none, .bin .eql (.t 6) (.t 8)⟩, ⟨(some 10), none, .mv (.t 9)⟩, ⟨(some 11), (some (10, true)), .mv (.t 0)⟩, ⟨(some 12), (some (10, true)), .call i_token_Lower [(.t 11)]⟩, ⟨(some 13), (some (10, true)), .mv (.t 1)⟩, ⟨(some 14), (some (10, true)), .call i_token_Lower [(.t 13)]⟩, ⟨(some 15), (some (10, true)), .bin .eql (.t 12) (.t 14)⟩, ⟨(some 16), none, .pick (.t 10) (.t 15) (.c (.bool false))⟩, ⟨(some 4), none, .mv (.t 16)⟩])
  .ret))⟩
/-- slices.Index[[]string,string] -/
def c_slices_Index___string_string_ : FnC := ⟨19, [.tmp 4],
  (.seq (.region [⟨(some 4), none, .mv (.c (.int .i64 0))⟩])
  (.seq (.seq (.region [⟨(some 6), none, .mv (.t 0)⟩, ⟨(some 7), none, .len 1 (.t 6)⟩, ⟨(some 8), none, .mv (.c (.int .i64 0))⟩])
  (.block 0 (.loop
    (.seq (.region [⟨(some 9), none, .bin .lss (.t 8) (.t 7)⟩])
    (.seq (.cond (.t 9)
      .skip
      (.exit 0))
    (.seq (.block 1 (.seq (.region [⟨(some 10), none, .mv (.t 8)⟩, ⟨(some 5), none, .mv (.t 10)⟩])
    (.seq (.region [⟨(some 11), none, .mv (.t 1)⟩, ⟨(some 12), none, .mv (.t 0)⟩, ⟨(some 13), none, .mv (.t 5)⟩, ⟨(some 14), none, .ixaSl 1 (.t 12) (.t 13)⟩, ⟨(some 15), none, .load false 1 (.t 14)⟩, ⟨(some 16), none, .bin .eql (.t 11) (.t 15)⟩])
    (.cond (.t 16)
      (.seq (.region [⟨(some 17), none, .mv (.t 5)⟩, ⟨(some 4), none, .mv (.t 17)⟩])
      .ret)
      .skip))))
    (.region [⟨(some 18), none, .bin .add (.t 8) (.c (.int .i64 1))⟩, ⟨(some 8), none, .mv (.t 18)⟩])))))))
  (.seq (.region [⟨(some 4), none, .mv (.c (.int .i64 (-1)))⟩])
  .ret)))⟩
/-- gatepost/gatepostref01.Same -/
def c_gatepostref01_Same : FnC := ⟨10, [.tmp 4],
  (.seq (.region [⟨(some 4), none, .mv (.c (.bool false))⟩])
  (.seq (.region [⟨(some 5), none, .mv (.t 0)⟩, ⟨(some 6), none, .call i_gatepostref01_Lower [(.t 5)]⟩, ⟨(some 7), none, .mv (.t 1)⟩, ⟨(some 8), none, .call i_gatepostref01_Lower [(.t 7)]⟩, ⟨(some 9), none, .bin .eql (.t 6) (.t 8)⟩, ⟨(some 4), none, .mv (.t 9)⟩])
  .ret))⟩
/-- strings.Trim -/
def c_strings_Trim : FnC := ⟨43, [.tmp 4],
  (.seq (.region [⟨(some 4), none, .mv (.c (.str []))⟩])
  (.seq (.seq (.region [⟨(some 7), none, .mv (.t 0)⟩, ⟨(some 8), none, .bin .eql (.t 7) (.c (.str []))⟩, ⟨(some 9), none, .mv (.t 8)⟩, ⟨(some 10), (some (9, false)), .mv (.t 1)⟩, ⟨(some 11), (some (9, false)), .bin .eql (.t 10) (.c (.str []))⟩, ⟨(some 12), none, .pick (.t 9) (.c (.bool true)) (.t 11)⟩])
  (.cond (.t 12)
    (.seq (.region [⟨(some 13), none, .mv (.t 0)⟩, ⟨(some 4), none, .mv (.t 13)⟩])
    .ret)
    .skip))
  (.seq (.seq (.region [⟨(some 14), none, .mv (.t 1)⟩, ⟨(some 15), none, .len 0 (.t 14)⟩, ⟨(some 16), none, .bin .eql (.t 15) (.c (.int .i64 1))⟩, ⟨(some 17), none, .mv (.t 16)⟩, ⟨(some 18), (some (17, true)), .mv (.t 1)⟩, ⟨(some 19), (some (17, true)), .ixStr (.t 18) (.c (.int .i64 0))⟩, ⟨(some 20), (some (17, true)), .bin .lss (.t 19) (.c (.int .u8 128))⟩, ⟨(some 21), none, .pick (.t 17) (.t 20) (.c (.bool false))⟩])
  (.cond (.t 21)
    (.seq (.dregion [⟨(some 22), none, .mv (.t 0)⟩, ⟨(some 23), none, .mv (.t 1)⟩, ⟨(some 24), none, .ixStr (.t 23) (.c (.int .i64 0))⟩, ⟨(some 25), none, .call i_strings_trimRightByte [(.t 22), (.t 24)]⟩, ⟨(some 26), none, .mv (.t 1)⟩, ⟨(some 27), none, .ixStr (.t 26) (.c (.int .i64 0))⟩] [⟨(some 28), none, .call i_strings_trimLeftByte [(.t 25), (.t 27)]⟩, ⟨(some 4), none, .mv (.t 28)⟩])
    .ret)
    .skip))
  (.seq (.seq (.region [⟨(some 30), none, .mv (.t 1)⟩, ⟨(some 31), none, .call i_strings_makeASCIISet [(.t 30)]⟩, ⟨(some 29), none, .mv (.t 31)⟩, ⟨(some 32), none, .ext 0 (.t 29)⟩, ⟨(some 33), none, .ext 1 (.t 29)⟩, ⟨(some 5), none, .boxz (List.replicate 256 (.bool false))⟩, ⟨none, none, .store 256 (.t 5) (.t 32)⟩, ⟨(some 6), none, .mv (.t 33)⟩])
  (.seq (.region [⟨(some 34), none, .mv (.t 6)⟩])
  (.cond (.t 34)
    (.seq (.region [⟨(some 35), none, .mv (.t 0)⟩, ⟨(some 36), none, .call i_strings_trimRightASCII [(.t 35), (.t 5)]⟩, ⟨(some 37), none, .call i_strings_trimLeftASCII [(.t 36), (.t 5)]⟩, ⟨(some 4), none, .mv (.t 37)⟩])
    .ret)
    .skip)))
  (.seq (.region [⟨(some 38), none, .mv (.t 0)⟩, ⟨(some 39), none, .mv (.t 1)⟩, ⟨(some 40), none, .call i_strings_trimRightUnicode [(.t 38), (.t 39)]⟩, ⟨(some 41), none, .mv (.t 1)⟩, ⟨(some 42), none, .call i_strings_trimLeftUnicode [(.t 40), (.t 41)]⟩, ⟨(some 4), none, .mv (.t 42)⟩])
  .ret)))))⟩
/-- internal/stringslite.Cut -/
def c_internal_stringslite_Cut : FnC := ⟨23, [.tmp 4, .tmp 5, .tmp 6],
  (.seq (.region [⟨(some 4), none, .mv (.c (.str []))⟩, ⟨(some 5), none, .mv (.c (.str []))⟩, ⟨(some 6), none, .mv (.c (.bool false))⟩])
  (.seq (.seq (.region [⟨(some 8), none, .mv (.t 0)⟩, ⟨(some 9), none, .mv (.t 1)⟩, ⟨(some 10), none, .call i_internal_stringslite_Index [(.t 8), (.t 9)]⟩, ⟨(some 7), none, .mv (.t 10)⟩])
  (.seq (.region [⟨(some 11), none, .mv (.t 7)⟩, ⟨(some 12), none, .bin .geq (.t 11) (.c (.int .i64 0))⟩])
  (.cond (.t 12)
    (.seq (.dregion [⟨(some 13), none, .mv (.t 0)⟩, ⟨(some 14), none, .mv (.t 7)⟩, ⟨(some 15), none, .slstr (.t 13) none (some (.t 14))⟩, ⟨(some 16), none, .mv (.t 0)⟩, ⟨(some 17), none, .mv (.t 7)⟩, ⟨(some 18), none, .mv (.t 1)⟩, ⟨(some 19), none, .len 0 (.t 18)⟩, ⟨(some 20), none, .bin .add (.t 17) (.t 19)⟩, ⟨(some 21), none, .slstr (.t 16) (some (.t 20)) none⟩, ⟨(some 4), none, .mv (.t 15)⟩] [⟨(some 5), none, .mv (.t 21)⟩, ⟨(some 6), none, .mv (.c (.bool true))⟩])
    .ret)
    .skip)))
  (.seq (.region [⟨(some 22), none, .mv (.t 0)⟩, ⟨(some 4), none, .mv (.t 22)⟩, ⟨(some 5), none, .mv (.c (.str []))⟩, ⟨(some 6), none, .mv (.c (.bool false))⟩])
  .ret)))⟩
/-- gatepost/token.all -/
def c_token_all : FnC := ⟨18, [.tmp 4],
  (.seq (.region [⟨(some 4), none, .mv (.c (.bool false))⟩])
  (.seq (.seq (.region [⟨(some 6), none, .mv (.t 0)⟩, ⟨(some 7), none, .len 0 (.t 6)⟩, ⟨(some 8), none, .mv (.c (.int .i64 0))⟩])
  (.block 0 (.loop
    (.seq (.region [⟨(some 9), none, .bin .lss (.t 8) (.t 7)⟩])
    (.seq (.cond (.t 9)
      .skip
      (.exit 0))
    (.seq (.block 1 (.seq (.region [⟨(some 10), none, .mv (.t 8)⟩, ⟨(some 5), none, .mv (.t 10)⟩])
    (.seq (.region [⟨(some 11), none, .mv (.t 1)⟩, ⟨(some 12), none, .mv (.t 0)⟩, ⟨(some 13), none, .mv (.t 5)⟩, ⟨(some 14), none, .ixStr (.t 12) (.t 13)⟩, ⟨(some 15), none, .callv (.t 11) [(.t 14)]⟩, ⟨(some 16), none, .un .not (.t 15)⟩])
    (.cond (.t 16)
      (.seq (.region [⟨(some 4), none, .mv (.c (.bool false))⟩])
      .ret)
      .skip))))
    (.region [⟨(some 17), none, .bin .add (.t 8) (.c (.int .i64 1))⟩, ⟨(some 8), none, .mv (.t 17)⟩])))))))
  (.seq (.region [⟨(some 4), none, .mv (.c (.bool true))⟩])
  .ret)))⟩
/-- gatepost/token.inToken -/
def c_token_inToken : FnC := ⟨30, [.tmp 2],
  (.seq (.region [⟨(some 2), none, .mv (.c (.bool false))⟩])
  (.seq (.seq (.region [⟨(some 6), none, .mv (.t 0)⟩, ⟨(some 7), none, .bin .or (.t 6) (.c (.int .u8 32))⟩, ⟨(some 3), none, .mv (.t 7)⟩])
  (.seq (.region [⟨(some 8), none, .mv (.t 3)⟩, ⟨(some 9), none, .bin .geq (.t 8) (.c (.int .u8 97))⟩, ⟨(some 10), none, .mv (.t 9)⟩, ⟨(some 11), (some (10, true)), .mv (.t 3)⟩, ⟨(some 12), (some (10, true)), .bin .leq (.t 11) (.c (.int .u8 122))⟩, ⟨(some 13), none, .pick (.t 10) (.t 12) (.c (.bool false))⟩, ⟨(some 14), none, .mv (.t 13)⟩, ⟨(some 15), (some (14, false)), .mv (.t 0)⟩, ⟨(some 16), (some (14, false)), .bin .geq (.t 15) (.c (.int .u8 48))⟩, ⟨(some 17), (some (14, false)), .mv (.t 16)⟩, ⟨(some 18), (some (17, true)), .mv (.t 0)⟩, ⟨(some 19), (some (17, true)), .bin .leq (.t 18) (.c (.int .u8 57))⟩, ⟨(some 20), (some (14, false)), .pick (.t 17) (.t 19) (.c (.bool false))⟩, ⟨(some 21), none, .pick (.t 14) (.c (.bool true)) (.t 20)⟩])
  (.cond (.t 21)
    (.seq (.region [⟨(some 2), none, .mv (.c (.bool true))⟩])
    .ret)
    .skip)))
  (.seq (.seq (.region [⟨(some 22), none, .call i_token_marks []⟩, ⟨(some 23), none, .mv (.c (.int .i64 0))⟩])
  (.block 0 (.loop
    (.seq (.region [⟨(some 24), none, .bin .lss (.t 23) (.c (.int .i64 15))⟩])
    (.seq (.cond (.t 24)
      .skip
      (.exit 0))
    (.seq (.block 1 (.seq (.region [⟨(some 25), none, .ixArr 15 1 false (.t 22) (.t 23)⟩, ⟨(some 5), none, .mv (.t 25)⟩])
    (.seq (.region [⟨(some 26), none, .mv (.t 5)⟩, ⟨(some 27), none, .mv (.t 0)⟩, ⟨(some 28), none, .bin .eql (.t 26) (.t 27)⟩])
    (.cond (.t 28)
      (.seq (.region [⟨(some 2), none, .mv (.c (.bool true))⟩])
      .ret)
      .skip))))
    (.region [⟨(some 29), none, .bin .add (.t 23) (.c (.int .i64 1))⟩, ⟨(some 23), none, .mv (.t 29)⟩])))))))
  (.seq (.region [⟨(some 2), none, .mv (.c (.bool false))⟩])
  .ret))))⟩
/-- gatepost/token.inQuotes -/
def c_token_inQuotes : FnC := ⟨13, [.tmp 2],
  (.seq (.region [⟨(some 2), none, .mv (.c (.bool false))⟩])
  (.seq (.region [⟨(some 3), none, .mv (.t 0)⟩, ⟨(some 4), none, .bin .eql (.t 3) (.c (.int .u8 9))⟩, ⟨(some 5), none, .mv (.t 4)⟩, ⟨(some 6), (some (5, false)), .mv (.t 0)⟩, ⟨(some 7), (some (5, false)), .bin .geq (.t 6) (.c (.int .u8 32))⟩, ⟨(some 8), (some (5, false)), .mv (.t 7)⟩, ⟨(some 9), (some (8, true)), .mv (.t 0)⟩, ⟨(some 10), (some (8, true)), .bin .neq (.t 9) (.c (.int .u8 127))⟩, ⟨(some 11), (some (5, false)), .pick (.t 8) (.t 10) (.c (.bool false))⟩, ⟨(some 12), none, .pick (.t 5) (.c (.bool true)) (.t 11)⟩, ⟨(some 2), none, .mv (.t 12)⟩])
  .ret))⟩
/-- gatepost/token.Number$1 -/
def c_token_Number_1 : FnC := ⟨9, [.tmp 2],
  (.seq (.region [⟨(some 2), none, .mv (.c (.bool false))⟩])
  (.seq (.region [⟨(some 3), none, .mv (.t 0)⟩, ⟨(some 4), none, .bin .geq (.t 3) (.c (.int .u8 48))⟩, ⟨(some 5), none, .mv (.t 4)⟩, ⟨(some 6), (some (5, true)), .mv (.t 0)⟩, ⟨(some 7), (some (5, true)), .bin .leq (.t 6) (.c (.int .u8 57))⟩, ⟨(some 8), none, .pick (.t 5) (.t 7) (.c (.bool false))⟩, ⟨(some 2), none, .mv (.t 8)⟩])
  .ret))⟩
/-- gatepost/gatepostref01.blank -/
def c_gatepostref01_blank : FnC := ⟨9, [.tmp 2],
  (.seq (.region [⟨(some 2), none, .mv (.c (.bool false))⟩])
  (.seq (.region [⟨(some 3), none, .mv (.t 0)⟩, ⟨(some 4), none, .bin .eql (.t 3) (.c (.int .u8 32))⟩, ⟨(some 5), none, .mv (.t 4)⟩, ⟨(some 6), (some (5, false)), .mv (.t 0)⟩, ⟨(some 7), (some (5, false)), .bin .eql (.t 6) (.c (.int .u8 9))⟩, ⟨(some 8), none, .pick (.t 5) (.c (.bool true)) (.t 7)⟩, ⟨(some 2), none, .mv (.t 8)⟩])
  .ret))⟩
/-- gatepost/gatepostref01.tchar -/
def c_gatepostref01_tchar : FnC := ⟨42, [.tmp 2],
  (.seq (.region [⟨(some 2), none, .mv (.c (.bool false))⟩])
  (.seq (.seq (.region [⟨(some 3), none, .mv (.t 0)⟩, ⟨(some 4), none, .bin .geq (.t 3) (.c (.int .u8 97))⟩, ⟨(some 5), none, .mv (.t 4)⟩, ⟨(some 6), (some (5, true)), .mv (.t 0)⟩, ⟨(some 7), (some (5, true)), .bin .leq (.t 6) (.c (.int .u8 122))⟩, ⟨(some 8), none, .pick (.t 5) (.t 7) (.c (.bool false))⟩, ⟨(some 9), none, .mv (.t 8)⟩, ⟨(some 10), (some (9, false)), .mv (.t 0)⟩, ⟨(some 11), (some (9, false)), .bin .geq (.t 10) (.c (.int .u8 65))⟩, ⟨(some 12), (some (9, false)), .mv (.t 11)⟩, ⟨(some 13), (some (12, true)), .mv (.t 0)⟩, ⟨(some 14), (some (12, true)), .bin .leq (.t 13) (.c (.int .u8 90))⟩, ⟨(some 15), (some (9, false)), .pick (.t 12) (.t 14) (.c (.bool false))⟩, ⟨(some 16), none, .pick (.t 9) (.c (.bool true)) (.t 15)⟩, ⟨(some 17), none, .mv (.t 16)⟩, ⟨(some 18), (some (17, false)), .mv (.t 0)⟩, ⟨(some 19), (some (17, false)), .bin .geq (.t 18) (.c (.int .u8 48))⟩, ⟨(some 20), (some (17, false)), .mv (.t 19)⟩, ⟨(some 21), (some (20, true)), .mv (.t 0)⟩, ⟨(some 22), (some (20, true)), .bin .leq (.t 21) (.c (.int .u8 57))⟩, ⟨(some 23), (some (17, false)), .pick (.t 20) (.t 22) (.c (.bool false))⟩, ⟨(some 24), none, .pick (.t 17) (.c (.bool true)) (.t 23)⟩])
  (.cond (.t 24)
    (.seq (.region [⟨(some 2), none, .mv (.c (.bool true))⟩])
    .ret)
    .skip))
  (.seq (.seq (.region [⟨(some 25), none, .mv (.t 0)⟩])
  (.block 0 (.seq (.seq (.region [⟨(some 27), none, .bin .eql (.t 25) (.c (.int .u8 33))⟩, ⟨(some 26), none, .mv (.t 27)⟩])
  (.cond (.t 26)
    .skip
    (.seq (.region [⟨(some 28), none, .bin .eql (.t 25) (.c (.int .u8 35))⟩, ⟨(some 26), none, .mv (.t 28)⟩])
    (.cond (.t 26)
      .skip
      (.seq (.region [⟨(some 29), none, .bin .eql (.t 25) (.c (.int .u8 36))⟩, ⟨(some 26), none, .mv (.t 29)⟩])
      (.cond (.t 26)
        .skip
        (.seq (.region [⟨(some 30), none, .bin .eql (.t 25) (.c (.int .u8 37))⟩, ⟨(some 26), none, .mv (.t 30)⟩])
        (.cond (.t 26)
          .skip
          (.seq (.region [⟨(some 31), none, .bin .eql (.t 25) (.c (.int .u8 38))⟩, ⟨(some 26), none, .mv (.t 31)⟩])
          (.cond (.t 26)
            .skip
            (.seq (.region [⟨(some 32), none, .bin .eql (.t 25) (.c (.int .u8 39))⟩, ⟨(some 26), none, .mv (.t 32)⟩])
            (.cond (.t 26)
              .skip
              (.seq (.region [⟨(some 33), none, .bin .eql (.t 25) (.c (.int .u8 42))⟩, ⟨(some 26), none, .mv (.t 33)⟩])
              (.cond (.t 26)
                .skip
                (.seq (.region [⟨(some 34), none, .bin .eql (.t 25) (.c (.int .u8 43))⟩, ⟨(some 26), none, .mv (.t 34)⟩])
                (.cond (.t 26)
                  .skip
                  (.seq (.region [⟨(some 35), none, .bin .eql (.t 25) (.c (.int .u8 45))⟩, ⟨(some 26), none, .mv (.t 35)⟩])
                  (.cond (.t 26)
                    .skip
                    (.seq (.region [⟨(some 36), none, .bin .eql (.t 25) (.c (.int .u8 46))⟩, ⟨(some 26), none, .mv (.t 36)⟩])
                    (.cond (.t 26)
                      .skip
                      (.seq (.region [⟨(some 37), none, .bin .eql (.t 25) (.c (.int .u8 94))⟩, ⟨(some 26), none, .mv (.t 37)⟩])
                      (.cond (.t 26)
                        .skip
                        (.seq (.region [⟨(some 38), none, .bin .eql (.t 25) (.c (.int .u8 95))⟩, ⟨(some 26), none, .mv (.t 38)⟩])
                        (.cond (.t 26)
                          .skip
                          (.seq (.region [⟨(some 39), none, .bin .eql (.t 25) (.c (.int .u8 96))⟩, ⟨(some 26), none, .mv (.t 39)⟩])
                          (.cond (.t 26)
                            .skip
                            (.seq (.region [⟨(some 40), none, .bin .eql (.t 25) (.c (.int .u8 124))⟩, ⟨(some 26), none, .mv (.t 40)⟩])
                            (.cond (.t 26)
                              .skip
                              (.region [⟨(some 41), none, .bin .eql (.t 25) (.c (.int .u8 126))⟩, ⟨(some 26), none, .mv (.t 41)⟩])))))))))))))))))))))))))))))
  (.cond (.t 26)
    (.seq (.region [⟨(some 2), none, .mv (.c (.bool true))⟩])
    .ret)
    .skip))))
  (.seq (.region [⟨(some 2), none, .mv (.c (.bool false))⟩])
  .ret))))⟩
/-- gatepost/gatepostref01.text -/
def c_gatepostref01_text : FnC := ⟨13, [.tmp 2],
  (.seq (.region [⟨(some 2), none, .mv (.c (.bool false))⟩])
  (.seq (.region [⟨(some 3), none, .mv (.t 0)⟩, ⟨(some 4), none, .bin .eql (.t 3) (.c (.int .u8 9))⟩, ⟨(some 5), none, .mv (.t 4)⟩, ⟨(some 6), (some (5, false)), .mv (.t 0)⟩, ⟨(some 7), (some (5, false)), .bin .geq (.t 6) (.c (.int .u8 32))⟩, ⟨(some 8), (some (5, false)), .mv (.t 7)⟩, ⟨(some 9), (some (8, true)), .mv (.t 0)⟩, ⟨(some 10), (some (8, true)), .bin .neq (.t 9) (.c (.int .u8 127))⟩, ⟨(some 11), (some (5, false)), .pick (.t 8) (.t 10) (.c (.bool false))⟩, ⟨(some 12), none, .pick (.t 5) (.c (.bool true)) (.t 11)⟩, ⟨(some 2), none, .mv (.t 12)⟩])
  .ret))⟩
/-- strings.makeASCIISet -/
def c_strings_makeASCIISet : FnC := ⟨21, [.cell 2 true 256, .tmp 3],
  (.seq (.region [⟨(some 2), none, .boxz (List.replicate 256 (.bool false))⟩, ⟨(some 3), none, .mv (.c (.bool false))⟩])
  (.seq (.seq (.region [⟨(some 4), none, .mv (.c (.int .i64 0))⟩])
  (.block 0 (.loop
    (.seq (.seq (.region [⟨(some 6), none, .mv (.t 4)⟩, ⟨(some 7), none, .mv (.t 0)⟩, ⟨(some 8), none, .len 0 (.t 7)⟩, ⟨(some 9), none, .bin .lss (.t 6) (.t 8)⟩])
    (.cond (.t 9)
      .skip
      (.exit 0)))
    (.seq (.block 1 (.seq (.region [⟨(some 12), none, .mv (.t 0)⟩, ⟨(some 13), none, .mv (.t 4)⟩, ⟨(some 14), none, .ixStr (.t 12) (.t 13)⟩, ⟨(some 5), none, .mv (.t 14)⟩])
    (.seq (.seq (.region [⟨(some 15), none, .mv (.t 5)⟩, ⟨(some 16), none, .bin .geq (.t 15) (.c (.int .u8 128))⟩])
    (.cond (.t 16)
      (.seq (.region [⟨(some 17), none, .load true 256 (.t 2)⟩, ⟨none, none, .store 256 (.t 2) (.t 17)⟩, ⟨(some 3), none, .mv (.c (.bool false))⟩])
      .ret)
      .skip))
    (.region [⟨(some 18), none, .mv (.t 5)⟩, ⟨(some 19), none, .ixaArr 256 1 (.t 2) (.t 18)⟩, ⟨none, none, .store 1 (.t 19) (.c (.bool true))⟩]))))
    (.region [⟨(some 10), none, .mv (.t 4)⟩, ⟨(some 11), none, .bin .add (.t 10) (.c (.int .i64 1))⟩, ⟨(some 4), none, .mv (.t 11)⟩]))))))
  (.seq (.region [⟨(some 20), none, .load true 256 (.t 2)⟩, ⟨none, none, .store 256 (.t 2) (.t 20)⟩, ⟨(some 3), none, .mv (.c (.bool true))⟩])
  .ret)))⟩
/-- strings.trimLeftASCII -/
def c_strings_trimLeftASCII : FnC := ⟨16, [.tmp 4],
  (.seq (.region [⟨(some 4), none, .mv (.c (.str []))⟩])
  (.seq (.block 0 (.loop
    (.seq (.seq (.region [⟨(some 5), none, .mv (.t 0)⟩, ⟨(some 6), none, .len 0 (.t 5)⟩, ⟨(some 7), none, .bin .gtr (.t 6) (.c (.int .i64 0))⟩])
    (.cond (.t 7)
      .skip
      (.exit 0)))
    (.block 1 (.seq (.seq (.region [⟨(some 8), none, .mv (.t 1)⟩, ⟨(some 9), none, .mv (.t 0)⟩, ⟨(some 10), none, .ixStr (.t 9) (.c (.int .i64 0))⟩, ⟨(some 11), none, .call i___strings_asciiSet__contains [(.t 8), (.t 10)]⟩, ⟨(some 12), none, .un .not (.t 11)⟩])
    (.cond (.t 12)
      (.exit 0)
      .skip))
    (.region [⟨(some 13), none, .mv (.t 0)⟩, ⟨(some 14), none, .slstr (.t 13) (some (.c (.int .i64 1))) none⟩, ⟨(some 0), none, .mv (.t 14)⟩]))))))
  (.seq (.region [⟨(some 15), none, .mv (.t 0)⟩, ⟨(some 4), none, .mv (.t 15)⟩])
  .ret)))⟩
/-- strings.trimRightASCII -/
def c_strings_trimRightASCII : FnC := ⟨22, [.tmp 4],
  (.seq (.region [⟨(some 4), none, .mv (.c (.str []))⟩])
  (.seq (.block 0 (.loop
    (.seq (.seq (.region [⟨(some 5), none, .mv (.t 0)⟩, ⟨(some 6), none, .len 0 (.t 5)⟩, ⟨(some 7), none, .bin .gtr (.t 6) (.c (.int .i64 0))⟩])
    (.cond (.t 7)
      .skip
      (.exit 0)))
    (.block 1 (.seq (.seq (.region [⟨(some 8), none, .mv (.t 1)⟩, ⟨(some 9), none, .mv (.t 0)⟩, ⟨(some 10), none, .mv (.t 0)⟩, ⟨(some 11), none, .len 0 (.t 10)⟩, ⟨(some 12), none, .bin .sub (.t 11) (.c (.int .i64 1))⟩, ⟨(some 13), none, .ixStr (.t 9) (.t 12)⟩, ⟨(some 14), none, .call i___strings_asciiSet__contains [(.t 8), (.t 13)]⟩, ⟨(some 15), none, .un .not (.t 14)⟩])
    (.cond (.t 15)
      (.exit 0)
      .skip))
    (.region [⟨(some 16), none, .mv (.t 0)⟩, ⟨(some 17), none, .mv (.t 0)⟩, ⟨(some 18), none, .len 0 (.t 17)⟩, ⟨(some 19), none, .bin .sub (.t 18) (.c (.int .i64 1))⟩, ⟨(some 20), none, .slstr (.t 16) none (some (.t 19))⟩, ⟨(some 0), none, .mv (.t 20)⟩]))))))
  (.seq (.region [⟨(some 21), none, .mv (.t 0)⟩, ⟨(some 4), none, .mv (.t 21)⟩])
  .ret)))⟩
/-- gatepost/token.marks -/
def c_token_marks : FnC := ⟨2, [.cell 0 true 15],
  (.seq (.region [⟨(some 0), none, .boxz [(.int .u8 0), (.int .u8 0), (.int .u8 0), (.int .u8 0), (.int .u8 0), (.int .u8 0), (.int .u8 0), (.int .u8 0), (.int .u8 0), (.int .u8 0), (.int .u8 0), (.int .u8 0), (.int .u8 0), (.int .u8 0), (.int .u8 0)]⟩])
  (.seq (.region [⟨(some 1), none, .build [(.int .u8 0), (.int .u8 0), (.int .u8 0), (.int .u8 0), (.int .u8 0), (.int .u8 0), (.int .u8 0), (.int .u8 0), (.int .u8 0), (.int .u8 0), (.int .u8 0), (.int .u8 0), (.int .u8 0), (.int .u8 0), (.int .u8 0)] [(0, 1, (.c (.int .u8 33))), (1, 1, (.c (.int .u8 35))), (2, 1, (.c (.int .u8 36))), (3, 1, (.c (.int .u8 37))), (4, 1, (.c (.int .u8 38))), (5, 1, (.c (.int .u8 39))), (6, 1, (.c (.int .u8 42))), (7, 1, (.c (.int .u8 43))), (8, 1, (.c (.int .u8 45))), (9, 1, (.c (.int .u8 46))), (10, 1, (.c (.int .u8 94))), (11, 1, (.c (.int .u8 95))), (12, 1, (.c (.int .u8 96))), (13, 1, (.c (.int .u8 124))), (14, 1, (.c (.int .u8 126)))]⟩, ⟨none, none, .store 15 (.t 0) (.t 1)⟩])
  .ret))⟩
/-- (*strings.asciiSet).contains -/
def c___strings_asciiSet__contains : FnC := ⟨10, [.tmp 4],
  (.seq (.region [⟨(some 4), none, .mv (.c (.bool false))⟩])
  (.seq (.region [⟨(some 5), none, .mv (.t 0)⟩, ⟨(some 6), none, .mv (.t 1)⟩, ⟨(some 7), none, .nilck (.t 5)⟩, ⟨(some 8), none, .ixaArr 256 1 (.t 7) (.t 6)⟩, ⟨(some 9), none, .load false 1 (.t 8)⟩, ⟨(some 4), none, .mv (.t 9)⟩])
  .ret))⟩
def tab : List (FuncId × FnC) := [(i_gatepostlaw08_ControlJoins, c_gatepostlaw08_ControlJoins), (i_gatepostlaw08_ControlNumbers, c_gatepostlaw08_ControlNumbers), (i_gatepostlaw08_ControlTells, c_gatepostlaw08_ControlTells), (i_control_Parse, c_control_Parse), (i_gatepostlaw08_less, c_gatepostlaw08_less), (i_gatepostlaw08_number, c_gatepostlaw08_number), (i_gatepostref08_Parse, c_gatepostref08_Parse), (i_control_Of, c_control_Of), (i_gatepostref08_Of, c_gatepostref08_Of), (i_control_nothing, c_control_nothing), (i_token_Split, c_token_Split), (i_control_rules, c_control_rules), (i_token_Pair, c_token_Pair), (i_token_Lower, c_token_Lower), (i__gatepost_control_rule__value, c__gatepost_control_rule__value), (i_gatepostref08_None, c_gatepostref08_None), (i_gatepostref01_Split, c_gatepostref01_Split), (i_gatepostref01_Pair, c_gatepostref01_Pair), (i_gatepostref01_Number, c_gatepostref01_Number), (i_gatepostref01_Lower, c_gatepostref01_Lower), (i_gatepostref08_least, c_gatepostref08_least), (i_field_Get, c_field_Get), (i_slices_Contains___string_string_, c_slices_Contains___string_string_), (i_gatepostref04_Get, c_gatepostref04_Get), (i_token_Split_1, c_token_Split_1), (i_token_Trim, c_token_Trim), (i_control_rules_1, c_control_rules_1), (i_control_rules_2, c_control_rules_2), (i_control_rules_3, c_control_rules_3), (i_control_rules_4, c_control_rules_4), (i_control_rules_5, c_control_rules_5), (i_control_rules_6, c_control_rules_6), (i_control_rules_7, c_control_rules_7), (i_control_rules_8, c_control_rules_8), (i_control_rules_9, c_control_rules_9), (i_control_rules_10, c_control_rules_10), (i_control_rules_11, c_control_rules_11), (i_control_rules_12, c_control_rules_12), (i_control_rules_13, c_control_rules_13), (i_control_rules_14, c_control_rules_14), (i_control_rules_15, c_control_rules_15), (i_strings_Cut, c_strings_Cut), (i_token_Is, c_token_Is), (i_token_unquote, c_token_unquote), (i_token_Number, c_token_Number), (i_gatepostref01_Trim, c_gatepostref01_Trim), (i_gatepostref01_Is, c_gatepostref01_Is), (i_gatepostref01_unquote, c_gatepostref01_unquote), (i_token_Same, c_token_Same), (i_slices_Index___string_string_, c_slices_Index___string_string_), (i_gatepostref01_Same, c_gatepostref01_Same), (i_strings_Trim, c_strings_Trim), (i_internal_stringslite_Cut, c_internal_stringslite_Cut), (i_token_all, c_token_all), (i_token_inToken, c_token_inToken), (i_token_inQuotes, c_token_inQuotes), (i_token_Number_1, c_token_Number_1), (i_gatepostref01_blank, c_gatepostref01_blank), (i_gatepostref01_tchar, c_gatepostref01_tchar), (i_gatepostref01_text, c_gatepostref01_text), (i_strings_makeASCIISet, c_strings_makeASCIISet), (i_strings_trimLeftASCII, c_strings_trimLeftASCII), (i_strings_trimRightASCII, c_strings_trimRightASCII), (i_token_marks, c_token_marks), (i___strings_asciiSet__contains, c___strings_asciiSet__contains)]
def F (f : FuncId) : Option FnC := tab.lookup f
end Go.Proofs.YtgplldjcopfjpaaDoor.Vh
end
