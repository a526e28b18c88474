/- The functions of a seat, compiled for the small machine. Printed by Print.lean. -/
import Derived.Test.YtaahialaegfjgaaGreatDoorProg
import Derived.Test.YtaahialaegfjgaaGreatDoorPk1
import Derived.KernelRfl
section
set_option maxRecDepth 100000
set_option linter.unusedVariables false
namespace Go.Proofs.YtaahialaegfjgaaGreatDoor.Vh
open Go.Vm
def i_gatepostlaw10_StoringKeeps : FuncId := 3
def i_gatepostlaw10_StoringTells : FuncId := 4
def i_gatepostlaw10_few : FuncId := 5
def i_token_Same : FuncId := 6
def i_storing_Refresh : FuncId := 7
def i_storing_Of : FuncId := 8
def i_gatepostref10_Of : FuncId := 9
def i_storing_May : FuncId := 10
def i_gatepostref10_May : FuncId := 11
def i_gatepostref10_Refresh : FuncId := 12
def i_gatepostref04_Same : FuncId := 13
def i_token_Lower : FuncId := 14
def i_field_Strip : FuncId := 15
def i_storing_stays : FuncId := 16
def i_field_Del : FuncId := 17
def i_storing_has : FuncId := 18
def i_control_Of : FuncId := 19
def i_storing_Of_1 : FuncId := 20
def i_storing_dated : FuncId := 21
def i_field_Get : FuncId := 22
def i_token_Split : FuncId := 23
def i_token_Number : FuncId := 24
def i_gatepostref08_Of : FuncId := 25
def i_gatepostref10_second : FuncId := 26
def i_gatepostref04_Get : FuncId := 27
def i_gatepostref01_Split : FuncId := 28
def i_gatepostref01_Number : FuncId := 29
def i_storing_known : FuncId := 30
def i_storing_varies : FuncId := 31
def i_fresh_Heuristic : FuncId := 32
def i_gatepostref10_has : FuncId := 33
def i_gatepostref09_Heuristic : FuncId := 34
def i_gatepostref04_Strip : FuncId := 35
def i_gatepostref04_Del : FuncId := 36
def i_field_Names : FuncId := 37
def i_field_without : FuncId := 38
def i_slices_ContainsFunc___gatepost_api_Field_gatepost_api_Field_ : FuncId := 39
def i_storing_has_1 : FuncId := 40
def i_control_Parse : FuncId := 41
def i_control_nothing : FuncId := 42
def i_slices_Contains___string_string_ : FuncId := 43
def i_date_Parse : FuncId := 44
def i_strings_Join : FuncId := 45
def i_token_Split_1 : FuncId := 46
def i_token_Trim : FuncId := 47
def i_token_all : FuncId := 48
def i_token_Number_1 : FuncId := 49
def i_gatepostref08_Parse : FuncId := 50
def i_gatepostref08_None : FuncId := 51
def i_gatepostref01_Lower : FuncId := 52
def i_gatepostref02_Parse : FuncId := 53
def i_gatepostref01_Same : FuncId := 54
def i_gatepostref01_Trim : FuncId := 55
def i_fresh_keeps : FuncId := 56
def i_gatepostref04_Names : FuncId := 57
def i_token_Is : FuncId := 58
def i_field_keep : FuncId := 59
def i_field_without_1 : FuncId := 60
def i_slices_IndexFunc___gatepost_api_Field_gatepost_api_Field_ : FuncId := 61
def i_control_rules : FuncId := 62
def i_token_Pair : FuncId := 63
def i__gatepost_control_rule__value : FuncId := 64
def i_slices_Index___string_string_ : FuncId := 65
def i_date_fixed : FuncId := 66
def i_date_old : FuncId := 67
def i_date_plain : FuncId := 68
def i___strings_Builder__String : FuncId := 71
def i_strings_Trim : FuncId := 72
def i_gatepostref01_Pair : FuncId := 73
def i_gatepostref08_least : FuncId := 74
def i_gatepostref02_second : FuncId := 75
def i_gatepostref02_find : FuncId := 76
def i_gatepostref02_short : FuncId := 77
def i_gatepostref02_number : FuncId := 78
def i_gatepostref02_months : FuncId := 79
def i_gatepostref02_clock : FuncId := 80
def i_gatepostref01_blank : FuncId := 81
def i_gatepostref01_Is : FuncId := 82
def i_token_inToken : FuncId := 83
def i_control_rules_1 : FuncId := 84
def i_control_rules_2 : FuncId := 85
def i_control_rules_3 : FuncId := 86
def i_control_rules_4 : FuncId := 87
def i_control_rules_5 : FuncId := 88
def i_control_rules_6 : FuncId := 89
def i_control_rules_7 : FuncId := 90
def i_control_rules_8 : FuncId := 91
def i_control_rules_9 : FuncId := 92
def i_control_rules_10 : FuncId := 93
def i_control_rules_11 : FuncId := 94
def i_control_rules_12 : FuncId := 95
def i_control_rules_13 : FuncId := 96
def i_control_rules_14 : FuncId := 97
def i_control_rules_15 : FuncId := 98
def i_strings_Cut : FuncId := 99
def i_token_unquote : FuncId := 100
def i___gatepost_date_reader__day : FuncId := 101
def i___gatepost_date_reader__need : FuncId := 102
def i___gatepost_date_reader__number : FuncId := 103
def i___gatepost_date_reader__month : FuncId := 104
def i___gatepost_date_reader__clock : FuncId := 105
def i___gatepost_date_reader__second : FuncId := 106
def i___gatepost_date_reader__take : FuncId := 107
def i_strings_trimLeftByte : FuncId := 110
def i_strings_trimRightByte : FuncId := 111
def i_strings_makeASCIISet : FuncId := 112
def i_strings_trimLeftASCII : FuncId := 113
def i_strings_trimRightASCII : FuncId := 114
def i_strings_trimLeftUnicode : FuncId := 115
def i_strings_trimRightUnicode : FuncId := 116
def i_gatepostref01_unquote : FuncId := 117
def i_gatepostref02_Days : FuncId := 118
def i_gatepostref01_tchar : FuncId := 119
def i_token_marks : FuncId := 120
def i_internal_stringslite_Cut : FuncId := 121
def i_strings_CutPrefix : FuncId := 122
def i_token_inQuotes : FuncId := 123
def i___strings_Builder__WriteByte : FuncId := 124
def i_date_longDays : FuncId := 125
def i___gatepost_date_reader__number_1 : FuncId := 126
def i_date_monthNames : FuncId := 127
def i_date_Days : FuncId := 128
def i___strings_asciiSet__contains : FuncId := 131
def i_gatepostref01_text : FuncId := 135
def i_gatepostref02_long : FuncId := 136
def i_gatepostref02_year : FuncId := 137
def i_internal_stringslite_Index : FuncId := 138
def i_internal_stringslite_CutPrefix : FuncId := 139
def i_date_Civil : FuncId := 140
def i_gatepostref02_leap : FuncId := 144
def i_internal_stringslite_HasPrefix : FuncId := 149
/-- gatepost/gatepostlaw10.StoringKeeps -/
def c_gatepostlaw10_StoringKeeps : FnC := ⟨136, [.tmp 6],
  (.seq (.region [⟨(some 3), none, .box (.t 0)⟩, ⟨(some 6), none, .mv (.c (.bool false))⟩])
  (.seq (.seq (.region [⟨(some 12), none, .mv (.t 1)⟩, ⟨(some 13), none, .call i_gatepostlaw10_few [(.t 12)]⟩, ⟨(some 14), none, .un .not (.t 13)⟩])
  (.cond (.t 14)
    (.seq (.region [⟨(some 6), none, .mv (.c (.bool true))⟩])
    .ret)
    .skip))
  (.seq (.seq (.region [⟨(some 7), none, .mv (.c (.int .i64 0))⟩])
  (.block 0 (.loop
    (.seq (.seq (.region [⟨(some 15), none, .mv (.t 7)⟩, ⟨(some 16), none, .mv (.t 1)⟩, ⟨(some 17), none, .len 1 (.t 16)⟩, ⟨(some 18), none, .bin .lss (.t 15) (.t 17)⟩])
    (.cond (.t 18)
      .skip
      (.exit 0)))
    (.seq (.block 1 (.seq (.region [⟨(some 21), none, .mv (.t 1)⟩, ⟨(some 22), none, .mv (.t 7)⟩, ⟨(some 23), none, .ixaSl 2 (.t 21) (.t 22)⟩, ⟨(some 24), none, .faddr 0 (.t 23)⟩, ⟨(some 25), none, .load false 1 (.t 24)⟩, ⟨(some 26), none, .call i_token_Same [(.t 25), (.c (.str [101, 116, 97, 103]))]⟩, ⟨(some 27), none, .mv (.t 26)⟩, ⟨(some 28), (some (27, false)), .mv (.t 1)⟩, ⟨(some 29), (some (27, false)), .mv (.t 7)⟩, ⟨(some 30), (some (27, false)), .ixaSl 2 (.t 28) (.t 29)⟩, ⟨(some 31), (some (27, false)), .faddr 0 (.t 30)⟩, ⟨(some 32), (some (27, false)), .load false 1 (.t 31)⟩, ⟨(some 33), (some (27, false)), .call i_token_Same [(.t 32), (.c (.str [122, 122]))]⟩, ⟨(some 34), none, .pick (.t 27) (.c (.bool true)) (.t 33)⟩])
    (.cond (.t 34)
      (.seq (.region [⟨(some 6), none, .mv (.c (.bool true))⟩])
      .ret)
      .skip)))
    (.region [⟨(some 19), none, .mv (.t 7)⟩, ⟨(some 20), none, .bin .add (.t 19) (.c (.int .i64 1))⟩, ⟨(some 7), none, .mv (.t 20)⟩]))))))
  (.seq (.region [⟨(some 35), none, .bsl 2 []⟩, ⟨(some 36), none, .mv (.t 1)⟩, ⟨(some 37), none, .app 2 32 false (.t 35) (.t 36)⟩, ⟨(some 38), none, .build [(.str []), (.str [])] [(0, 1, (.c (.str [67, 111, 110, 116, 101, 110, 116, 45, 84, 121, 112, 101]))), (1, 1, (.c (.str [97])))]⟩, ⟨(some 39), none, .build [(.str []), (.str [])] [(0, 1, (.c (.str [69, 84, 97, 103]))), (1, 1, (.c (.str [34, 49, 34])))]⟩, ⟨(some 40), none, .bsl 2 [(.t 38), (.t 39)]⟩, ⟨(some 41), none, .app 2 32 false (.t 37) (.t 40)⟩, ⟨(some 8), none, .mv (.t 41)⟩])
  (.seq (.region [⟨(some 43), none, .load true 21 (.t 3)⟩, ⟨(some 44), none, .mv (.t 8)⟩, ⟨(some 45), none, .build [(.str []), (.str [])] [(0, 1, (.c (.str [101, 116, 97, 103]))), (1, 1, (.c (.str [34, 50, 34])))]⟩, ⟨(some 46), none, .build [(.str []), (.str [])] [(0, 1, (.c (.str [99, 111, 110, 116, 101, 110, 116, 45, 116, 121, 112, 101]))), (1, 1, (.c (.str [98])))]⟩, ⟨(some 47), none, .build [(.str []), (.str [])] [(0, 1, (.c (.str [90, 122]))), (1, 1, (.c (.str [99])))]⟩, ⟨(some 48), none, .bsl 2 [(.t 45), (.t 46), (.t 47)]⟩, ⟨(some 49), none, .build [(.int .i64 0), (.int .i64 0), (.str []), .nsl] [(1, 1, (.c (.int .i64 304))), (3, 1, (.t 48))]⟩, ⟨(some 50), none, .mv (.t 2)⟩, ⟨(some 51), none, .mv (.t 2)⟩, ⟨(some 52), none, .call i_storing_Refresh [(.t 43), (.t 44), (.t 49), (.t 50), (.t 51)]⟩, ⟨(some 42), none, .mv (.t 52)⟩, ⟨(some 53), none, .ext 0 (.t 42)⟩, ⟨(some 54), none, .ext 1 (.t 42)⟩, ⟨(some 9), none, .boxz [(.int .i64 0), (.bool false), (.bool false), (.bool false), (.bool false), (.bool false), (.bool false), (.bool false), (.int .i64 0), (.int .i64 0), (.int .i64 0), (.int .i64 0), (.int .i64 0), (.int .i64 0), (.int .i64 0), (.int .i64 0), (.int .i64 0), (.int .i64 0), (.int .i64 0), (.int .i64 0), (.str [])]⟩, ⟨none, none, .store 21 (.t 9) (.t 53)⟩, ⟨(some 10), none, .mv (.t 54)⟩])
  (.seq (.seq (.region [⟨(some 55), none, .faddr 0 (.t 9)⟩, ⟨(some 56), none, .load false 1 (.t 55)⟩, ⟨(some 57), none, .faddr 0 (.t 3)⟩, ⟨(some 58), none, .load false 1 (.t 57)⟩, ⟨(some 59), none, .bin .neq (.t 56) (.t 58)⟩, ⟨(some 60), none, .mv (.t 59)⟩, ⟨(some 61), (some (60, false)), .faddr 20 (.t 9)⟩, ⟨(some 62), (some (60, false)), .load false 1 (.t 61)⟩, ⟨(some 63), (some (60, false)), .bin .neq (.t 62) (.c (.str [34, 50, 34]))⟩, ⟨(some 64), none, .pick (.t 60) (.c (.bool true)) (.t 63)⟩, ⟨(some 65), none, .mv (.t 64)⟩, ⟨(some 66), (some (65, false)), .faddr 19 (.t 9)⟩, ⟨(some 67), (some (65, false)), .load false 1 (.t 66)⟩, ⟨(some 68), (some (65, false)), .mv (.t 2)⟩, ⟨(some 69), (some (65, false)), .bin .neq (.t 67) (.t 68)⟩, ⟨(some 70), none, .pick (.t 65) (.c (.bool true)) (.t 69)⟩, ⟨(some 71), none, .mv (.t 70)⟩, ⟨(some 72), (some (71, false)), .mv (.t 10)⟩, ⟨(some 73), (some (71, false)), .len 1 (.t 72)⟩, ⟨(some 74), (some (71, false)), .mv (.t 1)⟩, ⟨(some 75), (some (71, false)), .len 1 (.t 74)⟩, ⟨(some 76), (some (71, false)), .bin .add (.t 75) (.c (.int .i64 3))⟩, ⟨(some 77), (some (71, false)), .bin .neq (.t 73) (.t 76)⟩, ⟨(some 78), none, .pick (.t 71) (.c (.bool true)) (.t 77)⟩])
  (.cond (.t 78)
    (.seq (.region [⟨(some 6), none, .mv (.c (.bool false))⟩])
    .ret)
    .skip))
  (.seq (.seq (.region [⟨(some 11), none, .mv (.c (.int .i64 0))⟩])
  (.block 2 (.loop
    (.seq (.seq (.region [⟨(some 79), none, .mv (.t 11)⟩, ⟨(some 80), none, .mv (.t 1)⟩, ⟨(some 81), none, .len 1 (.t 80)⟩, ⟨(some 82), none, .bin .lss (.t 79) (.t 81)⟩])
    (.cond (.t 82)
      .skip
      (.exit 2)))
    (.seq (.block 3 (.seq (.dregion [⟨(some 85), none, .mv (.t 10)⟩, ⟨(some 86), none, .mv (.t 11)⟩, ⟨(some 87), none, .ixaSl 2 (.t 85) (.t 86)⟩, ⟨(some 88), none, .faddr 0 (.t 87)⟩, ⟨(some 89), none, .load false 1 (.t 88)⟩, ⟨(some 90), none, .mv (.t 1)⟩, ⟨(some 91), none, .mv (.t 11)⟩, ⟨(some 92), none, .ixaSl 2 (.t 90) (.t 91)⟩, ⟨(some 93), none, .faddr 0 (.t 92)⟩, ⟨(some 94), none, .load false 1 (.t 93)⟩, ⟨(some 95), none, .bin .neq (.t 89) (.t 94)⟩, ⟨(some 96), none, .mv (.t 95)⟩, ⟨(some 97), (some (96, false)), .mv (.t 10)⟩, ⟨(some 98), (some (96, false)), .mv (.t 11)⟩, ⟨(some 99), (some (96, false)), .ixaSl 2 (.t 97) (.t 98)⟩, ⟨(some 100), (some (96, false)), .faddr 1 (.t 99)⟩, ⟨(some 101), (some (96, false)), .load false 1 (.t 100)⟩, ⟨(some 102), (some (96, false)), .mv (.t 1)⟩, ⟨(some 103), (some (96, false)), .mv (.t 11)⟩, ⟨(some 104), (some (96, false)), .ixaSl 2 (.t 102) (.t 103)⟩, ⟨(some 105), (some (96, false)), .faddr 1 (.t 104)⟩, ⟨(some 106), (some (96, false)), .load false 1 (.t 105)⟩] [⟨(some 107), (some (96, false)), .bin .neq (.t 101) (.t 106)⟩, ⟨(some 108), none, .pick (.t 96) (.c (.bool true)) (.t 107)⟩])
    (.cond (.t 108)
      (.seq (.region [⟨(some 6), none, .mv (.c (.bool false))⟩])
      .ret)
      .skip)))
    (.region [⟨(some 83), none, .mv (.t 11)⟩, ⟨(some 84), none, .bin .add (.t 83) (.c (.int .i64 1))⟩, ⟨(some 11), none, .mv (.t 84)⟩]))))))
  (.seq (.region [⟨(some 109), none, .mv (.t 10)⟩, ⟨(some 110), none, .mv (.t 1)⟩, ⟨(some 111), none, .len 1 (.t 110)⟩, ⟨(some 112), none, .ixaSl 2 (.t 109) (.t 111)⟩, ⟨(some 113), none, .faddr 1 (.t 112)⟩, ⟨(some 114), none, .load false 1 (.t 113)⟩, ⟨(some 115), none, .bin .eql (.t 114) (.c (.str [97]))⟩, ⟨(some 116), none, .mv (.t 115)⟩, ⟨(some 117), (some (116, true)), .mv (.t 10)⟩, ⟨(some 118), (some (116, true)), .mv (.t 1)⟩, ⟨(some 119), (some (116, true)), .len 1 (.t 118)⟩, ⟨(some 120), (some (116, true)), .bin .add (.t 119) (.c (.int .i64 1))⟩, ⟨(some 121), (some (116, true)), .ixaSl 2 (.t 117) (.t 120)⟩, ⟨(some 122), (some (116, true)), .faddr 1 (.t 121)⟩, ⟨(some 123), (some (116, true)), .load false 1 (.t 122)⟩, ⟨(some 124), (some (116, true)), .bin .eql (.t 123) (.c (.str [34, 50, 34]))⟩, ⟨(some 125), none, .pick (.t 116) (.t 124) (.c (.bool false))⟩, ⟨(some 126), none, .mv (.t 125)⟩, ⟨(some 127), (some (126, true)), .mv (.t 10)⟩, ⟨(some 128), (some (126, true)), .mv (.t 1)⟩, ⟨(some 129), (some (126, true)), .len 1 (.t 128)⟩, ⟨(some 130), (some (126, true)), .bin .add (.t 129) (.c (.int .i64 2))⟩, ⟨(some 131), (some (126, true)), .ixaSl 2 (.t 127) (.t 130)⟩, ⟨(some 132), (some (126, true)), .faddr 1 (.t 131)⟩, ⟨(some 133), (some (126, true)), .load false 1 (.t 132)⟩, ⟨(some 134), (some (126, true)), .bin .eql (.t 133) (.c (.str [99]))⟩, ⟨(some 135), none, .pick (.t 126) (.t 134) (.c (.bool false))⟩, ⟨(some 6), none, .mv (.t 135)⟩])
  .ret))))))))⟩
/-- gatepost/gatepostlaw10.StoringTells -/
def c_gatepostlaw10_StoringTells : FnC := ⟨82, [.tmp 6],
  (.seq (.region [⟨(some 3), none, .box (.t 0)⟩, ⟨(some 4), none, .box (.t 1)⟩, ⟨(some 5), none, .box (.t 2)⟩, ⟨(some 6), none, .mv (.c (.bool false))⟩])
  (.seq (.seq (.region [⟨(some 12), none, .faddr 3 (.t 3)⟩, ⟨(some 13), none, .load false 1 (.t 12)⟩, ⟨(some 14), none, .call i_gatepostlaw10_few [(.t 13)]⟩, ⟨(some 15), none, .un .not (.t 14)⟩, ⟨(some 16), none, .mv (.t 15)⟩, ⟨(some 17), (some (16, false)), .faddr 3 (.t 4)⟩, ⟨(some 18), (some (16, false)), .load false 1 (.t 17)⟩, ⟨(some 19), (some (16, false)), .call i_gatepostlaw10_few [(.t 18)]⟩, ⟨(some 20), (some (16, false)), .un .not (.t 19)⟩, ⟨(some 21), none, .pick (.t 16) (.c (.bool true)) (.t 20)⟩])
  (.cond (.t 21)
    (.seq (.region [⟨(some 6), none, .mv (.c (.bool true))⟩])
    .ret)
    .skip))
  (.seq (.region [⟨(some 22), none, .load true 4 (.t 4)⟩, ⟨(some 23), none, .ixaArr 2 1 (.t 5) (.c (.int .i64 0))⟩, ⟨(some 24), none, .load false 1 (.t 23)⟩, ⟨(some 25), none, .ixaArr 2 1 (.t 5) (.c (.int .i64 1))⟩, ⟨(some 26), none, .load false 1 (.t 25)⟩, ⟨(some 27), none, .call i_storing_Of [(.t 22), (.t 24), (.t 26)]⟩, ⟨(some 7), none, .boxz [(.int .i64 0), (.bool false), (.bool false), (.bool false), (.bool false), (.bool false), (.bool false), (.bool false), (.int .i64 0), (.int .i64 0), (.int .i64 0), (.int .i64 0), (.int .i64 0), (.int .i64 0), (.int .i64 0), (.int .i64 0), (.int .i64 0), (.int .i64 0), (.int .i64 0), (.int .i64 0), (.str [])]⟩, ⟨none, none, .store 21 (.t 7) (.t 27)⟩])
  (.seq (.seq (.dregion [⟨(some 28), none, .load true 21 (.t 7)⟩, ⟨(some 29), none, .load true 4 (.t 4)⟩, ⟨(some 30), none, .ixaArr 2 1 (.t 5) (.c (.int .i64 0))⟩, ⟨(some 31), none, .load false 1 (.t 30)⟩, ⟨(some 32), none, .ixaArr 2 1 (.t 5) (.c (.int .i64 1))⟩, ⟨(some 33), none, .load false 1 (.t 32)⟩, ⟨(some 34), none, .call i_gatepostref10_Of [(.t 29), (.t 31), (.t 33)]⟩, ⟨(some 35), none, .eq (.agg [.i, .b, .b, .b, .b, .b, .b, .b, .i, .i, .i, .i, .i, .i, .i, .i, .i, .i, .i, .i, .s]) true (.t 28) (.t 34)⟩, ⟨(some 36), none, .mv (.t 35)⟩, ⟨(some 37), (some (36, false)), .load true 4 (.t 3)⟩, ⟨(some 38), (some (36, false)), .load true 4 (.t 4)⟩, ⟨(some 39), (some (36, false)), .call i_storing_May [(.t 37), (.t 38)]⟩, ⟨(some 40), (some (36, false)), .load true 4 (.t 3)⟩, ⟨(some 41), (some (36, false)), .load true 4 (.t 4)⟩] [⟨(some 42), (some (36, false)), .call i_gatepostref10_May [(.t 40), (.t 41)]⟩, ⟨(some 43), (some (36, false)), .eq .bool true (.t 39) (.t 42)⟩, ⟨(some 44), none, .pick (.t 36) (.c (.bool true)) (.t 43)⟩])
  (.cond (.t 44)
    (.seq (.region [⟨(some 6), none, .mv (.c (.bool false))⟩])
    .ret)
    .skip))
  (.seq (.region [⟨(some 46), none, .load true 21 (.t 7)⟩, ⟨(some 47), none, .faddr 3 (.t 3)⟩, ⟨(some 48), none, .load false 1 (.t 47)⟩, ⟨(some 49), none, .load true 4 (.t 4)⟩, ⟨(some 50), none, .ixaArr 2 1 (.t 5) (.c (.int .i64 1))⟩, ⟨(some 51), none, .load false 1 (.t 50)⟩, ⟨(some 52), none, .ixaArr 2 1 (.t 5) (.c (.int .i64 0))⟩, ⟨(some 53), none, .load false 1 (.t 52)⟩, ⟨(some 54), none, .call i_storing_Refresh [(.t 46), (.t 48), (.t 49), (.t 51), (.t 53)]⟩, ⟨(some 45), none, .mv (.t 54)⟩, ⟨(some 55), none, .ext 0 (.t 45)⟩, ⟨(some 56), none, .ext 1 (.t 45)⟩, ⟨(some 8), none, .boxz [(.int .i64 0), (.bool false), (.bool false), (.bool false), (.bool false), (.bool false), (.bool false), (.bool false), (.int .i64 0), (.int .i64 0), (.int .i64 0), (.int .i64 0), (.int .i64 0), (.int .i64 0), (.int .i64 0), (.int .i64 0), (.int .i64 0), (.int .i64 0), (.int .i64 0), (.int .i64 0), (.str [])]⟩, ⟨none, none, .store 21 (.t 8) (.t 55)⟩, ⟨(some 9), none, .mv (.t 56)⟩])
  (.seq (.region [⟨(some 58), none, .load true 21 (.t 7)⟩, ⟨(some 59), none, .faddr 3 (.t 3)⟩, ⟨(some 60), none, .load false 1 (.t 59)⟩, ⟨(some 61), none, .load true 4 (.t 4)⟩, ⟨(some 62), none, .ixaArr 2 1 (.t 5) (.c (.int .i64 1))⟩, ⟨(some 63), none, .load false 1 (.t 62)⟩, ⟨(some 64), none, .ixaArr 2 1 (.t 5) (.c (.int .i64 0))⟩, ⟨(some 65), none, .load false 1 (.t 64)⟩, ⟨(some 66), none, .call i_gatepostref10_Refresh [(.t 58), (.t 60), (.t 61), (.t 63), (.t 65)]⟩, ⟨(some 57), none, .mv (.t 66)⟩, ⟨(some 67), none, .ext 0 (.t 57)⟩, ⟨(some 68), none, .ext 1 (.t 57)⟩, ⟨(some 10), none, .boxz [(.int .i64 0), (.bool false), (.bool false), (.bool false), (.bool false), (.bool false), (.bool false), (.bool false), (.int .i64 0), (.int .i64 0), (.int .i64 0), (.int .i64 0), (.int .i64 0), (.int .i64 0), (.int .i64 0), (.int .i64 0), (.int .i64 0), (.int .i64 0), (.int .i64 0), (.int .i64 0), (.str [])]⟩, ⟨none, none, .store 21 (.t 10) (.t 67)⟩, ⟨(some 11), none, .mv (.t 68)⟩])
  (.seq (.region [⟨(some 69), none, .load true 21 (.t 8)⟩, ⟨(some 70), none, .load true 21 (.t 10)⟩, ⟨(some 71), none, .eq (.agg [.i, .b, .b, .b, .b, .b, .b, .b, .i, .i, .i, .i, .i, .i, .i, .i, .i, .i, .i, .i, .s]) false (.t 69) (.t 70)⟩, ⟨(some 72), none, .mv (.t 71)⟩, ⟨(some 73), (some (72, true)), .mv (.t 9)⟩, ⟨(some 74), (some (72, true)), .mv (.t 11)⟩, ⟨(some 75), (some (72, true)), .call i_gatepostref04_Same [(.t 73), (.t 74)]⟩, ⟨(some 76), none, .pick (.t 72) (.t 75) (.c (.bool false))⟩, ⟨(some 77), none, .mv (.t 76)⟩, ⟨(some 78), (some (77, true)), .build [(.str []), (.str []), (.int .i64 0), .nsl] [(0, 1, (.c (.str [71, 69, 84])))]⟩, ⟨(some 79), (some (77, true)), .build [(.int .i64 0), (.int .i64 0), (.str []), .nsl] [(1, 1, (.c (.int .i64 200)))]⟩, ⟨(some 80), (some (77, true)), .call i_storing_May [(.t 78), (.t 79)]⟩, ⟨(some 81), none, .pick (.t 77) (.t 80) (.c (.bool false))⟩, ⟨(some 6), none, .mv (.t 81)⟩])
  .ret)))))))⟩
/-- gatepost/gatepostlaw10.few -/
def c_gatepostlaw10_few : FnC := ⟨35, [.tmp 2],
  (.seq (.region [⟨(some 2), none, .mv (.c (.bool false))⟩])
  (.seq (.region [⟨(some 5), none, .mv (.t 0)⟩, ⟨(some 6), none, .len 1 (.t 5)⟩, ⟨(some 7), none, .bin .mul (.c (.int .i64 20)) (.t 6)⟩, ⟨(some 3), none, .mv (.t 7)⟩])
  (.seq (.seq (.region [⟨(some 4), none, .mv (.c (.int .i64 0))⟩])
  (.block 0 (.loop
    (.seq (.seq (.region [⟨(some 8), none, .mv (.t 4)⟩, ⟨(some 9), none, .mv (.t 0)⟩, ⟨(some 10), none, .len 1 (.t 9)⟩, ⟨(some 11), none, .bin .lss (.t 8) (.t 10)⟩, ⟨(some 12), none, .mv (.t 11)⟩, ⟨(some 13), (some (12, true)), .mv (.t 3)⟩, ⟨(some 14), (some (12, true)), .bin .lss (.t 13) (.c (.int .i64 3000))⟩, ⟨(some 15), none, .pick (.t 12) (.t 14) (.c (.bool false))⟩])
    (.cond (.t 15)
      .skip
      (.exit 0)))
    (.seq (.block 1 (.dregion [⟨(some 18), none, .mv (.t 3)⟩, ⟨(some 19), none, .mv (.t 0)⟩, ⟨(some 20), none, .mv (.t 4)⟩, ⟨(some 21), none, .ixaSl 2 (.t 19) (.t 20)⟩, ⟨(some 22), none, .faddr 0 (.t 21)⟩, ⟨(some 23), none, .load false 1 (.t 22)⟩, ⟨(some 24), none, .len 0 (.t 23)⟩, ⟨(some 25), none, .bin .add (.t 18) (.t 24)⟩, ⟨(some 26), none, .mv (.t 0)⟩, ⟨(some 27), none, .mv (.t 4)⟩, ⟨(some 28), none, .ixaSl 2 (.t 26) (.t 27)⟩, ⟨(some 29), none, .faddr 1 (.t 28)⟩, ⟨(some 30), none, .load false 1 (.t 29)⟩, ⟨(some 31), none, .len 0 (.t 30)⟩] [⟨(some 32), none, .bin .add (.t 25) (.t 31)⟩, ⟨(some 3), none, .mv (.t 32)⟩]))
    (.region [⟨(some 16), none, .mv (.t 4)⟩, ⟨(some 17), none, .bin .add (.t 16) (.c (.int .i64 1))⟩, ⟨(some 4), none, .mv (.t 17)⟩]))))))
  (.seq (.region [⟨(some 33), none, .mv (.t 3)⟩, ⟨(some 34), none, .bin .lss (.t 33) (.c (.int .i64 3000))⟩, ⟨(some 2), none, .mv (.t 34)⟩])
  .ret))))⟩
/-- gatepost/token.Same -/
def c_token_Same : FnC := ⟨17, [.tmp 4],
  (.seq (.region [⟨(some 4), none, .mv (.c (.bool false))⟩])
  (.seq (.region [⟨(some 5), none, .mv (.t 0)⟩, ⟨(some 6), none, .len 0 (.t 5)⟩, ⟨(some 7), none, .mv (.t 1)⟩, ⟨(some 8), none, .len 0 (.t 7)⟩, ⟨(some 9), none, .bin .eql (.t 6) (.t 8)⟩, ⟨(some 10), none, .mv (.t 9)⟩, ⟨(some 11), (some (10, true)), .mv (.t 0)⟩, ⟨(some 12), (some (10, true)), .call i_token_Lower [(.t 11)]⟩, ⟨(some 13), (some (10, true)), .mv (.t 1)⟩, ⟨(some 14), (some (10, true)), .call i_token_Lower [(.t 13)]⟩, ⟨(some 15), (some (10, true)), .bin .eql (.t 12) (.t 14)⟩, ⟨(some 16), none, .pick (.t 10) (.t 15) (.c (.bool false))⟩, ⟨(some 4), none, .mv (.t 16)⟩])
  .ret))⟩
/-- gatepost/storing.Refresh -/
def c_storing_Refresh : FnC := ⟨56, [.cell 10 true 21, .tmp 11],
  (.seq (.region [⟨(some 5), none, .box (.t 0)⟩, ⟨(some 7), none, .box (.t 2)⟩, ⟨(some 10), none, .boxz [(.int .i64 0), (.bool false), (.bool false), (.bool false), (.bool false), (.bool false), (.bool false), (.bool false), (.int .i64 0), (.int .i64 0), (.int .i64 0), (.int .i64 0), (.int .i64 0), (.int .i64 0), (.int .i64 0), (.int .i64 0), (.int .i64 0), (.int .i64 0), (.int .i64 0), (.int .i64 0), (.str [])]⟩, ⟨(some 11), none, .mv (.c .nsl)⟩])
  (.seq (.region [⟨(some 18), none, .faddr 3 (.t 7)⟩, ⟨(some 19), none, .load false 1 (.t 18)⟩, ⟨(some 20), none, .call i_field_Strip [(.t 19)]⟩, ⟨(some 12), none, .mv (.t 20)⟩])
  (.seq (.seq (.region [⟨(some 21), none, .call i_storing_stays []⟩, ⟨(some 22), none, .mv (.c (.int .i64 0))⟩])
  (.block 0 (.loop
    (.seq (.region [⟨(some 23), none, .bin .lss (.t 22) (.c (.int .i64 5))⟩])
    (.seq (.cond (.t 23)
      .skip
      (.exit 0))
    (.seq (.block 1 (.seq (.region [⟨(some 24), none, .ixArr 5 1 false (.t 21) (.t 22)⟩, ⟨(some 14), none, .mv (.t 24)⟩])
    (.region [⟨(some 25), none, .mv (.t 12)⟩, ⟨(some 26), none, .mv (.t 14)⟩, ⟨(some 27), none, .call i_field_Del [(.t 25), (.t 26)]⟩, ⟨(some 12), none, .mv (.t 27)⟩])))
    (.region [⟨(some 28), none, .bin .add (.t 22) (.c (.int .i64 1))⟩, ⟨(some 22), none, .mv (.t 28)⟩])))))))
  (.seq (.region [⟨(some 15), none, .mv (.c .nsl)⟩])
  (.seq (.seq (.region [⟨(some 29), none, .mv (.t 1)⟩, ⟨(some 30), none, .len 1 (.t 29)⟩, ⟨(some 31), none, .mv (.c (.int .i64 0))⟩])
  (.block 2 (.loop
    (.seq (.region [⟨(some 32), none, .bin .lss (.t 31) (.t 30)⟩])
    (.seq (.cond (.t 32)
      .skip
      (.exit 2))
    (.seq (.block 3 (.seq (.region [⟨(some 33), none, .ixaSl 2 (.t 29) (.t 31)⟩, ⟨(some 34), none, .load true 2 (.t 33)⟩, ⟨(some 17), none, .boxz [(.str []), (.str [])]⟩, ⟨none, none, .store 2 (.t 17) (.t 34)⟩])
    (.seq (.region [⟨(some 35), none, .mv (.t 12)⟩, ⟨(some 36), none, .faddr 0 (.t 17)⟩, ⟨(some 37), none, .load false 1 (.t 36)⟩, ⟨(some 38), none, .call i_storing_has [(.t 35), (.t 37)]⟩, ⟨(some 39), none, .un .not (.t 38)⟩])
    (.cond (.t 39)
      (.region [⟨(some 40), none, .mv (.t 15)⟩, ⟨(some 41), none, .load true 2 (.t 17)⟩, ⟨(some 42), none, .bsl 2 [(.t 41)]⟩, ⟨(some 43), none, .app 2 32 false (.t 40) (.t 42)⟩, ⟨(some 15), none, .mv (.t 43)⟩])
      .skip))))
    (.region [⟨(some 44), none, .bin .add (.t 31) (.c (.int .i64 1))⟩, ⟨(some 31), none, .mv (.t 44)⟩])))))))
  (.seq (.region [⟨(some 45), none, .mv (.t 15)⟩, ⟨(some 46), none, .mv (.t 12)⟩, ⟨(some 47), none, .app 2 32 false (.t 45) (.t 46)⟩, ⟨(some 15), none, .mv (.t 47)⟩])
  (.seq (.region [⟨(some 48), none, .faddr 0 (.t 5)⟩, ⟨(some 49), none, .load false 1 (.t 48)⟩, ⟨(some 50), none, .mv (.t 15)⟩, ⟨(some 51), none, .build [(.int .i64 0), (.int .i64 0), (.str []), .nsl] [(1, 1, (.t 49)), (3, 1, (.t 50))]⟩, ⟨(some 52), none, .mv (.t 3)⟩, ⟨(some 53), none, .mv (.t 4)⟩, ⟨(some 54), none, .call i_storing_Of [(.t 51), (.t 52), (.t 53)]⟩, ⟨(some 55), none, .mv (.t 15)⟩, ⟨none, none, .store 21 (.t 10) (.t 54)⟩, ⟨(some 11), none, .mv (.t 55)⟩])
  .ret)))))))⟩
/-- gatepost/storing.Of -/
def c_storing_Of : FnC := ⟨73, [.cell 6 true 21],
  (.seq (.region [⟨(some 3), none, .box (.t 0)⟩, ⟨(some 6), none, .boxz [(.int .i64 0), (.bool false), (.bool false), (.bool false), (.bool false), (.bool false), (.bool false), (.bool false), (.int .i64 0), (.int .i64 0), (.int .i64 0), (.int .i64 0), (.int .i64 0), (.int .i64 0), (.int .i64 0), (.int .i64 0), (.int .i64 0), (.int .i64 0), (.int .i64 0), (.int .i64 0), (.str [])]⟩])
  (.seq (.dregion [⟨(some 16), none, .faddr 1 (.t 3)⟩, ⟨(some 17), none, .load false 1 (.t 16)⟩, ⟨(some 18), none, .faddr 3 (.t 3)⟩, ⟨(some 19), none, .load false 1 (.t 18)⟩, ⟨(some 20), none, .call i_control_Of [(.t 19)]⟩, ⟨(some 21), none, .mv (.t 1)⟩, ⟨(some 22), none, .mv (.t 2)⟩, ⟨(some 23), none, .build [(.int .i64 0), (.bool false), (.bool false), (.bool false), (.bool false), (.bool false), (.bool false), (.bool false), (.int .i64 0), (.int .i64 0), (.int .i64 0), (.int .i64 0), (.int .i64 0), (.int .i64 0), (.int .i64 0), (.int .i64 0), (.int .i64 0), (.int .i64 0), (.int .i64 0), (.int .i64 0), (.str [])] [(0, 1, (.t 17)), (1, 13, (.t 20)), (15, 1, (.c (.int .i64 (-1)))), (17, 1, (.c (.int .i64 (-1)))), (18, 1, (.t 21)), (19, 1, (.t 22))]⟩, ⟨(some 7), none, .boxz [(.int .i64 0), (.bool false), (.bool false), (.bool false), (.bool false), (.bool false), (.bool false), (.bool false), (.int .i64 0), (.int .i64 0), (.int .i64 0), (.int .i64 0), (.int .i64 0), (.int .i64 0), (.int .i64 0), (.int .i64 0), (.int .i64 0), (.int .i64 0), (.int .i64 0), (.int .i64 0), (.str [])]⟩] [⟨none, none, .store 21 (.t 7) (.t 23)⟩])
  (.seq (.region [⟨(some 24), none, .mkfn i_storing_Of_1 [(.t 3)]⟩, ⟨(some 8), none, .mv (.t 24)⟩])
  (.seq (.region [⟨(some 25), none, .mv (.t 8)⟩, ⟨(some 26), none, .callv (.t 25) [(.c (.str [68, 97, 116, 101]))]⟩, ⟨(some 27), none, .mv (.t 8)⟩, ⟨(some 28), none, .callv (.t 27) [(.c (.str [76, 97, 115, 116, 45, 77, 111, 100, 105, 102, 105, 101, 100]))]⟩, ⟨(some 29), none, .faddr 14 (.t 7)⟩, ⟨none, none, .store 1 (.t 29) (.t 26)⟩, ⟨(some 30), none, .faddr 16 (.t 7)⟩, ⟨none, none, .store 1 (.t 30) (.t 28)⟩])
  (.seq (.seq (.region [⟨(some 31), none, .faddr 3 (.t 3)⟩, ⟨(some 32), none, .load false 1 (.t 31)⟩, ⟨(some 33), none, .call i_storing_dated [(.t 32), (.c (.str [69, 120, 112, 105, 114, 101, 115]))]⟩, ⟨(some 9), none, .boxz [(.int .i64 0), (.bool false), (.bool false)]⟩, ⟨none, none, .store 3 (.t 9) (.t 33)⟩])
  (.seq (.region [⟨(some 34), none, .load true 3 (.t 9)⟩, ⟨(some 35), none, .build [(.int .i64 0), (.bool false), (.bool false)] []⟩, ⟨(some 36), none, .eq (.agg [.i, .b, .b]) true (.t 34) (.t 35)⟩])
  (.cond (.t 36)
    (.region [⟨(some 37), none, .mv (.t 8)⟩, ⟨(some 38), none, .callv (.t 37) [(.c (.str [69, 120, 112, 105, 114, 101, 115]))]⟩, ⟨(some 39), none, .mx [(.c (.int .i64 0)), (.t 38)]⟩, ⟨(some 40), none, .faddr 15 (.t 7)⟩, ⟨none, none, .store 1 (.t 40) (.t 39)⟩])
    .skip)))
  (.seq (.region [⟨(some 42), none, .faddr 3 (.t 3)⟩, ⟨(some 43), none, .load false 1 (.t 42)⟩, ⟨(some 44), none, .call i_field_Get [(.t 43), (.c (.str [65, 103, 101]))]⟩, ⟨(some 41), none, .mv (.t 44)⟩, ⟨(some 45), none, .ext 0 (.t 41)⟩, ⟨(some 46), none, .ext 1 (.t 41)⟩, ⟨(some 10), none, .mv (.t 45)⟩, ⟨(some 11), none, .mv (.t 46)⟩])
  (.seq (.seq (.region [⟨(some 48), none, .mv (.t 10)⟩, ⟨(some 49), none, .call i_token_Split [(.t 48)]⟩, ⟨(some 47), none, .mv (.t 49)⟩, ⟨(some 50), none, .ext 0 (.t 47)⟩, ⟨(some 51), none, .ext 1 (.t 47)⟩, ⟨(some 12), none, .mv (.t 50)⟩, ⟨(some 13), none, .mv (.t 51)⟩])
  (.seq (.region [⟨(some 52), none, .mv (.t 12)⟩, ⟨(some 53), none, .len 1 (.t 52)⟩, ⟨(some 54), none, .bin .gtr (.t 53) (.c (.int .i64 0))⟩])
  (.cond (.t 54)
    (.seq (.region [⟨(some 56), none, .mv (.t 12)⟩, ⟨(some 57), none, .ixaSl 1 (.t 56) (.c (.int .i64 0))⟩, ⟨(some 58), none, .load false 1 (.t 57)⟩, ⟨(some 59), none, .call i_token_Number [(.t 58), (.c (.int .i64 2147483648))]⟩, ⟨(some 55), none, .mv (.t 59)⟩, ⟨(some 60), none, .ext 0 (.t 55)⟩, ⟨(some 61), none, .ext 1 (.t 55)⟩, ⟨(some 14), none, .mv (.t 60)⟩, ⟨(some 15), none, .mv (.t 61)⟩])
    (.seq (.region [⟨(some 62), none, .mv (.t 15)⟩])
    (.cond (.t 62)
      (.region [⟨(some 63), none, .mv (.t 14)⟩, ⟨(some 64), none, .faddr 17 (.t 7)⟩, ⟨none, none, .store 1 (.t 64) (.t 63)⟩])
      .skip)))
    .skip)))
  (.seq (.region [⟨(some 66), none, .faddr 3 (.t 3)⟩, ⟨(some 67), none, .load false 1 (.t 66)⟩, ⟨(some 68), none, .call i_field_Get [(.t 67), (.c (.str [69, 84, 97, 103]))]⟩, ⟨(some 65), none, .mv (.t 68)⟩, ⟨(some 69), none, .ext 0 (.t 65)⟩, ⟨(some 70), none, .ext 1 (.t 65)⟩, ⟨(some 71), none, .faddr 20 (.t 7)⟩, ⟨none, none, .store 1 (.t 71) (.t 69)⟩])
  (.seq (.region [⟨(some 72), none, .load true 21 (.t 7)⟩, ⟨none, none, .store 21 (.t 6) (.t 72)⟩])
  .ret)))))))))⟩
/-- gatepost/gatepostref10.Of -/
def c_gatepostref10_Of : FnC := ⟨78, [.cell 6 true 21],
  (.seq (.region [⟨(some 3), none, .box (.t 0)⟩, ⟨(some 6), none, .boxz [(.int .i64 0), (.bool false), (.bool false), (.bool false), (.bool false), (.bool false), (.bool false), (.bool false), (.int .i64 0), (.int .i64 0), (.int .i64 0), (.int .i64 0), (.int .i64 0), (.int .i64 0), (.int .i64 0), (.int .i64 0), (.int .i64 0), (.int .i64 0), (.int .i64 0), (.int .i64 0), (.str [])]⟩])
  (.seq (.dregion [⟨(some 14), none, .faddr 1 (.t 3)⟩, ⟨(some 15), none, .load false 1 (.t 14)⟩, ⟨(some 16), none, .faddr 3 (.t 3)⟩, ⟨(some 17), none, .load false 1 (.t 16)⟩, ⟨(some 18), none, .call i_gatepostref08_Of [(.t 17)]⟩, ⟨(some 19), none, .mv (.t 1)⟩, ⟨(some 20), none, .mv (.t 2)⟩, ⟨(some 21), none, .build [(.int .i64 0), (.bool false), (.bool false), (.bool false), (.bool false), (.bool false), (.bool false), (.bool false), (.int .i64 0), (.int .i64 0), (.int .i64 0), (.int .i64 0), (.int .i64 0), (.int .i64 0), (.int .i64 0), (.int .i64 0), (.int .i64 0), (.int .i64 0), (.int .i64 0), (.int .i64 0), (.str [])] [(0, 1, (.t 15)), (1, 13, (.t 18)), (18, 1, (.t 19)), (19, 1, (.t 20)), (17, 1, (.c (.int .i64 (-1))))]⟩, ⟨(some 7), none, .boxz [(.int .i64 0), (.bool false), (.bool false), (.bool false), (.bool false), (.bool false), (.bool false), (.bool false), (.int .i64 0), (.int .i64 0), (.int .i64 0), (.int .i64 0), (.int .i64 0), (.int .i64 0), (.int .i64 0), (.int .i64 0), (.int .i64 0), (.int .i64 0), (.int .i64 0), (.int .i64 0), (.str [])]⟩] [⟨none, none, .store 21 (.t 7) (.t 21)⟩])
  (.seq (.region [⟨(some 22), none, .faddr 3 (.t 3)⟩, ⟨(some 23), none, .load false 1 (.t 22)⟩, ⟨(some 24), none, .call i_gatepostref10_second [(.t 23), (.c (.str [100, 97, 116, 101]))]⟩, ⟨(some 25), none, .faddr 14 (.t 7)⟩, ⟨none, none, .store 1 (.t 25) (.t 24)⟩])
  (.seq (.seq (.region [⟨(some 26), none, .faddr 14 (.t 7)⟩, ⟨(some 27), none, .load false 1 (.t 26)⟩, ⟨(some 28), none, .bin .lss (.t 27) (.c (.int .i64 0))⟩])
  (.cond (.t 28)
    (.region [⟨(some 29), none, .faddr 14 (.t 7)⟩, ⟨none, none, .store 1 (.t 29) (.c (.int .i64 (-1)))⟩])
    .skip))
  (.seq (.region [⟨(some 30), none, .faddr 3 (.t 3)⟩, ⟨(some 31), none, .load false 1 (.t 30)⟩, ⟨(some 32), none, .call i_gatepostref10_second [(.t 31), (.c (.str [108, 97, 115, 116, 45, 109, 111, 100, 105, 102, 105, 101, 100]))]⟩, ⟨(some 33), none, .faddr 16 (.t 7)⟩, ⟨none, none, .store 1 (.t 33) (.t 32)⟩])
  (.seq (.seq (.region [⟨(some 34), none, .faddr 16 (.t 7)⟩, ⟨(some 35), none, .load false 1 (.t 34)⟩, ⟨(some 36), none, .bin .lss (.t 35) (.c (.int .i64 0))⟩])
  (.cond (.t 36)
    (.region [⟨(some 37), none, .faddr 16 (.t 7)⟩, ⟨none, none, .store 1 (.t 37) (.c (.int .i64 (-1)))⟩])
    .skip))
  (.seq (.region [⟨(some 38), none, .faddr 3 (.t 3)⟩, ⟨(some 39), none, .load false 1 (.t 38)⟩, ⟨(some 40), none, .call i_gatepostref10_second [(.t 39), (.c (.str [101, 120, 112, 105, 114, 101, 115]))]⟩, ⟨(some 41), none, .faddr 15 (.t 7)⟩, ⟨none, none, .store 1 (.t 41) (.t 40)⟩])
  (.seq (.seq (.region [⟨(some 42), none, .faddr 15 (.t 7)⟩, ⟨(some 43), none, .load false 1 (.t 42)⟩, ⟨(some 44), none, .bin .eql (.t 43) (.c (.int .i64 (-2)))⟩])
  (.cond (.t 44)
    (.region [⟨(some 45), none, .faddr 15 (.t 7)⟩, ⟨none, none, .store 1 (.t 45) (.c (.int .i64 0))⟩])
    .skip))
  (.seq (.region [⟨(some 47), none, .faddr 3 (.t 3)⟩, ⟨(some 48), none, .load false 1 (.t 47)⟩, ⟨(some 49), none, .call i_gatepostref04_Get [(.t 48), (.c (.str [97, 103, 101]))]⟩, ⟨(some 46), none, .mv (.t 49)⟩, ⟨(some 50), none, .ext 0 (.t 46)⟩, ⟨(some 51), none, .ext 1 (.t 46)⟩, ⟨(some 8), none, .mv (.t 50)⟩, ⟨(some 9), none, .mv (.t 51)⟩])
  (.seq (.region [⟨(some 53), none, .mv (.t 8)⟩, ⟨(some 54), none, .call i_gatepostref01_Split [(.t 53)]⟩, ⟨(some 52), none, .mv (.t 54)⟩, ⟨(some 55), none, .ext 0 (.t 52)⟩, ⟨(some 56), none, .ext 1 (.t 52)⟩, ⟨(some 10), none, .mv (.t 55)⟩, ⟨(some 11), none, .mv (.t 56)⟩])
  (.seq (.seq (.region [⟨(some 57), none, .mv (.t 10)⟩, ⟨(some 58), none, .len 1 (.t 57)⟩, ⟨(some 59), none, .bin .gtr (.t 58) (.c (.int .i64 0))⟩])
  (.cond (.t 59)
    (.seq (.region [⟨(some 61), none, .mv (.t 10)⟩, ⟨(some 62), none, .ixaSl 1 (.t 61) (.c (.int .i64 0))⟩, ⟨(some 63), none, .load false 1 (.t 62)⟩, ⟨(some 64), none, .call i_gatepostref01_Number [(.t 63), (.c (.int .i64 2147483648))]⟩, ⟨(some 60), none, .mv (.t 64)⟩, ⟨(some 65), none, .ext 0 (.t 60)⟩, ⟨(some 66), none, .ext 1 (.t 60)⟩, ⟨(some 12), none, .mv (.t 65)⟩, ⟨(some 13), none, .mv (.t 66)⟩])
    (.seq (.region [⟨(some 67), none, .mv (.t 13)⟩])
    (.cond (.t 67)
      (.region [⟨(some 68), none, .mv (.t 12)⟩, ⟨(some 69), none, .faddr 17 (.t 7)⟩, ⟨none, none, .store 1 (.t 69) (.t 68)⟩])
      .skip)))
    .skip))
  (.seq (.region [⟨(some 71), none, .faddr 3 (.t 3)⟩, ⟨(some 72), none, .load false 1 (.t 71)⟩, ⟨(some 73), none, .call i_gatepostref04_Get [(.t 72), (.c (.str [101, 116, 97, 103]))]⟩, ⟨(some 70), none, .mv (.t 73)⟩, ⟨(some 74), none, .ext 0 (.t 70)⟩, ⟨(some 75), none, .ext 1 (.t 70)⟩, ⟨(some 76), none, .faddr 20 (.t 7)⟩, ⟨none, none, .store 1 (.t 76) (.t 74)⟩])
  (.seq (.region [⟨(some 77), none, .load true 21 (.t 7)⟩, ⟨none, none, .store 21 (.t 6) (.t 77)⟩])
  .ret)))))))))))))⟩
/-- gatepost/storing.May -/
def c_storing_May : FnC := ⟨83, [.tmp 4],
  (.seq (.region [⟨(some 2), none, .box (.t 0)⟩, ⟨(some 3), none, .box (.t 1)⟩, ⟨(some 4), none, .mv (.c (.bool false))⟩])
  (.seq (.dregion [⟨(some 7), none, .faddr 3 (.t 2)⟩, ⟨(some 8), none, .load false 1 (.t 7)⟩, ⟨(some 9), none, .call i_control_Of [(.t 8)]⟩, ⟨(some 10), none, .faddr 3 (.t 3)⟩, ⟨(some 11), none, .load false 1 (.t 10)⟩, ⟨(some 12), none, .call i_control_Of [(.t 11)]⟩, ⟨(some 5), none, .boxz [(.bool false), (.bool false), (.bool false), (.bool false), (.bool false), (.bool false), (.bool false), (.int .i64 0), (.int .i64 0), (.int .i64 0), (.int .i64 0), (.int .i64 0), (.int .i64 0)]⟩, ⟨(some 6), none, .boxz [(.bool false), (.bool false), (.bool false), (.bool false), (.bool false), (.bool false), (.bool false), (.int .i64 0), (.int .i64 0), (.int .i64 0), (.int .i64 0), (.int .i64 0), (.int .i64 0)]⟩] [⟨none, none, .store 13 (.t 5) (.t 9)⟩, ⟨none, none, .store 13 (.t 6) (.t 12)⟩])
  (.seq (.block 0 (.seq (.region [⟨(some 14), none, .faddr 0 (.t 2)⟩, ⟨(some 15), none, .load false 1 (.t 14)⟩, ⟨(some 16), none, .bin .neq (.t 15) (.c (.str [71, 69, 84]))⟩, ⟨(some 17), none, .mv (.t 16)⟩, ⟨(some 18), (some (17, false)), .faddr 0 (.t 5)⟩, ⟨(some 19), (some (17, false)), .load false 1 (.t 18)⟩, ⟨(some 20), none, .pick (.t 17) (.c (.bool true)) (.t 19)⟩, ⟨(some 21), none, .mv (.t 20)⟩, ⟨(some 22), (some (21, false)), .faddr 0 (.t 6)⟩, ⟨(some 23), (some (21, false)), .load false 1 (.t 22)⟩, ⟨(some 24), none, .pick (.t 21) (.c (.bool true)) (.t 23)⟩, ⟨(some 25), none, .mv (.t 24)⟩, ⟨(some 26), (some (25, false)), .faddr 2 (.t 6)⟩, ⟨(some 27), (some (25, false)), .load false 1 (.t 26)⟩, ⟨(some 28), none, .pick (.t 25) (.c (.bool true)) (.t 27)⟩, ⟨(some 13), none, .mv (.t 28)⟩])
  (.cond (.t 13)
    (.seq (.region [⟨(some 4), none, .mv (.c (.bool false))⟩])
    .ret)
    (.seq (.dregion [⟨(some 30), none, .faddr 1 (.t 3)⟩, ⟨(some 31), none, .load false 1 (.t 30)⟩, ⟨(some 32), none, .faddr 3 (.t 2)⟩, ⟨(some 33), none, .load false 1 (.t 32)⟩, ⟨(some 34), none, .call i_storing_has [(.t 33), (.c (.str [82, 97, 110, 103, 101]))]⟩] [⟨(some 35), none, .call i_storing_known [(.t 31), (.t 34)]⟩, ⟨(some 36), none, .un .not (.t 35)⟩, ⟨(some 37), none, .mv (.t 36)⟩, ⟨(some 38), (some (37, false)), .faddr 3 (.t 3)⟩, ⟨(some 39), (some (37, false)), .load false 1 (.t 38)⟩, ⟨(some 40), (some (37, false)), .call i_storing_varies [(.t 39)]⟩, ⟨(some 41), none, .pick (.t 37) (.c (.bool true)) (.t 40)⟩, ⟨(some 29), none, .mv (.t 41)⟩])
    (.cond (.t 29)
      (.seq (.region [⟨(some 4), none, .mv (.c (.bool false))⟩])
      .ret)
      (.seq (.region [⟨(some 43), none, .faddr 3 (.t 2)⟩, ⟨(some 44), none, .load false 1 (.t 43)⟩, ⟨(some 45), none, .call i_storing_has [(.t 44), (.c (.str [65, 117, 116, 104, 111, 114, 105, 122, 97, 116, 105, 111, 110]))]⟩, ⟨(some 46), none, .mv (.t 45)⟩, ⟨(some 47), (some (46, true)), .faddr 3 (.t 6)⟩, ⟨(some 48), (some (46, true)), .load false 1 (.t 47)⟩, ⟨(some 49), (some (46, true)), .un .not (.t 48)⟩, ⟨(some 50), none, .pick (.t 46) (.t 49) (.c (.bool false))⟩, ⟨(some 51), none, .mv (.t 50)⟩, ⟨(some 52), (some (51, true)), .faddr 4 (.t 6)⟩, ⟨(some 53), (some (51, true)), .load false 1 (.t 52)⟩, ⟨(some 54), (some (51, true)), .un .not (.t 53)⟩, ⟨(some 55), none, .pick (.t 51) (.t 54) (.c (.bool false))⟩, ⟨(some 56), none, .mv (.t 55)⟩, ⟨(some 57), (some (56, true)), .faddr 8 (.t 6)⟩, ⟨(some 58), (some (56, true)), .load false 1 (.t 57)⟩, ⟨(some 59), (some (56, true)), .bin .lss (.t 58) (.c (.int .i64 0))⟩, ⟨(some 60), none, .pick (.t 56) (.t 59) (.c (.bool false))⟩, ⟨(some 42), none, .mv (.t 60)⟩])
      (.cond (.t 42)
        (.seq (.region [⟨(some 4), none, .mv (.c (.bool false))⟩])
        .ret)
        .skip)))))))
  (.seq (.region [⟨(some 61), none, .faddr 3 (.t 3)⟩, ⟨(some 62), none, .load false 1 (.t 61)⟩, ⟨(some 63), none, .call i_storing_has [(.t 62), (.c (.str [69, 120, 112, 105, 114, 101, 115]))]⟩, ⟨(some 64), none, .mv (.t 63)⟩, ⟨(some 65), (some (64, false)), .faddr 3 (.t 6)⟩, ⟨(some 66), (some (64, false)), .load false 1 (.t 65)⟩, ⟨(some 67), none, .pick (.t 64) (.c (.bool true)) (.t 66)⟩, ⟨(some 68), none, .mv (.t 67)⟩, ⟨(some 69), (some (68, false)), .faddr 7 (.t 6)⟩, ⟨(some 70), (some (68, false)), .load false 1 (.t 69)⟩, ⟨(some 71), (some (68, false)), .bin .geq (.t 70) (.c (.int .i64 0))⟩, ⟨(some 72), none, .pick (.t 68) (.c (.bool true)) (.t 71)⟩, ⟨(some 73), none, .mv (.t 72)⟩, ⟨(some 74), (some (73, false)), .faddr 8 (.t 6)⟩, ⟨(some 75), (some (73, false)), .load false 1 (.t 74)⟩, ⟨(some 76), (some (73, false)), .bin .geq (.t 75) (.c (.int .i64 0))⟩, ⟨(some 77), none, .pick (.t 73) (.c (.bool true)) (.t 76)⟩, ⟨(some 78), none, .mv (.t 77)⟩, ⟨(some 79), (some (78, false)), .faddr 1 (.t 3)⟩, ⟨(some 80), (some (78, false)), .load false 1 (.t 79)⟩, ⟨(some 81), (some (78, false)), .call i_fresh_Heuristic [(.t 80)]⟩, ⟨(some 82), none, .pick (.t 78) (.c (.bool true)) (.t 81)⟩, ⟨(some 4), none, .mv (.t 82)⟩])
  .ret))))⟩
/-- gatepost/gatepostref10.May -/
def c_gatepostref10_May : FnC := ⟨128, [.tmp 4],
  (.seq (.region [⟨(some 2), none, .box (.t 0)⟩, ⟨(some 3), none, .box (.t 1)⟩, ⟨(some 4), none, .mv (.c (.bool false))⟩])
  (.seq (.region [⟨(some 12), none, .faddr 3 (.t 2)⟩, ⟨(some 13), none, .load false 1 (.t 12)⟩, ⟨(some 14), none, .call i_gatepostref08_Of [(.t 13)]⟩, ⟨(some 5), none, .boxz [(.bool false), (.bool false), (.bool false), (.bool false), (.bool false), (.bool false), (.bool false), (.int .i64 0), (.int .i64 0), (.int .i64 0), (.int .i64 0), (.int .i64 0), (.int .i64 0)]⟩, ⟨none, none, .store 13 (.t 5) (.t 14)⟩])
  (.seq (.region [⟨(some 15), none, .faddr 3 (.t 3)⟩, ⟨(some 16), none, .load false 1 (.t 15)⟩, ⟨(some 17), none, .call i_gatepostref08_Of [(.t 16)]⟩, ⟨(some 6), none, .boxz [(.bool false), (.bool false), (.bool false), (.bool false), (.bool false), (.bool false), (.bool false), (.int .i64 0), (.int .i64 0), (.int .i64 0), (.int .i64 0), (.int .i64 0), (.int .i64 0)]⟩, ⟨none, none, .store 13 (.t 6) (.t 17)⟩])
  (.seq (.seq (.region [⟨(some 18), none, .faddr 0 (.t 2)⟩, ⟨(some 19), none, .load false 1 (.t 18)⟩, ⟨(some 20), none, .bin .neq (.t 19) (.c (.str [71, 69, 84]))⟩, ⟨(some 21), none, .mv (.t 20)⟩, ⟨(some 22), (some (21, false)), .faddr 0 (.t 5)⟩, ⟨(some 23), (some (21, false)), .load false 1 (.t 22)⟩, ⟨(some 24), none, .pick (.t 21) (.c (.bool true)) (.t 23)⟩, ⟨(some 25), none, .mv (.t 24)⟩, ⟨(some 26), (some (25, false)), .faddr 0 (.t 6)⟩, ⟨(some 27), (some (25, false)), .load false 1 (.t 26)⟩, ⟨(some 28), none, .pick (.t 25) (.c (.bool true)) (.t 27)⟩, ⟨(some 29), none, .mv (.t 28)⟩, ⟨(some 30), (some (29, false)), .faddr 2 (.t 6)⟩, ⟨(some 31), (some (29, false)), .load false 1 (.t 30)⟩, ⟨(some 32), none, .pick (.t 29) (.c (.bool true)) (.t 31)⟩])
  (.cond (.t 32)
    (.seq (.region [⟨(some 4), none, .mv (.c (.bool false))⟩])
    .ret)
    .skip))
  (.seq (.seq (.region [⟨(some 33), none, .faddr 1 (.t 3)⟩, ⟨(some 34), none, .load false 1 (.t 33)⟩, ⟨(some 35), none, .bin .lss (.t 34) (.c (.int .i64 200))⟩, ⟨(some 36), none, .mv (.t 35)⟩, ⟨(some 37), (some (36, false)), .faddr 1 (.t 3)⟩, ⟨(some 38), (some (36, false)), .load false 1 (.t 37)⟩, ⟨(some 39), (some (36, false)), .bin .gtr (.t 38) (.c (.int .i64 599))⟩, ⟨(some 40), none, .pick (.t 36) (.c (.bool true)) (.t 39)⟩, ⟨(some 41), none, .mv (.t 40)⟩, ⟨(some 42), (some (41, false)), .faddr 1 (.t 3)⟩, ⟨(some 43), (some (41, false)), .load false 1 (.t 42)⟩, ⟨(some 44), (some (41, false)), .bin .eql (.t 43) (.c (.int .i64 304))⟩, ⟨(some 45), none, .pick (.t 41) (.c (.bool true)) (.t 44)⟩])
  (.cond (.t 45)
    (.seq (.region [⟨(some 4), none, .mv (.c (.bool false))⟩])
    .ret)
    .skip))
  (.seq (.seq (.region [⟨(some 46), none, .faddr 3 (.t 2)⟩, ⟨(some 47), none, .load false 1 (.t 46)⟩, ⟨(some 48), none, .call i_gatepostref10_has [(.t 47), (.c (.str [114, 97, 110, 103, 101]))]⟩, ⟨(some 49), none, .mv (.t 48)⟩, ⟨(some 50), (some (49, true)), .faddr 1 (.t 3)⟩, ⟨(some 51), (some (49, true)), .load false 1 (.t 50)⟩, ⟨(some 52), (some (49, true)), .bin .neq (.t 51) (.c (.int .i64 200))⟩, ⟨(some 53), none, .pick (.t 49) (.t 52) (.c (.bool false))⟩, ⟨(some 54), none, .mv (.t 53)⟩, ⟨(some 55), (some (54, true)), .faddr 1 (.t 3)⟩, ⟨(some 56), (some (54, true)), .load false 1 (.t 55)⟩, ⟨(some 57), (some (54, true)), .bin .neq (.t 56) (.c (.int .i64 206))⟩, ⟨(some 58), none, .pick (.t 54) (.t 57) (.c (.bool false))⟩, ⟨(some 59), none, .mv (.t 58)⟩, ⟨(some 60), (some (59, true)), .faddr 1 (.t 3)⟩, ⟨(some 61), (some (59, true)), .load false 1 (.t 60)⟩, ⟨(some 62), (some (59, true)), .bin .lss (.t 61) (.c (.int .i64 300))⟩, ⟨(some 63), none, .pick (.t 59) (.t 62) (.c (.bool false))⟩])
  (.cond (.t 63)
    (.seq (.region [⟨(some 4), none, .mv (.c (.bool false))⟩])
    .ret)
    .skip))
  (.seq (.region [⟨(some 65), none, .faddr 3 (.t 3)⟩, ⟨(some 66), none, .load false 1 (.t 65)⟩, ⟨(some 67), none, .call i_gatepostref04_Get [(.t 66), (.c (.str [118, 97, 114, 121]))]⟩, ⟨(some 64), none, .mv (.t 67)⟩, ⟨(some 68), none, .ext 0 (.t 64)⟩, ⟨(some 69), none, .ext 1 (.t 64)⟩, ⟨(some 7), none, .mv (.t 68)⟩, ⟨(some 8), none, .mv (.t 69)⟩])
  (.seq (.region [⟨(some 71), none, .mv (.t 7)⟩, ⟨(some 72), none, .call i_gatepostref01_Split [(.t 71)]⟩, ⟨(some 70), none, .mv (.t 72)⟩, ⟨(some 73), none, .ext 0 (.t 70)⟩, ⟨(some 74), none, .ext 1 (.t 70)⟩, ⟨(some 9), none, .mv (.t 73)⟩, ⟨(some 10), none, .mv (.t 74)⟩])
  (.seq (.seq (.region [⟨(some 75), none, .mv (.t 10)⟩, ⟨(some 76), none, .un .not (.t 75)⟩])
  (.cond (.t 76)
    (.seq (.region [⟨(some 4), none, .mv (.c (.bool false))⟩])
    .ret)
    .skip))
  (.seq (.seq (.region [⟨(some 11), none, .mv (.c (.int .i64 0))⟩])
  (.block 0 (.loop
    (.seq (.seq (.region [⟨(some 77), none, .mv (.t 11)⟩, ⟨(some 78), none, .mv (.t 9)⟩, ⟨(some 79), none, .len 1 (.t 78)⟩, ⟨(some 80), none, .bin .lss (.t 77) (.t 79)⟩])
    (.cond (.t 80)
      .skip
      (.exit 0)))
    (.seq (.block 1 (.seq (.region [⟨(some 83), none, .mv (.t 9)⟩, ⟨(some 84), none, .mv (.t 11)⟩, ⟨(some 85), none, .ixaSl 1 (.t 83) (.t 84)⟩, ⟨(some 86), none, .load false 1 (.t 85)⟩, ⟨(some 87), none, .bin .eql (.t 86) (.c (.str [42]))⟩])
    (.cond (.t 87)
      (.seq (.region [⟨(some 4), none, .mv (.c (.bool false))⟩])
      .ret)
      .skip)))
    (.region [⟨(some 81), none, .mv (.t 11)⟩, ⟨(some 82), none, .bin .add (.t 81) (.c (.int .i64 1))⟩, ⟨(some 11), none, .mv (.t 82)⟩]))))))
  (.seq (.seq (.region [⟨(some 88), none, .faddr 3 (.t 2)⟩, ⟨(some 89), none, .load false 1 (.t 88)⟩, ⟨(some 90), none, .call i_gatepostref10_has [(.t 89), (.c (.str [97, 117, 116, 104, 111, 114, 105, 122, 97, 116, 105, 111, 110]))]⟩, ⟨(some 91), none, .mv (.t 90)⟩, ⟨(some 92), (some (91, true)), .faddr 3 (.t 6)⟩, ⟨(some 93), (some (91, true)), .load false 1 (.t 92)⟩, ⟨(some 94), (some (91, true)), .un .not (.t 93)⟩, ⟨(some 95), none, .pick (.t 91) (.t 94) (.c (.bool false))⟩, ⟨(some 96), none, .mv (.t 95)⟩, ⟨(some 97), (some (96, true)), .faddr 4 (.t 6)⟩, ⟨(some 98), (some (96, true)), .load false 1 (.t 97)⟩, ⟨(some 99), (some (96, true)), .un .not (.t 98)⟩, ⟨(some 100), none, .pick (.t 96) (.t 99) (.c (.bool false))⟩, ⟨(some 101), none, .mv (.t 100)⟩, ⟨(some 102), (some (101, true)), .faddr 8 (.t 6)⟩, ⟨(some 103), (some (101, true)), .load false 1 (.t 102)⟩, ⟨(some 104), (some (101, true)), .bin .lss (.t 103) (.c (.int .i64 0))⟩, ⟨(some 105), none, .pick (.t 101) (.t 104) (.c (.bool false))⟩])
  (.cond (.t 105)
    (.seq (.region [⟨(some 4), none, .mv (.c (.bool false))⟩])
    .ret)
    .skip))
  (.seq (.region [⟨(some 106), none, .faddr 3 (.t 3)⟩, ⟨(some 107), none, .load false 1 (.t 106)⟩, ⟨(some 108), none, .call i_gatepostref10_has [(.t 107), (.c (.str [101, 120, 112, 105, 114, 101, 115]))]⟩, ⟨(some 109), none, .mv (.t 108)⟩, ⟨(some 110), (some (109, false)), .faddr 3 (.t 6)⟩, ⟨(some 111), (some (109, false)), .load false 1 (.t 110)⟩, ⟨(some 112), none, .pick (.t 109) (.c (.bool true)) (.t 111)⟩, ⟨(some 113), none, .mv (.t 112)⟩, ⟨(some 114), (some (113, false)), .faddr 7 (.t 6)⟩, ⟨(some 115), (some (113, false)), .load false 1 (.t 114)⟩, ⟨(some 116), (some (113, false)), .bin .geq (.t 115) (.c (.int .i64 0))⟩, ⟨(some 117), none, .pick (.t 113) (.c (.bool true)) (.t 116)⟩, ⟨(some 118), none, .mv (.t 117)⟩, ⟨(some 119), (some (118, false)), .faddr 8 (.t 6)⟩, ⟨(some 120), (some (118, false)), .load false 1 (.t 119)⟩, ⟨(some 121), (some (118, false)), .bin .geq (.t 120) (.c (.int .i64 0))⟩, ⟨(some 122), none, .pick (.t 118) (.c (.bool true)) (.t 121)⟩, ⟨(some 123), none, .mv (.t 122)⟩, ⟨(some 124), (some (123, false)), .faddr 1 (.t 3)⟩, ⟨(some 125), (some (123, false)), .load false 1 (.t 124)⟩, ⟨(some 126), (some (123, false)), .call i_gatepostref09_Heuristic [(.t 125)]⟩, ⟨(some 127), none, .pick (.t 123) (.c (.bool true)) (.t 126)⟩, ⟨(some 4), none, .mv (.t 127)⟩])
  .ret))))))))))))⟩
/-- gatepost/gatepostref10.Refresh -/
def c_gatepostref10_Refresh : FnC := ⟨65, [.cell 10 true 21, .tmp 11],
  (.seq (.region [⟨(some 5), none, .box (.t 0)⟩, ⟨(some 7), none, .box (.t 2)⟩, ⟨(some 10), none, .boxz [(.int .i64 0), (.bool false), (.bool false), (.bool false), (.bool false), (.bool false), (.bool false), (.bool false), (.int .i64 0), (.int .i64 0), (.int .i64 0), (.int .i64 0), (.int .i64 0), (.int .i64 0), (.int .i64 0), (.int .i64 0), (.int .i64 0), (.int .i64 0), (.int .i64 0), (.int .i64 0), (.str [])]⟩, ⟨(some 11), none, .mv (.c .nsl)⟩])
  (.seq (.region [⟨(some 17), none, .faddr 3 (.t 7)⟩, ⟨(some 18), none, .load false 1 (.t 17)⟩, ⟨(some 19), none, .call i_gatepostref04_Strip [(.t 18)]⟩, ⟨(some 12), none, .mv (.t 19)⟩])
  (.seq (.region [⟨(some 20), none, .bsl 1 [(.c (.str [99, 111, 110, 116, 101, 110, 116, 45, 108, 101, 110, 103, 116, 104])), (.c (.str [99, 111, 110, 116, 101, 110, 116, 45, 101, 110, 99, 111, 100, 105, 110, 103])), (.c (.str [99, 111, 110, 116, 101, 110, 116, 45, 114, 97, 110, 103, 101])), (.c (.str [99, 111, 110, 116, 101, 110, 116, 45, 116, 121, 112, 101])), (.c (.str [116, 114, 97, 110, 115, 102, 101, 114, 45, 101, 110, 99, 111, 100, 105, 110, 103]))]⟩, ⟨(some 13), none, .mv (.t 20)⟩])
  (.seq (.seq (.region [⟨(some 14), none, .mv (.c (.int .i64 0))⟩])
  (.block 0 (.loop
    (.seq (.seq (.region [⟨(some 21), none, .mv (.t 14)⟩, ⟨(some 22), none, .mv (.t 13)⟩, ⟨(some 23), none, .len 1 (.t 22)⟩, ⟨(some 24), none, .bin .lss (.t 21) (.t 23)⟩])
    (.cond (.t 24)
      .skip
      (.exit 0)))
    (.seq (.block 1 (.region [⟨(some 27), none, .mv (.t 12)⟩, ⟨(some 28), none, .mv (.t 13)⟩, ⟨(some 29), none, .mv (.t 14)⟩, ⟨(some 30), none, .ixaSl 1 (.t 28) (.t 29)⟩, ⟨(some 31), none, .load false 1 (.t 30)⟩, ⟨(some 32), none, .call i_gatepostref04_Del [(.t 27), (.t 31)]⟩, ⟨(some 12), none, .mv (.t 32)⟩]))
    (.region [⟨(some 25), none, .mv (.t 14)⟩, ⟨(some 26), none, .bin .add (.t 25) (.c (.int .i64 1))⟩, ⟨(some 14), none, .mv (.t 26)⟩]))))))
  (.seq (.region [⟨(some 15), none, .mv (.c .nsl)⟩])
  (.seq (.seq (.region [⟨(some 16), none, .mv (.c (.int .i64 0))⟩])
  (.block 2 (.loop
    (.seq (.seq (.region [⟨(some 33), none, .mv (.t 16)⟩, ⟨(some 34), none, .mv (.t 1)⟩, ⟨(some 35), none, .len 1 (.t 34)⟩, ⟨(some 36), none, .bin .lss (.t 33) (.t 35)⟩])
    (.cond (.t 36)
      .skip
      (.exit 2)))
    (.seq (.block 3 (.seq (.region [⟨(some 39), none, .mv (.t 12)⟩, ⟨(some 40), none, .mv (.t 1)⟩, ⟨(some 41), none, .mv (.t 16)⟩, ⟨(some 42), none, .ixaSl 2 (.t 40) (.t 41)⟩, ⟨(some 43), none, .faddr 0 (.t 42)⟩, ⟨(some 44), none, .load false 1 (.t 43)⟩, ⟨(some 45), none, .call i_gatepostref10_has [(.t 39), (.t 44)]⟩, ⟨(some 46), none, .un .not (.t 45)⟩])
    (.cond (.t 46)
      (.region [⟨(some 47), none, .mv (.t 15)⟩, ⟨(some 48), none, .mv (.t 1)⟩, ⟨(some 49), none, .mv (.t 16)⟩, ⟨(some 50), none, .ixaSl 2 (.t 48) (.t 49)⟩, ⟨(some 51), none, .load true 2 (.t 50)⟩, ⟨(some 52), none, .bsl 2 [(.t 51)]⟩, ⟨(some 53), none, .app 2 32 false (.t 47) (.t 52)⟩, ⟨(some 15), none, .mv (.t 53)⟩])
      .skip)))
    (.region [⟨(some 37), none, .mv (.t 16)⟩, ⟨(some 38), none, .bin .add (.t 37) (.c (.int .i64 1))⟩, ⟨(some 16), none, .mv (.t 38)⟩]))))))
  (.seq (.region [⟨(some 54), none, .mv (.t 15)⟩, ⟨(some 55), none, .mv (.t 12)⟩, ⟨(some 56), none, .app 2 32 false (.t 54) (.t 55)⟩, ⟨(some 15), none, .mv (.t 56)⟩])
  (.seq (.region [⟨(some 57), none, .faddr 0 (.t 5)⟩, ⟨(some 58), none, .load false 1 (.t 57)⟩, ⟨(some 59), none, .mv (.t 15)⟩, ⟨(some 60), none, .build [(.int .i64 0), (.int .i64 0), (.str []), .nsl] [(1, 1, (.t 58)), (3, 1, (.t 59))]⟩, ⟨(some 61), none, .mv (.t 3)⟩, ⟨(some 62), none, .mv (.t 4)⟩, ⟨(some 63), none, .call i_gatepostref10_Of [(.t 60), (.t 61), (.t 62)]⟩, ⟨(some 64), none, .mv (.t 15)⟩, ⟨none, none, .store 21 (.t 10) (.t 63)⟩, ⟨(some 11), none, .mv (.t 64)⟩])
  .ret))))))))⟩
/-- gatepost/gatepostref04.Same -/
def c_gatepostref04_Same : FnC := ⟨41, [.tmp 4],
  (.seq (.region [⟨(some 4), none, .mv (.c (.bool false))⟩])
  (.seq (.seq (.region [⟨(some 6), none, .mv (.t 0)⟩, ⟨(some 7), none, .len 1 (.t 6)⟩, ⟨(some 8), none, .mv (.t 1)⟩, ⟨(some 9), none, .len 1 (.t 8)⟩, ⟨(some 10), none, .bin .neq (.t 7) (.t 9)⟩])
  (.cond (.t 10)
    (.seq (.region [⟨(some 4), none, .mv (.c (.bool false))⟩])
    .ret)
    .skip))
  (.seq (.seq (.region [⟨(some 5), none, .mv (.c (.int .i64 0))⟩])
  (.block 0 (.loop
    (.seq (.seq (.region [⟨(some 11), none, .mv (.t 5)⟩, ⟨(some 12), none, .mv (.t 0)⟩, ⟨(some 13), none, .len 1 (.t 12)⟩, ⟨(some 14), none, .bin .lss (.t 11) (.t 13)⟩])
    (.cond (.t 14)
      .skip
      (.exit 0)))
    (.seq (.block 1 (.seq (.dregion [⟨(some 17), none, .mv (.t 0)⟩, ⟨(some 18), none, .mv (.t 5)⟩, ⟨(some 19), none, .ixaSl 2 (.t 17) (.t 18)⟩, ⟨(some 20), none, .faddr 0 (.t 19)⟩, ⟨(some 21), none, .load false 1 (.t 20)⟩, ⟨(some 22), none, .mv (.t 1)⟩, ⟨(some 23), none, .mv (.t 5)⟩, ⟨(some 24), none, .ixaSl 2 (.t 22) (.t 23)⟩, ⟨(some 25), none, .faddr 0 (.t 24)⟩, ⟨(some 26), none, .load false 1 (.t 25)⟩, ⟨(some 27), none, .bin .neq (.t 21) (.t 26)⟩, ⟨(some 28), none, .mv (.t 27)⟩, ⟨(some 29), (some (28, false)), .mv (.t 0)⟩, ⟨(some 30), (some (28, false)), .mv (.t 5)⟩, ⟨(some 31), (some (28, false)), .ixaSl 2 (.t 29) (.t 30)⟩, ⟨(some 32), (some (28, false)), .faddr 1 (.t 31)⟩, ⟨(some 33), (some (28, false)), .load false 1 (.t 32)⟩, ⟨(some 34), (some (28, false)), .mv (.t 1)⟩, ⟨(some 35), (some (28, false)), .mv (.t 5)⟩, ⟨(some 36), (some (28, false)), .ixaSl 2 (.t 34) (.t 35)⟩, ⟨(some 37), (some (28, false)), .faddr 1 (.t 36)⟩, ⟨(some 38), (some (28, false)), .load false 1 (.t 37)⟩] [⟨(some 39), (some (28, false)), .bin .neq (.t 33) (.t 38)⟩, ⟨(some 40), none, .pick (.t 28) (.c (.bool true)) (.t 39)⟩])
    (.cond (.t 40)
      (.seq (.region [⟨(some 4), none, .mv (.c (.bool false))⟩])
      .ret)
      .skip)))
    (.region [⟨(some 15), none, .mv (.t 5)⟩, ⟨(some 16), none, .bin .add (.t 15) (.c (.int .i64 1))⟩, ⟨(some 5), none, .mv (.t 16)⟩]))))))
  (.seq (.region [⟨(some 4), none, .mv (.c (.bool true))⟩])
  .ret))))⟩
/-- gatepost/token.Lower -/
def c_token_Lower : FnC := ⟨29, [.tmp 2],
  (.seq (.region [⟨(some 2), none, .mv (.c (.str []))⟩])
  (.seq (.region [⟨(some 6), none, .mv (.t 0)⟩, ⟨(some 7), none, .toBytes (.t 6)⟩, ⟨(some 3), none, .mv (.t 7)⟩])
  (.seq (.seq (.region [⟨(some 8), none, .mv (.t 3)⟩, ⟨(some 9), none, .len 1 (.t 8)⟩, ⟨(some 10), none, .mv (.c (.int .i64 0))⟩])
  (.block 0 (.loop
    (.seq (.region [⟨(some 11), none, .bin .lss (.t 10) (.t 9)⟩])
    (.seq (.cond (.t 11)
      .skip
      (.exit 0))
    (.seq (.block 1 (.seq (.region [⟨(some 12), none, .mv (.t 10)⟩, ⟨(some 13), none, .ixaSl 1 (.t 8) (.t 10)⟩, ⟨(some 14), none, .load false 1 (.t 13)⟩, ⟨(some 4), none, .mv (.t 12)⟩, ⟨(some 5), none, .mv (.t 14)⟩])
    (.seq (.region [⟨(some 15), none, .mv (.t 5)⟩, ⟨(some 16), none, .bin .geq (.t 15) (.c (.int .u8 65))⟩, ⟨(some 17), none, .mv (.t 16)⟩, ⟨(some 18), (some (17, true)), .mv (.t 5)⟩, ⟨(some 19), (some (17, true)), .bin .leq (.t 18) (.c (.int .u8 90))⟩, ⟨(some 20), none, .pick (.t 17) (.t 19) (.c (.bool false))⟩])
    (.cond (.t 20)
      (.region [⟨(some 21), none, .mv (.t 3)⟩, ⟨(some 22), none, .mv (.t 4)⟩, ⟨(some 23), none, .mv (.t 5)⟩, ⟨(some 24), none, .bin .or (.t 23) (.c (.int .u8 32))⟩, ⟨(some 25), none, .ixaSl 1 (.t 21) (.t 22)⟩, ⟨none, none, .store 1 (.t 25) (.t 24)⟩])
      .skip))))
    (.region [⟨(some 26), none, .bin .add (.t 10) (.c (.int .i64 1))⟩, ⟨(some 10), none, .mv (.t 26)⟩])))))))
  (.seq (.region [⟨(some 27), none, .mv (.t 3)⟩, ⟨(some 28), none, .toStr (.t 27)⟩, ⟨(some 2), none, .mv (.t 28)⟩])
  .ret))))⟩
/-- gatepost/field.Strip -/
def c_field_Strip : FnC := ⟨16, [.tmp 2],
  (.seq (.region [⟨(some 2), none, .mv (.c .nsl)⟩])
  (.seq (.region [⟨(some 6), none, .mv (.t 0)⟩, ⟨(some 7), none, .call i_field_Names [(.t 6), (.c (.str [67, 111, 110, 110, 101, 99, 116, 105, 111, 110]))]⟩, ⟨(some 5), none, .mv (.t 7)⟩, ⟨(some 8), none, .ext 0 (.t 5)⟩, ⟨(some 9), none, .ext 1 (.t 5)⟩, ⟨(some 3), none, .mv (.t 8)⟩, ⟨(some 4), none, .mv (.t 9)⟩])
  (.seq (.region [⟨(some 10), none, .mv (.t 3)⟩, ⟨(some 11), none, .bsl 1 [(.c (.str [67, 111, 110, 110, 101, 99, 116, 105, 111, 110])), (.c (.str [75, 101, 101, 112, 45, 65, 108, 105, 118, 101])), (.c (.str [80, 114, 111, 120, 121, 45, 67, 111, 110, 110, 101, 99, 116, 105, 111, 110])), (.c (.str [84, 69])), (.c (.str [84, 114, 97, 105, 108, 101, 114])), (.c (.str [84, 114, 97, 110, 115, 102, 101, 114, 45, 69, 110, 99, 111, 100, 105, 110, 103])), (.c (.str [85, 112, 103, 114, 97, 100, 101]))]⟩, ⟨(some 12), none, .app 1 16 false (.t 10) (.t 11)⟩, ⟨(some 3), none, .mv (.t 12)⟩])
  (.seq (.region [⟨(some 13), none, .mv (.t 0)⟩, ⟨(some 14), none, .mv (.t 3)⟩, ⟨(some 15), none, .call i_field_without [(.t 13), (.t 14)]⟩, ⟨(some 2), none, .mv (.t 15)⟩])
  .ret))))⟩
/-- gatepost/storing.stays -/
def c_storing_stays : FnC := ⟨2, [.cell 0 true 5],
  (.seq (.region [⟨(some 0), none, .boxz [(.str []), (.str []), (.str []), (.str []), (.str [])]⟩])
  (.seq (.region [⟨(some 1), none, .build [(.str []), (.str []), (.str []), (.str []), (.str [])] [(0, 1, (.c (.str [67, 111, 110, 116, 101, 110, 116, 45, 76, 101, 110, 103, 116, 104]))), (1, 1, (.c (.str [67, 111, 110, 116, 101, 110, 116, 45, 69, 110, 99, 111, 100, 105, 110, 103]))), (2, 1, (.c (.str [67, 111, 110, 116, 101, 110, 116, 45, 82, 97, 110, 103, 101]))), (3, 1, (.c (.str [67, 111, 110, 116, 101, 110, 116, 45, 84, 121, 112, 101]))), (4, 1, (.c (.str [84, 114, 97, 110, 115, 102, 101, 114, 45, 69, 110, 99, 111, 100, 105, 110, 103])))]⟩, ⟨none, none, .store 5 (.t 0) (.t 1)⟩])
  .ret))⟩
/-- gatepost/field.Del -/
def c_field_Del : FnC := ⟨9, [.tmp 4],
  (.seq (.region [⟨(some 4), none, .mv (.c .nsl)⟩])
  (.seq (.region [⟨(some 5), none, .mv (.t 0)⟩, ⟨(some 6), none, .mv (.t 1)⟩, ⟨(some 7), none, .bsl 1 [(.t 6)]⟩, ⟨(some 8), none, .call i_field_without [(.t 5), (.t 7)]⟩, ⟨(some 4), none, .mv (.t 8)⟩])
  .ret))⟩
/-- gatepost/storing.has -/
def c_storing_has : FnC := ⟨8, [.tmp 4],
  (.seq (.region [⟨(some 3), none, .box (.t 1)⟩, ⟨(some 4), none, .mv (.c (.bool false))⟩])
  (.seq (.region [⟨(some 5), none, .mv (.t 0)⟩, ⟨(some 6), none, .mkfn i_storing_has_1 [(.t 3)]⟩, ⟨(some 7), none, .call i_slices_ContainsFunc___gatepost_api_Field_gatepost_api_Field_ [(.t 5), (.t 6)]⟩, ⟨(some 4), none, .mv (.t 7)⟩])
  .ret))⟩
/-- gatepost/control.Of -/
def c_control_Of : FnC := ⟨44, [.cell 2 true 13],
  (.seq (.region [⟨(some 2), none, .boxz [(.bool false), (.bool false), (.bool false), (.bool false), (.bool false), (.bool false), (.bool false), (.int .i64 0), (.int .i64 0), (.int .i64 0), (.int .i64 0), (.int .i64 0), (.int .i64 0)]⟩])
  (.seq (.seq (.region [⟨(some 13), none, .mv (.t 0)⟩, ⟨(some 14), none, .call i_field_Get [(.t 13), (.c (.str [67, 97, 99, 104, 101, 45, 67, 111, 110, 116, 114, 111, 108]))]⟩, ⟨(some 12), none, .mv (.t 14)⟩, ⟨(some 15), none, .ext 0 (.t 12)⟩, ⟨(some 16), none, .ext 1 (.t 12)⟩, ⟨(some 3), none, .mv (.t 15)⟩, ⟨(some 4), none, .mv (.t 16)⟩])
  (.seq (.region [⟨(some 17), none, .mv (.t 4)⟩, ⟨(some 18), none, .bin .gtr (.t 17) (.c (.int .i64 0))⟩])
  (.cond (.t 18)
    (.seq (.region [⟨(some 20), none, .mv (.t 3)⟩, ⟨(some 21), none, .call i_control_Parse [(.t 20)]⟩, ⟨(some 19), none, .mv (.t 21)⟩, ⟨(some 22), none, .ext 0 (.t 19)⟩, ⟨(some 23), none, .ext 1 (.t 19)⟩, ⟨(some 5), none, .boxz [(.bool false), (.bool false), (.bool false), (.bool false), (.bool false), (.bool false), (.bool false), (.int .i64 0), (.int .i64 0), (.int .i64 0), (.int .i64 0), (.int .i64 0), (.int .i64 0)]⟩, ⟨none, none, .store 13 (.t 5) (.t 22)⟩, ⟨(some 6), none, .mv (.t 23)⟩])
    (.seq (.region [⟨(some 24), none, .load true 13 (.t 5)⟩, ⟨none, none, .store 13 (.t 2) (.t 24)⟩])
    .ret))
    .skip)))
  (.seq (.region [⟨(some 25), none, .call i_control_nothing []⟩, ⟨(some 7), none, .boxz [(.bool false), (.bool false), (.bool false), (.bool false), (.bool false), (.bool false), (.bool false), (.int .i64 0), (.int .i64 0), (.int .i64 0), (.int .i64 0), (.int .i64 0), (.int .i64 0)]⟩, ⟨none, none, .store 13 (.t 7) (.t 25)⟩])
  (.seq (.region [⟨(some 27), none, .mv (.t 0)⟩, ⟨(some 28), none, .call i_field_Get [(.t 27), (.c (.str [80, 114, 97, 103, 109, 97]))]⟩, ⟨(some 26), none, .mv (.t 28)⟩, ⟨(some 29), none, .ext 0 (.t 26)⟩, ⟨(some 30), none, .ext 1 (.t 26)⟩, ⟨(some 8), none, .mv (.t 29)⟩, ⟨(some 9), none, .mv (.t 30)⟩])
  (.seq (.region [⟨(some 32), none, .mv (.t 8)⟩, ⟨(some 33), none, .call i_token_Lower [(.t 32)]⟩, ⟨(some 34), none, .call i_token_Split [(.t 33)]⟩, ⟨(some 31), none, .mv (.t 34)⟩, ⟨(some 35), none, .ext 0 (.t 31)⟩, ⟨(some 36), none, .ext 1 (.t 31)⟩, ⟨(some 10), none, .mv (.t 35)⟩, ⟨(some 11), none, .mv (.t 36)⟩])
  (.seq (.region [⟨(some 37), none, .mv (.t 11)⟩, ⟨(some 38), none, .mv (.t 37)⟩, ⟨(some 39), (some (38, true)), .mv (.t 10)⟩, ⟨(some 40), (some (38, true)), .call i_slices_Contains___string_string_ [(.t 39), (.c (.str [110, 111, 45, 99, 97, 99, 104, 101]))]⟩, ⟨(some 41), none, .pick (.t 38) (.t 40) (.c (.bool false))⟩, ⟨(some 42), none, .faddr 1 (.t 7)⟩, ⟨none, none, .store 1 (.t 42) (.t 41)⟩])
  (.seq (.region [⟨(some 43), none, .load true 13 (.t 7)⟩, ⟨none, none, .store 13 (.t 2) (.t 43)⟩])
  .ret)))))))⟩
/-- gatepost/storing.Of$1 -/
def c_storing_Of_1 : FnC := ⟨13, [.tmp 3],
  (.seq (.region [⟨(some 3), none, .mv (.c (.int .i64 0))⟩])
  (.seq (.seq (.region [⟨(some 5), none, .faddr 3 (.t 1)⟩, ⟨(some 6), none, .load false 1 (.t 5)⟩, ⟨(some 7), none, .mv (.t 0)⟩, ⟨(some 8), none, .call i_storing_dated [(.t 6), (.t 7)]⟩, ⟨(some 4), none, .boxz [(.int .i64 0), (.bool false), (.bool false)]⟩, ⟨none, none, .store 3 (.t 4) (.t 8)⟩])
  (.seq (.region [⟨(some 9), none, .faddr 2 (.t 4)⟩, ⟨(some 10), none, .load false 1 (.t 9)⟩])
  (.cond (.t 10)
    (.seq (.region [⟨(some 11), none, .faddr 0 (.t 4)⟩, ⟨(some 12), none, .load false 1 (.t 11)⟩, ⟨(some 3), none, .mv (.t 12)⟩])
    .ret)
    .skip)))
  (.seq (.region [⟨(some 3), none, .mv (.c (.int .i64 (-1)))⟩])
  .ret)))⟩
/-- gatepost/storing.dated -/
def c_storing_dated : FnC := ⟨30, [.cell 4 true 3],
  (.seq (.region [⟨(some 4), none, .boxz [(.int .i64 0), (.bool false), (.bool false)]⟩])
  (.seq (.region [⟨(some 10), none, .mv (.t 0)⟩, ⟨(some 11), none, .mv (.t 1)⟩, ⟨(some 12), none, .call i_field_Get [(.t 10), (.t 11)]⟩, ⟨(some 9), none, .mv (.t 12)⟩, ⟨(some 13), none, .ext 0 (.t 9)⟩, ⟨(some 14), none, .ext 1 (.t 9)⟩, ⟨(some 5), none, .mv (.t 13)⟩, ⟨(some 6), none, .mv (.t 14)⟩])
  (.seq (.region [⟨(some 16), none, .mv (.t 5)⟩, ⟨(some 17), none, .call i_date_Parse [(.t 16)]⟩, ⟨(some 15), none, .mv (.t 17)⟩, ⟨(some 18), none, .ext 0 (.t 15)⟩, ⟨(some 19), none, .ext 1 (.t 15)⟩, ⟨(some 7), none, .mv (.t 18)⟩, ⟨(some 8), none, .mv (.t 19)⟩])
  (.seq (.seq (.region [⟨(some 20), none, .mv (.t 6)⟩, ⟨(some 21), none, .bin .eql (.t 20) (.c (.int .i64 0))⟩])
  (.cond (.t 21)
    (.seq (.region [⟨(some 22), none, .build [(.int .i64 0), (.bool false), (.bool false)] []⟩, ⟨none, none, .store 3 (.t 4) (.t 22)⟩])
    .ret)
    .skip))
  (.seq (.region [⟨(some 23), none, .mv (.t 7)⟩, ⟨(some 24), none, .mv (.t 8)⟩, ⟨(some 25), none, .mv (.t 24)⟩, ⟨(some 26), (some (25, true)), .mv (.t 6)⟩, ⟨(some 27), (some (25, true)), .bin .eql (.t 26) (.c (.int .i64 1))⟩, ⟨(some 28), none, .pick (.t 25) (.t 27) (.c (.bool false))⟩, ⟨(some 29), none, .build [(.int .i64 0), (.bool false), (.bool false)] [(0, 1, (.t 23)), (1, 1, (.c (.bool true))), (2, 1, (.t 28))]⟩, ⟨none, none, .store 3 (.t 4) (.t 29)⟩])
  .ret)))))⟩
/-- gatepost/field.Get -/
def c_field_Get : FnC := ⟨29, [.tmp 4, .tmp 5],
  (.seq (.region [⟨(some 4), none, .mv (.c (.str []))⟩, ⟨(some 5), none, .mv (.c (.int .i64 0))⟩])
  (.seq (.region [⟨(some 6), none, .mv (.c .nsl)⟩])
  (.seq (.seq (.region [⟨(some 9), none, .mv (.t 0)⟩, ⟨(some 10), none, .len 1 (.t 9)⟩, ⟨(some 11), none, .mv (.c (.int .i64 0))⟩])
  (.block 0 (.loop
    (.seq (.region [⟨(some 12), none, .bin .lss (.t 11) (.t 10)⟩])
    (.seq (.cond (.t 12)
      .skip
      (.exit 0))
    (.seq (.block 1 (.seq (.region [⟨(some 13), none, .ixaSl 2 (.t 9) (.t 11)⟩, ⟨(some 14), none, .load true 2 (.t 13)⟩, ⟨(some 8), none, .boxz [(.str []), (.str [])]⟩, ⟨none, none, .store 2 (.t 8) (.t 14)⟩])
    (.seq (.region [⟨(some 15), none, .faddr 0 (.t 8)⟩, ⟨(some 16), none, .load false 1 (.t 15)⟩, ⟨(some 17), none, .mv (.t 1)⟩, ⟨(some 18), none, .call i_token_Same [(.t 16), (.t 17)]⟩])
    (.cond (.t 18)
      (.region [⟨(some 19), none, .mv (.t 6)⟩, ⟨(some 20), none, .faddr 1 (.t 8)⟩, ⟨(some 21), none, .load false 1 (.t 20)⟩, ⟨(some 22), none, .bsl 1 [(.t 21)]⟩, ⟨(some 23), none, .app 1 16 false (.t 19) (.t 22)⟩, ⟨(some 6), none, .mv (.t 23)⟩])
      .skip))))
    (.region [⟨(some 24), none, .bin .add (.t 11) (.c (.int .i64 1))⟩, ⟨(some 11), none, .mv (.t 24)⟩])))))))
  (.seq (.region [⟨(some 25), none, .mv (.t 6)⟩, ⟨(some 26), none, .call i_strings_Join [(.t 25), (.c (.str [44, 32]))]⟩, ⟨(some 27), none, .mv (.t 6)⟩, ⟨(some 28), none, .len 1 (.t 27)⟩, ⟨(some 4), none, .mv (.t 26)⟩, ⟨(some 5), none, .mv (.t 28)⟩])
  .ret))))⟩
/-- gatepost/token.Split -/
def c_token_Split : FnC := ⟨54, [.tmp 2, .tmp 3],
  (.seq (.region [⟨(some 1), none, .box (.t 0)⟩, ⟨(some 2), none, .mv (.c .nsl)⟩, ⟨(some 3), none, .mv (.c (.bool false))⟩])
  (.seq (.region [⟨(some 4), none, .boxz [.nsl]⟩])
  (.seq (.region [⟨(some 5), none, .boxz [(.int .i64 0)]⟩, ⟨none, none, .store 1 (.t 5) (.c (.int .i64 0))⟩])
  (.seq (.region [⟨(some 10), none, .mkfn i_token_Split_1 [(.t 1), (.t 5), (.t 4)]⟩, ⟨(some 6), none, .mv (.t 10)⟩])
  (.seq (.region [⟨(some 7), none, .mv (.c (.bool false))⟩])
  (.seq (.seq (.region [⟨(some 8), none, .mv (.c (.int .i64 0))⟩])
  (.block 0 (.loop
    (.seq (.seq (.region [⟨(some 11), none, .mv (.t 8)⟩, ⟨(some 12), none, .load false 1 (.t 1)⟩, ⟨(some 13), none, .len 0 (.t 12)⟩, ⟨(some 14), none, .bin .lss (.t 11) (.t 13)⟩])
    (.cond (.t 14)
      .skip
      (.exit 0)))
    (.seq (.block 1 (.seq (.region [⟨(some 17), none, .load false 1 (.t 1)⟩, ⟨(some 18), none, .mv (.t 8)⟩, ⟨(some 19), none, .ixStr (.t 17) (.t 18)⟩, ⟨(some 9), none, .mv (.t 19)⟩])
    (.block 2 (.seq (.region [⟨(some 21), none, .mv (.t 9)⟩, ⟨(some 22), none, .bin .eql (.t 21) (.c (.int .u8 34))⟩, ⟨(some 20), none, .mv (.t 22)⟩])
    (.cond (.t 20)
      (.region [⟨(some 23), none, .mv (.t 7)⟩, ⟨(some 24), none, .un .not (.t 23)⟩, ⟨(some 7), none, .mv (.t 24)⟩])
      (.seq (.region [⟨(some 26), none, .mv (.t 7)⟩, ⟨(some 27), none, .mv (.t 26)⟩, ⟨(some 28), (some (27, true)), .mv (.t 9)⟩, ⟨(some 29), (some (27, true)), .bin .eql (.t 28) (.c (.int .u8 92))⟩, ⟨(some 30), none, .pick (.t 27) (.t 29) (.c (.bool false))⟩, ⟨(some 25), none, .mv (.t 30)⟩])
      (.cond (.t 25)
        (.region [⟨(some 31), none, .mv (.t 8)⟩, ⟨(some 32), none, .bin .add (.t 31) (.c (.int .i64 1))⟩, ⟨(some 8), none, .mv (.t 32)⟩])
        (.seq (.region [⟨(some 34), none, .mv (.t 7)⟩, ⟨(some 35), none, .un .not (.t 34)⟩, ⟨(some 36), none, .mv (.t 35)⟩, ⟨(some 37), (some (36, true)), .mv (.t 9)⟩, ⟨(some 38), (some (36, true)), .bin .eql (.t 37) (.c (.int .u8 44))⟩, ⟨(some 39), none, .pick (.t 36) (.t 38) (.c (.bool false))⟩, ⟨(some 33), none, .mv (.t 39)⟩])
        (.cond (.t 33)
          (.region [⟨(some 40), none, .mv (.t 6)⟩, ⟨(some 41), none, .mv (.t 8)⟩, ⟨(some 42), none, .callv (.t 40) [(.t 41)]⟩])
          .skip)))))))))
    (.region [⟨(some 15), none, .mv (.t 8)⟩, ⟨(some 16), none, .bin .add (.t 15) (.c (.int .i64 1))⟩, ⟨(some 8), none, .mv (.t 16)⟩]))))))
  (.seq (.seq (.region [⟨(some 43), none, .mv (.t 7)⟩])
  (.cond (.t 43)
    (.seq (.region [⟨(some 2), none, .mv (.c .nsl)⟩, ⟨(some 3), none, .mv (.c (.bool false))⟩])
    .ret)
    .skip))
  (.seq (.region [⟨(some 44), none, .mv (.t 6)⟩, ⟨(some 45), none, .load false 1 (.t 1)⟩, ⟨(some 46), none, .len 0 (.t 45)⟩, ⟨(some 47), none, .callv (.t 44) [(.t 46)]⟩])
  (.seq (.region [⟨(some 48), none, .load false 1 (.t 4)⟩, ⟨(some 49), none, .load false 1 (.t 4)⟩, ⟨(some 50), none, .len 1 (.t 49)⟩, ⟨(some 51), none, .load false 1 (.t 4)⟩, ⟨(some 52), none, .len 1 (.t 51)⟩, ⟨(some 53), none, .slsl 1 (.t 48) none (some (.t 50)) (some (.t 52))⟩, ⟨(some 2), none, .mv (.t 53)⟩, ⟨(some 3), none, .mv (.c (.bool true))⟩])
  .ret)))))))))⟩
/-- gatepost/token.Number -/
def c_token_Number : FnC := ⟨48, [.tmp 4, .tmp 5],
  (.seq (.region [⟨(some 4), none, .mv (.c (.int .i64 0))⟩, ⟨(some 5), none, .mv (.c (.bool false))⟩])
  (.seq (.seq (.region [⟨(some 9), none, .mv (.t 0)⟩, ⟨(some 10), none, .bin .eql (.t 9) (.c (.str []))⟩, ⟨(some 11), none, .mv (.t 10)⟩, ⟨(some 12), (some (11, false)), .mv (.t 1)⟩, ⟨(some 13), (some (11, false)), .bin .lss (.t 12) (.c (.int .i64 0))⟩, ⟨(some 14), none, .pick (.t 11) (.c (.bool true)) (.t 13)⟩, ⟨(some 15), none, .mv (.t 14)⟩, ⟨(some 16), (some (15, false)), .mv (.t 0)⟩, ⟨(some 17), (some (15, false)), .call i_token_all [(.t 16), (.c (.fn i_token_Number_1 []))]⟩, ⟨(some 18), (some (15, false)), .un .not (.t 17)⟩, ⟨(some 19), none, .pick (.t 15) (.c (.bool true)) (.t 18)⟩])
  (.cond (.t 19)
    (.seq (.region [⟨(some 4), none, .mv (.c (.int .i64 0))⟩, ⟨(some 5), none, .mv (.c (.bool false))⟩])
    .ret)
    .skip))
  (.seq (.region [⟨(some 6), none, .mv (.c (.int .i64 0))⟩])
  (.seq (.seq (.region [⟨(some 20), none, .mv (.t 0)⟩, ⟨(some 21), none, .len 0 (.t 20)⟩, ⟨(some 22), none, .mv (.c (.int .i64 0))⟩])
  (.block 0 (.loop
    (.seq (.region [⟨(some 23), none, .bin .lss (.t 22) (.t 21)⟩])
    (.seq (.cond (.t 23)
      .skip
      (.exit 0))
    (.seq (.block 1 (.seq (.region [⟨(some 24), none, .mv (.t 22)⟩, ⟨(some 7), none, .mv (.t 24)⟩])
    (.seq (.region [⟨(some 25), none, .mv (.t 0)⟩, ⟨(some 26), none, .mv (.t 7)⟩, ⟨(some 27), none, .ixStr (.t 25) (.t 26)⟩, ⟨(some 28), none, .bin .sub (.t 27) (.c (.int .u8 48))⟩, ⟨(some 29), none, .toInt .i64 (.t 28)⟩, ⟨(some 8), none, .mv (.t 29)⟩])
    (.seq (.seq (.region [⟨(some 30), none, .mv (.t 8)⟩, ⟨(some 31), none, .mv (.t 1)⟩, ⟨(some 32), none, .bin .gtr (.t 30) (.t 31)⟩, ⟨(some 33), none, .mv (.t 32)⟩, ⟨(some 34), (some (33, false)), .mv (.t 6)⟩, ⟨(some 35), (some (33, false)), .mv (.t 1)⟩, ⟨(some 36), (some (33, false)), .mv (.t 8)⟩, ⟨(some 37), (some (33, false)), .bin .sub (.t 35) (.t 36)⟩, ⟨(some 38), (some (33, false)), .bin .quo (.t 37) (.c (.int .i64 10))⟩, ⟨(some 39), (some (33, false)), .bin .gtr (.t 34) (.t 38)⟩, ⟨(some 40), none, .pick (.t 33) (.c (.bool true)) (.t 39)⟩])
    (.cond (.t 40)
      (.seq (.region [⟨(some 41), none, .mv (.t 1)⟩, ⟨(some 4), none, .mv (.t 41)⟩, ⟨(some 5), none, .mv (.c (.bool true))⟩])
      .ret)
      .skip))
    (.region [⟨(some 42), none, .mv (.t 6)⟩, ⟨(some 43), none, .bin .mul (.c (.int .i64 10)) (.t 42)⟩, ⟨(some 44), none, .mv (.t 8)⟩, ⟨(some 45), none, .bin .add (.t 43) (.t 44)⟩, ⟨(some 6), none, .mv (.t 45)⟩])))))
    (.region [⟨(some 46), none, .bin .add (.t 22) (.c (.int .i64 1))⟩, ⟨(some 22), none, .mv (.t 46)⟩])))))))
  (.seq (.region [⟨(some 47), none, .mv (.t 6)⟩, ⟨(some 4), none, .mv (.t 47)⟩, ⟨(some 5), none, .mv (.c (.bool true))⟩])
  .ret)))))⟩
/-- gatepost/gatepostref08.Of -/
def c_gatepostref08_Of : FnC := ⟨52, [.cell 2 true 13],
  (.seq (.region [⟨(some 2), none, .boxz [(.bool false), (.bool false), (.bool false), (.bool false), (.bool false), (.bool false), (.bool false), (.int .i64 0), (.int .i64 0), (.int .i64 0), (.int .i64 0), (.int .i64 0), (.int .i64 0)]⟩])
  (.seq (.region [⟨(some 12), none, .mv (.t 0)⟩, ⟨(some 13), none, .call i_gatepostref04_Get [(.t 12), (.c (.str [99, 97, 99, 104, 101, 45, 99, 111, 110, 116, 114, 111, 108]))]⟩, ⟨(some 11), none, .mv (.t 13)⟩, ⟨(some 14), none, .ext 0 (.t 11)⟩, ⟨(some 15), none, .ext 1 (.t 11)⟩, ⟨(some 3), none, .mv (.t 14)⟩, ⟨(some 4), none, .mv (.t 15)⟩])
  (.seq (.seq (.region [⟨(some 16), none, .mv (.t 4)⟩, ⟨(some 17), none, .bin .gtr (.t 16) (.c (.int .i64 0))⟩])
  (.cond (.t 17)
    (.seq (.region [⟨(some 19), none, .mv (.t 3)⟩, ⟨(some 20), none, .call i_gatepostref08_Parse [(.t 19)]⟩, ⟨(some 18), none, .mv (.t 20)⟩, ⟨(some 21), none, .ext 0 (.t 18)⟩, ⟨(some 22), none, .ext 1 (.t 18)⟩, ⟨(some 5), none, .boxz [(.bool false), (.bool false), (.bool false), (.bool false), (.bool false), (.bool false), (.bool false), (.int .i64 0), (.int .i64 0), (.int .i64 0), (.int .i64 0), (.int .i64 0), (.int .i64 0)]⟩, ⟨none, none, .store 13 (.t 5) (.t 21)⟩, ⟨(some 6), none, .mv (.t 22)⟩])
    (.seq (.region [⟨(some 23), none, .load true 13 (.t 5)⟩, ⟨none, none, .store 13 (.t 2) (.t 23)⟩])
    .ret))
    .skip))
  (.seq (.region [⟨(some 24), none, .call i_gatepostref08_None []⟩, ⟨(some 7), none, .boxz [(.bool false), (.bool false), (.bool false), (.bool false), (.bool false), (.bool false), (.bool false), (.int .i64 0), (.int .i64 0), (.int .i64 0), (.int .i64 0), (.int .i64 0), (.int .i64 0)]⟩, ⟨none, none, .store 13 (.t 7) (.t 24)⟩])
  (.seq (.region [⟨(some 26), none, .mv (.t 0)⟩, ⟨(some 27), none, .call i_gatepostref04_Get [(.t 26), (.c (.str [112, 114, 97, 103, 109, 97]))]⟩, ⟨(some 25), none, .mv (.t 27)⟩, ⟨(some 28), none, .ext 0 (.t 25)⟩, ⟨(some 29), none, .ext 1 (.t 25)⟩, ⟨(some 3), none, .mv (.t 28)⟩])
  (.seq (.region [⟨(some 31), none, .mv (.t 3)⟩, ⟨(some 32), none, .call i_gatepostref01_Lower [(.t 31)]⟩, ⟨(some 33), none, .call i_gatepostref01_Split [(.t 32)]⟩, ⟨(some 30), none, .mv (.t 33)⟩, ⟨(some 34), none, .ext 0 (.t 30)⟩, ⟨(some 35), none, .ext 1 (.t 30)⟩, ⟨(some 8), none, .mv (.t 34)⟩, ⟨(some 9), none, .mv (.t 35)⟩])
  (.seq (.seq (.region [⟨(some 10), none, .mv (.c (.int .i64 0))⟩])
  (.block 0 (.loop
    (.seq (.seq (.region [⟨(some 36), none, .mv (.t 10)⟩, ⟨(some 37), none, .mv (.t 8)⟩, ⟨(some 38), none, .len 1 (.t 37)⟩, ⟨(some 39), none, .bin .lss (.t 36) (.t 38)⟩])
    (.cond (.t 39)
      .skip
      (.exit 0)))
    (.seq (.block 1 (.seq (.region [⟨(some 42), none, .mv (.t 9)⟩, ⟨(some 43), none, .mv (.t 42)⟩, ⟨(some 44), (some (43, true)), .mv (.t 8)⟩, ⟨(some 45), (some (43, true)), .mv (.t 10)⟩, ⟨(some 46), (some (43, true)), .ixaSl 1 (.t 44) (.t 45)⟩, ⟨(some 47), (some (43, true)), .load false 1 (.t 46)⟩, ⟨(some 48), (some (43, true)), .bin .eql (.t 47) (.c (.str [110, 111, 45, 99, 97, 99, 104, 101]))⟩, ⟨(some 49), none, .pick (.t 43) (.t 48) (.c (.bool false))⟩])
    (.cond (.t 49)
      (.region [⟨(some 50), none, .faddr 1 (.t 7)⟩, ⟨none, none, .store 1 (.t 50) (.c (.bool true))⟩])
      .skip)))
    (.region [⟨(some 40), none, .mv (.t 10)⟩, ⟨(some 41), none, .bin .add (.t 40) (.c (.int .i64 1))⟩, ⟨(some 10), none, .mv (.t 41)⟩]))))))
  (.seq (.region [⟨(some 51), none, .load true 13 (.t 7)⟩, ⟨none, none, .store 13 (.t 2) (.t 51)⟩])
  .ret))))))))⟩
/-- gatepost/gatepostref10.second -/
def c_gatepostref10_second : FnC := ⟨29, [.tmp 4],
  (.seq (.region [⟨(some 4), none, .mv (.c (.int .i64 0))⟩])
  (.seq (.region [⟨(some 10), none, .mv (.t 0)⟩, ⟨(some 11), none, .mv (.t 1)⟩, ⟨(some 12), none, .call i_gatepostref04_Get [(.t 10), (.t 11)]⟩, ⟨(some 9), none, .mv (.t 12)⟩, ⟨(some 13), none, .ext 0 (.t 9)⟩, ⟨(some 14), none, .ext 1 (.t 9)⟩, ⟨(some 5), none, .mv (.t 13)⟩, ⟨(some 6), none, .mv (.t 14)⟩])
  (.seq (.seq (.region [⟨(some 15), none, .mv (.t 6)⟩, ⟨(some 16), none, .bin .eql (.t 15) (.c (.int .i64 0))⟩])
  (.cond (.t 16)
    (.seq (.region [⟨(some 4), none, .mv (.c (.int .i64 (-1)))⟩])
    .ret)
    .skip))
  (.seq (.region [⟨(some 18), none, .mv (.t 5)⟩, ⟨(some 19), none, .call i_gatepostref02_Parse [(.t 18)]⟩, ⟨(some 17), none, .mv (.t 19)⟩, ⟨(some 20), none, .ext 0 (.t 17)⟩, ⟨(some 21), none, .ext 1 (.t 17)⟩, ⟨(some 7), none, .mv (.t 20)⟩, ⟨(some 8), none, .mv (.t 21)⟩])
  (.seq (.seq (.region [⟨(some 22), none, .mv (.t 6)⟩, ⟨(some 23), none, .bin .gtr (.t 22) (.c (.int .i64 1))⟩, ⟨(some 24), none, .mv (.t 23)⟩, ⟨(some 25), (some (24, false)), .mv (.t 8)⟩, ⟨(some 26), (some (24, false)), .un .not (.t 25)⟩, ⟨(some 27), none, .pick (.t 24) (.c (.bool true)) (.t 26)⟩])
  (.cond (.t 27)
    (.seq (.region [⟨(some 4), none, .mv (.c (.int .i64 (-2)))⟩])
    .ret)
    .skip))
  (.seq (.region [⟨(some 28), none, .mv (.t 7)⟩, ⟨(some 4), none, .mv (.t 28)⟩])
  .ret))))))⟩
/-- gatepost/gatepostref04.Get -/
def c_gatepostref04_Get : FnC := ⟨37, [.tmp 4, .tmp 5],
  (.seq (.region [⟨(some 4), none, .mv (.c (.str []))⟩, ⟨(some 5), none, .mv (.c (.int .i64 0))⟩])
  (.seq (.region [⟨(some 6), none, .mv (.c (.str []))⟩])
  (.seq (.region [⟨(some 7), none, .mv (.c (.int .i64 0))⟩])
  (.seq (.seq (.region [⟨(some 8), none, .mv (.c (.int .i64 0))⟩])
  (.block 0 (.loop
    (.seq (.seq (.region [⟨(some 9), none, .mv (.t 8)⟩, ⟨(some 10), none, .mv (.t 0)⟩, ⟨(some 11), none, .len 1 (.t 10)⟩, ⟨(some 12), none, .bin .lss (.t 9) (.t 11)⟩])
    (.cond (.t 12)
      .skip
      (.exit 0)))
    (.seq (.block 1 (.seq (.region [⟨(some 15), none, .mv (.t 0)⟩, ⟨(some 16), none, .mv (.t 8)⟩, ⟨(some 17), none, .ixaSl 2 (.t 15) (.t 16)⟩, ⟨(some 18), none, .faddr 0 (.t 17)⟩, ⟨(some 19), none, .load false 1 (.t 18)⟩, ⟨(some 20), none, .mv (.t 1)⟩, ⟨(some 21), none, .call i_gatepostref01_Same [(.t 19), (.t 20)]⟩])
    (.cond (.t 21)
      (.seq (.seq (.region [⟨(some 22), none, .mv (.t 7)⟩, ⟨(some 23), none, .bin .gtr (.t 22) (.c (.int .i64 0))⟩])
      (.cond (.t 23)
        (.region [⟨(some 24), none, .mv (.t 6)⟩, ⟨(some 25), none, .bin .add (.t 24) (.c (.str [44, 32]))⟩, ⟨(some 6), none, .mv (.t 25)⟩])
        .skip))
      (.seq (.region [⟨(some 26), none, .mv (.t 6)⟩, ⟨(some 27), none, .mv (.t 0)⟩, ⟨(some 28), none, .mv (.t 8)⟩, ⟨(some 29), none, .ixaSl 2 (.t 27) (.t 28)⟩, ⟨(some 30), none, .faddr 1 (.t 29)⟩, ⟨(some 31), none, .load false 1 (.t 30)⟩, ⟨(some 32), none, .bin .add (.t 26) (.t 31)⟩, ⟨(some 6), none, .mv (.t 32)⟩])
      (.region [⟨(some 33), none, .mv (.t 7)⟩, ⟨(some 34), none, .bin .add (.t 33) (.c (.int .i64 1))⟩, ⟨(some 7), none, .mv (.t 34)⟩])))
      .skip)))
    (.region [⟨(some 13), none, .mv (.t 8)⟩, ⟨(some 14), none, .bin .add (.t 13) (.c (.int .i64 1))⟩, ⟨(some 8), none, .mv (.t 14)⟩]))))))
  (.seq (.region [⟨(some 35), none, .mv (.t 6)⟩, ⟨(some 36), none, .mv (.t 7)⟩, ⟨(some 4), none, .mv (.t 35)⟩, ⟨(some 5), none, .mv (.t 36)⟩])
  .ret)))))⟩
/-- gatepost/gatepostref01.Split -/
def c_gatepostref01_Split : FnC := ⟨74, [.tmp 2, .tmp 3],
  (.seq (.region [⟨(some 2), none, .mv (.c .nsl)⟩, ⟨(some 3), none, .mv (.c (.bool false))⟩])
  (.seq (.region [⟨(some 4), none, .mv (.c .nsl)⟩])
  (.seq (.region [⟨(some 5), none, .mv (.c (.str []))⟩])
  (.seq (.region [⟨(some 6), none, .mv (.c (.bool false))⟩])
  (.seq (.seq (.region [⟨(some 7), none, .mv (.c (.int .i64 0))⟩])
  (.block 0 (.loop
    (.seq (.seq (.region [⟨(some 9), none, .mv (.t 7)⟩, ⟨(some 10), none, .mv (.t 0)⟩, ⟨(some 11), none, .len 0 (.t 10)⟩, ⟨(some 12), none, .bin .lss (.t 9) (.t 11)⟩])
    (.cond (.t 12)
      .skip
      (.exit 0)))
    (.seq (.block 1 (.seq (.region [⟨(some 15), none, .mv (.t 0)⟩, ⟨(some 16), none, .mv (.t 7)⟩, ⟨(some 17), none, .ixStr (.t 15) (.t 16)⟩, ⟨(some 8), none, .mv (.t 17)⟩])
    (.seq (.seq (.region [⟨(some 18), none, .mv (.t 6)⟩, ⟨(some 19), none, .un .not (.t 18)⟩, ⟨(some 20), none, .mv (.t 19)⟩, ⟨(some 21), (some (20, true)), .mv (.t 8)⟩, ⟨(some 22), (some (20, true)), .bin .eql (.t 21) (.c (.int .u8 44))⟩, ⟨(some 23), none, .pick (.t 20) (.t 22) (.c (.bool false))⟩])
    (.cond (.t 23)
      (.seq (.region [⟨(some 24), none, .mv (.t 5)⟩, ⟨(some 25), none, .call i_gatepostref01_Trim [(.t 24)]⟩, ⟨(some 5), none, .mv (.t 25)⟩])
      (.seq (.seq (.region [⟨(some 26), none, .mv (.t 5)⟩, ⟨(some 27), none, .bin .neq (.t 26) (.c (.str []))⟩])
      (.cond (.t 27)
        (.region [⟨(some 28), none, .mv (.t 4)⟩, ⟨(some 29), none, .mv (.t 5)⟩, ⟨(some 30), none, .bsl 1 [(.t 29)]⟩, ⟨(some 31), none, .app 1 16 false (.t 28) (.t 30)⟩, ⟨(some 4), none, .mv (.t 31)⟩])
        .skip))
      (.seq (.region [⟨(some 5), none, .mv (.c (.str []))⟩])
      (.exit 1))))
      .skip))
    (.seq (.region [⟨(some 32), none, .mv (.t 5)⟩, ⟨(some 33), none, .mv (.t 0)⟩, ⟨(some 34), none, .mv (.t 7)⟩, ⟨(some 35), none, .mv (.t 7)⟩, ⟨(some 36), none, .bin .add (.t 35) (.c (.int .i64 1))⟩, ⟨(some 37), none, .slstr (.t 33) (some (.t 34)) (some (.t 36))⟩, ⟨(some 38), none, .bin .add (.t 32) (.t 37)⟩, ⟨(some 5), none, .mv (.t 38)⟩])
    (.seq (.seq (.region [⟨(some 39), none, .mv (.t 8)⟩, ⟨(some 40), none, .bin .eql (.t 39) (.c (.int .u8 34))⟩])
    (.cond (.t 40)
      (.region [⟨(some 41), none, .mv (.t 6)⟩, ⟨(some 42), none, .un .not (.t 41)⟩, ⟨(some 6), none, .mv (.t 42)⟩])
      .skip))
    (.seq (.region [⟨(some 43), none, .mv (.t 6)⟩, ⟨(some 44), none, .mv (.t 43)⟩, ⟨(some 45), (some (44, true)), .mv (.t 8)⟩, ⟨(some 46), (some (44, true)), .bin .eql (.t 45) (.c (.int .u8 92))⟩, ⟨(some 47), none, .pick (.t 44) (.t 46) (.c (.bool false))⟩, ⟨(some 48), none, .mv (.t 47)⟩, ⟨(some 49), (some (48, true)), .mv (.t 7)⟩, ⟨(some 50), (some (48, true)), .bin .add (.t 49) (.c (.int .i64 1))⟩, ⟨(some 51), (some (48, true)), .mv (.t 0)⟩, ⟨(some 52), (some (48, true)), .len 0 (.t 51)⟩, ⟨(some 53), (some (48, true)), .bin .lss (.t 50) (.t 52)⟩, ⟨(some 54), none, .pick (.t 48) (.t 53) (.c (.bool false))⟩])
    (.cond (.t 54)
      (.seq (.region [⟨(some 55), none, .mv (.t 7)⟩, ⟨(some 56), none, .bin .add (.t 55) (.c (.int .i64 1))⟩, ⟨(some 7), none, .mv (.t 56)⟩])
      (.region [⟨(some 57), none, .mv (.t 5)⟩, ⟨(some 58), none, .mv (.t 0)⟩, ⟨(some 59), none, .mv (.t 7)⟩, ⟨(some 60), none, .mv (.t 7)⟩, ⟨(some 61), none, .bin .add (.t 60) (.c (.int .i64 1))⟩, ⟨(some 62), none, .slstr (.t 58) (some (.t 59)) (some (.t 61))⟩, ⟨(some 63), none, .bin .add (.t 57) (.t 62)⟩, ⟨(some 5), none, .mv (.t 63)⟩]))
      .skip)))))))
    (.region [⟨(some 13), none, .mv (.t 7)⟩, ⟨(some 14), none, .bin .add (.t 13) (.c (.int .i64 1))⟩, ⟨(some 7), none, .mv (.t 14)⟩]))))))
  (.seq (.region [⟨(some 64), none, .mv (.t 5)⟩, ⟨(some 65), none, .call i_gatepostref01_Trim [(.t 64)]⟩, ⟨(some 5), none, .mv (.t 65)⟩])
  (.seq (.seq (.region [⟨(some 66), none, .mv (.t 6)⟩])
  (.cond (.t 66)
    (.seq (.region [⟨(some 2), none, .mv (.c .nsl)⟩, ⟨(some 3), none, .mv (.c (.bool false))⟩])
    .ret)
    .skip))
  (.seq (.seq (.region [⟨(some 67), none, .mv (.t 5)⟩, ⟨(some 68), none, .bin .neq (.t 67) (.c (.str []))⟩])
  (.cond (.t 68)
    (.region [⟨(some 69), none, .mv (.t 4)⟩, ⟨(some 70), none, .mv (.t 5)⟩, ⟨(some 71), none, .bsl 1 [(.t 70)]⟩, ⟨(some 72), none, .app 1 16 false (.t 69) (.t 71)⟩, ⟨(some 4), none, .mv (.t 72)⟩])
    .skip))
  (.seq (.region [⟨(some 73), none, .mv (.t 4)⟩, ⟨(some 2), none, .mv (.t 73)⟩, ⟨(some 3), none, .mv (.c (.bool true))⟩])
  .ret)))))))))⟩
/-- gatepost/gatepostref01.Number -/
def c_gatepostref01_Number : FnC := ⟨61, [.tmp 4, .tmp 5],
  (.seq (.region [⟨(some 4), none, .mv (.c (.int .i64 0))⟩, ⟨(some 5), none, .mv (.c (.bool false))⟩])
  (.seq (.seq (.region [⟨(some 10), none, .mv (.t 1)⟩, ⟨(some 11), none, .bin .lss (.t 10) (.c (.int .i64 0))⟩, ⟨(some 12), none, .mv (.t 11)⟩, ⟨(some 13), (some (12, false)), .mv (.t 0)⟩, ⟨(some 14), (some (12, false)), .len 0 (.t 13)⟩, ⟨(some 15), (some (12, false)), .bin .eql (.t 14) (.c (.int .i64 0))⟩, ⟨(some 16), none, .pick (.t 12) (.c (.bool true)) (.t 15)⟩])
  (.cond (.t 16)
    (.seq (.region [⟨(some 4), none, .mv (.c (.int .i64 0))⟩, ⟨(some 5), none, .mv (.c (.bool false))⟩])
    .ret)
    .skip))
  (.seq (.region [⟨(some 6), none, .mv (.c (.int .i64 0))⟩])
  (.seq (.seq (.region [⟨(some 7), none, .mv (.c (.int .i64 0))⟩])
  (.block 0 (.loop
    (.seq (.seq (.region [⟨(some 17), none, .mv (.t 7)⟩, ⟨(some 18), none, .mv (.t 0)⟩, ⟨(some 19), none, .len 0 (.t 18)⟩, ⟨(some 20), none, .bin .lss (.t 17) (.t 19)⟩])
    (.cond (.t 20)
      .skip
      (.exit 0)))
    (.seq (.block 1 (.seq (.region [⟨(some 23), none, .mv (.t 0)⟩, ⟨(some 24), none, .mv (.t 7)⟩, ⟨(some 25), none, .ixStr (.t 23) (.t 24)⟩, ⟨(some 26), none, .bin .lss (.t 25) (.c (.int .u8 48))⟩, ⟨(some 27), none, .mv (.t 26)⟩, ⟨(some 28), (some (27, false)), .mv (.t 0)⟩, ⟨(some 29), (some (27, false)), .mv (.t 7)⟩, ⟨(some 30), (some (27, false)), .ixStr (.t 28) (.t 29)⟩, ⟨(some 31), (some (27, false)), .bin .gtr (.t 30) (.c (.int .u8 57))⟩, ⟨(some 32), none, .pick (.t 27) (.c (.bool true)) (.t 31)⟩])
    (.cond (.t 32)
      (.seq (.region [⟨(some 4), none, .mv (.c (.int .i64 0))⟩, ⟨(some 5), none, .mv (.c (.bool false))⟩])
      .ret)
      .skip)))
    (.region [⟨(some 21), none, .mv (.t 7)⟩, ⟨(some 22), none, .bin .add (.t 21) (.c (.int .i64 1))⟩, ⟨(some 7), none, .mv (.t 22)⟩]))))))
  (.seq (.seq (.region [⟨(some 8), none, .mv (.c (.int .i64 0))⟩])
  (.block 2 (.loop
    (.seq (.seq (.region [⟨(some 33), none, .mv (.t 8)⟩, ⟨(some 34), none, .mv (.t 0)⟩, ⟨(some 35), none, .len 0 (.t 34)⟩, ⟨(some 36), none, .bin .lss (.t 33) (.t 35)⟩])
    (.cond (.t 36)
      .skip
      (.exit 2)))
    (.seq (.block 3 (.seq (.region [⟨(some 39), none, .mv (.t 0)⟩, ⟨(some 40), none, .mv (.t 8)⟩, ⟨(some 41), none, .ixStr (.t 39) (.t 40)⟩, ⟨(some 42), none, .bin .sub (.t 41) (.c (.int .u8 48))⟩, ⟨(some 43), none, .toInt .i64 (.t 42)⟩, ⟨(some 9), none, .mv (.t 43)⟩])
    (.seq (.seq (.region [⟨(some 44), none, .mv (.t 6)⟩, ⟨(some 45), none, .mv (.t 1)⟩, ⟨(some 46), none, .mv (.t 9)⟩, ⟨(some 47), none, .bin .sub (.t 45) (.t 46)⟩, ⟨(some 48), none, .bin .quo (.t 47) (.c (.int .i64 10))⟩, ⟨(some 49), none, .bin .gtr (.t 44) (.t 48)⟩, ⟨(some 50), none, .mv (.t 49)⟩, ⟨(some 51), (some (50, false)), .mv (.t 1)⟩, ⟨(some 52), (some (50, false)), .mv (.t 9)⟩, ⟨(some 53), (some (50, false)), .bin .lss (.t 51) (.t 52)⟩, ⟨(some 54), none, .pick (.t 50) (.c (.bool true)) (.t 53)⟩])
    (.cond (.t 54)
      (.seq (.region [⟨(some 55), none, .mv (.t 1)⟩, ⟨(some 4), none, .mv (.t 55)⟩, ⟨(some 5), none, .mv (.c (.bool true))⟩])
      .ret)
      .skip))
    (.region [⟨(some 56), none, .mv (.t 6)⟩, ⟨(some 57), none, .bin .mul (.t 56) (.c (.int .i64 10))⟩, ⟨(some 58), none, .mv (.t 9)⟩, ⟨(some 59), none, .bin .add (.t 57) (.t 58)⟩, ⟨(some 6), none, .mv (.t 59)⟩]))))
    (.region [⟨(some 37), none, .mv (.t 8)⟩, ⟨(some 38), none, .bin .add (.t 37) (.c (.int .i64 1))⟩, ⟨(some 8), none, .mv (.t 38)⟩]))))))
  (.seq (.region [⟨(some 60), none, .mv (.t 6)⟩, ⟨(some 4), none, .mv (.t 60)⟩, ⟨(some 5), none, .mv (.c (.bool true))⟩])
  .ret))))))⟩
/-- gatepost/storing.known -/
def c_storing_known : FnC := ⟨28, [.tmp 4],
  (.seq (.region [⟨(some 4), none, .mv (.c (.bool false))⟩])
  (.seq (.block 0 (.seq (.region [⟨(some 6), none, .mv (.t 0)⟩, ⟨(some 7), none, .bin .lss (.t 6) (.c (.int .i64 200))⟩, ⟨(some 8), none, .mv (.t 7)⟩, ⟨(some 9), (some (8, false)), .mv (.t 0)⟩, ⟨(some 10), (some (8, false)), .bin .gtr (.t 9) (.c (.int .i64 599))⟩, ⟨(some 11), none, .pick (.t 8) (.c (.bool true)) (.t 10)⟩, ⟨(some 12), none, .mv (.t 11)⟩, ⟨(some 13), (some (12, false)), .mv (.t 0)⟩, ⟨(some 14), (some (12, false)), .bin .eql (.t 13) (.c (.int .i64 304))⟩, ⟨(some 15), none, .pick (.t 12) (.c (.bool true)) (.t 14)⟩, ⟨(some 5), none, .mv (.t 15)⟩])
  (.cond (.t 5)
    (.seq (.region [⟨(some 4), none, .mv (.c (.bool false))⟩])
    .ret)
    (.seq (.region [⟨(some 17), none, .mv (.t 0)⟩, ⟨(some 18), none, .bin .lss (.t 17) (.c (.int .i64 300))⟩, ⟨(some 19), none, .mv (.t 18)⟩, ⟨(some 20), (some (19, true)), .mv (.t 1)⟩, ⟨(some 21), none, .pick (.t 19) (.t 20) (.c (.bool false))⟩, ⟨(some 16), none, .mv (.t 21)⟩])
    (.cond (.t 16)
      (.seq (.region [⟨(some 22), none, .mv (.t 0)⟩, ⟨(some 23), none, .bin .eql (.t 22) (.c (.int .i64 200))⟩, ⟨(some 24), none, .mv (.t 23)⟩, ⟨(some 25), (some (24, false)), .mv (.t 0)⟩, ⟨(some 26), (some (24, false)), .bin .eql (.t 25) (.c (.int .i64 206))⟩, ⟨(some 27), none, .pick (.t 24) (.c (.bool true)) (.t 26)⟩, ⟨(some 4), none, .mv (.t 27)⟩])
      .ret)
      .skip)))))
  (.seq (.region [⟨(some 4), none, .mv (.c (.bool true))⟩])
  .ret)))⟩
/-- gatepost/storing.varies -/
def c_storing_varies : FnC := ⟨23, [.tmp 2],
  (.seq (.region [⟨(some 2), none, .mv (.c (.bool false))⟩])
  (.seq (.region [⟨(some 8), none, .mv (.t 0)⟩, ⟨(some 9), none, .call i_field_Get [(.t 8), (.c (.str [86, 97, 114, 121]))]⟩, ⟨(some 7), none, .mv (.t 9)⟩, ⟨(some 10), none, .ext 0 (.t 7)⟩, ⟨(some 11), none, .ext 1 (.t 7)⟩, ⟨(some 3), none, .mv (.t 10)⟩, ⟨(some 4), none, .mv (.t 11)⟩])
  (.seq (.region [⟨(some 13), none, .mv (.t 3)⟩, ⟨(some 14), none, .call i_token_Split [(.t 13)]⟩, ⟨(some 12), none, .mv (.t 14)⟩, ⟨(some 15), none, .ext 0 (.t 12)⟩, ⟨(some 16), none, .ext 1 (.t 12)⟩, ⟨(some 5), none, .mv (.t 15)⟩, ⟨(some 6), none, .mv (.t 16)⟩])
  (.seq (.region [⟨(some 17), none, .mv (.t 6)⟩, ⟨(some 18), none, .un .not (.t 17)⟩, ⟨(some 19), none, .mv (.t 18)⟩, ⟨(some 20), (some (19, false)), .mv (.t 5)⟩, ⟨(some 21), (some (19, false)), .call i_slices_Contains___string_string_ [(.t 20), (.c (.str [42]))]⟩, ⟨(some 22), none, .pick (.t 19) (.c (.bool true)) (.t 21)⟩, ⟨(some 2), none, .mv (.t 22)⟩])
  .ret))))⟩
/-- gatepost/fresh.Heuristic -/
def c_fresh_Heuristic : FnC := ⟨13, [.tmp 2],
  (.seq (.region [⟨(some 2), none, .mv (.c (.bool false))⟩])
  (.seq (.seq (.region [⟨(some 5), none, .call i_fresh_keeps []⟩, ⟨(some 6), none, .mv (.c (.int .i64 0))⟩])
  (.block 0 (.loop
    (.seq (.region [⟨(some 7), none, .bin .lss (.t 6) (.c (.int .i64 12))⟩])
    (.seq (.cond (.t 7)
      .skip
      (.exit 0))
    (.seq (.block 1 (.seq (.region [⟨(some 8), none, .ixArr 12 1 false (.t 5) (.t 6)⟩, ⟨(some 4), none, .mv (.t 8)⟩])
    (.seq (.region [⟨(some 9), none, .mv (.t 4)⟩, ⟨(some 10), none, .mv (.t 0)⟩, ⟨(some 11), none, .bin .eql (.t 9) (.t 10)⟩])
    (.cond (.t 11)
      (.seq (.region [⟨(some 2), none, .mv (.c (.bool true))⟩])
      .ret)
      .skip))))
    (.region [⟨(some 12), none, .bin .add (.t 6) (.c (.int .i64 1))⟩, ⟨(some 6), none, .mv (.t 12)⟩])))))))
  (.seq (.region [⟨(some 2), none, .mv (.c (.bool false))⟩])
  .ret)))⟩
/-- gatepost/gatepostref10.has -/
def c_gatepostref10_has : FnC := ⟨15, [.tmp 4],
  (.seq (.region [⟨(some 4), none, .mv (.c (.bool false))⟩])
  (.seq (.region [⟨(some 8), none, .mv (.t 0)⟩, ⟨(some 9), none, .mv (.t 1)⟩, ⟨(some 10), none, .call i_gatepostref04_Get [(.t 8), (.t 9)]⟩, ⟨(some 7), none, .mv (.t 10)⟩, ⟨(some 11), none, .ext 0 (.t 7)⟩, ⟨(some 12), none, .ext 1 (.t 7)⟩, ⟨(some 5), none, .mv (.t 11)⟩, ⟨(some 6), none, .mv (.t 12)⟩])
  (.seq (.region [⟨(some 13), none, .mv (.t 6)⟩, ⟨(some 14), none, .bin .gtr (.t 13) (.c (.int .i64 0))⟩, ⟨(some 4), none, .mv (.t 14)⟩])
  .ret)))⟩
/-- gatepost/gatepostref09.Heuristic -/
def c_gatepostref09_Heuristic : FnC := ⟨17, [.tmp 2],
  (.seq (.region [⟨(some 2), none, .mv (.c (.bool false))⟩])
  (.seq (.seq (.region [⟨(some 3), none, .mv (.t 0)⟩])
  (.block 0 (.seq (.seq (.region [⟨(some 5), none, .bin .eql (.t 3) (.c (.int .i64 200))⟩, ⟨(some 4), none, .mv (.t 5)⟩])
  (.cond (.t 4)
    .skip
    (.seq (.region [⟨(some 6), none, .bin .eql (.t 3) (.c (.int .i64 203))⟩, ⟨(some 4), none, .mv (.t 6)⟩])
    (.cond (.t 4)
      .skip
      (.seq (.region [⟨(some 7), none, .bin .eql (.t 3) (.c (.int .i64 204))⟩, ⟨(some 4), none, .mv (.t 7)⟩])
      (.cond (.t 4)
        .skip
        (.seq (.region [⟨(some 8), none, .bin .eql (.t 3) (.c (.int .i64 206))⟩, ⟨(some 4), none, .mv (.t 8)⟩])
        (.cond (.t 4)
          .skip
          (.seq (.region [⟨(some 9), none, .bin .eql (.t 3) (.c (.int .i64 300))⟩, ⟨(some 4), none, .mv (.t 9)⟩])
          (.cond (.t 4)
            .skip
            (.seq (.region [⟨(some 10), none, .bin .eql (.t 3) (.c (.int .i64 301))⟩, ⟨(some 4), none, .mv (.t 10)⟩])
            (.cond (.t 4)
              .skip
              (.seq (.region [⟨(some 11), none, .bin .eql (.t 3) (.c (.int .i64 308))⟩, ⟨(some 4), none, .mv (.t 11)⟩])
              (.cond (.t 4)
                .skip
                (.seq (.region [⟨(some 12), none, .bin .eql (.t 3) (.c (.int .i64 404))⟩, ⟨(some 4), none, .mv (.t 12)⟩])
                (.cond (.t 4)
                  .skip
                  (.seq (.region [⟨(some 13), none, .bin .eql (.t 3) (.c (.int .i64 405))⟩, ⟨(some 4), none, .mv (.t 13)⟩])
                  (.cond (.t 4)
                    .skip
                    (.seq (.region [⟨(some 14), none, .bin .eql (.t 3) (.c (.int .i64 410))⟩, ⟨(some 4), none, .mv (.t 14)⟩])
                    (.cond (.t 4)
                      .skip
                      (.seq (.region [⟨(some 15), none, .bin .eql (.t 3) (.c (.int .i64 414))⟩, ⟨(some 4), none, .mv (.t 15)⟩])
                      (.cond (.t 4)
                        .skip
                        (.region [⟨(some 16), none, .bin .eql (.t 3) (.c (.int .i64 501))⟩, ⟨(some 4), none, .mv (.t 16)⟩])))))))))))))))))))))))
  (.cond (.t 4)
    (.seq (.region [⟨(some 2), none, .mv (.c (.bool true))⟩])
    .ret)
    .skip))))
  (.seq (.region [⟨(some 2), none, .mv (.c (.bool false))⟩])
  .ret)))⟩
/-- gatepost/gatepostref04.Strip -/
def c_gatepostref04_Strip : FnC := ⟨33, [.tmp 2],
  (.seq (.region [⟨(some 2), none, .mv (.c .nsl)⟩])
  (.seq (.region [⟨(some 10), none, .mv (.t 0)⟩, ⟨(some 11), none, .call i_gatepostref04_Names [(.t 10), (.c (.str [99, 111, 110, 110, 101, 99, 116, 105, 111, 110]))]⟩, ⟨(some 9), none, .mv (.t 11)⟩, ⟨(some 12), none, .ext 0 (.t 9)⟩, ⟨(some 13), none, .ext 1 (.t 9)⟩, ⟨(some 3), none, .mv (.t 12)⟩, ⟨(some 4), none, .mv (.t 13)⟩])
  (.seq (.region [⟨(some 14), none, .bsl 1 [(.c (.str [99, 111, 110, 110, 101, 99, 116, 105, 111, 110])), (.c (.str [107, 101, 101, 112, 45, 97, 108, 105, 118, 101])), (.c (.str [112, 114, 111, 120, 121, 45, 99, 111, 110, 110, 101, 99, 116, 105, 111, 110])), (.c (.str [116, 101])), (.c (.str [116, 114, 97, 105, 108, 101, 114])), (.c (.str [116, 114, 97, 110, 115, 102, 101, 114, 45, 101, 110, 99, 111, 100, 105, 110, 103])), (.c (.str [117, 112, 103, 114, 97, 100, 101]))]⟩, ⟨(some 15), none, .mv (.t 3)⟩, ⟨(some 16), none, .app 1 16 false (.t 14) (.t 15)⟩, ⟨(some 5), none, .mv (.t 16)⟩])
  (.seq (.region [⟨(some 17), none, .mv (.t 0)⟩, ⟨(some 6), none, .mv (.t 17)⟩])
  (.seq (.seq (.region [⟨(some 7), none, .mv (.c (.int .i64 0))⟩])
  (.block 0 (.loop
    (.seq (.seq (.region [⟨(some 18), none, .mv (.t 7)⟩, ⟨(some 19), none, .mv (.t 5)⟩, ⟨(some 20), none, .len 1 (.t 19)⟩, ⟨(some 21), none, .bin .lss (.t 18) (.t 20)⟩])
    (.cond (.t 21)
      .skip
      (.exit 0)))
    (.seq (.block 1 (.region [⟨(some 24), none, .mv (.t 6)⟩, ⟨(some 25), none, .mv (.t 5)⟩, ⟨(some 26), none, .mv (.t 7)⟩, ⟨(some 27), none, .ixaSl 1 (.t 25) (.t 26)⟩, ⟨(some 28), none, .load false 1 (.t 27)⟩, ⟨(some 29), none, .call i_gatepostref04_Del [(.t 24), (.t 28)]⟩, ⟨(some 6), none, .mv (.t 29)⟩]))
    (.region [⟨(some 22), none, .mv (.t 7)⟩, ⟨(some 23), none, .bin .add (.t 22) (.c (.int .i64 1))⟩, ⟨(some 7), none, .mv (.t 23)⟩]))))))
  (.seq (.region [⟨(some 8), none, .mv (.c .nsl)⟩])
  (.seq (.region [⟨(some 30), none, .mv (.t 8)⟩, ⟨(some 31), none, .mv (.t 6)⟩, ⟨(some 32), none, .app 2 32 false (.t 30) (.t 31)⟩, ⟨(some 2), none, .mv (.t 32)⟩])
  .ret)))))))⟩
/-- gatepost/gatepostref04.Del -/
def c_gatepostref04_Del : FnC := ⟨29, [.tmp 4],
  (.seq (.region [⟨(some 4), none, .mv (.c .nsl)⟩])
  (.seq (.region [⟨(some 5), none, .mv (.c .nsl)⟩])
  (.seq (.seq (.region [⟨(some 6), none, .mv (.c (.int .i64 0))⟩])
  (.block 0 (.loop
    (.seq (.seq (.region [⟨(some 7), none, .mv (.t 6)⟩, ⟨(some 8), none, .mv (.t 0)⟩, ⟨(some 9), none, .len 1 (.t 8)⟩, ⟨(some 10), none, .bin .lss (.t 7) (.t 9)⟩])
    (.cond (.t 10)
      .skip
      (.exit 0)))
    (.seq (.block 1 (.seq (.region [⟨(some 13), none, .mv (.t 0)⟩, ⟨(some 14), none, .mv (.t 6)⟩, ⟨(some 15), none, .ixaSl 2 (.t 13) (.t 14)⟩, ⟨(some 16), none, .faddr 0 (.t 15)⟩, ⟨(some 17), none, .load false 1 (.t 16)⟩, ⟨(some 18), none, .mv (.t 1)⟩, ⟨(some 19), none, .call i_gatepostref01_Same [(.t 17), (.t 18)]⟩, ⟨(some 20), none, .un .not (.t 19)⟩])
    (.cond (.t 20)
      (.region [⟨(some 21), none, .mv (.t 5)⟩, ⟨(some 22), none, .mv (.t 0)⟩, ⟨(some 23), none, .mv (.t 6)⟩, ⟨(some 24), none, .ixaSl 2 (.t 22) (.t 23)⟩, ⟨(some 25), none, .load true 2 (.t 24)⟩, ⟨(some 26), none, .bsl 2 [(.t 25)]⟩, ⟨(some 27), none, .app 2 32 false (.t 21) (.t 26)⟩, ⟨(some 5), none, .mv (.t 27)⟩])
      .skip)))
    (.region [⟨(some 11), none, .mv (.t 6)⟩, ⟨(some 12), none, .bin .add (.t 11) (.c (.int .i64 1))⟩, ⟨(some 6), none, .mv (.t 12)⟩]))))))
  (.seq (.region [⟨(some 28), none, .mv (.t 5)⟩, ⟨(some 4), none, .mv (.t 28)⟩])
  .ret))))⟩
/-- gatepost/field.Names -/
def c_field_Names : FnC := ⟨44, [.tmp 4, .tmp 5],
  (.seq (.region [⟨(some 4), none, .mv (.c .nsl)⟩, ⟨(some 5), none, .mv (.c (.bool false))⟩])
  (.seq (.region [⟨(some 14), none, .mv (.t 0)⟩, ⟨(some 15), none, .mv (.t 1)⟩, ⟨(some 16), none, .call i_field_Get [(.t 14), (.t 15)]⟩, ⟨(some 13), none, .mv (.t 16)⟩, ⟨(some 17), none, .ext 0 (.t 13)⟩, ⟨(some 18), none, .ext 1 (.t 13)⟩, ⟨(some 6), none, .mv (.t 17)⟩, ⟨(some 7), none, .mv (.t 18)⟩])
  (.seq (.region [⟨(some 20), none, .mv (.t 6)⟩, ⟨(some 21), none, .call i_token_Split [(.t 20)]⟩, ⟨(some 19), none, .mv (.t 21)⟩, ⟨(some 22), none, .ext 0 (.t 19)⟩, ⟨(some 23), none, .ext 1 (.t 19)⟩, ⟨(some 8), none, .mv (.t 22)⟩, ⟨(some 9), none, .mv (.t 23)⟩])
  (.seq (.region [⟨(some 10), none, .mv (.c .nsl)⟩])
  (.seq (.seq (.region [⟨(some 24), none, .mv (.t 8)⟩, ⟨(some 25), none, .len 1 (.t 24)⟩, ⟨(some 26), none, .mv (.c (.int .i64 0))⟩])
  (.block 0 (.loop
    (.seq (.region [⟨(some 27), none, .bin .lss (.t 26) (.t 25)⟩])
    (.seq (.cond (.t 27)
      .skip
      (.exit 0))
    (.seq (.block 1 (.seq (.region [⟨(some 28), none, .ixaSl 1 (.t 24) (.t 26)⟩, ⟨(some 29), none, .load false 1 (.t 28)⟩, ⟨(some 12), none, .mv (.t 29)⟩])
    (.seq (.region [⟨(some 30), none, .mv (.t 9)⟩, ⟨(some 31), none, .mv (.t 30)⟩, ⟨(some 32), (some (31, true)), .mv (.t 12)⟩, ⟨(some 33), (some (31, true)), .call i_token_Is [(.t 32)]⟩, ⟨(some 34), none, .pick (.t 31) (.t 33) (.c (.bool false))⟩, ⟨(some 9), none, .mv (.t 34)⟩])
    (.region [⟨(some 35), none, .mv (.t 10)⟩, ⟨(some 36), none, .mv (.t 12)⟩, ⟨(some 37), none, .call i_token_Lower [(.t 36)]⟩, ⟨(some 38), none, .bsl 1 [(.t 37)]⟩, ⟨(some 39), none, .app 1 16 false (.t 35) (.t 38)⟩, ⟨(some 10), none, .mv (.t 39)⟩]))))
    (.region [⟨(some 40), none, .bin .add (.t 26) (.c (.int .i64 1))⟩, ⟨(some 26), none, .mv (.t 40)⟩])))))))
  (.seq (.seq (.region [⟨(some 41), none, .mv (.t 9)⟩, ⟨(some 42), none, .un .not (.t 41)⟩])
  (.cond (.t 42)
    (.seq (.region [⟨(some 4), none, .mv (.c .nsl)⟩, ⟨(some 5), none, .mv (.c (.bool false))⟩])
    .ret)
    .skip))
  (.seq (.region [⟨(some 43), none, .mv (.t 10)⟩, ⟨(some 4), none, .mv (.t 43)⟩, ⟨(some 5), none, .mv (.c (.bool true))⟩])
  .ret)))))))⟩
/-- gatepost/field.without -/
def c_field_without : FnC := ⟨22, [.tmp 4],
  (.seq (.region [⟨(some 4), none, .mv (.c .nsl)⟩])
  (.seq (.region [⟨(some 8), none, .mkmap⟩, ⟨(some 5), none, .boxz [.nmap]⟩, ⟨none, none, .store 1 (.t 5) (.t 8)⟩])
  (.seq (.seq (.region [⟨(some 9), none, .mv (.t 1)⟩, ⟨(some 10), none, .len 1 (.t 9)⟩, ⟨(some 11), none, .mv (.c (.int .i64 0))⟩])
  (.block 0 (.loop
    (.seq (.region [⟨(some 12), none, .bin .lss (.t 11) (.t 10)⟩])
    (.seq (.cond (.t 12)
      .skip
      (.exit 0))
    (.seq (.block 1 (.seq (.region [⟨(some 13), none, .ixaSl 1 (.t 9) (.t 11)⟩, ⟨(some 14), none, .load false 1 (.t 13)⟩, ⟨(some 7), none, .mv (.t 14)⟩])
    (.dregion [⟨(some 15), none, .load false 1 (.t 5)⟩, ⟨(some 16), none, .mv (.t 7)⟩, ⟨(some 17), none, .call i_token_Lower [(.t 16)]⟩] [⟨none, none, .mapset .s (.t 15) (.t 17) (.c (.bool true))⟩])))
    (.region [⟨(some 18), none, .bin .add (.t 11) (.c (.int .i64 1))⟩, ⟨(some 11), none, .mv (.t 18)⟩])))))))
  (.seq (.region [⟨(some 19), none, .mv (.t 0)⟩, ⟨(some 20), none, .mkfn i_field_without_1 [(.t 5)]⟩, ⟨(some 21), none, .call i_field_keep [(.t 19), (.t 20)]⟩, ⟨(some 4), none, .mv (.t 21)⟩])
  .ret))))⟩
/-- slices.ContainsFunc[[]gatepost/api.Field,gatepost/api.Field] -/
def c_slices_ContainsFunc___gatepost_api_Field_gatepost_api_Field_ : FnC := ⟨9, [.tmp 4],
  (.seq (.region [⟨(some 4), none, .mv (.c (.bool false))⟩])
  (.seq (.region [⟨(some 5), none, .mv (.t 0)⟩, ⟨(some 6), none, .mv (.t 1)⟩, ⟨(some 7), none, .call i_slices_IndexFunc___gatepost_api_Field_gatepost_api_Field_ [(.t 5), (.t 6)]⟩, ⟨(some 8), none, .bin .geq (.t 7) (.c (.int .i64 0))⟩, ⟨(some 4), none, .mv (.t 8)⟩])
  .ret))⟩
/-- gatepost/storing.has$1 -/
def c_storing_has_1 : FnC := ⟨8, [.tmp 3],
  (.seq (.region [⟨(some 2), none, .box (.t 0)⟩, ⟨(some 3), none, .mv (.c (.bool false))⟩])
  (.seq (.region [⟨(some 4), none, .faddr 0 (.t 2)⟩, ⟨(some 5), none, .load false 1 (.t 4)⟩, ⟨(some 6), none, .load false 1 (.t 1)⟩, ⟨(some 7), none, .call i_token_Same [(.t 5), (.t 6)]⟩, ⟨(some 3), none, .mv (.t 7)⟩])
  .ret))⟩
/-- gatepost/control.Parse -/
def c_control_Parse : FnC := ⟨84, [.cell 2 true 13, .tmp 3],
  (.seq (.region [⟨(some 2), none, .boxz [(.bool false), (.bool false), (.bool false), (.bool false), (.bool false), (.bool false), (.bool false), (.int .i64 0), (.int .i64 0), (.int .i64 0), (.int .i64 0), (.int .i64 0), (.int .i64 0)]⟩, ⟨(some 3), none, .mv (.c (.bool false))⟩])
  (.seq (.region [⟨(some 17), none, .call i_control_nothing []⟩, ⟨(some 4), none, .boxz [(.bool false), (.bool false), (.bool false), (.bool false), (.bool false), (.bool false), (.bool false), (.int .i64 0), (.int .i64 0), (.int .i64 0), (.int .i64 0), (.int .i64 0), (.int .i64 0)]⟩, ⟨none, none, .store 13 (.t 4) (.t 17)⟩])
  (.seq (.region [⟨(some 19), none, .mv (.t 0)⟩, ⟨(some 20), none, .call i_token_Split [(.t 19)]⟩, ⟨(some 18), none, .mv (.t 20)⟩, ⟨(some 21), none, .ext 0 (.t 18)⟩, ⟨(some 22), none, .ext 1 (.t 18)⟩, ⟨(some 5), none, .mv (.t 21)⟩, ⟨(some 6), none, .mv (.t 22)⟩])
  (.seq (.seq (.region [⟨(some 23), none, .mv (.t 6)⟩, ⟨(some 24), none, .un .not (.t 23)⟩])
  (.cond (.t 24)
    (.seq (.region [⟨(some 25), none, .faddr 0 (.t 4)⟩, ⟨none, none, .store 1 (.t 25) (.c (.bool true))⟩, ⟨(some 26), none, .faddr 1 (.t 4)⟩, ⟨none, none, .store 1 (.t 26) (.c (.bool true))⟩])
    (.seq (.region [⟨(some 27), none, .load true 13 (.t 4)⟩, ⟨none, none, .store 13 (.t 2) (.t 27)⟩, ⟨(some 3), none, .mv (.c (.bool false))⟩])
    .ret))
    .skip))
  (.seq (.region [⟨(some 28), none, .call i_control_rules []⟩, ⟨(some 7), none, .mv (.t 28)⟩])
  (.seq (.seq (.region [⟨(some 29), none, .mv (.t 5)⟩, ⟨(some 30), none, .len 1 (.t 29)⟩, ⟨(some 31), none, .mv (.c (.int .i64 0))⟩])
  (.block 0 (.loop
    (.seq (.region [⟨(some 32), none, .bin .lss (.t 31) (.t 30)⟩])
    (.seq (.cond (.t 32)
      .skip
      (.exit 0))
    (.seq (.block 1 (.seq (.region [⟨(some 33), none, .ixaSl 1 (.t 29) (.t 31)⟩, ⟨(some 34), none, .load false 1 (.t 33)⟩, ⟨(some 9), none, .mv (.t 34)⟩])
    (.seq (.region [⟨(some 36), none, .mv (.t 9)⟩, ⟨(some 37), none, .call i_token_Pair [(.t 36)]⟩, ⟨(some 35), none, .mv (.t 37)⟩, ⟨(some 38), none, .ext 0 (.t 35)⟩, ⟨(some 39), none, .ext 1 (.t 35)⟩, ⟨(some 40), none, .ext 2 (.t 35)⟩, ⟨(some 41), none, .ext 3 (.t 35)⟩, ⟨(some 10), none, .mv (.t 38)⟩, ⟨(some 11), none, .mv (.t 39)⟩, ⟨(some 12), none, .mv (.t 40)⟩, ⟨(some 13), none, .mv (.t 41)⟩])
    (.seq (.region [⟨(some 42), none, .mv (.t 7)⟩, ⟨(some 43), none, .mv (.t 10)⟩, ⟨(some 44), none, .call i_token_Lower [(.t 43)]⟩, ⟨(some 45), none, .lookup .s (.agg [.nfn, .nfn, (.int .i64 0), (.int .i64 0)]) false (.t 42) (.t 44)⟩, ⟨(some 14), none, .boxz [.nfn, .nfn, (.int .i64 0), (.int .i64 0)]⟩, ⟨none, none, .store 4 (.t 14) (.t 45)⟩])
    (.block 2 (.seq (.region [⟨(some 47), none, .faddr 0 (.t 14)⟩, ⟨(some 48), none, .load false 1 (.t 47)⟩, ⟨(some 49), none, .eq (.nil 2) true (.t 48) (.c .nfn)⟩, ⟨(some 46), none, .mv (.t 49)⟩])
    (.cond (.t 46)
      (.region [⟨(some 50), none, .faddr 0 (.t 14)⟩, ⟨(some 51), none, .load false 1 (.t 50)⟩, ⟨(some 52), none, .callv (.t 51) [(.t 4)]⟩])
      (.seq (.region [⟨(some 54), none, .faddr 1 (.t 14)⟩, ⟨(some 55), none, .load false 1 (.t 54)⟩, ⟨(some 56), none, .eq (.nil 2) true (.t 55) (.c .nfn)⟩, ⟨(some 53), none, .mv (.t 56)⟩])
      (.cond (.t 53)
        (.seq (.dregion [⟨(some 57), none, .faddr 1 (.t 14)⟩, ⟨(some 58), none, .load false 1 (.t 57)⟩, ⟨(some 59), none, .callv (.t 58) [(.t 4)]⟩, ⟨(some 60), none, .load true 4 (.t 14)⟩, ⟨(some 61), none, .mv (.t 11)⟩, ⟨(some 62), none, .mv (.t 12)⟩] [⟨(some 63), none, .call i__gatepost_control_rule__value [(.t 60), (.t 61), (.t 62)]⟩, ⟨(some 15), none, .mv (.t 59)⟩, ⟨(some 16), none, .mv (.t 63)⟩])
        (.seq (.region [⟨(some 64), none, .mv (.t 16)⟩, ⟨(some 65), none, .bin .neq (.t 64) (.c (.int .i64 (-1)))⟩, ⟨(some 66), none, .mv (.t 65)⟩, ⟨(some 67), (some (66, true)), .mv (.t 15)⟩, ⟨(some 68), (some (66, true)), .nilck (.t 67)⟩, ⟨(some 69), (some (66, true)), .load false 1 (.t 68)⟩, ⟨(some 70), (some (66, true)), .bin .eql (.t 69) (.c (.int .i64 (-1)))⟩, ⟨(some 71), (some (66, true)), .mv (.t 70)⟩, ⟨(some 72), (some (71, false)), .mv (.t 16)⟩, ⟨(some 73), (some (71, false)), .mv (.t 15)⟩, ⟨(some 74), (some (71, false)), .nilck (.t 73)⟩, ⟨(some 75), (some (71, false)), .load false 1 (.t 74)⟩, ⟨(some 76), (some (71, false)), .bin .lss (.t 72) (.t 75)⟩, ⟨(some 77), (some (66, true)), .pick (.t 71) (.c (.bool true)) (.t 76)⟩, ⟨(some 78), none, .pick (.t 66) (.t 77) (.c (.bool false))⟩])
        (.cond (.t 78)
          (.region [⟨(some 79), none, .mv (.t 15)⟩, ⟨(some 80), none, .mv (.t 16)⟩, ⟨(some 81), none, .nilck (.t 79)⟩, ⟨none, none, .store 1 (.t 81) (.t 80)⟩])
          .skip)))
        .skip)))))))))
    (.region [⟨(some 82), none, .bin .add (.t 31) (.c (.int .i64 1))⟩, ⟨(some 31), none, .mv (.t 82)⟩])))))))
  (.seq (.region [⟨(some 83), none, .load true 13 (.t 4)⟩, ⟨none, none, .store 13 (.t 2) (.t 83)⟩, ⟨(some 3), none, .mv (.c (.bool true))⟩])
  .ret)))))))⟩
/-- gatepost/control.nothing -/
def c_control_nothing : FnC := ⟨2, [.cell 0 true 13],
  (.seq (.region [⟨(some 0), none, .boxz [(.bool false), (.bool false), (.bool false), (.bool false), (.bool false), (.bool false), (.bool false), (.int .i64 0), (.int .i64 0), (.int .i64 0), (.int .i64 0), (.int .i64 0), (.int .i64 0)]⟩])
  (.seq (.region [⟨(some 1), none, .build [(.bool false), (.bool false), (.bool false), (.bool false), (.bool false), (.bool false), (.bool false), (.int .i64 0), (.int .i64 0), (.int .i64 0), (.int .i64 0), (.int .i64 0), (.int .i64 0)] [(7, 1, (.c (.int .i64 (-1)))), (8, 1, (.c (.int .i64 (-1)))), (9, 1, (.c (.int .i64 (-1)))), (10, 1, (.c (.int .i64 (-1)))), (11, 1, (.c (.int .i64 (-1)))), (12, 1, (.c (.int .i64 (-1))))]⟩, ⟨none, none, .store 13 (.t 0) (.t 1)⟩])
  .ret))⟩
/-- slices.Contains[[]string,string] -/
def c_slices_Contains___string_string_ : FnC := ⟨9, [.tmp 4],
  (.seq (.region [⟨(some 4), none, .mv (.c (.bool false))⟩])
  (.seq (.region [⟨(some 5), none, .mv (.t 0)⟩, ⟨(some 6), none, .mv (.t 1)⟩, ⟨(some 7), none, .call i_slices_Index___string_string_ [(.t 5), (.t 6)]⟩, ⟨(some 8), none, .bin .geq (.t 7) (.c (.int .i64 0))⟩, ⟨(some 4), none, .mv (.t 8)⟩])
  .ret))⟩
/-- gatepost/date.Parse -/
def c_date_Parse : FnC := ⟨23, [.tmp 2, .tmp 3],
  (.seq (.region [⟨(some 2), none, .mv (.c (.int .i64 0))⟩, ⟨(some 3), none, .mv (.c (.bool false))⟩])
  (.seq (.seq (.region [⟨(some 8), none, .build [.nfn, .nfn, .nfn] [(0, 1, (.c (.fn i_date_fixed []))), (1, 1, (.c (.fn i_date_old []))), (2, 1, (.c (.fn i_date_plain [])))]⟩, ⟨(some 9), none, .mv (.c (.int .i64 0))⟩])
  (.block 0 (.loop
    (.seq (.region [⟨(some 10), none, .bin .lss (.t 9) (.c (.int .i64 3))⟩])
    (.seq (.cond (.t 10)
      .skip
      (.exit 0))
    (.seq (.block 1 (.seq (.region [⟨(some 11), none, .ixArr 3 1 false (.t 8) (.t 9)⟩, ⟨(some 5), none, .mv (.t 11)⟩])
    (.seq (.region [⟨(some 13), none, .mv (.t 5)⟩, ⟨(some 14), none, .mv (.t 0)⟩, ⟨(some 15), none, .build [(.str []), (.bool false)] [(0, 1, (.t 14)), (1, 1, (.c (.bool true)))]⟩, ⟨(some 16), none, .box (.t 15)⟩, ⟨(some 17), none, .callv (.t 13) [(.t 16)]⟩, ⟨(some 12), none, .mv (.t 17)⟩, ⟨(some 18), none, .ext 0 (.t 12)⟩, ⟨(some 19), none, .ext 1 (.t 12)⟩, ⟨(some 6), none, .mv (.t 18)⟩, ⟨(some 7), none, .mv (.t 19)⟩])
    (.seq (.region [⟨(some 20), none, .mv (.t 7)⟩])
    (.cond (.t 20)
      (.seq (.region [⟨(some 21), none, .mv (.t 6)⟩, ⟨(some 2), none, .mv (.t 21)⟩, ⟨(some 3), none, .mv (.c (.bool true))⟩])
      .ret)
      .skip)))))
    (.region [⟨(some 22), none, .bin .add (.t 9) (.c (.int .i64 1))⟩, ⟨(some 9), none, .mv (.t 22)⟩])))))))
  (.seq (.region [⟨(some 2), none, .mv (.c (.int .i64 0))⟩, ⟨(some 3), none, .mv (.c (.bool false))⟩])
  .ret)))⟩
/-- gatepost/token.Split$1 -/
def c_token_Split_1 : FnC := ⟨19, [],
  (.seq (.seq (.region [⟨(some 6), none, .load false 1 (.t 1)⟩, ⟨(some 7), none, .load false 1 (.t 2)⟩, ⟨(some 8), none, .mv (.t 0)⟩, ⟨(some 9), none, .slstr (.t 6) (some (.t 7)) (some (.t 8))⟩, ⟨(some 10), none, .call i_token_Trim [(.t 9)]⟩, ⟨(some 5), none, .mv (.t 10)⟩])
  (.seq (.region [⟨(some 11), none, .mv (.t 5)⟩, ⟨(some 12), none, .bin .neq (.t 11) (.c (.str []))⟩])
  (.cond (.t 12)
    (.region [⟨(some 13), none, .load false 1 (.t 3)⟩, ⟨(some 14), none, .mv (.t 5)⟩, ⟨(some 15), none, .bsl 1 [(.t 14)]⟩, ⟨(some 16), none, .app 1 16 false (.t 13) (.t 15)⟩, ⟨none, none, .store 1 (.t 3) (.t 16)⟩])
    .skip)))
  (.region [⟨(some 17), none, .mv (.t 0)⟩, ⟨(some 18), none, .bin .add (.t 17) (.c (.int .i64 1))⟩, ⟨none, none, .store 1 (.t 2) (.t 18)⟩]))⟩
/-- gatepost/token.Trim -/
def c_token_Trim : FnC := ⟨5, [.tmp 2],
  (.seq (.region [⟨(some 2), none, .mv (.c (.str []))⟩])
  (.seq (.region [⟨(some 3), none, .mv (.t 0)⟩, ⟨(some 4), none, .call i_strings_Trim [(.t 3), (.c (.str [32, 9]))]⟩, ⟨(some 2), none, .mv (.t 4)⟩])
  .ret))⟩
/-- gatepost/token.all -/
def c_token_all : FnC := ⟨18, [.tmp 4],
  (.seq (.region [⟨(some 4), none, .mv (.c (.bool false))⟩])
  (.seq (.seq (.region [⟨(some 6), none, .mv (.t 0)⟩, ⟨(some 7), none, .len 0 (.t 6)⟩, ⟨(some 8), none, .mv (.c (.int .i64 0))⟩])
  (.block 0 (.loop
    (.seq (.region [⟨(some 9), none, .bin .lss (.t 8) (.t 7)⟩])
    (.seq (.cond (.t 9)
      .skip
      (.exit 0))
    (.seq (.block 1 (.seq (.region [⟨(some 10), none, .mv (.t 8)⟩, ⟨(some 5), none, .mv (.t 10)⟩])
    (.seq (.region [⟨(some 11), none, .mv (.t 1)⟩, ⟨(some 12), none, .mv (.t 0)⟩, ⟨(some 13), none, .mv (.t 5)⟩, ⟨(some 14), none, .ixStr (.t 12) (.t 13)⟩, ⟨(some 15), none, .callv (.t 11) [(.t 14)]⟩, ⟨(some 16), none, .un .not (.t 15)⟩])
    (.cond (.t 16)
      (.seq (.region [⟨(some 4), none, .mv (.c (.bool false))⟩])
      .ret)
      .skip))))
    (.region [⟨(some 17), none, .bin .add (.t 8) (.c (.int .i64 1))⟩, ⟨(some 8), none, .mv (.t 17)⟩])))))))
  (.seq (.region [⟨(some 4), none, .mv (.c (.bool true))⟩])
  .ret)))⟩
/-- gatepost/token.Number$1 -/
def c_token_Number_1 : FnC := ⟨9, [.tmp 2],
  (.seq (.region [⟨(some 2), none, .mv (.c (.bool false))⟩])
  (.seq (.region [⟨(some 3), none, .mv (.t 0)⟩, ⟨(some 4), none, .bin .geq (.t 3) (.c (.int .u8 48))⟩, ⟨(some 5), none, .mv (.t 4)⟩, ⟨(some 6), (some (5, true)), .mv (.t 0)⟩, ⟨(some 7), (some (5, true)), .bin .leq (.t 6) (.c (.int .u8 57))⟩, ⟨(some 8), none, .pick (.t 5) (.t 7) (.c (.bool false))⟩, ⟨(some 2), none, .mv (.t 8)⟩])
  .ret))⟩
/-- gatepost/gatepostref08.Parse -/
def c_gatepostref08_Parse : FnC := ⟨132, [.cell 2 true 13, .tmp 3],
  (.seq (.region [⟨(some 2), none, .boxz [(.bool false), (.bool false), (.bool false), (.bool false), (.bool false), (.bool false), (.bool false), (.int .i64 0), (.int .i64 0), (.int .i64 0), (.int .i64 0), (.int .i64 0), (.int .i64 0)]⟩, ⟨(some 3), none, .mv (.c (.bool false))⟩])
  (.seq (.region [⟨(some 14), none, .call i_gatepostref08_None []⟩, ⟨(some 4), none, .boxz [(.bool false), (.bool false), (.bool false), (.bool false), (.bool false), (.bool false), (.bool false), (.int .i64 0), (.int .i64 0), (.int .i64 0), (.int .i64 0), (.int .i64 0), (.int .i64 0)]⟩, ⟨none, none, .store 13 (.t 4) (.t 14)⟩])
  (.seq (.region [⟨(some 16), none, .mv (.t 0)⟩, ⟨(some 17), none, .call i_gatepostref01_Split [(.t 16)]⟩, ⟨(some 15), none, .mv (.t 17)⟩, ⟨(some 18), none, .ext 0 (.t 15)⟩, ⟨(some 19), none, .ext 1 (.t 15)⟩, ⟨(some 5), none, .mv (.t 18)⟩, ⟨(some 6), none, .mv (.t 19)⟩])
  (.seq (.seq (.region [⟨(some 20), none, .mv (.t 6)⟩, ⟨(some 21), none, .un .not (.t 20)⟩])
  (.cond (.t 21)
    (.seq (.region [⟨(some 22), none, .faddr 0 (.t 4)⟩, ⟨none, none, .store 1 (.t 22) (.c (.bool true))⟩])
    (.seq (.region [⟨(some 23), none, .faddr 1 (.t 4)⟩, ⟨none, none, .store 1 (.t 23) (.c (.bool true))⟩])
    (.seq (.region [⟨(some 24), none, .load true 13 (.t 4)⟩, ⟨none, none, .store 13 (.t 2) (.t 24)⟩, ⟨(some 3), none, .mv (.c (.bool false))⟩])
    .ret)))
    .skip))
  (.seq (.seq (.region [⟨(some 7), none, .mv (.c (.int .i64 0))⟩])
  (.block 0 (.loop
    (.seq (.seq (.region [⟨(some 25), none, .mv (.t 7)⟩, ⟨(some 26), none, .mv (.t 5)⟩, ⟨(some 27), none, .len 1 (.t 26)⟩, ⟨(some 28), none, .bin .lss (.t 25) (.t 27)⟩])
    (.cond (.t 28)
      .skip
      (.exit 0)))
    (.seq (.block 1 (.seq (.region [⟨(some 32), none, .mv (.t 5)⟩, ⟨(some 33), none, .mv (.t 7)⟩, ⟨(some 34), none, .ixaSl 1 (.t 32) (.t 33)⟩, ⟨(some 35), none, .load false 1 (.t 34)⟩, ⟨(some 36), none, .call i_gatepostref01_Pair [(.t 35)]⟩, ⟨(some 31), none, .mv (.t 36)⟩, ⟨(some 37), none, .ext 0 (.t 31)⟩, ⟨(some 38), none, .ext 1 (.t 31)⟩, ⟨(some 39), none, .ext 2 (.t 31)⟩, ⟨(some 40), none, .ext 3 (.t 31)⟩, ⟨(some 8), none, .mv (.t 37)⟩, ⟨(some 9), none, .mv (.t 38)⟩, ⟨(some 10), none, .mv (.t 39)⟩, ⟨(some 11), none, .mv (.t 40)⟩])
    (.seq (.seq (.region [⟨(some 41), none, .mv (.t 11)⟩, ⟨(some 42), none, .un .not (.t 41)⟩])
    (.cond (.t 42)
      (.exit 1)
      .skip))
    (.seq (.region [⟨(some 44), none, .mv (.t 9)⟩, ⟨(some 45), none, .call i_gatepostref01_Number [(.t 44), (.c (.int .i64 2147483648))]⟩, ⟨(some 43), none, .mv (.t 45)⟩, ⟨(some 46), none, .ext 0 (.t 43)⟩, ⟨(some 47), none, .ext 1 (.t 43)⟩, ⟨(some 12), none, .mv (.t 46)⟩, ⟨(some 13), none, .mv (.t 47)⟩])
    (.seq (.region [⟨(some 48), none, .mv (.t 13)⟩, ⟨(some 49), none, .mv (.t 48)⟩, ⟨(some 50), (some (49, true)), .mv (.t 10)⟩, ⟨(some 51), none, .pick (.t 49) (.t 50) (.c (.bool false))⟩, ⟨(some 13), none, .mv (.t 51)⟩])
    (.seq (.region [⟨(some 52), none, .mv (.t 8)⟩, ⟨(some 53), none, .call i_gatepostref01_Lower [(.t 52)]⟩])
    (.block 2 (.seq (.region [⟨(some 55), none, .bin .eql (.t 53) (.c (.str [110, 111, 45, 115, 116, 111, 114, 101]))⟩, ⟨(some 54), none, .mv (.t 55)⟩])
    (.cond (.t 54)
      (.region [⟨(some 56), none, .faddr 0 (.t 4)⟩, ⟨none, none, .store 1 (.t 56) (.c (.bool true))⟩])
      (.seq (.region [⟨(some 58), none, .bin .eql (.t 53) (.c (.str [110, 111, 45, 99, 97, 99, 104, 101]))⟩, ⟨(some 57), none, .mv (.t 58)⟩])
      (.cond (.t 57)
        (.region [⟨(some 59), none, .faddr 1 (.t 4)⟩, ⟨none, none, .store 1 (.t 59) (.c (.bool true))⟩])
        (.seq (.region [⟨(some 61), none, .bin .eql (.t 53) (.c (.str [112, 114, 105, 118, 97, 116, 101]))⟩, ⟨(some 60), none, .mv (.t 61)⟩])
        (.cond (.t 60)
          (.region [⟨(some 62), none, .faddr 2 (.t 4)⟩, ⟨none, none, .store 1 (.t 62) (.c (.bool true))⟩])
          (.seq (.region [⟨(some 64), none, .bin .eql (.t 53) (.c (.str [112, 117, 98, 108, 105, 99]))⟩, ⟨(some 63), none, .mv (.t 64)⟩])
          (.cond (.t 63)
            (.region [⟨(some 65), none, .faddr 3 (.t 4)⟩, ⟨none, none, .store 1 (.t 65) (.c (.bool true))⟩])
            (.seq (.region [⟨(some 67), none, .bin .eql (.t 53) (.c (.str [109, 117, 115, 116, 45, 114, 101, 118, 97, 108, 105, 100, 97, 116, 101]))⟩, ⟨(some 66), none, .mv (.t 67)⟩])
            (.cond (.t 66)
              (.region [⟨(some 68), none, .faddr 4 (.t 4)⟩, ⟨none, none, .store 1 (.t 68) (.c (.bool true))⟩])
              (.seq (.region [⟨(some 70), none, .bin .eql (.t 53) (.c (.str [112, 114, 111, 120, 121, 45, 114, 101, 118, 97, 108, 105, 100, 97, 116, 101]))⟩, ⟨(some 69), none, .mv (.t 70)⟩])
              (.cond (.t 69)
                (.region [⟨(some 71), none, .faddr 5 (.t 4)⟩, ⟨none, none, .store 1 (.t 71) (.c (.bool true))⟩])
                (.seq (.region [⟨(some 73), none, .bin .eql (.t 53) (.c (.str [111, 110, 108, 121, 45, 105, 102, 45, 99, 97, 99, 104, 101, 100]))⟩, ⟨(some 72), none, .mv (.t 73)⟩])
                (.cond (.t 72)
                  (.region [⟨(some 74), none, .faddr 6 (.t 4)⟩, ⟨none, none, .store 1 (.t 74) (.c (.bool true))⟩])
                  (.seq (.region [⟨(some 76), none, .bin .eql (.t 53) (.c (.str [109, 97, 120, 45, 97, 103, 101]))⟩, ⟨(some 75), none, .mv (.t 76)⟩])
                  (.cond (.t 75)
                    (.seq (.seq (.region [⟨(some 77), none, .mv (.t 13)⟩, ⟨(some 78), none, .un .not (.t 77)⟩])
                    (.cond (.t 78)
                      (.region [⟨(some 12), none, .mv (.c (.int .i64 0))⟩])
                      .skip))
                    (.region [⟨(some 79), none, .faddr 7 (.t 4)⟩, ⟨(some 80), none, .load false 1 (.t 79)⟩, ⟨(some 81), none, .mv (.t 12)⟩, ⟨(some 82), none, .call i_gatepostref08_least [(.t 80), (.t 81)]⟩, ⟨(some 83), none, .faddr 7 (.t 4)⟩, ⟨none, none, .store 1 (.t 83) (.t 82)⟩]))
                    (.seq (.region [⟨(some 85), none, .bin .eql (.t 53) (.c (.str [115, 45, 109, 97, 120, 97, 103, 101]))⟩, ⟨(some 84), none, .mv (.t 85)⟩])
                    (.cond (.t 84)
                      (.seq (.seq (.region [⟨(some 86), none, .mv (.t 13)⟩, ⟨(some 87), none, .un .not (.t 86)⟩])
                      (.cond (.t 87)
                        (.region [⟨(some 12), none, .mv (.c (.int .i64 0))⟩])
                        .skip))
                      (.region [⟨(some 88), none, .faddr 8 (.t 4)⟩, ⟨(some 89), none, .load false 1 (.t 88)⟩, ⟨(some 90), none, .mv (.t 12)⟩, ⟨(some 91), none, .call i_gatepostref08_least [(.t 89), (.t 90)]⟩, ⟨(some 92), none, .faddr 8 (.t 4)⟩, ⟨none, none, .store 1 (.t 92) (.t 91)⟩]))
                      (.seq (.region [⟨(some 94), none, .bin .eql (.t 53) (.c (.str [115, 116, 97, 108, 101, 45, 119, 104, 105, 108, 101, 45, 114, 101, 118, 97, 108, 105, 100, 97, 116, 101]))⟩, ⟨(some 93), none, .mv (.t 94)⟩])
                      (.cond (.t 93)
                        (.seq (.region [⟨(some 95), none, .mv (.t 13)⟩])
                        (.cond (.t 95)
                          (.region [⟨(some 96), none, .faddr 9 (.t 4)⟩, ⟨(some 97), none, .load false 1 (.t 96)⟩, ⟨(some 98), none, .mv (.t 12)⟩, ⟨(some 99), none, .call i_gatepostref08_least [(.t 97), (.t 98)]⟩, ⟨(some 100), none, .faddr 9 (.t 4)⟩, ⟨none, none, .store 1 (.t 100) (.t 99)⟩])
                          .skip))
                        (.seq (.region [⟨(some 102), none, .bin .eql (.t 53) (.c (.str [115, 116, 97, 108, 101, 45, 105, 102, 45, 101, 114, 114, 111, 114]))⟩, ⟨(some 101), none, .mv (.t 102)⟩])
                        (.cond (.t 101)
                          (.seq (.region [⟨(some 103), none, .mv (.t 13)⟩])
                          (.cond (.t 103)
                            (.region [⟨(some 104), none, .faddr 10 (.t 4)⟩, ⟨(some 105), none, .load false 1 (.t 104)⟩, ⟨(some 106), none, .mv (.t 12)⟩, ⟨(some 107), none, .call i_gatepostref08_least [(.t 105), (.t 106)]⟩, ⟨(some 108), none, .faddr 10 (.t 4)⟩, ⟨none, none, .store 1 (.t 108) (.t 107)⟩])
                            .skip))
                          (.seq (.region [⟨(some 110), none, .bin .eql (.t 53) (.c (.str [109, 105, 110, 45, 102, 114, 101, 115, 104]))⟩, ⟨(some 109), none, .mv (.t 110)⟩])
                          (.cond (.t 109)
                            (.seq (.region [⟨(some 111), none, .mv (.t 13)⟩])
                            (.cond (.t 111)
                              (.region [⟨(some 112), none, .faddr 11 (.t 4)⟩, ⟨(some 113), none, .load false 1 (.t 112)⟩, ⟨(some 114), none, .mv (.t 12)⟩, ⟨(some 115), none, .call i_gatepostref08_least [(.t 113), (.t 114)]⟩, ⟨(some 116), none, .faddr 11 (.t 4)⟩, ⟨none, none, .store 1 (.t 116) (.t 115)⟩])
                              .skip))
                            (.seq (.region [⟨(some 118), none, .bin .eql (.t 53) (.c (.str [109, 97, 120, 45, 115, 116, 97, 108, 101]))⟩, ⟨(some 117), none, .mv (.t 118)⟩])
                            (.cond (.t 117)
                              (.seq (.region [⟨(some 119), none, .mv (.t 10)⟩, ⟨(some 120), none, .un .not (.t 119)⟩])
                              (.cond (.t 120)
                                (.region [⟨(some 121), none, .faddr 12 (.t 4)⟩, ⟨(some 122), none, .load false 1 (.t 121)⟩, ⟨(some 123), none, .call i_gatepostref08_least [(.t 122), (.c (.int .i64 2147483648))]⟩, ⟨(some 124), none, .faddr 12 (.t 4)⟩, ⟨none, none, .store 1 (.t 124) (.t 123)⟩])
                                (.seq (.region [⟨(some 125), none, .mv (.t 13)⟩])
                                (.cond (.t 125)
                                  (.region [⟨(some 126), none, .faddr 12 (.t 4)⟩, ⟨(some 127), none, .load false 1 (.t 126)⟩, ⟨(some 128), none, .mv (.t 12)⟩, ⟨(some 129), none, .call i_gatepostref08_least [(.t 127), (.t 128)]⟩, ⟨(some 130), none, .faddr 12 (.t 4)⟩, ⟨none, none, .store 1 (.t 130) (.t 129)⟩])
                                  .skip))))
                              .skip)))))))))))))))))))))))))))))))))
    (.region [⟨(some 29), none, .mv (.t 7)⟩, ⟨(some 30), none, .bin .add (.t 29) (.c (.int .i64 1))⟩, ⟨(some 7), none, .mv (.t 30)⟩]))))))
  (.seq (.region [⟨(some 131), none, .load true 13 (.t 4)⟩, ⟨none, none, .store 13 (.t 2) (.t 131)⟩, ⟨(some 3), none, .mv (.c (.bool true))⟩])
  .ret))))))⟩
/-- gatepost/gatepostref08.None -/
def c_gatepostref08_None : FnC := ⟨2, [.cell 0 true 13],
  (.seq (.region [⟨(some 0), none, .boxz [(.bool false), (.bool false), (.bool false), (.bool false), (.bool false), (.bool false), (.bool false), (.int .i64 0), (.int .i64 0), (.int .i64 0), (.int .i64 0), (.int .i64 0), (.int .i64 0)]⟩])
  (.seq (.region [⟨(some 1), none, .build [(.bool false), (.bool false), (.bool false), (.bool false), (.bool false), (.bool false), (.bool false), (.int .i64 0), (.int .i64 0), (.int .i64 0), (.int .i64 0), (.int .i64 0), (.int .i64 0)] [(7, 1, (.c (.int .i64 (-1)))), (8, 1, (.c (.int .i64 (-1)))), (9, 1, (.c (.int .i64 (-1)))), (10, 1, (.c (.int .i64 (-1)))), (11, 1, (.c (.int .i64 (-1)))), (12, 1, (.c (.int .i64 (-1))))]⟩, ⟨none, none, .store 13 (.t 0) (.t 1)⟩])
  .ret))⟩
/-- gatepost/gatepostref01.Lower -/
def c_gatepostref01_Lower : FnC := ⟨29, [.tmp 2],
  (.seq (.region [⟨(some 2), none, .mv (.c (.str []))⟩])
  (.seq (.region [⟨(some 3), none, .mv (.c (.str []))⟩])
  (.seq (.seq (.region [⟨(some 4), none, .mv (.c (.int .i64 0))⟩])
  (.block 0 (.loop
    (.seq (.seq (.region [⟨(some 6), none, .mv (.t 4)⟩, ⟨(some 7), none, .mv (.t 0)⟩, ⟨(some 8), none, .len 0 (.t 7)⟩, ⟨(some 9), none, .bin .lss (.t 6) (.t 8)⟩])
    (.cond (.t 9)
      .skip
      (.exit 0)))
    (.seq (.block 1 (.seq (.region [⟨(some 12), none, .mv (.t 0)⟩, ⟨(some 13), none, .mv (.t 4)⟩, ⟨(some 14), none, .ixStr (.t 12) (.t 13)⟩, ⟨(some 5), none, .mv (.t 14)⟩])
    (.seq (.seq (.region [⟨(some 15), none, .mv (.t 5)⟩, ⟨(some 16), none, .bin .geq (.t 15) (.c (.int .u8 65))⟩, ⟨(some 17), none, .mv (.t 16)⟩, ⟨(some 18), (some (17, true)), .mv (.t 5)⟩, ⟨(some 19), (some (17, true)), .bin .leq (.t 18) (.c (.int .u8 90))⟩, ⟨(some 20), none, .pick (.t 17) (.t 19) (.c (.bool false))⟩])
    (.cond (.t 20)
      (.region [⟨(some 21), none, .mv (.t 5)⟩, ⟨(some 22), none, .bin .add (.t 21) (.c (.int .u8 32))⟩, ⟨(some 5), none, .mv (.t 22)⟩])
      .skip))
    (.region [⟨(some 23), none, .mv (.t 3)⟩, ⟨(some 24), none, .mv (.t 5)⟩, ⟨(some 25), none, .bsl 1 [(.t 24)]⟩, ⟨(some 26), none, .toStr (.t 25)⟩, ⟨(some 27), none, .bin .add (.t 23) (.t 26)⟩, ⟨(some 3), none, .mv (.t 27)⟩]))))
    (.region [⟨(some 10), none, .mv (.t 4)⟩, ⟨(some 11), none, .bin .add (.t 10) (.c (.int .i64 1))⟩, ⟨(some 4), none, .mv (.t 11)⟩]))))))
  (.seq (.region [⟨(some 28), none, .mv (.t 3)⟩, ⟨(some 2), none, .mv (.t 28)⟩])
  .ret))))⟩
/-- gatepost/gatepostref02.Parse -/
def c_gatepostref02_Parse : FnC := ⟨187, [.tmp 2, .tmp 3],
  (.seq (.region [⟨(some 2), none, .mv (.c (.int .i64 0))⟩, ⟨(some 3), none, .mv (.c (.bool false))⟩])
  (.seq (.seq (.region [⟨(some 10), none, .mv (.t 0)⟩, ⟨(some 11), none, .len 0 (.t 10)⟩, ⟨(some 12), none, .bin .eql (.t 11) (.c (.int .i64 29))⟩, ⟨(some 13), none, .mv (.t 12)⟩, ⟨(some 14), (some (13, true)), .mv (.t 0)⟩, ⟨(some 15), (some (13, true)), .slstr (.t 14) (some (.c (.int .i64 3))) (some (.c (.int .i64 5)))⟩, ⟨(some 16), (some (13, true)), .bin .eql (.t 15) (.c (.str [44, 32]))⟩, ⟨(some 17), none, .pick (.t 13) (.t 16) (.c (.bool false))⟩, ⟨(some 18), none, .mv (.t 17)⟩, ⟨(some 19), (some (18, true)), .mv (.t 0)⟩, ⟨(some 20), (some (18, true)), .ixStr (.t 19) (.c (.int .i64 7))⟩, ⟨(some 21), (some (18, true)), .bin .eql (.t 20) (.c (.int .u8 32))⟩, ⟨(some 22), none, .pick (.t 18) (.t 21) (.c (.bool false))⟩, ⟨(some 23), none, .mv (.t 22)⟩, ⟨(some 24), (some (23, true)), .mv (.t 0)⟩, ⟨(some 25), (some (23, true)), .ixStr (.t 24) (.c (.int .i64 11))⟩, ⟨(some 26), (some (23, true)), .bin .eql (.t 25) (.c (.int .u8 32))⟩, ⟨(some 27), none, .pick (.t 23) (.t 26) (.c (.bool false))⟩, ⟨(some 28), none, .mv (.t 27)⟩, ⟨(some 29), (some (28, true)), .mv (.t 0)⟩, ⟨(some 30), (some (28, true)), .ixStr (.t 29) (.c (.int .i64 16))⟩, ⟨(some 31), (some (28, true)), .bin .eql (.t 30) (.c (.int .u8 32))⟩, ⟨(some 32), none, .pick (.t 28) (.t 31) (.c (.bool false))⟩, ⟨(some 33), none, .mv (.t 32)⟩, ⟨(some 34), (some (33, true)), .mv (.t 0)⟩, ⟨(some 35), (some (33, true)), .slstr (.t 34) (some (.c (.int .i64 25))) none⟩, ⟨(some 36), (some (33, true)), .bin .eql (.t 35) (.c (.str [32, 71, 77, 84]))⟩, ⟨(some 37), none, .pick (.t 33) (.t 36) (.c (.bool false))⟩])
  (.cond (.t 37)
    (.seq (.dregion [⟨(some 38), none, .call i_gatepostref02_short []⟩, ⟨(some 39), none, .mv (.t 0)⟩, ⟨(some 40), none, .slstr (.t 39) none (some (.c (.int .i64 3)))⟩, ⟨(some 41), none, .call i_gatepostref02_find [(.t 38), (.t 40)]⟩, ⟨(some 42), none, .mv (.t 0)⟩, ⟨(some 43), none, .slstr (.t 42) (some (.c (.int .i64 12))) (some (.c (.int .i64 16)))⟩, ⟨(some 44), none, .call i_gatepostref02_number [(.t 43)]⟩, ⟨(some 45), none, .call i_gatepostref02_months []⟩, ⟨(some 46), none, .mv (.t 0)⟩, ⟨(some 47), none, .slstr (.t 46) (some (.c (.int .i64 8))) (some (.c (.int .i64 11)))⟩, ⟨(some 48), none, .call i_gatepostref02_find [(.t 45), (.t 47)]⟩, ⟨(some 49), none, .bin .add (.t 48) (.c (.int .i64 1))⟩, ⟨(some 50), none, .mv (.t 0)⟩, ⟨(some 51), none, .slstr (.t 50) (some (.c (.int .i64 5))) (some (.c (.int .i64 7)))⟩, ⟨(some 52), none, .call i_gatepostref02_number [(.t 51)]⟩, ⟨(some 53), none, .mv (.t 0)⟩, ⟨(some 54), none, .slstr (.t 53) (some (.c (.int .i64 17))) (some (.c (.int .i64 25)))⟩, ⟨(some 55), none, .call i_gatepostref02_clock [(.t 54)]⟩, ⟨(some 56), none, .call i_gatepostref02_second [(.t 41), (.t 44), (.t 49), (.t 52), (.t 55)]⟩, ⟨(some 57), none, .ext 0 (.t 56)⟩, ⟨(some 58), none, .ext 1 (.t 56)⟩] [⟨(some 2), none, .mv (.t 57)⟩, ⟨(some 3), none, .mv (.t 58)⟩])
    .ret)
    .skip))
  (.seq (.seq (.region [⟨(some 59), none, .mv (.t 0)⟩, ⟨(some 60), none, .len 0 (.t 59)⟩, ⟨(some 61), none, .bin .eql (.t 60) (.c (.int .i64 24))⟩, ⟨(some 62), none, .mv (.t 61)⟩, ⟨(some 63), (some (62, true)), .mv (.t 0)⟩, ⟨(some 64), (some (62, true)), .ixStr (.t 63) (.c (.int .i64 3))⟩, ⟨(some 65), (some (62, true)), .bin .eql (.t 64) (.c (.int .u8 32))⟩, ⟨(some 66), none, .pick (.t 62) (.t 65) (.c (.bool false))⟩, ⟨(some 67), none, .mv (.t 66)⟩, ⟨(some 68), (some (67, true)), .mv (.t 0)⟩, ⟨(some 69), (some (67, true)), .ixStr (.t 68) (.c (.int .i64 7))⟩, ⟨(some 70), (some (67, true)), .bin .eql (.t 69) (.c (.int .u8 32))⟩, ⟨(some 71), none, .pick (.t 67) (.t 70) (.c (.bool false))⟩, ⟨(some 72), none, .mv (.t 71)⟩, ⟨(some 73), (some (72, true)), .mv (.t 0)⟩, ⟨(some 74), (some (72, true)), .ixStr (.t 73) (.c (.int .i64 10))⟩, ⟨(some 75), (some (72, true)), .bin .eql (.t 74) (.c (.int .u8 32))⟩, ⟨(some 76), none, .pick (.t 72) (.t 75) (.c (.bool false))⟩, ⟨(some 77), none, .mv (.t 76)⟩, ⟨(some 78), (some (77, true)), .mv (.t 0)⟩, ⟨(some 79), (some (77, true)), .ixStr (.t 78) (.c (.int .i64 19))⟩, ⟨(some 80), (some (77, true)), .bin .eql (.t 79) (.c (.int .u8 32))⟩, ⟨(some 81), none, .pick (.t 77) (.t 80) (.c (.bool false))⟩])
  (.cond (.t 81)
    (.seq (.region [⟨(some 82), none, .mv (.t 0)⟩, ⟨(some 83), none, .slstr (.t 82) (some (.c (.int .i64 8))) (some (.c (.int .i64 10)))⟩, ⟨(some 4), none, .mv (.t 83)⟩])
    (.seq (.seq (.region [⟨(some 84), none, .mv (.t 4)⟩, ⟨(some 85), none, .ixStr (.t 84) (.c (.int .i64 0))⟩, ⟨(some 86), none, .bin .eql (.t 85) (.c (.int .u8 32))⟩])
    (.cond (.t 86)
      (.region [⟨(some 87), none, .mv (.t 4)⟩, ⟨(some 88), none, .slstr (.t 87) (some (.c (.int .i64 1))) none⟩, ⟨(some 4), none, .mv (.t 88)⟩])
      .skip))
    (.seq (.dregion [⟨(some 89), none, .call i_gatepostref02_short []⟩, ⟨(some 90), none, .mv (.t 0)⟩, ⟨(some 91), none, .slstr (.t 90) none (some (.c (.int .i64 3)))⟩, ⟨(some 92), none, .call i_gatepostref02_find [(.t 89), (.t 91)]⟩, ⟨(some 93), none, .mv (.t 0)⟩, ⟨(some 94), none, .slstr (.t 93) (some (.c (.int .i64 20))) none⟩, ⟨(some 95), none, .call i_gatepostref02_number [(.t 94)]⟩, ⟨(some 96), none, .call i_gatepostref02_months []⟩, ⟨(some 97), none, .mv (.t 0)⟩, ⟨(some 98), none, .slstr (.t 97) (some (.c (.int .i64 4))) (some (.c (.int .i64 7)))⟩, ⟨(some 99), none, .call i_gatepostref02_find [(.t 96), (.t 98)]⟩, ⟨(some 100), none, .bin .add (.t 99) (.c (.int .i64 1))⟩, ⟨(some 101), none, .mv (.t 4)⟩, ⟨(some 102), none, .call i_gatepostref02_number [(.t 101)]⟩, ⟨(some 103), none, .mv (.t 0)⟩, ⟨(some 104), none, .slstr (.t 103) (some (.c (.int .i64 11))) (some (.c (.int .i64 19)))⟩, ⟨(some 105), none, .call i_gatepostref02_clock [(.t 104)]⟩, ⟨(some 106), none, .call i_gatepostref02_second [(.t 92), (.t 95), (.t 100), (.t 102), (.t 105)]⟩, ⟨(some 107), none, .ext 0 (.t 106)⟩, ⟨(some 108), none, .ext 1 (.t 106)⟩] [⟨(some 2), none, .mv (.t 107)⟩, ⟨(some 3), none, .mv (.t 108)⟩])
    .ret)))
    .skip))
  (.seq (.region [⟨(some 109), none, .bsl 1 [(.c (.str [77, 111, 110, 100, 97, 121])), (.c (.str [84, 117, 101, 115, 100, 97, 121])), (.c (.str [87, 101, 100, 110, 101, 115, 100, 97, 121])), (.c (.str [84, 104, 117, 114, 115, 100, 97, 121])), (.c (.str [70, 114, 105, 100, 97, 121])), (.c (.str [83, 97, 116, 117, 114, 100, 97, 121])), (.c (.str [83, 117, 110, 100, 97, 121]))]⟩, ⟨(some 5), none, .mv (.t 109)⟩])
  (.seq (.seq (.region [⟨(some 6), none, .mv (.c (.int .i64 0))⟩])
  (.block 0 (.loop
    (.seq (.seq (.region [⟨(some 110), none, .mv (.t 6)⟩, ⟨(some 111), none, .bin .lss (.t 110) (.c (.int .i64 7))⟩])
    (.cond (.t 111)
      .skip
      (.exit 0)))
    (.seq (.block 1 (.seq (.region [⟨(some 114), none, .mv (.t 5)⟩, ⟨(some 115), none, .mv (.t 6)⟩, ⟨(some 116), none, .ixaSl 1 (.t 114) (.t 115)⟩, ⟨(some 117), none, .load false 1 (.t 116)⟩, ⟨(some 118), none, .len 0 (.t 117)⟩, ⟨(some 7), none, .mv (.t 118)⟩])
    (.seq (.seq (.dregion [⟨(some 119), none, .mv (.t 0)⟩, ⟨(some 120), none, .len 0 (.t 119)⟩, ⟨(some 121), none, .mv (.t 7)⟩, ⟨(some 122), none, .bin .add (.t 121) (.c (.int .i64 24))⟩, ⟨(some 123), none, .bin .neq (.t 120) (.t 122)⟩, ⟨(some 124), none, .mv (.t 123)⟩, ⟨(some 125), (some (124, false)), .mv (.t 0)⟩, ⟨(some 126), (some (124, false)), .mv (.t 7)⟩, ⟨(some 127), (some (124, false)), .slstr (.t 125) none (some (.t 126))⟩, ⟨(some 128), (some (124, false)), .mv (.t 5)⟩, ⟨(some 129), (some (124, false)), .mv (.t 6)⟩, ⟨(some 130), (some (124, false)), .ixaSl 1 (.t 128) (.t 129)⟩, ⟨(some 131), (some (124, false)), .load false 1 (.t 130)⟩] [⟨(some 132), (some (124, false)), .bin .neq (.t 127) (.t 131)⟩, ⟨(some 133), none, .pick (.t 124) (.c (.bool true)) (.t 132)⟩])
    (.cond (.t 133)
      (.exit 1)
      .skip))
    (.seq (.region [⟨(some 134), none, .mv (.t 0)⟩, ⟨(some 135), none, .mv (.t 7)⟩, ⟨(some 136), none, .slstr (.t 134) (some (.t 135)) none⟩, ⟨(some 8), none, .mv (.t 136)⟩])
    (.seq (.seq (.region [⟨(some 137), none, .mv (.t 8)⟩, ⟨(some 138), none, .slstr (.t 137) none (some (.c (.int .i64 2)))⟩, ⟨(some 139), none, .bin .neq (.t 138) (.c (.str [44, 32]))⟩, ⟨(some 140), none, .mv (.t 139)⟩, ⟨(some 141), (some (140, false)), .mv (.t 8)⟩, ⟨(some 142), (some (140, false)), .ixStr (.t 141) (.c (.int .i64 4))⟩, ⟨(some 143), (some (140, false)), .bin .neq (.t 142) (.c (.int .u8 45))⟩, ⟨(some 144), none, .pick (.t 140) (.c (.bool true)) (.t 143)⟩, ⟨(some 145), none, .mv (.t 144)⟩, ⟨(some 146), (some (145, false)), .mv (.t 8)⟩, ⟨(some 147), (some (145, false)), .ixStr (.t 146) (.c (.int .i64 8))⟩, ⟨(some 148), (some (145, false)), .bin .neq (.t 147) (.c (.int .u8 45))⟩, ⟨(some 149), none, .pick (.t 145) (.c (.bool true)) (.t 148)⟩, ⟨(some 150), none, .mv (.t 149)⟩, ⟨(some 151), (some (150, false)), .mv (.t 8)⟩, ⟨(some 152), (some (150, false)), .ixStr (.t 151) (.c (.int .i64 11))⟩, ⟨(some 153), (some (150, false)), .bin .neq (.t 152) (.c (.int .u8 32))⟩, ⟨(some 154), none, .pick (.t 150) (.c (.bool true)) (.t 153)⟩, ⟨(some 155), none, .mv (.t 154)⟩, ⟨(some 156), (some (155, false)), .mv (.t 8)⟩, ⟨(some 157), (some (155, false)), .slstr (.t 156) (some (.c (.int .i64 20))) none⟩, ⟨(some 158), (some (155, false)), .bin .neq (.t 157) (.c (.str [32, 71, 77, 84]))⟩, ⟨(some 159), none, .pick (.t 155) (.c (.bool true)) (.t 158)⟩])
    (.cond (.t 159)
      (.seq (.region [⟨(some 2), none, .mv (.c (.int .i64 0))⟩, ⟨(some 3), none, .mv (.c (.bool false))⟩])
      .ret)
      .skip))
    (.seq (.region [⟨(some 160), none, .mv (.t 8)⟩, ⟨(some 161), none, .slstr (.t 160) (some (.c (.int .i64 9))) (some (.c (.int .i64 11)))⟩, ⟨(some 162), none, .call i_gatepostref02_number [(.t 161)]⟩, ⟨(some 9), none, .mv (.t 162)⟩])
    (.seq (.seq (.region [⟨(some 163), none, .mv (.t 9)⟩, ⟨(some 164), none, .bin .geq (.t 163) (.c (.int .i64 70))⟩])
    (.cond (.t 164)
      (.region [⟨(some 165), none, .mv (.t 9)⟩, ⟨(some 166), none, .bin .add (.t 165) (.c (.int .i64 1900))⟩, ⟨(some 9), none, .mv (.t 166)⟩])
      (.seq (.region [⟨(some 167), none, .mv (.t 9)⟩, ⟨(some 168), none, .bin .geq (.t 167) (.c (.int .i64 0))⟩])
      (.cond (.t 168)
        (.region [⟨(some 169), none, .mv (.t 9)⟩, ⟨(some 170), none, .bin .add (.t 169) (.c (.int .i64 2000))⟩, ⟨(some 9), none, .mv (.t 170)⟩])
        .skip))))
    (.seq (.dregion [⟨(some 171), none, .mv (.t 6)⟩, ⟨(some 172), none, .mv (.t 9)⟩, ⟨(some 173), none, .call i_gatepostref02_months []⟩, ⟨(some 174), none, .mv (.t 8)⟩, ⟨(some 175), none, .slstr (.t 174) (some (.c (.int .i64 5))) (some (.c (.int .i64 8)))⟩, ⟨(some 176), none, .call i_gatepostref02_find [(.t 173), (.t 175)]⟩, ⟨(some 177), none, .bin .add (.t 176) (.c (.int .i64 1))⟩, ⟨(some 178), none, .mv (.t 8)⟩, ⟨(some 179), none, .slstr (.t 178) (some (.c (.int .i64 2))) (some (.c (.int .i64 4)))⟩, ⟨(some 180), none, .call i_gatepostref02_number [(.t 179)]⟩, ⟨(some 181), none, .mv (.t 8)⟩, ⟨(some 182), none, .slstr (.t 181) (some (.c (.int .i64 12))) (some (.c (.int .i64 20)))⟩, ⟨(some 183), none, .call i_gatepostref02_clock [(.t 182)]⟩, ⟨(some 184), none, .call i_gatepostref02_second [(.t 171), (.t 172), (.t 177), (.t 180), (.t 183)]⟩, ⟨(some 185), none, .ext 0 (.t 184)⟩, ⟨(some 186), none, .ext 1 (.t 184)⟩] [⟨(some 2), none, .mv (.t 185)⟩, ⟨(some 3), none, .mv (.t 186)⟩])
    .ret))))))))
    (.region [⟨(some 112), none, .mv (.t 6)⟩, ⟨(some 113), none, .bin .add (.t 112) (.c (.int .i64 1))⟩, ⟨(some 6), none, .mv (.t 113)⟩]))))))
  (.seq (.region [⟨(some 2), none, .mv (.c (.int .i64 0))⟩, ⟨(some 3), none, .mv (.c (.bool false))⟩])
  .ret))))))⟩
/-- gatepost/gatepostref01.Same -/
def c_gatepostref01_Same : FnC := ⟨10, [.tmp 4],
  (.seq (.region [⟨(some 4), none, .mv (.c (.bool false))⟩])
  (.seq (.region [⟨(some 5), none, .mv (.t 0)⟩, ⟨(some 6), none, .call i_gatepostref01_Lower [(.t 5)]⟩, ⟨(some 7), none, .mv (.t 1)⟩, ⟨(some 8), none, .call i_gatepostref01_Lower [(.t 7)]⟩, ⟨(some 9), none, .bin .eql (.t 6) (.t 8)⟩, ⟨(some 4), none, .mv (.t 9)⟩])
  .ret))⟩
/-- gatepost/gatepostref01.Trim -/
def c_gatepostref01_Trim : FnC := ⟨30, [.tmp 2],
  (.seq (.region [⟨(some 2), none, .mv (.c (.str []))⟩])
  (.seq (.block 0 (.loop
    (.seq (.seq (.region [⟨(some 3), none, .mv (.t 0)⟩, ⟨(some 4), none, .len 0 (.t 3)⟩, ⟨(some 5), none, .bin .gtr (.t 4) (.c (.int .i64 0))⟩, ⟨(some 6), none, .mv (.t 5)⟩, ⟨(some 7), (some (6, true)), .mv (.t 0)⟩, ⟨(some 8), (some (6, true)), .ixStr (.t 7) (.c (.int .i64 0))⟩, ⟨(some 9), (some (6, true)), .call i_gatepostref01_blank [(.t 8)]⟩, ⟨(some 10), none, .pick (.t 6) (.t 9) (.c (.bool false))⟩])
    (.cond (.t 10)
      .skip
      (.exit 0)))
    (.block 1 (.region [⟨(some 11), none, .mv (.t 0)⟩, ⟨(some 12), none, .slstr (.t 11) (some (.c (.int .i64 1))) none⟩, ⟨(some 0), none, .mv (.t 12)⟩])))))
  (.seq (.block 2 (.loop
    (.seq (.seq (.region [⟨(some 13), none, .mv (.t 0)⟩, ⟨(some 14), none, .len 0 (.t 13)⟩, ⟨(some 15), none, .bin .gtr (.t 14) (.c (.int .i64 0))⟩, ⟨(some 16), none, .mv (.t 15)⟩, ⟨(some 17), (some (16, true)), .mv (.t 0)⟩, ⟨(some 18), (some (16, true)), .mv (.t 0)⟩, ⟨(some 19), (some (16, true)), .len 0 (.t 18)⟩, ⟨(some 20), (some (16, true)), .bin .sub (.t 19) (.c (.int .i64 1))⟩, ⟨(some 21), (some (16, true)), .ixStr (.t 17) (.t 20)⟩, ⟨(some 22), (some (16, true)), .call i_gatepostref01_blank [(.t 21)]⟩, ⟨(some 23), none, .pick (.t 16) (.t 22) (.c (.bool false))⟩])
    (.cond (.t 23)
      .skip
      (.exit 2)))
    (.block 3 (.region [⟨(some 24), none, .mv (.t 0)⟩, ⟨(some 25), none, .mv (.t 0)⟩, ⟨(some 26), none, .len 0 (.t 25)⟩, ⟨(some 27), none, .bin .sub (.t 26) (.c (.int .i64 1))⟩, ⟨(some 28), none, .slstr (.t 24) none (some (.t 27))⟩, ⟨(some 0), none, .mv (.t 28)⟩])))))
  (.seq (.region [⟨(some 29), none, .mv (.t 0)⟩, ⟨(some 2), none, .mv (.t 29)⟩])
  .ret))))⟩
/-- gatepost/fresh.keeps -/
def c_fresh_keeps : FnC := ⟨2, [.cell 0 true 12],
  (.seq (.region [⟨(some 0), none, .boxz [(.int .i64 0), (.int .i64 0), (.int .i64 0), (.int .i64 0), (.int .i64 0), (.int .i64 0), (.int .i64 0), (.int .i64 0), (.int .i64 0), (.int .i64 0), (.int .i64 0), (.int .i64 0)]⟩])
  (.seq (.region [⟨(some 1), none, .build [(.int .i64 0), (.int .i64 0), (.int .i64 0), (.int .i64 0), (.int .i64 0), (.int .i64 0), (.int .i64 0), (.int .i64 0), (.int .i64 0), (.int .i64 0), (.int .i64 0), (.int .i64 0)] [(0, 1, (.c (.int .i64 200))), (1, 1, (.c (.int .i64 203))), (2, 1, (.c (.int .i64 204))), (3, 1, (.c (.int .i64 206))), (4, 1, (.c (.int .i64 300))), (5, 1, (.c (.int .i64 301))), (6, 1, (.c (.int .i64 308))), (7, 1, (.c (.int .i64 404))), (8, 1, (.c (.int .i64 405))), (9, 1, (.c (.int .i64 410))), (10, 1, (.c (.int .i64 414))), (11, 1, (.c (.int .i64 501)))]⟩, ⟨none, none, .store 12 (.t 0) (.t 1)⟩])
  .ret))⟩
/-- gatepost/gatepostref04.Names -/
def c_gatepostref04_Names : FnC := ⟨46, [.tmp 4, .tmp 5],
  (.seq (.region [⟨(some 4), none, .mv (.c .nsl)⟩, ⟨(some 5), none, .mv (.c (.bool false))⟩])
  (.seq (.region [⟨(some 13), none, .mv (.t 0)⟩, ⟨(some 14), none, .mv (.t 1)⟩, ⟨(some 15), none, .call i_gatepostref04_Get [(.t 13), (.t 14)]⟩, ⟨(some 12), none, .mv (.t 15)⟩, ⟨(some 16), none, .ext 0 (.t 12)⟩, ⟨(some 17), none, .ext 1 (.t 12)⟩, ⟨(some 6), none, .mv (.t 16)⟩, ⟨(some 7), none, .mv (.t 17)⟩])
  (.seq (.region [⟨(some 19), none, .mv (.t 6)⟩, ⟨(some 20), none, .call i_gatepostref01_Split [(.t 19)]⟩, ⟨(some 18), none, .mv (.t 20)⟩, ⟨(some 21), none, .ext 0 (.t 18)⟩, ⟨(some 22), none, .ext 1 (.t 18)⟩, ⟨(some 8), none, .mv (.t 21)⟩, ⟨(some 9), none, .mv (.t 22)⟩])
  (.seq (.seq (.region [⟨(some 23), none, .mv (.t 9)⟩, ⟨(some 24), none, .un .not (.t 23)⟩])
  (.cond (.t 24)
    (.seq (.region [⟨(some 4), none, .mv (.c .nsl)⟩, ⟨(some 5), none, .mv (.c (.bool false))⟩])
    .ret)
    .skip))
  (.seq (.region [⟨(some 10), none, .mv (.c .nsl)⟩])
  (.seq (.seq (.region [⟨(some 11), none, .mv (.c (.int .i64 0))⟩])
  (.block 0 (.loop
    (.seq (.seq (.region [⟨(some 25), none, .mv (.t 11)⟩, ⟨(some 26), none, .mv (.t 8)⟩, ⟨(some 27), none, .len 1 (.t 26)⟩, ⟨(some 28), none, .bin .lss (.t 25) (.t 27)⟩])
    (.cond (.t 28)
      .skip
      (.exit 0)))
    (.seq (.block 1 (.seq (.seq (.region [⟨(some 31), none, .mv (.t 8)⟩, ⟨(some 32), none, .mv (.t 11)⟩, ⟨(some 33), none, .ixaSl 1 (.t 31) (.t 32)⟩, ⟨(some 34), none, .load false 1 (.t 33)⟩, ⟨(some 35), none, .call i_gatepostref01_Is [(.t 34)]⟩, ⟨(some 36), none, .un .not (.t 35)⟩])
    (.cond (.t 36)
      (.seq (.region [⟨(some 4), none, .mv (.c .nsl)⟩, ⟨(some 5), none, .mv (.c (.bool false))⟩])
      .ret)
      .skip))
    (.region [⟨(some 37), none, .mv (.t 10)⟩, ⟨(some 38), none, .mv (.t 8)⟩, ⟨(some 39), none, .mv (.t 11)⟩, ⟨(some 40), none, .ixaSl 1 (.t 38) (.t 39)⟩, ⟨(some 41), none, .load false 1 (.t 40)⟩, ⟨(some 42), none, .call i_gatepostref01_Lower [(.t 41)]⟩, ⟨(some 43), none, .bsl 1 [(.t 42)]⟩, ⟨(some 44), none, .app 1 16 false (.t 37) (.t 43)⟩, ⟨(some 10), none, .mv (.t 44)⟩])))
    (.region [⟨(some 29), none, .mv (.t 11)⟩, ⟨(some 30), none, .bin .add (.t 29) (.c (.int .i64 1))⟩, ⟨(some 11), none, .mv (.t 30)⟩]))))))
  (.seq (.region [⟨(some 45), none, .mv (.t 10)⟩, ⟨(some 4), none, .mv (.t 45)⟩, ⟨(some 5), none, .mv (.c (.bool true))⟩])
  .ret)))))))⟩
/-- gatepost/token.Is -/
def c_token_Is : FnC := ⟨9, [.tmp 2],
  (.seq (.region [⟨(some 2), none, .mv (.c (.bool false))⟩])
  (.seq (.region [⟨(some 3), none, .mv (.t 0)⟩, ⟨(some 4), none, .bin .neq (.t 3) (.c (.str []))⟩, ⟨(some 5), none, .mv (.t 4)⟩, ⟨(some 6), (some (5, true)), .mv (.t 0)⟩, ⟨(some 7), (some (5, true)), .call i_token_all [(.t 6), (.c (.fn i_token_inToken []))]⟩, ⟨(some 8), none, .pick (.t 5) (.t 7) (.c (.bool false))⟩, ⟨(some 2), none, .mv (.t 8)⟩])
  .ret))⟩
/-- gatepost/field.keep -/
def c_field_keep : FnC := ⟨23, [.tmp 4],
  (.seq (.region [⟨(some 4), none, .mv (.c .nsl)⟩])
  (.seq (.region [⟨(some 5), none, .mv (.c .nsl)⟩])
  (.seq (.seq (.region [⟨(some 8), none, .mv (.t 0)⟩, ⟨(some 9), none, .len 1 (.t 8)⟩, ⟨(some 10), none, .mv (.c (.int .i64 0))⟩])
  (.block 0 (.loop
    (.seq (.region [⟨(some 11), none, .bin .lss (.t 10) (.t 9)⟩])
    (.seq (.cond (.t 11)
      .skip
      (.exit 0))
    (.seq (.block 1 (.seq (.region [⟨(some 12), none, .ixaSl 2 (.t 8) (.t 10)⟩, ⟨(some 13), none, .load true 2 (.t 12)⟩, ⟨(some 7), none, .boxz [(.str []), (.str [])]⟩, ⟨none, none, .store 2 (.t 7) (.t 13)⟩])
    (.seq (.region [⟨(some 14), none, .mv (.t 1)⟩, ⟨(some 15), none, .load true 2 (.t 7)⟩, ⟨(some 16), none, .callv (.t 14) [(.t 15)]⟩])
    (.cond (.t 16)
      (.region [⟨(some 17), none, .mv (.t 5)⟩, ⟨(some 18), none, .load true 2 (.t 7)⟩, ⟨(some 19), none, .bsl 2 [(.t 18)]⟩, ⟨(some 20), none, .app 2 32 false (.t 17) (.t 19)⟩, ⟨(some 5), none, .mv (.t 20)⟩])
      .skip))))
    (.region [⟨(some 21), none, .bin .add (.t 10) (.c (.int .i64 1))⟩, ⟨(some 10), none, .mv (.t 21)⟩])))))))
  (.seq (.region [⟨(some 22), none, .mv (.t 5)⟩, ⟨(some 4), none, .mv (.t 22)⟩])
  .ret))))⟩
/-- gatepost/field.without$1 -/
def c_field_without_1 : FnC := ⟨10, [.tmp 3],
  (.seq (.region [⟨(some 2), none, .box (.t 0)⟩, ⟨(some 3), none, .mv (.c (.bool false))⟩])
  (.seq (.dregion [⟨(some 4), none, .load false 1 (.t 1)⟩, ⟨(some 5), none, .faddr 0 (.t 2)⟩, ⟨(some 6), none, .load false 1 (.t 5)⟩, ⟨(some 7), none, .call i_token_Lower [(.t 6)]⟩] [⟨(some 8), none, .lookup .s (.bool false) false (.t 4) (.t 7)⟩, ⟨(some 9), none, .un .not (.t 8)⟩, ⟨(some 3), none, .mv (.t 9)⟩])
  .ret))⟩
/-- slices.IndexFunc[[]gatepost/api.Field,gatepost/api.Field] -/
def c_slices_IndexFunc___gatepost_api_Field_gatepost_api_Field_ : FnC := ⟨19, [.tmp 4],
  (.seq (.region [⟨(some 4), none, .mv (.c (.int .i64 0))⟩])
  (.seq (.seq (.region [⟨(some 6), none, .mv (.t 0)⟩, ⟨(some 7), none, .len 1 (.t 6)⟩, ⟨(some 8), none, .mv (.c (.int .i64 0))⟩])
  (.block 0 (.loop
    (.seq (.region [⟨(some 9), none, .bin .lss (.t 8) (.t 7)⟩])
    (.seq (.cond (.t 9)
      .skip
      (.exit 0))
    (.seq (.block 1 (.seq (.region [⟨(some 10), none, .mv (.t 8)⟩, ⟨(some 5), none, .mv (.t 10)⟩])
    (.seq (.region [⟨(some 11), none, .mv (.t 1)⟩, ⟨(some 12), none, .mv (.t 0)⟩, ⟨(some 13), none, .mv (.t 5)⟩, ⟨(some 14), none, .ixaSl 2 (.t 12) (.t 13)⟩, ⟨(some 15), none, .load true 2 (.t 14)⟩, ⟨(some 16), none, .callv (.t 11) [(.t 15)]⟩])
    (.cond (.t 16)
      (.seq (.region [⟨(some 17), none, .mv (.t 5)⟩, ⟨(some 4), none, .mv (.t 17)⟩])
      .ret)
      .skip))))
    (.region [⟨(some 18), none, .bin .add (.t 8) (.c (.int .i64 1))⟩, ⟨(some 8), none, .mv (.t 18)⟩])))))))
  (.seq (.region [⟨(some 4), none, .mv (.c (.int .i64 (-1)))⟩])
  .ret)))⟩
/-- gatepost/control.rules -/
def c_control_rules : FnC := ⟨34, [.tmp 0],
  (.seq (.region [⟨(some 0), none, .mv (.c .nmap)⟩])
  (.seq (.region [⟨(some 4), none, .mkmap⟩, ⟨(some 1), none, .boxz [.nmap]⟩, ⟨none, none, .store 1 (.t 1) (.t 4)⟩])
  (.seq (.region [⟨(some 5), none, .mkfn i_control_rules_1 [(.t 1)]⟩, ⟨(some 2), none, .mv (.t 5)⟩])
  (.seq (.region [⟨(some 6), none, .mkfn i_control_rules_2 [(.t 1)]⟩, ⟨(some 3), none, .mv (.t 6)⟩])
  (.seq (.region [⟨(some 7), none, .mv (.t 2)⟩, ⟨(some 8), none, .callv (.t 7) [(.c (.str [110, 111, 45, 115, 116, 111, 114, 101])), (.c (.fn i_control_rules_3 []))]⟩])
  (.seq (.region [⟨(some 9), none, .mv (.t 2)⟩, ⟨(some 10), none, .callv (.t 9) [(.c (.str [110, 111, 45, 99, 97, 99, 104, 101])), (.c (.fn i_control_rules_4 []))]⟩])
  (.seq (.region [⟨(some 11), none, .mv (.t 2)⟩, ⟨(some 12), none, .callv (.t 11) [(.c (.str [112, 114, 105, 118, 97, 116, 101])), (.c (.fn i_control_rules_5 []))]⟩])
  (.seq (.region [⟨(some 13), none, .mv (.t 2)⟩, ⟨(some 14), none, .callv (.t 13) [(.c (.str [112, 117, 98, 108, 105, 99])), (.c (.fn i_control_rules_6 []))]⟩])
  (.seq (.region [⟨(some 15), none, .mv (.t 2)⟩, ⟨(some 16), none, .callv (.t 15) [(.c (.str [109, 117, 115, 116, 45, 114, 101, 118, 97, 108, 105, 100, 97, 116, 101])), (.c (.fn i_control_rules_7 []))]⟩])
  (.seq (.region [⟨(some 17), none, .mv (.t 2)⟩, ⟨(some 18), none, .callv (.t 17) [(.c (.str [112, 114, 111, 120, 121, 45, 114, 101, 118, 97, 108, 105, 100, 97, 116, 101])), (.c (.fn i_control_rules_8 []))]⟩])
  (.seq (.region [⟨(some 19), none, .mv (.t 2)⟩, ⟨(some 20), none, .callv (.t 19) [(.c (.str [111, 110, 108, 121, 45, 105, 102, 45, 99, 97, 99, 104, 101, 100])), (.c (.fn i_control_rules_9 []))]⟩])
  (.seq (.region [⟨(some 21), none, .mv (.t 3)⟩, ⟨(some 22), none, .callv (.t 21) [(.c (.str [109, 97, 120, 45, 97, 103, 101])), (.c (.int .i64 0)), (.c (.int .i64 0)), (.c (.fn i_control_rules_10 []))]⟩])
  (.seq (.region [⟨(some 23), none, .mv (.t 3)⟩, ⟨(some 24), none, .callv (.t 23) [(.c (.str [115, 45, 109, 97, 120, 97, 103, 101])), (.c (.int .i64 0)), (.c (.int .i64 0)), (.c (.fn i_control_rules_11 []))]⟩])
  (.seq (.region [⟨(some 25), none, .mv (.t 3)⟩, ⟨(some 26), none, .callv (.t 25) [(.c (.str [115, 116, 97, 108, 101, 45, 119, 104, 105, 108, 101, 45, 114, 101, 118, 97, 108, 105, 100, 97, 116, 101])), (.c (.int .i64 (-1))), (.c (.int .i64 (-1))), (.c (.fn i_control_rules_12 []))]⟩])
  (.seq (.region [⟨(some 27), none, .mv (.t 3)⟩, ⟨(some 28), none, .callv (.t 27) [(.c (.str [115, 116, 97, 108, 101, 45, 105, 102, 45, 101, 114, 114, 111, 114])), (.c (.int .i64 (-1))), (.c (.int .i64 (-1))), (.c (.fn i_control_rules_13 []))]⟩])
  (.seq (.region [⟨(some 29), none, .mv (.t 3)⟩, ⟨(some 30), none, .callv (.t 29) [(.c (.str [109, 105, 110, 45, 102, 114, 101, 115, 104])), (.c (.int .i64 (-1))), (.c (.int .i64 (-1))), (.c (.fn i_control_rules_14 []))]⟩])
  (.seq (.region [⟨(some 31), none, .mv (.t 3)⟩, ⟨(some 32), none, .callv (.t 31) [(.c (.str [109, 97, 120, 45, 115, 116, 97, 108, 101])), (.c (.int .i64 2147483648)), (.c (.int .i64 (-1))), (.c (.fn i_control_rules_15 []))]⟩])
  (.seq (.region [⟨(some 33), none, .load false 1 (.t 1)⟩, ⟨(some 0), none, .mv (.t 33)⟩])
  .ret))))))))))))))))))⟩
/-- gatepost/token.Pair -/
def c_token_Pair : FnC := ⟨33, [.tmp 2, .tmp 3, .tmp 4, .tmp 5],
  (.seq (.region [⟨(some 2), none, .mv (.c (.str []))⟩, ⟨(some 3), none, .mv (.c (.str []))⟩, ⟨(some 4), none, .mv (.c (.bool false))⟩, ⟨(some 5), none, .mv (.c (.bool false))⟩])
  (.seq (.region [⟨(some 7), none, .mv (.t 0)⟩, ⟨(some 8), none, .call i_strings_Cut [(.t 7), (.c (.str [61]))]⟩, ⟨(some 6), none, .mv (.t 8)⟩, ⟨(some 9), none, .ext 0 (.t 6)⟩, ⟨(some 10), none, .ext 1 (.t 6)⟩, ⟨(some 11), none, .ext 2 (.t 6)⟩, ⟨(some 2), none, .mv (.t 9)⟩, ⟨(some 3), none, .mv (.t 10)⟩, ⟨(some 4), none, .mv (.t 11)⟩])
  (.seq (.seq (.region [⟨(some 12), none, .mv (.t 2)⟩, ⟨(some 13), none, .call i_token_Is [(.t 12)]⟩, ⟨(some 14), none, .un .not (.t 13)⟩])
  (.cond (.t 14)
    (.seq (.region [⟨(some 2), none, .mv (.c (.str []))⟩, ⟨(some 3), none, .mv (.c (.str []))⟩, ⟨(some 4), none, .mv (.c (.bool false))⟩, ⟨(some 5), none, .mv (.c (.bool false))⟩])
    .ret)
    .skip))
  (.seq (.seq (.region [⟨(some 15), none, .mv (.t 4)⟩, ⟨(some 16), none, .un .not (.t 15)⟩, ⟨(some 17), none, .mv (.t 16)⟩, ⟨(some 18), (some (17, false)), .mv (.t 3)⟩, ⟨(some 19), (some (17, false)), .call i_token_Is [(.t 18)]⟩, ⟨(some 20), none, .pick (.t 17) (.c (.bool true)) (.t 19)⟩])
  (.cond (.t 20)
    (.seq (.region [⟨(some 21), none, .mv (.t 2)⟩, ⟨(some 22), none, .mv (.t 3)⟩, ⟨(some 23), none, .mv (.t 4)⟩, ⟨(some 2), none, .mv (.t 21)⟩, ⟨(some 3), none, .mv (.t 22)⟩, ⟨(some 4), none, .mv (.t 23)⟩, ⟨(some 5), none, .mv (.c (.bool true))⟩])
    .ret)
    .skip))
  (.seq (.seq (.region [⟨(some 25), none, .mv (.t 3)⟩, ⟨(some 26), none, .call i_token_unquote [(.t 25)]⟩, ⟨(some 24), none, .mv (.t 26)⟩, ⟨(some 27), none, .ext 0 (.t 24)⟩, ⟨(some 28), none, .ext 1 (.t 24)⟩, ⟨(some 3), none, .mv (.t 27)⟩, ⟨(some 5), none, .mv (.t 28)⟩])
  (.seq (.region [⟨(some 29), none, .mv (.t 5)⟩, ⟨(some 30), none, .un .not (.t 29)⟩])
  (.cond (.t 30)
    (.seq (.region [⟨(some 2), none, .mv (.c (.str []))⟩, ⟨(some 3), none, .mv (.c (.str []))⟩, ⟨(some 4), none, .mv (.c (.bool false))⟩, ⟨(some 5), none, .mv (.c (.bool false))⟩])
    .ret)
    .skip)))
  (.seq (.region [⟨(some 31), none, .mv (.t 2)⟩, ⟨(some 32), none, .mv (.t 3)⟩, ⟨(some 2), none, .mv (.t 31)⟩, ⟨(some 3), none, .mv (.t 32)⟩, ⟨(some 4), none, .mv (.c (.bool true))⟩, ⟨(some 5), none, .mv (.c (.bool true))⟩])
  .ret))))))⟩
/-- (gatepost/control.rule).value -/
def c__gatepost_control_rule__value : FnC := ⟨22, [.tmp 6],
  (.seq (.region [⟨(some 3), none, .box (.t 0)⟩, ⟨(some 6), none, .mv (.c (.int .i64 0))⟩])
  (.seq (.seq (.region [⟨(some 9), none, .mv (.t 2)⟩, ⟨(some 10), none, .un .not (.t 9)⟩])
  (.cond (.t 10)
    (.seq (.region [⟨(some 11), none, .faddr 2 (.t 3)⟩, ⟨(some 12), none, .load false 1 (.t 11)⟩, ⟨(some 6), none, .mv (.t 12)⟩])
    .ret)
    .skip))
  (.seq (.seq (.region [⟨(some 14), none, .mv (.t 1)⟩, ⟨(some 15), none, .call i_token_Number [(.t 14), (.c (.int .i64 2147483648))]⟩, ⟨(some 13), none, .mv (.t 15)⟩, ⟨(some 16), none, .ext 0 (.t 13)⟩, ⟨(some 17), none, .ext 1 (.t 13)⟩, ⟨(some 7), none, .mv (.t 16)⟩, ⟨(some 8), none, .mv (.t 17)⟩])
  (.seq (.region [⟨(some 18), none, .mv (.t 8)⟩])
  (.cond (.t 18)
    (.seq (.region [⟨(some 19), none, .mv (.t 7)⟩, ⟨(some 6), none, .mv (.t 19)⟩])
    .ret)
    .skip)))
  (.seq (.region [⟨(some 20), none, .faddr 3 (.t 3)⟩, ⟨(some 21), none, .load false 1 (.t 20)⟩, ⟨(some 6), none, .mv (.t 21)⟩])
  .ret))))⟩
/-- slices.Index[[]string,string] -/
def c_slices_Index___string_string_ : FnC := ⟨19, [.tmp 4],
  (.seq (.region [⟨(some 4), none, .mv (.c (.int .i64 0))⟩])
  (.seq (.seq (.region [⟨(some 6), none, .mv (.t 0)⟩, ⟨(some 7), none, .len 1 (.t 6)⟩, ⟨(some 8), none, .mv (.c (.int .i64 0))⟩])
  (.block 0 (.loop
    (.seq (.region [⟨(some 9), none, .bin .lss (.t 8) (.t 7)⟩])
    (.seq (.cond (.t 9)
      .skip
      (.exit 0))
    (.seq (.block 1 (.seq (.region [⟨(some 10), none, .mv (.t 8)⟩, ⟨(some 5), none, .mv (.t 10)⟩])
    (.seq (.region [⟨(some 11), none, .mv (.t 1)⟩, ⟨(some 12), none, .mv (.t 0)⟩, ⟨(some 13), none, .mv (.t 5)⟩, ⟨(some 14), none, .ixaSl 1 (.t 12) (.t 13)⟩, ⟨(some 15), none, .load false 1 (.t 14)⟩, ⟨(some 16), none, .bin .eql (.t 11) (.t 15)⟩])
    (.cond (.t 16)
      (.seq (.region [⟨(some 17), none, .mv (.t 5)⟩, ⟨(some 4), none, .mv (.t 17)⟩])
      .ret)
      .skip))))
    (.region [⟨(some 18), none, .bin .add (.t 8) (.c (.int .i64 1))⟩, ⟨(some 8), none, .mv (.t 18)⟩])))))))
  (.seq (.region [⟨(some 4), none, .mv (.c (.int .i64 (-1)))⟩])
  .ret)))⟩
/-- gatepost/date.fixed -/
def c_date_fixed : FnC := ⟨38, [.tmp 2, .tmp 3],
  (.seq (.region [⟨(some 2), none, .mv (.c (.int .i64 0))⟩, ⟨(some 3), none, .mv (.c (.bool false))⟩])
  (.seq (.region [⟨(some 9), none, .mv (.t 0)⟩, ⟨(some 10), none, .call i___gatepost_date_reader__day [(.t 9), (.c (.bool false))]⟩, ⟨(some 4), none, .mv (.t 10)⟩])
  (.seq (.region [⟨(some 11), none, .mv (.t 0)⟩, ⟨(some 12), none, .call i___gatepost_date_reader__need [(.t 11), (.c (.str [44, 32]))]⟩])
  (.seq (.region [⟨(some 13), none, .mv (.t 0)⟩, ⟨(some 14), none, .call i___gatepost_date_reader__number [(.t 13), (.c (.int .i64 2))]⟩, ⟨(some 5), none, .mv (.t 14)⟩])
  (.seq (.region [⟨(some 15), none, .mv (.t 0)⟩, ⟨(some 16), none, .call i___gatepost_date_reader__need [(.t 15), (.c (.str [32]))]⟩])
  (.seq (.region [⟨(some 17), none, .mv (.t 0)⟩, ⟨(some 18), none, .call i___gatepost_date_reader__month [(.t 17)]⟩, ⟨(some 6), none, .mv (.t 18)⟩])
  (.seq (.region [⟨(some 19), none, .mv (.t 0)⟩, ⟨(some 20), none, .call i___gatepost_date_reader__need [(.t 19), (.c (.str [32]))]⟩])
  (.seq (.region [⟨(some 21), none, .mv (.t 0)⟩, ⟨(some 22), none, .call i___gatepost_date_reader__number [(.t 21), (.c (.int .i64 4))]⟩, ⟨(some 7), none, .mv (.t 22)⟩])
  (.seq (.region [⟨(some 23), none, .mv (.t 0)⟩, ⟨(some 24), none, .call i___gatepost_date_reader__need [(.t 23), (.c (.str [32]))]⟩])
  (.seq (.region [⟨(some 25), none, .mv (.t 0)⟩, ⟨(some 26), none, .call i___gatepost_date_reader__clock [(.t 25)]⟩, ⟨(some 8), none, .mv (.t 26)⟩])
  (.seq (.region [⟨(some 27), none, .mv (.t 0)⟩, ⟨(some 28), none, .call i___gatepost_date_reader__need [(.t 27), (.c (.str [32, 71, 77, 84]))]⟩])
  (.seq (.region [⟨(some 29), none, .mv (.t 0)⟩, ⟨(some 30), none, .mv (.t 4)⟩, ⟨(some 31), none, .mv (.t 7)⟩, ⟨(some 32), none, .mv (.t 6)⟩, ⟨(some 33), none, .mv (.t 5)⟩, ⟨(some 34), none, .mv (.t 8)⟩, ⟨(some 35), none, .call i___gatepost_date_reader__second [(.t 29), (.t 30), (.t 31), (.t 32), (.t 33), (.t 34)]⟩, ⟨(some 36), none, .ext 0 (.t 35)⟩, ⟨(some 37), none, .ext 1 (.t 35)⟩, ⟨(some 2), none, .mv (.t 36)⟩, ⟨(some 3), none, .mv (.t 37)⟩])
  .ret))))))))))))⟩
/-- gatepost/date.old -/
def c_date_old : FnC := ⟨44, [.tmp 2, .tmp 3],
  (.seq (.region [⟨(some 2), none, .mv (.c (.int .i64 0))⟩, ⟨(some 3), none, .mv (.c (.bool false))⟩])
  (.seq (.region [⟨(some 9), none, .mv (.t 0)⟩, ⟨(some 10), none, .call i___gatepost_date_reader__day [(.t 9), (.c (.bool true))]⟩, ⟨(some 4), none, .mv (.t 10)⟩])
  (.seq (.region [⟨(some 11), none, .mv (.t 0)⟩, ⟨(some 12), none, .call i___gatepost_date_reader__need [(.t 11), (.c (.str [44, 32]))]⟩])
  (.seq (.region [⟨(some 13), none, .mv (.t 0)⟩, ⟨(some 14), none, .call i___gatepost_date_reader__number [(.t 13), (.c (.int .i64 2))]⟩, ⟨(some 5), none, .mv (.t 14)⟩])
  (.seq (.region [⟨(some 15), none, .mv (.t 0)⟩, ⟨(some 16), none, .call i___gatepost_date_reader__need [(.t 15), (.c (.str [45]))]⟩])
  (.seq (.region [⟨(some 17), none, .mv (.t 0)⟩, ⟨(some 18), none, .call i___gatepost_date_reader__month [(.t 17)]⟩, ⟨(some 6), none, .mv (.t 18)⟩])
  (.seq (.region [⟨(some 19), none, .mv (.t 0)⟩, ⟨(some 20), none, .call i___gatepost_date_reader__need [(.t 19), (.c (.str [45]))]⟩])
  (.seq (.region [⟨(some 21), none, .mv (.t 0)⟩, ⟨(some 22), none, .call i___gatepost_date_reader__number [(.t 21), (.c (.int .i64 2))]⟩, ⟨(some 7), none, .mv (.t 22)⟩])
  (.seq (.region [⟨(some 23), none, .mv (.t 0)⟩, ⟨(some 24), none, .call i___gatepost_date_reader__need [(.t 23), (.c (.str [32]))]⟩])
  (.seq (.region [⟨(some 25), none, .mv (.t 0)⟩, ⟨(some 26), none, .call i___gatepost_date_reader__clock [(.t 25)]⟩, ⟨(some 8), none, .mv (.t 26)⟩])
  (.seq (.region [⟨(some 27), none, .mv (.t 0)⟩, ⟨(some 28), none, .call i___gatepost_date_reader__need [(.t 27), (.c (.str [32, 71, 77, 84]))]⟩])
  (.seq (.seq (.region [⟨(some 29), none, .mv (.t 7)⟩, ⟨(some 30), none, .bin .geq (.t 29) (.c (.int .i64 70))⟩])
  (.cond (.t 30)
    (.region [⟨(some 31), none, .mv (.t 7)⟩, ⟨(some 32), none, .bin .add (.t 31) (.c (.int .i64 1900))⟩, ⟨(some 7), none, .mv (.t 32)⟩])
    (.region [⟨(some 33), none, .mv (.t 7)⟩, ⟨(some 34), none, .bin .add (.t 33) (.c (.int .i64 2000))⟩, ⟨(some 7), none, .mv (.t 34)⟩])))
  (.seq (.region [⟨(some 35), none, .mv (.t 0)⟩, ⟨(some 36), none, .mv (.t 4)⟩, ⟨(some 37), none, .mv (.t 7)⟩, ⟨(some 38), none, .mv (.t 6)⟩, ⟨(some 39), none, .mv (.t 5)⟩, ⟨(some 40), none, .mv (.t 8)⟩, ⟨(some 41), none, .call i___gatepost_date_reader__second [(.t 35), (.t 36), (.t 37), (.t 38), (.t 39), (.t 40)]⟩, ⟨(some 42), none, .ext 0 (.t 41)⟩, ⟨(some 43), none, .ext 1 (.t 41)⟩, ⟨(some 2), none, .mv (.t 42)⟩, ⟨(some 3), none, .mv (.t 43)⟩])
  .ret)))))))))))))⟩
/-- gatepost/date.plain -/
def c_date_plain : FnC := ⟨54, [.tmp 2, .tmp 3],
  (.seq (.region [⟨(some 2), none, .mv (.c (.int .i64 0))⟩, ⟨(some 3), none, .mv (.c (.bool false))⟩])
  (.seq (.region [⟨(some 10), none, .mv (.t 0)⟩, ⟨(some 11), none, .call i___gatepost_date_reader__day [(.t 10), (.c (.bool false))]⟩, ⟨(some 4), none, .mv (.t 11)⟩])
  (.seq (.region [⟨(some 12), none, .mv (.t 0)⟩, ⟨(some 13), none, .call i___gatepost_date_reader__need [(.t 12), (.c (.str [32]))]⟩])
  (.seq (.region [⟨(some 14), none, .mv (.t 0)⟩, ⟨(some 15), none, .call i___gatepost_date_reader__month [(.t 14)]⟩, ⟨(some 5), none, .mv (.t 15)⟩])
  (.seq (.region [⟨(some 16), none, .mv (.t 0)⟩, ⟨(some 17), none, .call i___gatepost_date_reader__need [(.t 16), (.c (.str [32]))]⟩])
  (.seq (.region [⟨(some 6), none, .mv (.c (.int .i64 2))⟩])
  (.seq (.seq (.region [⟨(some 18), none, .mv (.t 0)⟩, ⟨(some 19), none, .nilck (.t 18)⟩, ⟨(some 20), none, .faddr 0 (.t 19)⟩, ⟨(some 21), none, .load false 1 (.t 20)⟩, ⟨(some 22), none, .len 0 (.t 21)⟩, ⟨(some 23), none, .bin .gtr (.t 22) (.c (.int .i64 0))⟩, ⟨(some 24), none, .mv (.t 23)⟩, ⟨(some 25), (some (24, true)), .mv (.t 0)⟩, ⟨(some 26), (some (24, true)), .nilck (.t 25)⟩, ⟨(some 27), (some (24, true)), .faddr 0 (.t 26)⟩, ⟨(some 28), (some (24, true)), .load false 1 (.t 27)⟩, ⟨(some 29), (some (24, true)), .ixStr (.t 28) (.c (.int .i64 0))⟩, ⟨(some 30), (some (24, true)), .bin .eql (.t 29) (.c (.int .u8 32))⟩, ⟨(some 31), none, .pick (.t 24) (.t 30) (.c (.bool false))⟩])
  (.cond (.t 31)
    (.seq (.region [⟨(some 32), none, .mv (.t 0)⟩, ⟨(some 33), none, .call i___gatepost_date_reader__take [(.t 32), (.c (.int .i64 1))]⟩])
    (.region [⟨(some 6), none, .mv (.c (.int .i64 1))⟩]))
    .skip))
  (.seq (.region [⟨(some 34), none, .mv (.t 0)⟩, ⟨(some 35), none, .mv (.t 6)⟩, ⟨(some 36), none, .call i___gatepost_date_reader__number [(.t 34), (.t 35)]⟩, ⟨(some 7), none, .mv (.t 36)⟩])
  (.seq (.region [⟨(some 37), none, .mv (.t 0)⟩, ⟨(some 38), none, .call i___gatepost_date_reader__need [(.t 37), (.c (.str [32]))]⟩])
  (.seq (.region [⟨(some 39), none, .mv (.t 0)⟩, ⟨(some 40), none, .call i___gatepost_date_reader__clock [(.t 39)]⟩, ⟨(some 8), none, .mv (.t 40)⟩])
  (.seq (.region [⟨(some 41), none, .mv (.t 0)⟩, ⟨(some 42), none, .call i___gatepost_date_reader__need [(.t 41), (.c (.str [32]))]⟩])
  (.seq (.region [⟨(some 43), none, .mv (.t 0)⟩, ⟨(some 44), none, .call i___gatepost_date_reader__number [(.t 43), (.c (.int .i64 4))]⟩, ⟨(some 9), none, .mv (.t 44)⟩])
  (.seq (.region [⟨(some 45), none, .mv (.t 0)⟩, ⟨(some 46), none, .mv (.t 4)⟩, ⟨(some 47), none, .mv (.t 9)⟩, ⟨(some 48), none, .mv (.t 5)⟩, ⟨(some 49), none, .mv (.t 7)⟩, ⟨(some 50), none, .mv (.t 8)⟩, ⟨(some 51), none, .call i___gatepost_date_reader__second [(.t 45), (.t 46), (.t 47), (.t 48), (.t 49), (.t 50)]⟩, ⟨(some 52), none, .ext 0 (.t 51)⟩, ⟨(some 53), none, .ext 1 (.t 51)⟩, ⟨(some 2), none, .mv (.t 52)⟩, ⟨(some 3), none, .mv (.t 53)⟩])
  .ret)))))))))))))⟩
/-- strings.Trim -/
def c_strings_Trim : FnC := ⟨43, [.tmp 4],
  (.seq (.region [⟨(some 4), none, .mv (.c (.str []))⟩])
  (.seq (.seq (.region [⟨(some 7), none, .mv (.t 0)⟩, ⟨(some 8), none, .bin .eql (.t 7) (.c (.str []))⟩, ⟨(some 9), none, .mv (.t 8)⟩, ⟨(some 10), (some (9, false)), .mv (.t 1)⟩, ⟨(some 11), (some (9, false)), .bin .eql (.t 10) (.c (.str []))⟩, ⟨(some 12), none, .pick (.t 9) (.c (.bool true)) (.t 11)⟩])
  (.cond (.t 12)
    (.seq (.region [⟨(some 13), none, .mv (.t 0)⟩, ⟨(some 4), none, .mv (.t 13)⟩])
    .ret)
    .skip))
  (.seq (.seq (.region [⟨(some 14), none, .mv (.t 1)⟩, ⟨(some 15), none, .len 0 (.t 14)⟩, ⟨(some 16), none, .bin .eql (.t 15) (.c (.int .i64 1))⟩, ⟨(some 17), none, .mv (.t 16)⟩, ⟨(some 18), (some (17, true)), .mv (.t 1)⟩, ⟨(some 19), (some (17, true)), .ixStr (.t 18) (.c (.int .i64 0))⟩, ⟨(some 20), (some (17, true)), .bin .lss (.t 19) (.c (.int .u8 128))⟩, ⟨(some 21), none, .pick (.t 17) (.t 20) (.c (.bool false))⟩])
  (.cond (.t 21)
    (.seq (.dregion [⟨(some 22), none, .mv (.t 0)⟩, ⟨(some 23), none, .mv (.t 1)⟩, ⟨(some 24), none, .ixStr (.t 23) (.c (.int .i64 0))⟩, ⟨(some 25), none, .call i_strings_trimRightByte [(.t 22), (.t 24)]⟩, ⟨(some 26), none, .mv (.t 1)⟩, ⟨(some 27), none, .ixStr (.t 26) (.c (.int .i64 0))⟩] [⟨(some 28), none, .call i_strings_trimLeftByte [(.t 25), (.t 27)]⟩, ⟨(some 4), none, .mv (.t 28)⟩])
    .ret)
    .skip))
  (.seq (.seq (.region [⟨(some 30), none, .mv (.t 1)⟩, ⟨(some 31), none, .call i_strings_makeASCIISet [(.t 30)]⟩, ⟨(some 29), none, .mv (.t 31)⟩, ⟨(some 32), none, .ext 0 (.t 29)⟩, ⟨(some 33), none, .ext 1 (.t 29)⟩, ⟨(some 5), none, .boxz (List.replicate 256 (.bool false))⟩, ⟨none, none, .store 256 (.t 5) (.t 32)⟩, ⟨(some 6), none, .mv (.t 33)⟩])
  (.seq (.region [⟨(some 34), none, .mv (.t 6)⟩])
  (.cond (.t 34)
    (.seq (.region [⟨(some 35), none, .mv (.t 0)⟩, ⟨(some 36), none, .call i_strings_trimRightASCII [(.t 35), (.t 5)]⟩, ⟨(some 37), none, .call i_strings_trimLeftASCII [(.t 36), (.t 5)]⟩, ⟨(some 4), none, .mv (.t 37)⟩])
    .ret)
    .skip)))
  (.seq (.region [⟨(some 38), none, .mv (.t 0)⟩, ⟨(some 39), none, .mv (.t 1)⟩, ⟨(some 40), none, .call i_strings_trimRightUnicode [(.t 38), (.t 39)]⟩, ⟨(some 41), none, .mv (.t 1)⟩, ⟨(some 42), none, .call i_strings_trimLeftUnicode [(.t 40), (.t 41)]⟩, ⟨(some 4), none, .mv (.t 42)⟩])
  .ret)))))⟩
/-- gatepost/gatepostref01.Pair -/
def c_gatepostref01_Pair : FnC := ⟨53, [.tmp 2, .tmp 3, .tmp 4, .tmp 5],
  (.seq (.region [⟨(some 2), none, .mv (.c (.str []))⟩, ⟨(some 3), none, .mv (.c (.str []))⟩, ⟨(some 4), none, .mv (.c (.bool false))⟩, ⟨(some 5), none, .mv (.c (.bool false))⟩])
  (.seq (.region [⟨(some 6), none, .mv (.c (.int .i64 0))⟩])
  (.seq (.block 0 (.loop
    (.seq (.seq (.region [⟨(some 10), none, .mv (.t 6)⟩, ⟨(some 11), none, .mv (.t 0)⟩, ⟨(some 12), none, .len 0 (.t 11)⟩, ⟨(some 13), none, .bin .lss (.t 10) (.t 12)⟩, ⟨(some 14), none, .mv (.t 13)⟩, ⟨(some 15), (some (14, true)), .mv (.t 0)⟩, ⟨(some 16), (some (14, true)), .mv (.t 6)⟩, ⟨(some 17), (some (14, true)), .ixStr (.t 15) (.t 16)⟩, ⟨(some 18), (some (14, true)), .bin .neq (.t 17) (.c (.int .u8 61))⟩, ⟨(some 19), none, .pick (.t 14) (.t 18) (.c (.bool false))⟩])
    (.cond (.t 19)
      .skip
      (.exit 0)))
    (.block 1 (.region [⟨(some 20), none, .mv (.t 6)⟩, ⟨(some 21), none, .bin .add (.t 20) (.c (.int .i64 1))⟩, ⟨(some 6), none, .mv (.t 21)⟩])))))
  (.seq (.seq (.region [⟨(some 22), none, .mv (.t 0)⟩, ⟨(some 23), none, .mv (.t 6)⟩, ⟨(some 24), none, .slstr (.t 22) none (some (.t 23))⟩, ⟨(some 25), none, .call i_gatepostref01_Is [(.t 24)]⟩, ⟨(some 26), none, .un .not (.t 25)⟩])
  (.cond (.t 26)
    (.seq (.region [⟨(some 2), none, .mv (.c (.str []))⟩, ⟨(some 3), none, .mv (.c (.str []))⟩, ⟨(some 4), none, .mv (.c (.bool false))⟩, ⟨(some 5), none, .mv (.c (.bool false))⟩])
    .ret)
    .skip))
  (.seq (.seq (.region [⟨(some 27), none, .mv (.t 6)⟩, ⟨(some 28), none, .mv (.t 0)⟩, ⟨(some 29), none, .len 0 (.t 28)⟩, ⟨(some 30), none, .bin .eql (.t 27) (.t 29)⟩])
  (.cond (.t 30)
    (.seq (.region [⟨(some 31), none, .mv (.t 0)⟩, ⟨(some 2), none, .mv (.t 31)⟩, ⟨(some 3), none, .mv (.c (.str []))⟩, ⟨(some 4), none, .mv (.c (.bool false))⟩, ⟨(some 5), none, .mv (.c (.bool true))⟩])
    .ret)
    .skip))
  (.seq (.region [⟨(some 32), none, .mv (.t 0)⟩, ⟨(some 33), none, .mv (.t 6)⟩, ⟨(some 34), none, .bin .add (.t 33) (.c (.int .i64 1))⟩, ⟨(some 35), none, .slstr (.t 32) (some (.t 34)) none⟩, ⟨(some 7), none, .mv (.t 35)⟩])
  (.seq (.seq (.region [⟨(some 36), none, .mv (.t 7)⟩, ⟨(some 37), none, .call i_gatepostref01_Is [(.t 36)]⟩])
  (.cond (.t 37)
    (.seq (.region [⟨(some 38), none, .mv (.t 0)⟩, ⟨(some 39), none, .mv (.t 6)⟩, ⟨(some 40), none, .slstr (.t 38) none (some (.t 39))⟩, ⟨(some 41), none, .mv (.t 7)⟩, ⟨(some 2), none, .mv (.t 40)⟩, ⟨(some 3), none, .mv (.t 41)⟩, ⟨(some 4), none, .mv (.c (.bool true))⟩, ⟨(some 5), none, .mv (.c (.bool true))⟩])
    .ret)
    .skip))
  (.seq (.region [⟨(some 43), none, .mv (.t 7)⟩, ⟨(some 44), none, .call i_gatepostref01_unquote [(.t 43)]⟩, ⟨(some 42), none, .mv (.t 44)⟩, ⟨(some 45), none, .ext 0 (.t 42)⟩, ⟨(some 46), none, .ext 1 (.t 42)⟩, ⟨(some 8), none, .mv (.t 45)⟩, ⟨(some 9), none, .mv (.t 46)⟩])
  (.seq (.seq (.region [⟨(some 47), none, .mv (.t 9)⟩, ⟨(some 48), none, .un .not (.t 47)⟩])
  (.cond (.t 48)
    (.seq (.region [⟨(some 2), none, .mv (.c (.str []))⟩, ⟨(some 3), none, .mv (.c (.str []))⟩, ⟨(some 4), none, .mv (.c (.bool false))⟩, ⟨(some 5), none, .mv (.c (.bool false))⟩])
    .ret)
    .skip))
  (.seq (.region [⟨(some 49), none, .mv (.t 0)⟩, ⟨(some 50), none, .mv (.t 6)⟩, ⟨(some 51), none, .slstr (.t 49) none (some (.t 50))⟩, ⟨(some 52), none, .mv (.t 8)⟩, ⟨(some 2), none, .mv (.t 51)⟩, ⟨(some 3), none, .mv (.t 52)⟩, ⟨(some 4), none, .mv (.c (.bool true))⟩, ⟨(some 5), none, .mv (.c (.bool true))⟩])
  .ret))))))))))⟩
/-- gatepost/gatepostref08.least -/
def c_gatepostref08_least : FnC := ⟨14, [.tmp 4],
  (.seq (.region [⟨(some 4), none, .mv (.c (.int .i64 0))⟩])
  (.seq (.seq (.region [⟨(some 5), none, .mv (.t 0)⟩, ⟨(some 6), none, .bin .lss (.t 5) (.c (.int .i64 0))⟩, ⟨(some 7), none, .mv (.t 6)⟩, ⟨(some 8), (some (7, false)), .mv (.t 1)⟩, ⟨(some 9), (some (7, false)), .mv (.t 0)⟩, ⟨(some 10), (some (7, false)), .bin .lss (.t 8) (.t 9)⟩, ⟨(some 11), none, .pick (.t 7) (.c (.bool true)) (.t 10)⟩])
  (.cond (.t 11)
    (.seq (.region [⟨(some 12), none, .mv (.t 1)⟩, ⟨(some 4), none, .mv (.t 12)⟩])
    .ret)
    .skip))
  (.seq (.region [⟨(some 13), none, .mv (.t 0)⟩, ⟨(some 4), none, .mv (.t 13)⟩])
  .ret)))⟩
/-- gatepost/gatepostref02.second -/
def c_gatepostref02_second : FnC := ⟨34, [.tmp 10, .tmp 11],
  (.seq (.region [⟨(some 10), none, .mv (.c (.int .i64 0))⟩, ⟨(some 11), none, .mv (.c (.bool false))⟩])
  (.seq (.region [⟨(some 13), none, .mv (.t 1)⟩, ⟨(some 14), none, .mv (.t 2)⟩, ⟨(some 15), none, .mv (.t 3)⟩, ⟨(some 16), none, .call i_gatepostref02_Days [(.t 13), (.t 14), (.t 15)]⟩, ⟨(some 12), none, .mv (.t 16)⟩])
  (.seq (.seq (.region [⟨(some 17), none, .mv (.t 12)⟩, ⟨(some 18), none, .bin .lss (.t 17) (.c (.int .i64 0))⟩, ⟨(some 19), none, .mv (.t 18)⟩, ⟨(some 20), (some (19, false)), .mv (.t 4)⟩, ⟨(some 21), (some (19, false)), .bin .lss (.t 20) (.c (.int .i64 0))⟩, ⟨(some 22), none, .pick (.t 19) (.c (.bool true)) (.t 21)⟩, ⟨(some 23), none, .mv (.t 22)⟩, ⟨(some 24), (some (23, false)), .mv (.t 0)⟩, ⟨(some 25), (some (23, false)), .mv (.t 12)⟩, ⟨(some 26), (some (23, false)), .bin .add (.t 25) (.c (.int .i64 3))⟩, ⟨(some 27), (some (23, false)), .bin .rem (.t 26) (.c (.int .i64 7))⟩, ⟨(some 28), (some (23, false)), .bin .neq (.t 24) (.t 27)⟩, ⟨(some 29), none, .pick (.t 23) (.c (.bool true)) (.t 28)⟩])
  (.cond (.t 29)
    (.seq (.region [⟨(some 10), none, .mv (.c (.int .i64 0))⟩, ⟨(some 11), none, .mv (.c (.bool false))⟩])
    .ret)
    .skip))
  (.seq (.region [⟨(some 30), none, .mv (.t 12)⟩, ⟨(some 31), none, .bin .mul (.t 30) (.c (.int .i64 86400))⟩, ⟨(some 32), none, .mv (.t 4)⟩, ⟨(some 33), none, .bin .add (.t 31) (.t 32)⟩, ⟨(some 10), none, .mv (.t 33)⟩, ⟨(some 11), none, .mv (.c (.bool true))⟩])
  .ret))))⟩
/-- gatepost/gatepostref02.find -/
def c_gatepostref02_find : FnC := ⟨19, [.tmp 4],
  (.seq (.region [⟨(some 4), none, .mv (.c (.int .i64 0))⟩])
  (.seq (.seq (.region [⟨(some 5), none, .mv (.c (.int .i64 0))⟩])
  (.block 0 (.loop
    (.seq (.seq (.region [⟨(some 6), none, .mv (.t 5)⟩, ⟨(some 7), none, .mv (.t 0)⟩, ⟨(some 8), none, .len 1 (.t 7)⟩, ⟨(some 9), none, .bin .lss (.t 6) (.t 8)⟩])
    (.cond (.t 9)
      .skip
      (.exit 0)))
    (.seq (.block 1 (.seq (.region [⟨(some 12), none, .mv (.t 0)⟩, ⟨(some 13), none, .mv (.t 5)⟩, ⟨(some 14), none, .ixaSl 1 (.t 12) (.t 13)⟩, ⟨(some 15), none, .load false 1 (.t 14)⟩, ⟨(some 16), none, .mv (.t 1)⟩, ⟨(some 17), none, .bin .eql (.t 15) (.t 16)⟩])
    (.cond (.t 17)
      (.seq (.region [⟨(some 18), none, .mv (.t 5)⟩, ⟨(some 4), none, .mv (.t 18)⟩])
      .ret)
      .skip)))
    (.region [⟨(some 10), none, .mv (.t 5)⟩, ⟨(some 11), none, .bin .add (.t 10) (.c (.int .i64 1))⟩, ⟨(some 5), none, .mv (.t 11)⟩]))))))
  (.seq (.region [⟨(some 4), none, .mv (.c (.int .i64 (-1)))⟩])
  .ret)))⟩
/-- gatepost/gatepostref02.short -/
def c_gatepostref02_short : FnC := ⟨2, [.tmp 0],
  (.seq (.region [⟨(some 0), none, .mv (.c .nsl)⟩])
  (.seq (.region [⟨(some 1), none, .bsl 1 [(.c (.str [77, 111, 110])), (.c (.str [84, 117, 101])), (.c (.str [87, 101, 100])), (.c (.str [84, 104, 117])), (.c (.str [70, 114, 105])), (.c (.str [83, 97, 116])), (.c (.str [83, 117, 110]))]⟩, ⟨(some 0), none, .mv (.t 1)⟩])
  .ret))⟩
/-- gatepost/gatepostref02.number -/
def c_gatepostref02_number : FnC := ⟨30, [.tmp 2],
  (.seq (.region [⟨(some 2), none, .mv (.c (.int .i64 0))⟩])
  (.seq (.region [⟨(some 3), none, .mv (.c (.int .i64 0))⟩])
  (.seq (.seq (.region [⟨(some 4), none, .mv (.c (.int .i64 0))⟩])
  (.block 0 (.loop
    (.seq (.seq (.region [⟨(some 5), none, .mv (.t 4)⟩, ⟨(some 6), none, .mv (.t 0)⟩, ⟨(some 7), none, .len 0 (.t 6)⟩, ⟨(some 8), none, .bin .lss (.t 5) (.t 7)⟩])
    (.cond (.t 8)
      .skip
      (.exit 0)))
    (.seq (.block 1 (.seq (.seq (.region [⟨(some 11), none, .mv (.t 0)⟩, ⟨(some 12), none, .mv (.t 4)⟩, ⟨(some 13), none, .ixStr (.t 11) (.t 12)⟩, ⟨(some 14), none, .bin .lss (.t 13) (.c (.int .u8 48))⟩, ⟨(some 15), none, .mv (.t 14)⟩, ⟨(some 16), (some (15, false)), .mv (.t 0)⟩, ⟨(some 17), (some (15, false)), .mv (.t 4)⟩, ⟨(some 18), (some (15, false)), .ixStr (.t 16) (.t 17)⟩, ⟨(some 19), (some (15, false)), .bin .gtr (.t 18) (.c (.int .u8 57))⟩, ⟨(some 20), none, .pick (.t 15) (.c (.bool true)) (.t 19)⟩])
    (.cond (.t 20)
      (.seq (.region [⟨(some 2), none, .mv (.c (.int .i64 (-1)))⟩])
      .ret)
      .skip))
    (.region [⟨(some 21), none, .mv (.t 3)⟩, ⟨(some 22), none, .bin .mul (.t 21) (.c (.int .i64 10))⟩, ⟨(some 23), none, .mv (.t 0)⟩, ⟨(some 24), none, .mv (.t 4)⟩, ⟨(some 25), none, .ixStr (.t 23) (.t 24)⟩, ⟨(some 26), none, .bin .sub (.t 25) (.c (.int .u8 48))⟩, ⟨(some 27), none, .toInt .i64 (.t 26)⟩, ⟨(some 28), none, .bin .add (.t 22) (.t 27)⟩, ⟨(some 3), none, .mv (.t 28)⟩])))
    (.region [⟨(some 9), none, .mv (.t 4)⟩, ⟨(some 10), none, .bin .add (.t 9) (.c (.int .i64 1))⟩, ⟨(some 4), none, .mv (.t 10)⟩]))))))
  (.seq (.region [⟨(some 29), none, .mv (.t 3)⟩, ⟨(some 2), none, .mv (.t 29)⟩])
  .ret))))⟩
/-- gatepost/gatepostref02.months -/
def c_gatepostref02_months : FnC := ⟨2, [.tmp 0],
  (.seq (.region [⟨(some 0), none, .mv (.c .nsl)⟩])
  (.seq (.region [⟨(some 1), none, .bsl 1 [(.c (.str [74, 97, 110])), (.c (.str [70, 101, 98])), (.c (.str [77, 97, 114])), (.c (.str [65, 112, 114])), (.c (.str [77, 97, 121])), (.c (.str [74, 117, 110])), (.c (.str [74, 117, 108])), (.c (.str [65, 117, 103])), (.c (.str [83, 101, 112])), (.c (.str [79, 99, 116])), (.c (.str [78, 111, 118])), (.c (.str [68, 101, 99]))]⟩, ⟨(some 0), none, .mv (.t 1)⟩])
  .ret))⟩
/-- gatepost/gatepostref02.clock -/
def c_gatepostref02_clock : FnC := ⟨59, [.tmp 2],
  (.seq (.region [⟨(some 2), none, .mv (.c (.int .i64 0))⟩])
  (.seq (.seq (.region [⟨(some 6), none, .mv (.t 0)⟩, ⟨(some 7), none, .len 0 (.t 6)⟩, ⟨(some 8), none, .bin .neq (.t 7) (.c (.int .i64 8))⟩, ⟨(some 9), none, .mv (.t 8)⟩, ⟨(some 10), (some (9, false)), .mv (.t 0)⟩, ⟨(some 11), (some (9, false)), .ixStr (.t 10) (.c (.int .i64 2))⟩, ⟨(some 12), (some (9, false)), .bin .neq (.t 11) (.c (.int .u8 58))⟩, ⟨(some 13), none, .pick (.t 9) (.c (.bool true)) (.t 12)⟩, ⟨(some 14), none, .mv (.t 13)⟩, ⟨(some 15), (some (14, false)), .mv (.t 0)⟩, ⟨(some 16), (some (14, false)), .ixStr (.t 15) (.c (.int .i64 5))⟩, ⟨(some 17), (some (14, false)), .bin .neq (.t 16) (.c (.int .u8 58))⟩, ⟨(some 18), none, .pick (.t 14) (.c (.bool true)) (.t 17)⟩])
  (.cond (.t 18)
    (.seq (.region [⟨(some 2), none, .mv (.c (.int .i64 (-1)))⟩])
    .ret)
    .skip))
  (.seq (.region [⟨(some 19), none, .mv (.t 0)⟩, ⟨(some 20), none, .slstr (.t 19) none (some (.c (.int .i64 2)))⟩, ⟨(some 21), none, .call i_gatepostref02_number [(.t 20)]⟩, ⟨(some 3), none, .mv (.t 21)⟩])
  (.seq (.region [⟨(some 22), none, .mv (.t 0)⟩, ⟨(some 23), none, .slstr (.t 22) (some (.c (.int .i64 3))) (some (.c (.int .i64 5)))⟩, ⟨(some 24), none, .call i_gatepostref02_number [(.t 23)]⟩, ⟨(some 4), none, .mv (.t 24)⟩])
  (.seq (.region [⟨(some 25), none, .mv (.t 0)⟩, ⟨(some 26), none, .slstr (.t 25) (some (.c (.int .i64 6))) none⟩, ⟨(some 27), none, .call i_gatepostref02_number [(.t 26)]⟩, ⟨(some 5), none, .mv (.t 27)⟩])
  (.seq (.seq (.region [⟨(some 28), none, .mv (.t 3)⟩, ⟨(some 29), none, .bin .lss (.t 28) (.c (.int .i64 0))⟩, ⟨(some 30), none, .mv (.t 29)⟩, ⟨(some 31), (some (30, false)), .mv (.t 3)⟩, ⟨(some 32), (some (30, false)), .bin .gtr (.t 31) (.c (.int .i64 23))⟩, ⟨(some 33), none, .pick (.t 30) (.c (.bool true)) (.t 32)⟩, ⟨(some 34), none, .mv (.t 33)⟩, ⟨(some 35), (some (34, false)), .mv (.t 4)⟩, ⟨(some 36), (some (34, false)), .bin .lss (.t 35) (.c (.int .i64 0))⟩, ⟨(some 37), none, .pick (.t 34) (.c (.bool true)) (.t 36)⟩, ⟨(some 38), none, .mv (.t 37)⟩, ⟨(some 39), (some (38, false)), .mv (.t 4)⟩, ⟨(some 40), (some (38, false)), .bin .gtr (.t 39) (.c (.int .i64 59))⟩, ⟨(some 41), none, .pick (.t 38) (.c (.bool true)) (.t 40)⟩, ⟨(some 42), none, .mv (.t 41)⟩, ⟨(some 43), (some (42, false)), .mv (.t 5)⟩, ⟨(some 44), (some (42, false)), .bin .lss (.t 43) (.c (.int .i64 0))⟩, ⟨(some 45), none, .pick (.t 42) (.c (.bool true)) (.t 44)⟩, ⟨(some 46), none, .mv (.t 45)⟩, ⟨(some 47), (some (46, false)), .mv (.t 5)⟩, ⟨(some 48), (some (46, false)), .bin .gtr (.t 47) (.c (.int .i64 60))⟩, ⟨(some 49), none, .pick (.t 46) (.c (.bool true)) (.t 48)⟩])
  (.cond (.t 49)
    (.seq (.region [⟨(some 2), none, .mv (.c (.int .i64 (-1)))⟩])
    .ret)
    .skip))
  (.seq (.seq (.region [⟨(some 50), none, .mv (.t 5)⟩, ⟨(some 51), none, .bin .eql (.t 50) (.c (.int .i64 60))⟩])
  (.cond (.t 51)
    (.region [⟨(some 5), none, .mv (.c (.int .i64 59))⟩])
    .skip))
  (.seq (.region [⟨(some 52), none, .mv (.t 3)⟩, ⟨(some 53), none, .bin .mul (.t 52) (.c (.int .i64 3600))⟩, ⟨(some 54), none, .mv (.t 4)⟩, ⟨(some 55), none, .bin .mul (.t 54) (.c (.int .i64 60))⟩, ⟨(some 56), none, .bin .add (.t 53) (.t 55)⟩, ⟨(some 57), none, .mv (.t 5)⟩, ⟨(some 58), none, .bin .add (.t 56) (.t 57)⟩, ⟨(some 2), none, .mv (.t 58)⟩])
  .ret))))))))⟩
/-- gatepost/gatepostref01.blank -/
def c_gatepostref01_blank : FnC := ⟨9, [.tmp 2],
  (.seq (.region [⟨(some 2), none, .mv (.c (.bool false))⟩])
  (.seq (.region [⟨(some 3), none, .mv (.t 0)⟩, ⟨(some 4), none, .bin .eql (.t 3) (.c (.int .u8 32))⟩, ⟨(some 5), none, .mv (.t 4)⟩, ⟨(some 6), (some (5, false)), .mv (.t 0)⟩, ⟨(some 7), (some (5, false)), .bin .eql (.t 6) (.c (.int .u8 9))⟩, ⟨(some 8), none, .pick (.t 5) (.c (.bool true)) (.t 7)⟩, ⟨(some 2), none, .mv (.t 8)⟩])
  .ret))⟩
/-- gatepost/gatepostref01.Is -/
def c_gatepostref01_Is : FnC := ⟨18, [.tmp 2],
  (.seq (.region [⟨(some 2), none, .mv (.c (.bool false))⟩])
  (.seq (.seq (.region [⟨(some 3), none, .mv (.c (.int .i64 0))⟩])
  (.block 0 (.loop
    (.seq (.seq (.region [⟨(some 4), none, .mv (.t 3)⟩, ⟨(some 5), none, .mv (.t 0)⟩, ⟨(some 6), none, .len 0 (.t 5)⟩, ⟨(some 7), none, .bin .lss (.t 4) (.t 6)⟩])
    (.cond (.t 7)
      .skip
      (.exit 0)))
    (.seq (.block 1 (.seq (.region [⟨(some 10), none, .mv (.t 0)⟩, ⟨(some 11), none, .mv (.t 3)⟩, ⟨(some 12), none, .ixStr (.t 10) (.t 11)⟩, ⟨(some 13), none, .call i_gatepostref01_tchar [(.t 12)]⟩, ⟨(some 14), none, .un .not (.t 13)⟩])
    (.cond (.t 14)
      (.seq (.region [⟨(some 2), none, .mv (.c (.bool false))⟩])
      .ret)
      .skip)))
    (.region [⟨(some 8), none, .mv (.t 3)⟩, ⟨(some 9), none, .bin .add (.t 8) (.c (.int .i64 1))⟩, ⟨(some 3), none, .mv (.t 9)⟩]))))))
  (.seq (.region [⟨(some 15), none, .mv (.t 0)⟩, ⟨(some 16), none, .len 0 (.t 15)⟩, ⟨(some 17), none, .bin .gtr (.t 16) (.c (.int .i64 0))⟩, ⟨(some 2), none, .mv (.t 17)⟩])
  .ret)))⟩
/-- gatepost/token.inToken -/
def c_token_inToken : FnC := ⟨30, [.tmp 2],
  (.seq (.region [⟨(some 2), none, .mv (.c (.bool false))⟩])
  (.seq (.seq (.region [⟨(some 6), none, .mv (.t 0)⟩, ⟨(some 7), none, .bin .or (.t 6) (.c (.int .u8 32))⟩, ⟨(some 3), none, .mv (.t 7)⟩])
  (.seq (.region [⟨(some 8), none, .mv (.t 3)⟩, ⟨(some 9), none, .bin .geq (.t 8) (.c (.int .u8 97))⟩, ⟨(some 10), none, .mv (.t 9)⟩, ⟨(some 11), (some (10, true)), .mv (.t 3)⟩, ⟨(some 12), (some (10, true)), .bin .leq (.t 11) (.c (.int .u8 122))⟩, ⟨(some 13), none, .pick (.t 10) (.t 12) (.c (.bool false))⟩, ⟨(some 14), none, .mv (.t 13)⟩, ⟨(some 15), (some (14, false)), .mv (.t 0)⟩, ⟨(some 16), (some (14, false)), .bin .geq (.t 15) (.c (.int .u8 48))⟩, ⟨(some 17), (some (14, false)), .mv (.t 16)⟩, ⟨(some 18), (some (17, true)), .mv (.t 0)⟩, ⟨(some 19), (some (17, true)), .bin .leq (.t 18) (.c (.int .u8 57))⟩, ⟨(some 20), (some (14, false)), .pick (.t 17) (.t 19) (.c (.bool false))⟩, ⟨(some 21), none, .pick (.t 14) (.c (.bool true)) (.t 20)⟩])
  (.cond (.t 21)
    (.seq (.region [⟨(some 2), none, .mv (.c (.bool true))⟩])
    .ret)
    .skip)))
  (.seq (.seq (.region [⟨(some 22), none, .call i_token_marks []⟩, ⟨(some 23), none, .mv (.c (.int .i64 0))⟩])
  (.block 0 (.loop
    (.seq (.region [⟨(some 24), none, .bin .lss (.t 23) (.c (.int .i64 15))⟩])
    (.seq (.cond (.t 24)
      .skip
      (.exit 0))
    (.seq (.block 1 (.seq (.region [⟨(some 25), none, .ixArr 15 1 false (.t 22) (.t 23)⟩, ⟨(some 5), none, .mv (.t 25)⟩])
    (.seq (.region [⟨(some 26), none, .mv (.t 5)⟩, ⟨(some 27), none, .mv (.t 0)⟩, ⟨(some 28), none, .bin .eql (.t 26) (.t 27)⟩])
    (.cond (.t 28)
      (.seq (.region [⟨(some 2), none, .mv (.c (.bool true))⟩])
      .ret)
      .skip))))
    (.region [⟨(some 29), none, .bin .add (.t 23) (.c (.int .i64 1))⟩, ⟨(some 23), none, .mv (.t 29)⟩])))))))
  (.seq (.region [⟨(some 2), none, .mv (.c (.bool false))⟩])
  .ret))))⟩
/-- gatepost/control.rules$1 -/
def c_control_rules_1 : FnC := ⟨9, [],
  (.region [⟨(some 5), none, .load false 1 (.t 2)⟩, ⟨(some 6), none, .mv (.t 0)⟩, ⟨(some 7), none, .mv (.t 1)⟩, ⟨(some 8), none, .build [.nfn, .nfn, (.int .i64 0), (.int .i64 0)] [(0, 1, (.t 7))]⟩, ⟨none, none, .mapset .s (.t 5) (.t 6) (.t 8)⟩])⟩
/-- gatepost/control.rules$2 -/
def c_control_rules_2 : FnC := ⟨15, [],
  (.region [⟨(some 9), none, .load false 1 (.t 4)⟩, ⟨(some 10), none, .mv (.t 0)⟩, ⟨(some 11), none, .mv (.t 3)⟩, ⟨(some 12), none, .mv (.t 1)⟩, ⟨(some 13), none, .mv (.t 2)⟩, ⟨(some 14), none, .build [.nfn, .nfn, (.int .i64 0), (.int .i64 0)] [(1, 1, (.t 11)), (2, 1, (.t 12)), (3, 1, (.t 13))]⟩, ⟨none, none, .mapset .s (.t 9) (.t 10) (.t 14)⟩])⟩
/-- gatepost/control.rules$3 -/
def c_control_rules_3 : FnC := ⟨5, [],
  (.region [⟨(some 2), none, .mv (.t 0)⟩, ⟨(some 3), none, .nilck (.t 2)⟩, ⟨(some 4), none, .faddr 0 (.t 3)⟩, ⟨none, none, .store 1 (.t 4) (.c (.bool true))⟩])⟩
/-- gatepost/control.rules$4 -/
def c_control_rules_4 : FnC := ⟨5, [],
  (.region [⟨(some 2), none, .mv (.t 0)⟩, ⟨(some 3), none, .nilck (.t 2)⟩, ⟨(some 4), none, .faddr 1 (.t 3)⟩, ⟨none, none, .store 1 (.t 4) (.c (.bool true))⟩])⟩
/-- gatepost/control.rules$5 -/
def c_control_rules_5 : FnC := ⟨5, [],
  (.region [⟨(some 2), none, .mv (.t 0)⟩, ⟨(some 3), none, .nilck (.t 2)⟩, ⟨(some 4), none, .faddr 2 (.t 3)⟩, ⟨none, none, .store 1 (.t 4) (.c (.bool true))⟩])⟩
/-- gatepost/control.rules$6 -/
def c_control_rules_6 : FnC := ⟨5, [],
  (.region [⟨(some 2), none, .mv (.t 0)⟩, ⟨(some 3), none, .nilck (.t 2)⟩, ⟨(some 4), none, .faddr 3 (.t 3)⟩, ⟨none, none, .store 1 (.t 4) (.c (.bool true))⟩])⟩
/-- gatepost/control.rules$7 -/
def c_control_rules_7 : FnC := ⟨5, [],
  (.region [⟨(some 2), none, .mv (.t 0)⟩, ⟨(some 3), none, .nilck (.t 2)⟩, ⟨(some 4), none, .faddr 4 (.t 3)⟩, ⟨none, none, .store 1 (.t 4) (.c (.bool true))⟩])⟩
/-- gatepost/control.rules$8 -/
def c_control_rules_8 : FnC := ⟨5, [],
  (.region [⟨(some 2), none, .mv (.t 0)⟩, ⟨(some 3), none, .nilck (.t 2)⟩, ⟨(some 4), none, .faddr 5 (.t 3)⟩, ⟨none, none, .store 1 (.t 4) (.c (.bool true))⟩])⟩
/-- gatepost/control.rules$9 -/
def c_control_rules_9 : FnC := ⟨5, [],
  (.region [⟨(some 2), none, .mv (.t 0)⟩, ⟨(some 3), none, .nilck (.t 2)⟩, ⟨(some 4), none, .faddr 6 (.t 3)⟩, ⟨none, none, .store 1 (.t 4) (.c (.bool true))⟩])⟩
/-- gatepost/control.rules$10 -/
def c_control_rules_10 : FnC := ⟨6, [.tmp 2],
  (.seq (.region [⟨(some 2), none, .mv (.c .nilp)⟩])
  (.seq (.region [⟨(some 3), none, .mv (.t 0)⟩, ⟨(some 4), none, .nilck (.t 3)⟩, ⟨(some 5), none, .faddr 7 (.t 4)⟩, ⟨(some 2), none, .mv (.t 5)⟩])
  .ret))⟩
/-- gatepost/control.rules$11 -/
def c_control_rules_11 : FnC := ⟨6, [.tmp 2],
  (.seq (.region [⟨(some 2), none, .mv (.c .nilp)⟩])
  (.seq (.region [⟨(some 3), none, .mv (.t 0)⟩, ⟨(some 4), none, .nilck (.t 3)⟩, ⟨(some 5), none, .faddr 8 (.t 4)⟩, ⟨(some 2), none, .mv (.t 5)⟩])
  .ret))⟩
/-- gatepost/control.rules$12 -/
def c_control_rules_12 : FnC := ⟨6, [.tmp 2],
  (.seq (.region [⟨(some 2), none, .mv (.c .nilp)⟩])
  (.seq (.region [⟨(some 3), none, .mv (.t 0)⟩, ⟨(some 4), none, .nilck (.t 3)⟩, ⟨(some 5), none, .faddr 9 (.t 4)⟩, ⟨(some 2), none, .mv (.t 5)⟩])
  .ret))⟩
/-- gatepost/control.rules$13 -/
def c_control_rules_13 : FnC := ⟨6, [.tmp 2],
  (.seq (.region [⟨(some 2), none, .mv (.c .nilp)⟩])
  (.seq (.region [⟨(some 3), none, .mv (.t 0)⟩, ⟨(some 4), none, .nilck (.t 3)⟩, ⟨(some 5), none, .faddr 10 (.t 4)⟩, ⟨(some 2), none, .mv (.t 5)⟩])
  .ret))⟩
/-- gatepost/control.rules$14 -/
def c_control_rules_14 : FnC := ⟨6, [.tmp 2],
  (.seq (.region [⟨(some 2), none, .mv (.c .nilp)⟩])
  (.seq (.region [⟨(some 3), none, .mv (.t 0)⟩, ⟨(some 4), none, .nilck (.t 3)⟩, ⟨(some 5), none, .faddr 11 (.t 4)⟩, ⟨(some 2), none, .mv (.t 5)⟩])
  .ret))⟩
/-- gatepost/control.rules$15 -/
def c_control_rules_15 : FnC := ⟨6, [.tmp 2],
  (.seq (.region [⟨(some 2), none, .mv (.c .nilp)⟩])
  (.seq (.region [⟨(some 3), none, .mv (.t 0)⟩, ⟨(some 4), none, .nilck (.t 3)⟩, ⟨(some 5), none, .faddr 12 (.t 4)⟩, ⟨(some 2), none, .mv (.t 5)⟩])
  .ret))⟩
/-- strings.Cut -/
def c_strings_Cut : FnC := ⟨13, [.tmp 4, .tmp 5, .tmp 6],
  (.seq (.region [⟨(some 4), none, .mv (.c (.str []))⟩, ⟨(some 5), none, .mv (.c (.str []))⟩, ⟨(some 6), none, .mv (.c (.bool false))⟩])
  (.seq (.region [⟨(some 7), none, .mv (.t 0)⟩, ⟨(some 8), none, .mv (.t 1)⟩, ⟨(some 9), none, .call i_internal_stringslite_Cut [(.t 7), (.t 8)]⟩, ⟨(some 10), none, .ext 0 (.t 9)⟩, ⟨(some 11), none, .ext 1 (.t 9)⟩, ⟨(some 12), none, .ext 2 (.t 9)⟩, ⟨(some 4), none, .mv (.t 10)⟩, ⟨(some 5), none, .mv (.t 11)⟩, ⟨(some 6), none, .mv (.t 12)⟩])
  .ret))⟩
/-- gatepost/token.unquote -/
def c_token_unquote : FnC := ⟨49, [.tmp 2, .tmp 3],
  (.seq (.region [⟨(some 2), none, .mv (.c (.str []))⟩, ⟨(some 3), none, .mv (.c (.bool false))⟩])
  (.seq (.region [⟨(some 10), none, .mv (.t 0)⟩, ⟨(some 11), none, .call i_strings_CutPrefix [(.t 10), (.c (.str [34]))]⟩, ⟨(some 9), none, .mv (.t 11)⟩, ⟨(some 12), none, .ext 0 (.t 9)⟩, ⟨(some 13), none, .ext 1 (.t 9)⟩, ⟨(some 4), none, .mv (.t 12)⟩, ⟨(some 5), none, .mv (.t 13)⟩])
  (.seq (.region [⟨(some 6), none, .boxz [.nilp, .nsl]⟩])
  (.seq (.seq (.region [⟨(some 7), none, .mv (.c (.int .i64 0))⟩])
  (.block 0 (.loop
    (.seq (.seq (.region [⟨(some 14), none, .mv (.t 5)⟩, ⟨(some 15), none, .mv (.t 14)⟩, ⟨(some 16), (some (15, true)), .mv (.t 7)⟩, ⟨(some 17), (some (15, true)), .mv (.t 4)⟩, ⟨(some 18), (some (15, true)), .len 0 (.t 17)⟩, ⟨(some 19), (some (15, true)), .bin .lss (.t 16) (.t 18)⟩, ⟨(some 20), none, .pick (.t 15) (.t 19) (.c (.bool false))⟩])
    (.cond (.t 20)
      .skip
      (.exit 0)))
    (.seq (.block 1 (.seq (.region [⟨(some 23), none, .mv (.t 4)⟩, ⟨(some 24), none, .mv (.t 7)⟩, ⟨(some 25), none, .ixStr (.t 23) (.t 24)⟩, ⟨(some 8), none, .mv (.t 25)⟩])
    (.seq (.seq (.region [⟨(some 26), none, .mv (.t 8)⟩, ⟨(some 27), none, .bin .eql (.t 26) (.c (.int .u8 34))⟩])
    (.cond (.t 27)
      (.seq (.region [⟨(some 28), none, .call i___strings_Builder__String [(.t 6)]⟩, ⟨(some 29), none, .mv (.t 7)⟩, ⟨(some 30), none, .mv (.t 4)⟩, ⟨(some 31), none, .len 0 (.t 30)⟩, ⟨(some 32), none, .bin .sub (.t 31) (.c (.int .i64 1))⟩, ⟨(some 33), none, .bin .eql (.t 29) (.t 32)⟩, ⟨(some 2), none, .mv (.t 28)⟩, ⟨(some 3), none, .mv (.t 33)⟩])
      .ret)
      .skip))
    (.seq (.seq (.region [⟨(some 34), none, .mv (.t 8)⟩, ⟨(some 35), none, .bin .eql (.t 34) (.c (.int .u8 92))⟩])
    (.cond (.t 35)
      (.seq (.seq (.region [⟨(some 36), none, .mv (.t 7)⟩, ⟨(some 37), none, .bin .add (.t 36) (.c (.int .i64 1))⟩, ⟨(some 7), none, .mv (.t 37)⟩])
      (.seq (.region [⟨(some 38), none, .mv (.t 7)⟩, ⟨(some 39), none, .mv (.t 4)⟩, ⟨(some 40), none, .len 0 (.t 39)⟩, ⟨(some 41), none, .bin .eql (.t 38) (.t 40)⟩])
      (.cond (.t 41)
        (.exit 0)
        .skip)))
      (.region [⟨(some 42), none, .mv (.t 4)⟩, ⟨(some 43), none, .mv (.t 7)⟩, ⟨(some 44), none, .ixStr (.t 42) (.t 43)⟩, ⟨(some 8), none, .mv (.t 44)⟩]))
      .skip))
    (.seq (.region [⟨(some 45), none, .mv (.t 8)⟩, ⟨(some 46), none, .call i_token_inQuotes [(.t 45)]⟩, ⟨(some 5), none, .mv (.t 46)⟩])
    (.region [⟨(some 47), none, .mv (.t 8)⟩, ⟨(some 48), none, .call i___strings_Builder__WriteByte [(.t 6), (.t 47)]⟩]))))))
    (.region [⟨(some 21), none, .mv (.t 7)⟩, ⟨(some 22), none, .bin .add (.t 21) (.c (.int .i64 1))⟩, ⟨(some 7), none, .mv (.t 22)⟩]))))))
  (.seq (.region [⟨(some 2), none, .mv (.c (.str []))⟩, ⟨(some 3), none, .mv (.c (.bool false))⟩])
  .ret)))))⟩
/-- (*gatepost/date.reader).day -/
def c___gatepost_date_reader__day : FnC := ⟨44, [.tmp 4],
  (.seq (.region [⟨(some 4), none, .mv (.c (.int .i64 0))⟩])
  (.seq (.seq (.region [⟨(some 7), none, .call i_date_longDays []⟩, ⟨(some 8), none, .mv (.c (.int .i64 0))⟩])
  (.block 0 (.loop
    (.seq (.region [⟨(some 9), none, .bin .lss (.t 8) (.c (.int .i64 7))⟩])
    (.seq (.cond (.t 9)
      .skip
      (.exit 0))
    (.seq (.block 1 (.seq (.region [⟨(some 10), none, .mv (.t 8)⟩, ⟨(some 11), none, .ixArr 7 1 false (.t 7) (.t 8)⟩, ⟨(some 5), none, .mv (.t 10)⟩, ⟨(some 6), none, .mv (.t 11)⟩])
    (.seq (.seq (.region [⟨(some 12), none, .mv (.t 1)⟩, ⟨(some 13), none, .un .not (.t 12)⟩])
    (.cond (.t 13)
      (.region [⟨(some 14), none, .mv (.t 6)⟩, ⟨(some 15), none, .slstr (.t 14) none (some (.c (.int .i64 3)))⟩, ⟨(some 6), none, .mv (.t 15)⟩])
      .skip))
    (.seq (.region [⟨(some 16), none, .mv (.t 0)⟩, ⟨(some 17), none, .nilck (.t 16)⟩, ⟨(some 18), none, .faddr 0 (.t 17)⟩, ⟨(some 19), none, .load false 1 (.t 18)⟩, ⟨(some 20), none, .len 0 (.t 19)⟩, ⟨(some 21), none, .mv (.t 6)⟩, ⟨(some 22), none, .len 0 (.t 21)⟩, ⟨(some 23), none, .bin .gtr (.t 20) (.t 22)⟩, ⟨(some 24), none, .mv (.t 23)⟩, ⟨(some 25), (some (24, true)), .mv (.t 0)⟩, ⟨(some 26), (some (24, true)), .nilck (.t 25)⟩, ⟨(some 27), (some (24, true)), .faddr 0 (.t 26)⟩, ⟨(some 28), (some (24, true)), .load false 1 (.t 27)⟩, ⟨(some 29), (some (24, true)), .mv (.t 6)⟩, ⟨(some 30), (some (24, true)), .len 0 (.t 29)⟩, ⟨(some 31), (some (24, true)), .slstr (.t 28) none (some (.t 30))⟩, ⟨(some 32), (some (24, true)), .mv (.t 6)⟩, ⟨(some 33), (some (24, true)), .bin .eql (.t 31) (.t 32)⟩, ⟨(some 34), none, .pick (.t 24) (.t 33) (.c (.bool false))⟩])
    (.cond (.t 34)
      (.seq (.region [⟨(some 35), none, .mv (.t 0)⟩, ⟨(some 36), none, .mv (.t 6)⟩, ⟨(some 37), none, .len 0 (.t 36)⟩, ⟨(some 38), none, .call i___gatepost_date_reader__take [(.t 35), (.t 37)]⟩])
      (.seq (.region [⟨(some 39), none, .mv (.t 5)⟩, ⟨(some 4), none, .mv (.t 39)⟩])
      .ret))
      .skip)))))
    (.region [⟨(some 40), none, .bin .add (.t 8) (.c (.int .i64 1))⟩, ⟨(some 8), none, .mv (.t 40)⟩])))))))
  (.seq (.region [⟨(some 41), none, .mv (.t 0)⟩, ⟨(some 42), none, .nilck (.t 41)⟩, ⟨(some 43), none, .faddr 1 (.t 42)⟩, ⟨none, none, .store 1 (.t 43) (.c (.bool false))⟩])
  (.seq (.region [⟨(some 4), none, .mv (.c (.int .i64 0))⟩])
  .ret))))⟩
/-- (*gatepost/date.reader).need -/
def c___gatepost_date_reader__need : FnC := ⟨13, [],
  (.seq (.region [⟨(some 4), none, .mv (.t 0)⟩, ⟨(some 5), none, .mv (.t 1)⟩, ⟨(some 6), none, .len 0 (.t 5)⟩, ⟨(some 7), none, .call i___gatepost_date_reader__take [(.t 4), (.t 6)]⟩, ⟨(some 8), none, .mv (.t 1)⟩, ⟨(some 9), none, .bin .neq (.t 7) (.t 8)⟩])
  (.cond (.t 9)
    (.region [⟨(some 10), none, .mv (.t 0)⟩, ⟨(some 11), none, .nilck (.t 10)⟩, ⟨(some 12), none, .faddr 1 (.t 11)⟩, ⟨none, none, .store 1 (.t 12) (.c (.bool false))⟩])
    .skip))⟩
/-- (*gatepost/date.reader).number -/
def c___gatepost_date_reader__number : FnC := ⟨25, [.tmp 4],
  (.seq (.region [⟨(some 2), none, .box (.t 0)⟩, ⟨(some 4), none, .mv (.c (.int .i64 0))⟩])
  (.seq (.region [⟨(some 9), none, .load false 1 (.t 2)⟩, ⟨(some 10), none, .mv (.t 1)⟩, ⟨(some 11), none, .call i___gatepost_date_reader__take [(.t 9), (.t 10)]⟩, ⟨(some 5), none, .mv (.t 11)⟩])
  (.seq (.region [⟨(some 6), none, .boxz [(.int .i64 0)]⟩, ⟨none, none, .store 1 (.t 6) (.c (.int .i64 0))⟩])
  (.seq (.region [⟨(some 12), none, .mkfn i___gatepost_date_reader__number_1 [(.t 2), (.t 6)]⟩, ⟨(some 7), none, .mv (.t 12)⟩])
  (.seq (.seq (.region [⟨(some 13), none, .mv (.t 5)⟩, ⟨(some 14), none, .len 0 (.t 13)⟩, ⟨(some 15), none, .mv (.c (.int .i64 0))⟩])
  (.block 0 (.loop
    (.seq (.region [⟨(some 16), none, .bin .lss (.t 15) (.t 14)⟩])
    (.seq (.cond (.t 16)
      .skip
      (.exit 0))
    (.seq (.block 1 (.seq (.region [⟨(some 17), none, .mv (.t 15)⟩, ⟨(some 8), none, .mv (.t 17)⟩])
    (.region [⟨(some 18), none, .mv (.t 7)⟩, ⟨(some 19), none, .mv (.t 5)⟩, ⟨(some 20), none, .mv (.t 8)⟩, ⟨(some 21), none, .ixStr (.t 19) (.t 20)⟩, ⟨(some 22), none, .callv (.t 18) [(.t 21)]⟩])))
    (.region [⟨(some 23), none, .bin .add (.t 15) (.c (.int .i64 1))⟩, ⟨(some 15), none, .mv (.t 23)⟩])))))))
  (.seq (.region [⟨(some 24), none, .load false 1 (.t 6)⟩, ⟨(some 4), none, .mv (.t 24)⟩])
  .ret))))))⟩
/-- (*gatepost/date.reader).month -/
def c___gatepost_date_reader__month : FnC := ⟨22, [.tmp 2],
  (.seq (.region [⟨(some 2), none, .mv (.c (.int .i64 0))⟩])
  (.seq (.region [⟨(some 6), none, .mv (.t 0)⟩, ⟨(some 7), none, .call i___gatepost_date_reader__take [(.t 6), (.c (.int .i64 3))]⟩, ⟨(some 3), none, .mv (.t 7)⟩])
  (.seq (.seq (.region [⟨(some 8), none, .call i_date_monthNames []⟩, ⟨(some 9), none, .mv (.c (.int .i64 0))⟩])
  (.block 0 (.loop
    (.seq (.region [⟨(some 10), none, .bin .lss (.t 9) (.c (.int .i64 12))⟩])
    (.seq (.cond (.t 10)
      .skip
      (.exit 0))
    (.seq (.block 1 (.seq (.region [⟨(some 11), none, .mv (.t 9)⟩, ⟨(some 12), none, .ixArr 12 1 false (.t 8) (.t 9)⟩, ⟨(some 4), none, .mv (.t 11)⟩, ⟨(some 5), none, .mv (.t 12)⟩])
    (.seq (.region [⟨(some 13), none, .mv (.t 5)⟩, ⟨(some 14), none, .mv (.t 3)⟩, ⟨(some 15), none, .bin .eql (.t 13) (.t 14)⟩])
    (.cond (.t 15)
      (.seq (.region [⟨(some 16), none, .mv (.t 4)⟩, ⟨(some 17), none, .bin .add (.t 16) (.c (.int .i64 1))⟩, ⟨(some 2), none, .mv (.t 17)⟩])
      .ret)
      .skip))))
    (.region [⟨(some 18), none, .bin .add (.t 9) (.c (.int .i64 1))⟩, ⟨(some 9), none, .mv (.t 18)⟩])))))))
  (.seq (.region [⟨(some 19), none, .mv (.t 0)⟩, ⟨(some 20), none, .nilck (.t 19)⟩, ⟨(some 21), none, .faddr 1 (.t 20)⟩, ⟨none, none, .store 1 (.t 21) (.c (.bool false))⟩])
  (.seq (.region [⟨(some 2), none, .mv (.c (.int .i64 0))⟩])
  .ret)))))⟩
/-- (*gatepost/date.reader).clock -/
def c___gatepost_date_reader__clock : FnC := ⟨37, [.tmp 2],
  (.seq (.region [⟨(some 2), none, .mv (.c (.int .i64 0))⟩])
  (.seq (.region [⟨(some 6), none, .mv (.t 0)⟩, ⟨(some 7), none, .call i___gatepost_date_reader__number [(.t 6), (.c (.int .i64 2))]⟩, ⟨(some 3), none, .mv (.t 7)⟩])
  (.seq (.region [⟨(some 8), none, .mv (.t 0)⟩, ⟨(some 9), none, .call i___gatepost_date_reader__need [(.t 8), (.c (.str [58]))]⟩])
  (.seq (.region [⟨(some 10), none, .mv (.t 0)⟩, ⟨(some 11), none, .call i___gatepost_date_reader__number [(.t 10), (.c (.int .i64 2))]⟩, ⟨(some 4), none, .mv (.t 11)⟩])
  (.seq (.region [⟨(some 12), none, .mv (.t 0)⟩, ⟨(some 13), none, .call i___gatepost_date_reader__need [(.t 12), (.c (.str [58]))]⟩])
  (.seq (.region [⟨(some 14), none, .mv (.t 0)⟩, ⟨(some 15), none, .call i___gatepost_date_reader__number [(.t 14), (.c (.int .i64 2))]⟩, ⟨(some 5), none, .mv (.t 15)⟩])
  (.seq (.seq (.region [⟨(some 16), none, .mv (.t 3)⟩, ⟨(some 17), none, .bin .geq (.t 16) (.c (.int .i64 24))⟩, ⟨(some 18), none, .mv (.t 17)⟩, ⟨(some 19), (some (18, false)), .mv (.t 4)⟩, ⟨(some 20), (some (18, false)), .bin .geq (.t 19) (.c (.int .i64 60))⟩, ⟨(some 21), none, .pick (.t 18) (.c (.bool true)) (.t 20)⟩, ⟨(some 22), none, .mv (.t 21)⟩, ⟨(some 23), (some (22, false)), .mv (.t 5)⟩, ⟨(some 24), (some (22, false)), .bin .gtr (.t 23) (.c (.int .i64 60))⟩, ⟨(some 25), none, .pick (.t 22) (.c (.bool true)) (.t 24)⟩])
  (.cond (.t 25)
    (.region [⟨(some 26), none, .mv (.t 0)⟩, ⟨(some 27), none, .nilck (.t 26)⟩, ⟨(some 28), none, .faddr 1 (.t 27)⟩, ⟨none, none, .store 1 (.t 28) (.c (.bool false))⟩])
    .skip))
  (.seq (.region [⟨(some 29), none, .mv (.t 3)⟩, ⟨(some 30), none, .bin .mul (.t 29) (.c (.int .i64 3600))⟩, ⟨(some 31), none, .mv (.t 4)⟩, ⟨(some 32), none, .bin .mul (.t 31) (.c (.int .i64 60))⟩, ⟨(some 33), none, .bin .add (.t 30) (.t 32)⟩, ⟨(some 34), none, .mv (.t 5)⟩, ⟨(some 35), none, .mn [(.t 34), (.c (.int .i64 59))]⟩, ⟨(some 36), none, .bin .add (.t 33) (.t 35)⟩, ⟨(some 2), none, .mv (.t 36)⟩])
  .ret))))))))⟩
/-- (*gatepost/date.reader).second -/
def c___gatepost_date_reader__second : FnC := ⟨46, [.tmp 12, .tmp 13],
  (.seq (.region [⟨(some 12), none, .mv (.c (.int .i64 0))⟩, ⟨(some 13), none, .mv (.c (.bool false))⟩])
  (.seq (.region [⟨(some 15), none, .mv (.t 2)⟩, ⟨(some 16), none, .mv (.t 3)⟩, ⟨(some 17), none, .mv (.t 4)⟩, ⟨(some 18), none, .call i_date_Days [(.t 15), (.t 16), (.t 17)]⟩, ⟨(some 14), none, .mv (.t 18)⟩])
  (.seq (.seq (.region [⟨(some 19), none, .mv (.t 0)⟩, ⟨(some 20), none, .nilck (.t 19)⟩, ⟨(some 21), none, .faddr 1 (.t 20)⟩, ⟨(some 22), none, .load false 1 (.t 21)⟩, ⟨(some 23), none, .un .not (.t 22)⟩, ⟨(some 24), none, .mv (.t 23)⟩, ⟨(some 25), (some (24, false)), .mv (.t 0)⟩, ⟨(some 26), (some (24, false)), .nilck (.t 25)⟩, ⟨(some 27), (some (24, false)), .faddr 0 (.t 26)⟩, ⟨(some 28), (some (24, false)), .load false 1 (.t 27)⟩, ⟨(some 29), (some (24, false)), .bin .neq (.t 28) (.c (.str []))⟩, ⟨(some 30), none, .pick (.t 24) (.c (.bool true)) (.t 29)⟩, ⟨(some 31), none, .mv (.t 30)⟩, ⟨(some 32), (some (31, false)), .mv (.t 14)⟩, ⟨(some 33), (some (31, false)), .bin .lss (.t 32) (.c (.int .i64 0))⟩, ⟨(some 34), none, .pick (.t 31) (.c (.bool true)) (.t 33)⟩, ⟨(some 35), none, .mv (.t 34)⟩, ⟨(some 36), (some (35, false)), .mv (.t 14)⟩, ⟨(some 37), (some (35, false)), .bin .add (.t 36) (.c (.int .i64 3))⟩, ⟨(some 38), (some (35, false)), .bin .rem (.t 37) (.c (.int .i64 7))⟩, ⟨(some 39), (some (35, false)), .mv (.t 1)⟩, ⟨(some 40), (some (35, false)), .bin .neq (.t 38) (.t 39)⟩, ⟨(some 41), none, .pick (.t 35) (.c (.bool true)) (.t 40)⟩])
  (.cond (.t 41)
    (.seq (.region [⟨(some 12), none, .mv (.c (.int .i64 0))⟩, ⟨(some 13), none, .mv (.c (.bool false))⟩])
    .ret)
    .skip))
  (.seq (.region [⟨(some 42), none, .mv (.t 14)⟩, ⟨(some 43), none, .bin .mul (.t 42) (.c (.int .i64 86400))⟩, ⟨(some 44), none, .mv (.t 5)⟩, ⟨(some 45), none, .bin .add (.t 43) (.t 44)⟩, ⟨(some 12), none, .mv (.t 45)⟩, ⟨(some 13), none, .mv (.c (.bool true))⟩])
  .ret))))⟩
/-- (*gatepost/date.reader).take -/
def c___gatepost_date_reader__take : FnC := ⟨32, [.tmp 4],
  (.seq (.region [⟨(some 4), none, .mv (.c (.str []))⟩])
  (.seq (.seq (.region [⟨(some 6), none, .mv (.t 0)⟩, ⟨(some 7), none, .nilck (.t 6)⟩, ⟨(some 8), none, .faddr 0 (.t 7)⟩, ⟨(some 9), none, .load false 1 (.t 8)⟩, ⟨(some 10), none, .len 0 (.t 9)⟩, ⟨(some 11), none, .mv (.t 1)⟩, ⟨(some 12), none, .bin .lss (.t 10) (.t 11)⟩])
  (.cond (.t 12)
    (.seq (.region [⟨(some 13), none, .mv (.t 0)⟩, ⟨(some 14), none, .nilck (.t 13)⟩, ⟨(some 15), none, .faddr 1 (.t 14)⟩, ⟨none, none, .store 1 (.t 15) (.c (.bool false))⟩])
    (.seq (.region [⟨(some 4), none, .mv (.c (.str []))⟩])
    .ret))
    .skip))
  (.seq (.region [⟨(some 16), none, .mv (.t 0)⟩, ⟨(some 17), none, .nilck (.t 16)⟩, ⟨(some 18), none, .faddr 0 (.t 17)⟩, ⟨(some 19), none, .load false 1 (.t 18)⟩, ⟨(some 20), none, .mv (.t 1)⟩, ⟨(some 21), none, .slstr (.t 19) none (some (.t 20))⟩, ⟨(some 5), none, .mv (.t 21)⟩])
  (.seq (.region [⟨(some 22), none, .mv (.t 0)⟩, ⟨(some 23), none, .mv (.t 0)⟩, ⟨(some 24), none, .nilck (.t 23)⟩, ⟨(some 25), none, .faddr 0 (.t 24)⟩, ⟨(some 26), none, .load false 1 (.t 25)⟩, ⟨(some 27), none, .mv (.t 1)⟩, ⟨(some 28), none, .slstr (.t 26) (some (.t 27)) none⟩, ⟨(some 29), none, .nilck (.t 22)⟩, ⟨(some 30), none, .faddr 0 (.t 29)⟩, ⟨none, none, .store 1 (.t 30) (.t 28)⟩])
  (.seq (.region [⟨(some 31), none, .mv (.t 5)⟩, ⟨(some 4), none, .mv (.t 31)⟩])
  .ret)))))⟩
/-- strings.makeASCIISet -/
def c_strings_makeASCIISet : FnC := ⟨21, [.cell 2 true 256, .tmp 3],
  (.seq (.region [⟨(some 2), none, .boxz (List.replicate 256 (.bool false))⟩, ⟨(some 3), none, .mv (.c (.bool false))⟩])
  (.seq (.seq (.region [⟨(some 4), none, .mv (.c (.int .i64 0))⟩])
  (.block 0 (.loop
    (.seq (.seq (.region [⟨(some 6), none, .mv (.t 4)⟩, ⟨(some 7), none, .mv (.t 0)⟩, ⟨(some 8), none, .len 0 (.t 7)⟩, ⟨(some 9), none, .bin .lss (.t 6) (.t 8)⟩])
    (.cond (.t 9)
      .skip
      (.exit 0)))
    (.seq (.block 1 (.seq (.region [⟨(some 12), none, .mv (.t 0)⟩, ⟨(some 13), none, .mv (.t 4)⟩, ⟨(some 14), none, .ixStr (.t 12) (.t 13)⟩, ⟨(some 5), none, .mv (.t 14)⟩])
    (.seq (.seq (.region [⟨(some 15), none, .mv (.t 5)⟩, ⟨(some 16), none, .bin .geq (.t 15) (.c (.int .u8 128))⟩])
    (.cond (.t 16)
      (.seq (.region [⟨(some 17), none, .load true 256 (.t 2)⟩, ⟨none, none, .store 256 (.t 2) (.t 17)⟩, ⟨(some 3), none, .mv (.c (.bool false))⟩])
      .ret)
      .skip))
    (.region [⟨(some 18), none, .mv (.t 5)⟩, ⟨(some 19), none, .ixaArr 256 1 (.t 2) (.t 18)⟩, ⟨none, none, .store 1 (.t 19) (.c (.bool true))⟩]))))
    (.region [⟨(some 10), none, .mv (.t 4)⟩, ⟨(some 11), none, .bin .add (.t 10) (.c (.int .i64 1))⟩, ⟨(some 4), none, .mv (.t 11)⟩]))))))
  (.seq (.region [⟨(some 20), none, .load true 256 (.t 2)⟩, ⟨none, none, .store 256 (.t 2) (.t 20)⟩, ⟨(some 3), none, .mv (.c (.bool true))⟩])
  .ret)))⟩
/-- strings.trimLeftASCII -/
def c_strings_trimLeftASCII : FnC := ⟨16, [.tmp 4],
  (.seq (.region [⟨(some 4), none, .mv (.c (.str []))⟩])
  (.seq (.block 0 (.loop
    (.seq (.seq (.region [⟨(some 5), none, .mv (.t 0)⟩, ⟨(some 6), none, .len 0 (.t 5)⟩, ⟨(some 7), none, .bin .gtr (.t 6) (.c (.int .i64 0))⟩])
    (.cond (.t 7)
      .skip
      (.exit 0)))
    (.block 1 (.seq (.seq (.region [⟨(some 8), none, .mv (.t 1)⟩, ⟨(some 9), none, .mv (.t 0)⟩, ⟨(some 10), none, .ixStr (.t 9) (.c (.int .i64 0))⟩, ⟨(some 11), none, .call i___strings_asciiSet__contains [(.t 8), (.t 10)]⟩, ⟨(some 12), none, .un .not (.t 11)⟩])
    (.cond (.t 12)
      (.exit 0)
      .skip))
    (.region [⟨(some 13), none, .mv (.t 0)⟩, ⟨(some 14), none, .slstr (.t 13) (some (.c (.int .i64 1))) none⟩, ⟨(some 0), none, .mv (.t 14)⟩]))))))
  (.seq (.region [⟨(some 15), none, .mv (.t 0)⟩, ⟨(some 4), none, .mv (.t 15)⟩])
  .ret)))⟩
/-- strings.trimRightASCII -/
def c_strings_trimRightASCII : FnC := ⟨22, [.tmp 4],
  (.seq (.region [⟨(some 4), none, .mv (.c (.str []))⟩])
  (.seq (.block 0 (.loop
    (.seq (.seq (.region [⟨(some 5), none, .mv (.t 0)⟩, ⟨(some 6), none, .len 0 (.t 5)⟩, ⟨(some 7), none, .bin .gtr (.t 6) (.c (.int .i64 0))⟩])
    (.cond (.t 7)
      .skip
      (.exit 0)))
    (.block 1 (.seq (.seq (.region [⟨(some 8), none, .mv (.t 1)⟩, ⟨(some 9), none, .mv (.t 0)⟩, ⟨(some 10), none, .mv (.t 0)⟩, ⟨(some 11), none, .len 0 (.t 10)⟩, ⟨(some 12), none, .bin .sub (.t 11) (.c (.int .i64 1))⟩, ⟨(some 13), none, .ixStr (.t 9) (.t 12)⟩, ⟨(some 14), none, .call i___strings_asciiSet__contains [(.t 8), (.t 13)]⟩, ⟨(some 15), none, .un .not (.t 14)⟩])
    (.cond (.t 15)
      (.exit 0)
      .skip))
    (.region [⟨(some 16), none, .mv (.t 0)⟩, ⟨(some 17), none, .mv (.t 0)⟩, ⟨(some 18), none, .len 0 (.t 17)⟩, ⟨(some 19), none, .bin .sub (.t 18) (.c (.int .i64 1))⟩, ⟨(some 20), none, .slstr (.t 16) none (some (.t 19))⟩, ⟨(some 0), none, .mv (.t 20)⟩]))))))
  (.seq (.region [⟨(some 21), none, .mv (.t 0)⟩, ⟨(some 4), none, .mv (.t 21)⟩])
  .ret)))⟩
/-- gatepost/gatepostref01.unquote -/
def c_gatepostref01_unquote : FnC := ⟨56, [.tmp 2, .tmp 3],
  (.seq (.region [⟨(some 2), none, .mv (.c (.str []))⟩, ⟨(some 3), none, .mv (.c (.bool false))⟩])
  (.seq (.seq (.region [⟨(some 6), none, .mv (.t 0)⟩, ⟨(some 7), none, .len 0 (.t 6)⟩, ⟨(some 8), none, .bin .lss (.t 7) (.c (.int .i64 2))⟩, ⟨(some 9), none, .mv (.t 8)⟩, ⟨(some 10), (some (9, false)), .mv (.t 0)⟩, ⟨(some 11), (some (9, false)), .ixStr (.t 10) (.c (.int .i64 0))⟩, ⟨(some 12), (some (9, false)), .bin .neq (.t 11) (.c (.int .u8 34))⟩, ⟨(some 13), none, .pick (.t 9) (.c (.bool true)) (.t 12)⟩])
  (.cond (.t 13)
    (.seq (.region [⟨(some 2), none, .mv (.c (.str []))⟩, ⟨(some 3), none, .mv (.c (.bool false))⟩])
    .ret)
    .skip))
  (.seq (.region [⟨(some 4), none, .mv (.c (.str []))⟩])
  (.seq (.region [⟨(some 5), none, .mv (.c (.int .i64 1))⟩])
  (.seq (.block 0 (.loop
    (.seq (.seq (.region [⟨(some 14), none, .mv (.t 5)⟩, ⟨(some 15), none, .mv (.t 0)⟩, ⟨(some 16), none, .len 0 (.t 15)⟩, ⟨(some 17), none, .bin .lss (.t 14) (.t 16)⟩, ⟨(some 18), none, .mv (.t 17)⟩, ⟨(some 19), (some (18, true)), .mv (.t 0)⟩, ⟨(some 20), (some (18, true)), .mv (.t 5)⟩, ⟨(some 21), (some (18, true)), .ixStr (.t 19) (.t 20)⟩, ⟨(some 22), (some (18, true)), .bin .neq (.t 21) (.c (.int .u8 34))⟩, ⟨(some 23), none, .pick (.t 18) (.t 22) (.c (.bool false))⟩])
    (.cond (.t 23)
      .skip
      (.exit 0)))
    (.block 1 (.seq (.seq (.region [⟨(some 24), none, .mv (.t 0)⟩, ⟨(some 25), none, .mv (.t 5)⟩, ⟨(some 26), none, .ixStr (.t 24) (.t 25)⟩, ⟨(some 27), none, .bin .eql (.t 26) (.c (.int .u8 92))⟩])
    (.cond (.t 27)
      (.region [⟨(some 28), none, .mv (.t 5)⟩, ⟨(some 29), none, .bin .add (.t 28) (.c (.int .i64 1))⟩, ⟨(some 5), none, .mv (.t 29)⟩])
      .skip))
    (.seq (.seq (.region [⟨(some 30), none, .mv (.t 5)⟩, ⟨(some 31), none, .mv (.t 0)⟩, ⟨(some 32), none, .len 0 (.t 31)⟩, ⟨(some 33), none, .bin .geq (.t 30) (.t 32)⟩, ⟨(some 34), none, .mv (.t 33)⟩, ⟨(some 35), (some (34, false)), .mv (.t 0)⟩, ⟨(some 36), (some (34, false)), .mv (.t 5)⟩, ⟨(some 37), (some (34, false)), .ixStr (.t 35) (.t 36)⟩, ⟨(some 38), (some (34, false)), .call i_gatepostref01_text [(.t 37)]⟩, ⟨(some 39), (some (34, false)), .un .not (.t 38)⟩, ⟨(some 40), none, .pick (.t 34) (.c (.bool true)) (.t 39)⟩])
    (.cond (.t 40)
      (.seq (.region [⟨(some 2), none, .mv (.c (.str []))⟩, ⟨(some 3), none, .mv (.c (.bool false))⟩])
      .ret)
      .skip))
    (.seq (.region [⟨(some 41), none, .mv (.t 4)⟩, ⟨(some 42), none, .mv (.t 0)⟩, ⟨(some 43), none, .mv (.t 5)⟩, ⟨(some 44), none, .mv (.t 5)⟩, ⟨(some 45), none, .bin .add (.t 44) (.c (.int .i64 1))⟩, ⟨(some 46), none, .slstr (.t 42) (some (.t 43)) (some (.t 45))⟩, ⟨(some 47), none, .bin .add (.t 41) (.t 46)⟩, ⟨(some 4), none, .mv (.t 47)⟩])
    (.region [⟨(some 48), none, .mv (.t 5)⟩, ⟨(some 49), none, .bin .add (.t 48) (.c (.int .i64 1))⟩, ⟨(some 5), none, .mv (.t 49)⟩]))))))))
  (.seq (.region [⟨(some 50), none, .mv (.t 4)⟩, ⟨(some 51), none, .mv (.t 5)⟩, ⟨(some 52), none, .mv (.t 0)⟩, ⟨(some 53), none, .len 0 (.t 52)⟩, ⟨(some 54), none, .bin .sub (.t 53) (.c (.int .i64 1))⟩, ⟨(some 55), none, .bin .eql (.t 51) (.t 54)⟩, ⟨(some 2), none, .mv (.t 50)⟩, ⟨(some 3), none, .mv (.t 55)⟩])
  .ret))))))⟩
/-- gatepost/gatepostref02.Days -/
def c_gatepostref02_Days : FnC := ⟨57, [.tmp 6],
  (.seq (.region [⟨(some 6), none, .mv (.c (.int .i64 0))⟩])
  (.seq (.seq (.region [⟨(some 10), none, .mv (.t 0)⟩, ⟨(some 11), none, .bin .lss (.t 10) (.c (.int .i64 1970))⟩, ⟨(some 12), none, .mv (.t 11)⟩, ⟨(some 13), (some (12, false)), .mv (.t 0)⟩, ⟨(some 14), (some (12, false)), .bin .gtr (.t 13) (.c (.int .i64 9999))⟩, ⟨(some 15), none, .pick (.t 12) (.c (.bool true)) (.t 14)⟩, ⟨(some 16), none, .mv (.t 15)⟩, ⟨(some 17), (some (16, false)), .mv (.t 1)⟩, ⟨(some 18), (some (16, false)), .bin .lss (.t 17) (.c (.int .i64 1))⟩, ⟨(some 19), none, .pick (.t 16) (.c (.bool true)) (.t 18)⟩, ⟨(some 20), none, .mv (.t 19)⟩, ⟨(some 21), (some (20, false)), .mv (.t 1)⟩, ⟨(some 22), (some (20, false)), .bin .gtr (.t 21) (.c (.int .i64 12))⟩, ⟨(some 23), none, .pick (.t 20) (.c (.bool true)) (.t 22)⟩, ⟨(some 24), none, .mv (.t 23)⟩, ⟨(some 25), (some (24, false)), .mv (.t 2)⟩, ⟨(some 26), (some (24, false)), .bin .lss (.t 25) (.c (.int .i64 1))⟩, ⟨(some 27), none, .pick (.t 24) (.c (.bool true)) (.t 26)⟩, ⟨(some 28), none, .mv (.t 27)⟩, ⟨(some 29), (some (28, false)), .mv (.t 2)⟩, ⟨(some 30), (some (28, false)), .mv (.t 0)⟩, ⟨(some 31), (some (28, false)), .mv (.t 1)⟩, ⟨(some 32), (some (28, false)), .call i_gatepostref02_long [(.t 30), (.t 31)]⟩, ⟨(some 33), (some (28, false)), .bin .gtr (.t 29) (.t 32)⟩, ⟨(some 34), none, .pick (.t 28) (.c (.bool true)) (.t 33)⟩])
  (.cond (.t 34)
    (.seq (.region [⟨(some 6), none, .mv (.c (.int .i64 (-1)))⟩])
    .ret)
    .skip))
  (.seq (.region [⟨(some 35), none, .mv (.t 2)⟩, ⟨(some 36), none, .bin .sub (.t 35) (.c (.int .i64 1))⟩, ⟨(some 7), none, .mv (.t 36)⟩])
  (.seq (.seq (.region [⟨(some 8), none, .mv (.c (.int .i64 1970))⟩])
  (.block 0 (.loop
    (.seq (.seq (.region [⟨(some 37), none, .mv (.t 8)⟩, ⟨(some 38), none, .mv (.t 0)⟩, ⟨(some 39), none, .bin .lss (.t 37) (.t 38)⟩])
    (.cond (.t 39)
      .skip
      (.exit 0)))
    (.seq (.block 1 (.region [⟨(some 42), none, .mv (.t 7)⟩, ⟨(some 43), none, .mv (.t 8)⟩, ⟨(some 44), none, .call i_gatepostref02_year [(.t 43)]⟩, ⟨(some 45), none, .bin .add (.t 42) (.t 44)⟩, ⟨(some 7), none, .mv (.t 45)⟩]))
    (.region [⟨(some 40), none, .mv (.t 8)⟩, ⟨(some 41), none, .bin .add (.t 40) (.c (.int .i64 1))⟩, ⟨(some 8), none, .mv (.t 41)⟩]))))))
  (.seq (.seq (.region [⟨(some 9), none, .mv (.c (.int .i64 1))⟩])
  (.block 2 (.loop
    (.seq (.seq (.region [⟨(some 46), none, .mv (.t 9)⟩, ⟨(some 47), none, .mv (.t 1)⟩, ⟨(some 48), none, .bin .lss (.t 46) (.t 47)⟩])
    (.cond (.t 48)
      .skip
      (.exit 2)))
    (.seq (.block 3 (.region [⟨(some 51), none, .mv (.t 7)⟩, ⟨(some 52), none, .mv (.t 0)⟩, ⟨(some 53), none, .mv (.t 9)⟩, ⟨(some 54), none, .call i_gatepostref02_long [(.t 52), (.t 53)]⟩, ⟨(some 55), none, .bin .add (.t 51) (.t 54)⟩, ⟨(some 7), none, .mv (.t 55)⟩]))
    (.region [⟨(some 49), none, .mv (.t 9)⟩, ⟨(some 50), none, .bin .add (.t 49) (.c (.int .i64 1))⟩, ⟨(some 9), none, .mv (.t 50)⟩]))))))
  (.seq (.region [⟨(some 56), none, .mv (.t 7)⟩, ⟨(some 6), none, .mv (.t 56)⟩])
  .ret))))))⟩
/-- gatepost/gatepostref01.tchar -/
def c_gatepostref01_tchar : FnC := ⟨42, [.tmp 2],
  (.seq (.region [⟨(some 2), none, .mv (.c (.bool false))⟩])
  (.seq (.seq (.region [⟨(some 3), none, .mv (.t 0)⟩, ⟨(some 4), none, .bin .geq (.t 3) (.c (.int .u8 97))⟩, ⟨(some 5), none, .mv (.t 4)⟩, ⟨(some 6), (some (5, true)), .mv (.t 0)⟩, ⟨(some 7), (some (5, true)), .bin .leq (.t 6) (.c (.int .u8 122))⟩, ⟨(some 8), none, .pick (.t 5) (.t 7) (.c (.bool false))⟩, ⟨(some 9), none, .mv (.t 8)⟩, ⟨(some 10), (some (9, false)), .mv (.t 0)⟩, ⟨(some 11), (some (9, false)), .bin .geq (.t 10) (.c (.int .u8 65))⟩, ⟨(some 12), (some (9, false)), .mv (.t 11)⟩, ⟨(some 13), (some (12, true)), .mv (.t 0)⟩, ⟨(some 14), (some (12, true)), .bin .leq (.t 13) (.c (.int .u8 90))⟩, ⟨(some 15), (some (9, false)), .pick (.t 12) (.t 14) (.c (.bool false))⟩, ⟨(some 16), none, .pick (.t 9) (.c (.bool true)) (.t 15)⟩, ⟨(some 17), none, .mv (.t 16)⟩, ⟨(some 18), (some (17, false)), .mv (.t 0)⟩, ⟨(some 19), (some (17, false)), .bin .geq (.t 18) (.c (.int .u8 48))⟩, ⟨(some 20), (some (17, false)), .mv (.t 19)⟩, ⟨(some 21), (some (20, true)), .mv (.t 0)⟩, ⟨(some 22), (some (20, true)), .bin .leq (.t 21) (.c (.int .u8 57))⟩, ⟨(some 23), (some (17, false)), .pick (.t 20) (.t 22) (.c (.bool false))⟩, ⟨(some 24), none, .pick (.t 17) (.c (.bool true)) (.t 23)⟩])
  (.cond (.t 24)
    (.seq (.region [⟨(some 2), none, .mv (.c (.bool true))⟩])
    .ret)
    .skip))
  (.seq (.seq (.region [⟨(some 25), none, .mv (.t 0)⟩])
  (.block 0 (.seq (.seq (.region [⟨(some 27), none, .bin .eql (.t 25) (.c (.int .u8 33))⟩, ⟨(some 26), none, .mv (.t 27)⟩])
  (.cond (.t 26)
    .skip
    (.seq (.region [⟨(some 28), none, .bin .eql (.t 25) (.c (.int .u8 35))⟩, ⟨(some 26), none, .mv (.t 28)⟩])
    (.cond (.t 26)
      .skip
      (.seq (.region [⟨(some 29), none, .bin .eql (.t 25) (.c (.int .u8 36))⟩, ⟨(some 26), none, .mv (.t 29)⟩])
      (.cond (.t 26)
        .skip
        (.seq (.region [⟨(some 30), none, .bin .eql (.t 25) (.c (.int .u8 37))⟩, ⟨(some 26), none, .mv (.t 30)⟩])
        (.cond (.t 26)
          .skip
          (.seq (.region [⟨(some 31), none, .bin .eql (.t 25) (.c (.int .u8 38))⟩, ⟨(some 26), none, .mv (.t 31)⟩])
          (.cond (.t 26)
            .skip
            (.seq (.region [⟨(some 32), none, .bin .eql (.t 25) (.c (.int .u8 39))⟩, ⟨(some 26), none, .mv (.t 32)⟩])
            (.cond (.t 26)
              .skip
              (.seq (.region [⟨(some 33), none, .bin .eql (.t 25) (.c (.int .u8 42))⟩, ⟨(some 26), none, .mv (.t 33)⟩])
              (.cond (.t 26)
                .skip
                (.seq (.region [⟨(some 34), none, .bin .eql (.t 25) (.c (.int .u8 43))⟩, ⟨(some 26), none, .mv (.t 34)⟩])
                (.cond (.t 26)
                  .skip
                  (.seq (.region [⟨(some 35), none, .bin .eql (.t 25) (.c (.int .u8 45))⟩, ⟨(some 26), none, .mv (.t 35)⟩])
                  (.cond (.t 26)
                    .skip
                    (.seq (.region [⟨(some 36), none, .bin .eql (.t 25) (.c (.int .u8 46))⟩, ⟨(some 26), none, .mv (.t 36)⟩])
                    (.cond (.t 26)
                      .skip
                      (.seq (.region [⟨(some 37), none, .bin .eql (.t 25) (.c (.int .u8 94))⟩, ⟨(some 26), none, .mv (.t 37)⟩])
                      (.cond (.t 26)
                        .skip
                        (.seq (.region [⟨(some 38), none, .bin .eql (.t 25) (.c (.int .u8 95))⟩, ⟨(some 26), none, .mv (.t 38)⟩])
                        (.cond (.t 26)
                          .skip
                          (.seq (.region [⟨(some 39), none, .bin .eql (.t 25) (.c (.int .u8 96))⟩, ⟨(some 26), none, .mv (.t 39)⟩])
                          (.cond (.t 26)
                            .skip
                            (.seq (.region [⟨(some 40), none, .bin .eql (.t 25) (.c (.int .u8 124))⟩, ⟨(some 26), none, .mv (.t 40)⟩])
                            (.cond (.t 26)
                              .skip
                              (.region [⟨(some 41), none, .bin .eql (.t 25) (.c (.int .u8 126))⟩, ⟨(some 26), none, .mv (.t 41)⟩])))))))))))))))))))))))))))))
  (.cond (.t 26)
    (.seq (.region [⟨(some 2), none, .mv (.c (.bool true))⟩])
    .ret)
    .skip))))
  (.seq (.region [⟨(some 2), none, .mv (.c (.bool false))⟩])
  .ret))))⟩
/-- gatepost/token.marks -/
def c_token_marks : FnC := ⟨2, [.cell 0 true 15],
  (.seq (.region [⟨(some 0), none, .boxz [(.int .u8 0), (.int .u8 0), (.int .u8 0), (.int .u8 0), (.int .u8 0), (.int .u8 0), (.int .u8 0), (.int .u8 0), (.int .u8 0), (.int .u8 0), (.int .u8 0), (.int .u8 0), (.int .u8 0), (.int .u8 0), (.int .u8 0)]⟩])
  (.seq (.region [⟨(some 1), none, .build [(.int .u8 0), (.int .u8 0), (.int .u8 0), (.int .u8 0), (.int .u8 0), (.int .u8 0), (.int .u8 0), (.int .u8 0), (.int .u8 0), (.int .u8 0), (.int .u8 0), (.int .u8 0), (.int .u8 0), (.int .u8 0), (.int .u8 0)] [(0, 1, (.c (.int .u8 33))), (1, 1, (.c (.int .u8 35))), (2, 1, (.c (.int .u8 36))), (3, 1, (.c (.int .u8 37))), (4, 1, (.c (.int .u8 38))), (5, 1, (.c (.int .u8 39))), (6, 1, (.c (.int .u8 42))), (7, 1, (.c (.int .u8 43))), (8, 1, (.c (.int .u8 45))), (9, 1, (.c (.int .u8 46))), (10, 1, (.c (.int .u8 94))), (11, 1, (.c (.int .u8 95))), (12, 1, (.c (.int .u8 96))), (13, 1, (.c (.int .u8 124))), (14, 1, (.c (.int .u8 126)))]⟩, ⟨none, none, .store 15 (.t 0) (.t 1)⟩])
  .ret))⟩
/-- internal/stringslite.Cut -/
def c_internal_stringslite_Cut : FnC := ⟨23, [.tmp 4, .tmp 5, .tmp 6],
  (.seq (.region [⟨(some 4), none, .mv (.c (.str []))⟩, ⟨(some 5), none, .mv (.c (.str []))⟩, ⟨(some 6), none, .mv (.c (.bool false))⟩])
  (.seq (.seq (.region [⟨(some 8), none, .mv (.t 0)⟩, ⟨(some 9), none, .mv (.t 1)⟩, ⟨(some 10), none, .call i_internal_stringslite_Index [(.t 8), (.t 9)]⟩, ⟨(some 7), none, .mv (.t 10)⟩])
  (.seq (.region [⟨(some 11), none, .mv (.t 7)⟩, ⟨(some 12), none, .bin .geq (.t 11) (.c (.int .i64 0))⟩])
  (.cond (.t 12)
    (.seq (.dregion [⟨(some 13), none, .mv (.t 0)⟩, ⟨(some 14), none, .mv (.t 7)⟩, ⟨(some 15), none, .slstr (.t 13) none (some (.t 14))⟩, ⟨(some 16), none, .mv (.t 0)⟩, ⟨(some 17), none, .mv (.t 7)⟩, ⟨(some 18), none, .mv (.t 1)⟩, ⟨(some 19), none, .len 0 (.t 18)⟩, ⟨(some 20), none, .bin .add (.t 17) (.t 19)⟩, ⟨(some 21), none, .slstr (.t 16) (some (.t 20)) none⟩, ⟨(some 4), none, .mv (.t 15)⟩] [⟨(some 5), none, .mv (.t 21)⟩, ⟨(some 6), none, .mv (.c (.bool true))⟩])
    .ret)
    .skip)))
  (.seq (.region [⟨(some 22), none, .mv (.t 0)⟩, ⟨(some 4), none, .mv (.t 22)⟩, ⟨(some 5), none, .mv (.c (.str []))⟩, ⟨(some 6), none, .mv (.c (.bool false))⟩])
  .ret)))⟩
/-- strings.CutPrefix -/
def c_strings_CutPrefix : FnC := ⟨11, [.tmp 4, .tmp 5],
  (.seq (.region [⟨(some 4), none, .mv (.c (.str []))⟩, ⟨(some 5), none, .mv (.c (.bool false))⟩])
  (.seq (.region [⟨(some 6), none, .mv (.t 0)⟩, ⟨(some 7), none, .mv (.t 1)⟩, ⟨(some 8), none, .call i_internal_stringslite_CutPrefix [(.t 6), (.t 7)]⟩, ⟨(some 9), none, .ext 0 (.t 8)⟩, ⟨(some 10), none, .ext 1 (.t 8)⟩, ⟨(some 4), none, .mv (.t 9)⟩, ⟨(some 5), none, .mv (.t 10)⟩])
  .ret))⟩
/-- gatepost/token.inQuotes -/
def c_token_inQuotes : FnC := ⟨13, [.tmp 2],
  (.seq (.region [⟨(some 2), none, .mv (.c (.bool false))⟩])
  (.seq (.region [⟨(some 3), none, .mv (.t 0)⟩, ⟨(some 4), none, .bin .eql (.t 3) (.c (.int .u8 9))⟩, ⟨(some 5), none, .mv (.t 4)⟩, ⟨(some 6), (some (5, false)), .mv (.t 0)⟩, ⟨(some 7), (some (5, false)), .bin .geq (.t 6) (.c (.int .u8 32))⟩, ⟨(some 8), (some (5, false)), .mv (.t 7)⟩, ⟨(some 9), (some (8, true)), .mv (.t 0)⟩, ⟨(some 10), (some (8, true)), .bin .neq (.t 9) (.c (.int .u8 127))⟩, ⟨(some 11), (some (5, false)), .pick (.t 8) (.t 10) (.c (.bool false))⟩, ⟨(some 12), none, .pick (.t 5) (.c (.bool true)) (.t 11)⟩, ⟨(some 2), none, .mv (.t 12)⟩])
  .ret))⟩
/-- gatepost/date.longDays -/
def c_date_longDays : FnC := ⟨2, [.cell 0 true 7],
  (.seq (.region [⟨(some 0), none, .boxz [(.str []), (.str []), (.str []), (.str []), (.str []), (.str []), (.str [])]⟩])
  (.seq (.region [⟨(some 1), none, .build [(.str []), (.str []), (.str []), (.str []), (.str []), (.str []), (.str [])] [(0, 1, (.c (.str [77, 111, 110, 100, 97, 121]))), (1, 1, (.c (.str [84, 117, 101, 115, 100, 97, 121]))), (2, 1, (.c (.str [87, 101, 100, 110, 101, 115, 100, 97, 121]))), (3, 1, (.c (.str [84, 104, 117, 114, 115, 100, 97, 121]))), (4, 1, (.c (.str [70, 114, 105, 100, 97, 121]))), (5, 1, (.c (.str [83, 97, 116, 117, 114, 100, 97, 121]))), (6, 1, (.c (.str [83, 117, 110, 100, 97, 121])))]⟩, ⟨none, none, .store 7 (.t 0) (.t 1)⟩])
  .ret))⟩
/-- (*gatepost/date.reader).number$1 -/
def c___gatepost_date_reader__number_1 : FnC := ⟨19, [],
  (.seq (.seq (.region [⟨(some 4), none, .mv (.t 0)⟩, ⟨(some 5), none, .bin .lss (.t 4) (.c (.int .u8 48))⟩, ⟨(some 6), none, .mv (.t 5)⟩, ⟨(some 7), (some (6, false)), .mv (.t 0)⟩, ⟨(some 8), (some (6, false)), .bin .gtr (.t 7) (.c (.int .u8 57))⟩, ⟨(some 9), none, .pick (.t 6) (.c (.bool true)) (.t 8)⟩])
  (.cond (.t 9)
    (.region [⟨(some 10), none, .load false 1 (.t 1)⟩, ⟨(some 11), none, .nilck (.t 10)⟩, ⟨(some 12), none, .faddr 1 (.t 11)⟩, ⟨none, none, .store 1 (.t 12) (.c (.bool false))⟩])
    .skip))
  (.region [⟨(some 13), none, .load false 1 (.t 2)⟩, ⟨(some 14), none, .bin .mul (.c (.int .i64 10)) (.t 13)⟩, ⟨(some 15), none, .mv (.t 0)⟩, ⟨(some 16), none, .bin .sub (.t 15) (.c (.int .u8 48))⟩, ⟨(some 17), none, .toInt .i64 (.t 16)⟩, ⟨(some 18), none, .bin .add (.t 14) (.t 17)⟩, ⟨none, none, .store 1 (.t 2) (.t 18)⟩]))⟩
/-- gatepost/date.monthNames -/
def c_date_monthNames : FnC := ⟨2, [.cell 0 true 12],
  (.seq (.region [⟨(some 0), none, .boxz [(.str []), (.str []), (.str []), (.str []), (.str []), (.str []), (.str []), (.str []), (.str []), (.str []), (.str []), (.str [])]⟩])
  (.seq (.region [⟨(some 1), none, .build [(.str []), (.str []), (.str []), (.str []), (.str []), (.str []), (.str []), (.str []), (.str []), (.str []), (.str []), (.str [])] [(0, 1, (.c (.str [74, 97, 110]))), (1, 1, (.c (.str [70, 101, 98]))), (2, 1, (.c (.str [77, 97, 114]))), (3, 1, (.c (.str [65, 112, 114]))), (4, 1, (.c (.str [77, 97, 121]))), (5, 1, (.c (.str [74, 117, 110]))), (6, 1, (.c (.str [74, 117, 108]))), (7, 1, (.c (.str [65, 117, 103]))), (8, 1, (.c (.str [83, 101, 112]))), (9, 1, (.c (.str [79, 99, 116]))), (10, 1, (.c (.str [78, 111, 118]))), (11, 1, (.c (.str [68, 101, 99])))]⟩, ⟨none, none, .store 12 (.t 0) (.t 1)⟩])
  .ret))⟩
/-- gatepost/date.Days -/
def c_date_Days : FnC := ⟨90, [.tmp 6],
  (.seq (.region [⟨(some 6), none, .mv (.c (.int .i64 0))⟩])
  (.seq (.seq (.region [⟨(some 15), none, .mv (.t 0)⟩, ⟨(some 16), none, .bin .lss (.t 15) (.c (.int .i64 1970))⟩, ⟨(some 17), none, .mv (.t 16)⟩, ⟨(some 18), (some (17, false)), .mv (.t 0)⟩, ⟨(some 19), (some (17, false)), .bin .gtr (.t 18) (.c (.int .i64 9999))⟩, ⟨(some 20), none, .pick (.t 17) (.c (.bool true)) (.t 19)⟩, ⟨(some 21), none, .mv (.t 20)⟩, ⟨(some 22), (some (21, false)), .mv (.t 1)⟩, ⟨(some 23), (some (21, false)), .bin .lss (.t 22) (.c (.int .i64 1))⟩, ⟨(some 24), none, .pick (.t 21) (.c (.bool true)) (.t 23)⟩, ⟨(some 25), none, .mv (.t 24)⟩, ⟨(some 26), (some (25, false)), .mv (.t 1)⟩, ⟨(some 27), (some (25, false)), .bin .gtr (.t 26) (.c (.int .i64 12))⟩, ⟨(some 28), none, .pick (.t 25) (.c (.bool true)) (.t 27)⟩, ⟨(some 29), none, .mv (.t 28)⟩, ⟨(some 30), (some (29, false)), .mv (.t 2)⟩, ⟨(some 31), (some (29, false)), .bin .lss (.t 30) (.c (.int .i64 1))⟩, ⟨(some 32), none, .pick (.t 29) (.c (.bool true)) (.t 31)⟩, ⟨(some 33), none, .mv (.t 32)⟩, ⟨(some 34), (some (33, false)), .mv (.t 2)⟩, ⟨(some 35), (some (33, false)), .bin .gtr (.t 34) (.c (.int .i64 31))⟩, ⟨(some 36), none, .pick (.t 33) (.c (.bool true)) (.t 35)⟩])
  (.cond (.t 36)
    (.seq (.region [⟨(some 6), none, .mv (.c (.int .i64 (-1)))⟩])
    .ret)
    .skip))
  (.seq (.region [⟨(some 37), none, .mv (.t 0)⟩, ⟨(some 38), none, .mv (.t 1)⟩, ⟨(some 39), none, .bin .sub (.t 38) (.c (.int .i64 3))⟩, ⟨(some 7), none, .mv (.t 37)⟩, ⟨(some 8), none, .mv (.t 39)⟩])
  (.seq (.seq (.region [⟨(some 40), none, .mv (.t 1)⟩, ⟨(some 41), none, .bin .leq (.t 40) (.c (.int .i64 2))⟩])
  (.cond (.t 41)
    (.region [⟨(some 42), none, .mv (.t 0)⟩, ⟨(some 43), none, .bin .sub (.t 42) (.c (.int .i64 1))⟩, ⟨(some 44), none, .mv (.t 1)⟩, ⟨(some 45), none, .bin .add (.t 44) (.c (.int .i64 9))⟩, ⟨(some 7), none, .mv (.t 43)⟩, ⟨(some 8), none, .mv (.t 45)⟩])
    .skip))
  (.seq (.region [⟨(some 46), none, .mv (.t 7)⟩, ⟨(some 47), none, .bin .quo (.t 46) (.c (.int .i64 400))⟩, ⟨(some 48), none, .mv (.t 7)⟩, ⟨(some 49), none, .bin .rem (.t 48) (.c (.int .i64 400))⟩, ⟨(some 9), none, .mv (.t 47)⟩, ⟨(some 10), none, .mv (.t 49)⟩])
  (.seq (.region [⟨(some 50), none, .mv (.t 9)⟩, ⟨(some 51), none, .bin .mul (.t 50) (.c (.int .i64 146097))⟩, ⟨(some 52), none, .mv (.t 10)⟩, ⟨(some 53), none, .bin .mul (.t 52) (.c (.int .i64 365))⟩, ⟨(some 54), none, .bin .add (.t 51) (.t 53)⟩, ⟨(some 55), none, .mv (.t 10)⟩, ⟨(some 56), none, .bin .quo (.t 55) (.c (.int .i64 4))⟩, ⟨(some 57), none, .bin .add (.t 54) (.t 56)⟩, ⟨(some 58), none, .mv (.t 10)⟩, ⟨(some 59), none, .bin .quo (.t 58) (.c (.int .i64 100))⟩, ⟨(some 60), none, .bin .sub (.t 57) (.t 59)⟩, ⟨(some 61), none, .mv (.t 8)⟩, ⟨(some 62), none, .bin .mul (.c (.int .i64 153)) (.t 61)⟩, ⟨(some 63), none, .bin .add (.t 62) (.c (.int .i64 2))⟩, ⟨(some 64), none, .bin .quo (.t 63) (.c (.int .i64 5))⟩, ⟨(some 65), none, .bin .add (.t 60) (.t 64)⟩, ⟨(some 66), none, .mv (.t 2)⟩, ⟨(some 67), none, .bin .add (.t 65) (.t 66)⟩, ⟨(some 68), none, .bin .sub (.t 67) (.c (.int .i64 1))⟩, ⟨(some 69), none, .bin .sub (.t 68) (.c (.int .i64 719468))⟩, ⟨(some 11), none, .mv (.t 69)⟩])
  (.seq (.seq (.region [⟨(some 71), none, .mv (.t 11)⟩, ⟨(some 72), none, .call i_date_Civil [(.t 71)]⟩, ⟨(some 70), none, .mv (.t 72)⟩, ⟨(some 73), none, .ext 0 (.t 70)⟩, ⟨(some 74), none, .ext 1 (.t 70)⟩, ⟨(some 75), none, .ext 2 (.t 70)⟩, ⟨(some 12), none, .mv (.t 73)⟩, ⟨(some 13), none, .mv (.t 74)⟩, ⟨(some 14), none, .mv (.t 75)⟩])
  (.seq (.region [⟨(some 76), none, .mv (.t 12)⟩, ⟨(some 77), none, .mv (.t 0)⟩, ⟨(some 78), none, .bin .neq (.t 76) (.t 77)⟩, ⟨(some 79), none, .mv (.t 78)⟩, ⟨(some 80), (some (79, false)), .mv (.t 13)⟩, ⟨(some 81), (some (79, false)), .mv (.t 1)⟩, ⟨(some 82), (some (79, false)), .bin .neq (.t 80) (.t 81)⟩, ⟨(some 83), none, .pick (.t 79) (.c (.bool true)) (.t 82)⟩, ⟨(some 84), none, .mv (.t 83)⟩, ⟨(some 85), (some (84, false)), .mv (.t 14)⟩, ⟨(some 86), (some (84, false)), .mv (.t 2)⟩, ⟨(some 87), (some (84, false)), .bin .neq (.t 85) (.t 86)⟩, ⟨(some 88), none, .pick (.t 84) (.c (.bool true)) (.t 87)⟩])
  (.cond (.t 88)
    (.seq (.region [⟨(some 6), none, .mv (.c (.int .i64 (-1)))⟩])
    .ret)
    .skip)))
  (.seq (.region [⟨(some 89), none, .mv (.t 11)⟩, ⟨(some 6), none, .mv (.t 89)⟩])
  .ret))))))))⟩
/-- (*strings.asciiSet).contains -/
def c___strings_asciiSet__contains : FnC := ⟨10, [.tmp 4],
  (.seq (.region [⟨(some 4), none, .mv (.c (.bool false))⟩])
  (.seq (.region [⟨(some 5), none, .mv (.t 0)⟩, ⟨(some 6), none, .mv (.t 1)⟩, ⟨(some 7), none, .nilck (.t 5)⟩, ⟨(some 8), none, .ixaArr 256 1 (.t 7) (.t 6)⟩, ⟨(some 9), none, .load false 1 (.t 8)⟩, ⟨(some 4), none, .mv (.t 9)⟩])
  .ret))⟩
/-- gatepost/gatepostref01.text -/
def c_gatepostref01_text : FnC := ⟨13, [.tmp 2],
  (.seq (.region [⟨(some 2), none, .mv (.c (.bool false))⟩])
  (.seq (.region [⟨(some 3), none, .mv (.t 0)⟩, ⟨(some 4), none, .bin .eql (.t 3) (.c (.int .u8 9))⟩, ⟨(some 5), none, .mv (.t 4)⟩, ⟨(some 6), (some (5, false)), .mv (.t 0)⟩, ⟨(some 7), (some (5, false)), .bin .geq (.t 6) (.c (.int .u8 32))⟩, ⟨(some 8), (some (5, false)), .mv (.t 7)⟩, ⟨(some 9), (some (8, true)), .mv (.t 0)⟩, ⟨(some 10), (some (8, true)), .bin .neq (.t 9) (.c (.int .u8 127))⟩, ⟨(some 11), (some (5, false)), .pick (.t 8) (.t 10) (.c (.bool false))⟩, ⟨(some 12), none, .pick (.t 5) (.c (.bool true)) (.t 11)⟩, ⟨(some 2), none, .mv (.t 12)⟩])
  .ret))⟩
/-- gatepost/gatepostref02.long -/
def c_gatepostref02_long : FnC := ⟨15, [.tmp 4],
  (.seq (.region [⟨(some 4), none, .mv (.c (.int .i64 0))⟩])
  (.seq (.seq (.region [⟨(some 5), none, .mv (.t 1)⟩])
  (.block 0 (.seq (.region [⟨(some 7), none, .bin .eql (.t 5) (.c (.int .i64 2))⟩, ⟨(some 6), none, .mv (.t 7)⟩])
  (.cond (.t 6)
    (.seq (.seq (.region [⟨(some 8), none, .mv (.t 0)⟩, ⟨(some 9), none, .call i_gatepostref02_leap [(.t 8)]⟩])
    (.cond (.t 9)
      (.seq (.region [⟨(some 4), none, .mv (.c (.int .i64 29))⟩])
      .ret)
      .skip))
    (.seq (.region [⟨(some 4), none, .mv (.c (.int .i64 28))⟩])
    .ret))
    (.seq (.seq (.region [⟨(some 11), none, .bin .eql (.t 5) (.c (.int .i64 4))⟩, ⟨(some 10), none, .mv (.t 11)⟩])
    (.cond (.t 10)
      .skip
      (.seq (.region [⟨(some 12), none, .bin .eql (.t 5) (.c (.int .i64 6))⟩, ⟨(some 10), none, .mv (.t 12)⟩])
      (.cond (.t 10)
        .skip
        (.seq (.region [⟨(some 13), none, .bin .eql (.t 5) (.c (.int .i64 9))⟩, ⟨(some 10), none, .mv (.t 13)⟩])
        (.cond (.t 10)
          .skip
          (.region [⟨(some 14), none, .bin .eql (.t 5) (.c (.int .i64 11))⟩, ⟨(some 10), none, .mv (.t 14)⟩])))))))
    (.cond (.t 10)
      (.seq (.region [⟨(some 4), none, .mv (.c (.int .i64 30))⟩])
      .ret)
      .skip))))))
  (.seq (.region [⟨(some 4), none, .mv (.c (.int .i64 31))⟩])
  .ret)))⟩
/-- gatepost/gatepostref02.year -/
def c_gatepostref02_year : FnC := ⟨5, [.tmp 2],
  (.seq (.region [⟨(some 2), none, .mv (.c (.int .i64 0))⟩])
  (.seq (.seq (.region [⟨(some 3), none, .mv (.t 0)⟩, ⟨(some 4), none, .call i_gatepostref02_leap [(.t 3)]⟩])
  (.cond (.t 4)
    (.seq (.region [⟨(some 2), none, .mv (.c (.int .i64 366))⟩])
    .ret)
    .skip))
  (.seq (.region [⟨(some 2), none, .mv (.c (.int .i64 365))⟩])
  .ret)))⟩
/-- internal/stringslite.CutPrefix -/
def c_internal_stringslite_CutPrefix : FnC := ⟨15, [.tmp 4, .tmp 5],
  (.seq (.region [⟨(some 4), none, .mv (.c (.str []))⟩, ⟨(some 5), none, .mv (.c (.bool false))⟩])
  (.seq (.seq (.region [⟨(some 6), none, .mv (.t 0)⟩, ⟨(some 7), none, .mv (.t 1)⟩, ⟨(some 8), none, .call i_internal_stringslite_HasPrefix [(.t 6), (.t 7)]⟩, ⟨(some 9), none, .un .not (.t 8)⟩])
  (.cond (.t 9)
    (.seq (.region [⟨(some 10), none, .mv (.t 0)⟩, ⟨(some 4), none, .mv (.t 10)⟩, ⟨(some 5), none, .mv (.c (.bool false))⟩])
    .ret)
    .skip))
  (.seq (.region [⟨(some 11), none, .mv (.t 0)⟩, ⟨(some 12), none, .mv (.t 1)⟩, ⟨(some 13), none, .len 0 (.t 12)⟩, ⟨(some 14), none, .slstr (.t 11) (some (.t 13)) none⟩, ⟨(some 4), none, .mv (.t 14)⟩, ⟨(some 5), none, .mv (.c (.bool true))⟩])
  .ret)))⟩
/-- gatepost/date.Civil -/
def c_date_Civil : FnC := ⟨70, [.tmp 2, .tmp 3, .tmp 4],
  (.seq (.region [⟨(some 2), none, .mv (.c (.int .i64 0))⟩, ⟨(some 3), none, .mv (.c (.int .i64 0))⟩, ⟨(some 4), none, .mv (.c (.int .i64 0))⟩])
  (.seq (.seq (.region [⟨(some 11), none, .mv (.t 0)⟩, ⟨(some 12), none, .bin .lss (.t 11) (.c (.int .i64 0))⟩, ⟨(some 13), none, .mv (.t 12)⟩, ⟨(some 14), (some (13, false)), .mv (.t 0)⟩, ⟨(some 15), (some (13, false)), .bin .gtr (.t 14) (.c (.int .i64 2932896))⟩, ⟨(some 16), none, .pick (.t 13) (.c (.bool true)) (.t 15)⟩])
  (.cond (.t 16)
    (.seq (.region [⟨(some 2), none, .mv (.c (.int .i64 0))⟩, ⟨(some 3), none, .mv (.c (.int .i64 0))⟩, ⟨(some 4), none, .mv (.c (.int .i64 0))⟩])
    .ret)
    .skip))
  (.seq (.region [⟨(some 17), none, .mv (.t 0)⟩, ⟨(some 18), none, .bin .add (.t 17) (.c (.int .i64 719468))⟩, ⟨(some 5), none, .mv (.t 18)⟩])
  (.seq (.region [⟨(some 19), none, .mv (.t 5)⟩, ⟨(some 20), none, .bin .quo (.t 19) (.c (.int .i64 146097))⟩, ⟨(some 21), none, .mv (.t 5)⟩, ⟨(some 22), none, .bin .rem (.t 21) (.c (.int .i64 146097))⟩, ⟨(some 6), none, .mv (.t 20)⟩, ⟨(some 7), none, .mv (.t 22)⟩])
  (.seq (.region [⟨(some 23), none, .mv (.t 7)⟩, ⟨(some 24), none, .mv (.t 7)⟩, ⟨(some 25), none, .bin .quo (.t 24) (.c (.int .i64 1460))⟩, ⟨(some 26), none, .bin .sub (.t 23) (.t 25)⟩, ⟨(some 27), none, .mv (.t 7)⟩, ⟨(some 28), none, .bin .quo (.t 27) (.c (.int .i64 36524))⟩, ⟨(some 29), none, .bin .add (.t 26) (.t 28)⟩, ⟨(some 30), none, .mv (.t 7)⟩, ⟨(some 31), none, .bin .quo (.t 30) (.c (.int .i64 146096))⟩, ⟨(some 32), none, .bin .sub (.t 29) (.t 31)⟩, ⟨(some 33), none, .bin .quo (.t 32) (.c (.int .i64 365))⟩, ⟨(some 8), none, .mv (.t 33)⟩])
  (.seq (.region [⟨(some 34), none, .mv (.t 7)⟩, ⟨(some 35), none, .mv (.t 8)⟩, ⟨(some 36), none, .bin .mul (.c (.int .i64 365)) (.t 35)⟩, ⟨(some 37), none, .mv (.t 8)⟩, ⟨(some 38), none, .bin .quo (.t 37) (.c (.int .i64 4))⟩, ⟨(some 39), none, .bin .add (.t 36) (.t 38)⟩, ⟨(some 40), none, .mv (.t 8)⟩, ⟨(some 41), none, .bin .quo (.t 40) (.c (.int .i64 100))⟩, ⟨(some 42), none, .bin .sub (.t 39) (.t 41)⟩, ⟨(some 43), none, .bin .sub (.t 34) (.t 42)⟩, ⟨(some 9), none, .mv (.t 43)⟩])
  (.seq (.region [⟨(some 44), none, .mv (.t 9)⟩, ⟨(some 45), none, .bin .mul (.c (.int .i64 5)) (.t 44)⟩, ⟨(some 46), none, .bin .add (.t 45) (.c (.int .i64 2))⟩, ⟨(some 47), none, .bin .quo (.t 46) (.c (.int .i64 153))⟩, ⟨(some 10), none, .mv (.t 47)⟩])
  (.seq (.region [⟨(some 48), none, .mv (.t 9)⟩, ⟨(some 49), none, .mv (.t 10)⟩, ⟨(some 50), none, .bin .mul (.c (.int .i64 153)) (.t 49)⟩, ⟨(some 51), none, .bin .add (.t 50) (.c (.int .i64 2))⟩, ⟨(some 52), none, .bin .quo (.t 51) (.c (.int .i64 5))⟩, ⟨(some 53), none, .bin .sub (.t 48) (.t 52)⟩, ⟨(some 54), none, .bin .add (.t 53) (.c (.int .i64 1))⟩, ⟨(some 4), none, .mv (.t 54)⟩])
  (.seq (.region [⟨(some 55), none, .mv (.t 10)⟩, ⟨(some 56), none, .bin .add (.t 55) (.c (.int .i64 3))⟩, ⟨(some 3), none, .mv (.t 56)⟩])
  (.seq (.region [⟨(some 57), none, .mv (.t 8)⟩, ⟨(some 58), none, .mv (.t 6)⟩, ⟨(some 59), none, .bin .mul (.c (.int .i64 400)) (.t 58)⟩, ⟨(some 60), none, .bin .add (.t 57) (.t 59)⟩, ⟨(some 2), none, .mv (.t 60)⟩])
  (.seq (.seq (.region [⟨(some 61), none, .mv (.t 3)⟩, ⟨(some 62), none, .bin .gtr (.t 61) (.c (.int .i64 12))⟩])
  (.cond (.t 62)
    (.seq (.region [⟨(some 63), none, .mv (.t 3)⟩, ⟨(some 64), none, .bin .sub (.t 63) (.c (.int .i64 12))⟩, ⟨(some 3), none, .mv (.t 64)⟩])
    (.region [⟨(some 65), none, .mv (.t 2)⟩, ⟨(some 66), none, .bin .add (.t 65) (.c (.int .i64 1))⟩, ⟨(some 2), none, .mv (.t 66)⟩]))
    .skip))
  (.seq (.region [⟨(some 67), none, .mv (.t 2)⟩, ⟨(some 68), none, .mv (.t 3)⟩, ⟨(some 69), none, .mv (.t 4)⟩, ⟨(some 2), none, .mv (.t 67)⟩, ⟨(some 3), none, .mv (.t 68)⟩, ⟨(some 4), none, .mv (.t 69)⟩])
  .ret))))))))))))⟩
/-- gatepost/gatepostref02.leap -/
def c_gatepostref02_leap : FnC := ⟨16, [.tmp 2],
  (.seq (.region [⟨(some 2), none, .mv (.c (.bool false))⟩])
  (.seq (.region [⟨(some 3), none, .mv (.t 0)⟩, ⟨(some 4), none, .bin .rem (.t 3) (.c (.int .i64 4))⟩, ⟨(some 5), none, .bin .eql (.t 4) (.c (.int .i64 0))⟩, ⟨(some 6), none, .mv (.t 5)⟩, ⟨(some 7), (some (6, true)), .mv (.t 0)⟩, ⟨(some 8), (some (6, true)), .bin .rem (.t 7) (.c (.int .i64 100))⟩, ⟨(some 9), (some (6, true)), .bin .neq (.t 8) (.c (.int .i64 0))⟩, ⟨(some 10), (some (6, true)), .mv (.t 9)⟩, ⟨(some 11), (some (10, false)), .mv (.t 0)⟩, ⟨(some 12), (some (10, false)), .bin .rem (.t 11) (.c (.int .i64 400))⟩, ⟨(some 13), (some (10, false)), .bin .eql (.t 12) (.c (.int .i64 0))⟩, ⟨(some 14), (some (6, true)), .pick (.t 10) (.c (.bool true)) (.t 13)⟩, ⟨(some 15), none, .pick (.t 6) (.t 14) (.c (.bool false))⟩, ⟨(some 2), none, .mv (.t 15)⟩])
  .ret))⟩
/-- internal/stringslite.HasPrefix -/
def c_internal_stringslite_HasPrefix : FnC := ⟨18, [.tmp 4],
  (.seq (.region [⟨(some 4), none, .mv (.c (.bool false))⟩])
  (.seq (.region [⟨(some 5), none, .mv (.t 0)⟩, ⟨(some 6), none, .len 0 (.t 5)⟩, ⟨(some 7), none, .mv (.t 1)⟩, ⟨(some 8), none, .len 0 (.t 7)⟩, ⟨(some 9), none, .bin .geq (.t 6) (.t 8)⟩, ⟨(some 10), none, .mv (.t 9)⟩, ⟨(some 11), (some (10, true)), .mv (.t 0)⟩, ⟨(some 12), (some (10, true)), .mv (.t 1)⟩, ⟨(some 13), (some (10, true)), .len 0 (.t 12)⟩, ⟨(some 14), (some (10, true)), .slstr (.t 11) none (some (.t 13))⟩, ⟨(some 15), (some (10, true)), .mv (.t 1)⟩, ⟨(some 16), (some (10, true)), .bin .eql (.t 14) (.t 15)⟩, ⟨(some 17), none, .pick (.t 10) (.t 16) (.c (.bool false))⟩, ⟨(some 4), none, .mv (.t 17)⟩])
  .ret))⟩
def tab : List (FuncId × FnC) := [(i_gatepostlaw10_StoringKeeps, c_gatepostlaw10_StoringKeeps), (i_gatepostlaw10_StoringTells, c_gatepostlaw10_StoringTells), (i_gatepostlaw10_few, c_gatepostlaw10_few), (i_token_Same, c_token_Same), (i_storing_Refresh, c_storing_Refresh), (i_storing_Of, c_storing_Of), (i_gatepostref10_Of, c_gatepostref10_Of), (i_storing_May, c_storing_May), (i_gatepostref10_May, c_gatepostref10_May), (i_gatepostref10_Refresh, c_gatepostref10_Refresh), (i_gatepostref04_Same, c_gatepostref04_Same), (i_token_Lower, c_token_Lower), (i_field_Strip, c_field_Strip), (i_storing_stays, c_storing_stays), (i_field_Del, c_field_Del), (i_storing_has, c_storing_has), (i_control_Of, c_control_Of), (i_storing_Of_1, c_storing_Of_1), (i_storing_dated, c_storing_dated), (i_field_Get, c_field_Get), (i_token_Split, c_token_Split), (i_token_Number, c_token_Number), (i_gatepostref08_Of, c_gatepostref08_Of), (i_gatepostref10_second, c_gatepostref10_second), (i_gatepostref04_Get, c_gatepostref04_Get), (i_gatepostref01_Split, c_gatepostref01_Split), (i_gatepostref01_Number, c_gatepostref01_Number), (i_storing_known, c_storing_known), (i_storing_varies, c_storing_varies), (i_fresh_Heuristic, c_fresh_Heuristic), (i_gatepostref10_has, c_gatepostref10_has), (i_gatepostref09_Heuristic, c_gatepostref09_Heuristic), (i_gatepostref04_Strip, c_gatepostref04_Strip), (i_gatepostref04_Del, c_gatepostref04_Del), (i_field_Names, c_field_Names), (i_field_without, c_field_without), (i_slices_ContainsFunc___gatepost_api_Field_gatepost_api_Field_, c_slices_ContainsFunc___gatepost_api_Field_gatepost_api_Field_), (i_storing_has_1, c_storing_has_1), (i_control_Parse, c_control_Parse), (i_control_nothing, c_control_nothing), (i_slices_Contains___string_string_, c_slices_Contains___string_string_), (i_date_Parse, c_date_Parse), (i_token_Split_1, c_token_Split_1), (i_token_Trim, c_token_Trim), (i_token_all, c_token_all), (i_token_Number_1, c_token_Number_1), (i_gatepostref08_Parse, c_gatepostref08_Parse), (i_gatepostref08_None, c_gatepostref08_None), (i_gatepostref01_Lower, c_gatepostref01_Lower), (i_gatepostref02_Parse, c_gatepostref02_Parse), (i_gatepostref01_Same, c_gatepostref01_Same), (i_gatepostref01_Trim, c_gatepostref01_Trim), (i_fresh_keeps, c_fresh_keeps), (i_gatepostref04_Names, c_gatepostref04_Names), (i_token_Is, c_token_Is), (i_field_keep, c_field_keep), (i_field_without_1, c_field_without_1), (i_slices_IndexFunc___gatepost_api_Field_gatepost_api_Field_, c_slices_IndexFunc___gatepost_api_Field_gatepost_api_Field_), (i_control_rules, c_control_rules), (i_token_Pair, c_token_Pair), (i__gatepost_control_rule__value, c__gatepost_control_rule__value), (i_slices_Index___string_string_, c_slices_Index___string_string_), (i_date_fixed, c_date_fixed), (i_date_old, c_date_old), (i_date_plain, c_date_plain), (i_strings_Trim, c_strings_Trim), (i_gatepostref01_Pair, c_gatepostref01_Pair), (i_gatepostref08_least, c_gatepostref08_least), (i_gatepostref02_second, c_gatepostref02_second), (i_gatepostref02_find, c_gatepostref02_find), (i_gatepostref02_short, c_gatepostref02_short), (i_gatepostref02_number, c_gatepostref02_number), (i_gatepostref02_months, c_gatepostref02_months), (i_gatepostref02_clock, c_gatepostref02_clock), (i_gatepostref01_blank, c_gatepostref01_blank), (i_gatepostref01_Is, c_gatepostref01_Is), (i_token_inToken, c_token_inToken), (i_control_rules_1, c_control_rules_1), (i_control_rules_2, c_control_rules_2), (i_control_rules_3, c_control_rules_3), (i_control_rules_4, c_control_rules_4), (i_control_rules_5, c_control_rules_5), (i_control_rules_6, c_control_rules_6), (i_control_rules_7, c_control_rules_7), (i_control_rules_8, c_control_rules_8), (i_control_rules_9, c_control_rules_9), (i_control_rules_10, c_control_rules_10), (i_control_rules_11, c_control_rules_11), (i_control_rules_12, c_control_rules_12), (i_control_rules_13, c_control_rules_13), (i_control_rules_14, c_control_rules_14), (i_control_rules_15, c_control_rules_15), (i_strings_Cut, c_strings_Cut), (i_token_unquote, c_token_unquote), (i___gatepost_date_reader__day, c___gatepost_date_reader__day), (i___gatepost_date_reader__need, c___gatepost_date_reader__need), (i___gatepost_date_reader__number, c___gatepost_date_reader__number), (i___gatepost_date_reader__month, c___gatepost_date_reader__month), (i___gatepost_date_reader__clock, c___gatepost_date_reader__clock), (i___gatepost_date_reader__second, c___gatepost_date_reader__second), (i___gatepost_date_reader__take, c___gatepost_date_reader__take), (i_strings_makeASCIISet, c_strings_makeASCIISet), (i_strings_trimLeftASCII, c_strings_trimLeftASCII), (i_strings_trimRightASCII, c_strings_trimRightASCII), (i_gatepostref01_unquote, c_gatepostref01_unquote), (i_gatepostref02_Days, c_gatepostref02_Days), (i_gatepostref01_tchar, c_gatepostref01_tchar), (i_token_marks, c_token_marks), (i_internal_stringslite_Cut, c_internal_stringslite_Cut), (i_strings_CutPrefix, c_strings_CutPrefix), (i_token_inQuotes, c_token_inQuotes), (i_date_longDays, c_date_longDays), (i___gatepost_date_reader__number_1, c___gatepost_date_reader__number_1), (i_date_monthNames, c_date_monthNames), (i_date_Days, c_date_Days), (i___strings_asciiSet__contains, c___strings_asciiSet__contains), (i_gatepostref01_text, c_gatepostref01_text), (i_gatepostref02_long, c_gatepostref02_long), (i_gatepostref02_year, c_gatepostref02_year), (i_internal_stringslite_CutPrefix, c_internal_stringslite_CutPrefix), (i_date_Civil, c_date_Civil), (i_gatepostref02_leap, c_gatepostref02_leap), (i_internal_stringslite_HasPrefix, c_internal_stringslite_HasPrefix)]
def F (f : FuncId) : Option FnC := tab.lookup f
theorem F_gatepostlaw10_StoringKeeps : F i_gatepostlaw10_StoringKeeps = some c_gatepostlaw10_StoringKeeps := rfl
end Go.Proofs.YtaahialaegfjgaaGreatDoor.Vh
end
