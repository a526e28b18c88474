/- The functions of a seat, compiled for the small machine. Printed by Print.lean. -/
import Derived.Test.YtaahialaegfjgaaDoorProg
import Derived.Test.YtaahialaegfjgaaDoorPk2
import Derived.KernelRfl
section
set_option maxRecDepth 100000
set_option linter.unusedVariables false
namespace Go.Proofs.YtaahialaegfjgaaDoor.Vh
open Go.Vm
def i_gatepostlaw10_StoringSays : FuncId := 3
def i_gatepostlaw10_StoringAuth : FuncId := 4
def i_gatepostlaw10_few : FuncId := 5
def i_storing_May : FuncId := 6
def i_control_Of : FuncId := 7
def i_storing_known : FuncId := 8
def i_storing_has : FuncId := 9
def i_storing_varies : FuncId := 10
def i_fresh_Heuristic : FuncId := 11
def i_field_Get : FuncId := 12
def i_control_Parse : FuncId := 13
def i_control_nothing : FuncId := 14
def i_token_Split : FuncId := 15
def i_token_Lower : FuncId := 16
def i_slices_Contains___string_string_ : FuncId := 17
def i_slices_ContainsFunc___gatepost_api_Field_gatepost_api_Field_ : FuncId := 18
def i_storing_has_1 : FuncId := 19
def i_token_Same : FuncId := 20
def i_fresh_keeps : FuncId := 21
def i_strings_Join : FuncId := 22
def i_control_rules : FuncId := 23
def i_token_Pair : FuncId := 24
def i__gatepost_control_rule__value : FuncId := 25
def i_token_Split_1 : FuncId := 26
def i_token_Trim : FuncId := 27
def i_slices_Index___string_string_ : FuncId := 28
def i_slices_IndexFunc___gatepost_api_Field_gatepost_api_Field_ : FuncId := 29
def i___strings_Builder__String : FuncId := 32
def i_control_rules_1 : FuncId := 33
def i_control_rules_2 : FuncId := 34
def i_control_rules_3 : FuncId := 35
def i_control_rules_4 : FuncId := 36
def i_control_rules_5 : FuncId := 37
def i_control_rules_6 : FuncId := 38
def i_control_rules_7 : FuncId := 39
def i_control_rules_8 : FuncId := 40
def i_control_rules_9 : FuncId := 41
def i_control_rules_10 : FuncId := 42
def i_control_rules_11 : FuncId := 43
def i_control_rules_12 : FuncId := 44
def i_control_rules_13 : FuncId := 45
def i_control_rules_14 : FuncId := 46
def i_control_rules_15 : FuncId := 47
def i_strings_Cut : FuncId := 48
def i_token_Is : FuncId := 49
def i_token_unquote : FuncId := 50
def i_token_Number : FuncId := 51
def i_strings_Trim : FuncId := 52
def i_internal_stringslite_Cut : FuncId := 55
def i_token_all : FuncId := 56
def i_token_inToken : FuncId := 57
def i_strings_CutPrefix : FuncId := 58
def i_token_inQuotes : FuncId := 59
def i___strings_Builder__WriteByte : FuncId := 60
def i_token_Number_1 : FuncId := 61
def i_strings_trimLeftByte : FuncId := 62
def i_strings_trimRightByte : FuncId := 63
def i_strings_makeASCIISet : FuncId := 64
def i_strings_trimLeftASCII : FuncId := 65
def i_strings_trimRightASCII : FuncId := 66
def i_strings_trimLeftUnicode : FuncId := 67
def i_strings_trimRightUnicode : FuncId := 68
def i_internal_stringslite_Index : FuncId := 71
def i_token_marks : FuncId := 72
def i_internal_stringslite_CutPrefix : FuncId := 73
def i___strings_asciiSet__contains : FuncId := 74
def i_internal_stringslite_HasPrefix : FuncId := 82
/-- gatepost/gatepostlaw10.StoringSays -/
def c_gatepostlaw10_StoringSays : FnC := ⟨63, [.tmp 6],
  (.seq (.region [⟨(some 6), none, .mv (.c (.bool false))⟩])
  (.seq (.seq (.region [⟨(some 12), none, .mv (.t 0)⟩, ⟨(some 13), none, .call i_gatepostlaw10_few [(.t 12)]⟩, ⟨(some 14), none, .un .not (.t 13)⟩])
  (.cond (.t 14)
    (.seq (.region [⟨(some 6), none, .mv (.c (.bool true))⟩])
    .ret)
    .skip))
  (.seq (.region [⟨(some 15), none, .build [(.str []), (.str []), (.int .i64 0), .nsl] [(0, 1, (.c (.str [71, 69, 84])))]⟩, ⟨(some 7), none, .boxz [(.str []), (.str []), (.int .i64 0), .nsl]⟩, ⟨none, none, .store 4 (.t 7) (.t 15)⟩])
  (.seq (.region [⟨(some 16), none, .mv (.t 1)⟩, ⟨(some 17), none, .bin .and (.t 16) (.c (.int .i64 255))⟩, ⟨(some 18), none, .bin .add (.c (.int .i64 200)) (.t 17)⟩, ⟨(some 1), none, .mv (.t 18)⟩])
  (.seq (.region [⟨(some 19), none, .build [(.str []), (.str [])] [(0, 1, (.c (.str [67, 97, 99, 104, 101, 45, 67, 111, 110, 116, 114, 111, 108]))), (1, 1, (.c (.str [110, 111, 45, 115, 116, 111, 114, 101])))]⟩, ⟨(some 20), none, .build [(.str []), (.str [])] [(0, 1, (.c (.str [99, 97, 99, 104, 101, 45, 99, 111, 110, 116, 114, 111, 108]))), (1, 1, (.c (.str [112, 114, 105, 118, 97, 116, 101])))]⟩, ⟨(some 21), none, .build [(.str []), (.str [])] [(0, 1, (.c (.str [86, 97, 114, 121]))), (1, 1, (.c (.str [97, 44, 32, 42])))]⟩, ⟨(some 22), none, .bsl 2 [(.t 19), (.t 20), (.t 21)]⟩, ⟨(some 8), none, .mv (.t 22)⟩])
  (.seq (.mregion [⟨(some 23), none, .mv (.t 1)⟩, ⟨(some 24), none, .bsl 2 []⟩, ⟨(some 25), none, .mv (.t 0)⟩, ⟨(some 26), none, .app 2 32 false (.t 24) (.t 25)⟩, ⟨(some 27), none, .mv (.t 8)⟩, ⟨(some 28), none, .mv (.t 2)⟩, ⟨(some 29), none, .bin .rem (.t 28) (.c (.int .i64 3))⟩, ⟨(some 30), none, .bin .add (.t 29) (.c (.int .i64 3))⟩, ⟨(some 31), none, .bin .rem (.t 30) (.c (.int .i64 3))⟩, ⟨(some 32), none, .ixaSl 2 (.t 27) (.t 31)⟩, ⟨(some 33), none, .load true 2 (.t 32)⟩, ⟨(some 34), none, .bsl 2 [(.t 33)]⟩] [⟨(some 35), none, .app 2 32 false (.t 26) (.t 34)⟩, ⟨(some 36), none, .build [(.int .i64 0), (.int .i64 0), (.str []), .nsl] [(1, 1, (.t 23)), (3, 1, (.t 35))]⟩, ⟨(some 9), none, .boxz [(.int .i64 0), (.int .i64 0), (.str []), .nsl]⟩] [⟨none, none, .store 4 (.t 9) (.t 36)⟩] [])
  (.seq (.seq (.region [⟨(some 37), none, .load true 4 (.t 7)⟩, ⟨(some 38), none, .load true 4 (.t 9)⟩, ⟨(some 39), none, .call i_storing_May [(.t 37), (.t 38)]⟩])
  (.cond (.t 39)
    (.seq (.region [⟨(some 6), none, .mv (.c (.bool false))⟩])
    .ret)
    .skip))
  (.seq (.region [⟨(some 40), none, .mv (.t 1)⟩, ⟨(some 41), none, .build [(.str []), (.str [])] [(0, 1, (.c (.str [67, 97, 99, 104, 101, 45, 67, 111, 110, 116, 114, 111, 108]))), (1, 1, (.c (.str [112, 117, 98, 108, 105, 99])))]⟩, ⟨(some 42), none, .build [(.str []), (.str [])] [(0, 1, (.c (.str [86, 97, 114, 121]))), (1, 1, (.c (.str [97])))]⟩, ⟨(some 43), none, .bsl 2 [(.t 41), (.t 42)]⟩, ⟨(some 44), none, .build [(.int .i64 0), (.int .i64 0), (.str []), .nsl] [(1, 1, (.t 40)), (3, 1, (.t 43))]⟩, ⟨(some 10), none, .boxz [(.int .i64 0), (.int .i64 0), (.str []), .nsl]⟩, ⟨none, none, .store 4 (.t 10) (.t 44)⟩])
  (.seq (.seq (.region [⟨(some 45), none, .load true 4 (.t 7)⟩, ⟨(some 46), none, .load true 4 (.t 10)⟩, ⟨(some 47), none, .call i_storing_May [(.t 45), (.t 46)]⟩, ⟨(some 48), none, .mv (.t 1)⟩, ⟨(some 49), none, .bin .neq (.t 48) (.c (.int .i64 304))⟩, ⟨(some 50), none, .eq .bool true (.t 47) (.t 49)⟩, ⟨(some 51), none, .mv (.t 50)⟩, ⟨(some 52), (some (51, false)), .build [(.str []), (.str []), (.int .i64 0), .nsl] [(0, 1, (.c (.str [103, 101, 116])))]⟩, ⟨(some 53), (some (51, false)), .load true 4 (.t 10)⟩, ⟨(some 54), (some (51, false)), .call i_storing_May [(.t 52), (.t 53)]⟩, ⟨(some 55), none, .pick (.t 51) (.c (.bool true)) (.t 54)⟩])
  (.cond (.t 55)
    (.seq (.region [⟨(some 6), none, .mv (.c (.bool false))⟩])
    .ret)
    .skip))
  (.seq (.region [⟨(some 56), none, .build [(.str []), (.str [])] [(0, 1, (.c (.str [67, 97, 99, 104, 101, 45, 67, 111, 110, 116, 114, 111, 108]))), (1, 1, (.c (.str [110, 111, 45, 115, 116, 111, 114, 101])))]⟩, ⟨(some 57), none, .bsl 2 [(.t 56)]⟩, ⟨(some 58), none, .build [(.str []), (.str []), (.int .i64 0), .nsl] [(0, 1, (.c (.str [71, 69, 84]))), (3, 1, (.t 57))]⟩, ⟨(some 11), none, .boxz [(.str []), (.str []), (.int .i64 0), .nsl]⟩, ⟨none, none, .store 4 (.t 11) (.t 58)⟩])
  (.seq (.region [⟨(some 59), none, .load true 4 (.t 11)⟩, ⟨(some 60), none, .load true 4 (.t 10)⟩, ⟨(some 61), none, .call i_storing_May [(.t 59), (.t 60)]⟩, ⟨(some 62), none, .un .not (.t 61)⟩, ⟨(some 6), none, .mv (.t 62)⟩])
  .ret)))))))))))⟩
/-- gatepost/gatepostlaw10.StoringAuth -/
def c_gatepostlaw10_StoringAuth : FnC := ⟨47, [.tmp 4],
  (.seq (.region [⟨(some 4), none, .mv (.c (.bool false))⟩])
  (.seq (.region [⟨(some 10), none, .bsl 1 [(.c (.str [109, 97, 120, 45, 97, 103, 101, 61, 53])), (.c (.str [112, 117, 98, 108, 105, 99])), (.c (.str [109, 97, 120, 45, 97, 103, 101, 61, 53, 44, 32, 109, 117, 115, 116, 45, 114, 101, 118, 97, 108, 105, 100, 97, 116, 101])), (.c (.str [115, 45, 109, 97, 120, 97, 103, 101, 61, 48])), (.c (.str [112, 114, 111, 120, 121, 45, 114, 101, 118, 97, 108, 105, 100, 97, 116, 101, 44, 32, 109, 97, 120, 45, 97, 103, 101, 61, 53]))]⟩, ⟨(some 5), none, .mv (.t 10)⟩])
  (.seq (.region [⟨(some 11), none, .mv (.t 0)⟩, ⟨(some 12), none, .bin .rem (.t 11) (.c (.int .i64 5))⟩, ⟨(some 13), none, .bin .add (.t 12) (.c (.int .i64 5))⟩, ⟨(some 14), none, .bin .rem (.t 13) (.c (.int .i64 5))⟩, ⟨(some 6), none, .mv (.t 14)⟩])
  (.seq (.region [⟨(some 15), none, .bsl 1 [(.c (.int .i64 200)), (.c (.int .i64 404)), (.c (.int .i64 500)), (.c (.int .i64 201))]⟩, ⟨(some 16), none, .mv (.t 1)⟩, ⟨(some 17), none, .bin .and (.t 16) (.c (.int .i64 3))⟩, ⟨(some 18), none, .ixaSl 1 (.t 15) (.t 17)⟩, ⟨(some 19), none, .load false 1 (.t 18)⟩, ⟨(some 1), none, .mv (.t 19)⟩])
  (.seq (.region [⟨(some 20), none, .mv (.t 1)⟩, ⟨(some 21), none, .mv (.t 5)⟩, ⟨(some 22), none, .mv (.t 6)⟩, ⟨(some 23), none, .ixaSl 1 (.t 21) (.t 22)⟩, ⟨(some 24), none, .load false 1 (.t 23)⟩, ⟨(some 25), none, .build [(.str []), (.str [])] [(0, 1, (.c (.str [67, 97, 99, 104, 101, 45, 67, 111, 110, 116, 114, 111, 108]))), (1, 1, (.t 24))]⟩, ⟨(some 26), none, .bsl 2 [(.t 25)]⟩, ⟨(some 27), none, .build [(.int .i64 0), (.int .i64 0), (.str []), .nsl] [(1, 1, (.t 20)), (3, 1, (.t 26))]⟩, ⟨(some 7), none, .boxz [(.int .i64 0), (.int .i64 0), (.str []), .nsl]⟩, ⟨none, none, .store 4 (.t 7) (.t 27)⟩])
  (.seq (.region [⟨(some 28), none, .build [(.str []), (.str [])] [(0, 1, (.c (.str [97, 117, 116, 104, 111, 114, 105, 122, 97, 116, 105, 111, 110]))), (1, 1, (.c (.str [120])))]⟩, ⟨(some 29), none, .bsl 2 [(.t 28)]⟩, ⟨(some 30), none, .build [(.str []), (.str []), (.int .i64 0), .nsl] [(0, 1, (.c (.str [71, 69, 84]))), (3, 1, (.t 29))]⟩, ⟨(some 31), none, .load true 4 (.t 7)⟩, ⟨(some 32), none, .call i_storing_May [(.t 30), (.t 31)]⟩, ⟨(some 8), none, .mv (.t 32)⟩])
  (.seq (.region [⟨(some 33), none, .build [(.str []), (.str []), (.int .i64 0), .nsl] [(0, 1, (.c (.str [71, 69, 84])))]⟩, ⟨(some 34), none, .load true 4 (.t 7)⟩, ⟨(some 35), none, .call i_storing_May [(.t 33), (.t 34)]⟩, ⟨(some 9), none, .mv (.t 35)⟩])
  (.seq (.region [⟨(some 36), none, .mv (.t 9)⟩, ⟨(some 37), none, .mv (.t 36)⟩, ⟨(some 38), (some (37, true)), .mv (.t 8)⟩, ⟨(some 39), (some (37, true)), .mv (.t 6)⟩, ⟨(some 40), (some (37, true)), .bin .geq (.t 39) (.c (.int .i64 1))⟩, ⟨(some 41), (some (37, true)), .mv (.t 40)⟩, ⟨(some 42), (some (41, true)), .mv (.t 6)⟩, ⟨(some 43), (some (41, true)), .bin .leq (.t 42) (.c (.int .i64 3))⟩, ⟨(some 44), (some (37, true)), .pick (.t 41) (.t 43) (.c (.bool false))⟩, ⟨(some 45), (some (37, true)), .eq .bool false (.t 38) (.t 44)⟩, ⟨(some 46), none, .pick (.t 37) (.t 45) (.c (.bool false))⟩, ⟨(some 4), none, .mv (.t 46)⟩])
  .ret))))))))⟩
/-- gatepost/gatepostlaw10.few -/
def c_gatepostlaw10_few : FnC := ⟨35, [.tmp 2],
  (.seq (.region [⟨(some 2), none, .mv (.c (.bool false))⟩])
  (.seq (.region [⟨(some 5), none, .mv (.t 0)⟩, ⟨(some 6), none, .len 1 (.t 5)⟩, ⟨(some 7), none, .bin .mul (.c (.int .i64 20)) (.t 6)⟩, ⟨(some 3), none, .mv (.t 7)⟩])
  (.seq (.seq (.region [⟨(some 4), none, .mv (.c (.int .i64 0))⟩])
  (.block 0 (.loop
    (.seq (.seq (.region [⟨(some 8), none, .mv (.t 4)⟩, ⟨(some 9), none, .mv (.t 0)⟩, ⟨(some 10), none, .len 1 (.t 9)⟩, ⟨(some 11), none, .bin .lss (.t 8) (.t 10)⟩, ⟨(some 12), none, .mv (.t 11)⟩, ⟨(some 13), (some (12, true)), .mv (.t 3)⟩, ⟨(some 14), (some (12, true)), .bin .lss (.t 13) (.c (.int .i64 3000))⟩, ⟨(some 15), none, .pick (.t 12) (.t 14) (.c (.bool false))⟩])
    (.cond (.t 15)
      .skip
      (.exit 0)))
    (.seq (.block 1 (.dregion [⟨(some 18), none, .mv (.t 3)⟩, ⟨(some 19), none, .mv (.t 0)⟩, ⟨(some 20), none, .mv (.t 4)⟩, ⟨(some 21), none, .ixaSl 2 (.t 19) (.t 20)⟩, ⟨(some 22), none, .faddr 0 (.t 21)⟩, ⟨(some 23), none, .load false 1 (.t 22)⟩, ⟨(some 24), none, .len 0 (.t 23)⟩, ⟨(some 25), none, .bin .add (.t 18) (.t 24)⟩, ⟨(some 26), none, .mv (.t 0)⟩, ⟨(some 27), none, .mv (.t 4)⟩, ⟨(some 28), none, .ixaSl 2 (.t 26) (.t 27)⟩, ⟨(some 29), none, .faddr 1 (.t 28)⟩, ⟨(some 30), none, .load false 1 (.t 29)⟩, ⟨(some 31), none, .len 0 (.t 30)⟩] [⟨(some 32), none, .bin .add (.t 25) (.t 31)⟩, ⟨(some 3), none, .mv (.t 32)⟩]))
    (.region [⟨(some 16), none, .mv (.t 4)⟩, ⟨(some 17), none, .bin .add (.t 16) (.c (.int .i64 1))⟩, ⟨(some 4), none, .mv (.t 17)⟩]))))))
  (.seq (.region [⟨(some 33), none, .mv (.t 3)⟩, ⟨(some 34), none, .bin .lss (.t 33) (.c (.int .i64 3000))⟩, ⟨(some 2), none, .mv (.t 34)⟩])
  .ret))))⟩
/-- gatepost/storing.May -/
def c_storing_May : FnC := ⟨83, [.tmp 4],
  (.seq (.region [⟨(some 2), none, .box (.t 0)⟩, ⟨(some 3), none, .box (.t 1)⟩, ⟨(some 4), none, .mv (.c (.bool false))⟩])
  (.seq (.dregion [⟨(some 7), none, .faddr 3 (.t 2)⟩, ⟨(some 8), none, .load false 1 (.t 7)⟩, ⟨(some 9), none, .call i_control_Of [(.t 8)]⟩, ⟨(some 10), none, .faddr 3 (.t 3)⟩, ⟨(some 11), none, .load false 1 (.t 10)⟩, ⟨(some 12), none, .call i_control_Of [(.t 11)]⟩, ⟨(some 5), none, .boxz [(.bool false), (.bool false), (.bool false), (.bool false), (.bool false), (.bool false), (.bool false), (.int .i64 0), (.int .i64 0), (.int .i64 0), (.int .i64 0), (.int .i64 0), (.int .i64 0)]⟩, ⟨(some 6), none, .boxz [(.bool false), (.bool false), (.bool false), (.bool false), (.bool false), (.bool false), (.bool false), (.int .i64 0), (.int .i64 0), (.int .i64 0), (.int .i64 0), (.int .i64 0), (.int .i64 0)]⟩] [⟨none, none, .store 13 (.t 5) (.t 9)⟩, ⟨none, none, .store 13 (.t 6) (.t 12)⟩])
  (.seq (.block 0 (.seq (.region [⟨(some 14), none, .faddr 0 (.t 2)⟩, ⟨(some 15), none, .load false 1 (.t 14)⟩, ⟨(some 16), none, .bin .neq (.t 15) (.c (.str [71, 69, 84]))⟩, ⟨(some 17), none, .mv (.t 16)⟩, ⟨(some 18), (some (17, false)), .faddr 0 (.t 5)⟩, ⟨(some 19), (some (17, false)), .load false 1 (.t 18)⟩, ⟨(some 20), none, .pick (.t 17) (.c (.bool true)) (.t 19)⟩, ⟨(some 21), none, .mv (.t 20)⟩, ⟨(some 22), (some (21, false)), .faddr 0 (.t 6)⟩, ⟨(some 23), (some (21, false)), .load false 1 (.t 22)⟩, ⟨(some 24), none, .pick (.t 21) (.c (.bool true)) (.t 23)⟩, ⟨(some 25), none, .mv (.t 24)⟩, ⟨(some 26), (some (25, false)), .faddr 2 (.t 6)⟩, ⟨(some 27), (some (25, false)), .load false 1 (.t 26)⟩, ⟨(some 28), none, .pick (.t 25) (.c (.bool true)) (.t 27)⟩, ⟨(some 13), none, .mv (.t 28)⟩])
  (.cond (.t 13)
    (.seq (.region [⟨(some 4), none, .mv (.c (.bool false))⟩])
    .ret)
    (.seq (.dregion [⟨(some 30), none, .faddr 1 (.t 3)⟩, ⟨(some 31), none, .load false 1 (.t 30)⟩, ⟨(some 32), none, .faddr 3 (.t 2)⟩, ⟨(some 33), none, .load false 1 (.t 32)⟩, ⟨(some 34), none, .call i_storing_has [(.t 33), (.c (.str [82, 97, 110, 103, 101]))]⟩] [⟨(some 35), none, .call i_storing_known [(.t 31), (.t 34)]⟩, ⟨(some 36), none, .un .not (.t 35)⟩, ⟨(some 37), none, .mv (.t 36)⟩, ⟨(some 38), (some (37, false)), .faddr 3 (.t 3)⟩, ⟨(some 39), (some (37, false)), .load false 1 (.t 38)⟩, ⟨(some 40), (some (37, false)), .call i_storing_varies [(.t 39)]⟩, ⟨(some 41), none, .pick (.t 37) (.c (.bool true)) (.t 40)⟩, ⟨(some 29), none, .mv (.t 41)⟩])
    (.cond (.t 29)
      (.seq (.region [⟨(some 4), none, .mv (.c (.bool false))⟩])
      .ret)
      (.seq (.region [⟨(some 43), none, .faddr 3 (.t 2)⟩, ⟨(some 44), none, .load false 1 (.t 43)⟩, ⟨(some 45), none, .call i_storing_has [(.t 44), (.c (.str [65, 117, 116, 104, 111, 114, 105, 122, 97, 116, 105, 111, 110]))]⟩, ⟨(some 46), none, .mv (.t 45)⟩, ⟨(some 47), (some (46, true)), .faddr 3 (.t 6)⟩, ⟨(some 48), (some (46, true)), .load false 1 (.t 47)⟩, ⟨(some 49), (some (46, true)), .un .not (.t 48)⟩, ⟨(some 50), none, .pick (.t 46) (.t 49) (.c (.bool false))⟩, ⟨(some 51), none, .mv (.t 50)⟩, ⟨(some 52), (some (51, true)), .faddr 4 (.t 6)⟩, ⟨(some 53), (some (51, true)), .load false 1 (.t 52)⟩, ⟨(some 54), (some (51, true)), .un .not (.t 53)⟩, ⟨(some 55), none, .pick (.t 51) (.t 54) (.c (.bool false))⟩, ⟨(some 56), none, .mv (.t 55)⟩, ⟨(some 57), (some (56, true)), .faddr 8 (.t 6)⟩, ⟨(some 58), (some (56, true)), .load false 1 (.t 57)⟩, ⟨(some 59), (some (56, true)), .bin .lss (.t 58) (.c (.int .i64 0))⟩, ⟨(some 60), none, .pick (.t 56) (.t 59) (.c (.bool false))⟩, ⟨(some 42), none, .mv (.t 60)⟩])
      (.cond (.t 42)
        (.seq (.region [⟨(some 4), none, .mv (.c (.bool false))⟩])
        .ret)
        .skip)))))))
  (.seq (.region [⟨(some 61), none, .faddr 3 (.t 3)⟩, ⟨(some 62), none, .load false 1 (.t 61)⟩, ⟨(some 63), none, .call i_storing_has [(.t 62), (.c (.str [69, 120, 112, 105, 114, 101, 115]))]⟩, ⟨(some 64), none, .mv (.t 63)⟩, ⟨(some 65), (some (64, false)), .faddr 3 (.t 6)⟩, ⟨(some 66), (some (64, false)), .load false 1 (.t 65)⟩, ⟨(some 67), none, .pick (.t 64) (.c (.bool true)) (.t 66)⟩, ⟨(some 68), none, .mv (.t 67)⟩, ⟨(some 69), (some (68, false)), .faddr 7 (.t 6)⟩, ⟨(some 70), (some (68, false)), .load false 1 (.t 69)⟩, ⟨(some 71), (some (68, false)), .bin .geq (.t 70) (.c (.int .i64 0))⟩, ⟨(some 72), none, .pick (.t 68) (.c (.bool true)) (.t 71)⟩, ⟨(some 73), none, .mv (.t 72)⟩, ⟨(some 74), (some (73, false)), .faddr 8 (.t 6)⟩, ⟨(some 75), (some (73, false)), .load false 1 (.t 74)⟩, ⟨(some 76), (some (73, false)), .bin .geq (.t 75) (.c (.int .i64 0))⟩, ⟨(some 77), none, .pick (.t 73) (.c (.bool true)) (.t 76)⟩, ⟨(some 78), none, .mv (.t 77)⟩, ⟨(some 79), (some (78, false)), .faddr 1 (.t 3)⟩, ⟨(some 80), (some (78, false)), .load false 1 (.t 79)⟩, ⟨(some 81), (some (78, false)), .call i_fresh_Heuristic [(.t 80)]⟩, ⟨(some 82), none, .pick (.t 78) (.c (.bool true)) (.t 81)⟩, ⟨(some 4), none, .mv (.t 82)⟩])
  .ret))))⟩
/-- gatepost/control.Of -/
def c_control_Of : FnC := ⟨44, [.cell 2 true 13],
  (.seq (.region [⟨(some 2), none, .boxz [(.bool false), (.bool false), (.bool false), (.bool false), (.bool false), (.bool false), (.bool false), (.int .i64 0), (.int .i64 0), (.int .i64 0), (.int .i64 0), (.int .i64 0), (.int .i64 0)]⟩])
  (.seq (.seq (.region [⟨(some 13), none, .mv (.t 0)⟩, ⟨(some 14), none, .call i_field_Get [(.t 13), (.c (.str [67, 97, 99, 104, 101, 45, 67, 111, 110, 116, 114, 111, 108]))]⟩, ⟨(some 12), none, .mv (.t 14)⟩, ⟨(some 15), none, .ext 0 (.t 12)⟩, ⟨(some 16), none, .ext 1 (.t 12)⟩, ⟨(some 3), none, .mv (.t 15)⟩, ⟨(some 4), none, .mv (.t 16)⟩])
  (.seq (.region [⟨(some 17), none, .mv (.t 4)⟩, ⟨(some 18), none, .bin .gtr (.t 17) (.c (.int .i64 0))⟩])
  (.cond (.t 18)
    (.seq (.region [⟨(some 20), none, .mv (.t 3)⟩, ⟨(some 21), none, .call i_control_Parse [(.t 20)]⟩, ⟨(some 19), none, .mv (.t 21)⟩, ⟨(some 22), none, .ext 0 (.t 19)⟩, ⟨(some 23), none, .ext 1 (.t 19)⟩, ⟨(some 5), none, .boxz [(.bool false), (.bool false), (.bool false), (.bool false), (.bool false), (.bool false), (.bool false), (.int .i64 0), (.int .i64 0), (.int .i64 0), (.int .i64 0), (.int .i64 0), (.int .i64 0)]⟩, ⟨none, none, .store 13 (.t 5) (.t 22)⟩, ⟨(some 6), none, .mv (.t 23)⟩])
    (.seq (.region [⟨(some 24), none, .load true 13 (.t 5)⟩, ⟨none, none, .store 13 (.t 2) (.t 24)⟩])
    .ret))
    .skip)))
  (.seq (.region [⟨(some 25), none, .call i_control_nothing []⟩, ⟨(some 7), none, .boxz [(.bool false), (.bool false), (.bool false), (.bool false), (.bool false), (.bool false), (.bool false), (.int .i64 0), (.int .i64 0), (.int .i64 0), (.int .i64 0), (.int .i64 0), (.int .i64 0)]⟩, ⟨none, none, .store 13 (.t 7) (.t 25)⟩])
  (.seq (.region [⟨(some 27), none, .mv (.t 0)⟩, ⟨(some 28), none, .call i_field_Get [(.t 27), (.c (.str [80, 114, 97, 103, 109, 97]))]⟩, ⟨(some 26), none, .mv (.t 28)⟩, ⟨(some 29), none, .ext 0 (.t 26)⟩, ⟨(some 30), none, .ext 1 (.t 26)⟩, ⟨(some 8), none, .mv (.t 29)⟩, ⟨(some 9), none, .mv (.t 30)⟩])
  (.seq (.region [⟨(some 32), none, .mv (.t 8)⟩, ⟨(some 33), none, .call i_token_Lower [(.t 32)]⟩, ⟨(some 34), none, .call i_token_Split [(.t 33)]⟩, ⟨(some 31), none, .mv (.t 34)⟩, ⟨(some 35), none, .ext 0 (.t 31)⟩, ⟨(some 36), none, .ext 1 (.t 31)⟩, ⟨(some 10), none, .mv (.t 35)⟩, ⟨(some 11), none, .mv (.t 36)⟩])
  (.seq (.region [⟨(some 37), none, .mv (.t 11)⟩, ⟨(some 38), none, .mv (.t 37)⟩, ⟨(some 39), (some (38, true)), .mv (.t 10)⟩, ⟨(some 40), (some (38, true)), .call i_slices_Contains___string_string_ [(.t 39), (.c (.str [110, 111, 45, 99, 97, 99, 104, 101]))]⟩, ⟨(some 41), none, .pick (.t 38) (.t 40) (.c (.bool false))⟩, ⟨(some 42), none, .faddr 1 (.t 7)⟩, ⟨none, none, .store 1 (.t 42) (.t 41)⟩])
  (.seq (.region [⟨(some 43), none, .load true 13 (.t 7)⟩, ⟨none, none, .store 13 (.t 2) (.t 43)⟩])
  .ret)))))))⟩
/-- gatepost/storing.known -/
def c_storing_known : FnC := ⟨28, [.tmp 4],
  (.seq (.region [⟨(some 4), none, .mv (.c (.bool false))⟩])
  (.seq (.block 0 (.seq (.region [⟨(some 6), none, .mv (.t 0)⟩, ⟨(some 7), none, .bin .lss (.t 6) (.c (.int .i64 200))⟩, ⟨(some 8), none, .mv (.t 7)⟩, ⟨(some 9), (some (8, false)), .mv (.t 0)⟩, ⟨(some 10), (some (8, false)), .bin .gtr (.t 9) (.c (.int .i64 599))⟩, ⟨(some 11), none, .pick (.t 8) (.c (.bool true)) (.t 10)⟩, ⟨(some 12), none, .mv (.t 11)⟩, ⟨(some 13), (some (12, false)), .mv (.t 0)⟩, ⟨(some 14), (some (12, false)), .bin .eql (.t 13) (.c (.int .i64 304))⟩, ⟨(some 15), none, .pick (.t 12) (.c (.bool true)) (.t 14)⟩, ⟨(some 5), none, .mv (.t 15)⟩])
  (.cond (.t 5)
    (.seq (.region [⟨(some 4), none, .mv (.c (.bool false))⟩])
    .ret)
    (.seq (.region [⟨(some 17), none, .mv (.t 0)⟩, ⟨(some 18), none, .bin .lss (.t 17) (.c (.int .i64 300))⟩, ⟨(some 19), none, .mv (.t 18)⟩, ⟨(some 20), (some (19, true)), .mv (.t 1)⟩, ⟨(some 21), none, .pick (.t 19) (.t 20) (.c (.bool false))⟩, ⟨(some 16), none, .mv (.t 21)⟩])
    (.cond (.t 16)
      (.seq (.region [⟨(some 22), none, .mv (.t 0)⟩, ⟨(some 23), none, .bin .eql (.t 22) (.c (.int .i64 200))⟩, ⟨(some 24), none, .mv (.t 23)⟩, ⟨(some 25), (some (24, false)), .mv (.t 0)⟩, ⟨(some 26), (some (24, false)), .bin .eql (.t 25) (.c (.int .i64 206))⟩, ⟨(some 27), none, .pick (.t 24) (.c (.bool true)) (.t 26)⟩, ⟨(some 4), none, .mv (.t 27)⟩])
      .ret)
      .skip)))))
  (.seq (.region [⟨(some 4), none, .mv (.c (.bool true))⟩])
  .ret)))⟩
/-- gatepost/storing.has -/
def c_storing_has : FnC := ⟨8, [.tmp 4],
  (.seq (.region [⟨(some 3), none, .box (.t 1)⟩, ⟨(some 4), none, .mv (.c (.bool false))⟩])
  (.seq (.region [⟨(some 5), none, .mv (.t 0)⟩, ⟨(some 6), none, .mkfn i_storing_has_1 [(.t 3)]⟩, ⟨(some 7), none, .call i_slices_ContainsFunc___gatepost_api_Field_gatepost_api_Field_ [(.t 5), (.t 6)]⟩, ⟨(some 4), none, .mv (.t 7)⟩])
  .ret))⟩
/-- gatepost/storing.varies -/
def c_storing_varies : FnC := ⟨23, [.tmp 2],
  (.seq (.region [⟨(some 2), none, .mv (.c (.bool false))⟩])
  (.seq (.region [⟨(some 8), none, .mv (.t 0)⟩, ⟨(some 9), none, .call i_field_Get [(.t 8), (.c (.str [86, 97, 114, 121]))]⟩, ⟨(some 7), none, .mv (.t 9)⟩, ⟨(some 10), none, .ext 0 (.t 7)⟩, ⟨(some 11), none, .ext 1 (.t 7)⟩, ⟨(some 3), none, .mv (.t 10)⟩, ⟨(some 4), none, .mv (.t 11)⟩])
  (.seq (.region [⟨(some 13), none, .mv (.t 3)⟩, ⟨(some 14), none, .call i_token_Split [(.t 13)]⟩, ⟨(some 12), none, .mv (.t 14)⟩, ⟨(some 15), none, .ext 0 (.t 12)⟩, ⟨(some 16), none, .ext 1 (.t 12)⟩, ⟨(some 5), none, .mv (.t 15)⟩, ⟨(some 6), none, .mv (.t 16)⟩])
  (.seq (.region [⟨(some 17), none, .mv (.t 6)⟩, ⟨(some 18), none, .un .not (.t 17)⟩, ⟨(some 19), none, .mv (.t 18)⟩, ⟨(some 20), (some (19, false)), .mv (.t 5)⟩, ⟨(some 21), (some (19, false)), .call i_slices_Contains___string_string_ [(.t 20), (.c (.str [42]))]⟩, ⟨(some 22), none, .pick (.t 19) (.c (.bool true)) (.t 21)⟩, ⟨(some 2), none, .mv (.t 22)⟩])
  .ret))))⟩
/-- gatepost/fresh.Heuristic -/
def c_fresh_Heuristic : FnC := ⟨13, [.tmp 2],
  (.seq (.region [⟨(some 2), none, .mv (.c (.bool false))⟩])
  (.seq (.seq (.region [⟨(some 5), none, .call i_fresh_keeps []⟩, ⟨(some 6), none, .mv (.c (.int .i64 0))⟩])
  (.block 0 (.loop
    (.seq (.region [⟨(some 7), none, .bin .lss (.t 6) (.c (.int .i64 12))⟩])
    (.seq (.cond (.t 7)
      .skip
      (.exit 0))
    (.seq (.block 1 (.seq (.region [⟨(some 8), none, .ixArr 12 1 false (.t 5) (.t 6)⟩, ⟨(some 4), none, .mv (.t 8)⟩])
    (.seq (.region [⟨(some 9), none, .mv (.t 4)⟩, ⟨(some 10), none, .mv (.t 0)⟩, ⟨(some 11), none, .bin .eql (.t 9) (.t 10)⟩])
    (.cond (.t 11)
      (.seq (.region [⟨(some 2), none, .mv (.c (.bool true))⟩])
      .ret)
      .skip))))
    (.region [⟨(some 12), none, .bin .add (.t 6) (.c (.int .i64 1))⟩, ⟨(some 6), none, .mv (.t 12)⟩])))))))
  (.seq (.region [⟨(some 2), none, .mv (.c (.bool false))⟩])
  .ret)))⟩
/-- gatepost/field.Get -/
def c_field_Get : FnC := ⟨29, [.tmp 4, .tmp 5],
  (.seq (.region [⟨(some 4), none, .mv (.c (.str []))⟩, ⟨(some 5), none, .mv (.c (.int .i64 0))⟩])
  (.seq (.region [⟨(some 6), none, .mv (.c .nsl)⟩])
  (.seq (.seq (.region [⟨(some 9), none, .mv (.t 0)⟩, ⟨(some 10), none, .len 1 (.t 9)⟩, ⟨(some 11), none, .mv (.c (.int .i64 0))⟩])
  (.block 0 (.loop
    (.seq (.region [⟨(some 12), none, .bin .lss (.t 11) (.t 10)⟩])
    (.seq (.cond (.t 12)
      .skip
      (.exit 0))
    (.seq (.block 1 (.seq (.region [⟨(some 13), none, .ixaSl 2 (.t 9) (.t 11)⟩, ⟨(some 14), none, .load true 2 (.t 13)⟩, ⟨(some 8), none, .boxz [(.str []), (.str [])]⟩, ⟨none, none, .store 2 (.t 8) (.t 14)⟩])
    (.seq (.region [⟨(some 15), none, .faddr 0 (.t 8)⟩, ⟨(some 16), none, .load false 1 (.t 15)⟩, ⟨(some 17), none, .mv (.t 1)⟩, ⟨(some 18), none, .call i_token_Same [(.t 16), (.t 17)]⟩])
    (.cond (.t 18)
      (.region [⟨(some 19), none, .mv (.t 6)⟩, ⟨(some 20), none, .faddr 1 (.t 8)⟩, ⟨(some 21), none, .load false 1 (.t 20)⟩, ⟨(some 22), none, .bsl 1 [(.t 21)]⟩, ⟨(some 23), none, .app 1 16 false (.t 19) (.t 22)⟩, ⟨(some 6), none, .mv (.t 23)⟩])
      .skip))))
    (.region [⟨(some 24), none, .bin .add (.t 11) (.c (.int .i64 1))⟩, ⟨(some 11), none, .mv (.t 24)⟩])))))))
  (.seq (.region [⟨(some 25), none, .mv (.t 6)⟩, ⟨(some 26), none, .call i_strings_Join [(.t 25), (.c (.str [44, 32]))]⟩, ⟨(some 27), none, .mv (.t 6)⟩, ⟨(some 28), none, .len 1 (.t 27)⟩, ⟨(some 4), none, .mv (.t 26)⟩, ⟨(some 5), none, .mv (.t 28)⟩])
  .ret))))⟩
/-- gatepost/control.Parse -/
def c_control_Parse : FnC := ⟨84, [.cell 2 true 13, .tmp 3],
  (.seq (.region [⟨(some 2), none, .boxz [(.bool false), (.bool false), (.bool false), (.bool false), (.bool false), (.bool false), (.bool false), (.int .i64 0), (.int .i64 0), (.int .i64 0), (.int .i64 0), (.int .i64 0), (.int .i64 0)]⟩, ⟨(some 3), none, .mv (.c (.bool false))⟩])
  (.seq (.region [⟨(some 17), none, .call i_control_nothing []⟩, ⟨(some 4), none, .boxz [(.bool false), (.bool false), (.bool false), (.bool false), (.bool false), (.bool false), (.bool false), (.int .i64 0), (.int .i64 0), (.int .i64 0), (.int .i64 0), (.int .i64 0), (.int .i64 0)]⟩, ⟨none, none, .store 13 (.t 4) (.t 17)⟩])
  (.seq (.region [⟨(some 19), none, .mv (.t 0)⟩, ⟨(some 20), none, .call i_token_Split [(.t 19)]⟩, ⟨(some 18), none, .mv (.t 20)⟩, ⟨(some 21), none, .ext 0 (.t 18)⟩, ⟨(some 22), none, .ext 1 (.t 18)⟩, ⟨(some 5), none, .mv (.t 21)⟩, ⟨(some 6), none, .mv (.t 22)⟩])
  (.seq (.seq (.region [⟨(some 23), none, .mv (.t 6)⟩, ⟨(some 24), none, .un .not (.t 23)⟩])
  (.cond (.t 24)
    (.seq (.region [⟨(some 25), none, .faddr 0 (.t 4)⟩, ⟨none, none, .store 1 (.t 25) (.c (.bool true))⟩, ⟨(some 26), none, .faddr 1 (.t 4)⟩, ⟨none, none, .store 1 (.t 26) (.c (.bool true))⟩])
    (.seq (.region [⟨(some 27), none, .load true 13 (.t 4)⟩, ⟨none, none, .store 13 (.t 2) (.t 27)⟩, ⟨(some 3), none, .mv (.c (.bool false))⟩])
    .ret))
    .skip))
  (.seq (.region [⟨(some 28), none, .call i_control_rules []⟩, ⟨(some 7), none, .mv (.t 28)⟩])
  (.seq (.seq (.region [⟨(some 29), none, .mv (.t 5)⟩, ⟨(some 30), none, .len 1 (.t 29)⟩, ⟨(some 31), none, .mv (.c (.int .i64 0))⟩])
  (.block 0 (.loop
    (.seq (.region [⟨(some 32), none, .bin .lss (.t 31) (.t 30)⟩])
    (.seq (.cond (.t 32)
      .skip
      (.exit 0))
    (.seq (.block 1 (.seq (.region [⟨(some 33), none, .ixaSl 1 (.t 29) (.t 31)⟩, ⟨(some 34), none, .load false 1 (.t 33)⟩, ⟨(some 9), none, .mv (.t 34)⟩])
    (.seq (.region [⟨(some 36), none, .mv (.t 9)⟩, ⟨(some 37), none, .call i_token_Pair [(.t 36)]⟩, ⟨(some 35), none, .mv (.t 37)⟩, ⟨(some 38), none, .ext 0 (.t 35)⟩, ⟨(some 39), none, .ext 1 (.t 35)⟩, ⟨(some 40), none, .ext 2 (.t 35)⟩, ⟨(some 41), none, .ext 3 (.t 35)⟩, ⟨(some 10), none, .mv (.t 38)⟩, ⟨(some 11), none, .mv (.t 39)⟩, ⟨(some 12), none, .mv (.t 40)⟩, ⟨(some 13), none, .mv (.t 41)⟩])
    (.seq (.region [⟨(some 42), none, .mv (.t 7)⟩, ⟨(some 43), none, .mv (.t 10)⟩, ⟨(some 44), none, .call i_token_Lower [(.t 43)]⟩, ⟨(some 45), none, .lookup .s (.agg [.nfn, .nfn, (.int .i64 0), (.int .i64 0)]) false (.t 42) (.t 44)⟩, ⟨(some 14), none, .boxz [.nfn, .nfn, (.int .i64 0), (.int .i64 0)]⟩, ⟨none, none, .store 4 (.t 14) (.t 45)⟩])
    (.block 2 (.seq (.region [⟨(some 47), none, .faddr 0 (.t 14)⟩, ⟨(some 48), none, .load false 1 (.t 47)⟩, ⟨(some 49), none, .eq (.nil 2) true (.t 48) (.c .nfn)⟩, ⟨(some 46), none, .mv (.t 49)⟩])
    (.cond (.t 46)
      (.region [⟨(some 50), none, .faddr 0 (.t 14)⟩, ⟨(some 51), none, .load false 1 (.t 50)⟩, ⟨(some 52), none, .callv (.t 51) [(.t 4)]⟩])
      (.seq (.region [⟨(some 54), none, .faddr 1 (.t 14)⟩, ⟨(some 55), none, .load false 1 (.t 54)⟩, ⟨(some 56), none, .eq (.nil 2) true (.t 55) (.c .nfn)⟩, ⟨(some 53), none, .mv (.t 56)⟩])
      (.cond (.t 53)
        (.seq (.dregion [⟨(some 57), none, .faddr 1 (.t 14)⟩, ⟨(some 58), none, .load false 1 (.t 57)⟩, ⟨(some 59), none, .callv (.t 58) [(.t 4)]⟩, ⟨(some 60), none, .load true 4 (.t 14)⟩, ⟨(some 61), none, .mv (.t 11)⟩, ⟨(some 62), none, .mv (.t 12)⟩] [⟨(some 63), none, .call i__gatepost_control_rule__value [(.t 60), (.t 61), (.t 62)]⟩, ⟨(some 15), none, .mv (.t 59)⟩, ⟨(some 16), none, .mv (.t 63)⟩])
        (.seq (.region [⟨(some 64), none, .mv (.t 16)⟩, ⟨(some 65), none, .bin .neq (.t 64) (.c (.int .i64 (-1)))⟩, ⟨(some 66), none, .mv (.t 65)⟩, ⟨(some 67), (some (66, true)), .mv (.t 15)⟩, ⟨(some 68), (some (66, true)), .nilck (.t 67)⟩, ⟨(some 69), (some (66, true)), .load false 1 (.t 68)⟩, ⟨(some 70), (some (66, true)), .bin .eql (.t 69) (.c (.int .i64 (-1)))⟩, ⟨(some 71), (some (66, true)), .mv (.t 70)⟩, ⟨(some 72), (some (71, false)), .mv (.t 16)⟩, ⟨(some 73), (some (71, false)), .mv (.t 15)⟩, ⟨(some 74), (some (71, false)), .nilck (.t 73)⟩, ⟨(some 75), (some (71, false)), .load false 1 (.t 74)⟩, ⟨(some 76), (some (71, false)), .bin .lss (.t 72) (.t 75)⟩, ⟨(some 77), (some (66, true)), .pick (.t 71) (.c (.bool true)) (.t 76)⟩, ⟨(some 78), none, .pick (.t 66) (.t 77) (.c (.bool false))⟩])
        (.cond (.t 78)
          (.region [⟨(some 79), none, .mv (.t 15)⟩, ⟨(some 80), none, .mv (.t 16)⟩, ⟨(some 81), none, .nilck (.t 79)⟩, ⟨none, none, .store 1 (.t 81) (.t 80)⟩])
          .skip)))
        .skip)))))))))
    (.region [⟨(some 82), none, .bin .add (.t 31) (.c (.int .i64 1))⟩, ⟨(some 31), none, .mv (.t 82)⟩])))))))
  (.seq (.region [⟨(some 83), none, .load true 13 (.t 4)⟩, ⟨none, none, .store 13 (.t 2) (.t 83)⟩, ⟨(some 3), none, .mv (.c (.bool true))⟩])
  .ret)))))))⟩
/-- gatepost/control.nothing -/
def c_control_nothing : FnC := ⟨2, [.cell 0 true 13],
  (.seq (.region [⟨(some 0), none, .boxz [(.bool false), (.bool false), (.bool false), (.bool false), (.bool false), (.bool false), (.bool false), (.int .i64 0), (.int .i64 0), (.int .i64 0), (.int .i64 0), (.int .i64 0), (.int .i64 0)]⟩])
  (.seq (.region [⟨(some 1), none, .build [(.bool false), (.bool false), (.bool false), (.bool false), (.bool false), (.bool false), (.bool false), (.int .i64 0), (.int .i64 0), (.int .i64 0), (.int .i64 0), (.int .i64 0), (.int .i64 0)] [(7, 1, (.c (.int .i64 (-1)))), (8, 1, (.c (.int .i64 (-1)))), (9, 1, (.c (.int .i64 (-1)))), (10, 1, (.c (.int .i64 (-1)))), (11, 1, (.c (.int .i64 (-1)))), (12, 1, (.c (.int .i64 (-1))))]⟩, ⟨none, none, .store 13 (.t 0) (.t 1)⟩])
  .ret))⟩
/-- gatepost/token.Split -/
def c_token_Split : FnC := ⟨54, [.tmp 2, .tmp 3],
  (.seq (.region [⟨(some 1), none, .box (.t 0)⟩, ⟨(some 2), none, .mv (.c .nsl)⟩, ⟨(some 3), none, .mv (.c (.bool false))⟩])
  (.seq (.region [⟨(some 4), none, .boxz [.nsl]⟩])
  (.seq (.region [⟨(some 5), none, .boxz [(.int .i64 0)]⟩, ⟨none, none, .store 1 (.t 5) (.c (.int .i64 0))⟩])
  (.seq (.region [⟨(some 10), none, .mkfn i_token_Split_1 [(.t 1), (.t 5), (.t 4)]⟩, ⟨(some 6), none, .mv (.t 10)⟩])
  (.seq (.region [⟨(some 7), none, .mv (.c (.bool false))⟩])
  (.seq (.seq (.region [⟨(some 8), none, .mv (.c (.int .i64 0))⟩])
  (.block 0 (.loop
    (.seq (.seq (.region [⟨(some 11), none, .mv (.t 8)⟩, ⟨(some 12), none, .load false 1 (.t 1)⟩, ⟨(some 13), none, .len 0 (.t 12)⟩, ⟨(some 14), none, .bin .lss (.t 11) (.t 13)⟩])
    (.cond (.t 14)
      .skip
      (.exit 0)))
    (.seq (.block 1 (.seq (.region [⟨(some 17), none, .load false 1 (.t 1)⟩, ⟨(some 18), none, .mv (.t 8)⟩, ⟨(some 19), none, .ixStr (.t 17) (.t 18)⟩, ⟨(some 9), none, .mv (.t 19)⟩])
    (.block 2 (.seq (.region [⟨(some 21), none, .mv (.t 9)⟩, ⟨(some 22), none, .bin .eql (.t 21) (.c (.int .u8 34))⟩, ⟨(some 20), none, .mv (.t 22)⟩])
    (.cond (.t 20)
      (.region [⟨(some 23), none, .mv (.t 7)⟩, ⟨(some 24), none, .un .not (.t 23)⟩, ⟨(some 7), none, .mv (.t 24)⟩])
      (.seq (.region [⟨(some 26), none, .mv (.t 7)⟩, ⟨(some 27), none, .mv (.t 26)⟩, ⟨(some 28), (some (27, true)), .mv (.t 9)⟩, ⟨(some 29), (some (27, true)), .bin .eql (.t 28) (.c (.int .u8 92))⟩, ⟨(some 30), none, .pick (.t 27) (.t 29) (.c (.bool false))⟩, ⟨(some 25), none, .mv (.t 30)⟩])
      (.cond (.t 25)
        (.region [⟨(some 31), none, .mv (.t 8)⟩, ⟨(some 32), none, .bin .add (.t 31) (.c (.int .i64 1))⟩, ⟨(some 8), none, .mv (.t 32)⟩])
        (.seq (.region [⟨(some 34), none, .mv (.t 7)⟩, ⟨(some 35), none, .un .not (.t 34)⟩, ⟨(some 36), none, .mv (.t 35)⟩, ⟨(some 37), (some (36, true)), .mv (.t 9)⟩, ⟨(some 38), (some (36, true)), .bin .eql (.t 37) (.c (.int .u8 44))⟩, ⟨(some 39), none, .pick (.t 36) (.t 38) (.c (.bool false))⟩, ⟨(some 33), none, .mv (.t 39)⟩])
        (.cond (.t 33)
          (.region [⟨(some 40), none, .mv (.t 6)⟩, ⟨(some 41), none, .mv (.t 8)⟩, ⟨(some 42), none, .callv (.t 40) [(.t 41)]⟩])
          .skip)))))))))
    (.region [⟨(some 15), none, .mv (.t 8)⟩, ⟨(some 16), none, .bin .add (.t 15) (.c (.int .i64 1))⟩, ⟨(some 8), none, .mv (.t 16)⟩]))))))
  (.seq (.seq (.region [⟨(some 43), none, .mv (.t 7)⟩])
  (.cond (.t 43)
    (.seq (.region [⟨(some 2), none, .mv (.c .nsl)⟩, ⟨(some 3), none, .mv (.c (.bool false))⟩])
    .ret)
    .skip))
  (.seq (.region [⟨(some 44), none, .mv (.t 6)⟩, ⟨(some 45), none, .load false 1 (.t 1)⟩, ⟨(some 46), none, .len 0 (.t 45)⟩, ⟨(some 47), none, .callv (.t 44) [(.t 46)]⟩])
  (.seq (.region [⟨(some 48), none, .load false 1 (.t 4)⟩, ⟨(some 49), none, .load false 1 (.t 4)⟩, ⟨(some 50), none, .len 1 (.t 49)⟩, ⟨(some 51), none, .load false 1 (.t 4)⟩, ⟨(some 52), none, .len 1 (.t 51)⟩, ⟨(some 53), none, .slsl 1 (.t 48) none (some (.t 50)) (some (.t 52))⟩, ⟨(some 2), none, .mv (.t 53)⟩, ⟨(some 3), none, .mv (.c (.bool true))⟩])
  .ret)))))))))⟩
/-- gatepost/token.Lower -/
def c_token_Lower : FnC := ⟨29, [.tmp 2],
  (.seq (.region [⟨(some 2), none, .mv (.c (.str []))⟩])
  (.seq (.region [⟨(some 6), none, .mv (.t 0)⟩, ⟨(some 7), none, .toBytes (.t 6)⟩, ⟨(some 3), none, .mv (.t 7)⟩])
  (.seq (.seq (.region [⟨(some 8), none, .mv (.t 3)⟩, ⟨(some 9), none, .len 1 (.t 8)⟩, ⟨(some 10), none, .mv (.c (.int .i64 0))⟩])
  (.block 0 (.loop
    (.seq (.region [⟨(some 11), none, .bin .lss (.t 10) (.t 9)⟩])
    (.seq (.cond (.t 11)
      .skip
      (.exit 0))
    (.seq (.block 1 (.seq (.region [⟨(some 12), none, .mv (.t 10)⟩, ⟨(some 13), none, .ixaSl 1 (.t 8) (.t 10)⟩, ⟨(some 14), none, .load false 1 (.t 13)⟩, ⟨(some 4), none, .mv (.t 12)⟩, ⟨(some 5), none, .mv (.t 14)⟩])
    (.seq (.region [⟨(some 15), none, .mv (.t 5)⟩, ⟨(some 16), none, .bin .geq (.t 15) (.c (.int .u8 65))⟩, ⟨(some 17), none, .mv (.t 16)⟩, ⟨(some 18), (some (17, true)), .mv (.t 5)⟩, ⟨(some 19), (some (17, true)), .bin .leq (.t 18) (.c (.int .u8 90))⟩, ⟨(some 20), none, .pick (.t 17) (.t 19) (.c (.bool false))⟩])
    (.cond (.t 20)
      (.region [⟨(some 21), none, .mv (.t 3)⟩, ⟨(some 22), none, .mv (.t 4)⟩, ⟨(some 23), none, .mv (.t 5)⟩, ⟨(some 24), none, .bin .or (.t 23) (.c (.int .u8 32))⟩, ⟨(some 25), none, .ixaSl 1 (.t 21) (.t 22)⟩, ⟨none, none, .store 1 (.t 25) (.t 24)⟩])
      .skip))))
    (.region [⟨(some 26), none, .bin .add (.t 10) (.c (.int .i64 1))⟩, ⟨(some 10), none, .mv (.t 26)⟩])))))))
  (.seq (.region [⟨(some 27), none, .mv (.t 3)⟩, ⟨(some 28), none, .toStr (.t 27)⟩, ⟨(some 2), none, .mv (.t 28)⟩])
  .ret))))⟩
/-- slices.Contains[[]string,string] -/
def c_slices_Contains___string_string_ : FnC := ⟨9, [.tmp 4],
  (.seq (.region [⟨(some 4), none, .mv (.c (.bool false))⟩])
  (.seq (.region [⟨(some 5), none, .mv (.t 0)⟩, ⟨(some 6), none, .mv (.t 1)⟩, ⟨(some 7), none, .call i_slices_Index___string_string_ [(.t 5), (.t 6)]⟩, ⟨(some 8), none, .bin .geq (.t 7) (.c (.int .i64 0))⟩, ⟨(some 4), none, .mv (.t 8)⟩])
  .ret))⟩
/-- slices.ContainsFunc[[]gatepost/api.Field,gatepost/api.Field] -/
def c_slices_ContainsFunc___gatepost_api_Field_gatepost_api_Field_ : FnC := ⟨9, [.tmp 4],
  (.seq (.region [⟨(some 4), none, .mv (.c (.bool false))⟩])
  (.seq (.region [⟨(some 5), none, .mv (.t 0)⟩, ⟨(some 6), none, .mv (.t 1)⟩, ⟨(some 7), none, .call i_slices_IndexFunc___gatepost_api_Field_gatepost_api_Field_ [(.t 5), (.t 6)]⟩, ⟨(some 8), none, .bin .geq (.t 7) (.c (.int .i64 0))⟩, ⟨(some 4), none, .mv (.t 8)⟩])
  .ret))⟩
/-- gatepost/storing.has$1 -/
def c_storing_has_1 : FnC := ⟨8, [.tmp 3],
  (.seq (.region [⟨(some 2), none, .box (.t 0)⟩, ⟨(some 3), none, .mv (.c (.bool false))⟩])
  (.seq (.region [⟨(some 4), none, .faddr 0 (.t 2)⟩, ⟨(some 5), none, .load false 1 (.t 4)⟩, ⟨(some 6), none, .load false 1 (.t 1)⟩, ⟨(some 7), none, .call i_token_Same [(.t 5), (.t 6)]⟩, ⟨(some 3), none, .mv (.t 7)⟩])
  .ret))⟩
/-- gatepost/token.Same -/
def c_token_Same : FnC := ⟨17, [.tmp 4],
  (.seq (.region [⟨(some 4), none, .mv (.c (.bool false))⟩])
  (.seq (.region [⟨(some 5), none, .mv (.t 0)⟩, ⟨(some 6), none, .len 0 (.t 5)⟩, ⟨(some 7), none, .mv (.t 1)⟩, ⟨(some 8), none, .len 0 (.t 7)⟩, ⟨(some 9), none, .bin .eql (.t 6) (.t 8)⟩, ⟨(some 10), none, .mv (.t 9)⟩, ⟨(some 11), (some (10, true)), .mv (.t 0)⟩, ⟨(some 12), (some (10, true)), .call i_token_Lower [(.t 11)]⟩, ⟨(some 13), (some (10, true)), .mv (.t 1)⟩, ⟨(some 14), (some (10, true)), .call i_token_Lower [(.t 13)]⟩, ⟨(some 15), (some (10, true)), .bin .eql (.t 12) (.t 14)⟩, ⟨(some 16), none, .pick (.t 10) (.t 15) (.c (.bool false))⟩, ⟨(some 4), none, .mv (.t 16)⟩])
  .ret))⟩
/-- gatepost/fresh.keeps -/
def c_fresh_keeps : FnC := ⟨2, [.cell 0 true 12],
  (.seq (.region [⟨(some 0), none, .boxz [(.int .i64 0), (.int .i64 0), (.int .i64 0), (.int .i64 0), (.int .i64 0), (.int .i64 0), (.int .i64 0), (.int .i64 0), (.int .i64 0), (.int .i64 0), (.int .i64 0), (.int .i64 0)]⟩])
  (.seq (.region [⟨(some 1), none, .build [(.int .i64 0), (.int .i64 0), (.int .i64 0), (.int .i64 0), (.int .i64 0), (.int .i64 0), (.int .i64 0), (.int .i64 0), (.int .i64 0), (.int .i64 0), (.int .i64 0), (.int .i64 0)] [(0, 1, (.c (.int .i64 200))), (1, 1, (.c (.int .i64 203))), (2, 1, (.c (.int .i64 204))), (3, 1, (.c (.int .i64 206))), (4, 1, (.c (.int .i64 300))), (5, 1, (.c (.int .i64 301))), (6, 1, (.c (.int .i64 308))), (7, 1, (.c (.int .i64 404))), (8, 1, (.c (.int .i64 405))), (9, 1, (.c (.int .i64 410))), (10, 1, (.c (.int .i64 414))), (11, 1, (.c (.int .i64 501)))]⟩, ⟨none, none, .store 12 (.t 0) (.t 1)⟩])
  .ret))⟩
/-- gatepost/control.rules -/
def c_control_rules : FnC := ⟨34, [.tmp 0],
  (.seq (.region [⟨(some 0), none, .mv (.c .nmap)⟩])
  (.seq (.region [⟨(some 4), none, .mkmap⟩, ⟨(some 1), none, .boxz [.nmap]⟩, ⟨none, none, .store 1 (.t 1) (.t 4)⟩])
  (.seq (.region [⟨(some 5), none, .mkfn i_control_rules_1 [(.t 1)]⟩, ⟨(some 2), none, .mv (.t 5)⟩])
  (.seq (.region [⟨(some 6), none, .mkfn i_control_rules_2 [(.t 1)]⟩, ⟨(some 3), none, .mv (.t 6)⟩])
  (.seq (.region [⟨(some 7), none, .mv (.t 2)⟩, ⟨(some 8), none, .callv (.t 7) [(.c (.str [110, 111, 45, 115, 116, 111, 114, 101])), (.c (.fn i_control_rules_3 []))]⟩])
  (.seq (.region [⟨(some 9), none, .mv (.t 2)⟩, ⟨(some 10), none, .callv (.t 9) [(.c (.str [110, 111, 45, 99, 97, 99, 104, 101])), (.c (.fn i_control_rules_4 []))]⟩])
  (.seq (.region [⟨(some 11), none, .mv (.t 2)⟩, ⟨(some 12), none, .callv (.t 11) [(.c (.str [112, 114, 105, 118, 97, 116, 101])), (.c (.fn i_control_rules_5 []))]⟩])
  (.seq (.region [⟨(some 13), none, .mv (.t 2)⟩, ⟨(some 14), none, .callv (.t 13) [(.c (.str [112, 117, 98, 108, 105, 99])), (.c (.fn i_control_rules_6 []))]⟩])
  (.seq (.region [⟨(some 15), none, .mv (.t 2)⟩, ⟨(some 16), none, .callv (.t 15) [(.c (.str [109, 117, 115, 116, 45, 114, 101, 118, 97, 108, 105, 100, 97, 116, 101])), (.c (.fn i_control_rules_7 []))]⟩])
  (.seq (.region [⟨(some 17), none, .mv (.t 2)⟩, ⟨(some 18), none, .callv (.t 17) [(.c (.str [112, 114, 111, 120, 121, 45, 114, 101, 118, 97, 108, 105, 100, 97, 116, 101])), (.c (.fn i_control_rules_8 []))]⟩])
  (.seq (.region [⟨(some 19), none, .mv (.t 2)⟩, ⟨(some 20), none, .callv (.t 19) [(.c (.str [111, 110, 108, 121, 45, 105, 102, 45, 99, 97, 99, 104, 101, 100])), (.c (.fn i_control_rules_9 []))]⟩])
  (.seq (.region [⟨(some 21), none, .mv (.t 3)⟩, ⟨(some 22), none, .callv (.t 21) [(.c (.str [109, 97, 120, 45, 97, 103, 101])), (.c (.int .i64 0)), (.c (.int .i64 0)), (.c (.fn i_control_rules_10 []))]⟩])
  (.seq (.region [⟨(some 23), none, .mv (.t 3)⟩, ⟨(some 24), none, .callv (.t 23) [(.c (.str [115, 45, 109, 97, 120, 97, 103, 101])), (.c (.int .i64 0)), (.c (.int .i64 0)), (.c (.fn i_control_rules_11 []))]⟩])
  (.seq (.region [⟨(some 25), none, .mv (.t 3)⟩, ⟨(some 26), none, .callv (.t 25) [(.c (.str [115, 116, 97, 108, 101, 45, 119, 104, 105, 108, 101, 45, 114, 101, 118, 97, 108, 105, 100, 97, 116, 101])), (.c (.int .i64 (-1))), (.c (.int .i64 (-1))), (.c (.fn i_control_rules_12 []))]⟩])
  (.seq (.region [⟨(some 27), none, .mv (.t 3)⟩, ⟨(some 28), none, .callv (.t 27) [(.c (.str [115, 116, 97, 108, 101, 45, 105, 102, 45, 101, 114, 114, 111, 114])), (.c (.int .i64 (-1))), (.c (.int .i64 (-1))), (.c (.fn i_control_rules_13 []))]⟩])
  (.seq (.region [⟨(some 29), none, .mv (.t 3)⟩, ⟨(some 30), none, .callv (.t 29) [(.c (.str [109, 105, 110, 45, 102, 114, 101, 115, 104])), (.c (.int .i64 (-1))), (.c (.int .i64 (-1))), (.c (.fn i_control_rules_14 []))]⟩])
  (.seq (.region [⟨(some 31), none, .mv (.t 3)⟩, ⟨(some 32), none, .callv (.t 31) [(.c (.str [109, 97, 120, 45, 115, 116, 97, 108, 101])), (.c (.int .i64 2147483648)), (.c (.int .i64 (-1))), (.c (.fn i_control_rules_15 []))]⟩])
  (.seq (.region [⟨(some 33), none, .load false 1 (.t 1)⟩, ⟨(some 0), none, .mv (.t 33)⟩])
  .ret))))))))))))))))))⟩
/-- gatepost/token.Pair -/
def c_token_Pair : FnC := ⟨33, [.tmp 2, .tmp 3, .tmp 4, .tmp 5],
  (.seq (.region [⟨(some 2), none, .mv (.c (.str []))⟩, ⟨(some 3), none, .mv (.c (.str []))⟩, ⟨(some 4), none, .mv (.c (.bool false))⟩, ⟨(some 5), none, .mv (.c (.bool false))⟩])
  (.seq (.region [⟨(some 7), none, .mv (.t 0)⟩, ⟨(some 8), none, .call i_strings_Cut [(.t 7), (.c (.str [61]))]⟩, ⟨(some 6), none, .mv (.t 8)⟩, ⟨(some 9), none, .ext 0 (.t 6)⟩, ⟨(some 10), none, .ext 1 (.t 6)⟩, ⟨(some 11), none, .ext 2 (.t 6)⟩, ⟨(some 2), none, .mv (.t 9)⟩, ⟨(some 3), none, .mv (.t 10)⟩, ⟨(some 4), none, .mv (.t 11)⟩])
  (.seq (.seq (.region [⟨(some 12), none, .mv (.t 2)⟩, ⟨(some 13), none, .call i_token_Is [(.t 12)]⟩, ⟨(some 14), none, .un .not (.t 13)⟩])
  (.cond (.t 14)
    (.seq (.region [⟨(some 2), none, .mv (.c (.str []))⟩, ⟨(some 3), none, .mv (.c (.str []))⟩, ⟨(some 4), none, .mv (.c (.bool false))⟩, ⟨(some 5), none, .mv (.c (.bool false))⟩])
    .ret)
    .skip))
  (.seq (.seq (.region [⟨(some 15), none, .mv (.t 4)⟩, ⟨(some 16), none, .un .not (.t 15)⟩, ⟨(some 17), none, .mv (.t 16)⟩, ⟨(some 18), (some (17, false)), .mv (.t 3)⟩, ⟨(some 19), (some (17, false)), .call i_token_Is [(.t 18)]⟩, ⟨(some 20), none, .pick (.t 17) (.c (.bool true)) (.t 19)⟩])
  (.cond (.t 20)
    (.seq (.region [⟨(some 21), none, .mv (.t 2)⟩, ⟨(some 22), none, .mv (.t 3)⟩, ⟨(some 23), none, .mv (.t 4)⟩, ⟨(some 2), none, .mv (.t 21)⟩, ⟨(some 3), none, .mv (.t 22)⟩, ⟨(some 4), none, .mv (.t 23)⟩, ⟨(some 5), none, .mv (.c (.bool true))⟩])
    .ret)
    .skip))
  (.seq (.seq (.region [⟨(some 25), none, .mv (.t 3)⟩, ⟨(some 26), none, .call i_token_unquote [(.t 25)]⟩, ⟨(some 24), none, .mv (.t 26)⟩, ⟨(some 27), none, .ext 0 (.t 24)⟩, ⟨(some 28), none, .ext 1 (.t 24)⟩, ⟨(some 3), none, .mv (.t 27)⟩, ⟨(some 5), none, .mv (.t 28)⟩])
  (.seq (.region [⟨(some 29), none, .mv (.t 5)⟩, ⟨(some 30), none, .un .not (.t 29)⟩])
  (.cond (.t 30)
    (.seq (.region [⟨(some 2), none, .mv (.c (.str []))⟩, ⟨(some 3), none, .mv (.c (.str []))⟩, ⟨(some 4), none, .mv (.c (.bool false))⟩, ⟨(some 5), none, .mv (.c (.bool false))⟩])
    .ret)
    .skip)))
  (.seq (.region [⟨(some 31), none, .mv (.t 2)⟩, ⟨(some 32), none, .mv (.t 3)⟩, ⟨(some 2), none, .mv (.t 31)⟩, ⟨(some 3), none, .mv (.t 32)⟩, ⟨(some 4), none, .mv (.c (.bool true))⟩, ⟨(some 5), none, .mv (.c (.bool true))⟩])
  .ret))))))⟩
/-- (gatepost/control.rule).value -/
def c__gatepost_control_rule__value : FnC := ⟨22, [.tmp 6],
  (.seq (.region [⟨(some 3), none, .box (.t 0)⟩, ⟨(some 6), none, .mv (.c (.int .i64 0))⟩])
  (.seq (.seq (.region [⟨(some 9), none, .mv (.t 2)⟩, ⟨(some 10), none, .un .not (.t 9)⟩])
  (.cond (.t 10)
    (.seq (.region [⟨(some 11), none, .faddr 2 (.t 3)⟩, ⟨(some 12), none, .load false 1 (.t 11)⟩, ⟨(some 6), none, .mv (.t 12)⟩])
    .ret)
    .skip))
  (.seq (.seq (.region [⟨(some 14), none, .mv (.t 1)⟩, ⟨(some 15), none, .call i_token_Number [(.t 14), (.c (.int .i64 2147483648))]⟩, ⟨(some 13), none, .mv (.t 15)⟩, ⟨(some 16), none, .ext 0 (.t 13)⟩, ⟨(some 17), none, .ext 1 (.t 13)⟩, ⟨(some 7), none, .mv (.t 16)⟩, ⟨(some 8), none, .mv (.t 17)⟩])
  (.seq (.region [⟨(some 18), none, .mv (.t 8)⟩])
  (.cond (.t 18)
    (.seq (.region [⟨(some 19), none, .mv (.t 7)⟩, ⟨(some 6), none, .mv (.t 19)⟩])
    .ret)
    .skip)))
  (.seq (.region [⟨(some 20), none, .faddr 3 (.t 3)⟩, ⟨(some 21), none, .load false 1 (.t 20)⟩, ⟨(some 6), none, .mv (.t 21)⟩])
  .ret))))⟩
/-- gatepost/token.Split$1 -/
def c_token_Split_1 : FnC := ⟨19, [],
  (.seq (.seq (.region [⟨(some 6), none, .load false 1 (.t 1)⟩, ⟨(some 7), none, .load false 1 (.t 2)⟩, ⟨(some 8), none, .mv (.t 0)⟩, ⟨(some 9), none, .slstr (.t 6) (some (.t 7)) (some (.t 8))⟩, ⟨(some 10), none, .call i_token_Trim [(.t 9)]⟩, ⟨(some 5), none, .mv (.t 10)⟩])
  (.seq (.region [⟨(some 11), none, .mv (.t 5)⟩, ⟨(some 12), none, .bin .neq (.t 11) (.c (.str []))⟩])
  (.cond (.t 12)
    (.region [⟨(some 13), none, .load false 1 (.t 3)⟩, ⟨(some 14), none, .mv (.t 5)⟩, ⟨(some 15), none, .bsl 1 [(.t 14)]⟩, ⟨(some 16), none, .app 1 16 false (.t 13) (.t 15)⟩, ⟨none, none, .store 1 (.t 3) (.t 16)⟩])
    .skip)))
  (.region [⟨(some 17), none, .mv (.t 0)⟩, ⟨(some 18), none, .bin .add (.t 17) (.c (.int .i64 1))⟩, ⟨none, none, .store 1 (.t 2) (.t 18)⟩]))⟩
/-- gatepost/token.Trim -/
def c_token_Trim : FnC := ⟨5, [.tmp 2],
  (.seq (.region [⟨(some 2), none, .mv (.c (.str []))⟩])
  (.seq (.region [⟨(some 3), none, .mv (.t 0)⟩, ⟨(some 4), none, .call i_strings_Trim [(.t 3), (.c (.str [32, 9]))]⟩, ⟨(some 2), none, .mv (.t 4)⟩])
  .ret))⟩
/-- slices.Index[[]string,string] -/
def c_slices_Index___string_string_ : FnC := ⟨19, [.tmp 4],
  (.seq (.region [⟨(some 4), none, .mv (.c (.int .i64 0))⟩])
  (.seq (.seq (.region [⟨(some 6), none, .mv (.t 0)⟩, ⟨(some 7), none, .len 1 (.t 6)⟩, ⟨(some 8), none, .mv (.c (.int .i64 0))⟩])
  (.block 0 (.loop
    (.seq (.region [⟨(some 9), none, .bin .lss (.t 8) (.t 7)⟩])
    (.seq (.cond (.t 9)
      .skip
      (.exit 0))
    (.seq (.block 1 (.seq (.region [⟨(some 10), none, .mv (.t 8)⟩, ⟨(some 5), none, .mv (.t 10)⟩])
    (.seq (.region [⟨(some 11), none, .mv (.t 1)⟩, ⟨(some 12), none, .mv (.t 0)⟩, ⟨(some 13), none, .mv (.t 5)⟩, ⟨(some 14), none, .ixaSl 1 (.t 12) (.t 13)⟩, ⟨(some 15), none, .load false 1 (.t 14)⟩, ⟨(some 16), none, .bin .eql (.t 11) (.t 15)⟩])
    (.cond (.t 16)
      (.seq (.region [⟨(some 17), none, .mv (.t 5)⟩, ⟨(some 4), none, .mv (.t 17)⟩])
      .ret)
      .skip))))
    (.region [⟨(some 18), none, .bin .add (.t 8) (.c (.int .i64 1))⟩, ⟨(some 8), none, .mv (.t 18)⟩])))))))
  (.seq (.region [⟨(some 4), none, .mv (.c (.int .i64 (-1)))⟩])
  .ret)))⟩
/-- slices.IndexFunc[[]gatepost/api.Field,gatepost/api.Field] -/
def c_slices_IndexFunc___gatepost_api_Field_gatepost_api_Field_ : FnC := ⟨19, [.tmp 4],
  (.seq (.region [⟨(some 4), none, .mv (.c (.int .i64 0))⟩])
  (.seq (.seq (.region [⟨(some 6), none, .mv (.t 0)⟩, ⟨(some 7), none, .len 1 (.t 6)⟩, ⟨(some 8), none, .mv (.c (.int .i64 0))⟩])
  (.block 0 (.loop
    (.seq (.region [⟨(some 9), none, .bin .lss (.t 8) (.t 7)⟩])
    (.seq (.cond (.t 9)
      .skip
      (.exit 0))
    (.seq (.block 1 (.seq (.region [⟨(some 10), none, .mv (.t 8)⟩, ⟨(some 5), none, .mv (.t 10)⟩])
    (.seq (.region [⟨(some 11), none, .mv (.t 1)⟩, ⟨(some 12), none, .mv (.t 0)⟩, ⟨(some 13), none, .mv (.t 5)⟩, ⟨(some 14), none, .ixaSl 2 (.t 12) (.t 13)⟩, ⟨(some 15), none, .load true 2 (.t 14)⟩, ⟨(some 16), none, .callv (.t 11) [(.t 15)]⟩])
    (.cond (.t 16)
      (.seq (.region [⟨(some 17), none, .mv (.t 5)⟩, ⟨(some 4), none, .mv (.t 17)⟩])
      .ret)
      .skip))))
    (.region [⟨(some 18), none, .bin .add (.t 8) (.c (.int .i64 1))⟩, ⟨(some 8), none, .mv (.t 18)⟩])))))))
  (.seq (.region [⟨(some 4), none, .mv (.c (.int .i64 (-1)))⟩])
  .ret)))⟩
/-- gatepost/control.rules$1 -/
def c_control_rules_1 : FnC := ⟨9, [],
  (.region [⟨(some 5), none, .load false 1 (.t 2)⟩, ⟨(some 6), none, .mv (.t 0)⟩, ⟨(some 7), none, .mv (.t 1)⟩, ⟨(some 8), none, .build [.nfn, .nfn, (.int .i64 0), (.int .i64 0)] [(0, 1, (.t 7))]⟩, ⟨none, none, .mapset .s (.t 5) (.t 6) (.t 8)⟩])⟩
/-- gatepost/control.rules$2 -/
def c_control_rules_2 : FnC := ⟨15, [],
  (.region [⟨(some 9), none, .load false 1 (.t 4)⟩, ⟨(some 10), none, .mv (.t 0)⟩, ⟨(some 11), none, .mv (.t 3)⟩, ⟨(some 12), none, .mv (.t 1)⟩, ⟨(some 13), none, .mv (.t 2)⟩, ⟨(some 14), none, .build [.nfn, .nfn, (.int .i64 0), (.int .i64 0)] [(1, 1, (.t 11)), (2, 1, (.t 12)), (3, 1, (.t 13))]⟩, ⟨none, none, .mapset .s (.t 9) (.t 10) (.t 14)⟩])⟩
/-- gatepost/control.rules$3 -/
def c_control_rules_3 : FnC := ⟨5, [],
  (.region [⟨(some 2), none, .mv (.t 0)⟩, ⟨(some 3), none, .nilck (.t 2)⟩, ⟨(some 4), none, .faddr 0 (.t 3)⟩, ⟨none, none, .store 1 (.t 4) (.c (.bool true))⟩])⟩
/-- gatepost/control.rules$4 -/
def c_control_rules_4 : FnC := ⟨5, [],
  (.region [⟨(some 2), none, .mv (.t 0)⟩, ⟨(some 3), none, .nilck (.t 2)⟩, ⟨(some 4), none, .faddr 1 (.t 3)⟩, ⟨none, none, .store 1 (.t 4) (.c (.bool true))⟩])⟩
/-- gatepost/control.rules$5 -/
def c_control_rules_5 : FnC := ⟨5, [],
  (.region [⟨(some 2), none, .mv (.t 0)⟩, ⟨(some 3), none, .nilck (.t 2)⟩, ⟨(some 4), none, .faddr 2 (.t 3)⟩, ⟨none, none, .store 1 (.t 4) (.c (.bool true))⟩])⟩
/-- gatepost/control.rules$6 -/
def c_control_rules_6 : FnC := ⟨5, [],
  (.region [⟨(some 2), none, .mv (.t 0)⟩, ⟨(some 3), none, .nilck (.t 2)⟩, ⟨(some 4), none, .faddr 3 (.t 3)⟩, ⟨none, none, .store 1 (.t 4) (.c (.bool true))⟩])⟩
/-- gatepost/control.rules$7 -/
def c_control_rules_7 : FnC := ⟨5, [],
  (.region [⟨(some 2), none, .mv (.t 0)⟩, ⟨(some 3), none, .nilck (.t 2)⟩, ⟨(some 4), none, .faddr 4 (.t 3)⟩, ⟨none, none, .store 1 (.t 4) (.c (.bool true))⟩])⟩
/-- gatepost/control.rules$8 -/
def c_control_rules_8 : FnC := ⟨5, [],
  (.region [⟨(some 2), none, .mv (.t 0)⟩, ⟨(some 3), none, .nilck (.t 2)⟩, ⟨(some 4), none, .faddr 5 (.t 3)⟩, ⟨none, none, .store 1 (.t 4) (.c (.bool true))⟩])⟩
/-- gatepost/control.rules$9 -/
def c_control_rules_9 : FnC := ⟨5, [],
  (.region [⟨(some 2), none, .mv (.t 0)⟩, ⟨(some 3), none, .nilck (.t 2)⟩, ⟨(some 4), none, .faddr 6 (.t 3)⟩, ⟨none, none, .store 1 (.t 4) (.c (.bool true))⟩])⟩
/-- gatepost/control.rules$10 -/
def c_control_rules_10 : FnC := ⟨6, [.tmp 2],
  (.seq (.region [⟨(some 2), none, .mv (.c .nilp)⟩])
  (.seq (.region [⟨(some 3), none, .mv (.t 0)⟩, ⟨(some 4), none, .nilck (.t 3)⟩, ⟨(some 5), none, .faddr 7 (.t 4)⟩, ⟨(some 2), none, .mv (.t 5)⟩])
  .ret))⟩
/-- gatepost/control.rules$11 -/
def c_control_rules_11 : FnC := ⟨6, [.tmp 2],
  (.seq (.region [⟨(some 2), none, .mv (.c .nilp)⟩])
  (.seq (.region [⟨(some 3), none, .mv (.t 0)⟩, ⟨(some 4), none, .nilck (.t 3)⟩, ⟨(some 5), none, .faddr 8 (.t 4)⟩, ⟨(some 2), none, .mv (.t 5)⟩])
  .ret))⟩
/-- gatepost/control.rules$12 -/
def c_control_rules_12 : FnC := ⟨6, [.tmp 2],
  (.seq (.region [⟨(some 2), none, .mv (.c .nilp)⟩])
  (.seq (.region [⟨(some 3), none, .mv (.t 0)⟩, ⟨(some 4), none, .nilck (.t 3)⟩, ⟨(some 5), none, .faddr 9 (.t 4)⟩, ⟨(some 2), none, .mv (.t 5)⟩])
  .ret))⟩
/-- gatepost/control.rules$13 -/
def c_control_rules_13 : FnC := ⟨6, [.tmp 2],
  (.seq (.region [⟨(some 2), none, .mv (.c .nilp)⟩])
  (.seq (.region [⟨(some 3), none, .mv (.t 0)⟩, ⟨(some 4), none, .nilck (.t 3)⟩, ⟨(some 5), none, .faddr 10 (.t 4)⟩, ⟨(some 2), none, .mv (.t 5)⟩])
  .ret))⟩
/-- gatepost/control.rules$14 -/
def c_control_rules_14 : FnC := ⟨6, [.tmp 2],
  (.seq (.region [⟨(some 2), none, .mv (.c .nilp)⟩])
  (.seq (.region [⟨(some 3), none, .mv (.t 0)⟩, ⟨(some 4), none, .nilck (.t 3)⟩, ⟨(some 5), none, .faddr 11 (.t 4)⟩, ⟨(some 2), none, .mv (.t 5)⟩])
  .ret))⟩
/-- gatepost/control.rules$15 -/
def c_control_rules_15 : FnC := ⟨6, [.tmp 2],
  (.seq (.region [⟨(some 2), none, .mv (.c .nilp)⟩])
  (.seq (.region [⟨(some 3), none, .mv (.t 0)⟩, ⟨(some 4), none, .nilck (.t 3)⟩, ⟨(some 5), none, .faddr 12 (.t 4)⟩, ⟨(some 2), none, .mv (.t 5)⟩])
  .ret))⟩
/-- strings.Cut -/
def c_strings_Cut : FnC := ⟨13, [.tmp 4, .tmp 5, .tmp 6],
  (.seq (.region [⟨(some 4), none, .mv (.c (.str []))⟩, ⟨(some 5), none, .mv (.c (.str []))⟩, ⟨(some 6), none, .mv (.c (.bool false))⟩])
  (.seq (.region [⟨(some 7), none, .mv (.t 0)⟩, ⟨(some 8), none, .mv (.t 1)⟩, ⟨(some 9), none, .call i_internal_stringslite_Cut [(.t 7), (.t 8)]⟩, ⟨(some 10), none, .ext 0 (.t 9)⟩, ⟨(some 11), none, .ext 1 (.t 9)⟩, ⟨(some 12), none, .ext 2 (.t 9)⟩, ⟨(some 4), none, .mv (.t 10)⟩, ⟨(some 5), none, .mv (.t 11)⟩, ⟨(some 6), none, .mv (.t 12)⟩])
  .ret))⟩
/-- gatepost/token.Is -/
def c_token_Is : FnC := ⟨9, [.tmp 2],
  (.seq (.region [⟨(some 2), none, .mv (.c (.bool false))⟩])
  (.seq (.region [⟨(some 3), none, .mv (.t 0)⟩, ⟨(some 4), none, .bin .neq (.t 3) (.c (.str []))⟩, ⟨(some 5), none, .mv (.t 4)⟩, ⟨(some 6), (some (5, true)), .mv (.t 0)⟩, ⟨(some 7), (some (5, true)), .call i_token_all [(.t 6), (.c (.fn i_token_inToken []))]⟩, ⟨(some 8), none, .pick (.t 5) (.t 7) (.c (.bool false))⟩, ⟨(some 2), none, .mv (.t 8)⟩])
  .ret))⟩
/-- gatepost/token.unquote -/
def c_token_unquote : FnC := ⟨49, [.tmp 2, .tmp 3],
  (.seq (.region [⟨(some 2), none, .mv (.c (.str []))⟩, ⟨(some 3), none, .mv (.c (.bool false))⟩])
  (.seq (.region [⟨(some 10), none, .mv (.t 0)⟩, ⟨(some 11), none, .call i_strings_CutPrefix [(.t 10), (.c (.str [34]))]⟩, ⟨(some 9), none, .mv (.t 11)⟩, ⟨(some 12), none, .ext 0 (.t 9)⟩, ⟨(some 13), none, .ext 1 (.t 9)⟩, ⟨(some 4), none, .mv (.t 12)⟩, ⟨(some 5), none, .mv (.t 13)⟩])
  (.seq (.region [⟨(some 6), none, .boxz [.nilp, .nsl]⟩])
  (.seq (.seq (.region [⟨(some 7), none, .mv (.c (.int .i64 0))⟩])
  (.block 0 (.loop
    (.seq (.seq (.region [⟨(some 14), none, .mv (.t 5)⟩, ⟨(some 15), none, .mv (.t 14)⟩, ⟨(some 16), (some (15, true)), .mv (.t 7)⟩, ⟨(some 17), (some (15, true)), .mv (.t 4)⟩, ⟨(some 18), (some (15, true)), .len 0 (.t 17)⟩, ⟨(some 19), (some (15, true)), .bin .lss (.t 16) (.t 18)⟩, ⟨(some 20), none, .pick (.t 15) (.t 19) (.c (.bool false))⟩])
    (.cond (.t 20)
      .skip
      (.exit 0)))
    (.seq (.block 1 (.seq (.region [⟨(some 23), none, .mv (.t 4)⟩, ⟨(some 24), none, .mv (.t 7)⟩, ⟨(some 25), none, .ixStr (.t 23) (.t 24)⟩, ⟨(some 8), none, .mv (.t 25)⟩])
    (.seq (.seq (.region [⟨(some 26), none, .mv (.t 8)⟩, ⟨(some 27), none, .bin .eql (.t 26) (.c (.int .u8 34))⟩])
    (.cond (.t 27)
      (.seq (.region [⟨(some 28), none, .call i___strings_Builder__String [(.t 6)]⟩, ⟨(some 29), none, .mv (.t 7)⟩, ⟨(some 30), none, .mv (.t 4)⟩, ⟨(some 31), none, .len 0 (.t 30)⟩, ⟨(some 32), none, .bin .sub (.t 31) (.c (.int .i64 1))⟩, ⟨(some 33), none, .bin .eql (.t 29) (.t 32)⟩, ⟨(some 2), none, .mv (.t 28)⟩, ⟨(some 3), none, .mv (.t 33)⟩])
      .ret)
      .skip))
    (.seq (.seq (.region [⟨(some 34), none, .mv (.t 8)⟩, ⟨(some 35), none, .bin .eql (.t 34) (.c (.int .u8 92))⟩])
    (.cond (.t 35)
      (.seq (.seq (.region [⟨(some 36), none, .mv (.t 7)⟩, ⟨(some 37), none, .bin .add (.t 36) (.c (.int .i64 1))⟩, ⟨(some 7), none, .mv (.t 37)⟩])
      (.seq (.region [⟨(some 38), none, .mv (.t 7)⟩, ⟨(some 39), none, .mv (.t 4)⟩, ⟨(some 40), none, .len 0 (.t 39)⟩, ⟨(some 41), none, .bin .eql (.t 38) (.t 40)⟩])
      (.cond (.t 41)
        (.exit 0)
        .skip)))
      (.region [⟨(some 42), none, .mv (.t 4)⟩, ⟨(some 43), none, .mv (.t 7)⟩, ⟨(some 44), none, .ixStr (.t 42) (.t 43)⟩, ⟨(some 8), none, .mv (.t 44)⟩]))
      .skip))
    (.seq (.region [⟨(some 45), none, .mv (.t 8)⟩, ⟨(some 46), none, .call i_token_inQuotes [(.t 45)]⟩, ⟨(some 5), none, .mv (.t 46)⟩])
    (.region [⟨(some 47), none, .mv (.t 8)⟩, ⟨(some 48), none, .call i___strings_Builder__WriteByte [(.t 6), (.t 47)]⟩]))))))
    (.region [⟨(some 21), none, .mv (.t 7)⟩, ⟨(some 22), none, .bin .add (.t 21) (.c (.int .i64 1))⟩, ⟨(some 7), none, .mv (.t 22)⟩]))))))
  (.seq (.region [⟨(some 2), none, .mv (.c (.str []))⟩, ⟨(some 3), none, .mv (.c (.bool false))⟩])
  .ret)))))⟩
/-- gatepost/token.Number -/
def c_token_Number : FnC := ⟨48, [.tmp 4, .tmp 5],
  (.seq (.region [⟨(some 4), none, .mv (.c (.int .i64 0))⟩, ⟨(some 5), none, .mv (.c (.bool false))⟩])
  (.seq (.seq (.region [⟨(some 9), none, .mv (.t 0)⟩, ⟨(some 10), none, .bin .eql (.t 9) (.c (.str []))⟩, ⟨(some 11), none, .mv (.t 10)⟩, ⟨(some 12), (some (11, false)), .mv (.t 1)⟩, ⟨(some 13), (some (11, false)), .bin .lss (.t 12) (.c (.int .i64 0))⟩, ⟨(some 14), none, .pick (.t 11) (.c (.bool true)) (.t 13)⟩, ⟨(some 15), none, .mv (.t 14)⟩, ⟨(some 16), (some (15, false)), .mv (.t 0)⟩, ⟨(some 17), (some (15, false)), .call i_token_all [(.t 16), (.c (.fn i_token_Number_1 []))]⟩, ⟨(some 18), (some (15, false)), .un .not (.t 17)⟩, ⟨(some 19), none, .pick (.t 15) (.c (.bool true)) (.t 18)⟩])
  (.cond (.t 19)
    (.seq (.region [⟨(some 4), none, .mv (.c (.int .i64 0))⟩, ⟨(some 5), none, .mv (.c (.bool false))⟩])
    .ret)
    .skip))
  (.seq (.region [⟨(some 6), none, .mv (.c (.int .i64 0))⟩])
  (.seq (.seq (.region [⟨(some 20), none, .mv (.t 0)⟩, ⟨(some 21), none, .len 0 (.t 20)⟩, ⟨(some 22), none, .mv (.c (.int .i64 0))⟩])
  (.block 0 (.loop
    (.seq (.region [⟨(some 23), none, .bin .lss (.t 22) (.t 21)⟩])
    (.seq (.cond (.t 23)
      .skip
      (.exit 0))
    (.seq (.block 1 (.seq (.region [⟨(some 24), none, .mv (.t 22)⟩, ⟨(some 7), none, .mv (.t 24)⟩])
    (.seq (.region [⟨(some 25), none, .mv (.t 0)⟩, ⟨(some 26), none, .mv (.t 7)⟩, ⟨(some 27), none, .ixStr (.t 25) (.t 26)⟩, ⟨(some 28), none, .bin .sub (.t 27) (.c (.int .u8 48))⟩, ⟨(some 29), none, .toInt .i64 (.t 28)⟩, ⟨(some 8), none, .mv (.t 29)⟩])
    (.seq (.seq (.region [⟨(some 30), none, .mv (.t 8)⟩, ⟨(some 31), none, .mv (.t 1)⟩, ⟨(some 32), none, .bin .gtr (.t 30) (.t 31)⟩, ⟨(some 33), none, .mv (.t 32)⟩, ⟨(some 34), (some (33, false)), .mv (.t 6)⟩, ⟨(some 35), (some (33, false)), .mv (.t 1)⟩, ⟨(some 36), (some (33, false)), .mv (.t 8)⟩, ⟨(some 37), (some (33, false)), .bin .sub (.t 35) (.t 36)⟩, ⟨(some 38), (some (33, false)), .bin .quo (.t 37) (.c (.int .i64 10))⟩, ⟨(some 39), (some (33, false)), .bin .gtr (.t 34) (.t 38)⟩, ⟨(some 40), none, .pick (.t 33) (.c (.bool true)) (.t 39)⟩])
    (.cond (.t 40)
      (.seq (.region [⟨(some 41), none, .mv (.t 1)⟩, ⟨(some 4), none, .mv (.t 41)⟩, ⟨(some 5), none, .mv (.c (.bool true))⟩])
      .ret)
      .skip))
    (.region [⟨(some 42), none, .mv (.t 6)⟩, ⟨(some 43), none, .bin .mul (.c (.int .i64 10)) (.t 42)⟩, ⟨(some 44), none, .mv (.t 8)⟩, ⟨(some 45), none, .bin .add (.t 43) (.t 44)⟩, ⟨(some 6), none, .mv (.t 45)⟩])))))
    (.region [⟨(some 46), none, .bin .add (.t 22) (.c (.int .i64 1))⟩, ⟨(some 22), none, .mv (.t 46)⟩])))))))
  (.seq (.region [⟨(some 47), none, .mv (.t 6)⟩, ⟨(some 4), none, .mv (.t 47)⟩, ⟨(some 5), none, .mv (.c (.bool true))⟩])
  .ret)))))⟩
/-- strings.Trim -/
def c_strings_Trim : FnC := ⟨43, [.tmp 4],
  (.seq (.region [⟨(some 4), none, .mv (.c (.str []))⟩])
  (.seq (.seq (.region [⟨(some 7), none, .mv (.t 0)⟩, ⟨(some 8), none, .bin .eql (.t 7) (.c (.str []))⟩, ⟨(some 9), none, .mv (.t 8)⟩, ⟨(some 10), (some (9, false)), .mv (.t 1)⟩, ⟨(some 11), (some (9, false)), .bin .eql (.t 10) (.c (.str []))⟩, ⟨(some 12), none, .pick (.t 9) (.c (.bool true)) (.t 11)⟩])
  (.cond (.t 12)
    (.seq (.region [⟨(some 13), none, .mv (.t 0)⟩, ⟨(some 4), none, .mv (.t 13)⟩])
    .ret)
    .skip))
  (.seq (.seq (.region [⟨(some 14), none, .mv (.t 1)⟩, ⟨(some 15), none, .len 0 (.t 14)⟩, ⟨(some 16), none, .bin .eql (.t 15) (.c (.int .i64 1))⟩, ⟨(some 17), none, .mv (.t 16)⟩, ⟨(some 18), (some (17, true)), .mv (.t 1)⟩, ⟨(some 19), (some (17, true)), .ixStr (.t 18) (.c (.int .i64 0))⟩, ⟨(some 20), (some (17, true)), .bin .lss (.t 19) (.c (.int .u8 128))⟩, ⟨(some 21), none, .pick (.t 17) (.t 20) (.c (.bool false))⟩])
  (.cond (.t 21)
    (.seq (.dregion [⟨(some 22), none, .mv (.t 0)⟩, ⟨(some 23), none, .mv (.t 1)⟩, ⟨(some 24), none, .ixStr (.t 23) (.c (.int .i64 0))⟩, ⟨(some 25), none, .call i_strings_trimRightByte [(.t 22), (.t 24)]⟩, ⟨(some 26), none, .mv (.t 1)⟩, ⟨(some 27), none, .ixStr (.t 26) (.c (.int .i64 0))⟩] [⟨(some 28), none, .call i_strings_trimLeftByte [(.t 25), (.t 27)]⟩, ⟨(some 4), none, .mv (.t 28)⟩])
    .ret)
    .skip))
  (.seq (.seq (.region [⟨(some 30), none, .mv (.t 1)⟩, ⟨(some 31), none, .call i_strings_makeASCIISet [(.t 30)]⟩, ⟨(some 29), none, .mv (.t 31)⟩, ⟨(some 32), none, .ext 0 (.t 29)⟩, ⟨(some 33), none, .ext 1 (.t 29)⟩, ⟨(some 5), none, .boxz (List.replicate 256 (.bool false))⟩, ⟨none, none, .store 256 (.t 5) (.t 32)⟩, ⟨(some 6), none, .mv (.t 33)⟩])
  (.seq (.region [⟨(some 34), none, .mv (.t 6)⟩])
  (.cond (.t 34)
    (.seq (.region [⟨(some 35), none, .mv (.t 0)⟩, ⟨(some 36), none, .call i_strings_trimRightASCII [(.t 35), (.t 5)]⟩, ⟨(some 37), none, .call i_strings_trimLeftASCII [(.t 36), (.t 5)]⟩, ⟨(some 4), none, .mv (.t 37)⟩])
    .ret)
    .skip)))
  (.seq (.region [⟨(some 38), none, .mv (.t 0)⟩, ⟨(some 39), none, .mv (.t 1)⟩, ⟨(some 40), none, .call i_strings_trimRightUnicode [(.t 38), (.t 39)]⟩, ⟨(some 41), none, .mv (.t 1)⟩, ⟨(some 42), none, .call i_strings_trimLeftUnicode [(.t 40), (.t 41)]⟩, ⟨(some 4), none, .mv (.t 42)⟩])
  .ret)))))⟩
/-- internal/stringslite.Cut -/
def c_internal_stringslite_Cut : FnC := ⟨23, [.tmp 4, .tmp 5, .tmp 6],
  (.seq (.region [⟨(some 4), none, .mv (.c (.str []))⟩, ⟨(some 5), none, .mv (.c (.str []))⟩, ⟨(some 6), none, .mv (.c (.bool false))⟩])
  (.seq (.seq (.region [⟨(some 8), none, .mv (.t 0)⟩, ⟨(some 9), none, .mv (.t 1)⟩, ⟨(some 10), none, .call i_internal_stringslite_Index [(.t 8), (.t 9)]⟩, ⟨(some 7), none, .mv (.t 10)⟩])
  (.seq (.region [⟨(some 11), none, .mv (.t 7)⟩, ⟨(some 12), none, .bin .geq (.t 11) (.c (.int .i64 0))⟩])
  (.cond (.t 12)
    (.seq (.dregion [⟨(some 13), none, .mv (.t 0)⟩, ⟨(some 14), none, .mv (.t 7)⟩, ⟨(some 15), none, .slstr (.t 13) none (some (.t 14))⟩, ⟨(some 16), none, .mv (.t 0)⟩, ⟨(some 17), none, .mv (.t 7)⟩, ⟨(some 18), none, .mv (.t 1)⟩, ⟨(some 19), none, .len 0 (.t 18)⟩, ⟨(some 20), none, .bin .add (.t 17) (.t 19)⟩, ⟨(some 21), none, .slstr (.t 16) (some (.t 20)) none⟩, ⟨(some 4), none, .mv (.t 15)⟩] [⟨(some 5), none, .mv (.t 21)⟩, ⟨(some 6), none, .mv (.c (.bool true))⟩])
    .ret)
    .skip)))
  (.seq (.region [⟨(some 22), none, .mv (.t 0)⟩, ⟨(some 4), none, .mv (.t 22)⟩, ⟨(some 5), none, .mv (.c (.str []))⟩, ⟨(some 6), none, .mv (.c (.bool false))⟩])
  .ret)))⟩
/-- gatepost/token.all -/
def c_token_all : FnC := ⟨18, [.tmp 4],
  (.seq (.region [⟨(some 4), none, .mv (.c (.bool false))⟩])
  (.seq (.seq (.region [⟨(some 6), none, .mv (.t 0)⟩, ⟨(some 7), none, .len 0 (.t 6)⟩, ⟨(some 8), none, .mv (.c (.int .i64 0))⟩])
  (.block 0 (.loop
    (.seq (.region [⟨(some 9), none, .bin .lss (.t 8) (.t 7)⟩])
    (.seq (.cond (.t 9)
      .skip
      (.exit 0))
    (.seq (.block 1 (.seq (.region [⟨(some 10), none, .mv (.t 8)⟩, ⟨(some 5), none, .mv (.t 10)⟩])
    (.seq (.region [⟨(some 11), none, .mv (.t 1)⟩, ⟨(some 12), none, .mv (.t 0)⟩, ⟨(some 13), none, .mv (.t 5)⟩, ⟨(some 14), none, .ixStr (.t 12) (.t 13)⟩, ⟨(some 15), none, .callv (.t 11) [(.t 14)]⟩, ⟨(some 16), none, .un .not (.t 15)⟩])
    (.cond (.t 16)
      (.seq (.region [⟨(some 4), none, .mv (.c (.bool false))⟩])
      .ret)
      .skip))))
    (.region [⟨(some 17), none, .bin .add (.t 8) (.c (.int .i64 1))⟩, ⟨(some 8), none, .mv (.t 17)⟩])))))))
  (.seq (.region [⟨(some 4), none, .mv (.c (.bool true))⟩])
  .ret)))⟩
/-- gatepost/token.inToken -/
def c_token_inToken : FnC := ⟨30, [.tmp 2],
  (.seq (.region [⟨(some 2), none, .mv (.c (.bool false))⟩])
  (.seq (.seq (.region [⟨(some 6), none, .mv (.t 0)⟩, ⟨(some 7), none, .bin .or (.t 6) (.c (.int .u8 32))⟩, ⟨(some 3), none, .mv (.t 7)⟩])
  (.seq (.region [⟨(some 8), none, .mv (.t 3)⟩, ⟨(some 9), none, .bin .geq (.t 8) (.c (.int .u8 97))⟩, ⟨(some 10), none, .mv (.t 9)⟩, ⟨(some 11), (some (10, true)), .mv (.t 3)⟩, ⟨(some 12), (some (10, true)), .bin .leq (.t 11) (.c (.int .u8 122))⟩, ⟨(some 13), none, .pick (.t 10) (.t 12) (.c (.bool false))⟩, ⟨(some 14), none, .mv (.t 13)⟩, ⟨(some 15), (some (14, false)), .mv (.t 0)⟩, ⟨(some 16), (some (14, false)), .bin .geq (.t 15) (.c (.int .u8 48))⟩, ⟨(some 17), (some (14, false)), .mv (.t 16)⟩, ⟨(some 18), (some (17, true)), .mv (.t 0)⟩, ⟨(some 19), (some (17, true)), .bin .leq (.t 18) (.c (.int .u8 57))⟩, ⟨(some 20), (some (14, false)), .pick (.t 17) (.t 19) (.c (.bool false))⟩, ⟨(some 21), none, .pick (.t 14) (.c (.bool true)) (.t 20)⟩])
  (.cond (.t 21)
    (.seq (.region [⟨(some 2), none, .mv (.c (.bool true))⟩])
    .ret)
    .skip)))
  (.seq (.seq (.region [⟨(some 22), none, .call i_token_marks []⟩, ⟨(some 23), none, .mv (.c (.int .i64 0))⟩])
  (.block 0 (.loop
    (.seq (.region [⟨(some 24), none, .bin .lss (.t 23) (.c (.int .i64 15))⟩])
    (.seq (.cond (.t 24)
      .skip
      (.exit 0))
    (.seq (.block 1 (.seq (.region [⟨(some 25), none, .ixArr 15 1 false (.t 22) (.t 23)⟩, ⟨(some 5), none, .mv (.t 25)⟩])
    (.seq (.region [⟨(some 26), none, .mv (.t 5)⟩, ⟨(some 27), none, .mv (.t 0)⟩, ⟨(some 28), none, .bin .eql (.t 26) (.t 27)⟩])
    (.cond (.t 28)
      (.seq (.region [⟨(some 2), none, .mv (.c (.bool true))⟩])
      .ret)
      .skip))))
    (.region [⟨(some 29), none, .bin .add (.t 23) (.c (.int .i64 1))⟩, ⟨(some 23), none, .mv (.t 29)⟩])))))))
  (.seq (.region [⟨(some 2), none, .mv (.c (.bool false))⟩])
  .ret))))⟩
/-- strings.CutPrefix -/
def c_strings_CutPrefix : FnC := ⟨11, [.tmp 4, .tmp 5],
  (.seq (.region [⟨(some 4), none, .mv (.c (.str []))⟩, ⟨(some 5), none, .mv (.c (.bool false))⟩])
  (.seq (.region [⟨(some 6), none, .mv (.t 0)⟩, ⟨(some 7), none, .mv (.t 1)⟩, ⟨(some 8), none, .call i_internal_stringslite_CutPrefix [(.t 6), (.t 7)]⟩, ⟨(some 9), none, .ext 0 (.t 8)⟩, ⟨(some 10), none, .ext 1 (.t 8)⟩, ⟨(some 4), none, .mv (.t 9)⟩, ⟨(some 5), none, .mv (.t 10)⟩])
  .ret))⟩
/-- gatepost/token.inQuotes -/
def c_token_inQuotes : FnC := ⟨13, [.tmp 2],
  (.seq (.region [⟨(some 2), none, .mv (.c (.bool false))⟩])
  (.seq (.region [⟨(some 3), none, .mv (.t 0)⟩, ⟨(some 4), none, .bin .eql (.t 3) (.c (.int .u8 9))⟩, ⟨(some 5), none, .mv (.t 4)⟩, ⟨(some 6), (some (5, false)), .mv (.t 0)⟩, ⟨(some 7), (some (5, false)), .bin .geq (.t 6) (.c (.int .u8 32))⟩, ⟨(some 8), (some (5, false)), .mv (.t 7)⟩, ⟨(some 9), (some (8, true)), .mv (.t 0)⟩, ⟨(some 10), (some (8, true)), .bin .neq (.t 9) (.c (.int .u8 127))⟩, ⟨(some 11), (some (5, false)), .pick (.t 8) (.t 10) (.c (.bool false))⟩, ⟨(some 12), none, .pick (.t 5) (.c (.bool true)) (.t 11)⟩, ⟨(some 2), none, .mv (.t 12)⟩])
  .ret))⟩
/-- gatepost/token.Number$1 -/
def c_token_Number_1 : FnC := ⟨9, [.tmp 2],
  (.seq (.region [⟨(some 2), none, .mv (.c (.bool false))⟩])
  (.seq (.region [⟨(some 3), none, .mv (.t 0)⟩, ⟨(some 4), none, .bin .geq (.t 3) (.c (.int .u8 48))⟩, ⟨(some 5), none, .mv (.t 4)⟩, ⟨(some 6), (some (5, true)), .mv (.t 0)⟩, ⟨(some 7), (some (5, true)), .bin .leq (.t 6) (.c (.int .u8 57))⟩, ⟨(some 8), none, .pick (.t 5) (.t 7) (.c (.bool false))⟩, ⟨(some 2), none, .mv (.t 8)⟩])
  .ret))⟩
/-- strings.makeASCIISet -/
def c_strings_makeASCIISet : FnC := ⟨21, [.cell 2 true 256, .tmp 3],
  (.seq (.region [⟨(some 2), none, .boxz (List.replicate 256 (.bool false))⟩, ⟨(some 3), none, .mv (.c (.bool false))⟩])
  (.seq (.seq (.region [⟨(some 4), none, .mv (.c (.int .i64 0))⟩])
  (.block 0 (.loop
    (.seq (.seq (.region [⟨(some 6), none, .mv (.t 4)⟩, ⟨(some 7), none, .mv (.t 0)⟩, ⟨(some 8), none, .len 0 (.t 7)⟩, ⟨(some 9), none, .bin .lss (.t 6) (.t 8)⟩])
    (.cond (.t 9)
      .skip
      (.exit 0)))
    (.seq (.block 1 (.seq (.region [⟨(some 12), none, .mv (.t 0)⟩, ⟨(some 13), none, .mv (.t 4)⟩, ⟨(some 14), none, .ixStr (.t 12) (.t 13)⟩, ⟨(some 5), none, .mv (.t 14)⟩])
    (.seq (.seq (.region [⟨(some 15), none, .mv (.t 5)⟩, ⟨(some 16), none, .bin .geq (.t 15) (.c (.int .u8 128))⟩])
    (.cond (.t 16)
      (.seq (.region [⟨(some 17), none, .load true 256 (.t 2)⟩, ⟨none, none, .store 256 (.t 2) (.t 17)⟩, ⟨(some 3), none, .mv (.c (.bool false))⟩])
      .ret)
      .skip))
    (.region [⟨(some 18), none, .mv (.t 5)⟩, ⟨(some 19), none, .ixaArr 256 1 (.t 2) (.t 18)⟩, ⟨none, none, .store 1 (.t 19) (.c (.bool true))⟩]))))
    (.region [⟨(some 10), none, .mv (.t 4)⟩, ⟨(some 11), none, .bin .add (.t 10) (.c (.int .i64 1))⟩, ⟨(some 4), none, .mv (.t 11)⟩]))))))
  (.seq (.region [⟨(some 20), none, .load true 256 (.t 2)⟩, ⟨none, none, .store 256 (.t 2) (.t 20)⟩, ⟨(some 3), none, .mv (.c (.bool true))⟩])
  .ret)))⟩
/-- strings.trimLeftASCII -/
def c_strings_trimLeftASCII : FnC := ⟨16, [.tmp 4],
  (.seq (.region [⟨(some 4), none, .mv (.c (.str []))⟩])
  (.seq (.block 0 (.loop
    (.seq (.seq (.region [⟨(some 5), none, .mv (.t 0)⟩, ⟨(some 6), none, .len 0 (.t 5)⟩, ⟨(some 7), none, .bin .gtr (.t 6) (.c (.int .i64 0))⟩])
    (.cond (.t 7)
      .skip
      (.exit 0)))
    (.block 1 (.seq (.seq (.region [⟨(some 8), none, .mv (.t 1)⟩, ⟨(some 9), none, .mv (.t 0)⟩, ⟨(some 10), none, .ixStr (.t 9) (.c (.int .i64 0))⟩, ⟨(some 11), none, .call i___strings_asciiSet__contains [(.t 8), (.t 10)]⟩, ⟨(some 12), none, .un .not (.t 11)⟩])
    (.cond (.t 12)
      (.exit 0)
      .skip))
    (.region [⟨(some 13), none, .mv (.t 0)⟩, ⟨(some 14), none, .slstr (.t 13) (some (.c (.int .i64 1))) none⟩, ⟨(some 0), none, .mv (.t 14)⟩]))))))
  (.seq (.region [⟨(some 15), none, .mv (.t 0)⟩, ⟨(some 4), none, .mv (.t 15)⟩])
  .ret)))⟩
/-- strings.trimRightASCII -/
def c_strings_trimRightASCII : FnC := ⟨22, [.tmp 4],
  (.seq (.region [⟨(some 4), none, .mv (.c (.str []))⟩])
  (.seq (.block 0 (.loop
    (.seq (.seq (.region [⟨(some 5), none, .mv (.t 0)⟩, ⟨(some 6), none, .len 0 (.t 5)⟩, ⟨(some 7), none, .bin .gtr (.t 6) (.c (.int .i64 0))⟩])
    (.cond (.t 7)
      .skip
      (.exit 0)))
    (.block 1 (.seq (.seq (.region [⟨(some 8), none, .mv (.t 1)⟩, ⟨(some 9), none, .mv (.t 0)⟩, ⟨(some 10), none, .mv (.t 0)⟩, ⟨(some 11), none, .len 0 (.t 10)⟩, ⟨(some 12), none, .bin .sub (.t 11) (.c (.int .i64 1))⟩, ⟨(some 13), none, .ixStr (.t 9) (.t 12)⟩, ⟨(some 14), none, .call i___strings_asciiSet__contains [(.t 8), (.t 13)]⟩, ⟨(some 15), none, .un .not (.t 14)⟩])
    (.cond (.t 15)
      (.exit 0)
      .skip))
    (.region [⟨(some 16), none, .mv (.t 0)⟩, ⟨(some 17), none, .mv (.t 0)⟩, ⟨(some 18), none, .len 0 (.t 17)⟩, ⟨(some 19), none, .bin .sub (.t 18) (.c (.int .i64 1))⟩, ⟨(some 20), none, .slstr (.t 16) none (some (.t 19))⟩, ⟨(some 0), none, .mv (.t 20)⟩]))))))
  (.seq (.region [⟨(some 21), none, .mv (.t 0)⟩, ⟨(some 4), none, .mv (.t 21)⟩])
  .ret)))⟩
/-- gatepost/token.marks -/
def c_token_marks : FnC := ⟨2, [.cell 0 true 15],
  (.seq (.region [⟨(some 0), none, .boxz [(.int .u8 0), (.int .u8 0), (.int .u8 0), (.int .u8 0), (.int .u8 0), (.int .u8 0), (.int .u8 0), (.int .u8 0), (.int .u8 0), (.int .u8 0), (.int .u8 0), (.int .u8 0), (.int .u8 0), (.int .u8 0), (.int .u8 0)]⟩])
  (.seq (.region [⟨(some 1), none, .build [(.int .u8 0), (.int .u8 0), (.int .u8 0), (.int .u8 0), (.int .u8 0), (.int .u8 0), (.int .u8 0), (.int .u8 0), (.int .u8 0), (.int .u8 0), (.int .u8 0), (.int .u8 0), (.int .u8 0), (.int .u8 0), (.int .u8 0)] [(0, 1, (.c (.int .u8 33))), (1, 1, (.c (.int .u8 35))), (2, 1, (.c (.int .u8 36))), (3, 1, (.c (.int .u8 37))), (4, 1, (.c (.int .u8 38))), (5, 1, (.c (.int .u8 39))), (6, 1, (.c (.int .u8 42))), (7, 1, (.c (.int .u8 43))), (8, 1, (.c (.int .u8 45))), (9, 1, (.c (.int .u8 46))), (10, 1, (.c (.int .u8 94))), (11, 1, (.c (.int .u8 95))), (12, 1, (.c (.int .u8 96))), (13, 1, (.c (.int .u8 124))), (14, 1, (.c (.int .u8 126)))]⟩, ⟨none, none, .store 15 (.t 0) (.t 1)⟩])
  .ret))⟩
/-- internal/stringslite.CutPrefix -/
def c_internal_stringslite_CutPrefix : FnC := ⟨15, [.tmp 4, .tmp 5],
  (.seq (.region [⟨(some 4), none, .mv (.c (.str []))⟩, ⟨(some 5), none, .mv (.c (.bool false))⟩])
  (.seq (.seq (.region [⟨(some 6), none, .mv (.t 0)⟩, ⟨(some 7), none, .mv (.t 1)⟩, ⟨(some 8), none, .call i_internal_stringslite_HasPrefix [(.t 6), (.t 7)]⟩, ⟨(some 9), none, .un .not (.t 8)⟩])
  (.cond (.t 9)
    (.seq (.region [⟨(some 10), none, .mv (.t 0)⟩, ⟨(some 4), none, .mv (.t 10)⟩, ⟨(some 5), none, .mv (.c (.bool false))⟩])
    .ret)
    .skip))
  (.seq (.region [⟨(some 11), none, .mv (.t 0)⟩, ⟨(some 12), none, .mv (.t 1)⟩, ⟨(some 13), none, .len 0 (.t 12)⟩, ⟨(some 14), none, .slstr (.t 11) (some (.t 13)) none⟩, ⟨(some 4), none, .mv (.t 14)⟩, ⟨(some 5), none, .mv (.c (.bool true))⟩])
  .ret)))⟩
/-- (*strings.asciiSet).contains -/
def c___strings_asciiSet__contains : FnC := ⟨10, [.tmp 4],
  (.seq (.region [⟨(some 4), none, .mv (.c (.bool false))⟩])
  (.seq (.region [⟨(some 5), none, .mv (.t 0)⟩, ⟨(some 6), none, .mv (.t 1)⟩, ⟨(some 7), none, .nilck (.t 5)⟩, ⟨(some 8), none, .ixaArr 256 1 (.t 7) (.t 6)⟩, ⟨(some 9), none, .load false 1 (.t 8)⟩, ⟨(some 4), none, .mv (.t 9)⟩])
  .ret))⟩
/-- internal/stringslite.HasPrefix -/
def c_internal_stringslite_HasPrefix : FnC := ⟨18, [.tmp 4],
  (.seq (.region [⟨(some 4), none, .mv (.c (.bool false))⟩])
  (.seq (.region [⟨(some 5), none, .mv (.t 0)⟩, ⟨(some 6), none, .len 0 (.t 5)⟩, ⟨(some 7), none, .mv (.t 1)⟩, ⟨(some 8), none, .len 0 (.t 7)⟩, ⟨(some 9), none, .bin .geq (.t 6) (.t 8)⟩, ⟨(some 10), none, .mv (.t 9)⟩, ⟨(some 11), (some (10, true)), .mv (.t 0)⟩, ⟨(some 12), (some (10, true)), .mv (.t 1)⟩, ⟨(some 13), (some (10, true)), .len 0 (.t 12)⟩, ⟨(some 14), (some (10, true)), .slstr (.t 11) none (some (.t 13))⟩, ⟨(some 15), (some (10, true)), .mv (.t 1)⟩, ⟨(some 16), (some (10, true)), .bin .eql (.t 14) (.t 15)⟩, ⟨(some 17), none, .pick (.t 10) (.t 16) (.c (.bool false))⟩, ⟨(some 4), none, .mv (.t 17)⟩])
  .ret))⟩
def tab : List (FuncId × FnC) := [(i_gatepostlaw10_StoringSays, c_gatepostlaw10_StoringSays), (i_gatepostlaw10_StoringAuth, c_gatepostlaw10_StoringAuth), (i_gatepostlaw10_few, c_gatepostlaw10_few), (i_storing_May, c_storing_May), (i_control_Of, c_control_Of), (i_storing_known, c_storing_known), (i_storing_has, c_storing_has), (i_storing_varies, c_storing_varies), (i_fresh_Heuristic, c_fresh_Heuristic), (i_field_Get, c_field_Get), (i_control_Parse, c_control_Parse), (i_control_nothing, c_control_nothing), (i_token_Split, c_token_Split), (i_token_Lower, c_token_Lower), (i_slices_Contains___string_string_, c_slices_Contains___string_string_), (i_slices_ContainsFunc___gatepost_api_Field_gatepost_api_Field_, c_slices_ContainsFunc___gatepost_api_Field_gatepost_api_Field_), (i_storing_has_1, c_storing_has_1), (i_token_Same, c_token_Same), (i_fresh_keeps, c_fresh_keeps), (i_control_rules, c_control_rules), (i_token_Pair, c_token_Pair), (i__gatepost_control_rule__value, c__gatepost_control_rule__value), (i_token_Split_1, c_token_Split_1), (i_token_Trim, c_token_Trim), (i_slices_Index___string_string_, c_slices_Index___string_string_), (i_slices_IndexFunc___gatepost_api_Field_gatepost_api_Field_, c_slices_IndexFunc___gatepost_api_Field_gatepost_api_Field_), (i_control_rules_1, c_control_rules_1), (i_control_rules_2, c_control_rules_2), (i_control_rules_3, c_control_rules_3), (i_control_rules_4, c_control_rules_4), (i_control_rules_5, c_control_rules_5), (i_control_rules_6, c_control_rules_6), (i_control_rules_7, c_control_rules_7), (i_control_rules_8, c_control_rules_8), (i_control_rules_9, c_control_rules_9), (i_control_rules_10, c_control_rules_10), (i_control_rules_11, c_control_rules_11), (i_control_rules_12, c_control_rules_12), (i_control_rules_13, c_control_rules_13), (i_control_rules_14, c_control_rules_14), (i_control_rules_15, c_control_rules_15), (i_strings_Cut, c_strings_Cut), (i_token_Is, c_token_Is), (i_token_unquote, c_token_unquote), (i_token_Number, c_token_Number), (i_strings_Trim, c_strings_Trim), (i_internal_stringslite_Cut, c_internal_stringslite_Cut), (i_token_all, c_token_all), (i_token_inToken, c_token_inToken), (i_strings_CutPrefix, c_strings_CutPrefix), (i_token_inQuotes, c_token_inQuotes), (i_token_Number_1, c_token_Number_1), (i_strings_makeASCIISet, c_strings_makeASCIISet), (i_strings_trimLeftASCII, c_strings_trimLeftASCII), (i_strings_trimRightASCII, c_strings_trimRightASCII), (i_token_marks, c_token_marks), (i_internal_stringslite_CutPrefix, c_internal_stringslite_CutPrefix), (i___strings_asciiSet__contains, c___strings_asciiSet__contains), (i_internal_stringslite_HasPrefix, c_internal_stringslite_HasPrefix)]
def F (f : FuncId) : Option FnC := tab.lookup f
theorem F_gatepostlaw10_StoringSays : F i_gatepostlaw10_StoringSays = some c_gatepostlaw10_StoringSays := rfl
theorem kc_gatepostlaw10_StoringSays : compF Tryd.prog i_gatepostlaw10_StoringSays = some c_gatepostlaw10_StoringSays := by kernel_rfl
theorem kc_gatepostlaw10_StoringAuth : compF Tryd.prog i_gatepostlaw10_StoringAuth = some c_gatepostlaw10_StoringAuth := by kernel_rfl
theorem F_gatepostlaw10_few : F i_gatepostlaw10_few = some c_gatepostlaw10_few := rfl
theorem kc_gatepostlaw10_few : compF Tryd.prog i_gatepostlaw10_few = some c_gatepostlaw10_few := by kernel_rfl
theorem F_storing_May : F i_storing_May = some c_storing_May := rfl
theorem kc_storing_May : compF Tryd.prog i_storing_May = some c_storing_May := by kernel_rfl
theorem F_control_Of : F i_control_Of = some c_control_Of := rfl
theorem kc_control_Of : compF Tryd.prog i_control_Of = some c_control_Of := by kernel_rfl
theorem F_storing_known : F i_storing_known = some c_storing_known := rfl
theorem kc_storing_known : compF Tryd.prog i_storing_known = some c_storing_known := by kernel_rfl
theorem F_storing_has : F i_storing_has = some c_storing_has := rfl
theorem kc_storing_has : compF Tryd.prog i_storing_has = some c_storing_has := by kernel_rfl
theorem F_storing_varies : F i_storing_varies = some c_storing_varies := rfl
theorem kc_storing_varies : compF Tryd.prog i_storing_varies = some c_storing_varies := by kernel_rfl
theorem F_fresh_Heuristic : F i_fresh_Heuristic = some c_fresh_Heuristic := rfl
theorem kc_fresh_Heuristic : compF Tryd.prog i_fresh_Heuristic = some c_fresh_Heuristic := by kernel_rfl
theorem F_field_Get : F i_field_Get = some c_field_Get := rfl
theorem kc_field_Get : compF Tryd.prog i_field_Get = some c_field_Get := by kernel_rfl
theorem F_control_Parse : F i_control_Parse = some c_control_Parse := rfl
theorem kc_control_Parse : compF Tryd.prog i_control_Parse = some c_control_Parse := by kernel_rfl
theorem F_control_nothing : F i_control_nothing = some c_control_nothing := rfl
theorem kc_control_nothing : compF Tryd.prog i_control_nothing = some c_control_nothing := by kernel_rfl
theorem F_token_Split : F i_token_Split = some c_token_Split := rfl
theorem kc_token_Split : compF Tryd.prog i_token_Split = some c_token_Split := by kernel_rfl
theorem F_token_Lower : F i_token_Lower = some c_token_Lower := rfl
theorem kc_token_Lower : compF Tryd.prog i_token_Lower = some c_token_Lower := by kernel_rfl
theorem F_slices_Contains___string_string_ : F i_slices_Contains___string_string_ = some c_slices_Contains___string_string_ := rfl
theorem kc_slices_Contains___string_string_ : compF Tryd.prog i_slices_Contains___string_string_ = some c_slices_Contains___string_string_ := by kernel_rfl
theorem F_slices_ContainsFunc___gatepost_api_Field_gatepost_api_Field_ : F i_slices_ContainsFunc___gatepost_api_Field_gatepost_api_Field_ = some c_slices_ContainsFunc___gatepost_api_Field_gatepost_api_Field_ := rfl
theorem kc_slices_ContainsFunc___gatepost_api_Field_gatepost_api_Field_ : compF Tryd.prog i_slices_ContainsFunc___gatepost_api_Field_gatepost_api_Field_ = some c_slices_ContainsFunc___gatepost_api_Field_gatepost_api_Field_ := by kernel_rfl
theorem F_storing_has_1 : F i_storing_has_1 = some c_storing_has_1 := rfl
theorem kc_storing_has_1 : compF Tryd.prog i_storing_has_1 = some c_storing_has_1 := by kernel_rfl
theorem F_token_Same : F i_token_Same = some c_token_Same := rfl
theorem kc_token_Same : compF Tryd.prog i_token_Same = some c_token_Same := by kernel_rfl
theorem F_fresh_keeps : F i_fresh_keeps = some c_fresh_keeps := rfl
theorem kc_fresh_keeps : compF Tryd.prog i_fresh_keeps = some c_fresh_keeps := by kernel_rfl
theorem F_control_rules : F i_control_rules = some c_control_rules := rfl
theorem kc_control_rules : compF Tryd.prog i_control_rules = some c_control_rules := by kernel_rfl
theorem F_token_Pair : F i_token_Pair = some c_token_Pair := rfl
theorem kc_token_Pair : compF Tryd.prog i_token_Pair = some c_token_Pair := by kernel_rfl
theorem F__gatepost_control_rule__value : F i__gatepost_control_rule__value = some c__gatepost_control_rule__value := rfl
theorem kc__gatepost_control_rule__value : compF Tryd.prog i__gatepost_control_rule__value = some c__gatepost_control_rule__value := by kernel_rfl
theorem F_token_Split_1 : F i_token_Split_1 = some c_token_Split_1 := rfl
theorem kc_token_Split_1 : compF Tryd.prog i_token_Split_1 = some c_token_Split_1 := by kernel_rfl
theorem F_token_Trim : F i_token_Trim = some c_token_Trim := rfl
theorem kc_token_Trim : compF Tryd.prog i_token_Trim = some c_token_Trim := by kernel_rfl
theorem F_slices_Index___string_string_ : F i_slices_Index___string_string_ = some c_slices_Index___string_string_ := rfl
theorem kc_slices_Index___string_string_ : compF Tryd.prog i_slices_Index___string_string_ = some c_slices_Index___string_string_ := by kernel_rfl
theorem F_slices_IndexFunc___gatepost_api_Field_gatepost_api_Field_ : F i_slices_IndexFunc___gatepost_api_Field_gatepost_api_Field_ = some c_slices_IndexFunc___gatepost_api_Field_gatepost_api_Field_ := rfl
theorem kc_slices_IndexFunc___gatepost_api_Field_gatepost_api_Field_ : compF Tryd.prog i_slices_IndexFunc___gatepost_api_Field_gatepost_api_Field_ = some c_slices_IndexFunc___gatepost_api_Field_gatepost_api_Field_ := by kernel_rfl
theorem F_control_rules_1 : F i_control_rules_1 = some c_control_rules_1 := rfl
theorem kc_control_rules_1 : compF Tryd.prog i_control_rules_1 = some c_control_rules_1 := by kernel_rfl
theorem F_control_rules_2 : F i_control_rules_2 = some c_control_rules_2 := rfl
theorem kc_control_rules_2 : compF Tryd.prog i_control_rules_2 = some c_control_rules_2 := by kernel_rfl
theorem F_control_rules_3 : F i_control_rules_3 = some c_control_rules_3 := rfl
theorem kc_control_rules_3 : compF Tryd.prog i_control_rules_3 = some c_control_rules_3 := by kernel_rfl
theorem F_control_rules_4 : F i_control_rules_4 = some c_control_rules_4 := rfl
theorem kc_control_rules_4 : compF Tryd.prog i_control_rules_4 = some c_control_rules_4 := by kernel_rfl
theorem F_control_rules_5 : F i_control_rules_5 = some c_control_rules_5 := rfl
theorem kc_control_rules_5 : compF Tryd.prog i_control_rules_5 = some c_control_rules_5 := by kernel_rfl
theorem F_control_rules_6 : F i_control_rules_6 = some c_control_rules_6 := rfl
theorem kc_control_rules_6 : compF Tryd.prog i_control_rules_6 = some c_control_rules_6 := by kernel_rfl
theorem F_control_rules_7 : F i_control_rules_7 = some c_control_rules_7 := rfl
theorem kc_control_rules_7 : compF Tryd.prog i_control_rules_7 = some c_control_rules_7 := by kernel_rfl
theorem F_control_rules_8 : F i_control_rules_8 = some c_control_rules_8 := rfl
theorem kc_control_rules_8 : compF Tryd.prog i_control_rules_8 = some c_control_rules_8 := by kernel_rfl
theorem F_control_rules_9 : F i_control_rules_9 = some c_control_rules_9 := rfl
theorem kc_control_rules_9 : compF Tryd.prog i_control_rules_9 = some c_control_rules_9 := by kernel_rfl
theorem F_control_rules_10 : F i_control_rules_10 = some c_control_rules_10 := rfl
theorem kc_control_rules_10 : compF Tryd.prog i_control_rules_10 = some c_control_rules_10 := by kernel_rfl
theorem F_control_rules_11 : F i_control_rules_11 = some c_control_rules_11 := rfl
theorem kc_control_rules_11 : compF Tryd.prog i_control_rules_11 = some c_control_rules_11 := by kernel_rfl
theorem F_control_rules_12 : F i_control_rules_12 = some c_control_rules_12 := rfl
theorem kc_control_rules_12 : compF Tryd.prog i_control_rules_12 = some c_control_rules_12 := by kernel_rfl
theorem F_control_rules_13 : F i_control_rules_13 = some c_control_rules_13 := rfl
theorem kc_control_rules_13 : compF Tryd.prog i_control_rules_13 = some c_control_rules_13 := by kernel_rfl
theorem F_control_rules_14 : F i_control_rules_14 = some c_control_rules_14 := rfl
theorem kc_control_rules_14 : compF Tryd.prog i_control_rules_14 = some c_control_rules_14 := by kernel_rfl
theorem F_control_rules_15 : F i_control_rules_15 = some c_control_rules_15 := rfl
theorem kc_control_rules_15 : compF Tryd.prog i_control_rules_15 = some c_control_rules_15 := by kernel_rfl
theorem F_strings_Cut : F i_strings_Cut = some c_strings_Cut := rfl
theorem kc_strings_Cut : compF Tryd.prog i_strings_Cut = some c_strings_Cut := by kernel_rfl
theorem F_token_Is : F i_token_Is = some c_token_Is := rfl
theorem kc_token_Is : compF Tryd.prog i_token_Is = some c_token_Is := by kernel_rfl
theorem kc_token_unquote : compF Tryd.prog i_token_unquote = some c_token_unquote := by kernel_rfl
theorem F_token_Number : F i_token_Number = some c_token_Number := rfl
theorem kc_token_Number : compF Tryd.prog i_token_Number = some c_token_Number := by kernel_rfl
theorem F_strings_Trim : F i_strings_Trim = some c_strings_Trim := rfl
theorem kc_strings_Trim : compF Tryd.prog i_strings_Trim = some c_strings_Trim := by kernel_rfl
theorem F_internal_stringslite_Cut : F i_internal_stringslite_Cut = some c_internal_stringslite_Cut := rfl
theorem kc_internal_stringslite_Cut : compF Tryd.prog i_internal_stringslite_Cut = some c_internal_stringslite_Cut := by kernel_rfl
theorem F_token_all : F i_token_all = some c_token_all := rfl
theorem kc_token_all : compF Tryd.prog i_token_all = some c_token_all := by kernel_rfl
theorem F_token_inToken : F i_token_inToken = some c_token_inToken := rfl
theorem kc_token_inToken : compF Tryd.prog i_token_inToken = some c_token_inToken := by kernel_rfl
theorem kc_strings_CutPrefix : compF Tryd.prog i_strings_CutPrefix = some c_strings_CutPrefix := by kernel_rfl
theorem kc_token_inQuotes : compF Tryd.prog i_token_inQuotes = some c_token_inQuotes := by kernel_rfl
theorem F_token_Number_1 : F i_token_Number_1 = some c_token_Number_1 := rfl
theorem kc_token_Number_1 : compF Tryd.prog i_token_Number_1 = some c_token_Number_1 := by kernel_rfl
theorem F_strings_makeASCIISet : F i_strings_makeASCIISet = some c_strings_makeASCIISet := rfl
theorem kc_strings_makeASCIISet : compF Tryd.prog i_strings_makeASCIISet = some c_strings_makeASCIISet := by kernel_rfl
theorem F_strings_trimLeftASCII : F i_strings_trimLeftASCII = some c_strings_trimLeftASCII := rfl
theorem kc_strings_trimLeftASCII : compF Tryd.prog i_strings_trimLeftASCII = some c_strings_trimLeftASCII := by kernel_rfl
theorem F_strings_trimRightASCII : F i_strings_trimRightASCII = some c_strings_trimRightASCII := rfl
theorem kc_strings_trimRightASCII : compF Tryd.prog i_strings_trimRightASCII = some c_strings_trimRightASCII := by kernel_rfl
theorem F_token_marks : F i_token_marks = some c_token_marks := rfl
theorem kc_token_marks : compF Tryd.prog i_token_marks = some c_token_marks := by kernel_rfl
theorem kc_internal_stringslite_CutPrefix : compF Tryd.prog i_internal_stringslite_CutPrefix = some c_internal_stringslite_CutPrefix := by kernel_rfl
theorem F___strings_asciiSet__contains : F i___strings_asciiSet__contains = some c___strings_asciiSet__contains := rfl
theorem kc___strings_asciiSet__contains : compF Tryd.prog i___strings_asciiSet__contains = some c___strings_asciiSet__contains := by kernel_rfl
theorem kc_internal_stringslite_HasPrefix : compF Tryd.prog i_internal_stringslite_HasPrefix = some c_internal_stringslite_HasPrefix := by kernel_rfl
def k_gatepostlaw10_StoringSays_2 (L : FuncId → List V → V → Prop) (K : V → Heap → Prop) (v10 : V) (h : Heap) : Prop :=
    (wi F L (.build [(.str []), (.str [])] [(0, 1, (.c (.str [67, 97, 99, 104, 101, 45, 67, 111, 110, 116, 114, 111, 108]))), (1, 1, (.c (.str [110, 111, 45, 115, 116, 111, 114, 101])))]) E0 h fun v56 h =>
    (wi F L (.bsl 2 [(.c v56)]) E0 h fun v57 h =>
    (wi F L (.build [(.str []), (.str []), (.int .i64 0), .nsl] [(0, 1, (.c (.str [71, 69, 84]))), (3, 1, (.c v57))]) E0 h fun v58 h =>
    (wi F L (.boxz [(.str []), (.str []), (.int .i64 0), .nsl]) E0 h fun v11 h =>
    (wi F L (.store 4 (.c v11) (.c v58)) E0 h fun _ h =>
    (wi F L (.load true 4 (.c v11)) E0 h fun v59 h =>
    (wi F L (.load true 4 (.c v10)) E0 h fun v60 h =>
    (wi F L (.call i_storing_May [(.c v59), (.c v60)]) E0 h fun v61 h =>
    (wi F L (.un .not (.c v61)) E0 h fun v62 h =>
    (∃ v, some v62 = some v ∧ K v h))))))))))
def k_gatepostlaw10_StoringSays_3 (L : FuncId → List V → V → Prop) (K : V → Heap → Prop) (v1 v10 v47 : V) (h : Heap) : Prop :=
    (wi F L (.bin .neq (.c v1) (.c (.int .i64 304))) E0 h fun v49 h =>
    (wi F L (.eq .bool true (.c v47) (.c v49)) E0 h fun v50 h =>
    (wg v50 false (wi F L (.build [(.str []), (.str []), (.int .i64 0), .nsl] [(0, 1, (.c (.str [103, 101, 116])))]) E0 h) h fun v52 h =>
    (wg v50 false (wi F L (.load true 4 (.c v10)) E0 h) h fun v53 h =>
    (wg v50 false (wi F L (.call i_storing_May [(.c v52), (.c v53)]) E0 h) h fun v54 h =>
    (wi F L (.pick (.c v50) (.c (.bool true)) (.c v54)) E0 h fun v55 h =>
    (wb v55
    (∃ v, some (.bool false) = some v ∧ K v h)
    (k_gatepostlaw10_StoringSays_2 L K v10 h))))))))
def k_gatepostlaw10_StoringSays_1 (L : FuncId → List V → V → Prop) (K : V → Heap → Prop) (v1 v7 : V) (h : Heap) : Prop :=
    (wi F L (.build [(.str []), (.str [])] [(0, 1, (.c (.str [67, 97, 99, 104, 101, 45, 67, 111, 110, 116, 114, 111, 108]))), (1, 1, (.c (.str [112, 117, 98, 108, 105, 99])))]) E0 h fun v41 h =>
    (wi F L (.build [(.str []), (.str [])] [(0, 1, (.c (.str [86, 97, 114, 121]))), (1, 1, (.c (.str [97])))]) E0 h fun v42 h =>
    (wi F L (.bsl 2 [(.c v41), (.c v42)]) E0 h fun v43 h =>
    (wi F L (.build [(.int .i64 0), (.int .i64 0), (.str []), .nsl] [(1, 1, (.c v1)), (3, 1, (.c v43))]) E0 h fun v44 h =>
    (wi F L (.boxz [(.int .i64 0), (.int .i64 0), (.str []), .nsl]) E0 h fun v10 h =>
    (wi F L (.store 4 (.c v10) (.c v44)) E0 h fun _ h =>
    (wi F L (.load true 4 (.c v7)) E0 h fun v45 h =>
    (wi F L (.load true 4 (.c v10)) E0 h fun v46 h =>
    (wi F L (.call i_storing_May [(.c v45), (.c v46)]) E0 h fun v47 h =>
    (k_gatepostlaw10_StoringSays_3 L K v1 v10 v47 h))))))))))
def k_gatepostlaw10_StoringSays_0 (L : FuncId → List V → V → Prop) (K : V → Heap → Prop) (v0 v1 v2 : V) (h : Heap) : Prop :=
    (wi F L (.build [(.str []), (.str []), (.int .i64 0), .nsl] [(0, 1, (.c (.str [71, 69, 84])))]) E0 h fun v15 h =>
    (wi F L (.boxz [(.str []), (.str []), (.int .i64 0), .nsl]) E0 h fun v7 h =>
    (wi F L (.store 4 (.c v7) (.c v15)) E0 h fun _ h =>
    (wi F L (.bin .and (.c v1) (.c (.int .i64 255))) E0 h fun v17 h =>
    (wi F L (.bin .add (.c (.int .i64 200)) (.c v17)) E0 h fun v18 h =>
    (wi F L (.build [(.str []), (.str [])] [(0, 1, (.c (.str [67, 97, 99, 104, 101, 45, 67, 111, 110, 116, 114, 111, 108]))), (1, 1, (.c (.str [110, 111, 45, 115, 116, 111, 114, 101])))]) E0 h fun v19 h =>
    (wi F L (.build [(.str []), (.str [])] [(0, 1, (.c (.str [99, 97, 99, 104, 101, 45, 99, 111, 110, 116, 114, 111, 108]))), (1, 1, (.c (.str [112, 114, 105, 118, 97, 116, 101])))]) E0 h fun v20 h =>
    (wi F L (.build [(.str []), (.str [])] [(0, 1, (.c (.str [86, 97, 114, 121]))), (1, 1, (.c (.str [97, 44, 32, 42])))]) E0 h fun v21 h =>
    (wi F L (.bsl 2 [(.c v19), (.c v20), (.c v21)]) E0 h fun v22 h =>
    (wi F L (.bsl 2 []) E0 h fun v24 h' => Ext h h' ∧
    (wi F L (.app 2 32 false (.c v24) (.c v0)) E0 h' fun v26 h => Ext h' h ∧
    (wi F L (.bin .rem (.c v2) (.c (.int .i64 3))) E0 h fun v29 h' => Ext h h' ∧
    (wi F L (.bin .add (.c v29) (.c (.int .i64 3))) E0 h' fun v30 h => Ext h' h ∧
    (wi F L (.bin .rem (.c v30) (.c (.int .i64 3))) E0 h fun v31 h' => Ext h h' ∧
    (wi F L (.ixaSl 2 (.c v22) (.c v31)) E0 h' fun v32 h => Ext h' h ∧
    (wi F L (.load true 2 (.c v32)) E0 h fun v33 h' => Ext h h' ∧
    (wi F L (.bsl 2 [(.c v33)]) E0 h' fun v34 h => Ext h' h ∧
    (wi F L (.app 2 32 false (.c v26) (.c v34)) E0 h fun v35 h => True ∧
    (wi F L (.build [(.int .i64 0), (.int .i64 0), (.str []), .nsl] [(1, 1, (.c v18)), (3, 1, (.c v35))]) E0 h fun v36 h => True ∧
    (wi F L (.boxz [(.int .i64 0), (.int .i64 0), (.str []), .nsl]) E0 h fun v9 h => True ∧
    (wi F L (.store 4 (.c v9) (.c v36)) E0 h fun _ h =>
    (wi F L (.load true 4 (.c v7)) E0 h fun v37 h =>
    (wi F L (.load true 4 (.c v9)) E0 h fun v38 h =>
    (wi F L (.call i_storing_May [(.c v37), (.c v38)]) E0 h fun v39 h =>
    (wb v39
    (∃ v, some (.bool false) = some v ∧ K v h)
    (k_gatepostlaw10_StoringSays_1 L K v18 v7 h))))))))))))))))))))))))))
def p_gatepostlaw10_StoringSays (L : FuncId → List V → V → Prop) (K : V → Heap → Prop) (a0 a1 a2 : V) (h : Heap) : Prop :=
    (wi F L (.call i_gatepostlaw10_few [(.c a0)]) E0 h fun v13 h =>
    (wi F L (.un .not (.c v13)) E0 h fun v14 h =>
    (wb v14
    (∃ v, some (.bool true) = some v ∧ K v h)
    (k_gatepostlaw10_StoringSays_0 L K a0 a1 a2 h))))
theorem run_gatepostlaw10_StoringSays {L : FuncId → List V → V → Prop} {K : V → Heap → Prop} {a0 a1 a2 : V} {h : Heap} (hp : p_gatepostlaw10_StoringSays L K a0 a1 a2 h) : Cf F L i_gatepostlaw10_StoringSays [a0, a1, a2] h K :=
  wcallp F_gatepostlaw10_StoringSays (show 3 ≤ 63 by decide) (p := p_gatepostlaw10_StoringSays L K a0 a1 a2 h) (by kernel_rfl) hp
def k_gatepostlaw10_few_0 (L : FuncId → List V → V → Prop) (K : V → Heap → Prop) (v3 : V) (h : Heap) : Prop :=
    (wi F L (.bin .lss (.c v3) (.c (.int .i64 3000))) E0 h fun v34 h =>
    (∃ v, some v34 = some v ∧ K v h))
def k_gatepostlaw10_few_2 (L : FuncId → List V → V → Prop) (K : V → Heap → Prop) (N0 : Env → Heap → Prop) (e : Env) (v4 : V) (h : Heap) : Prop :=
    (wi F L (.bin .add (.c v4) (.c (.int .i64 1))) E0 h fun v17 h =>
    (N0 (upd (upd (upd e 16 v4) 17 v17) 4 v17) h))
def k_gatepostlaw10_few_1 (L : FuncId → List V → V → Prop) (K : V → Heap → Prop) (N0 : Env → Heap → Prop) (e : Env) (v0 v3 v4 : V) (h : Heap) : Prop :=
    (wi F L (.ixaSl 2 (.c v0) (.c v4)) E0 h fun v21 h' => Ext h h' ∧
    (wi F L (.faddr 0 (.c v21)) E0 h' fun v22 h => Ext h' h ∧
    (wi F L (.load false 1 (.c v22)) E0 h fun v23 h' => Ext h h' ∧
    (wi F L (.len 0 (.c v23)) E0 h' fun v24 h => Ext h' h ∧
    (wi F L (.bin .add (.c v3) (.c v24)) E0 h fun v25 h' => Ext h h' ∧
    (wi F L (.ixaSl 2 (.c v0) (.c v4)) E0 h' fun v28 h => Ext h' h ∧
    (wi F L (.faddr 1 (.c v28)) E0 h fun v29 h' => Ext h h' ∧
    (wi F L (.load false 1 (.c v29)) E0 h' fun v30 h => Ext h' h ∧
    (wi F L (.len 0 (.c v30)) E0 h fun v31 h' => Ext h h' ∧
    (wi F L (.bin .add (.c v25) (.c v31)) E0 h' fun v32 h =>
    (k_gatepostlaw10_few_2 L K N0 (upd (upd (upd (upd (upd (upd (upd (upd (upd (upd (upd (upd (upd (upd (upd (upd e 18 v3) 19 v0) 20 v4) 21 v21) 22 v22) 23 v23) 24 v24) 25 v25) 26 v0) 27 v4) 28 v28) 29 v29) 30 v30) 31 v31) 32 v32) 3 v32) v4 h)))))))))))
def q_gatepostlaw10_few_0 (L : FuncId → List V → V → Prop) (K : V → Heap → Prop) : X → Env → Heap → Prop := (fun x => (seqX (fun e h => k_gatepostlaw10_few_0 L K (e 3) h) (retX c_gatepostlaw10_few.results K)) (X.out 0 x))
def lc_gatepostlaw10_few_0 : C :=
  (.seq (.seq (.region [⟨(some 8), none, .mv (.t 4)⟩, ⟨(some 9), none, .mv (.t 0)⟩, ⟨(some 10), none, .len 1 (.t 9)⟩, ⟨(some 11), none, .bin .lss (.t 8) (.t 10)⟩, ⟨(some 12), none, .mv (.t 11)⟩, ⟨(some 13), (some (12, true)), .mv (.t 3)⟩, ⟨(some 14), (some (12, true)), .bin .lss (.t 13) (.c (.int .i64 3000))⟩, ⟨(some 15), none, .pick (.t 12) (.t 14) (.c (.bool false))⟩])
  (.cond (.t 15)
    .skip
    (.exit 0)))
  (.seq (.block 1 (.dregion [⟨(some 18), none, .mv (.t 3)⟩, ⟨(some 19), none, .mv (.t 0)⟩, ⟨(some 20), none, .mv (.t 4)⟩, ⟨(some 21), none, .ixaSl 2 (.t 19) (.t 20)⟩, ⟨(some 22), none, .faddr 0 (.t 21)⟩, ⟨(some 23), none, .load false 1 (.t 22)⟩, ⟨(some 24), none, .len 0 (.t 23)⟩, ⟨(some 25), none, .bin .add (.t 18) (.t 24)⟩, ⟨(some 26), none, .mv (.t 0)⟩, ⟨(some 27), none, .mv (.t 4)⟩, ⟨(some 28), none, .ixaSl 2 (.t 26) (.t 27)⟩, ⟨(some 29), none, .faddr 1 (.t 28)⟩, ⟨(some 30), none, .load false 1 (.t 29)⟩, ⟨(some 31), none, .len 0 (.t 30)⟩] [⟨(some 32), none, .bin .add (.t 25) (.t 31)⟩, ⟨(some 3), none, .mv (.t 32)⟩]))
  (.region [⟨(some 16), none, .mv (.t 4)⟩, ⟨(some 17), none, .bin .add (.t 16) (.c (.int .i64 1))⟩, ⟨(some 4), none, .mv (.t 17)⟩])))
def b_gatepostlaw10_few_0 (L : FuncId → List V → V → Prop) (K : V → Heap → Prop) (N0 : Env → Heap → Prop) (e : Env) (h : Heap) : Prop :=
    (wi F L (.len 1 (.c (e 0))) E0 h fun v10 h =>
    (wi F L (.bin .lss (.c (e 4)) (.c v10)) E0 h fun v11 h =>
    (wg v11 true (wi F L (.mv (.c (e 3))) E0 h) h fun v13 h =>
    (wg v11 true (wi F L (.bin .lss (.c v13) (.c (.int .i64 3000))) E0 h) h fun v14 h =>
    (wi F L (.pick (.c v11) (.c v14) (.c (.bool false))) E0 h fun v15 h =>
    (wb v15
    (k_gatepostlaw10_few_1 L K N0 (upd (upd (upd (upd (upd (upd (upd (upd e 8 (e 4)) 9 (e 0)) 10 v10) 11 v11) 12 v11) 13 v13) 14 v14) 15 v15) (e 0) (e 3) (e 4) h)
    (k_gatepostlaw10_few_0 L K (e 3) h)))))))
theorem l_gatepostlaw10_few_0 {L : FuncId → List V → V → Prop} {K : V → Heap → Prop} (I : Nat → Env → Heap → Prop) (hr : ∀ n e h, I n e h → b_gatepostlaw10_few_0 L K (fun e' h' => ∃ m, m < n ∧ I m e' h') e h) {n : Nat} {e : Env} {h : Heap} (hi : I n e h) : Wl F L lc_gatepostlaw10_few_0 (q_gatepostlaw10_few_0 L K) e h :=
  wloopp (b := b_gatepostlaw10_few_0 L K) I (fun _ _ _ => by kernel_rfl) hr hi
def p_gatepostlaw10_few (L : FuncId → List V → V → Prop) (K : V → Heap → Prop) (a0 : V) (h : Heap) : Prop :=
    (wi F L (.len 1 (.c a0)) E0 h fun v6 h =>
    (wi F L (.bin .mul (.c (.int .i64 20)) (.c v6)) E0 h fun v7 h =>
    (Wl F L lc_gatepostlaw10_few_0 (q_gatepostlaw10_few_0 L K) (upd (upd (upd (upd (upd (upd (enterE [a0]) 2 (.bool false)) 5 a0) 6 v6) 7 v7) 3 v7) 4 (.int .i64 0)) h)))
theorem run_gatepostlaw10_few {L : FuncId → List V → V → Prop} {K : V → Heap → Prop} {a0 : V} {h : Heap} (hp : p_gatepostlaw10_few L K a0 h) : Cf F L i_gatepostlaw10_few [a0] h K :=
  wcallp F_gatepostlaw10_few (show 1 ≤ 35 by decide) (p := p_gatepostlaw10_few L K a0 h) (by kernel_rfl) hp
def k_storing_May_1 (L : FuncId → List V → V → Prop) (K : V → Heap → Prop) (v3 v6 v63 : V) (h : Heap) : Prop :=
    (wg v63 false (wi F L (.faddr 3 (.c v6)) E0 h) h fun v65 h =>
    (wg v63 false (wi F L (.load false 1 (.c v65)) E0 h) h fun v66 h =>
    (wi F L (.pick (.c v63) (.c (.bool true)) (.c v66)) E0 h fun v67 h =>
    (wg v67 false (wi F L (.faddr 7 (.c v6)) E0 h) h fun v69 h =>
    (wg v67 false (wi F L (.load false 1 (.c v69)) E0 h) h fun v70 h =>
    (wg v67 false (wi F L (.bin .geq (.c v70) (.c (.int .i64 0))) E0 h) h fun v71 h =>
    (wi F L (.pick (.c v67) (.c (.bool true)) (.c v71)) E0 h fun v72 h =>
    (wg v72 false (wi F L (.faddr 8 (.c v6)) E0 h) h fun v74 h =>
    (wg v72 false (wi F L (.load false 1 (.c v74)) E0 h) h fun v75 h =>
    (wg v72 false (wi F L (.bin .geq (.c v75) (.c (.int .i64 0))) E0 h) h fun v76 h =>
    (wi F L (.pick (.c v72) (.c (.bool true)) (.c v76)) E0 h fun v77 h =>
    (wg v77 false (wi F L (.faddr 1 (.c v3)) E0 h) h fun v79 h =>
    (wg v77 false (wi F L (.load false 1 (.c v79)) E0 h) h fun v80 h =>
    (wg v77 false (wi F L (.call i_fresh_Heuristic [(.c v80)]) E0 h) h fun v81 h =>
    (wi F L (.pick (.c v77) (.c (.bool true)) (.c v81)) E0 h fun v82 h =>
    (∃ v, some v82 = some v ∧ K v h))))))))))))))))
def k_storing_May_0 (L : FuncId → List V → V → Prop) (K : V → Heap → Prop) (v3 v6 : V) (h : Heap) : Prop :=
    (wi F L (.faddr 3 (.c v3)) E0 h fun v61 h =>
    (wi F L (.load false 1 (.c v61)) E0 h fun v62 h =>
    (wi F L (.call i_storing_has [(.c v62), (.c (.str [69, 120, 112, 105, 114, 101, 115]))]) E0 h fun v63 h =>
    (k_storing_May_1 L K v3 v6 v63 h))))
def k_storing_May_2 (L : FuncId → List V → V → Prop) (K : V → Heap → Prop) (v3 v6 v45 : V) (h : Heap) : Prop :=
    (wg v45 true (wi F L (.faddr 3 (.c v6)) E0 h) h fun v47 h =>
    (wg v45 true (wi F L (.load false 1 (.c v47)) E0 h) h fun v48 h =>
    (wg v45 true (wi F L (.un .not (.c v48)) E0 h) h fun v49 h =>
    (wi F L (.pick (.c v45) (.c v49) (.c (.bool false))) E0 h fun v50 h =>
    (wg v50 true (wi F L (.faddr 4 (.c v6)) E0 h) h fun v52 h =>
    (wg v50 true (wi F L (.load false 1 (.c v52)) E0 h) h fun v53 h =>
    (wg v50 true (wi F L (.un .not (.c v53)) E0 h) h fun v54 h =>
    (wi F L (.pick (.c v50) (.c v54) (.c (.bool false))) E0 h fun v55 h =>
    (wg v55 true (wi F L (.faddr 8 (.c v6)) E0 h) h fun v57 h =>
    (wg v55 true (wi F L (.load false 1 (.c v57)) E0 h) h fun v58 h =>
    (wg v55 true (wi F L (.bin .lss (.c v58) (.c (.int .i64 0))) E0 h) h fun v59 h =>
    (wi F L (.pick (.c v55) (.c v59) (.c (.bool false))) E0 h fun v60 h =>
    (wb v60
    (∃ v, some (.bool false) = some v ∧ K v h)
    (k_storing_May_0 L K v3 v6 h))))))))))))))
def k_storing_May_3 (L : FuncId → List V → V → Prop) (K : V → Heap → Prop) (v2 v3 v6 v36 v40 : V) (h : Heap) : Prop :=
    (wi F L (.pick (.c v36) (.c (.bool true)) (.c v40)) E0 h fun v41 h =>
    (wb v41
    (∃ v, some (.bool false) = some v ∧ K v h)
    (wi F L (.faddr 3 (.c v2)) E0 h fun v43 h =>
    (wi F L (.load false 1 (.c v43)) E0 h fun v44 h =>
    (wi F L (.call i_storing_has [(.c v44), (.c (.str [65, 117, 116, 104, 111, 114, 105, 122, 97, 116, 105, 111, 110]))]) E0 h fun v45 h =>
    (k_storing_May_2 L K v3 v6 v45 h))))))
def k_storing_May_4 (L : FuncId → List V → V → Prop) (K : V → Heap → Prop) (v2 v3 v6 : V) (h : Heap) : Prop :=
    (wi F L (.faddr 1 (.c v3)) E0 h fun v30 h' => Ext h h' ∧
    (wi F L (.load false 1 (.c v30)) E0 h' fun v31 h => Ext h' h ∧
    (wi F L (.faddr 3 (.c v2)) E0 h fun v32 h' => Ext h h' ∧
    (wi F L (.load false 1 (.c v32)) E0 h' fun v33 h => Ext h' h ∧
    (wi F L (.call i_storing_has [(.c v33), (.c (.str [82, 97, 110, 103, 101]))]) E0 h fun v34 h' => Ext h h' ∧
    (wi F L (.call i_storing_known [(.c v31), (.c v34)]) E0 h' fun v35 h =>
    (wi F L (.un .not (.c v35)) E0 h fun v36 h =>
    (wg v36 false (wi F L (.faddr 3 (.c v3)) E0 h) h fun v38 h =>
    (wg v36 false (wi F L (.load false 1 (.c v38)) E0 h) h fun v39 h =>
    (wg v36 false (wi F L (.call i_storing_varies [(.c v39)]) E0 h) h fun v40 h =>
    (k_storing_May_3 L K v2 v3 v6 v36 v40 h)))))))))))
def k_storing_May_5 (L : FuncId → List V → V → Prop) (K : V → Heap → Prop) (v2 v3 v9 v12 : V) (h : Heap) : Prop :=
    (wi F L (.boxz [(.bool false), (.bool false), (.bool false), (.bool false), (.bool false), (.bool false), (.bool false), (.int .i64 0), (.int .i64 0), (.int .i64 0), (.int .i64 0), (.int .i64 0), (.int .i64 0)]) E0 h fun v5 h' => Ext h h' ∧
    (wi F L (.boxz [(.bool false), (.bool false), (.bool false), (.bool false), (.bool false), (.bool false), (.bool false), (.int .i64 0), (.int .i64 0), (.int .i64 0), (.int .i64 0), (.int .i64 0), (.int .i64 0)]) E0 h' fun v6 h => Ext h' h ∧
    (wi F L (.store 13 (.c v5) (.c v9)) E0 h fun _ h =>
    (wi F L (.store 13 (.c v6) (.c v12)) E0 h fun _ h =>
    (wi F L (.faddr 0 (.c v2)) E0 h fun v14 h =>
    (wi F L (.load false 1 (.c v14)) E0 h fun v15 h =>
    (wi F L (.bin .neq (.c v15) (.c (.str [71, 69, 84]))) E0 h fun v16 h =>
    (wg v16 false (wi F L (.faddr 0 (.c v5)) E0 h) h fun v18 h =>
    (wg v16 false (wi F L (.load false 1 (.c v18)) E0 h) h fun v19 h =>
    (wi F L (.pick (.c v16) (.c (.bool true)) (.c v19)) E0 h fun v20 h =>
    (wg v20 false (wi F L (.faddr 0 (.c v6)) E0 h) h fun v22 h =>
    (wg v20 false (wi F L (.load false 1 (.c v22)) E0 h) h fun v23 h =>
    (wi F L (.pick (.c v20) (.c (.bool true)) (.c v23)) E0 h fun v24 h =>
    (wg v24 false (wi F L (.faddr 2 (.c v6)) E0 h) h fun v26 h =>
    (wg v24 false (wi F L (.load false 1 (.c v26)) E0 h) h fun v27 h =>
    (wi F L (.pick (.c v24) (.c (.bool true)) (.c v27)) E0 h fun v28 h =>
    (wb v28
    (∃ v, some (.bool false) = some v ∧ K v h)
    (k_storing_May_4 L K v2 v3 v6 h))))))))))))))))))
def k_storing_May_6 (L : FuncId → List V → V → Prop) (K : V → Heap → Prop) (v2 v3 : V) (h : Heap) : Prop :=
    (wi F L (.faddr 3 (.c v2)) E0 h fun v7 h' => Ext h h' ∧
    (wi F L (.load false 1 (.c v7)) E0 h' fun v8 h => Ext h' h ∧
    (wi F L (.call i_control_Of [(.c v8)]) E0 h fun v9 h' => Ext h h' ∧
    (wi F L (.faddr 3 (.c v3)) E0 h' fun v10 h => Ext h' h ∧
    (wi F L (.load false 1 (.c v10)) E0 h fun v11 h' => Ext h h' ∧
    (wi F L (.call i_control_Of [(.c v11)]) E0 h' fun v12 h => Ext h' h ∧
    (k_storing_May_5 L K v2 v3 v9 v12 h)))))))
def p_storing_May (L : FuncId → List V → V → Prop) (K : V → Heap → Prop) (a0 a1 : V) (h : Heap) : Prop :=
    (wi F L (.box (.c a0)) E0 h fun v2 h =>
    (wi F L (.box (.c a1)) E0 h fun v3 h =>
    (k_storing_May_6 L K v2 v3 h)))
theorem run_storing_May {L : FuncId → List V → V → Prop} {K : V → Heap → Prop} {a0 a1 : V} {h : Heap} (hp : p_storing_May L K a0 a1 h) : Cf F L i_storing_May [a0, a1] h K :=
  wcallp F_storing_May (show 2 ≤ 83 by decide) (p := p_storing_May L K a0 a1 h) (by kernel_rfl) hp
def k_control_Of_1 (L : FuncId → List V → V → Prop) (K : V → Heap → Prop) (v2 v7 v34 : V) (h : Heap) : Prop :=
    (wi F L (.ext 0 (.c v34)) E0 h fun v35 h =>
    (wi F L (.ext 1 (.c v34)) E0 h fun v36 h =>
    (wg v36 true (wi F L (.mv (.c v35)) E0 h) h fun v39 h =>
    (wg v36 true (wi F L (.call i_slices_Contains___string_string_ [(.c v39), (.c (.str [110, 111, 45, 99, 97, 99, 104, 101]))]) E0 h) h fun v40 h =>
    (wi F L (.pick (.c v36) (.c v40) (.c (.bool false))) E0 h fun v41 h =>
    (wi F L (.faddr 1 (.c v7)) E0 h fun v42 h =>
    (wi F L (.store 1 (.c v42) (.c v41)) E0 h fun _ h =>
    (wi F L (.load true 13 (.c v7)) E0 h fun v43 h =>
    (wi F L (.store 13 (.c v2) (.c v43)) E0 h fun _ h =>
    (∃ v, resultsV h (enterE [v2]) [.cell 0 true 13] = some v ∧ K v h))))))))))
def k_control_Of_2 (L : FuncId → List V → V → Prop) (K : V → Heap → Prop) (v0 v2 v25 : V) (h : Heap) : Prop :=
    (wi F L (.boxz [(.bool false), (.bool false), (.bool false), (.bool false), (.bool false), (.bool false), (.bool false), (.int .i64 0), (.int .i64 0), (.int .i64 0), (.int .i64 0), (.int .i64 0), (.int .i64 0)]) E0 h fun v7 h =>
    (wi F L (.store 13 (.c v7) (.c v25)) E0 h fun _ h =>
    (wi F L (.call i_field_Get [(.c v0), (.c (.str [80, 114, 97, 103, 109, 97]))]) E0 h fun v28 h =>
    (wi F L (.ext 0 (.c v28)) E0 h fun v29 h =>
    (wi F L (.ext 1 (.c v28)) E0 h fun v30 h =>
    (wi F L (.call i_token_Lower [(.c v29)]) E0 h fun v33 h =>
    (wi F L (.call i_token_Split [(.c v33)]) E0 h fun v34 h =>
    (k_control_Of_1 L K v2 v7 v34 h))))))))
def k_control_Of_0 (L : FuncId → List V → V → Prop) (K : V → Heap → Prop) (v0 v2 : V) (h : Heap) : Prop :=
    (wi F L (.call i_control_nothing []) E0 h fun v25 h =>
    (k_control_Of_2 L K v0 v2 v25 h))
def k_control_Of_3 (L : FuncId → List V → V → Prop) (K : V → Heap → Prop) (v2 v21 : V) (h : Heap) : Prop :=
    (wi F L (.ext 0 (.c v21)) E0 h fun v22 h =>
    (wi F L (.ext 1 (.c v21)) E0 h fun v23 h =>
    (wi F L (.boxz [(.bool false), (.bool false), (.bool false), (.bool false), (.bool false), (.bool false), (.bool false), (.int .i64 0), (.int .i64 0), (.int .i64 0), (.int .i64 0), (.int .i64 0), (.int .i64 0)]) E0 h fun v5 h =>
    (wi F L (.store 13 (.c v5) (.c v22)) E0 h fun _ h =>
    (wi F L (.load true 13 (.c v5)) E0 h fun v24 h =>
    (wi F L (.store 13 (.c v2) (.c v24)) E0 h fun _ h =>
    (∃ v, resultsV h (enterE [v2]) [.cell 0 true 13] = some v ∧ K v h)))))))
def p_control_Of (L : FuncId → List V → V → Prop) (K : V → Heap → Prop) (a0 : V) (h : Heap) : Prop :=
    (wi F L (.boxz [(.bool false), (.bool false), (.bool false), (.bool false), (.bool false), (.bool false), (.bool false), (.int .i64 0), (.int .i64 0), (.int .i64 0), (.int .i64 0), (.int .i64 0), (.int .i64 0)]) E0 h fun v2 h =>
    (wi F L (.call i_field_Get [(.c a0), (.c (.str [67, 97, 99, 104, 101, 45, 67, 111, 110, 116, 114, 111, 108]))]) E0 h fun v14 h =>
    (wi F L (.ext 0 (.c v14)) E0 h fun v15 h =>
    (wi F L (.ext 1 (.c v14)) E0 h fun v16 h =>
    (wi F L (.bin .gtr (.c v16) (.c (.int .i64 0))) E0 h fun v18 h =>
    (wb v18
    (wi F L (.call i_control_Parse [(.c v15)]) E0 h fun v21 h =>
    (k_control_Of_3 L K v2 v21 h))
    (k_control_Of_0 L K a0 v2 h)))))))
theorem run_control_Of {L : FuncId → List V → V → Prop} {K : V → Heap → Prop} {a0 : V} {h : Heap} (hp : p_control_Of L K a0 h) : Cf F L i_control_Of [a0] h K :=
  wcallp F_control_Of (show 1 ≤ 44 by decide) (p := p_control_Of L K a0 h) (by kernel_rfl) hp
def k_storing_known_0 (L : FuncId → List V → V → Prop) (K : V → Heap → Prop) (h : Heap) : Prop :=
    (∃ v, some (.bool true) = some v ∧ K v h)
def p_storing_known (L : FuncId → List V → V → Prop) (K : V → Heap → Prop) (a0 a1 : V) (h : Heap) : Prop :=
    (wi F L (.bin .lss (.c a0) (.c (.int .i64 200))) E0 h fun v7 h =>
    (wg v7 false (wi F L (.mv (.c a0)) E0 h) h fun v9 h =>
    (wg v7 false (wi F L (.bin .gtr (.c v9) (.c (.int .i64 599))) E0 h) h fun v10 h =>
    (wi F L (.pick (.c v7) (.c (.bool true)) (.c v10)) E0 h fun v11 h =>
    (wg v11 false (wi F L (.mv (.c a0)) E0 h) h fun v13 h =>
    (wg v11 false (wi F L (.bin .eql (.c v13) (.c (.int .i64 304))) E0 h) h fun v14 h =>
    (wi F L (.pick (.c v11) (.c (.bool true)) (.c v14)) E0 h fun v15 h =>
    (wb v15
    (∃ v, some (.bool false) = some v ∧ K v h)
    (wi F L (.bin .lss (.c a0) (.c (.int .i64 300))) E0 h fun v18 h =>
    (wg v18 true (wi F L (.mv (.c a1)) E0 h) h fun v20 h =>
    (wi F L (.pick (.c v18) (.c v20) (.c (.bool false))) E0 h fun v21 h =>
    (wb v21
    (wi F L (.bin .eql (.c a0) (.c (.int .i64 200))) E0 h fun v23 h =>
    (wg v23 false (wi F L (.mv (.c a0)) E0 h) h fun v25 h =>
    (wg v23 false (wi F L (.bin .eql (.c v25) (.c (.int .i64 206))) E0 h) h fun v26 h =>
    (wi F L (.pick (.c v23) (.c (.bool true)) (.c v26)) E0 h fun v27 h =>
    (∃ v, some v27 = some v ∧ K v h)))))
    (k_storing_known_0 L K  h)))))))))))))
theorem run_storing_known {L : FuncId → List V → V → Prop} {K : V → Heap → Prop} {a0 a1 : V} {h : Heap} (hp : p_storing_known L K a0 a1 h) : Cf F L i_storing_known [a0, a1] h K :=
  wcallp F_storing_known (show 2 ≤ 28 by decide) (p := p_storing_known L K a0 a1 h) (by kernel_rfl) hp
def p_storing_has (L : FuncId → List V → V → Prop) (K : V → Heap → Prop) (a0 a1 : V) (h : Heap) : Prop :=
    (wi F L (.box (.c a1)) E0 h fun v3 h =>
    (wi F L (.mkfn i_storing_has_1 [(.c v3)]) E0 h fun v6 h =>
    (wi F L (.call i_slices_ContainsFunc___gatepost_api_Field_gatepost_api_Field_ [(.c a0), (.c v6)]) E0 h fun v7 h =>
    (∃ v, some v7 = some v ∧ K v h))))
theorem run_storing_has {L : FuncId → List V → V → Prop} {K : V → Heap → Prop} {a0 a1 : V} {h : Heap} (hp : p_storing_has L K a0 a1 h) : Cf F L i_storing_has [a0, a1] h K :=
  wcallp F_storing_has (show 2 ≤ 8 by decide) (p := p_storing_has L K a0 a1 h) (by kernel_rfl) hp
def p_storing_varies (L : FuncId → List V → V → Prop) (K : V → Heap → Prop) (a0 : V) (h : Heap) : Prop :=
    (wi F L (.call i_field_Get [(.c a0), (.c (.str [86, 97, 114, 121]))]) E0 h fun v9 h =>
    (wi F L (.ext 0 (.c v9)) E0 h fun v10 h =>
    (wi F L (.ext 1 (.c v9)) E0 h fun v11 h =>
    (wi F L (.call i_token_Split [(.c v10)]) E0 h fun v14 h =>
    (wi F L (.ext 0 (.c v14)) E0 h fun v15 h =>
    (wi F L (.ext 1 (.c v14)) E0 h fun v16 h =>
    (wi F L (.un .not (.c v16)) E0 h fun v18 h =>
    (wg v18 false (wi F L (.mv (.c v15)) E0 h) h fun v20 h =>
    (wg v18 false (wi F L (.call i_slices_Contains___string_string_ [(.c v20), (.c (.str [42]))]) E0 h) h fun v21 h =>
    (wi F L (.pick (.c v18) (.c (.bool true)) (.c v21)) E0 h fun v22 h =>
    (∃ v, some v22 = some v ∧ K v h)))))))))))
theorem run_storing_varies {L : FuncId → List V → V → Prop} {K : V → Heap → Prop} {a0 : V} {h : Heap} (hp : p_storing_varies L K a0 h) : Cf F L i_storing_varies [a0] h K :=
  wcallp F_storing_varies (show 1 ≤ 23 by decide) (p := p_storing_varies L K a0 h) (by kernel_rfl) hp
def k_fresh_Heuristic_0 (L : FuncId → List V → V → Prop) (K : V → Heap → Prop) (h : Heap) : Prop :=
    (∃ v, some (.bool false) = some v ∧ K v h)
def k_fresh_Heuristic_2 (L : FuncId → List V → V → Prop) (K : V → Heap → Prop) (N0 : Env → Heap → Prop) (e : Env) (v6 : V) (h : Heap) : Prop :=
    (wi F L (.bin .add (.c v6) (.c (.int .i64 1))) E0 h fun v12 h =>
    (N0 (upd (upd e 12 v12) 6 v12) h))
def k_fresh_Heuristic_1 (L : FuncId → List V → V → Prop) (K : V → Heap → Prop) (N0 : Env → Heap → Prop) (e : Env) (v0 v5 v6 : V) (h : Heap) : Prop :=
    (wi F L (.ixArr 12 1 false (.c v5) (.c v6)) E0 h fun v8 h =>
    (wi F L (.bin .eql (.c v8) (.c v0)) E0 h fun v11 h =>
    (wb v11
    (∃ v, some (.bool true) = some v ∧ K v h)
    (k_fresh_Heuristic_2 L K N0 (upd (upd (upd (upd (upd e 8 v8) 4 v8) 9 v8) 10 v0) 11 v11) v6 h))))
def q_fresh_Heuristic_0 (L : FuncId → List V → V → Prop) (K : V → Heap → Prop) : X → Env → Heap → Prop := (fun x => (seqX (fun e h => k_fresh_Heuristic_0 L K  h) (retX c_fresh_Heuristic.results K)) (X.out 0 x))
def lc_fresh_Heuristic_0 : C :=
  (.seq (.region [⟨(some 7), none, .bin .lss (.t 6) (.c (.int .i64 12))⟩])
  (.seq (.cond (.t 7)
    .skip
    (.exit 0))
  (.seq (.block 1 (.seq (.region [⟨(some 8), none, .ixArr 12 1 false (.t 5) (.t 6)⟩, ⟨(some 4), none, .mv (.t 8)⟩])
  (.seq (.region [⟨(some 9), none, .mv (.t 4)⟩, ⟨(some 10), none, .mv (.t 0)⟩, ⟨(some 11), none, .bin .eql (.t 9) (.t 10)⟩])
  (.cond (.t 11)
    (.seq (.region [⟨(some 2), none, .mv (.c (.bool true))⟩])
    .ret)
    .skip))))
  (.region [⟨(some 12), none, .bin .add (.t 6) (.c (.int .i64 1))⟩, ⟨(some 6), none, .mv (.t 12)⟩]))))
def b_fresh_Heuristic_0 (L : FuncId → List V → V → Prop) (K : V → Heap → Prop) (N0 : Env → Heap → Prop) (e : Env) (h : Heap) : Prop :=
    (wi F L (.bin .lss (.c (e 6)) (.c (.int .i64 12))) E0 h fun v7 h =>
    (wb v7
    (k_fresh_Heuristic_1 L K N0 (upd e 7 v7) (e 0) (e 5) (e 6) h)
    (k_fresh_Heuristic_0 L K  h)))
theorem l_fresh_Heuristic_0 {L : FuncId → List V → V → Prop} {K : V → Heap → Prop} (I : Nat → Env → Heap → Prop) (hr : ∀ n e h, I n e h → b_fresh_Heuristic_0 L K (fun e' h' => ∃ m, m < n ∧ I m e' h') e h) {n : Nat} {e : Env} {h : Heap} (hi : I n e h) : Wl F L lc_fresh_Heuristic_0 (q_fresh_Heuristic_0 L K) e h :=
  wloopp (b := b_fresh_Heuristic_0 L K) I (fun _ _ _ => by kernel_rfl) hr hi
def p_fresh_Heuristic (L : FuncId → List V → V → Prop) (K : V → Heap → Prop) (a0 : V) (h : Heap) : Prop :=
    (wi F L (.call i_fresh_keeps []) E0 h fun v5 h =>
    (Wl F L lc_fresh_Heuristic_0 (q_fresh_Heuristic_0 L K) (upd (upd (upd (enterE [a0]) 2 (.bool false)) 5 v5) 6 (.int .i64 0)) h))
theorem run_fresh_Heuristic {L : FuncId → List V → V → Prop} {K : V → Heap → Prop} {a0 : V} {h : Heap} (hp : p_fresh_Heuristic L K a0 h) : Cf F L i_fresh_Heuristic [a0] h K :=
  wcallp F_fresh_Heuristic (show 1 ≤ 13 by decide) (p := p_fresh_Heuristic L K a0 h) (by kernel_rfl) hp
def k_field_Get_0 (L : FuncId → List V → V → Prop) (K : V → Heap → Prop) (v6 : V) (h : Heap) : Prop :=
    (wi F L (.call i_strings_Join [(.c v6), (.c (.str [44, 32]))]) E0 h fun v26 h =>
    (wi F L (.len 1 (.c v6)) E0 h fun v28 h =>
    (∃ v, resultsV h (enterE [v26, v28]) [.tmp 0, .tmp 1] = some v ∧ K v h)))
def k_field_Get_2 (L : FuncId → List V → V → Prop) (K : V → Heap → Prop) (N0 : Env → Heap → Prop) (e : Env) (v11 : V) (h : Heap) : Prop :=
    (wi F L (.bin .add (.c v11) (.c (.int .i64 1))) E0 h fun v24 h =>
    (N0 (upd (upd e 24 v24) 11 v24) h))
def k_field_Get_1 (L : FuncId → List V → V → Prop) (K : V → Heap → Prop) (N0 : Env → Heap → Prop) (e : Env) (v1 v6 v9 v11 : V) (h : Heap) : Prop :=
    (wi F L (.ixaSl 2 (.c v9) (.c v11)) E0 h fun v13 h =>
    (wi F L (.load true 2 (.c v13)) E0 h fun v14 h =>
    (wi F L (.boxz [(.str []), (.str [])]) E0 h fun v8 h =>
    (wi F L (.store 2 (.c v8) (.c v14)) E0 h fun _ h =>
    (wi F L (.faddr 0 (.c v8)) E0 h fun v15 h =>
    (wi F L (.load false 1 (.c v15)) E0 h fun v16 h =>
    (wi F L (.call i_token_Same [(.c v16), (.c v1)]) E0 h fun v18 h =>
    (wb v18
    (wi F L (.faddr 1 (.c v8)) E0 h fun v20 h =>
    (wi F L (.load false 1 (.c v20)) E0 h fun v21 h =>
    (wi F L (.bsl 1 [(.c v21)]) E0 h fun v22 h =>
    (wi F L (.app 1 16 false (.c v6) (.c v22)) E0 h fun v23 h =>
    (k_field_Get_2 L K N0 (upd (upd (upd (upd (upd (upd (upd (upd (upd (upd (upd (upd (upd e 13 v13) 14 v14) 8 v8) 15 v15) 16 v16) 17 v1) 18 v18) 19 v6) 20 v20) 21 v21) 22 v22) 23 v23) 6 v23) v11 h)))))
    (k_field_Get_2 L K N0 (upd (upd (upd (upd (upd (upd (upd e 13 v13) 14 v14) 8 v8) 15 v15) 16 v16) 17 v1) 18 v18) v11 h)))))))))
def q_field_Get_0 (L : FuncId → List V → V → Prop) (K : V → Heap → Prop) : X → Env → Heap → Prop := (fun x => (seqX (fun e h => k_field_Get_0 L K (e 6) h) (retX c_field_Get.results K)) (X.out 0 x))
def lc_field_Get_0 : C :=
  (.seq (.region [⟨(some 12), none, .bin .lss (.t 11) (.t 10)⟩])
  (.seq (.cond (.t 12)
    .skip
    (.exit 0))
  (.seq (.block 1 (.seq (.region [⟨(some 13), none, .ixaSl 2 (.t 9) (.t 11)⟩, ⟨(some 14), none, .load true 2 (.t 13)⟩, ⟨(some 8), none, .boxz [(.str []), (.str [])]⟩, ⟨none, none, .store 2 (.t 8) (.t 14)⟩])
  (.seq (.region [⟨(some 15), none, .faddr 0 (.t 8)⟩, ⟨(some 16), none, .load false 1 (.t 15)⟩, ⟨(some 17), none, .mv (.t 1)⟩, ⟨(some 18), none, .call i_token_Same [(.t 16), (.t 17)]⟩])
  (.cond (.t 18)
    (.region [⟨(some 19), none, .mv (.t 6)⟩, ⟨(some 20), none, .faddr 1 (.t 8)⟩, ⟨(some 21), none, .load false 1 (.t 20)⟩, ⟨(some 22), none, .bsl 1 [(.t 21)]⟩, ⟨(some 23), none, .app 1 16 false (.t 19) (.t 22)⟩, ⟨(some 6), none, .mv (.t 23)⟩])
    .skip))))
  (.region [⟨(some 24), none, .bin .add (.t 11) (.c (.int .i64 1))⟩, ⟨(some 11), none, .mv (.t 24)⟩]))))
def b_field_Get_0 (L : FuncId → List V → V → Prop) (K : V → Heap → Prop) (N0 : Env → Heap → Prop) (e : Env) (h : Heap) : Prop :=
    (wi F L (.bin .lss (.c (e 11)) (.c (e 10))) E0 h fun v12 h =>
    (wb v12
    (k_field_Get_1 L K N0 (upd e 12 v12) (e 1) (e 6) (e 9) (e 11) h)
    (k_field_Get_0 L K (e 6) h)))
theorem l_field_Get_0 {L : FuncId → List V → V → Prop} {K : V → Heap → Prop} (I : Nat → Env → Heap → Prop) (hr : ∀ n e h, I n e h → b_field_Get_0 L K (fun e' h' => ∃ m, m < n ∧ I m e' h') e h) {n : Nat} {e : Env} {h : Heap} (hi : I n e h) : Wl F L lc_field_Get_0 (q_field_Get_0 L K) e h :=
  wloopp (b := b_field_Get_0 L K) I (fun _ _ _ => by kernel_rfl) hr hi
def p_field_Get (L : FuncId → List V → V → Prop) (K : V → Heap → Prop) (a0 a1 : V) (h : Heap) : Prop :=
    (wi F L (.len 1 (.c a0)) E0 h fun v10 h =>
    (Wl F L lc_field_Get_0 (q_field_Get_0 L K) (upd (upd (upd (upd (upd (upd (enterE [a0, a1]) 4 (.str [])) 5 (.int .i64 0)) 6 .nsl) 9 a0) 10 v10) 11 (.int .i64 0)) h))
theorem run_field_Get {L : FuncId → List V → V → Prop} {K : V → Heap → Prop} {a0 a1 : V} {h : Heap} (hp : p_field_Get L K a0 a1 h) : Cf F L i_field_Get [a0, a1] h K :=
  wcallp F_field_Get (show 2 ≤ 29 by decide) (p := p_field_Get L K a0 a1 h) (by kernel_rfl) hp
def k_control_Parse_1 (L : FuncId → List V → V → Prop) (K : V → Heap → Prop) (v2 v4 : V) (h : Heap) : Prop :=
    (wi F L (.load true 13 (.c v4)) E0 h fun v83 h =>
    (wi F L (.store 13 (.c v2) (.c v83)) E0 h fun _ h =>
    (∃ v, resultsV h (enterE [v2, (.bool true)]) [.cell 0 true 13, .tmp 1] = some v ∧ K v h)))
def k_control_Parse_3 (L : FuncId → List V → V → Prop) (K : V → Heap → Prop) (N0 : Env → Heap → Prop) (e : Env) (v31 : V) (h : Heap) : Prop :=
    (wi F L (.bin .add (.c v31) (.c (.int .i64 1))) E0 h fun v82 h =>
    (N0 (upd (upd e 82 v82) 31 v82) h))
def k_control_Parse_4 (L : FuncId → List V → V → Prop) (K : V → Heap → Prop) (N0 : Env → Heap → Prop) (e : Env) (v7 v14 v31 v33 v34 v37 v38 v39 v40 v41 v44 v45 v47 v48 v49 v54 v55 v56 v57 v58 v59 v60 v63 : V) (h : Heap) : Prop :=
    (wi F L (.bin .neq (.c v63) (.c (.int .i64 (-1)))) E0 h fun v65 h =>
    (wg v65 true (wi F L (.mv (.c v59)) E0 h) h fun v67 h =>
    (wg v65 true (wi F L (.nilck (.c v67)) E0 h) h fun v68 h =>
    (wg v65 true (wi F L (.load false 1 (.c v68)) E0 h) h fun v69 h =>
    (wg v65 true (wi F L (.bin .eql (.c v69) (.c (.int .i64 (-1)))) E0 h) h fun v70 h =>
    (wg v65 true (wi F L (.mv (.c v70)) E0 h) h fun v71 h =>
    (wg v71 false (wi F L (.mv (.c v63)) E0 h) h fun v72 h =>
    (wg v71 false (wi F L (.mv (.c v59)) E0 h) h fun v73 h =>
    (wg v71 false (wi F L (.nilck (.c v73)) E0 h) h fun v74 h =>
    (wg v71 false (wi F L (.load false 1 (.c v74)) E0 h) h fun v75 h =>
    (wg v71 false (wi F L (.bin .lss (.c v72) (.c v75)) E0 h) h fun v76 h =>
    (wg v65 true (wi F L (.pick (.c v71) (.c (.bool true)) (.c v76)) E0 h) h fun v77 h =>
    (wi F L (.pick (.c v65) (.c v77) (.c (.bool false))) E0 h fun v78 h =>
    (wb v78
    (wi F L (.nilck (.c v59)) E0 h fun v81 h =>
    (wi F L (.store 1 (.c v81) (.c v63)) E0 h fun _ h =>
    (k_control_Parse_3 L K N0 (upd (upd (upd (upd (upd (upd (upd (upd (upd (upd (upd (upd (upd (upd (upd (upd (upd (upd (upd (upd (upd (upd (upd (upd (upd (upd (upd (upd (upd (upd (upd (upd (upd (upd (upd (upd (upd (upd (upd (upd (upd (upd (upd (upd (upd (upd (upd (upd (upd (upd (upd (upd (upd (upd e 33 v33) 34 v34) 9 v34) 36 v34) 37 v37) 35 v37) 38 v38) 39 v39) 40 v40) 41 v41) 10 v38) 11 v39) 12 v40) 13 v41) 42 v7) 43 v38) 44 v44) 45 v45) 14 v14) 47 v47) 48 v48) 49 v49) 46 v49) 54 v54) 55 v55) 56 v56) 53 v56) 57 v57) 58 v58) 59 v59) 60 v60) 61 v39) 62 v40) 63 v63) 15 v59) 16 v63) 64 v63) 65 v65) 66 v65) 67 v67) 68 v68) 69 v69) 70 v70) 71 v71) 72 v72) 73 v73) 74 v74) 75 v75) 76 v76) 77 v77) 78 v78) 79 v59) 80 v63) 81 v81) v31 h)))
    (k_control_Parse_3 L K N0 (upd (upd (upd (upd (upd (upd (upd (upd (upd (upd (upd (upd (upd (upd (upd (upd (upd (upd (upd (upd (upd (upd (upd (upd (upd (upd (upd (upd (upd (upd (upd (upd (upd (upd (upd (upd (upd (upd (upd (upd (upd (upd (upd (upd (upd (upd (upd (upd (upd (upd (upd e 33 v33) 34 v34) 9 v34) 36 v34) 37 v37) 35 v37) 38 v38) 39 v39) 40 v40) 41 v41) 10 v38) 11 v39) 12 v40) 13 v41) 42 v7) 43 v38) 44 v44) 45 v45) 14 v14) 47 v47) 48 v48) 49 v49) 46 v49) 54 v54) 55 v55) 56 v56) 53 v56) 57 v57) 58 v58) 59 v59) 60 v60) 61 v39) 62 v40) 63 v63) 15 v59) 16 v63) 64 v63) 65 v65) 66 v65) 67 v67) 68 v68) 69 v69) 70 v70) 71 v71) 72 v72) 73 v73) 74 v74) 75 v75) 76 v76) 77 v77) 78 v78) v31 h)))))))))))))))
def k_control_Parse_5 (L : FuncId → List V → V → Prop) (K : V → Heap → Prop) (N0 : Env → Heap → Prop) (e : Env) (v4 v7 v31 v33 v34 v37 v38 v39 v40 v41 v44 v45 : V) (h : Heap) : Prop :=
    (wi F L (.boxz [.nfn, .nfn, (.int .i64 0), (.int .i64 0)]) E0 h fun v14 h =>
    (wi F L (.store 4 (.c v14) (.c v45)) E0 h fun _ h =>
    (wi F L (.faddr 0 (.c v14)) E0 h fun v47 h =>
    (wi F L (.load false 1 (.c v47)) E0 h fun v48 h =>
    (wi F L (.eq (.nil 2) true (.c v48) (.c .nfn)) E0 h fun v49 h =>
    (wb v49
    (wi F L (.faddr 0 (.c v14)) E0 h fun v50 h =>
    (wi F L (.load false 1 (.c v50)) E0 h fun v51 h =>
    (wi F L (.callv (.c v51) [(.c v4)]) E0 h fun v52 h =>
    (k_control_Parse_3 L K N0 (upd (upd (upd (upd (upd (upd (upd (upd (upd (upd (upd (upd (upd (upd (upd (upd (upd (upd (upd (upd (upd (upd (upd (upd (upd (upd e 33 v33) 34 v34) 9 v34) 36 v34) 37 v37) 35 v37) 38 v38) 39 v39) 40 v40) 41 v41) 10 v38) 11 v39) 12 v40) 13 v41) 42 v7) 43 v38) 44 v44) 45 v45) 14 v14) 47 v47) 48 v48) 49 v49) 46 v49) 50 v50) 51 v51) 52 v52) v31 h))))
    (wi F L (.faddr 1 (.c v14)) E0 h fun v54 h =>
    (wi F L (.load false 1 (.c v54)) E0 h fun v55 h =>
    (wi F L (.eq (.nil 2) true (.c v55) (.c .nfn)) E0 h fun v56 h =>
    (wb v56
    (wi F L (.faddr 1 (.c v14)) E0 h fun v57 h' => Ext h h' ∧
    (wi F L (.load false 1 (.c v57)) E0 h' fun v58 h => Ext h' h ∧
    (wi F L (.callv (.c v58) [(.c v4)]) E0 h fun v59 h' => Ext h h' ∧
    (wi F L (.load true 4 (.c v14)) E0 h' fun v60 h => Ext h' h ∧
    (wi F L (.call i__gatepost_control_rule__value [(.c v60), (.c v39), (.c v40)]) E0 h fun v63 h =>
    (k_control_Parse_4 L K N0 e v7 v14 v31 v33 v34 v37 v38 v39 v40 v41 v44 v45 v47 v48 v49 v54 v55 v56 v57 v58 v59 v60 v63 h))))))
    (k_control_Parse_3 L K N0 (upd (upd (upd (upd (upd (upd (upd (upd (upd (upd (upd (upd (upd (upd (upd (upd (upd (upd (upd (upd (upd (upd (upd (upd (upd (upd (upd e 33 v33) 34 v34) 9 v34) 36 v34) 37 v37) 35 v37) 38 v38) 39 v39) 40 v40) 41 v41) 10 v38) 11 v39) 12 v40) 13 v41) 42 v7) 43 v38) 44 v44) 45 v45) 14 v14) 47 v47) 48 v48) 49 v49) 46 v49) 54 v54) 55 v55) 56 v56) 53 v56) v31 h)))))))))))
def k_control_Parse_6 (L : FuncId → List V → V → Prop) (K : V → Heap → Prop) (N0 : Env → Heap → Prop) (e : Env) (v4 v7 v31 v33 v34 v37 : V) (h : Heap) : Prop :=
    (wi F L (.ext 0 (.c v37)) E0 h fun v38 h =>
    (wi F L (.ext 1 (.c v37)) E0 h fun v39 h =>
    (wi F L (.ext 2 (.c v37)) E0 h fun v40 h =>
    (wi F L (.ext 3 (.c v37)) E0 h fun v41 h =>
    (wi F L (.call i_token_Lower [(.c v38)]) E0 h fun v44 h =>
    (wi F L (.lookup .s (.agg [.nfn, .nfn, (.int .i64 0), (.int .i64 0)]) false (.c v7) (.c v44)) E0 h fun v45 h =>
    (k_control_Parse_5 L K N0 e v4 v7 v31 v33 v34 v37 v38 v39 v40 v41 v44 v45 h)))))))
def k_control_Parse_2 (L : FuncId → List V → V → Prop) (K : V → Heap → Prop) (N0 : Env → Heap → Prop) (e : Env) (v4 v7 v29 v31 : V) (h : Heap) : Prop :=
    (wi F L (.ixaSl 1 (.c v29) (.c v31)) E0 h fun v33 h =>
    (wi F L (.load false 1 (.c v33)) E0 h fun v34 h =>
    (wi F L (.call i_token_Pair [(.c v34)]) E0 h fun v37 h =>
    (k_control_Parse_6 L K N0 e v4 v7 v31 v33 v34 v37 h))))
def q_control_Parse_0 (L : FuncId → List V → V → Prop) (K : V → Heap → Prop) : X → Env → Heap → Prop := (fun x => (seqX (fun e h => k_control_Parse_1 L K (e 2) (e 4) h) (retX c_control_Parse.results K)) (X.out 0 x))
def lc_control_Parse_0 : C :=
  (.seq (.region [⟨(some 32), none, .bin .lss (.t 31) (.t 30)⟩])
  (.seq (.cond (.t 32)
    .skip
    (.exit 0))
  (.seq (.block 1 (.seq (.region [⟨(some 33), none, .ixaSl 1 (.t 29) (.t 31)⟩, ⟨(some 34), none, .load false 1 (.t 33)⟩, ⟨(some 9), none, .mv (.t 34)⟩])
  (.seq (.region [⟨(some 36), none, .mv (.t 9)⟩, ⟨(some 37), none, .call i_token_Pair [(.t 36)]⟩, ⟨(some 35), none, .mv (.t 37)⟩, ⟨(some 38), none, .ext 0 (.t 35)⟩, ⟨(some 39), none, .ext 1 (.t 35)⟩, ⟨(some 40), none, .ext 2 (.t 35)⟩, ⟨(some 41), none, .ext 3 (.t 35)⟩, ⟨(some 10), none, .mv (.t 38)⟩, ⟨(some 11), none, .mv (.t 39)⟩, ⟨(some 12), none, .mv (.t 40)⟩, ⟨(some 13), none, .mv (.t 41)⟩])
  (.seq (.region [⟨(some 42), none, .mv (.t 7)⟩, ⟨(some 43), none, .mv (.t 10)⟩, ⟨(some 44), none, .call i_token_Lower [(.t 43)]⟩, ⟨(some 45), none, .lookup .s (.agg [.nfn, .nfn, (.int .i64 0), (.int .i64 0)]) false (.t 42) (.t 44)⟩, ⟨(some 14), none, .boxz [.nfn, .nfn, (.int .i64 0), (.int .i64 0)]⟩, ⟨none, none, .store 4 (.t 14) (.t 45)⟩])
  (.block 2 (.seq (.region [⟨(some 47), none, .faddr 0 (.t 14)⟩, ⟨(some 48), none, .load false 1 (.t 47)⟩, ⟨(some 49), none, .eq (.nil 2) true (.t 48) (.c .nfn)⟩, ⟨(some 46), none, .mv (.t 49)⟩])
  (.cond (.t 46)
    (.region [⟨(some 50), none, .faddr 0 (.t 14)⟩, ⟨(some 51), none, .load false 1 (.t 50)⟩, ⟨(some 52), none, .callv (.t 51) [(.t 4)]⟩])
    (.seq (.region [⟨(some 54), none, .faddr 1 (.t 14)⟩, ⟨(some 55), none, .load false 1 (.t 54)⟩, ⟨(some 56), none, .eq (.nil 2) true (.t 55) (.c .nfn)⟩, ⟨(some 53), none, .mv (.t 56)⟩])
    (.cond (.t 53)
      (.seq (.dregion [⟨(some 57), none, .faddr 1 (.t 14)⟩, ⟨(some 58), none, .load false 1 (.t 57)⟩, ⟨(some 59), none, .callv (.t 58) [(.t 4)]⟩, ⟨(some 60), none, .load true 4 (.t 14)⟩, ⟨(some 61), none, .mv (.t 11)⟩, ⟨(some 62), none, .mv (.t 12)⟩] [⟨(some 63), none, .call i__gatepost_control_rule__value [(.t 60), (.t 61), (.t 62)]⟩, ⟨(some 15), none, .mv (.t 59)⟩, ⟨(some 16), none, .mv (.t 63)⟩])
      (.seq (.region [⟨(some 64), none, .mv (.t 16)⟩, ⟨(some 65), none, .bin .neq (.t 64) (.c (.int .i64 (-1)))⟩, ⟨(some 66), none, .mv (.t 65)⟩, ⟨(some 67), (some (66, true)), .mv (.t 15)⟩, ⟨(some 68), (some (66, true)), .nilck (.t 67)⟩, ⟨(some 69), (some (66, true)), .load false 1 (.t 68)⟩, ⟨(some 70), (some (66, true)), .bin .eql (.t 69) (.c (.int .i64 (-1)))⟩, ⟨(some 71), (some (66, true)), .mv (.t 70)⟩, ⟨(some 72), (some (71, false)), .mv (.t 16)⟩, ⟨(some 73), (some (71, false)), .mv (.t 15)⟩, ⟨(some 74), (some (71, false)), .nilck (.t 73)⟩, ⟨(some 75), (some (71, false)), .load false 1 (.t 74)⟩, ⟨(some 76), (some (71, false)), .bin .lss (.t 72) (.t 75)⟩, ⟨(some 77), (some (66, true)), .pick (.t 71) (.c (.bool true)) (.t 76)⟩, ⟨(some 78), none, .pick (.t 66) (.t 77) (.c (.bool false))⟩])
      (.cond (.t 78)
        (.region [⟨(some 79), none, .mv (.t 15)⟩, ⟨(some 80), none, .mv (.t 16)⟩, ⟨(some 81), none, .nilck (.t 79)⟩, ⟨none, none, .store 1 (.t 81) (.t 80)⟩])
        .skip)))
      .skip)))))))))
  (.region [⟨(some 82), none, .bin .add (.t 31) (.c (.int .i64 1))⟩, ⟨(some 31), none, .mv (.t 82)⟩]))))
def b_control_Parse_0 (L : FuncId → List V → V → Prop) (K : V → Heap → Prop) (N0 : Env → Heap → Prop) (e : Env) (h : Heap) : Prop :=
    (wi F L (.bin .lss (.c (e 31)) (.c (e 30))) E0 h fun v32 h =>
    (wb v32
    (k_control_Parse_2 L K N0 (upd e 32 v32) (e 4) (e 7) (e 29) (e 31) h)
    (k_control_Parse_1 L K (e 2) (e 4) h)))
theorem l_control_Parse_0 {L : FuncId → List V → V → Prop} {K : V → Heap → Prop} (I : Nat → Env → Heap → Prop) (hr : ∀ n e h, I n e h → b_control_Parse_0 L K (fun e' h' => ∃ m, m < n ∧ I m e' h') e h) {n : Nat} {e : Env} {h : Heap} (hi : I n e h) : Wl F L lc_control_Parse_0 (q_control_Parse_0 L K) e h :=
  wloopp (b := b_control_Parse_0 L K) I (fun _ _ _ => by kernel_rfl) hr hi
def k_control_Parse_0 (L : FuncId → List V → V → Prop) (K : V → Heap → Prop) (e : Env) (v5 : V) (h : Heap) : Prop :=
    (wi F L (.call i_control_rules []) E0 h fun v28 h =>
    (wi F L (.len 1 (.c v5)) E0 h fun v30 h =>
    (Wl F L lc_control_Parse_0 (q_control_Parse_0 L K) (upd (upd (upd (upd (upd e 28 v28) 7 v28) 29 v5) 30 v30) 31 (.int .i64 0)) h)))
def k_control_Parse_7 (L : FuncId → List V → V → Prop) (K : V → Heap → Prop) (a0 v2 v4 v17 v20 : V) (h : Heap) : Prop :=
    (wi F L (.ext 0 (.c v20)) E0 h fun v21 h =>
    (wi F L (.ext 1 (.c v20)) E0 h fun v22 h =>
    (wi F L (.un .not (.c v22)) E0 h fun v24 h =>
    (wb v24
    (wi F L (.faddr 0 (.c v4)) E0 h fun v25 h =>
    (wi F L (.store 1 (.c v25) (.c (.bool true))) E0 h fun _ h =>
    (wi F L (.faddr 1 (.c v4)) E0 h fun v26 h =>
    (wi F L (.store 1 (.c v26) (.c (.bool true))) E0 h fun _ h =>
    (wi F L (.load true 13 (.c v4)) E0 h fun v27 h =>
    (wi F L (.store 13 (.c v2) (.c v27)) E0 h fun _ h =>
    (∃ v, resultsV h (enterE [v2, (.bool false)]) [.cell 0 true 13, .tmp 1] = some v ∧ K v h)))))))
    (k_control_Parse_0 L K (upd (upd (upd (upd (upd (upd (upd (upd (upd (upd (upd (upd (upd (enterE [a0]) 2 v2) 3 (.bool false)) 17 v17) 4 v4) 19 a0) 20 v20) 18 v20) 21 v21) 22 v22) 5 v21) 6 v22) 23 v22) 24 v24) v21 h)))))
def p_control_Parse (L : FuncId → List V → V → Prop) (K : V → Heap → Prop) (a0 : V) (h : Heap) : Prop :=
    (wi F L (.boxz [(.bool false), (.bool false), (.bool false), (.bool false), (.bool false), (.bool false), (.bool false), (.int .i64 0), (.int .i64 0), (.int .i64 0), (.int .i64 0), (.int .i64 0), (.int .i64 0)]) E0 h fun v2 h =>
    (wi F L (.call i_control_nothing []) E0 h fun v17 h =>
    (wi F L (.boxz [(.bool false), (.bool false), (.bool false), (.bool false), (.bool false), (.bool false), (.bool false), (.int .i64 0), (.int .i64 0), (.int .i64 0), (.int .i64 0), (.int .i64 0), (.int .i64 0)]) E0 h fun v4 h =>
    (wi F L (.store 13 (.c v4) (.c v17)) E0 h fun _ h =>
    (wi F L (.call i_token_Split [(.c a0)]) E0 h fun v20 h =>
    (k_control_Parse_7 L K a0 v2 v4 v17 v20 h))))))
theorem run_control_Parse {L : FuncId → List V → V → Prop} {K : V → Heap → Prop} {a0 : V} {h : Heap} (hp : p_control_Parse L K a0 h) : Cf F L i_control_Parse [a0] h K :=
  wcallp F_control_Parse (show 1 ≤ 84 by decide) (p := p_control_Parse L K a0 h) (by kernel_rfl) hp
def p_control_nothing (L : FuncId → List V → V → Prop) (K : V → Heap → Prop) (h : Heap) : Prop :=
    (wi F L (.boxz [(.bool false), (.bool false), (.bool false), (.bool false), (.bool false), (.bool false), (.bool false), (.int .i64 0), (.int .i64 0), (.int .i64 0), (.int .i64 0), (.int .i64 0), (.int .i64 0)]) E0 h fun v0 h =>
    (wi F L (.build [(.bool false), (.bool false), (.bool false), (.bool false), (.bool false), (.bool false), (.bool false), (.int .i64 0), (.int .i64 0), (.int .i64 0), (.int .i64 0), (.int .i64 0), (.int .i64 0)] [(7, 1, (.c (.int .i64 (-1)))), (8, 1, (.c (.int .i64 (-1)))), (9, 1, (.c (.int .i64 (-1)))), (10, 1, (.c (.int .i64 (-1)))), (11, 1, (.c (.int .i64 (-1)))), (12, 1, (.c (.int .i64 (-1))))]) E0 h fun v1 h =>
    (wi F L (.store 13 (.c v0) (.c v1)) E0 h fun _ h =>
    (∃ v, resultsV h (enterE [v0]) [.cell 0 true 13] = some v ∧ K v h))))
theorem run_control_nothing {L : FuncId → List V → V → Prop} {K : V → Heap → Prop} {h : Heap} (hp : p_control_nothing L K  h) : Cf F L i_control_nothing [] h K :=
  wcallp F_control_nothing (show 0 ≤ 2 by decide) (p := p_control_nothing L K  h) (by kernel_rfl) hp
def k_token_Split_1 (L : FuncId → List V → V → Prop) (K : V → Heap → Prop) (v1 v4 v6 : V) (h : Heap) : Prop :=
    (wi F L (.load false 1 (.c v1)) E0 h fun v45 h =>
    (wi F L (.len 0 (.c v45)) E0 h fun v46 h =>
    (wi F L (.callv (.c v6) [(.c v46)]) E0 h fun v47 h =>
    (wi F L (.load false 1 (.c v4)) E0 h fun v48 h =>
    (wi F L (.load false 1 (.c v4)) E0 h fun v49 h =>
    (wi F L (.len 1 (.c v49)) E0 h fun v50 h =>
    (wi F L (.load false 1 (.c v4)) E0 h fun v51 h =>
    (wi F L (.len 1 (.c v51)) E0 h fun v52 h =>
    (wi F L (.slsl 1 (.c v48) none (some (.c v50)) (some (.c v52))) E0 h fun v53 h =>
    (∃ v, resultsV h (enterE [v53, (.bool true)]) [.tmp 0, .tmp 1] = some v ∧ K v h))))))))))
def k_token_Split_0 (L : FuncId → List V → V → Prop) (K : V → Heap → Prop) (v1 v4 v6 v7 : V) (h : Heap) : Prop :=
    (wb v7
    (∃ v, resultsV h (enterE [.nsl, (.bool false)]) [.tmp 0, .tmp 1] = some v ∧ K v h)
    (k_token_Split_1 L K v1 v4 v6 h))
def k_token_Split_3 (L : FuncId → List V → V → Prop) (K : V → Heap → Prop) (N0 : Env → Heap → Prop) (e : Env) (v8 : V) (h : Heap) : Prop :=
    (wi F L (.bin .add (.c v8) (.c (.int .i64 1))) E0 h fun v16 h =>
    (N0 (upd (upd (upd e 15 v8) 16 v16) 8 v16) h))
def k_token_Split_2 (L : FuncId → List V → V → Prop) (K : V → Heap → Prop) (N0 : Env → Heap → Prop) (e : Env) (v1 v6 v7 v8 : V) (h : Heap) : Prop :=
    (wi F L (.load false 1 (.c v1)) E0 h fun v17 h =>
    (wi F L (.ixStr (.c v17) (.c v8)) E0 h fun v19 h =>
    (wi F L (.bin .eql (.c v19) (.c (.int .u8 34))) E0 h fun v22 h =>
    (wb v22
    (wi F L (.un .not (.c v7)) E0 h fun v24 h =>
    (k_token_Split_3 L K N0 (upd (upd (upd (upd (upd (upd (upd (upd (upd (upd e 17 v17) 18 v8) 19 v19) 9 v19) 21 v19) 22 v22) 20 v22) 23 v7) 24 v24) 7 v24) v8 h))
    (wg v7 true (wi F L (.mv (.c v19)) E0 h) h fun v28 h =>
    (wg v7 true (wi F L (.bin .eql (.c v28) (.c (.int .u8 92))) E0 h) h fun v29 h =>
    (wi F L (.pick (.c v7) (.c v29) (.c (.bool false))) E0 h fun v30 h =>
    (wb v30
    (wi F L (.bin .add (.c v8) (.c (.int .i64 1))) E0 h fun v32 h =>
    (k_token_Split_3 L K N0 (upd (upd (upd (upd (upd (upd (upd (upd (upd (upd (upd (upd (upd (upd (upd (upd e 17 v17) 18 v8) 19 v19) 9 v19) 21 v19) 22 v22) 20 v22) 26 v7) 27 v7) 28 v28) 29 v29) 30 v30) 25 v30) 31 v8) 32 v32) 8 v32) v32 h))
    (wi F L (.un .not (.c v7)) E0 h fun v35 h =>
    (wg v35 true (wi F L (.mv (.c v19)) E0 h) h fun v37 h =>
    (wg v35 true (wi F L (.bin .eql (.c v37) (.c (.int .u8 44))) E0 h) h fun v38 h =>
    (wi F L (.pick (.c v35) (.c v38) (.c (.bool false))) E0 h fun v39 h =>
    (wb v39
    (wi F L (.callv (.c v6) [(.c v8)]) E0 h fun v42 h =>
    (k_token_Split_3 L K N0 (upd (upd (upd (upd (upd (upd (upd (upd (upd (upd (upd (upd (upd (upd (upd (upd (upd (upd (upd (upd (upd (upd (upd e 17 v17) 18 v8) 19 v19) 9 v19) 21 v19) 22 v22) 20 v22) 26 v7) 27 v7) 28 v28) 29 v29) 30 v30) 25 v30) 34 v7) 35 v35) 36 v35) 37 v37) 38 v38) 39 v39) 33 v39) 40 v6) 41 v8) 42 v42) v8 h))
    (k_token_Split_3 L K N0 (upd (upd (upd (upd (upd (upd (upd (upd (upd (upd (upd (upd (upd (upd (upd (upd (upd (upd (upd (upd e 17 v17) 18 v8) 19 v19) 9 v19) 21 v19) 22 v22) 20 v22) 26 v7) 27 v7) 28 v28) 29 v29) 30 v30) 25 v30) 34 v7) 35 v35) 36 v35) 37 v37) 38 v38) 39 v39) 33 v39) v8 h))))))))))))))
def q_token_Split_0 (L : FuncId → List V → V → Prop) (K : V → Heap → Prop) : X → Env → Heap → Prop := (fun x => (seqX (fun e h => k_token_Split_0 L K (e 1) (e 4) (e 6) (e 7) h) (retX c_token_Split.results K)) (X.out 0 x))
def lc_token_Split_0 : C :=
  (.seq (.seq (.region [⟨(some 11), none, .mv (.t 8)⟩, ⟨(some 12), none, .load false 1 (.t 1)⟩, ⟨(some 13), none, .len 0 (.t 12)⟩, ⟨(some 14), none, .bin .lss (.t 11) (.t 13)⟩])
  (.cond (.t 14)
    .skip
    (.exit 0)))
  (.seq (.block 1 (.seq (.region [⟨(some 17), none, .load false 1 (.t 1)⟩, ⟨(some 18), none, .mv (.t 8)⟩, ⟨(some 19), none, .ixStr (.t 17) (.t 18)⟩, ⟨(some 9), none, .mv (.t 19)⟩])
  (.block 2 (.seq (.region [⟨(some 21), none, .mv (.t 9)⟩, ⟨(some 22), none, .bin .eql (.t 21) (.c (.int .u8 34))⟩, ⟨(some 20), none, .mv (.t 22)⟩])
  (.cond (.t 20)
    (.region [⟨(some 23), none, .mv (.t 7)⟩, ⟨(some 24), none, .un .not (.t 23)⟩, ⟨(some 7), none, .mv (.t 24)⟩])
    (.seq (.region [⟨(some 26), none, .mv (.t 7)⟩, ⟨(some 27), none, .mv (.t 26)⟩, ⟨(some 28), (some (27, true)), .mv (.t 9)⟩, ⟨(some 29), (some (27, true)), .bin .eql (.t 28) (.c (.int .u8 92))⟩, ⟨(some 30), none, .pick (.t 27) (.t 29) (.c (.bool false))⟩, ⟨(some 25), none, .mv (.t 30)⟩])
    (.cond (.t 25)
      (.region [⟨(some 31), none, .mv (.t 8)⟩, ⟨(some 32), none, .bin .add (.t 31) (.c (.int .i64 1))⟩, ⟨(some 8), none, .mv (.t 32)⟩])
      (.seq (.region [⟨(some 34), none, .mv (.t 7)⟩, ⟨(some 35), none, .un .not (.t 34)⟩, ⟨(some 36), none, .mv (.t 35)⟩, ⟨(some 37), (some (36, true)), .mv (.t 9)⟩, ⟨(some 38), (some (36, true)), .bin .eql (.t 37) (.c (.int .u8 44))⟩, ⟨(some 39), none, .pick (.t 36) (.t 38) (.c (.bool false))⟩, ⟨(some 33), none, .mv (.t 39)⟩])
      (.cond (.t 33)
        (.region [⟨(some 40), none, .mv (.t 6)⟩, ⟨(some 41), none, .mv (.t 8)⟩, ⟨(some 42), none, .callv (.t 40) [(.t 41)]⟩])
        .skip)))))))))
  (.region [⟨(some 15), none, .mv (.t 8)⟩, ⟨(some 16), none, .bin .add (.t 15) (.c (.int .i64 1))⟩, ⟨(some 8), none, .mv (.t 16)⟩])))
def b_token_Split_0 (L : FuncId → List V → V → Prop) (K : V → Heap → Prop) (N0 : Env → Heap → Prop) (e : Env) (h : Heap) : Prop :=
    (wi F L (.load false 1 (.c (e 1))) E0 h fun v12 h =>
    (wi F L (.len 0 (.c v12)) E0 h fun v13 h =>
    (wi F L (.bin .lss (.c (e 8)) (.c v13)) E0 h fun v14 h =>
    (wb v14
    (k_token_Split_2 L K N0 (upd (upd (upd (upd e 11 (e 8)) 12 v12) 13 v13) 14 v14) (e 1) (e 6) (e 7) (e 8) h)
    (k_token_Split_0 L K (e 1) (e 4) (e 6) (e 7) h)))))
theorem l_token_Split_0 {L : FuncId → List V → V → Prop} {K : V → Heap → Prop} (I : Nat → Env → Heap → Prop) (hr : ∀ n e h, I n e h → b_token_Split_0 L K (fun e' h' => ∃ m, m < n ∧ I m e' h') e h) {n : Nat} {e : Env} {h : Heap} (hi : I n e h) : Wl F L lc_token_Split_0 (q_token_Split_0 L K) e h :=
  wloopp (b := b_token_Split_0 L K) I (fun _ _ _ => by kernel_rfl) hr hi
def p_token_Split (L : FuncId → List V → V → Prop) (K : V → Heap → Prop) (a0 : V) (h : Heap) : Prop :=
    (wi F L (.box (.c a0)) E0 h fun v1 h =>
    (wi F L (.boxz [.nsl]) E0 h fun v4 h =>
    (wi F L (.boxz [(.int .i64 0)]) E0 h fun v5 h =>
    (wi F L (.store 1 (.c v5) (.c (.int .i64 0))) E0 h fun _ h =>
    (wi F L (.mkfn i_token_Split_1 [(.c v1), (.c v5), (.c v4)]) E0 h fun v10 h =>
    (Wl F L lc_token_Split_0 (q_token_Split_0 L K) (upd (upd (upd (upd (upd (upd (upd (upd (upd (enterE [a0]) 1 v1) 2 .nsl) 3 (.bool false)) 4 v4) 5 v5) 10 v10) 6 v10) 7 (.bool false)) 8 (.int .i64 0)) h))))))
theorem run_token_Split {L : FuncId → List V → V → Prop} {K : V → Heap → Prop} {a0 : V} {h : Heap} (hp : p_token_Split L K a0 h) : Cf F L i_token_Split [a0] h K :=
  wcallp F_token_Split (show 1 ≤ 54 by decide) (p := p_token_Split L K a0 h) (by kernel_rfl) hp
def k_token_Lower_0 (L : FuncId → List V → V → Prop) (K : V → Heap → Prop) (v3 : V) (h : Heap) : Prop :=
    (wi F L (.toStr (.c v3)) E0 h fun v28 h =>
    (∃ v, some v28 = some v ∧ K v h))
def k_token_Lower_2 (L : FuncId → List V → V → Prop) (K : V → Heap → Prop) (N0 : Env → Heap → Prop) (e : Env) (v10 : V) (h : Heap) : Prop :=
    (wi F L (.bin .add (.c v10) (.c (.int .i64 1))) E0 h fun v26 h =>
    (N0 (upd (upd e 26 v26) 10 v26) h))
def k_token_Lower_1 (L : FuncId → List V → V → Prop) (K : V → Heap → Prop) (N0 : Env → Heap → Prop) (e : Env) (v3 v8 v10 : V) (h : Heap) : Prop :=
    (wi F L (.ixaSl 1 (.c v8) (.c v10)) E0 h fun v13 h =>
    (wi F L (.load false 1 (.c v13)) E0 h fun v14 h =>
    (wi F L (.bin .geq (.c v14) (.c (.int .u8 65))) E0 h fun v16 h =>
    (wg v16 true (wi F L (.mv (.c v14)) E0 h) h fun v18 h =>
    (wg v16 true (wi F L (.bin .leq (.c v18) (.c (.int .u8 90))) E0 h) h fun v19 h =>
    (wi F L (.pick (.c v16) (.c v19) (.c (.bool false))) E0 h fun v20 h =>
    (wb v20
    (wi F L (.bin .or (.c v14) (.c (.int .u8 32))) E0 h fun v24 h =>
    (wi F L (.ixaSl 1 (.c v3) (.c v10)) E0 h fun v25 h =>
    (wi F L (.store 1 (.c v25) (.c v24)) E0 h fun _ h =>
    (k_token_Lower_2 L K N0 (upd (upd (upd (upd (upd (upd (upd (upd (upd (upd (upd (upd (upd (upd (upd (upd e 12 v10) 13 v13) 14 v14) 4 v10) 5 v14) 15 v14) 16 v16) 17 v16) 18 v18) 19 v19) 20 v20) 21 v3) 22 v10) 23 v14) 24 v24) 25 v25) v10 h))))
    (k_token_Lower_2 L K N0 (upd (upd (upd (upd (upd (upd (upd (upd (upd (upd (upd e 12 v10) 13 v13) 14 v14) 4 v10) 5 v14) 15 v14) 16 v16) 17 v16) 18 v18) 19 v19) 20 v20) v10 h))))))))
def q_token_Lower_0 (L : FuncId → List V → V → Prop) (K : V → Heap → Prop) : X → Env → Heap → Prop := (fun x => (seqX (fun e h => k_token_Lower_0 L K (e 3) h) (retX c_token_Lower.results K)) (X.out 0 x))
def lc_token_Lower_0 : C :=
  (.seq (.region [⟨(some 11), none, .bin .lss (.t 10) (.t 9)⟩])
  (.seq (.cond (.t 11)
    .skip
    (.exit 0))
  (.seq (.block 1 (.seq (.region [⟨(some 12), none, .mv (.t 10)⟩, ⟨(some 13), none, .ixaSl 1 (.t 8) (.t 10)⟩, ⟨(some 14), none, .load false 1 (.t 13)⟩, ⟨(some 4), none, .mv (.t 12)⟩, ⟨(some 5), none, .mv (.t 14)⟩])
  (.seq (.region [⟨(some 15), none, .mv (.t 5)⟩, ⟨(some 16), none, .bin .geq (.t 15) (.c (.int .u8 65))⟩, ⟨(some 17), none, .mv (.t 16)⟩, ⟨(some 18), (some (17, true)), .mv (.t 5)⟩, ⟨(some 19), (some (17, true)), .bin .leq (.t 18) (.c (.int .u8 90))⟩, ⟨(some 20), none, .pick (.t 17) (.t 19) (.c (.bool false))⟩])
  (.cond (.t 20)
    (.region [⟨(some 21), none, .mv (.t 3)⟩, ⟨(some 22), none, .mv (.t 4)⟩, ⟨(some 23), none, .mv (.t 5)⟩, ⟨(some 24), none, .bin .or (.t 23) (.c (.int .u8 32))⟩, ⟨(some 25), none, .ixaSl 1 (.t 21) (.t 22)⟩, ⟨none, none, .store 1 (.t 25) (.t 24)⟩])
    .skip))))
  (.region [⟨(some 26), none, .bin .add (.t 10) (.c (.int .i64 1))⟩, ⟨(some 10), none, .mv (.t 26)⟩]))))
def b_token_Lower_0 (L : FuncId → List V → V → Prop) (K : V → Heap → Prop) (N0 : Env → Heap → Prop) (e : Env) (h : Heap) : Prop :=
    (wi F L (.bin .lss (.c (e 10)) (.c (e 9))) E0 h fun v11 h =>
    (wb v11
    (k_token_Lower_1 L K N0 (upd e 11 v11) (e 3) (e 8) (e 10) h)
    (k_token_Lower_0 L K (e 3) h)))
theorem l_token_Lower_0 {L : FuncId → List V → V → Prop} {K : V → Heap → Prop} (I : Nat → Env → Heap → Prop) (hr : ∀ n e h, I n e h → b_token_Lower_0 L K (fun e' h' => ∃ m, m < n ∧ I m e' h') e h) {n : Nat} {e : Env} {h : Heap} (hi : I n e h) : Wl F L lc_token_Lower_0 (q_token_Lower_0 L K) e h :=
  wloopp (b := b_token_Lower_0 L K) I (fun _ _ _ => by kernel_rfl) hr hi
def p_token_Lower (L : FuncId → List V → V → Prop) (K : V → Heap → Prop) (a0 : V) (h : Heap) : Prop :=
    (wi F L (.toBytes (.c a0)) E0 h fun v7 h =>
    (wi F L (.len 1 (.c v7)) E0 h fun v9 h =>
    (Wl F L lc_token_Lower_0 (q_token_Lower_0 L K) (upd (upd (upd (upd (upd (upd (upd (enterE [a0]) 2 (.str [])) 6 a0) 7 v7) 3 v7) 8 v7) 9 v9) 10 (.int .i64 0)) h)))
theorem run_token_Lower {L : FuncId → List V → V → Prop} {K : V → Heap → Prop} {a0 : V} {h : Heap} (hp : p_token_Lower L K a0 h) : Cf F L i_token_Lower [a0] h K :=
  wcallp F_token_Lower (show 1 ≤ 29 by decide) (p := p_token_Lower L K a0 h) (by kernel_rfl) hp
def p_slices_Contains___string_string_ (L : FuncId → List V → V → Prop) (K : V → Heap → Prop) (a0 a1 : V) (h : Heap) : Prop :=
    (wi F L (.call i_slices_Index___string_string_ [(.c a0), (.c a1)]) E0 h fun v7 h =>
    (wi F L (.bin .geq (.c v7) (.c (.int .i64 0))) E0 h fun v8 h =>
    (∃ v, some v8 = some v ∧ K v h)))
theorem run_slices_Contains___string_string_ {L : FuncId → List V → V → Prop} {K : V → Heap → Prop} {a0 a1 : V} {h : Heap} (hp : p_slices_Contains___string_string_ L K a0 a1 h) : Cf F L i_slices_Contains___string_string_ [a0, a1] h K :=
  wcallp F_slices_Contains___string_string_ (show 2 ≤ 9 by decide) (p := p_slices_Contains___string_string_ L K a0 a1 h) (by kernel_rfl) hp
def p_slices_ContainsFunc___gatepost_api_Field_gatepost_api_Field_ (L : FuncId → List V → V → Prop) (K : V → Heap → Prop) (a0 a1 : V) (h : Heap) : Prop :=
    (wi F L (.call i_slices_IndexFunc___gatepost_api_Field_gatepost_api_Field_ [(.c a0), (.c a1)]) E0 h fun v7 h =>
    (wi F L (.bin .geq (.c v7) (.c (.int .i64 0))) E0 h fun v8 h =>
    (∃ v, some v8 = some v ∧ K v h)))
theorem run_slices_ContainsFunc___gatepost_api_Field_gatepost_api_Field_ {L : FuncId → List V → V → Prop} {K : V → Heap → Prop} {a0 a1 : V} {h : Heap} (hp : p_slices_ContainsFunc___gatepost_api_Field_gatepost_api_Field_ L K a0 a1 h) : Cf F L i_slices_ContainsFunc___gatepost_api_Field_gatepost_api_Field_ [a0, a1] h K :=
  wcallp F_slices_ContainsFunc___gatepost_api_Field_gatepost_api_Field_ (show 2 ≤ 9 by decide) (p := p_slices_ContainsFunc___gatepost_api_Field_gatepost_api_Field_ L K a0 a1 h) (by kernel_rfl) hp
def p_storing_has_1 (L : FuncId → List V → V → Prop) (K : V → Heap → Prop) (a0 a1 : V) (h : Heap) : Prop :=
    (wi F L (.box (.c a0)) E0 h fun v2 h =>
    (wi F L (.faddr 0 (.c v2)) E0 h fun v4 h =>
    (wi F L (.load false 1 (.c v4)) E0 h fun v5 h =>
    (wi F L (.load false 1 (.c a1)) E0 h fun v6 h =>
    (wi F L (.call i_token_Same [(.c v5), (.c v6)]) E0 h fun v7 h =>
    (∃ v, some v7 = some v ∧ K v h))))))
theorem run_storing_has_1 {L : FuncId → List V → V → Prop} {K : V → Heap → Prop} {a0 a1 : V} {h : Heap} (hp : p_storing_has_1 L K a0 a1 h) : Cf F L i_storing_has_1 [a0, a1] h K :=
  wcallp F_storing_has_1 (show 2 ≤ 8 by decide) (p := p_storing_has_1 L K a0 a1 h) (by kernel_rfl) hp
def p_token_Same (L : FuncId → List V → V → Prop) (K : V → Heap → Prop) (a0 a1 : V) (h : Heap) : Prop :=
    (wi F L (.len 0 (.c a0)) E0 h fun v6 h =>
    (wi F L (.len 0 (.c a1)) E0 h fun v8 h =>
    (wi F L (.bin .eql (.c v6) (.c v8)) E0 h fun v9 h =>
    (wg v9 true (wi F L (.mv (.c a0)) E0 h) h fun v11 h =>
    (wg v9 true (wi F L (.call i_token_Lower [(.c v11)]) E0 h) h fun v12 h =>
    (wg v9 true (wi F L (.mv (.c a1)) E0 h) h fun v13 h =>
    (wg v9 true (wi F L (.call i_token_Lower [(.c v13)]) E0 h) h fun v14 h =>
    (wg v9 true (wi F L (.bin .eql (.c v12) (.c v14)) E0 h) h fun v15 h =>
    (wi F L (.pick (.c v9) (.c v15) (.c (.bool false))) E0 h fun v16 h =>
    (∃ v, some v16 = some v ∧ K v h))))))))))
theorem run_token_Same {L : FuncId → List V → V → Prop} {K : V → Heap → Prop} {a0 a1 : V} {h : Heap} (hp : p_token_Same L K a0 a1 h) : Cf F L i_token_Same [a0, a1] h K :=
  wcallp F_token_Same (show 2 ≤ 17 by decide) (p := p_token_Same L K a0 a1 h) (by kernel_rfl) hp
def p_fresh_keeps (L : FuncId → List V → V → Prop) (K : V → Heap → Prop) (h : Heap) : Prop :=
    (wi F L (.boxz [(.int .i64 0), (.int .i64 0), (.int .i64 0), (.int .i64 0), (.int .i64 0), (.int .i64 0), (.int .i64 0), (.int .i64 0), (.int .i64 0), (.int .i64 0), (.int .i64 0), (.int .i64 0)]) E0 h fun v0 h =>
    (wi F L (.build [(.int .i64 0), (.int .i64 0), (.int .i64 0), (.int .i64 0), (.int .i64 0), (.int .i64 0), (.int .i64 0), (.int .i64 0), (.int .i64 0), (.int .i64 0), (.int .i64 0), (.int .i64 0)] [(0, 1, (.c (.int .i64 200))), (1, 1, (.c (.int .i64 203))), (2, 1, (.c (.int .i64 204))), (3, 1, (.c (.int .i64 206))), (4, 1, (.c (.int .i64 300))), (5, 1, (.c (.int .i64 301))), (6, 1, (.c (.int .i64 308))), (7, 1, (.c (.int .i64 404))), (8, 1, (.c (.int .i64 405))), (9, 1, (.c (.int .i64 410))), (10, 1, (.c (.int .i64 414))), (11, 1, (.c (.int .i64 501)))]) E0 h fun v1 h =>
    (wi F L (.store 12 (.c v0) (.c v1)) E0 h fun _ h =>
    (∃ v, resultsV h (enterE [v0]) [.cell 0 true 12] = some v ∧ K v h))))
theorem run_fresh_keeps {L : FuncId → List V → V → Prop} {K : V → Heap → Prop} {h : Heap} (hp : p_fresh_keeps L K  h) : Cf F L i_fresh_keeps [] h K :=
  wcallp F_fresh_keeps (show 0 ≤ 2 by decide) (p := p_fresh_keeps L K  h) (by kernel_rfl) hp
def p_control_rules (L : FuncId → List V → V → Prop) (K : V → Heap → Prop) (h : Heap) : Prop :=
    (wi F L (.mkmap) E0 h fun v4 h =>
    (wi F L (.boxz [.nmap]) E0 h fun v1 h =>
    (wi F L (.store 1 (.c v1) (.c v4)) E0 h fun _ h =>
    (wi F L (.mkfn i_control_rules_1 [(.c v1)]) E0 h fun v5 h =>
    (wi F L (.mkfn i_control_rules_2 [(.c v1)]) E0 h fun v6 h =>
    (wi F L (.callv (.c v5) [(.c (.str [110, 111, 45, 115, 116, 111, 114, 101])), (.c (.fn i_control_rules_3 []))]) E0 h fun v8 h =>
    (wi F L (.callv (.c v5) [(.c (.str [110, 111, 45, 99, 97, 99, 104, 101])), (.c (.fn i_control_rules_4 []))]) E0 h fun v10 h =>
    (wi F L (.callv (.c v5) [(.c (.str [112, 114, 105, 118, 97, 116, 101])), (.c (.fn i_control_rules_5 []))]) E0 h fun v12 h =>
    (wi F L (.callv (.c v5) [(.c (.str [112, 117, 98, 108, 105, 99])), (.c (.fn i_control_rules_6 []))]) E0 h fun v14 h =>
    (wi F L (.callv (.c v5) [(.c (.str [109, 117, 115, 116, 45, 114, 101, 118, 97, 108, 105, 100, 97, 116, 101])), (.c (.fn i_control_rules_7 []))]) E0 h fun v16 h =>
    (wi F L (.callv (.c v5) [(.c (.str [112, 114, 111, 120, 121, 45, 114, 101, 118, 97, 108, 105, 100, 97, 116, 101])), (.c (.fn i_control_rules_8 []))]) E0 h fun v18 h =>
    (wi F L (.callv (.c v5) [(.c (.str [111, 110, 108, 121, 45, 105, 102, 45, 99, 97, 99, 104, 101, 100])), (.c (.fn i_control_rules_9 []))]) E0 h fun v20 h =>
    (wi F L (.callv (.c v6) [(.c (.str [109, 97, 120, 45, 97, 103, 101])), (.c (.int .i64 0)), (.c (.int .i64 0)), (.c (.fn i_control_rules_10 []))]) E0 h fun v22 h =>
    (wi F L (.callv (.c v6) [(.c (.str [115, 45, 109, 97, 120, 97, 103, 101])), (.c (.int .i64 0)), (.c (.int .i64 0)), (.c (.fn i_control_rules_11 []))]) E0 h fun v24 h =>
    (wi F L (.callv (.c v6) [(.c (.str [115, 116, 97, 108, 101, 45, 119, 104, 105, 108, 101, 45, 114, 101, 118, 97, 108, 105, 100, 97, 116, 101])), (.c (.int .i64 (-1))), (.c (.int .i64 (-1))), (.c (.fn i_control_rules_12 []))]) E0 h fun v26 h =>
    (wi F L (.callv (.c v6) [(.c (.str [115, 116, 97, 108, 101, 45, 105, 102, 45, 101, 114, 114, 111, 114])), (.c (.int .i64 (-1))), (.c (.int .i64 (-1))), (.c (.fn i_control_rules_13 []))]) E0 h fun v28 h =>
    (wi F L (.callv (.c v6) [(.c (.str [109, 105, 110, 45, 102, 114, 101, 115, 104])), (.c (.int .i64 (-1))), (.c (.int .i64 (-1))), (.c (.fn i_control_rules_14 []))]) E0 h fun v30 h =>
    (wi F L (.callv (.c v6) [(.c (.str [109, 97, 120, 45, 115, 116, 97, 108, 101])), (.c (.int .i64 2147483648)), (.c (.int .i64 (-1))), (.c (.fn i_control_rules_15 []))]) E0 h fun v32 h =>
    (wi F L (.load false 1 (.c v1)) E0 h fun v33 h =>
    (∃ v, some v33 = some v ∧ K v h))))))))))))))))))))
theorem run_control_rules {L : FuncId → List V → V → Prop} {K : V → Heap → Prop} {h : Heap} (hp : p_control_rules L K  h) : Cf F L i_control_rules [] h K :=
  wcallp F_control_rules (show 0 ≤ 34 by decide) (p := p_control_rules L K  h) (by kernel_rfl) hp
def k_token_Pair_2 (L : FuncId → List V → V → Prop) (K : V → Heap → Prop) (v2 v3 : V) (h : Heap) : Prop :=
    (∃ v, resultsV h (enterE [v2, v3, (.bool true), (.bool true)]) [.tmp 0, .tmp 1, .tmp 2, .tmp 3] = some v ∧ K v h)
def k_token_Pair_1 (L : FuncId → List V → V → Prop) (K : V → Heap → Prop) (v2 v3 : V) (h : Heap) : Prop :=
    (wi F L (.call i_token_unquote [(.c v3)]) E0 h fun v26 h =>
    (wi F L (.ext 0 (.c v26)) E0 h fun v27 h =>
    (wi F L (.ext 1 (.c v26)) E0 h fun v28 h =>
    (wi F L (.un .not (.c v28)) E0 h fun v30 h =>
    (wb v30
    (∃ v, resultsV h (enterE [(.str []), (.str []), (.bool false), (.bool false)]) [.tmp 0, .tmp 1, .tmp 2, .tmp 3] = some v ∧ K v h)
    (k_token_Pair_2 L K v2 v27 h))))))
def k_token_Pair_0 (L : FuncId → List V → V → Prop) (K : V → Heap → Prop) (v2 v3 v4 : V) (h : Heap) : Prop :=
    (wi F L (.un .not (.c v4)) E0 h fun v16 h =>
    (wg v16 false (wi F L (.mv (.c v3)) E0 h) h fun v18 h =>
    (wg v16 false (wi F L (.call i_token_Is [(.c v18)]) E0 h) h fun v19 h =>
    (wi F L (.pick (.c v16) (.c (.bool true)) (.c v19)) E0 h fun v20 h =>
    (wb v20
    (∃ v, resultsV h (enterE [v2, v3, v4, (.bool true)]) [.tmp 0, .tmp 1, .tmp 2, .tmp 3] = some v ∧ K v h)
    (k_token_Pair_1 L K v2 v3 h))))))
def p_token_Pair (L : FuncId → List V → V → Prop) (K : V → Heap → Prop) (a0 : V) (h : Heap) : Prop :=
    (wi F L (.call i_strings_Cut [(.c a0), (.c (.str [61]))]) E0 h fun v8 h =>
    (wi F L (.ext 0 (.c v8)) E0 h fun v9 h =>
    (wi F L (.ext 1 (.c v8)) E0 h fun v10 h =>
    (wi F L (.ext 2 (.c v8)) E0 h fun v11 h =>
    (wi F L (.call i_token_Is [(.c v9)]) E0 h fun v13 h =>
    (wi F L (.un .not (.c v13)) E0 h fun v14 h =>
    (wb v14
    (∃ v, resultsV h (enterE [(.str []), (.str []), (.bool false), (.bool false)]) [.tmp 0, .tmp 1, .tmp 2, .tmp 3] = some v ∧ K v h)
    (k_token_Pair_0 L K v9 v10 v11 h))))))))
theorem run_token_Pair {L : FuncId → List V → V → Prop} {K : V → Heap → Prop} {a0 : V} {h : Heap} (hp : p_token_Pair L K a0 h) : Cf F L i_token_Pair [a0] h K :=
  wcallp F_token_Pair (show 1 ≤ 33 by decide) (p := p_token_Pair L K a0 h) (by kernel_rfl) hp
def k__gatepost_control_rule__value_1 (L : FuncId → List V → V → Prop) (K : V → Heap → Prop) (v3 : V) (h : Heap) : Prop :=
    (wi F L (.faddr 3 (.c v3)) E0 h fun v20 h =>
    (wi F L (.load false 1 (.c v20)) E0 h fun v21 h =>
    (∃ v, some v21 = some v ∧ K v h)))
def k__gatepost_control_rule__value_0 (L : FuncId → List V → V → Prop) (K : V → Heap → Prop) (v1 v3 : V) (h : Heap) : Prop :=
    (wi F L (.call i_token_Number [(.c v1), (.c (.int .i64 2147483648))]) E0 h fun v15 h =>
    (wi F L (.ext 0 (.c v15)) E0 h fun v16 h =>
    (wi F L (.ext 1 (.c v15)) E0 h fun v17 h =>
    (wb v17
    (∃ v, some v16 = some v ∧ K v h)
    (k__gatepost_control_rule__value_1 L K v3 h)))))
def p__gatepost_control_rule__value (L : FuncId → List V → V → Prop) (K : V → Heap → Prop) (a0 a1 a2 : V) (h : Heap) : Prop :=
    (wi F L (.box (.c a0)) E0 h fun v3 h =>
    (wi F L (.un .not (.c a2)) E0 h fun v10 h =>
    (wb v10
    (wi F L (.faddr 2 (.c v3)) E0 h fun v11 h =>
    (wi F L (.load false 1 (.c v11)) E0 h fun v12 h =>
    (∃ v, some v12 = some v ∧ K v h)))
    (k__gatepost_control_rule__value_0 L K a1 v3 h))))
theorem run__gatepost_control_rule__value {L : FuncId → List V → V → Prop} {K : V → Heap → Prop} {a0 a1 a2 : V} {h : Heap} (hp : p__gatepost_control_rule__value L K a0 a1 a2 h) : Cf F L i__gatepost_control_rule__value [a0, a1, a2] h K :=
  wcallp F__gatepost_control_rule__value (show 3 ≤ 22 by decide) (p := p__gatepost_control_rule__value L K a0 a1 a2 h) (by kernel_rfl) hp
def k_token_Split_1_0 (L : FuncId → List V → V → Prop) (K : V → Heap → Prop) (v0 v2 : V) (h : Heap) : Prop :=
    (wi F L (.bin .add (.c v0) (.c (.int .i64 1))) E0 h fun v18 h =>
    (wi F L (.store 1 (.c v2) (.c v18)) E0 h fun _ h =>
    (∃ v, resultsV h (enterE []) [] = some v ∧ K v h)))
def p_token_Split_1 (L : FuncId → List V → V → Prop) (K : V → Heap → Prop) (a0 a1 a2 a3 : V) (h : Heap) : Prop :=
    (wi F L (.load false 1 (.c a1)) E0 h fun v6 h =>
    (wi F L (.load false 1 (.c a2)) E0 h fun v7 h =>
    (wi F L (.slstr (.c v6) (some (.c v7)) (some (.c a0))) E0 h fun v9 h =>
    (wi F L (.call i_token_Trim [(.c v9)]) E0 h fun v10 h =>
    (wi F L (.bin .neq (.c v10) (.c (.str []))) E0 h fun v12 h =>
    (wb v12
    (wi F L (.load false 1 (.c a3)) E0 h fun v13 h =>
    (wi F L (.bsl 1 [(.c v10)]) E0 h fun v15 h =>
    (wi F L (.app 1 16 false (.c v13) (.c v15)) E0 h fun v16 h =>
    (wi F L (.store 1 (.c a3) (.c v16)) E0 h fun _ h =>
    (k_token_Split_1_0 L K a0 a2 h)))))
    (k_token_Split_1_0 L K a0 a2 h)))))))
theorem run_token_Split_1 {L : FuncId → List V → V → Prop} {K : V → Heap → Prop} {a0 a1 a2 a3 : V} {h : Heap} (hp : p_token_Split_1 L K a0 a1 a2 a3 h) : Cf F L i_token_Split_1 [a0, a1, a2, a3] h K :=
  wcallp F_token_Split_1 (show 4 ≤ 19 by decide) (p := p_token_Split_1 L K a0 a1 a2 a3 h) (by kernel_rfl) hp
def p_token_Trim (L : FuncId → List V → V → Prop) (K : V → Heap → Prop) (a0 : V) (h : Heap) : Prop :=
    (wi F L (.call i_strings_Trim [(.c a0), (.c (.str [32, 9]))]) E0 h fun v4 h =>
    (∃ v, some v4 = some v ∧ K v h))
theorem run_token_Trim {L : FuncId → List V → V → Prop} {K : V → Heap → Prop} {a0 : V} {h : Heap} (hp : p_token_Trim L K a0 h) : Cf F L i_token_Trim [a0] h K :=
  wcallp F_token_Trim (show 1 ≤ 5 by decide) (p := p_token_Trim L K a0 h) (by kernel_rfl) hp
def k_slices_Index___string_string__0 (L : FuncId → List V → V → Prop) (K : V → Heap → Prop) (h : Heap) : Prop :=
    (∃ v, some (.int .i64 (-1)) = some v ∧ K v h)
def k_slices_Index___string_string__2 (L : FuncId → List V → V → Prop) (K : V → Heap → Prop) (N0 : Env → Heap → Prop) (e : Env) (v8 : V) (h : Heap) : Prop :=
    (wi F L (.bin .add (.c v8) (.c (.int .i64 1))) E0 h fun v18 h =>
    (N0 (upd (upd e 18 v18) 8 v18) h))
def k_slices_Index___string_string__1 (L : FuncId → List V → V → Prop) (K : V → Heap → Prop) (N0 : Env → Heap → Prop) (e : Env) (v0 v1 v8 : V) (h : Heap) : Prop :=
    (wi F L (.ixaSl 1 (.c v0) (.c v8)) E0 h fun v14 h =>
    (wi F L (.load false 1 (.c v14)) E0 h fun v15 h =>
    (wi F L (.bin .eql (.c v1) (.c v15)) E0 h fun v16 h =>
    (wb v16
    (∃ v, some v8 = some v ∧ K v h)
    (k_slices_Index___string_string__2 L K N0 (upd (upd (upd (upd (upd (upd (upd (upd e 10 v8) 5 v8) 11 v1) 12 v0) 13 v8) 14 v14) 15 v15) 16 v16) v8 h)))))
def q_slices_Index___string_string__0 (L : FuncId → List V → V → Prop) (K : V → Heap → Prop) : X → Env → Heap → Prop := (fun x => (seqX (fun e h => k_slices_Index___string_string__0 L K  h) (retX c_slices_Index___string_string_.results K)) (X.out 0 x))
def lc_slices_Index___string_string__0 : C :=
  (.seq (.region [⟨(some 9), none, .bin .lss (.t 8) (.t 7)⟩])
  (.seq (.cond (.t 9)
    .skip
    (.exit 0))
  (.seq (.block 1 (.seq (.region [⟨(some 10), none, .mv (.t 8)⟩, ⟨(some 5), none, .mv (.t 10)⟩])
  (.seq (.region [⟨(some 11), none, .mv (.t 1)⟩, ⟨(some 12), none, .mv (.t 0)⟩, ⟨(some 13), none, .mv (.t 5)⟩, ⟨(some 14), none, .ixaSl 1 (.t 12) (.t 13)⟩, ⟨(some 15), none, .load false 1 (.t 14)⟩, ⟨(some 16), none, .bin .eql (.t 11) (.t 15)⟩])
  (.cond (.t 16)
    (.seq (.region [⟨(some 17), none, .mv (.t 5)⟩, ⟨(some 4), none, .mv (.t 17)⟩])
    .ret)
    .skip))))
  (.region [⟨(some 18), none, .bin .add (.t 8) (.c (.int .i64 1))⟩, ⟨(some 8), none, .mv (.t 18)⟩]))))
def b_slices_Index___string_string__0 (L : FuncId → List V → V → Prop) (K : V → Heap → Prop) (N0 : Env → Heap → Prop) (e : Env) (h : Heap) : Prop :=
    (wi F L (.bin .lss (.c (e 8)) (.c (e 7))) E0 h fun v9 h =>
    (wb v9
    (k_slices_Index___string_string__1 L K N0 (upd e 9 v9) (e 0) (e 1) (e 8) h)
    (k_slices_Index___string_string__0 L K  h)))
theorem l_slices_Index___string_string__0 {L : FuncId → List V → V → Prop} {K : V → Heap → Prop} (I : Nat → Env → Heap → Prop) (hr : ∀ n e h, I n e h → b_slices_Index___string_string__0 L K (fun e' h' => ∃ m, m < n ∧ I m e' h') e h) {n : Nat} {e : Env} {h : Heap} (hi : I n e h) : Wl F L lc_slices_Index___string_string__0 (q_slices_Index___string_string__0 L K) e h :=
  wloopp (b := b_slices_Index___string_string__0 L K) I (fun _ _ _ => by kernel_rfl) hr hi
def p_slices_Index___string_string_ (L : FuncId → List V → V → Prop) (K : V → Heap → Prop) (a0 a1 : V) (h : Heap) : Prop :=
    (wi F L (.len 1 (.c a0)) E0 h fun v7 h =>
    (Wl F L lc_slices_Index___string_string__0 (q_slices_Index___string_string__0 L K) (upd (upd (upd (upd (enterE [a0, a1]) 4 (.int .i64 0)) 6 a0) 7 v7) 8 (.int .i64 0)) h))
theorem run_slices_Index___string_string_ {L : FuncId → List V → V → Prop} {K : V → Heap → Prop} {a0 a1 : V} {h : Heap} (hp : p_slices_Index___string_string_ L K a0 a1 h) : Cf F L i_slices_Index___string_string_ [a0, a1] h K :=
  wcallp F_slices_Index___string_string_ (show 2 ≤ 19 by decide) (p := p_slices_Index___string_string_ L K a0 a1 h) (by kernel_rfl) hp
def k_slices_IndexFunc___gatepost_api_Field_gatepost_api_Field__0 (L : FuncId → List V → V → Prop) (K : V → Heap → Prop) (h : Heap) : Prop :=
    (∃ v, some (.int .i64 (-1)) = some v ∧ K v h)
def k_slices_IndexFunc___gatepost_api_Field_gatepost_api_Field__2 (L : FuncId → List V → V → Prop) (K : V → Heap → Prop) (N0 : Env → Heap → Prop) (e : Env) (v8 : V) (h : Heap) : Prop :=
    (wi F L (.bin .add (.c v8) (.c (.int .i64 1))) E0 h fun v18 h =>
    (N0 (upd (upd e 18 v18) 8 v18) h))
def k_slices_IndexFunc___gatepost_api_Field_gatepost_api_Field__1 (L : FuncId → List V → V → Prop) (K : V → Heap → Prop) (N0 : Env → Heap → Prop) (e : Env) (v0 v1 v8 : V) (h : Heap) : Prop :=
    (wi F L (.ixaSl 2 (.c v0) (.c v8)) E0 h fun v14 h =>
    (wi F L (.load true 2 (.c v14)) E0 h fun v15 h =>
    (wi F L (.callv (.c v1) [(.c v15)]) E0 h fun v16 h =>
    (wb v16
    (∃ v, some v8 = some v ∧ K v h)
    (k_slices_IndexFunc___gatepost_api_Field_gatepost_api_Field__2 L K N0 (upd (upd (upd (upd (upd (upd (upd (upd e 10 v8) 5 v8) 11 v1) 12 v0) 13 v8) 14 v14) 15 v15) 16 v16) v8 h)))))
def q_slices_IndexFunc___gatepost_api_Field_gatepost_api_Field__0 (L : FuncId → List V → V → Prop) (K : V → Heap → Prop) : X → Env → Heap → Prop := (fun x => (seqX (fun e h => k_slices_IndexFunc___gatepost_api_Field_gatepost_api_Field__0 L K  h) (retX c_slices_IndexFunc___gatepost_api_Field_gatepost_api_Field_.results K)) (X.out 0 x))
def lc_slices_IndexFunc___gatepost_api_Field_gatepost_api_Field__0 : C :=
  (.seq (.region [⟨(some 9), none, .bin .lss (.t 8) (.t 7)⟩])
  (.seq (.cond (.t 9)
    .skip
    (.exit 0))
  (.seq (.block 1 (.seq (.region [⟨(some 10), none, .mv (.t 8)⟩, ⟨(some 5), none, .mv (.t 10)⟩])
  (.seq (.region [⟨(some 11), none, .mv (.t 1)⟩, ⟨(some 12), none, .mv (.t 0)⟩, ⟨(some 13), none, .mv (.t 5)⟩, ⟨(some 14), none, .ixaSl 2 (.t 12) (.t 13)⟩, ⟨(some 15), none, .load true 2 (.t 14)⟩, ⟨(some 16), none, .callv (.t 11) [(.t 15)]⟩])
  (.cond (.t 16)
    (.seq (.region [⟨(some 17), none, .mv (.t 5)⟩, ⟨(some 4), none, .mv (.t 17)⟩])
    .ret)
    .skip))))
  (.region [⟨(some 18), none, .bin .add (.t 8) (.c (.int .i64 1))⟩, ⟨(some 8), none, .mv (.t 18)⟩]))))
def b_slices_IndexFunc___gatepost_api_Field_gatepost_api_Field__0 (L : FuncId → List V → V → Prop) (K : V → Heap → Prop) (N0 : Env → Heap → Prop) (e : Env) (h : Heap) : Prop :=
    (wi F L (.bin .lss (.c (e 8)) (.c (e 7))) E0 h fun v9 h =>
    (wb v9
    (k_slices_IndexFunc___gatepost_api_Field_gatepost_api_Field__1 L K N0 (upd e 9 v9) (e 0) (e 1) (e 8) h)
    (k_slices_IndexFunc___gatepost_api_Field_gatepost_api_Field__0 L K  h)))
theorem l_slices_IndexFunc___gatepost_api_Field_gatepost_api_Field__0 {L : FuncId → List V → V → Prop} {K : V → Heap → Prop} (I : Nat → Env → Heap → Prop) (hr : ∀ n e h, I n e h → b_slices_IndexFunc___gatepost_api_Field_gatepost_api_Field__0 L K (fun e' h' => ∃ m, m < n ∧ I m e' h') e h) {n : Nat} {e : Env} {h : Heap} (hi : I n e h) : Wl F L lc_slices_IndexFunc___gatepost_api_Field_gatepost_api_Field__0 (q_slices_IndexFunc___gatepost_api_Field_gatepost_api_Field__0 L K) e h :=
  wloopp (b := b_slices_IndexFunc___gatepost_api_Field_gatepost_api_Field__0 L K) I (fun _ _ _ => by kernel_rfl) hr hi
def p_slices_IndexFunc___gatepost_api_Field_gatepost_api_Field_ (L : FuncId → List V → V → Prop) (K : V → Heap → Prop) (a0 a1 : V) (h : Heap) : Prop :=
    (wi F L (.len 1 (.c a0)) E0 h fun v7 h =>
    (Wl F L lc_slices_IndexFunc___gatepost_api_Field_gatepost_api_Field__0 (q_slices_IndexFunc___gatepost_api_Field_gatepost_api_Field__0 L K) (upd (upd (upd (upd (enterE [a0, a1]) 4 (.int .i64 0)) 6 a0) 7 v7) 8 (.int .i64 0)) h))
theorem run_slices_IndexFunc___gatepost_api_Field_gatepost_api_Field_ {L : FuncId → List V → V → Prop} {K : V → Heap → Prop} {a0 a1 : V} {h : Heap} (hp : p_slices_IndexFunc___gatepost_api_Field_gatepost_api_Field_ L K a0 a1 h) : Cf F L i_slices_IndexFunc___gatepost_api_Field_gatepost_api_Field_ [a0, a1] h K :=
  wcallp F_slices_IndexFunc___gatepost_api_Field_gatepost_api_Field_ (show 2 ≤ 19 by decide) (p := p_slices_IndexFunc___gatepost_api_Field_gatepost_api_Field_ L K a0 a1 h) (by kernel_rfl) hp
def p_control_rules_1 (L : FuncId → List V → V → Prop) (K : V → Heap → Prop) (a0 a1 a2 : V) (h : Heap) : Prop :=
    (wi F L (.load false 1 (.c a2)) E0 h fun v5 h =>
    (wi F L (.build [.nfn, .nfn, (.int .i64 0), (.int .i64 0)] [(0, 1, (.c a1))]) E0 h fun v8 h =>
    (wi F L (.mapset .s (.c v5) (.c a0) (.c v8)) E0 h fun _ h =>
    (∃ v, resultsV h (enterE []) [] = some v ∧ K v h))))
theorem run_control_rules_1 {L : FuncId → List V → V → Prop} {K : V → Heap → Prop} {a0 a1 a2 : V} {h : Heap} (hp : p_control_rules_1 L K a0 a1 a2 h) : Cf F L i_control_rules_1 [a0, a1, a2] h K :=
  wcallp F_control_rules_1 (show 3 ≤ 9 by decide) (p := p_control_rules_1 L K a0 a1 a2 h) (by kernel_rfl) hp
def p_control_rules_2 (L : FuncId → List V → V → Prop) (K : V → Heap → Prop) (a0 a1 a2 a3 a4 : V) (h : Heap) : Prop :=
    (wi F L (.load false 1 (.c a4)) E0 h fun v9 h =>
    (wi F L (.build [.nfn, .nfn, (.int .i64 0), (.int .i64 0)] [(1, 1, (.c a3)), (2, 1, (.c a1)), (3, 1, (.c a2))]) E0 h fun v14 h =>
    (wi F L (.mapset .s (.c v9) (.c a0) (.c v14)) E0 h fun _ h =>
    (∃ v, resultsV h (enterE []) [] = some v ∧ K v h))))
theorem run_control_rules_2 {L : FuncId → List V → V → Prop} {K : V → Heap → Prop} {a0 a1 a2 a3 a4 : V} {h : Heap} (hp : p_control_rules_2 L K a0 a1 a2 a3 a4 h) : Cf F L i_control_rules_2 [a0, a1, a2, a3, a4] h K :=
  wcallp F_control_rules_2 (show 5 ≤ 15 by decide) (p := p_control_rules_2 L K a0 a1 a2 a3 a4 h) (by kernel_rfl) hp
def p_control_rules_3 (L : FuncId → List V → V → Prop) (K : V → Heap → Prop) (a0 : V) (h : Heap) : Prop :=
    (wi F L (.nilck (.c a0)) E0 h fun v3 h =>
    (wi F L (.faddr 0 (.c v3)) E0 h fun v4 h =>
    (wi F L (.store 1 (.c v4) (.c (.bool true))) E0 h fun _ h =>
    (∃ v, resultsV h (enterE []) [] = some v ∧ K v h))))
theorem run_control_rules_3 {L : FuncId → List V → V → Prop} {K : V → Heap → Prop} {a0 : V} {h : Heap} (hp : p_control_rules_3 L K a0 h) : Cf F L i_control_rules_3 [a0] h K :=
  wcallp F_control_rules_3 (show 1 ≤ 5 by decide) (p := p_control_rules_3 L K a0 h) (by kernel_rfl) hp
def p_control_rules_4 (L : FuncId → List V → V → Prop) (K : V → Heap → Prop) (a0 : V) (h : Heap) : Prop :=
    (wi F L (.nilck (.c a0)) E0 h fun v3 h =>
    (wi F L (.faddr 1 (.c v3)) E0 h fun v4 h =>
    (wi F L (.store 1 (.c v4) (.c (.bool true))) E0 h fun _ h =>
    (∃ v, resultsV h (enterE []) [] = some v ∧ K v h))))
theorem run_control_rules_4 {L : FuncId → List V → V → Prop} {K : V → Heap → Prop} {a0 : V} {h : Heap} (hp : p_control_rules_4 L K a0 h) : Cf F L i_control_rules_4 [a0] h K :=
  wcallp F_control_rules_4 (show 1 ≤ 5 by decide) (p := p_control_rules_4 L K a0 h) (by kernel_rfl) hp
def p_control_rules_5 (L : FuncId → List V → V → Prop) (K : V → Heap → Prop) (a0 : V) (h : Heap) : Prop :=
    (wi F L (.nilck (.c a0)) E0 h fun v3 h =>
    (wi F L (.faddr 2 (.c v3)) E0 h fun v4 h =>
    (wi F L (.store 1 (.c v4) (.c (.bool true))) E0 h fun _ h =>
    (∃ v, resultsV h (enterE []) [] = some v ∧ K v h))))
theorem run_control_rules_5 {L : FuncId → List V → V → Prop} {K : V → Heap → Prop} {a0 : V} {h : Heap} (hp : p_control_rules_5 L K a0 h) : Cf F L i_control_rules_5 [a0] h K :=
  wcallp F_control_rules_5 (show 1 ≤ 5 by decide) (p := p_control_rules_5 L K a0 h) (by kernel_rfl) hp
def p_control_rules_6 (L : FuncId → List V → V → Prop) (K : V → Heap → Prop) (a0 : V) (h : Heap) : Prop :=
    (wi F L (.nilck (.c a0)) E0 h fun v3 h =>
    (wi F L (.faddr 3 (.c v3)) E0 h fun v4 h =>
    (wi F L (.store 1 (.c v4) (.c (.bool true))) E0 h fun _ h =>
    (∃ v, resultsV h (enterE []) [] = some v ∧ K v h))))
theorem run_control_rules_6 {L : FuncId → List V → V → Prop} {K : V → Heap → Prop} {a0 : V} {h : Heap} (hp : p_control_rules_6 L K a0 h) : Cf F L i_control_rules_6 [a0] h K :=
  wcallp F_control_rules_6 (show 1 ≤ 5 by decide) (p := p_control_rules_6 L K a0 h) (by kernel_rfl) hp
def p_control_rules_7 (L : FuncId → List V → V → Prop) (K : V → Heap → Prop) (a0 : V) (h : Heap) : Prop :=
    (wi F L (.nilck (.c a0)) E0 h fun v3 h =>
    (wi F L (.faddr 4 (.c v3)) E0 h fun v4 h =>
    (wi F L (.store 1 (.c v4) (.c (.bool true))) E0 h fun _ h =>
    (∃ v, resultsV h (enterE []) [] = some v ∧ K v h))))
theorem run_control_rules_7 {L : FuncId → List V → V → Prop} {K : V → Heap → Prop} {a0 : V} {h : Heap} (hp : p_control_rules_7 L K a0 h) : Cf F L i_control_rules_7 [a0] h K :=
  wcallp F_control_rules_7 (show 1 ≤ 5 by decide) (p := p_control_rules_7 L K a0 h) (by kernel_rfl) hp
def p_control_rules_8 (L : FuncId → List V → V → Prop) (K : V → Heap → Prop) (a0 : V) (h : Heap) : Prop :=
    (wi F L (.nilck (.c a0)) E0 h fun v3 h =>
    (wi F L (.faddr 5 (.c v3)) E0 h fun v4 h =>
    (wi F L (.store 1 (.c v4) (.c (.bool true))) E0 h fun _ h =>
    (∃ v, resultsV h (enterE []) [] = some v ∧ K v h))))
theorem run_control_rules_8 {L : FuncId → List V → V → Prop} {K : V → Heap → Prop} {a0 : V} {h : Heap} (hp : p_control_rules_8 L K a0 h) : Cf F L i_control_rules_8 [a0] h K :=
  wcallp F_control_rules_8 (show 1 ≤ 5 by decide) (p := p_control_rules_8 L K a0 h) (by kernel_rfl) hp
def p_control_rules_9 (L : FuncId → List V → V → Prop) (K : V → Heap → Prop) (a0 : V) (h : Heap) : Prop :=
    (wi F L (.nilck (.c a0)) E0 h fun v3 h =>
    (wi F L (.faddr 6 (.c v3)) E0 h fun v4 h =>
    (wi F L (.store 1 (.c v4) (.c (.bool true))) E0 h fun _ h =>
    (∃ v, resultsV h (enterE []) [] = some v ∧ K v h))))
theorem run_control_rules_9 {L : FuncId → List V → V → Prop} {K : V → Heap → Prop} {a0 : V} {h : Heap} (hp : p_control_rules_9 L K a0 h) : Cf F L i_control_rules_9 [a0] h K :=
  wcallp F_control_rules_9 (show 1 ≤ 5 by decide) (p := p_control_rules_9 L K a0 h) (by kernel_rfl) hp
def p_control_rules_10 (L : FuncId → List V → V → Prop) (K : V → Heap → Prop) (a0 : V) (h : Heap) : Prop :=
    (wi F L (.nilck (.c a0)) E0 h fun v4 h =>
    (wi F L (.faddr 7 (.c v4)) E0 h fun v5 h =>
    (∃ v, some v5 = some v ∧ K v h)))
theorem run_control_rules_10 {L : FuncId → List V → V → Prop} {K : V → Heap → Prop} {a0 : V} {h : Heap} (hp : p_control_rules_10 L K a0 h) : Cf F L i_control_rules_10 [a0] h K :=
  wcallp F_control_rules_10 (show 1 ≤ 6 by decide) (p := p_control_rules_10 L K a0 h) (by kernel_rfl) hp
def p_control_rules_11 (L : FuncId → List V → V → Prop) (K : V → Heap → Prop) (a0 : V) (h : Heap) : Prop :=
    (wi F L (.nilck (.c a0)) E0 h fun v4 h =>
    (wi F L (.faddr 8 (.c v4)) E0 h fun v5 h =>
    (∃ v, some v5 = some v ∧ K v h)))
theorem run_control_rules_11 {L : FuncId → List V → V → Prop} {K : V → Heap → Prop} {a0 : V} {h : Heap} (hp : p_control_rules_11 L K a0 h) : Cf F L i_control_rules_11 [a0] h K :=
  wcallp F_control_rules_11 (show 1 ≤ 6 by decide) (p := p_control_rules_11 L K a0 h) (by kernel_rfl) hp
def p_control_rules_12 (L : FuncId → List V → V → Prop) (K : V → Heap → Prop) (a0 : V) (h : Heap) : Prop :=
    (wi F L (.nilck (.c a0)) E0 h fun v4 h =>
    (wi F L (.faddr 9 (.c v4)) E0 h fun v5 h =>
    (∃ v, some v5 = some v ∧ K v h)))
theorem run_control_rules_12 {L : FuncId → List V → V → Prop} {K : V → Heap → Prop} {a0 : V} {h : Heap} (hp : p_control_rules_12 L K a0 h) : Cf F L i_control_rules_12 [a0] h K :=
  wcallp F_control_rules_12 (show 1 ≤ 6 by decide) (p := p_control_rules_12 L K a0 h) (by kernel_rfl) hp
def p_control_rules_13 (L : FuncId → List V → V → Prop) (K : V → Heap → Prop) (a0 : V) (h : Heap) : Prop :=
    (wi F L (.nilck (.c a0)) E0 h fun v4 h =>
    (wi F L (.faddr 10 (.c v4)) E0 h fun v5 h =>
    (∃ v, some v5 = some v ∧ K v h)))
theorem run_control_rules_13 {L : FuncId → List V → V → Prop} {K : V → Heap → Prop} {a0 : V} {h : Heap} (hp : p_control_rules_13 L K a0 h) : Cf F L i_control_rules_13 [a0] h K :=
  wcallp F_control_rules_13 (show 1 ≤ 6 by decide) (p := p_control_rules_13 L K a0 h) (by kernel_rfl) hp
def p_control_rules_14 (L : FuncId → List V → V → Prop) (K : V → Heap → Prop) (a0 : V) (h : Heap) : Prop :=
    (wi F L (.nilck (.c a0)) E0 h fun v4 h =>
    (wi F L (.faddr 11 (.c v4)) E0 h fun v5 h =>
    (∃ v, some v5 = some v ∧ K v h)))
theorem run_control_rules_14 {L : FuncId → List V → V → Prop} {K : V → Heap → Prop} {a0 : V} {h : Heap} (hp : p_control_rules_14 L K a0 h) : Cf F L i_control_rules_14 [a0] h K :=
  wcallp F_control_rules_14 (show 1 ≤ 6 by decide) (p := p_control_rules_14 L K a0 h) (by kernel_rfl) hp
def p_control_rules_15 (L : FuncId → List V → V → Prop) (K : V → Heap → Prop) (a0 : V) (h : Heap) : Prop :=
    (wi F L (.nilck (.c a0)) E0 h fun v4 h =>
    (wi F L (.faddr 12 (.c v4)) E0 h fun v5 h =>
    (∃ v, some v5 = some v ∧ K v h)))
theorem run_control_rules_15 {L : FuncId → List V → V → Prop} {K : V → Heap → Prop} {a0 : V} {h : Heap} (hp : p_control_rules_15 L K a0 h) : Cf F L i_control_rules_15 [a0] h K :=
  wcallp F_control_rules_15 (show 1 ≤ 6 by decide) (p := p_control_rules_15 L K a0 h) (by kernel_rfl) hp
def p_strings_Cut (L : FuncId → List V → V → Prop) (K : V → Heap → Prop) (a0 a1 : V) (h : Heap) : Prop :=
    (wi F L (.call i_internal_stringslite_Cut [(.c a0), (.c a1)]) E0 h fun v9 h =>
    (wi F L (.ext 0 (.c v9)) E0 h fun v10 h =>
    (wi F L (.ext 1 (.c v9)) E0 h fun v11 h =>
    (wi F L (.ext 2 (.c v9)) E0 h fun v12 h =>
    (∃ v, resultsV h (enterE [v10, v11, v12]) [.tmp 0, .tmp 1, .tmp 2] = some v ∧ K v h)))))
theorem run_strings_Cut {L : FuncId → List V → V → Prop} {K : V → Heap → Prop} {a0 a1 : V} {h : Heap} (hp : p_strings_Cut L K a0 a1 h) : Cf F L i_strings_Cut [a0, a1] h K :=
  wcallp F_strings_Cut (show 2 ≤ 13 by decide) (p := p_strings_Cut L K a0 a1 h) (by kernel_rfl) hp
def p_token_Is (L : FuncId → List V → V → Prop) (K : V → Heap → Prop) (a0 : V) (h : Heap) : Prop :=
    (wi F L (.bin .neq (.c a0) (.c (.str []))) E0 h fun v4 h =>
    (wg v4 true (wi F L (.mv (.c a0)) E0 h) h fun v6 h =>
    (wg v4 true (wi F L (.call i_token_all [(.c v6), (.c (.fn i_token_inToken []))]) E0 h) h fun v7 h =>
    (wi F L (.pick (.c v4) (.c v7) (.c (.bool false))) E0 h fun v8 h =>
    (∃ v, some v8 = some v ∧ K v h)))))
theorem run_token_Is {L : FuncId → List V → V → Prop} {K : V → Heap → Prop} {a0 : V} {h : Heap} (hp : p_token_Is L K a0 h) : Cf F L i_token_Is [a0] h K :=
  wcallp F_token_Is (show 1 ≤ 9 by decide) (p := p_token_Is L K a0 h) (by kernel_rfl) hp
def k_token_Number_1 (L : FuncId → List V → V → Prop) (K : V → Heap → Prop) (v6 : V) (h : Heap) : Prop :=
    (∃ v, resultsV h (enterE [v6, (.bool true)]) [.tmp 0, .tmp 1] = some v ∧ K v h)
def k_token_Number_3 (L : FuncId → List V → V → Prop) (K : V → Heap → Prop) (N0 : Env → Heap → Prop) (e : Env) (v22 : V) (h : Heap) : Prop :=
    (wi F L (.bin .add (.c v22) (.c (.int .i64 1))) E0 h fun v46 h =>
    (N0 (upd (upd e 46 v46) 22 v46) h))
def k_token_Number_4 (L : FuncId → List V → V → Prop) (K : V → Heap → Prop) (N0 : Env → Heap → Prop) (e : Env) (v6 v8 v22 : V) (h : Heap) : Prop :=
    (wi F L (.bin .mul (.c (.int .i64 10)) (.c v6)) E0 h fun v43 h =>
    (wi F L (.bin .add (.c v43) (.c v8)) E0 h fun v45 h =>
    (k_token_Number_3 L K N0 (upd (upd (upd (upd (upd e 42 v6) 43 v43) 44 v8) 45 v45) 6 v45) v22 h)))
def k_token_Number_2 (L : FuncId → List V → V → Prop) (K : V → Heap → Prop) (N0 : Env → Heap → Prop) (e : Env) (v0 v1 v6 v22 : V) (h : Heap) : Prop :=
    (wi F L (.ixStr (.c v0) (.c v22)) E0 h fun v27 h =>
    (wi F L (.bin .sub (.c v27) (.c (.int .u8 48))) E0 h fun v28 h =>
    (wi F L (.toInt .i64 (.c v28)) E0 h fun v29 h =>
    (wi F L (.bin .gtr (.c v29) (.c v1)) E0 h fun v32 h =>
    (wg v32 false (wi F L (.mv (.c v6)) E0 h) h fun v34 h =>
    (wg v32 false (wi F L (.mv (.c v1)) E0 h) h fun v35 h =>
    (wg v32 false (wi F L (.mv (.c v29)) E0 h) h fun v36 h =>
    (wg v32 false (wi F L (.bin .sub (.c v35) (.c v36)) E0 h) h fun v37 h =>
    (wg v32 false (wi F L (.bin .quo (.c v37) (.c (.int .i64 10))) E0 h) h fun v38 h =>
    (wg v32 false (wi F L (.bin .gtr (.c v34) (.c v38)) E0 h) h fun v39 h =>
    (wi F L (.pick (.c v32) (.c (.bool true)) (.c v39)) E0 h fun v40 h =>
    (wb v40
    (∃ v, resultsV h (enterE [v1, (.bool true)]) [.tmp 0, .tmp 1] = some v ∧ K v h)
    (k_token_Number_4 L K N0 (upd (upd (upd (upd (upd (upd (upd (upd (upd (upd (upd (upd (upd (upd (upd (upd (upd (upd (upd e 24 v22) 7 v22) 25 v0) 26 v22) 27 v27) 28 v28) 29 v29) 8 v29) 30 v29) 31 v1) 32 v32) 33 v32) 34 v34) 35 v35) 36 v36) 37 v37) 38 v38) 39 v39) 40 v40) v6 v29 v22 h)))))))))))))
def q_token_Number_0 (L : FuncId → List V → V → Prop) (K : V → Heap → Prop) : X → Env → Heap → Prop := (fun x => (seqX (fun e h => k_token_Number_1 L K (e 6) h) (retX c_token_Number.results K)) (X.out 0 x))
def lc_token_Number_0 : C :=
  (.seq (.region [⟨(some 23), none, .bin .lss (.t 22) (.t 21)⟩])
  (.seq (.cond (.t 23)
    .skip
    (.exit 0))
  (.seq (.block 1 (.seq (.region [⟨(some 24), none, .mv (.t 22)⟩, ⟨(some 7), none, .mv (.t 24)⟩])
  (.seq (.region [⟨(some 25), none, .mv (.t 0)⟩, ⟨(some 26), none, .mv (.t 7)⟩, ⟨(some 27), none, .ixStr (.t 25) (.t 26)⟩, ⟨(some 28), none, .bin .sub (.t 27) (.c (.int .u8 48))⟩, ⟨(some 29), none, .toInt .i64 (.t 28)⟩, ⟨(some 8), none, .mv (.t 29)⟩])
  (.seq (.seq (.region [⟨(some 30), none, .mv (.t 8)⟩, ⟨(some 31), none, .mv (.t 1)⟩, ⟨(some 32), none, .bin .gtr (.t 30) (.t 31)⟩, ⟨(some 33), none, .mv (.t 32)⟩, ⟨(some 34), (some (33, false)), .mv (.t 6)⟩, ⟨(some 35), (some (33, false)), .mv (.t 1)⟩, ⟨(some 36), (some (33, false)), .mv (.t 8)⟩, ⟨(some 37), (some (33, false)), .bin .sub (.t 35) (.t 36)⟩, ⟨(some 38), (some (33, false)), .bin .quo (.t 37) (.c (.int .i64 10))⟩, ⟨(some 39), (some (33, false)), .bin .gtr (.t 34) (.t 38)⟩, ⟨(some 40), none, .pick (.t 33) (.c (.bool true)) (.t 39)⟩])
  (.cond (.t 40)
    (.seq (.region [⟨(some 41), none, .mv (.t 1)⟩, ⟨(some 4), none, .mv (.t 41)⟩, ⟨(some 5), none, .mv (.c (.bool true))⟩])
    .ret)
    .skip))
  (.region [⟨(some 42), none, .mv (.t 6)⟩, ⟨(some 43), none, .bin .mul (.c (.int .i64 10)) (.t 42)⟩, ⟨(some 44), none, .mv (.t 8)⟩, ⟨(some 45), none, .bin .add (.t 43) (.t 44)⟩, ⟨(some 6), none, .mv (.t 45)⟩])))))
  (.region [⟨(some 46), none, .bin .add (.t 22) (.c (.int .i64 1))⟩, ⟨(some 22), none, .mv (.t 46)⟩]))))
def b_token_Number_0 (L : FuncId → List V → V → Prop) (K : V → Heap → Prop) (N0 : Env → Heap → Prop) (e : Env) (h : Heap) : Prop :=
    (wi F L (.bin .lss (.c (e 22)) (.c (e 21))) E0 h fun v23 h =>
    (wb v23
    (k_token_Number_2 L K N0 (upd e 23 v23) (e 0) (e 1) (e 6) (e 22) h)
    (k_token_Number_1 L K (e 6) h)))
theorem l_token_Number_0 {L : FuncId → List V → V → Prop} {K : V → Heap → Prop} (I : Nat → Env → Heap → Prop) (hr : ∀ n e h, I n e h → b_token_Number_0 L K (fun e' h' => ∃ m, m < n ∧ I m e' h') e h) {n : Nat} {e : Env} {h : Heap} (hi : I n e h) : Wl F L lc_token_Number_0 (q_token_Number_0 L K) e h :=
  wloopp (b := b_token_Number_0 L K) I (fun _ _ _ => by kernel_rfl) hr hi
def k_token_Number_0 (L : FuncId → List V → V → Prop) (K : V → Heap → Prop) (e : Env) (v0 : V) (h : Heap) : Prop :=
    (wi F L (.len 0 (.c v0)) E0 h fun v21 h =>
    (Wl F L lc_token_Number_0 (q_token_Number_0 L K) (upd (upd (upd (upd e 6 (.int .i64 0)) 20 v0) 21 v21) 22 (.int .i64 0)) h))
def p_token_Number (L : FuncId → List V → V → Prop) (K : V → Heap → Prop) (a0 a1 : V) (h : Heap) : Prop :=
    (wi F L (.bin .eql (.c a0) (.c (.str []))) E0 h fun v10 h =>
    (wg v10 false (wi F L (.mv (.c a1)) E0 h) h fun v12 h =>
    (wg v10 false (wi F L (.bin .lss (.c v12) (.c (.int .i64 0))) E0 h) h fun v13 h =>
    (wi F L (.pick (.c v10) (.c (.bool true)) (.c v13)) E0 h fun v14 h =>
    (wg v14 false (wi F L (.mv (.c a0)) E0 h) h fun v16 h =>
    (wg v14 false (wi F L (.call i_token_all [(.c v16), (.c (.fn i_token_Number_1 []))]) E0 h) h fun v17 h =>
    (wg v14 false (wi F L (.un .not (.c v17)) E0 h) h fun v18 h =>
    (wi F L (.pick (.c v14) (.c (.bool true)) (.c v18)) E0 h fun v19 h =>
    (wb v19
    (∃ v, resultsV h (enterE [(.int .i64 0), (.bool false)]) [.tmp 0, .tmp 1] = some v ∧ K v h)
    (k_token_Number_0 L K (upd (upd (upd (upd (upd (upd (upd (upd (upd (upd (upd (upd (upd (enterE [a0, a1]) 4 (.int .i64 0)) 5 (.bool false)) 9 a0) 10 v10) 11 v10) 12 v12) 13 v13) 14 v14) 15 v14) 16 v16) 17 v17) 18 v18) 19 v19) a0 h))))))))))
theorem run_token_Number {L : FuncId → List V → V → Prop} {K : V → Heap → Prop} {a0 a1 : V} {h : Heap} (hp : p_token_Number L K a0 a1 h) : Cf F L i_token_Number [a0, a1] h K :=
  wcallp F_token_Number (show 2 ≤ 48 by decide) (p := p_token_Number L K a0 a1 h) (by kernel_rfl) hp
def k_strings_Trim_2 (L : FuncId → List V → V → Prop) (K : V → Heap → Prop) (v0 v1 : V) (h : Heap) : Prop :=
    (wi F L (.call i_strings_trimRightUnicode [(.c v0), (.c v1)]) E0 h fun v40 h =>
    (wi F L (.call i_strings_trimLeftUnicode [(.c v40), (.c v1)]) E0 h fun v42 h =>
    (∃ v, some v42 = some v ∧ K v h)))
def k_strings_Trim_1 (L : FuncId → List V → V → Prop) (K : V → Heap → Prop) (v0 v1 : V) (h : Heap) : Prop :=
    (wi F L (.call i_strings_makeASCIISet [(.c v1)]) E0 h fun v31 h =>
    (wi F L (.ext 0 (.c v31)) E0 h fun v32 h =>
    (wi F L (.ext 1 (.c v31)) E0 h fun v33 h =>
    (wi F L (.boxz (List.replicate 256 (.bool false))) E0 h fun v5 h =>
    (wi F L (.store 256 (.c v5) (.c v32)) E0 h fun _ h =>
    (wb v33
    (wi F L (.call i_strings_trimRightASCII [(.c v0), (.c v5)]) E0 h fun v36 h =>
    (wi F L (.call i_strings_trimLeftASCII [(.c v36), (.c v5)]) E0 h fun v37 h =>
    (∃ v, some v37 = some v ∧ K v h)))
    (k_strings_Trim_2 L K v0 v1 h)))))))
def k_strings_Trim_0 (L : FuncId → List V → V → Prop) (K : V → Heap → Prop) (v0 v1 : V) (h : Heap) : Prop :=
    (wi F L (.len 0 (.c v1)) E0 h fun v15 h =>
    (wi F L (.bin .eql (.c v15) (.c (.int .i64 1))) E0 h fun v16 h =>
    (wg v16 true (wi F L (.mv (.c v1)) E0 h) h fun v18 h =>
    (wg v16 true (wi F L (.ixStr (.c v18) (.c (.int .i64 0))) E0 h) h fun v19 h =>
    (wg v16 true (wi F L (.bin .lss (.c v19) (.c (.int .u8 128))) E0 h) h fun v20 h =>
    (wi F L (.pick (.c v16) (.c v20) (.c (.bool false))) E0 h fun v21 h =>
    (wb v21
    (wi F L (.ixStr (.c v1) (.c (.int .i64 0))) E0 h fun v24 h' => Ext h h' ∧
    (wi F L (.call i_strings_trimRightByte [(.c v0), (.c v24)]) E0 h' fun v25 h => Ext h' h ∧
    (wi F L (.ixStr (.c v1) (.c (.int .i64 0))) E0 h fun v27 h' => Ext h h' ∧
    (wi F L (.call i_strings_trimLeftByte [(.c v25), (.c v27)]) E0 h' fun v28 h =>
    (∃ v, some v28 = some v ∧ K v h)))))
    (k_strings_Trim_1 L K v0 v1 h))))))))
def p_strings_Trim (L : FuncId → List V → V → Prop) (K : V → Heap → Prop) (a0 a1 : V) (h : Heap) : Prop :=
    (wi F L (.bin .eql (.c a0) (.c (.str []))) E0 h fun v8 h =>
    (wg v8 false (wi F L (.mv (.c a1)) E0 h) h fun v10 h =>
    (wg v8 false (wi F L (.bin .eql (.c v10) (.c (.str []))) E0 h) h fun v11 h =>
    (wi F L (.pick (.c v8) (.c (.bool true)) (.c v11)) E0 h fun v12 h =>
    (wb v12
    (∃ v, some a0 = some v ∧ K v h)
    (k_strings_Trim_0 L K a0 a1 h))))))
theorem run_strings_Trim {L : FuncId → List V → V → Prop} {K : V → Heap → Prop} {a0 a1 : V} {h : Heap} (hp : p_strings_Trim L K a0 a1 h) : Cf F L i_strings_Trim [a0, a1] h K :=
  wcallp F_strings_Trim (show 2 ≤ 43 by decide) (p := p_strings_Trim L K a0 a1 h) (by kernel_rfl) hp
def k_internal_stringslite_Cut_0 (L : FuncId → List V → V → Prop) (K : V → Heap → Prop) (v0 : V) (h : Heap) : Prop :=
    (∃ v, resultsV h (enterE [v0, (.str []), (.bool false)]) [.tmp 0, .tmp 1, .tmp 2] = some v ∧ K v h)
def p_internal_stringslite_Cut (L : FuncId → List V → V → Prop) (K : V → Heap → Prop) (a0 a1 : V) (h : Heap) : Prop :=
    (wi F L (.call i_internal_stringslite_Index [(.c a0), (.c a1)]) E0 h fun v10 h =>
    (wi F L (.bin .geq (.c v10) (.c (.int .i64 0))) E0 h fun v12 h =>
    (wb v12
    (wi F L (.slstr (.c a0) none (some (.c v10))) E0 h fun v15 h' => Ext h h' ∧
    (wi F L (.len 0 (.c a1)) E0 h' fun v19 h => Ext h' h ∧
    (wi F L (.bin .add (.c v10) (.c v19)) E0 h fun v20 h' => Ext h h' ∧
    (wi F L (.slstr (.c a0) (some (.c v20)) none) E0 h' fun v21 h => Ext h' h ∧
    (∃ v, resultsV h (enterE [v15, v21, (.bool true)]) [.tmp 0, .tmp 1, .tmp 2] = some v ∧ K v h)))))
    (k_internal_stringslite_Cut_0 L K a0 h))))
theorem run_internal_stringslite_Cut {L : FuncId → List V → V → Prop} {K : V → Heap → Prop} {a0 a1 : V} {h : Heap} (hp : p_internal_stringslite_Cut L K a0 a1 h) : Cf F L i_internal_stringslite_Cut [a0, a1] h K :=
  wcallp F_internal_stringslite_Cut (show 2 ≤ 23 by decide) (p := p_internal_stringslite_Cut L K a0 a1 h) (by kernel_rfl) hp
def k_token_all_0 (L : FuncId → List V → V → Prop) (K : V → Heap → Prop) (h : Heap) : Prop :=
    (∃ v, some (.bool true) = some v ∧ K v h)
def k_token_all_2 (L : FuncId → List V → V → Prop) (K : V → Heap → Prop) (N0 : Env → Heap → Prop) (e : Env) (v8 : V) (h : Heap) : Prop :=
    (wi F L (.bin .add (.c v8) (.c (.int .i64 1))) E0 h fun v17 h =>
    (N0 (upd (upd e 17 v17) 8 v17) h))
def k_token_all_1 (L : FuncId → List V → V → Prop) (K : V → Heap → Prop) (N0 : Env → Heap → Prop) (e : Env) (v0 v1 v8 : V) (h : Heap) : Prop :=
    (wi F L (.ixStr (.c v0) (.c v8)) E0 h fun v14 h =>
    (wi F L (.callv (.c v1) [(.c v14)]) E0 h fun v15 h =>
    (wi F L (.un .not (.c v15)) E0 h fun v16 h =>
    (wb v16
    (∃ v, some (.bool false) = some v ∧ K v h)
    (k_token_all_2 L K N0 (upd (upd (upd (upd (upd (upd (upd (upd e 10 v8) 5 v8) 11 v1) 12 v0) 13 v8) 14 v14) 15 v15) 16 v16) v8 h)))))
def q_token_all_0 (L : FuncId → List V → V → Prop) (K : V → Heap → Prop) : X → Env → Heap → Prop := (fun x => (seqX (fun e h => k_token_all_0 L K  h) (retX c_token_all.results K)) (X.out 0 x))
def lc_token_all_0 : C :=
  (.seq (.region [⟨(some 9), none, .bin .lss (.t 8) (.t 7)⟩])
  (.seq (.cond (.t 9)
    .skip
    (.exit 0))
  (.seq (.block 1 (.seq (.region [⟨(some 10), none, .mv (.t 8)⟩, ⟨(some 5), none, .mv (.t 10)⟩])
  (.seq (.region [⟨(some 11), none, .mv (.t 1)⟩, ⟨(some 12), none, .mv (.t 0)⟩, ⟨(some 13), none, .mv (.t 5)⟩, ⟨(some 14), none, .ixStr (.t 12) (.t 13)⟩, ⟨(some 15), none, .callv (.t 11) [(.t 14)]⟩, ⟨(some 16), none, .un .not (.t 15)⟩])
  (.cond (.t 16)
    (.seq (.region [⟨(some 4), none, .mv (.c (.bool false))⟩])
    .ret)
    .skip))))
  (.region [⟨(some 17), none, .bin .add (.t 8) (.c (.int .i64 1))⟩, ⟨(some 8), none, .mv (.t 17)⟩]))))
def b_token_all_0 (L : FuncId → List V → V → Prop) (K : V → Heap → Prop) (N0 : Env → Heap → Prop) (e : Env) (h : Heap) : Prop :=
    (wi F L (.bin .lss (.c (e 8)) (.c (e 7))) E0 h fun v9 h =>
    (wb v9
    (k_token_all_1 L K N0 (upd e 9 v9) (e 0) (e 1) (e 8) h)
    (k_token_all_0 L K  h)))
theorem l_token_all_0 {L : FuncId → List V → V → Prop} {K : V → Heap → Prop} (I : Nat → Env → Heap → Prop) (hr : ∀ n e h, I n e h → b_token_all_0 L K (fun e' h' => ∃ m, m < n ∧ I m e' h') e h) {n : Nat} {e : Env} {h : Heap} (hi : I n e h) : Wl F L lc_token_all_0 (q_token_all_0 L K) e h :=
  wloopp (b := b_token_all_0 L K) I (fun _ _ _ => by kernel_rfl) hr hi
def p_token_all (L : FuncId → List V → V → Prop) (K : V → Heap → Prop) (a0 a1 : V) (h : Heap) : Prop :=
    (wi F L (.len 0 (.c a0)) E0 h fun v7 h =>
    (Wl F L lc_token_all_0 (q_token_all_0 L K) (upd (upd (upd (upd (enterE [a0, a1]) 4 (.bool false)) 6 a0) 7 v7) 8 (.int .i64 0)) h))
theorem run_token_all {L : FuncId → List V → V → Prop} {K : V → Heap → Prop} {a0 a1 : V} {h : Heap} (hp : p_token_all L K a0 a1 h) : Cf F L i_token_all [a0, a1] h K :=
  wcallp F_token_all (show 2 ≤ 18 by decide) (p := p_token_all L K a0 a1 h) (by kernel_rfl) hp
def k_token_inToken_1 (L : FuncId → List V → V → Prop) (K : V → Heap → Prop) (h : Heap) : Prop :=
    (∃ v, some (.bool false) = some v ∧ K v h)
def k_token_inToken_3 (L : FuncId → List V → V → Prop) (K : V → Heap → Prop) (N0 : Env → Heap → Prop) (e : Env) (v23 : V) (h : Heap) : Prop :=
    (wi F L (.bin .add (.c v23) (.c (.int .i64 1))) E0 h fun v29 h =>
    (N0 (upd (upd e 29 v29) 23 v29) h))
def k_token_inToken_2 (L : FuncId → List V → V → Prop) (K : V → Heap → Prop) (N0 : Env → Heap → Prop) (e : Env) (v0 v22 v23 : V) (h : Heap) : Prop :=
    (wi F L (.ixArr 15 1 false (.c v22) (.c v23)) E0 h fun v25 h =>
    (wi F L (.bin .eql (.c v25) (.c v0)) E0 h fun v28 h =>
    (wb v28
    (∃ v, some (.bool true) = some v ∧ K v h)
    (k_token_inToken_3 L K N0 (upd (upd (upd (upd (upd e 25 v25) 5 v25) 26 v25) 27 v0) 28 v28) v23 h))))
def q_token_inToken_0 (L : FuncId → List V → V → Prop) (K : V → Heap → Prop) : X → Env → Heap → Prop := (fun x => (seqX (fun e h => k_token_inToken_1 L K  h) (retX c_token_inToken.results K)) (X.out 0 x))
def lc_token_inToken_0 : C :=
  (.seq (.region [⟨(some 24), none, .bin .lss (.t 23) (.c (.int .i64 15))⟩])
  (.seq (.cond (.t 24)
    .skip
    (.exit 0))
  (.seq (.block 1 (.seq (.region [⟨(some 25), none, .ixArr 15 1 false (.t 22) (.t 23)⟩, ⟨(some 5), none, .mv (.t 25)⟩])
  (.seq (.region [⟨(some 26), none, .mv (.t 5)⟩, ⟨(some 27), none, .mv (.t 0)⟩, ⟨(some 28), none, .bin .eql (.t 26) (.t 27)⟩])
  (.cond (.t 28)
    (.seq (.region [⟨(some 2), none, .mv (.c (.bool true))⟩])
    .ret)
    .skip))))
  (.region [⟨(some 29), none, .bin .add (.t 23) (.c (.int .i64 1))⟩, ⟨(some 23), none, .mv (.t 29)⟩]))))
def b_token_inToken_0 (L : FuncId → List V → V → Prop) (K : V → Heap → Prop) (N0 : Env → Heap → Prop) (e : Env) (h : Heap) : Prop :=
    (wi F L (.bin .lss (.c (e 23)) (.c (.int .i64 15))) E0 h fun v24 h =>
    (wb v24
    (k_token_inToken_2 L K N0 (upd e 24 v24) (e 0) (e 22) (e 23) h)
    (k_token_inToken_1 L K  h)))
theorem l_token_inToken_0 {L : FuncId → List V → V → Prop} {K : V → Heap → Prop} (I : Nat → Env → Heap → Prop) (hr : ∀ n e h, I n e h → b_token_inToken_0 L K (fun e' h' => ∃ m, m < n ∧ I m e' h') e h) {n : Nat} {e : Env} {h : Heap} (hi : I n e h) : Wl F L lc_token_inToken_0 (q_token_inToken_0 L K) e h :=
  wloopp (b := b_token_inToken_0 L K) I (fun _ _ _ => by kernel_rfl) hr hi
def k_token_inToken_0 (L : FuncId → List V → V → Prop) (K : V → Heap → Prop) (e : Env) (h : Heap) : Prop :=
    (wi F L (.call i_token_marks []) E0 h fun v22 h =>
    (Wl F L lc_token_inToken_0 (q_token_inToken_0 L K) (upd (upd e 22 v22) 23 (.int .i64 0)) h))
def p_token_inToken (L : FuncId → List V → V → Prop) (K : V → Heap → Prop) (a0 : V) (h : Heap) : Prop :=
    (wi F L (.bin .or (.c a0) (.c (.int .u8 32))) E0 h fun v7 h =>
    (wi F L (.bin .geq (.c v7) (.c (.int .u8 97))) E0 h fun v9 h =>
    (wg v9 true (wi F L (.mv (.c v7)) E0 h) h fun v11 h =>
    (wg v9 true (wi F L (.bin .leq (.c v11) (.c (.int .u8 122))) E0 h) h fun v12 h =>
    (wi F L (.pick (.c v9) (.c v12) (.c (.bool false))) E0 h fun v13 h =>
    (wg v13 false (wi F L (.mv (.c a0)) E0 h) h fun v15 h =>
    (wg v13 false (wi F L (.bin .geq (.c v15) (.c (.int .u8 48))) E0 h) h fun v16 h =>
    (wg v13 false (wi F L (.mv (.c v16)) E0 h) h fun v17 h =>
    (wg v17 true (wi F L (.mv (.c a0)) E0 h) h fun v18 h =>
    (wg v17 true (wi F L (.bin .leq (.c v18) (.c (.int .u8 57))) E0 h) h fun v19 h =>
    (wg v13 false (wi F L (.pick (.c v17) (.c v19) (.c (.bool false))) E0 h) h fun v20 h =>
    (wi F L (.pick (.c v13) (.c (.bool true)) (.c v20)) E0 h fun v21 h =>
    (wb v21
    (∃ v, some (.bool true) = some v ∧ K v h)
    (k_token_inToken_0 L K (upd (upd (upd (upd (upd (upd (upd (upd (upd (upd (upd (upd (upd (upd (upd (upd (upd (upd (enterE [a0]) 2 (.bool false)) 6 a0) 7 v7) 3 v7) 8 v7) 9 v9) 10 v9) 11 v11) 12 v12) 13 v13) 14 v13) 15 v15) 16 v16) 17 v17) 18 v18) 19 v19) 20 v20) 21 v21)  h))))))))))))))
theorem run_token_inToken {L : FuncId → List V → V → Prop} {K : V → Heap → Prop} {a0 : V} {h : Heap} (hp : p_token_inToken L K a0 h) : Cf F L i_token_inToken [a0] h K :=
  wcallp F_token_inToken (show 1 ≤ 30 by decide) (p := p_token_inToken L K a0 h) (by kernel_rfl) hp
def p_token_Number_1 (L : FuncId → List V → V → Prop) (K : V → Heap → Prop) (a0 : V) (h : Heap) : Prop :=
    (wi F L (.bin .geq (.c a0) (.c (.int .u8 48))) E0 h fun v4 h =>
    (wg v4 true (wi F L (.mv (.c a0)) E0 h) h fun v6 h =>
    (wg v4 true (wi F L (.bin .leq (.c v6) (.c (.int .u8 57))) E0 h) h fun v7 h =>
    (wi F L (.pick (.c v4) (.c v7) (.c (.bool false))) E0 h fun v8 h =>
    (∃ v, some v8 = some v ∧ K v h)))))
theorem run_token_Number_1 {L : FuncId → List V → V → Prop} {K : V → Heap → Prop} {a0 : V} {h : Heap} (hp : p_token_Number_1 L K a0 h) : Cf F L i_token_Number_1 [a0] h K :=
  wcallp F_token_Number_1 (show 1 ≤ 9 by decide) (p := p_token_Number_1 L K a0 h) (by kernel_rfl) hp
def k_strings_makeASCIISet_0 (L : FuncId → List V → V → Prop) (K : V → Heap → Prop) (v2 : V) (h : Heap) : Prop :=
    (wi F L (.load true 256 (.c v2)) E0 h fun v20 h =>
    (wi F L (.store 256 (.c v2) (.c v20)) E0 h fun _ h =>
    (∃ v, resultsV h (enterE [v2, (.bool true)]) [.cell 0 true 256, .tmp 1] = some v ∧ K v h)))
def k_strings_makeASCIISet_2 (L : FuncId → List V → V → Prop) (K : V → Heap → Prop) (N0 : Env → Heap → Prop) (e : Env) (v4 : V) (h : Heap) : Prop :=
    (wi F L (.bin .add (.c v4) (.c (.int .i64 1))) E0 h fun v11 h =>
    (N0 (upd (upd (upd e 10 v4) 11 v11) 4 v11) h))
def k_strings_makeASCIISet_3 (L : FuncId → List V → V → Prop) (K : V → Heap → Prop) (N0 : Env → Heap → Prop) (e : Env) (v2 v4 v5 : V) (h : Heap) : Prop :=
    (wi F L (.ixaArr 256 1 (.c v2) (.c v5)) E0 h fun v19 h =>
    (wi F L (.store 1 (.c v19) (.c (.bool true))) E0 h fun _ h =>
    (k_strings_makeASCIISet_2 L K N0 (upd (upd e 18 v5) 19 v19) v4 h)))
def k_strings_makeASCIISet_1 (L : FuncId → List V → V → Prop) (K : V → Heap → Prop) (N0 : Env → Heap → Prop) (e : Env) (v0 v2 v4 : V) (h : Heap) : Prop :=
    (wi F L (.ixStr (.c v0) (.c v4)) E0 h fun v14 h =>
    (wi F L (.bin .geq (.c v14) (.c (.int .u8 128))) E0 h fun v16 h =>
    (wb v16
    (wi F L (.load true 256 (.c v2)) E0 h fun v17 h =>
    (wi F L (.store 256 (.c v2) (.c v17)) E0 h fun _ h =>
    (∃ v, resultsV h (enterE [v2, (.bool false)]) [.cell 0 true 256, .tmp 1] = some v ∧ K v h)))
    (k_strings_makeASCIISet_3 L K N0 (upd (upd (upd (upd (upd (upd e 12 v0) 13 v4) 14 v14) 5 v14) 15 v14) 16 v16) v2 v4 v14 h))))
def q_strings_makeASCIISet_0 (L : FuncId → List V → V → Prop) (K : V → Heap → Prop) : X → Env → Heap → Prop := (fun x => (seqX (fun e h => k_strings_makeASCIISet_0 L K (e 2) h) (retX c_strings_makeASCIISet.results K)) (X.out 0 x))
def lc_strings_makeASCIISet_0 : C :=
  (.seq (.seq (.region [⟨(some 6), none, .mv (.t 4)⟩, ⟨(some 7), none, .mv (.t 0)⟩, ⟨(some 8), none, .len 0 (.t 7)⟩, ⟨(some 9), none, .bin .lss (.t 6) (.t 8)⟩])
  (.cond (.t 9)
    .skip
    (.exit 0)))
  (.seq (.block 1 (.seq (.region [⟨(some 12), none, .mv (.t 0)⟩, ⟨(some 13), none, .mv (.t 4)⟩, ⟨(some 14), none, .ixStr (.t 12) (.t 13)⟩, ⟨(some 5), none, .mv (.t 14)⟩])
  (.seq (.seq (.region [⟨(some 15), none, .mv (.t 5)⟩, ⟨(some 16), none, .bin .geq (.t 15) (.c (.int .u8 128))⟩])
  (.cond (.t 16)
    (.seq (.region [⟨(some 17), none, .load true 256 (.t 2)⟩, ⟨none, none, .store 256 (.t 2) (.t 17)⟩, ⟨(some 3), none, .mv (.c (.bool false))⟩])
    .ret)
    .skip))
  (.region [⟨(some 18), none, .mv (.t 5)⟩, ⟨(some 19), none, .ixaArr 256 1 (.t 2) (.t 18)⟩, ⟨none, none, .store 1 (.t 19) (.c (.bool true))⟩]))))
  (.region [⟨(some 10), none, .mv (.t 4)⟩, ⟨(some 11), none, .bin .add (.t 10) (.c (.int .i64 1))⟩, ⟨(some 4), none, .mv (.t 11)⟩])))
def b_strings_makeASCIISet_0 (L : FuncId → List V → V → Prop) (K : V → Heap → Prop) (N0 : Env → Heap → Prop) (e : Env) (h : Heap) : Prop :=
    (wi F L (.len 0 (.c (e 0))) E0 h fun v8 h =>
    (wi F L (.bin .lss (.c (e 4)) (.c v8)) E0 h fun v9 h =>
    (wb v9
    (k_strings_makeASCIISet_1 L K N0 (upd (upd (upd (upd e 6 (e 4)) 7 (e 0)) 8 v8) 9 v9) (e 0) (e 2) (e 4) h)
    (k_strings_makeASCIISet_0 L K (e 2) h))))
theorem l_strings_makeASCIISet_0 {L : FuncId → List V → V → Prop} {K : V → Heap → Prop} (I : Nat → Env → Heap → Prop) (hr : ∀ n e h, I n e h → b_strings_makeASCIISet_0 L K (fun e' h' => ∃ m, m < n ∧ I m e' h') e h) {n : Nat} {e : Env} {h : Heap} (hi : I n e h) : Wl F L lc_strings_makeASCIISet_0 (q_strings_makeASCIISet_0 L K) e h :=
  wloopp (b := b_strings_makeASCIISet_0 L K) I (fun _ _ _ => by kernel_rfl) hr hi
def p_strings_makeASCIISet (L : FuncId → List V → V → Prop) (K : V → Heap → Prop) (a0 : V) (h : Heap) : Prop :=
    (wi F L (.boxz (List.replicate 256 (.bool false))) E0 h fun v2 h =>
    (Wl F L lc_strings_makeASCIISet_0 (q_strings_makeASCIISet_0 L K) (upd (upd (upd (enterE [a0]) 2 v2) 3 (.bool false)) 4 (.int .i64 0)) h))
theorem run_strings_makeASCIISet {L : FuncId → List V → V → Prop} {K : V → Heap → Prop} {a0 : V} {h : Heap} (hp : p_strings_makeASCIISet L K a0 h) : Cf F L i_strings_makeASCIISet [a0] h K :=
  wcallp F_strings_makeASCIISet (show 1 ≤ 21 by decide) (p := p_strings_makeASCIISet L K a0 h) (by kernel_rfl) hp
def k_strings_trimLeftASCII_0 (L : FuncId → List V → V → Prop) (K : V → Heap → Prop) (v0 : V) (h : Heap) : Prop :=
    (∃ v, some v0 = some v ∧ K v h)
def k_strings_trimLeftASCII_2 (L : FuncId → List V → V → Prop) (K : V → Heap → Prop) (N0 : Env → Heap → Prop) (e : Env) (v0 : V) (h : Heap) : Prop :=
    (wi F L (.slstr (.c v0) (some (.c (.int .i64 1))) none) E0 h fun v14 h =>
    (N0 (upd (upd (upd e 13 v0) 14 v14) 0 v14) h))
def k_strings_trimLeftASCII_1 (L : FuncId → List V → V → Prop) (K : V → Heap → Prop) (N0 : Env → Heap → Prop) (e : Env) (v0 v1 : V) (h : Heap) : Prop :=
    (wi F L (.ixStr (.c v0) (.c (.int .i64 0))) E0 h fun v10 h =>
    (wi F L (.call i___strings_asciiSet__contains [(.c v1), (.c v10)]) E0 h fun v11 h =>
    (wi F L (.un .not (.c v11)) E0 h fun v12 h =>
    (wb v12
    (k_strings_trimLeftASCII_0 L K v0 h)
    (k_strings_trimLeftASCII_2 L K N0 (upd (upd (upd (upd (upd e 8 v1) 9 v0) 10 v10) 11 v11) 12 v12) v0 h)))))
def q_strings_trimLeftASCII_0 (L : FuncId → List V → V → Prop) (K : V → Heap → Prop) : X → Env → Heap → Prop := (fun x => (seqX (fun e h => k_strings_trimLeftASCII_0 L K (e 0) h) (retX c_strings_trimLeftASCII.results K)) (X.out 0 x))
def lc_strings_trimLeftASCII_0 : C :=
  (.seq (.seq (.region [⟨(some 5), none, .mv (.t 0)⟩, ⟨(some 6), none, .len 0 (.t 5)⟩, ⟨(some 7), none, .bin .gtr (.t 6) (.c (.int .i64 0))⟩])
  (.cond (.t 7)
    .skip
    (.exit 0)))
  (.block 1 (.seq (.seq (.region [⟨(some 8), none, .mv (.t 1)⟩, ⟨(some 9), none, .mv (.t 0)⟩, ⟨(some 10), none, .ixStr (.t 9) (.c (.int .i64 0))⟩, ⟨(some 11), none, .call i___strings_asciiSet__contains [(.t 8), (.t 10)]⟩, ⟨(some 12), none, .un .not (.t 11)⟩])
  (.cond (.t 12)
    (.exit 0)
    .skip))
  (.region [⟨(some 13), none, .mv (.t 0)⟩, ⟨(some 14), none, .slstr (.t 13) (some (.c (.int .i64 1))) none⟩, ⟨(some 0), none, .mv (.t 14)⟩]))))
def b_strings_trimLeftASCII_0 (L : FuncId → List V → V → Prop) (K : V → Heap → Prop) (N0 : Env → Heap → Prop) (e : Env) (h : Heap) : Prop :=
    (wi F L (.len 0 (.c (e 0))) E0 h fun v6 h =>
    (wi F L (.bin .gtr (.c v6) (.c (.int .i64 0))) E0 h fun v7 h =>
    (wb v7
    (k_strings_trimLeftASCII_1 L K N0 (upd (upd (upd e 5 (e 0)) 6 v6) 7 v7) (e 0) (e 1) h)
    (k_strings_trimLeftASCII_0 L K (e 0) h))))
theorem l_strings_trimLeftASCII_0 {L : FuncId → List V → V → Prop} {K : V → Heap → Prop} (I : Nat → Env → Heap → Prop) (hr : ∀ n e h, I n e h → b_strings_trimLeftASCII_0 L K (fun e' h' => ∃ m, m < n ∧ I m e' h') e h) {n : Nat} {e : Env} {h : Heap} (hi : I n e h) : Wl F L lc_strings_trimLeftASCII_0 (q_strings_trimLeftASCII_0 L K) e h :=
  wloopp (b := b_strings_trimLeftASCII_0 L K) I (fun _ _ _ => by kernel_rfl) hr hi
def p_strings_trimLeftASCII (L : FuncId → List V → V → Prop) (K : V → Heap → Prop) (a0 a1 : V) (h : Heap) : Prop :=
    (Wl F L lc_strings_trimLeftASCII_0 (q_strings_trimLeftASCII_0 L K) (upd (enterE [a0, a1]) 4 (.str [])) h)
theorem run_strings_trimLeftASCII {L : FuncId → List V → V → Prop} {K : V → Heap → Prop} {a0 a1 : V} {h : Heap} (hp : p_strings_trimLeftASCII L K a0 a1 h) : Cf F L i_strings_trimLeftASCII [a0, a1] h K :=
  wcallp F_strings_trimLeftASCII (show 2 ≤ 16 by decide) (p := p_strings_trimLeftASCII L K a0 a1 h) (by kernel_rfl) hp
def k_strings_trimRightASCII_0 (L : FuncId → List V → V → Prop) (K : V → Heap → Prop) (v0 : V) (h : Heap) : Prop :=
    (∃ v, some v0 = some v ∧ K v h)
def k_strings_trimRightASCII_2 (L : FuncId → List V → V → Prop) (K : V → Heap → Prop) (N0 : Env → Heap → Prop) (e : Env) (v0 : V) (h : Heap) : Prop :=
    (wi F L (.len 0 (.c v0)) E0 h fun v18 h =>
    (wi F L (.bin .sub (.c v18) (.c (.int .i64 1))) E0 h fun v19 h =>
    (wi F L (.slstr (.c v0) none (some (.c v19))) E0 h fun v20 h =>
    (N0 (upd (upd (upd (upd (upd (upd e 16 v0) 17 v0) 18 v18) 19 v19) 20 v20) 0 v20) h))))
def k_strings_trimRightASCII_1 (L : FuncId → List V → V → Prop) (K : V → Heap → Prop) (N0 : Env → Heap → Prop) (e : Env) (v0 v1 : V) (h : Heap) : Prop :=
    (wi F L (.len 0 (.c v0)) E0 h fun v11 h =>
    (wi F L (.bin .sub (.c v11) (.c (.int .i64 1))) E0 h fun v12 h =>
    (wi F L (.ixStr (.c v0) (.c v12)) E0 h fun v13 h =>
    (wi F L (.call i___strings_asciiSet__contains [(.c v1), (.c v13)]) E0 h fun v14 h =>
    (wi F L (.un .not (.c v14)) E0 h fun v15 h =>
    (wb v15
    (k_strings_trimRightASCII_0 L K v0 h)
    (k_strings_trimRightASCII_2 L K N0 (upd (upd (upd (upd (upd (upd (upd (upd e 8 v1) 9 v0) 10 v0) 11 v11) 12 v12) 13 v13) 14 v14) 15 v15) v0 h)))))))
def q_strings_trimRightASCII_0 (L : FuncId → List V → V → Prop) (K : V → Heap → Prop) : X → Env → Heap → Prop := (fun x => (seqX (fun e h => k_strings_trimRightASCII_0 L K (e 0) h) (retX c_strings_trimRightASCII.results K)) (X.out 0 x))
def lc_strings_trimRightASCII_0 : C :=
  (.seq (.seq (.region [⟨(some 5), none, .mv (.t 0)⟩, ⟨(some 6), none, .len 0 (.t 5)⟩, ⟨(some 7), none, .bin .gtr (.t 6) (.c (.int .i64 0))⟩])
  (.cond (.t 7)
    .skip
    (.exit 0)))
  (.block 1 (.seq (.seq (.region [⟨(some 8), none, .mv (.t 1)⟩, ⟨(some 9), none, .mv (.t 0)⟩, ⟨(some 10), none, .mv (.t 0)⟩, ⟨(some 11), none, .len 0 (.t 10)⟩, ⟨(some 12), none, .bin .sub (.t 11) (.c (.int .i64 1))⟩, ⟨(some 13), none, .ixStr (.t 9) (.t 12)⟩, ⟨(some 14), none, .call i___strings_asciiSet__contains [(.t 8), (.t 13)]⟩, ⟨(some 15), none, .un .not (.t 14)⟩])
  (.cond (.t 15)
    (.exit 0)
    .skip))
  (.region [⟨(some 16), none, .mv (.t 0)⟩, ⟨(some 17), none, .mv (.t 0)⟩, ⟨(some 18), none, .len 0 (.t 17)⟩, ⟨(some 19), none, .bin .sub (.t 18) (.c (.int .i64 1))⟩, ⟨(some 20), none, .slstr (.t 16) none (some (.t 19))⟩, ⟨(some 0), none, .mv (.t 20)⟩]))))
def b_strings_trimRightASCII_0 (L : FuncId → List V → V → Prop) (K : V → Heap → Prop) (N0 : Env → Heap → Prop) (e : Env) (h : Heap) : Prop :=
    (wi F L (.len 0 (.c (e 0))) E0 h fun v6 h =>
    (wi F L (.bin .gtr (.c v6) (.c (.int .i64 0))) E0 h fun v7 h =>
    (wb v7
    (k_strings_trimRightASCII_1 L K N0 (upd (upd (upd e 5 (e 0)) 6 v6) 7 v7) (e 0) (e 1) h)
    (k_strings_trimRightASCII_0 L K (e 0) h))))
theorem l_strings_trimRightASCII_0 {L : FuncId → List V → V → Prop} {K : V → Heap → Prop} (I : Nat → Env → Heap → Prop) (hr : ∀ n e h, I n e h → b_strings_trimRightASCII_0 L K (fun e' h' => ∃ m, m < n ∧ I m e' h') e h) {n : Nat} {e : Env} {h : Heap} (hi : I n e h) : Wl F L lc_strings_trimRightASCII_0 (q_strings_trimRightASCII_0 L K) e h :=
  wloopp (b := b_strings_trimRightASCII_0 L K) I (fun _ _ _ => by kernel_rfl) hr hi
def p_strings_trimRightASCII (L : FuncId → List V → V → Prop) (K : V → Heap → Prop) (a0 a1 : V) (h : Heap) : Prop :=
    (Wl F L lc_strings_trimRightASCII_0 (q_strings_trimRightASCII_0 L K) (upd (enterE [a0, a1]) 4 (.str [])) h)
theorem run_strings_trimRightASCII {L : FuncId → List V → V → Prop} {K : V → Heap → Prop} {a0 a1 : V} {h : Heap} (hp : p_strings_trimRightASCII L K a0 a1 h) : Cf F L i_strings_trimRightASCII [a0, a1] h K :=
  wcallp F_strings_trimRightASCII (show 2 ≤ 22 by decide) (p := p_strings_trimRightASCII L K a0 a1 h) (by kernel_rfl) hp
def p_token_marks (L : FuncId → List V → V → Prop) (K : V → Heap → Prop) (h : Heap) : Prop :=
    (wi F L (.boxz [(.int .u8 0), (.int .u8 0), (.int .u8 0), (.int .u8 0), (.int .u8 0), (.int .u8 0), (.int .u8 0), (.int .u8 0), (.int .u8 0), (.int .u8 0), (.int .u8 0), (.int .u8 0), (.int .u8 0), (.int .u8 0), (.int .u8 0)]) E0 h fun v0 h =>
    (wi F L (.build [(.int .u8 0), (.int .u8 0), (.int .u8 0), (.int .u8 0), (.int .u8 0), (.int .u8 0), (.int .u8 0), (.int .u8 0), (.int .u8 0), (.int .u8 0), (.int .u8 0), (.int .u8 0), (.int .u8 0), (.int .u8 0), (.int .u8 0)] [(0, 1, (.c (.int .u8 33))), (1, 1, (.c (.int .u8 35))), (2, 1, (.c (.int .u8 36))), (3, 1, (.c (.int .u8 37))), (4, 1, (.c (.int .u8 38))), (5, 1, (.c (.int .u8 39))), (6, 1, (.c (.int .u8 42))), (7, 1, (.c (.int .u8 43))), (8, 1, (.c (.int .u8 45))), (9, 1, (.c (.int .u8 46))), (10, 1, (.c (.int .u8 94))), (11, 1, (.c (.int .u8 95))), (12, 1, (.c (.int .u8 96))), (13, 1, (.c (.int .u8 124))), (14, 1, (.c (.int .u8 126)))]) E0 h fun v1 h =>
    (wi F L (.store 15 (.c v0) (.c v1)) E0 h fun _ h =>
    (∃ v, resultsV h (enterE [v0]) [.cell 0 true 15] = some v ∧ K v h))))
theorem run_token_marks {L : FuncId → List V → V → Prop} {K : V → Heap → Prop} {h : Heap} (hp : p_token_marks L K  h) : Cf F L i_token_marks [] h K :=
  wcallp F_token_marks (show 0 ≤ 2 by decide) (p := p_token_marks L K  h) (by kernel_rfl) hp
def p___strings_asciiSet__contains (L : FuncId → List V → V → Prop) (K : V → Heap → Prop) (a0 a1 : V) (h : Heap) : Prop :=
    (wi F L (.nilck (.c a0)) E0 h fun v7 h =>
    (wi F L (.ixaArr 256 1 (.c v7) (.c a1)) E0 h fun v8 h =>
    (wi F L (.load false 1 (.c v8)) E0 h fun v9 h =>
    (∃ v, some v9 = some v ∧ K v h))))
theorem run___strings_asciiSet__contains {L : FuncId → List V → V → Prop} {K : V → Heap → Prop} {a0 a1 : V} {h : Heap} (hp : p___strings_asciiSet__contains L K a0 a1 h) : Cf F L i___strings_asciiSet__contains [a0, a1] h K :=
  wcallp F___strings_asciiSet__contains (show 2 ≤ 10 by decide) (p := p___strings_asciiSet__contains L K a0 a1 h) (by kernel_rfl) hp
theorem hF : ∀ f fn, F f = some fn → compF Tryd.prog f = some fn := lookup_all ⟨kc_gatepostlaw10_StoringSays, kc_gatepostlaw10_StoringAuth, kc_gatepostlaw10_few, kc_storing_May, kc_control_Of, kc_storing_known, kc_storing_has, kc_storing_varies, kc_fresh_Heuristic, kc_field_Get, kc_control_Parse, kc_control_nothing, kc_token_Split, kc_token_Lower, kc_slices_Contains___string_string_, kc_slices_ContainsFunc___gatepost_api_Field_gatepost_api_Field_, kc_storing_has_1, kc_token_Same, kc_fresh_keeps, kc_control_rules, kc_token_Pair, kc__gatepost_control_rule__value, kc_token_Split_1, kc_token_Trim, kc_slices_Index___string_string_, kc_slices_IndexFunc___gatepost_api_Field_gatepost_api_Field_, kc_control_rules_1, kc_control_rules_2, kc_control_rules_3, kc_control_rules_4, kc_control_rules_5, kc_control_rules_6, kc_control_rules_7, kc_control_rules_8, kc_control_rules_9, kc_control_rules_10, kc_control_rules_11, kc_control_rules_12, kc_control_rules_13, kc_control_rules_14, kc_control_rules_15, kc_strings_Cut, kc_token_Is, kc_token_unquote, kc_token_Number, kc_strings_Trim, kc_internal_stringslite_Cut, kc_token_all, kc_token_inToken, kc_strings_CutPrefix, kc_token_inQuotes, kc_token_Number_1, kc_strings_makeASCIISet, kc_strings_trimLeftASCII, kc_strings_trimRightASCII, kc_token_marks, kc_internal_stringslite_CutPrefix, kc___strings_asciiSet__contains, kc_internal_stringslite_HasPrefix, trivial⟩
theorem hm : Tryd.prog.follows .mixedOrders = true := by kernel_rfl
end Go.Proofs.YtaahialaegfjgaaDoor.Vh
end
