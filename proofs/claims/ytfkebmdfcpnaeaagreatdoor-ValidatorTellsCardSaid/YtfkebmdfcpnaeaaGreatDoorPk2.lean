/- The functions of a seat, compiled for the small machine. Printed by Print.lean. -/
import Derived.Test.YtfkebmdfcpnaeaaGreatDoorProg
import Derived.Test.YtfkebmdfcpnaeaaGreatDoorPk1
import Derived.KernelRfl
section
set_option maxRecDepth 100000
set_option linter.unusedVariables false
namespace Go.Proofs.YtfkebmdfcpnaeaaGreatDoor.Vh
open Go.Vm
def i_gatepostlaw12_ValidatorTells : FuncId := 3
def i_gatepostlaw12_few : FuncId := 4
def i_validator_Unchanged : FuncId := 5
def i_gatepostref12_Unchanged : FuncId := 6
def i_validator_Applies : FuncId := 7
def i_gatepostref12_Applies : FuncId := 8
def i_gatepostref04_Same : FuncId := 9
def i_validator_Asks : FuncId := 10
def i_gatepostref12_Asks : FuncId := 11
def i_field_Get : FuncId := 12
def i_validator_matches : FuncId := 13
def i_validator_one : FuncId := 14
def i_date_Parse : FuncId := 15
def i_gatepostref04_Get : FuncId := 16
def i_gatepostref12_Parse : FuncId := 17
def i_gatepostref01_Split : FuncId := 18
def i_gatepostref02_Parse : FuncId := 19
def i_validator_Parse : FuncId := 20
def i_validator_Strong : FuncId := 21
def i_date_Format : FuncId := 22
def i_gatepostref02_Format : FuncId := 23
def i_token_Same : FuncId := 24
def i_strings_Join : FuncId := 25
def i_token_Split : FuncId := 26
def i_slices_ContainsFunc___string_string_ : FuncId := 27
def i_validator_matches_1 : FuncId := 28
def i_validator_Weak : FuncId := 29
def i_date_fixed : FuncId := 30
def i_date_old : FuncId := 31
def i_date_plain : FuncId := 32
def i_gatepostref01_Same : FuncId := 33
def i_gatepostref01_Trim : FuncId := 34
def i_gatepostref02_second : FuncId := 35
def i_gatepostref02_find : FuncId := 36
def i_gatepostref02_short : FuncId := 37
def i_gatepostref02_number : FuncId := 38
def i_gatepostref02_months : FuncId := 39
def i_gatepostref02_clock : FuncId := 40
def i_strings_CutPrefix : FuncId := 41
def i_strings_CutSuffix : FuncId := 42
def i_date_Civil : FuncId := 43
def i_date_longDays : FuncId := 44
def i_date_pad : FuncId := 45
def i_date_monthNames : FuncId := 46
def i_gatepostref02_Civil : FuncId := 47
def i_gatepostref02_two : FuncId := 48
def i_token_Lower : FuncId := 49
def i_token_Split_1 : FuncId := 53
def i_token_Trim : FuncId := 54
def i_slices_IndexFunc___string_string_ : FuncId := 55
def i___gatepost_date_reader__day : FuncId := 56
def i___gatepost_date_reader__need : FuncId := 57
def i___gatepost_date_reader__number : FuncId := 58
def i___gatepost_date_reader__month : FuncId := 59
def i___gatepost_date_reader__clock : FuncId := 60
def i___gatepost_date_reader__second : FuncId := 61
def i___gatepost_date_reader__take : FuncId := 62
def i_gatepostref01_Lower : FuncId := 63
def i_gatepostref01_blank : FuncId := 64
def i_gatepostref02_Days : FuncId := 65
def i_internal_stringslite_CutPrefix : FuncId := 66
def i_internal_stringslite_CutSuffix : FuncId := 67
def i_strconv_Itoa : FuncId := 68
def i_gatepostref02_year : FuncId := 69
def i_gatepostref02_long : FuncId := 70
def i_strings_Trim : FuncId := 73
def i___gatepost_date_reader__number_1 : FuncId := 74
def i_date_Days : FuncId := 75
def i_internal_stringslite_HasPrefix : FuncId := 76
def i_internal_stringslite_HasSuffix : FuncId := 77
def i_gatepostref02_leap : FuncId := 79
def i_strings_trimLeftByte : FuncId := 82
def i_strings_trimRightByte : FuncId := 83
def i_strings_makeASCIISet : FuncId := 84
def i_strings_trimLeftASCII : FuncId := 85
def i_strings_trimRightASCII : FuncId := 86
def i_strings_trimLeftUnicode : FuncId := 87
def i_strings_trimRightUnicode : FuncId := 88
def i___strings_asciiSet__contains : FuncId := 90
/-- gatepost/gatepostlaw12.ValidatorTells -/
def c_gatepostlaw12_ValidatorTells : FnC := ⟨44, [.tmp 4],
  (.seq (.region [⟨(some 2), none, .box (.t 0)⟩, ⟨(some 3), none, .box (.t 1)⟩, ⟨(some 4), none, .mv (.c (.bool false))⟩])
  (.seq (.seq (.region [⟨(some 5), none, .faddr 3 (.t 2)⟩, ⟨(some 6), none, .load false 1 (.t 5)⟩, ⟨(some 7), none, .call i_gatepostlaw12_few [(.t 6)]⟩, ⟨(some 8), none, .un .not (.t 7)⟩, ⟨(some 9), none, .mv (.t 8)⟩, ⟨(some 10), (some (9, false)), .faddr 20 (.t 3)⟩, ⟨(some 11), (some (9, false)), .load false 1 (.t 10)⟩, ⟨(some 12), (some (9, false)), .len 0 (.t 11)⟩, ⟨(some 13), (some (9, false)), .bin .gtr (.t 12) (.c (.int .i64 500))⟩, ⟨(some 14), none, .pick (.t 9) (.c (.bool true)) (.t 13)⟩])
  (.cond (.t 14)
    (.seq (.region [⟨(some 4), none, .mv (.c (.bool true))⟩])
    .ret)
    .skip))
  (.seq (.dregion [⟨(some 15), none, .load true 4 (.t 2)⟩, ⟨(some 16), none, .load true 21 (.t 3)⟩, ⟨(some 17), none, .call i_validator_Unchanged [(.t 15), (.t 16)]⟩, ⟨(some 18), none, .load true 4 (.t 2)⟩, ⟨(some 19), none, .load true 21 (.t 3)⟩, ⟨(some 20), none, .call i_gatepostref12_Unchanged [(.t 18), (.t 19)]⟩, ⟨(some 21), none, .eq .bool false (.t 17) (.t 20)⟩, ⟨(some 22), none, .mv (.t 21)⟩, ⟨(some 23), (some (22, true)), .load true 4 (.t 2)⟩, ⟨(some 24), (some (22, true)), .load true 21 (.t 3)⟩, ⟨(some 25), (some (22, true)), .call i_validator_Applies [(.t 23), (.t 24)]⟩, ⟨(some 26), (some (22, true)), .load true 4 (.t 2)⟩, ⟨(some 27), (some (22, true)), .load true 21 (.t 3)⟩, ⟨(some 28), (some (22, true)), .call i_gatepostref12_Applies [(.t 26), (.t 27)]⟩, ⟨(some 29), (some (22, true)), .eq .bool false (.t 25) (.t 28)⟩, ⟨(some 30), none, .pick (.t 22) (.t 29) (.c (.bool false))⟩, ⟨(some 31), none, .mv (.t 30)⟩, ⟨(some 32), (some (31, true)), .load true 21 (.t 3)⟩, ⟨(some 33), (some (31, true)), .call i_validator_Asks [(.t 32)]⟩, ⟨(some 34), (some (31, true)), .load true 21 (.t 3)⟩] [⟨(some 35), (some (31, true)), .call i_gatepostref12_Asks [(.t 34)]⟩, ⟨(some 36), (some (31, true)), .call i_gatepostref04_Same [(.t 33), (.t 35)]⟩, ⟨(some 37), none, .pick (.t 31) (.t 36) (.c (.bool false))⟩, ⟨(some 38), none, .mv (.t 37)⟩, ⟨(some 39), (some (38, true)), .build [(.int .i64 0), (.bool false), (.bool false), (.bool false), (.bool false), (.bool false), (.bool false), (.bool false), (.int .i64 0), (.int .i64 0), (.int .i64 0), (.int .i64 0), (.int .i64 0), (.int .i64 0), (.int .i64 0), (.int .i64 0), (.int .i64 0), (.int .i64 0), (.int .i64 0), (.int .i64 0), (.str [])] [(20, 1, (.c (.str [34, 97, 34])))]⟩, ⟨(some 40), (some (38, true)), .call i_validator_Asks [(.t 39)]⟩, ⟨(some 41), (some (38, true)), .len 1 (.t 40)⟩, ⟨(some 42), (some (38, true)), .bin .eql (.t 41) (.c (.int .i64 2))⟩, ⟨(some 43), none, .pick (.t 38) (.t 42) (.c (.bool false))⟩, ⟨(some 4), none, .mv (.t 43)⟩])
  .ret)))⟩
/-- gatepost/gatepostlaw12.few -/
def c_gatepostlaw12_few : FnC := ⟨35, [.tmp 2],
  (.seq (.region [⟨(some 2), none, .mv (.c (.bool false))⟩])
  (.seq (.region [⟨(some 5), none, .mv (.t 0)⟩, ⟨(some 6), none, .len 1 (.t 5)⟩, ⟨(some 7), none, .bin .mul (.c (.int .i64 20)) (.t 6)⟩, ⟨(some 3), none, .mv (.t 7)⟩])
  (.seq (.seq (.region [⟨(some 4), none, .mv (.c (.int .i64 0))⟩])
  (.block 0 (.loop
    (.seq (.seq (.region [⟨(some 8), none, .mv (.t 4)⟩, ⟨(some 9), none, .mv (.t 0)⟩, ⟨(some 10), none, .len 1 (.t 9)⟩, ⟨(some 11), none, .bin .lss (.t 8) (.t 10)⟩, ⟨(some 12), none, .mv (.t 11)⟩, ⟨(some 13), (some (12, true)), .mv (.t 3)⟩, ⟨(some 14), (some (12, true)), .bin .lss (.t 13) (.c (.int .i64 3000))⟩, ⟨(some 15), none, .pick (.t 12) (.t 14) (.c (.bool false))⟩])
    (.cond (.t 15)
      .skip
      (.exit 0)))
    (.seq (.block 1 (.dregion [⟨(some 18), none, .mv (.t 3)⟩, ⟨(some 19), none, .mv (.t 0)⟩, ⟨(some 20), none, .mv (.t 4)⟩, ⟨(some 21), none, .ixaSl 2 (.t 19) (.t 20)⟩, ⟨(some 22), none, .faddr 0 (.t 21)⟩, ⟨(some 23), none, .load false 1 (.t 22)⟩, ⟨(some 24), none, .len 0 (.t 23)⟩, ⟨(some 25), none, .bin .add (.t 18) (.t 24)⟩, ⟨(some 26), none, .mv (.t 0)⟩, ⟨(some 27), none, .mv (.t 4)⟩, ⟨(some 28), none, .ixaSl 2 (.t 26) (.t 27)⟩, ⟨(some 29), none, .faddr 1 (.t 28)⟩, ⟨(some 30), none, .load false 1 (.t 29)⟩, ⟨(some 31), none, .len 0 (.t 30)⟩] [⟨(some 32), none, .bin .add (.t 25) (.t 31)⟩, ⟨(some 3), none, .mv (.t 32)⟩]))
    (.region [⟨(some 16), none, .mv (.t 4)⟩, ⟨(some 17), none, .bin .add (.t 16) (.c (.int .i64 1))⟩, ⟨(some 4), none, .mv (.t 17)⟩]))))))
  (.seq (.region [⟨(some 33), none, .mv (.t 3)⟩, ⟨(some 34), none, .bin .lss (.t 33) (.c (.int .i64 3000))⟩, ⟨(some 2), none, .mv (.t 34)⟩])
  .ret))))⟩
/-- gatepost/validator.Unchanged -/
def c_validator_Unchanged : FnC := ⟨57, [.tmp 4],
  (.seq (.region [⟨(some 2), none, .box (.t 0)⟩, ⟨(some 3), none, .box (.t 1)⟩, ⟨(some 4), none, .mv (.c (.bool false))⟩])
  (.seq (.seq (.region [⟨(some 11), none, .faddr 0 (.t 2)⟩, ⟨(some 12), none, .load false 1 (.t 11)⟩, ⟨(some 13), none, .bin .neq (.t 12) (.c (.str [71, 69, 84]))⟩, ⟨(some 14), none, .mv (.t 13)⟩, ⟨(some 15), (some (14, true)), .faddr 0 (.t 2)⟩, ⟨(some 16), (some (14, true)), .load false 1 (.t 15)⟩, ⟨(some 17), (some (14, true)), .bin .neq (.t 16) (.c (.str [72, 69, 65, 68]))⟩, ⟨(some 18), none, .pick (.t 14) (.t 17) (.c (.bool false))⟩])
  (.cond (.t 18)
    (.seq (.region [⟨(some 4), none, .mv (.c (.bool false))⟩])
    .ret)
    .skip))
  (.seq (.seq (.region [⟨(some 20), none, .faddr 3 (.t 2)⟩, ⟨(some 21), none, .load false 1 (.t 20)⟩, ⟨(some 22), none, .call i_field_Get [(.t 21), (.c (.str [73, 102, 45, 78, 111, 110, 101, 45, 77, 97, 116, 99, 104]))]⟩, ⟨(some 19), none, .mv (.t 22)⟩, ⟨(some 23), none, .ext 0 (.t 19)⟩, ⟨(some 24), none, .ext 1 (.t 19)⟩, ⟨(some 5), none, .mv (.t 23)⟩, ⟨(some 6), none, .mv (.t 24)⟩])
  (.seq (.region [⟨(some 25), none, .mv (.t 6)⟩, ⟨(some 26), none, .bin .gtr (.t 25) (.c (.int .i64 0))⟩])
  (.cond (.t 26)
    (.seq (.region [⟨(some 27), none, .mv (.t 5)⟩, ⟨(some 28), none, .faddr 20 (.t 3)⟩, ⟨(some 29), none, .load false 1 (.t 28)⟩, ⟨(some 30), none, .call i_validator_matches [(.t 27), (.t 29)]⟩, ⟨(some 4), none, .mv (.t 30)⟩])
    .ret)
    .skip)))
  (.seq (.region [⟨(some 32), none, .faddr 3 (.t 2)⟩, ⟨(some 33), none, .load false 1 (.t 32)⟩, ⟨(some 34), none, .call i_validator_one [(.t 33), (.c (.str [73, 102, 45, 77, 111, 100, 105, 102, 105, 101, 100, 45, 83, 105, 110, 99, 101]))]⟩, ⟨(some 31), none, .mv (.t 34)⟩, ⟨(some 35), none, .ext 0 (.t 31)⟩, ⟨(some 36), none, .ext 1 (.t 31)⟩, ⟨(some 7), none, .mv (.t 35)⟩, ⟨(some 8), none, .mv (.t 36)⟩])
  (.seq (.region [⟨(some 38), none, .mv (.t 7)⟩, ⟨(some 39), none, .call i_date_Parse [(.t 38)]⟩, ⟨(some 37), none, .mv (.t 39)⟩, ⟨(some 40), none, .ext 0 (.t 37)⟩, ⟨(some 41), none, .ext 1 (.t 37)⟩, ⟨(some 9), none, .mv (.t 40)⟩, ⟨(some 10), none, .mv (.t 41)⟩])
  (.seq (.region [⟨(some 42), none, .mv (.t 8)⟩, ⟨(some 43), none, .mv (.t 42)⟩, ⟨(some 44), (some (43, true)), .mv (.t 10)⟩, ⟨(some 45), none, .pick (.t 43) (.t 44) (.c (.bool false))⟩, ⟨(some 46), none, .mv (.t 45)⟩, ⟨(some 47), (some (46, true)), .faddr 16 (.t 3)⟩, ⟨(some 48), (some (46, true)), .load false 1 (.t 47)⟩, ⟨(some 49), (some (46, true)), .bin .geq (.t 48) (.c (.int .i64 0))⟩, ⟨(some 50), none, .pick (.t 46) (.t 49) (.c (.bool false))⟩, ⟨(some 51), none, .mv (.t 50)⟩, ⟨(some 52), (some (51, true)), .faddr 16 (.t 3)⟩, ⟨(some 53), (some (51, true)), .load false 1 (.t 52)⟩, ⟨(some 54), (some (51, true)), .mv (.t 9)⟩, ⟨(some 55), (some (51, true)), .bin .leq (.t 53) (.t 54)⟩, ⟨(some 56), none, .pick (.t 51) (.t 55) (.c (.bool false))⟩, ⟨(some 4), none, .mv (.t 56)⟩])
  .ret))))))⟩
/-- gatepost/gatepostref12.Unchanged -/
def c_gatepostref12_Unchanged : FnC := ⟨100, [.tmp 4],
  (.seq (.region [⟨(some 2), none, .box (.t 0)⟩, ⟨(some 3), none, .box (.t 1)⟩, ⟨(some 4), none, .mv (.c (.bool false))⟩])
  (.seq (.seq (.region [⟨(some 16), none, .faddr 0 (.t 2)⟩, ⟨(some 17), none, .load false 1 (.t 16)⟩, ⟨(some 18), none, .bin .neq (.t 17) (.c (.str [71, 69, 84]))⟩, ⟨(some 19), none, .mv (.t 18)⟩, ⟨(some 20), (some (19, true)), .faddr 0 (.t 2)⟩, ⟨(some 21), (some (19, true)), .load false 1 (.t 20)⟩, ⟨(some 22), (some (19, true)), .bin .neq (.t 21) (.c (.str [72, 69, 65, 68]))⟩, ⟨(some 23), none, .pick (.t 19) (.t 22) (.c (.bool false))⟩])
  (.cond (.t 23)
    (.seq (.region [⟨(some 4), none, .mv (.c (.bool false))⟩])
    .ret)
    .skip))
  (.seq (.region [⟨(some 25), none, .faddr 3 (.t 2)⟩, ⟨(some 26), none, .load false 1 (.t 25)⟩, ⟨(some 27), none, .call i_gatepostref04_Get [(.t 26), (.c (.str [105, 102, 45, 110, 111, 110, 101, 45, 109, 97, 116, 99, 104]))]⟩, ⟨(some 24), none, .mv (.t 27)⟩, ⟨(some 28), none, .ext 0 (.t 24)⟩, ⟨(some 29), none, .ext 1 (.t 24)⟩, ⟨(some 5), none, .mv (.t 28)⟩, ⟨(some 6), none, .mv (.t 29)⟩])
  (.seq (.seq (.region [⟨(some 30), none, .mv (.t 6)⟩, ⟨(some 31), none, .bin .gtr (.t 30) (.c (.int .i64 0))⟩])
  (.cond (.t 31)
    (.seq (.seq (.region [⟨(some 32), none, .mv (.t 5)⟩, ⟨(some 33), none, .bin .eql (.t 32) (.c (.str [42]))⟩])
    (.cond (.t 33)
      (.seq (.region [⟨(some 4), none, .mv (.c (.bool true))⟩])
      .ret)
      .skip))
    (.seq (.region [⟨(some 35), none, .faddr 20 (.t 3)⟩, ⟨(some 36), none, .load false 1 (.t 35)⟩, ⟨(some 37), none, .call i_gatepostref12_Parse [(.t 36)]⟩, ⟨(some 34), none, .mv (.t 37)⟩, ⟨(some 38), none, .ext 0 (.t 34)⟩, ⟨(some 39), none, .ext 1 (.t 34)⟩, ⟨(some 7), none, .boxz [(.bool false), (.str [])]⟩, ⟨none, none, .store 2 (.t 7) (.t 38)⟩, ⟨(some 8), none, .mv (.t 39)⟩])
    (.seq (.region [⟨(some 41), none, .mv (.t 5)⟩, ⟨(some 42), none, .call i_gatepostref01_Split [(.t 41)]⟩, ⟨(some 40), none, .mv (.t 42)⟩, ⟨(some 43), none, .ext 0 (.t 40)⟩, ⟨(some 44), none, .ext 1 (.t 40)⟩, ⟨(some 9), none, .mv (.t 43)⟩, ⟨(some 10), none, .mv (.t 44)⟩])
    (.seq (.seq (.region [⟨(some 11), none, .mv (.c (.int .i64 0))⟩])
    (.block 0 (.loop
      (.seq (.seq (.region [⟨(some 45), none, .mv (.t 11)⟩, ⟨(some 46), none, .mv (.t 9)⟩, ⟨(some 47), none, .len 1 (.t 46)⟩, ⟨(some 48), none, .bin .lss (.t 45) (.t 47)⟩, ⟨(some 49), none, .mv (.t 48)⟩, ⟨(some 50), (some (49, true)), .mv (.t 8)⟩, ⟨(some 51), none, .pick (.t 49) (.t 50) (.c (.bool false))⟩, ⟨(some 52), none, .mv (.t 51)⟩, ⟨(some 53), (some (52, true)), .mv (.t 10)⟩, ⟨(some 54), none, .pick (.t 52) (.t 53) (.c (.bool false))⟩])
      (.cond (.t 54)
        .skip
        (.exit 0)))
      (.seq (.block 1 (.seq (.region [⟨(some 58), none, .mv (.t 9)⟩, ⟨(some 59), none, .mv (.t 11)⟩, ⟨(some 60), none, .ixaSl 1 (.t 58) (.t 59)⟩, ⟨(some 61), none, .load false 1 (.t 60)⟩, ⟨(some 62), none, .call i_gatepostref12_Parse [(.t 61)]⟩, ⟨(some 57), none, .mv (.t 62)⟩, ⟨(some 63), none, .ext 0 (.t 57)⟩, ⟨(some 64), none, .ext 1 (.t 57)⟩, ⟨(some 12), none, .boxz [(.bool false), (.str [])]⟩, ⟨none, none, .store 2 (.t 12) (.t 63)⟩, ⟨(some 13), none, .mv (.t 64)⟩])
      (.seq (.region [⟨(some 65), none, .mv (.t 13)⟩, ⟨(some 66), none, .mv (.t 65)⟩, ⟨(some 67), (some (66, true)), .faddr 1 (.t 12)⟩, ⟨(some 68), (some (66, true)), .load false 1 (.t 67)⟩, ⟨(some 69), (some (66, true)), .faddr 1 (.t 7)⟩, ⟨(some 70), (some (66, true)), .load false 1 (.t 69)⟩, ⟨(some 71), (some (66, true)), .bin .eql (.t 68) (.t 70)⟩, ⟨(some 72), none, .pick (.t 66) (.t 71) (.c (.bool false))⟩])
      (.cond (.t 72)
        (.seq (.region [⟨(some 4), none, .mv (.c (.bool true))⟩])
        .ret)
        .skip))))
      (.region [⟨(some 55), none, .mv (.t 11)⟩, ⟨(some 56), none, .bin .add (.t 55) (.c (.int .i64 1))⟩, ⟨(some 11), none, .mv (.t 56)⟩]))))))
    (.seq (.region [⟨(some 4), none, .mv (.c (.bool false))⟩])
    .ret)))))
    .skip))
  (.seq (.region [⟨(some 74), none, .faddr 3 (.t 2)⟩, ⟨(some 75), none, .load false 1 (.t 74)⟩, ⟨(some 76), none, .call i_gatepostref04_Get [(.t 75), (.c (.str [105, 102, 45, 109, 111, 100, 105, 102, 105, 101, 100, 45, 115, 105, 110, 99, 101]))]⟩, ⟨(some 73), none, .mv (.t 76)⟩, ⟨(some 77), none, .ext 0 (.t 73)⟩, ⟨(some 78), none, .ext 1 (.t 73)⟩, ⟨(some 5), none, .mv (.t 77)⟩, ⟨(some 6), none, .mv (.t 78)⟩])
  (.seq (.region [⟨(some 80), none, .mv (.t 5)⟩, ⟨(some 81), none, .call i_gatepostref02_Parse [(.t 80)]⟩, ⟨(some 79), none, .mv (.t 81)⟩, ⟨(some 82), none, .ext 0 (.t 79)⟩, ⟨(some 83), none, .ext 1 (.t 79)⟩, ⟨(some 14), none, .mv (.t 82)⟩, ⟨(some 15), none, .mv (.t 83)⟩])
  (.seq (.region [⟨(some 84), none, .mv (.t 6)⟩, ⟨(some 85), none, .bin .eql (.t 84) (.c (.int .i64 1))⟩, ⟨(some 86), none, .mv (.t 85)⟩, ⟨(some 87), (some (86, true)), .mv (.t 15)⟩, ⟨(some 88), none, .pick (.t 86) (.t 87) (.c (.bool false))⟩, ⟨(some 89), none, .mv (.t 88)⟩, ⟨(some 90), (some (89, true)), .faddr 16 (.t 3)⟩, ⟨(some 91), (some (89, true)), .load false 1 (.t 90)⟩, ⟨(some 92), (some (89, true)), .bin .geq (.t 91) (.c (.int .i64 0))⟩, ⟨(some 93), none, .pick (.t 89) (.t 92) (.c (.bool false))⟩, ⟨(some 94), none, .mv (.t 93)⟩, ⟨(some 95), (some (94, true)), .faddr 16 (.t 3)⟩, ⟨(some 96), (some (94, true)), .load false 1 (.t 95)⟩, ⟨(some 97), (some (94, true)), .mv (.t 14)⟩, ⟨(some 98), (some (94, true)), .bin .leq (.t 96) (.t 97)⟩, ⟨(some 99), none, .pick (.t 94) (.t 98) (.c (.bool false))⟩, ⟨(some 4), none, .mv (.t 99)⟩])
  .ret)))))))⟩
/-- gatepost/validator.Applies -/
def c_validator_Applies : FnC := ⟨68, [.tmp 4],
  (.seq (.region [⟨(some 2), none, .box (.t 0)⟩, ⟨(some 3), none, .box (.t 1)⟩, ⟨(some 4), none, .mv (.c (.bool false))⟩])
  (.seq (.seq (.region [⟨(some 16), none, .faddr 3 (.t 2)⟩, ⟨(some 17), none, .load false 1 (.t 16)⟩, ⟨(some 18), none, .call i_validator_one [(.t 17), (.c (.str [82, 97, 110, 103, 101]))]⟩, ⟨(some 15), none, .mv (.t 18)⟩, ⟨(some 19), none, .ext 0 (.t 15)⟩, ⟨(some 20), none, .ext 1 (.t 15)⟩, ⟨(some 5), none, .mv (.t 19)⟩, ⟨(some 6), none, .mv (.t 20)⟩])
  (.seq (.region [⟨(some 21), none, .mv (.t 6)⟩, ⟨(some 22), none, .un .not (.t 21)⟩, ⟨(some 23), none, .mv (.t 22)⟩, ⟨(some 24), (some (23, false)), .faddr 0 (.t 2)⟩, ⟨(some 25), (some (23, false)), .load false 1 (.t 24)⟩, ⟨(some 26), (some (23, false)), .bin .neq (.t 25) (.c (.str [71, 69, 84]))⟩, ⟨(some 27), none, .pick (.t 23) (.c (.bool true)) (.t 26)⟩])
  (.cond (.t 27)
    (.seq (.region [⟨(some 4), none, .mv (.c (.bool false))⟩])
    .ret)
    .skip)))
  (.seq (.region [⟨(some 29), none, .faddr 3 (.t 2)⟩, ⟨(some 30), none, .load false 1 (.t 29)⟩, ⟨(some 31), none, .call i_field_Get [(.t 30), (.c (.str [73, 102, 45, 82, 97, 110, 103, 101]))]⟩, ⟨(some 28), none, .mv (.t 31)⟩, ⟨(some 32), none, .ext 0 (.t 28)⟩, ⟨(some 33), none, .ext 1 (.t 28)⟩, ⟨(some 7), none, .mv (.t 32)⟩, ⟨(some 8), none, .mv (.t 33)⟩])
  (.seq (.seq (.region [⟨(some 34), none, .mv (.t 8)⟩, ⟨(some 35), none, .bin .neq (.t 34) (.c (.int .i64 1))⟩])
  (.cond (.t 35)
    (.seq (.region [⟨(some 36), none, .mv (.t 8)⟩, ⟨(some 37), none, .bin .eql (.t 36) (.c (.int .i64 0))⟩, ⟨(some 4), none, .mv (.t 37)⟩])
    .ret)
    .skip))
  (.seq (.region [⟨(some 39), none, .faddr 20 (.t 3)⟩, ⟨(some 40), none, .load false 1 (.t 39)⟩, ⟨(some 41), none, .call i_validator_Parse [(.t 40)]⟩, ⟨(some 38), none, .mv (.t 41)⟩, ⟨(some 42), none, .ext 0 (.t 38)⟩, ⟨(some 43), none, .ext 1 (.t 38)⟩, ⟨(some 9), none, .boxz [(.bool false), (.str [])]⟩, ⟨none, none, .store 2 (.t 9) (.t 42)⟩, ⟨(some 10), none, .mv (.t 43)⟩])
  (.seq (.seq (.region [⟨(some 45), none, .mv (.t 7)⟩, ⟨(some 46), none, .call i_validator_Parse [(.t 45)]⟩, ⟨(some 44), none, .mv (.t 46)⟩, ⟨(some 47), none, .ext 0 (.t 44)⟩, ⟨(some 48), none, .ext 1 (.t 44)⟩, ⟨(some 11), none, .boxz [(.bool false), (.str [])]⟩, ⟨none, none, .store 2 (.t 11) (.t 47)⟩, ⟨(some 12), none, .mv (.t 48)⟩])
  (.seq (.region [⟨(some 49), none, .mv (.t 12)⟩])
  (.cond (.t 49)
    (.seq (.region [⟨(some 50), none, .mv (.t 10)⟩, ⟨(some 51), none, .mv (.t 50)⟩, ⟨(some 52), (some (51, true)), .load true 2 (.t 11)⟩, ⟨(some 53), (some (51, true)), .load true 2 (.t 9)⟩, ⟨(some 54), (some (51, true)), .call i_validator_Strong [(.t 52), (.t 53)]⟩, ⟨(some 55), none, .pick (.t 51) (.t 54) (.c (.bool false))⟩, ⟨(some 4), none, .mv (.t 55)⟩])
    .ret)
    .skip)))
  (.seq (.region [⟨(some 57), none, .mv (.t 7)⟩, ⟨(some 58), none, .call i_date_Parse [(.t 57)]⟩, ⟨(some 56), none, .mv (.t 58)⟩, ⟨(some 59), none, .ext 0 (.t 56)⟩, ⟨(some 60), none, .ext 1 (.t 56)⟩, ⟨(some 13), none, .mv (.t 59)⟩, ⟨(some 14), none, .mv (.t 60)⟩])
  (.seq (.region [⟨(some 61), none, .mv (.t 14)⟩, ⟨(some 62), none, .mv (.t 61)⟩, ⟨(some 63), (some (62, true)), .mv (.t 13)⟩, ⟨(some 64), (some (62, true)), .faddr 16 (.t 3)⟩, ⟨(some 65), (some (62, true)), .load false 1 (.t 64)⟩, ⟨(some 66), (some (62, true)), .bin .eql (.t 63) (.t 65)⟩, ⟨(some 67), none, .pick (.t 62) (.t 66) (.c (.bool false))⟩, ⟨(some 4), none, .mv (.t 67)⟩])
  .ret))))))))⟩
/-- gatepost/gatepostref12.Applies -/
def c_gatepostref12_Applies : FnC := ⟨79, [.tmp 4],
  (.seq (.region [⟨(some 2), none, .box (.t 0)⟩, ⟨(some 3), none, .box (.t 1)⟩, ⟨(some 4), none, .mv (.c (.bool false))⟩])
  (.seq (.region [⟨(some 15), none, .faddr 3 (.t 2)⟩, ⟨(some 16), none, .load false 1 (.t 15)⟩, ⟨(some 17), none, .call i_gatepostref04_Get [(.t 16), (.c (.str [114, 97, 110, 103, 101]))]⟩, ⟨(some 14), none, .mv (.t 17)⟩, ⟨(some 18), none, .ext 0 (.t 14)⟩, ⟨(some 19), none, .ext 1 (.t 14)⟩, ⟨(some 5), none, .mv (.t 18)⟩, ⟨(some 6), none, .mv (.t 19)⟩])
  (.seq (.seq (.region [⟨(some 20), none, .faddr 0 (.t 2)⟩, ⟨(some 21), none, .load false 1 (.t 20)⟩, ⟨(some 22), none, .bin .neq (.t 21) (.c (.str [71, 69, 84]))⟩, ⟨(some 23), none, .mv (.t 22)⟩, ⟨(some 24), (some (23, false)), .mv (.t 6)⟩, ⟨(some 25), (some (23, false)), .bin .neq (.t 24) (.c (.int .i64 1))⟩, ⟨(some 26), none, .pick (.t 23) (.c (.bool true)) (.t 25)⟩])
  (.cond (.t 26)
    (.seq (.region [⟨(some 4), none, .mv (.c (.bool false))⟩])
    .ret)
    .skip))
  (.seq (.region [⟨(some 28), none, .faddr 3 (.t 2)⟩, ⟨(some 29), none, .load false 1 (.t 28)⟩, ⟨(some 30), none, .call i_gatepostref04_Get [(.t 29), (.c (.str [105, 102, 45, 114, 97, 110, 103, 101]))]⟩, ⟨(some 27), none, .mv (.t 30)⟩, ⟨(some 31), none, .ext 0 (.t 27)⟩, ⟨(some 32), none, .ext 1 (.t 27)⟩, ⟨(some 7), none, .mv (.t 31)⟩, ⟨(some 8), none, .mv (.t 32)⟩])
  (.seq (.seq (.region [⟨(some 33), none, .mv (.t 8)⟩, ⟨(some 34), none, .bin .neq (.t 33) (.c (.int .i64 1))⟩])
  (.cond (.t 34)
    (.seq (.region [⟨(some 35), none, .mv (.t 8)⟩, ⟨(some 36), none, .bin .eql (.t 35) (.c (.int .i64 0))⟩, ⟨(some 4), none, .mv (.t 36)⟩])
    .ret)
    .skip))
  (.seq (.region [⟨(some 38), none, .mv (.t 7)⟩, ⟨(some 39), none, .call i_gatepostref12_Parse [(.t 38)]⟩, ⟨(some 37), none, .mv (.t 39)⟩, ⟨(some 40), none, .ext 0 (.t 37)⟩, ⟨(some 41), none, .ext 1 (.t 37)⟩, ⟨(some 9), none, .boxz [(.bool false), (.str [])]⟩, ⟨none, none, .store 2 (.t 9) (.t 40)⟩, ⟨(some 10), none, .mv (.t 41)⟩])
  (.seq (.region [⟨(some 43), none, .faddr 20 (.t 3)⟩, ⟨(some 44), none, .load false 1 (.t 43)⟩, ⟨(some 45), none, .call i_gatepostref12_Parse [(.t 44)]⟩, ⟨(some 42), none, .mv (.t 45)⟩, ⟨(some 46), none, .ext 0 (.t 42)⟩, ⟨(some 47), none, .ext 1 (.t 42)⟩, ⟨(some 11), none, .boxz [(.bool false), (.str [])]⟩, ⟨none, none, .store 2 (.t 11) (.t 46)⟩, ⟨(some 12), none, .mv (.t 47)⟩])
  (.seq (.seq (.region [⟨(some 48), none, .mv (.t 10)⟩])
  (.cond (.t 48)
    (.seq (.region [⟨(some 49), none, .mv (.t 12)⟩, ⟨(some 50), none, .mv (.t 49)⟩, ⟨(some 51), (some (50, true)), .faddr 0 (.t 9)⟩, ⟨(some 52), (some (50, true)), .load false 1 (.t 51)⟩, ⟨(some 53), (some (50, true)), .un .not (.t 52)⟩, ⟨(some 54), none, .pick (.t 50) (.t 53) (.c (.bool false))⟩, ⟨(some 55), none, .mv (.t 54)⟩, ⟨(some 56), (some (55, true)), .faddr 0 (.t 11)⟩, ⟨(some 57), (some (55, true)), .load false 1 (.t 56)⟩, ⟨(some 58), (some (55, true)), .un .not (.t 57)⟩, ⟨(some 59), none, .pick (.t 55) (.t 58) (.c (.bool false))⟩, ⟨(some 60), none, .mv (.t 59)⟩, ⟨(some 61), (some (60, true)), .faddr 1 (.t 9)⟩, ⟨(some 62), (some (60, true)), .load false 1 (.t 61)⟩, ⟨(some 63), (some (60, true)), .faddr 1 (.t 11)⟩, ⟨(some 64), (some (60, true)), .load false 1 (.t 63)⟩, ⟨(some 65), (some (60, true)), .bin .eql (.t 62) (.t 64)⟩, ⟨(some 66), none, .pick (.t 60) (.t 65) (.c (.bool false))⟩, ⟨(some 4), none, .mv (.t 66)⟩])
    .ret)
    .skip))
  (.seq (.region [⟨(some 68), none, .mv (.t 7)⟩, ⟨(some 69), none, .call i_gatepostref02_Parse [(.t 68)]⟩, ⟨(some 67), none, .mv (.t 69)⟩, ⟨(some 70), none, .ext 0 (.t 67)⟩, ⟨(some 71), none, .ext 1 (.t 67)⟩, ⟨(some 13), none, .mv (.t 70)⟩, ⟨(some 10), none, .mv (.t 71)⟩])
  (.seq (.region [⟨(some 72), none, .mv (.t 10)⟩, ⟨(some 73), none, .mv (.t 72)⟩, ⟨(some 74), (some (73, true)), .faddr 16 (.t 3)⟩, ⟨(some 75), (some (73, true)), .load false 1 (.t 74)⟩, ⟨(some 76), (some (73, true)), .mv (.t 13)⟩, ⟨(some 77), (some (73, true)), .bin .eql (.t 75) (.t 76)⟩, ⟨(some 78), none, .pick (.t 73) (.t 77) (.c (.bool false))⟩, ⟨(some 4), none, .mv (.t 78)⟩])
  .ret))))))))))⟩
/-- gatepost/gatepostref04.Same -/
def c_gatepostref04_Same : FnC := ⟨41, [.tmp 4],
  (.seq (.region [⟨(some 4), none, .mv (.c (.bool false))⟩])
  (.seq (.seq (.region [⟨(some 6), none, .mv (.t 0)⟩, ⟨(some 7), none, .len 1 (.t 6)⟩, ⟨(some 8), none, .mv (.t 1)⟩, ⟨(some 9), none, .len 1 (.t 8)⟩, ⟨(some 10), none, .bin .neq (.t 7) (.t 9)⟩])
  (.cond (.t 10)
    (.seq (.region [⟨(some 4), none, .mv (.c (.bool false))⟩])
    .ret)
    .skip))
  (.seq (.seq (.region [⟨(some 5), none, .mv (.c (.int .i64 0))⟩])
  (.block 0 (.loop
    (.seq (.seq (.region [⟨(some 11), none, .mv (.t 5)⟩, ⟨(some 12), none, .mv (.t 0)⟩, ⟨(some 13), none, .len 1 (.t 12)⟩, ⟨(some 14), none, .bin .lss (.t 11) (.t 13)⟩])
    (.cond (.t 14)
      .skip
      (.exit 0)))
    (.seq (.block 1 (.seq (.dregion [⟨(some 17), none, .mv (.t 0)⟩, ⟨(some 18), none, .mv (.t 5)⟩, ⟨(some 19), none, .ixaSl 2 (.t 17) (.t 18)⟩, ⟨(some 20), none, .faddr 0 (.t 19)⟩, ⟨(some 21), none, .load false 1 (.t 20)⟩, ⟨(some 22), none, .mv (.t 1)⟩, ⟨(some 23), none, .mv (.t 5)⟩, ⟨(some 24), none, .ixaSl 2 (.t 22) (.t 23)⟩, ⟨(some 25), none, .faddr 0 (.t 24)⟩, ⟨(some 26), none, .load false 1 (.t 25)⟩, ⟨(some 27), none, .bin .neq (.t 21) (.t 26)⟩, ⟨(some 28), none, .mv (.t 27)⟩, ⟨(some 29), (some (28, false)), .mv (.t 0)⟩, ⟨(some 30), (some (28, false)), .mv (.t 5)⟩, ⟨(some 31), (some (28, false)), .ixaSl 2 (.t 29) (.t 30)⟩, ⟨(some 32), (some (28, false)), .faddr 1 (.t 31)⟩, ⟨(some 33), (some (28, false)), .load false 1 (.t 32)⟩, ⟨(some 34), (some (28, false)), .mv (.t 1)⟩, ⟨(some 35), (some (28, false)), .mv (.t 5)⟩, ⟨(some 36), (some (28, false)), .ixaSl 2 (.t 34) (.t 35)⟩, ⟨(some 37), (some (28, false)), .faddr 1 (.t 36)⟩, ⟨(some 38), (some (28, false)), .load false 1 (.t 37)⟩] [⟨(some 39), (some (28, false)), .bin .neq (.t 33) (.t 38)⟩, ⟨(some 40), none, .pick (.t 28) (.c (.bool true)) (.t 39)⟩])
    (.cond (.t 40)
      (.seq (.region [⟨(some 4), none, .mv (.c (.bool false))⟩])
      .ret)
      .skip)))
    (.region [⟨(some 15), none, .mv (.t 5)⟩, ⟨(some 16), none, .bin .add (.t 15) (.c (.int .i64 1))⟩, ⟨(some 5), none, .mv (.t 16)⟩]))))))
  (.seq (.region [⟨(some 4), none, .mv (.c (.bool true))⟩])
  .ret))))⟩
/-- gatepost/validator.Asks -/
def c_validator_Asks : FnC := ⟨35, [.tmp 2],
  (.seq (.region [⟨(some 1), none, .box (.t 0)⟩, ⟨(some 2), none, .mv (.c .nsl)⟩])
  (.seq (.region [⟨(some 3), none, .mv (.c .nsl)⟩])
  (.seq (.seq (.region [⟨(some 7), none, .faddr 20 (.t 1)⟩, ⟨(some 8), none, .load false 1 (.t 7)⟩, ⟨(some 9), none, .call i_validator_Parse [(.t 8)]⟩, ⟨(some 6), none, .mv (.t 9)⟩, ⟨(some 10), none, .ext 0 (.t 6)⟩, ⟨(some 11), none, .ext 1 (.t 6)⟩, ⟨(some 4), none, .boxz [(.bool false), (.str [])]⟩, ⟨none, none, .store 2 (.t 4) (.t 10)⟩, ⟨(some 5), none, .mv (.t 11)⟩])
  (.seq (.region [⟨(some 12), none, .mv (.t 5)⟩])
  (.cond (.t 12)
    (.region [⟨(some 13), none, .mv (.t 3)⟩, ⟨(some 14), none, .faddr 20 (.t 1)⟩, ⟨(some 15), none, .load false 1 (.t 14)⟩, ⟨(some 16), none, .build [(.str []), (.str [])] [(0, 1, (.c (.str [73, 102, 45, 78, 111, 110, 101, 45, 77, 97, 116, 99, 104]))), (1, 1, (.t 15))]⟩, ⟨(some 17), none, .bsl 2 [(.t 16)]⟩, ⟨(some 18), none, .app 2 32 false (.t 13) (.t 17)⟩, ⟨(some 3), none, .mv (.t 18)⟩])
    .skip)))
  (.seq (.seq (.region [⟨(some 19), none, .faddr 16 (.t 1)⟩, ⟨(some 20), none, .load false 1 (.t 19)⟩, ⟨(some 21), none, .bin .geq (.t 20) (.c (.int .i64 0))⟩, ⟨(some 22), none, .mv (.t 21)⟩, ⟨(some 23), (some (22, true)), .faddr 16 (.t 1)⟩, ⟨(some 24), (some (22, true)), .load false 1 (.t 23)⟩, ⟨(some 25), (some (22, true)), .bin .lss (.t 24) (.c (.int .i64 253402300800))⟩, ⟨(some 26), none, .pick (.t 22) (.t 25) (.c (.bool false))⟩])
  (.cond (.t 26)
    (.region [⟨(some 27), none, .mv (.t 3)⟩, ⟨(some 28), none, .faddr 16 (.t 1)⟩, ⟨(some 29), none, .load false 1 (.t 28)⟩, ⟨(some 30), none, .call i_date_Format [(.t 29)]⟩, ⟨(some 31), none, .build [(.str []), (.str [])] [(0, 1, (.c (.str [73, 102, 45, 77, 111, 100, 105, 102, 105, 101, 100, 45, 83, 105, 110, 99, 101]))), (1, 1, (.t 30))]⟩, ⟨(some 32), none, .bsl 2 [(.t 31)]⟩, ⟨(some 33), none, .app 2 32 false (.t 27) (.t 32)⟩, ⟨(some 3), none, .mv (.t 33)⟩])
    .skip))
  (.seq (.region [⟨(some 34), none, .mv (.t 3)⟩, ⟨(some 2), none, .mv (.t 34)⟩])
  .ret)))))⟩
/-- gatepost/gatepostref12.Asks -/
def c_gatepostref12_Asks : FnC := ⟨35, [.tmp 2],
  (.seq (.region [⟨(some 1), none, .box (.t 0)⟩, ⟨(some 2), none, .mv (.c .nsl)⟩])
  (.seq (.region [⟨(some 3), none, .mv (.c .nsl)⟩])
  (.seq (.region [⟨(some 7), none, .faddr 20 (.t 1)⟩, ⟨(some 8), none, .load false 1 (.t 7)⟩, ⟨(some 9), none, .call i_gatepostref12_Parse [(.t 8)]⟩, ⟨(some 6), none, .mv (.t 9)⟩, ⟨(some 10), none, .ext 0 (.t 6)⟩, ⟨(some 11), none, .ext 1 (.t 6)⟩, ⟨(some 4), none, .boxz [(.bool false), (.str [])]⟩, ⟨none, none, .store 2 (.t 4) (.t 10)⟩, ⟨(some 5), none, .mv (.t 11)⟩])
  (.seq (.seq (.region [⟨(some 12), none, .mv (.t 5)⟩])
  (.cond (.t 12)
    (.region [⟨(some 13), none, .mv (.t 3)⟩, ⟨(some 14), none, .faddr 20 (.t 1)⟩, ⟨(some 15), none, .load false 1 (.t 14)⟩, ⟨(some 16), none, .build [(.str []), (.str [])] [(0, 1, (.c (.str [73, 102, 45, 78, 111, 110, 101, 45, 77, 97, 116, 99, 104]))), (1, 1, (.t 15))]⟩, ⟨(some 17), none, .bsl 2 [(.t 16)]⟩, ⟨(some 18), none, .app 2 32 false (.t 13) (.t 17)⟩, ⟨(some 3), none, .mv (.t 18)⟩])
    .skip))
  (.seq (.seq (.region [⟨(some 19), none, .faddr 16 (.t 1)⟩, ⟨(some 20), none, .load false 1 (.t 19)⟩, ⟨(some 21), none, .bin .geq (.t 20) (.c (.int .i64 0))⟩, ⟨(some 22), none, .mv (.t 21)⟩, ⟨(some 23), (some (22, true)), .faddr 16 (.t 1)⟩, ⟨(some 24), (some (22, true)), .load false 1 (.t 23)⟩, ⟨(some 25), (some (22, true)), .bin .lss (.t 24) (.c (.int .i64 253402300800))⟩, ⟨(some 26), none, .pick (.t 22) (.t 25) (.c (.bool false))⟩])
  (.cond (.t 26)
    (.region [⟨(some 27), none, .mv (.t 3)⟩, ⟨(some 28), none, .faddr 16 (.t 1)⟩, ⟨(some 29), none, .load false 1 (.t 28)⟩, ⟨(some 30), none, .call i_gatepostref02_Format [(.t 29)]⟩, ⟨(some 31), none, .build [(.str []), (.str [])] [(0, 1, (.c (.str [73, 102, 45, 77, 111, 100, 105, 102, 105, 101, 100, 45, 83, 105, 110, 99, 101]))), (1, 1, (.t 30))]⟩, ⟨(some 32), none, .bsl 2 [(.t 31)]⟩, ⟨(some 33), none, .app 2 32 false (.t 27) (.t 32)⟩, ⟨(some 3), none, .mv (.t 33)⟩])
    .skip))
  (.seq (.region [⟨(some 34), none, .mv (.t 3)⟩, ⟨(some 2), none, .mv (.t 34)⟩])
  .ret))))))⟩
/-- gatepost/field.Get -/
def c_field_Get : FnC := ⟨29, [.tmp 4, .tmp 5],
  (.seq (.region [⟨(some 4), none, .mv (.c (.str []))⟩, ⟨(some 5), none, .mv (.c (.int .i64 0))⟩])
  (.seq (.region [⟨(some 6), none, .mv (.c .nsl)⟩])
  (.seq (.seq (.region [⟨(some 9), none, .mv (.t 0)⟩, ⟨(some 10), none, .len 1 (.t 9)⟩, ⟨(some 11), none, .mv (.c (.int .i64 0))⟩])
  (.block 0 (.loop
    (.seq (.region [⟨(some 12), none, .bin .lss (.t 11) (.t 10)⟩])
    (.seq (.cond (.t 12)
      .skip
      (.exit 0))
    (.seq (.block 1 (.seq (.region [⟨(some 13), none, .ixaSl 2 (.t 9) (.t 11)⟩, ⟨(some 14), none, .load true 2 (.t 13)⟩, ⟨(some 8), none, .boxz [(.str []), (.str [])]⟩, ⟨none, none, .store 2 (.t 8) (.t 14)⟩])
    (.seq (.region [⟨(some 15), none, .faddr 0 (.t 8)⟩, ⟨(some 16), none, .load false 1 (.t 15)⟩, ⟨(some 17), none, .mv (.t 1)⟩, ⟨(some 18), none, .call i_token_Same [(.t 16), (.t 17)]⟩])
    (.cond (.t 18)
      (.region [⟨(some 19), none, .mv (.t 6)⟩, ⟨(some 20), none, .faddr 1 (.t 8)⟩, ⟨(some 21), none, .load false 1 (.t 20)⟩, ⟨(some 22), none, .bsl 1 [(.t 21)]⟩, ⟨(some 23), none, .app 1 16 false (.t 19) (.t 22)⟩, ⟨(some 6), none, .mv (.t 23)⟩])
      .skip))))
    (.region [⟨(some 24), none, .bin .add (.t 11) (.c (.int .i64 1))⟩, ⟨(some 11), none, .mv (.t 24)⟩])))))))
  (.seq (.region [⟨(some 25), none, .mv (.t 6)⟩, ⟨(some 26), none, .call i_strings_Join [(.t 25), (.c (.str [44, 32]))]⟩, ⟨(some 27), none, .mv (.t 6)⟩, ⟨(some 28), none, .len 1 (.t 27)⟩, ⟨(some 4), none, .mv (.t 26)⟩, ⟨(some 5), none, .mv (.t 28)⟩])
  .ret))))⟩
/-- gatepost/validator.matches -/
def c_validator_matches : FnC := ⟨30, [.tmp 4],
  (.seq (.region [⟨(some 4), none, .mv (.c (.bool false))⟩])
  (.seq (.seq (.region [⟨(some 9), none, .mv (.t 0)⟩, ⟨(some 10), none, .bin .eql (.t 9) (.c (.str [42]))⟩])
  (.cond (.t 10)
    (.seq (.region [⟨(some 4), none, .mv (.c (.bool true))⟩])
    .ret)
    .skip))
  (.seq (.region [⟨(some 12), none, .mv (.t 1)⟩, ⟨(some 13), none, .call i_validator_Parse [(.t 12)]⟩, ⟨(some 11), none, .mv (.t 13)⟩, ⟨(some 14), none, .ext 0 (.t 11)⟩, ⟨(some 15), none, .ext 1 (.t 11)⟩, ⟨(some 5), none, .boxz [(.bool false), (.str [])]⟩, ⟨none, none, .store 2 (.t 5) (.t 14)⟩, ⟨(some 6), none, .mv (.t 15)⟩])
  (.seq (.region [⟨(some 17), none, .mv (.t 0)⟩, ⟨(some 18), none, .call i_token_Split [(.t 17)]⟩, ⟨(some 16), none, .mv (.t 18)⟩, ⟨(some 19), none, .ext 0 (.t 16)⟩, ⟨(some 20), none, .ext 1 (.t 16)⟩, ⟨(some 7), none, .mv (.t 19)⟩, ⟨(some 8), none, .mv (.t 20)⟩])
  (.seq (.region [⟨(some 21), none, .mv (.t 6)⟩, ⟨(some 22), none, .mv (.t 21)⟩, ⟨(some 23), (some (22, true)), .mv (.t 8)⟩, ⟨(some 24), none, .pick (.t 22) (.t 23) (.c (.bool false))⟩, ⟨(some 25), none, .mv (.t 24)⟩, ⟨(some 26), (some (25, true)), .mv (.t 7)⟩, ⟨(some 27), (some (25, true)), .mkfn i_validator_matches_1 [(.t 5)]⟩, ⟨(some 28), (some (25, true)), .call i_slices_ContainsFunc___string_string_ [(.t 26), (.t 27)]⟩, ⟨(some 29), none, .pick (.t 25) (.t 28) (.c (.bool false))⟩, ⟨(some 4), none, .mv (.t 29)⟩])
  .ret)))))⟩
/-- gatepost/validator.one -/
def c_validator_one : FnC := ⟨17, [.tmp 4, .tmp 5],
  (.seq (.region [⟨(some 4), none, .mv (.c (.str []))⟩, ⟨(some 5), none, .mv (.c (.bool false))⟩])
  (.seq (.region [⟨(some 9), none, .mv (.t 0)⟩, ⟨(some 10), none, .mv (.t 1)⟩, ⟨(some 11), none, .call i_field_Get [(.t 9), (.t 10)]⟩, ⟨(some 8), none, .mv (.t 11)⟩, ⟨(some 12), none, .ext 0 (.t 8)⟩, ⟨(some 13), none, .ext 1 (.t 8)⟩, ⟨(some 6), none, .mv (.t 12)⟩, ⟨(some 7), none, .mv (.t 13)⟩])
  (.seq (.region [⟨(some 14), none, .mv (.t 6)⟩, ⟨(some 15), none, .mv (.t 7)⟩, ⟨(some 16), none, .bin .eql (.t 15) (.c (.int .i64 1))⟩, ⟨(some 4), none, .mv (.t 14)⟩, ⟨(some 5), none, .mv (.t 16)⟩])
  .ret)))⟩
/-- gatepost/date.Parse -/
def c_date_Parse : FnC := ⟨23, [.tmp 2, .tmp 3],
  (.seq (.region [⟨(some 2), none, .mv (.c (.int .i64 0))⟩, ⟨(some 3), none, .mv (.c (.bool false))⟩])
  (.seq (.seq (.region [⟨(some 8), none, .build [.nfn, .nfn, .nfn] [(0, 1, (.c (.fn i_date_fixed []))), (1, 1, (.c (.fn i_date_old []))), (2, 1, (.c (.fn i_date_plain [])))]⟩, ⟨(some 9), none, .mv (.c (.int .i64 0))⟩])
  (.block 0 (.loop
    (.seq (.region [⟨(some 10), none, .bin .lss (.t 9) (.c (.int .i64 3))⟩])
    (.seq (.cond (.t 10)
      .skip
      (.exit 0))
    (.seq (.block 1 (.seq (.region [⟨(some 11), none, .ixArr 3 1 false (.t 8) (.t 9)⟩, ⟨(some 5), none, .mv (.t 11)⟩])
    (.seq (.region [⟨(some 13), none, .mv (.t 5)⟩, ⟨(some 14), none, .mv (.t 0)⟩, ⟨(some 15), none, .build [(.str []), (.bool false)] [(0, 1, (.t 14)), (1, 1, (.c (.bool true)))]⟩, ⟨(some 16), none, .box (.t 15)⟩, ⟨(some 17), none, .callv (.t 13) [(.t 16)]⟩, ⟨(some 12), none, .mv (.t 17)⟩, ⟨(some 18), none, .ext 0 (.t 12)⟩, ⟨(some 19), none, .ext 1 (.t 12)⟩, ⟨(some 6), none, .mv (.t 18)⟩, ⟨(some 7), none, .mv (.t 19)⟩])
    (.seq (.region [⟨(some 20), none, .mv (.t 7)⟩])
    (.cond (.t 20)
      (.seq (.region [⟨(some 21), none, .mv (.t 6)⟩, ⟨(some 2), none, .mv (.t 21)⟩, ⟨(some 3), none, .mv (.c (.bool true))⟩])
      .ret)
      .skip)))))
    (.region [⟨(some 22), none, .bin .add (.t 9) (.c (.int .i64 1))⟩, ⟨(some 9), none, .mv (.t 22)⟩])))))))
  (.seq (.region [⟨(some 2), none, .mv (.c (.int .i64 0))⟩, ⟨(some 3), none, .mv (.c (.bool false))⟩])
  .ret)))⟩
/-- gatepost/gatepostref04.Get -/
def c_gatepostref04_Get : FnC := ⟨37, [.tmp 4, .tmp 5],
  (.seq (.region [⟨(some 4), none, .mv (.c (.str []))⟩, ⟨(some 5), none, .mv (.c (.int .i64 0))⟩])
  (.seq (.region [⟨(some 6), none, .mv (.c (.str []))⟩])
  (.seq (.region [⟨(some 7), none, .mv (.c (.int .i64 0))⟩])
  (.seq (.seq (.region [⟨(some 8), none, .mv (.c (.int .i64 0))⟩])
  (.block 0 (.loop
    (.seq (.seq (.region [⟨(some 9), none, .mv (.t 8)⟩, ⟨(some 10), none, .mv (.t 0)⟩, ⟨(some 11), none, .len 1 (.t 10)⟩, ⟨(some 12), none, .bin .lss (.t 9) (.t 11)⟩])
    (.cond (.t 12)
      .skip
      (.exit 0)))
    (.seq (.block 1 (.seq (.region [⟨(some 15), none, .mv (.t 0)⟩, ⟨(some 16), none, .mv (.t 8)⟩, ⟨(some 17), none, .ixaSl 2 (.t 15) (.t 16)⟩, ⟨(some 18), none, .faddr 0 (.t 17)⟩, ⟨(some 19), none, .load false 1 (.t 18)⟩, ⟨(some 20), none, .mv (.t 1)⟩, ⟨(some 21), none, .call i_gatepostref01_Same [(.t 19), (.t 20)]⟩])
    (.cond (.t 21)
      (.seq (.seq (.region [⟨(some 22), none, .mv (.t 7)⟩, ⟨(some 23), none, .bin .gtr (.t 22) (.c (.int .i64 0))⟩])
      (.cond (.t 23)
        (.region [⟨(some 24), none, .mv (.t 6)⟩, ⟨(some 25), none, .bin .add (.t 24) (.c (.str [44, 32]))⟩, ⟨(some 6), none, .mv (.t 25)⟩])
        .skip))
      (.seq (.region [⟨(some 26), none, .mv (.t 6)⟩, ⟨(some 27), none, .mv (.t 0)⟩, ⟨(some 28), none, .mv (.t 8)⟩, ⟨(some 29), none, .ixaSl 2 (.t 27) (.t 28)⟩, ⟨(some 30), none, .faddr 1 (.t 29)⟩, ⟨(some 31), none, .load false 1 (.t 30)⟩, ⟨(some 32), none, .bin .add (.t 26) (.t 31)⟩, ⟨(some 6), none, .mv (.t 32)⟩])
      (.region [⟨(some 33), none, .mv (.t 7)⟩, ⟨(some 34), none, .bin .add (.t 33) (.c (.int .i64 1))⟩, ⟨(some 7), none, .mv (.t 34)⟩])))
      .skip)))
    (.region [⟨(some 13), none, .mv (.t 8)⟩, ⟨(some 14), none, .bin .add (.t 13) (.c (.int .i64 1))⟩, ⟨(some 8), none, .mv (.t 14)⟩]))))))
  (.seq (.region [⟨(some 35), none, .mv (.t 6)⟩, ⟨(some 36), none, .mv (.t 7)⟩, ⟨(some 4), none, .mv (.t 35)⟩, ⟨(some 5), none, .mv (.t 36)⟩])
  .ret)))))⟩
/-- gatepost/gatepostref12.Parse -/
def c_gatepostref12_Parse : FnC := ⟨77, [.cell 2 true 2, .tmp 3],
  (.seq (.region [⟨(some 2), none, .boxz [(.bool false), (.str [])]⟩, ⟨(some 3), none, .mv (.c (.bool false))⟩])
  (.seq (.region [⟨(some 6), none, .build [(.bool false), (.str [])] []⟩, ⟨(some 4), none, .boxz [(.bool false), (.str [])]⟩, ⟨none, none, .store 2 (.t 4) (.t 6)⟩])
  (.seq (.seq (.region [⟨(some 7), none, .mv (.t 0)⟩, ⟨(some 8), none, .len 0 (.t 7)⟩, ⟨(some 9), none, .bin .gtr (.t 8) (.c (.int .i64 2))⟩, ⟨(some 10), none, .mv (.t 9)⟩, ⟨(some 11), (some (10, true)), .mv (.t 0)⟩, ⟨(some 12), (some (10, true)), .ixStr (.t 11) (.c (.int .i64 0))⟩, ⟨(some 13), (some (10, true)), .bin .eql (.t 12) (.c (.int .u8 87))⟩, ⟨(some 14), none, .pick (.t 10) (.t 13) (.c (.bool false))⟩, ⟨(some 15), none, .mv (.t 14)⟩, ⟨(some 16), (some (15, true)), .mv (.t 0)⟩, ⟨(some 17), (some (15, true)), .ixStr (.t 16) (.c (.int .i64 1))⟩, ⟨(some 18), (some (15, true)), .bin .eql (.t 17) (.c (.int .u8 47))⟩, ⟨(some 19), none, .pick (.t 15) (.t 18) (.c (.bool false))⟩])
  (.cond (.t 19)
    (.seq (.region [⟨(some 20), none, .faddr 0 (.t 4)⟩, ⟨none, none, .store 1 (.t 20) (.c (.bool true))⟩])
    (.region [⟨(some 21), none, .mv (.t 0)⟩, ⟨(some 22), none, .slstr (.t 21) (some (.c (.int .i64 2))) none⟩, ⟨(some 0), none, .mv (.t 22)⟩]))
    .skip))
  (.seq (.seq (.region [⟨(some 23), none, .mv (.t 0)⟩, ⟨(some 24), none, .len 0 (.t 23)⟩, ⟨(some 25), none, .bin .lss (.t 24) (.c (.int .i64 2))⟩, ⟨(some 26), none, .mv (.t 25)⟩, ⟨(some 27), (some (26, false)), .mv (.t 0)⟩, ⟨(some 28), (some (26, false)), .ixStr (.t 27) (.c (.int .i64 0))⟩, ⟨(some 29), (some (26, false)), .bin .neq (.t 28) (.c (.int .u8 34))⟩, ⟨(some 30), none, .pick (.t 26) (.c (.bool true)) (.t 29)⟩, ⟨(some 31), none, .mv (.t 30)⟩, ⟨(some 32), (some (31, false)), .mv (.t 0)⟩, ⟨(some 33), (some (31, false)), .mv (.t 0)⟩, ⟨(some 34), (some (31, false)), .len 0 (.t 33)⟩, ⟨(some 35), (some (31, false)), .bin .sub (.t 34) (.c (.int .i64 1))⟩, ⟨(some 36), (some (31, false)), .ixStr (.t 32) (.t 35)⟩, ⟨(some 37), (some (31, false)), .bin .neq (.t 36) (.c (.int .u8 34))⟩, ⟨(some 38), none, .pick (.t 31) (.c (.bool true)) (.t 37)⟩])
  (.cond (.t 38)
    (.seq (.region [⟨(some 39), none, .build [(.bool false), (.str [])] []⟩, ⟨none, none, .store 2 (.t 2) (.t 39)⟩, ⟨(some 3), none, .mv (.c (.bool false))⟩])
    .ret)
    .skip))
  (.seq (.seq (.region [⟨(some 5), none, .mv (.c (.int .i64 1))⟩])
  (.block 0 (.loop
    (.seq (.seq (.region [⟨(some 40), none, .mv (.t 5)⟩, ⟨(some 41), none, .mv (.t 0)⟩, ⟨(some 42), none, .len 0 (.t 41)⟩, ⟨(some 43), none, .bin .sub (.t 42) (.c (.int .i64 1))⟩, ⟨(some 44), none, .bin .lss (.t 40) (.t 43)⟩])
    (.cond (.t 44)
      .skip
      (.exit 0)))
    (.seq (.block 1 (.seq (.region [⟨(some 47), none, .mv (.t 0)⟩, ⟨(some 48), none, .mv (.t 5)⟩, ⟨(some 49), none, .ixStr (.t 47) (.t 48)⟩, ⟨(some 50), none, .bin .lss (.t 49) (.c (.int .u8 33))⟩, ⟨(some 51), none, .mv (.t 50)⟩, ⟨(some 52), (some (51, false)), .mv (.t 0)⟩, ⟨(some 53), (some (51, false)), .mv (.t 5)⟩, ⟨(some 54), (some (51, false)), .ixStr (.t 52) (.t 53)⟩, ⟨(some 55), (some (51, false)), .bin .eql (.t 54) (.c (.int .u8 34))⟩, ⟨(some 56), none, .pick (.t 51) (.c (.bool true)) (.t 55)⟩, ⟨(some 57), none, .mv (.t 56)⟩, ⟨(some 58), (some (57, false)), .mv (.t 0)⟩, ⟨(some 59), (some (57, false)), .mv (.t 5)⟩, ⟨(some 60), (some (57, false)), .ixStr (.t 58) (.t 59)⟩, ⟨(some 61), (some (57, false)), .bin .eql (.t 60) (.c (.int .u8 92))⟩, ⟨(some 62), none, .pick (.t 57) (.c (.bool true)) (.t 61)⟩, ⟨(some 63), none, .mv (.t 62)⟩, ⟨(some 64), (some (63, false)), .mv (.t 0)⟩, ⟨(some 65), (some (63, false)), .mv (.t 5)⟩, ⟨(some 66), (some (63, false)), .ixStr (.t 64) (.t 65)⟩, ⟨(some 67), (some (63, false)), .bin .eql (.t 66) (.c (.int .u8 127))⟩, ⟨(some 68), none, .pick (.t 63) (.c (.bool true)) (.t 67)⟩])
    (.cond (.t 68)
      (.seq (.region [⟨(some 69), none, .build [(.bool false), (.str [])] []⟩, ⟨none, none, .store 2 (.t 2) (.t 69)⟩, ⟨(some 3), none, .mv (.c (.bool false))⟩])
      .ret)
      .skip)))
    (.region [⟨(some 45), none, .mv (.t 5)⟩, ⟨(some 46), none, .bin .add (.t 45) (.c (.int .i64 1))⟩, ⟨(some 5), none, .mv (.t 46)⟩]))))))
  (.seq (.region [⟨(some 70), none, .mv (.t 0)⟩, ⟨(some 71), none, .mv (.t 0)⟩, ⟨(some 72), none, .len 0 (.t 71)⟩, ⟨(some 73), none, .bin .sub (.t 72) (.c (.int .i64 1))⟩, ⟨(some 74), none, .slstr (.t 70) (some (.c (.int .i64 1))) (some (.t 73))⟩, ⟨(some 75), none, .faddr 1 (.t 4)⟩, ⟨none, none, .store 1 (.t 75) (.t 74)⟩])
  (.seq (.region [⟨(some 76), none, .load true 2 (.t 4)⟩, ⟨none, none, .store 2 (.t 2) (.t 76)⟩, ⟨(some 3), none, .mv (.c (.bool true))⟩])
  .ret)))))))⟩
/-- gatepost/gatepostref01.Split -/
def c_gatepostref01_Split : FnC := ⟨74, [.tmp 2, .tmp 3],
  (.seq (.region [⟨(some 2), none, .mv (.c .nsl)⟩, ⟨(some 3), none, .mv (.c (.bool false))⟩])
  (.seq (.region [⟨(some 4), none, .mv (.c .nsl)⟩])
  (.seq (.region [⟨(some 5), none, .mv (.c (.str []))⟩])
  (.seq (.region [⟨(some 6), none, .mv (.c (.bool false))⟩])
  (.seq (.seq (.region [⟨(some 7), none, .mv (.c (.int .i64 0))⟩])
  (.block 0 (.loop
    (.seq (.seq (.region [⟨(some 9), none, .mv (.t 7)⟩, ⟨(some 10), none, .mv (.t 0)⟩, ⟨(some 11), none, .len 0 (.t 10)⟩, ⟨(some 12), none, .bin .lss (.t 9) (.t 11)⟩])
    (.cond (.t 12)
      .skip
      (.exit 0)))
    (.seq (.block 1 (.seq (.region [⟨(some 15), none, .mv (.t 0)⟩, ⟨(some 16), none, .mv (.t 7)⟩, ⟨(some 17), none, .ixStr (.t 15) (.t 16)⟩, ⟨(some 8), none, .mv (.t 17)⟩])
    (.seq (.seq (.region [⟨(some 18), none, .mv (.t 6)⟩, ⟨(some 19), none, .un .not (.t 18)⟩, ⟨(some 20), none, .mv (.t 19)⟩, ⟨(some 21), (some (20, true)), .mv (.t 8)⟩, ⟨(some 22), (some (20, true)), .bin .eql (.t 21) (.c (.int .u8 44))⟩, ⟨(some 23), none, .pick (.t 20) (.t 22) (.c (.bool false))⟩])
    (.cond (.t 23)
      (.seq (.region [⟨(some 24), none, .mv (.t 5)⟩, ⟨(some 25), none, .call i_gatepostref01_Trim [(.t 24)]⟩, ⟨(some 5), none, .mv (.t 25)⟩])
      (.seq (.seq (.region [⟨(some 26), none, .mv (.t 5)⟩, ⟨(some 27), none, .bin .neq (.t 26) (.c (.str []))⟩])
      (.cond (.t 27)
        (.region [⟨(some 28), none, .mv (.t 4)⟩, ⟨(some 29), none, .mv (.t 5)⟩, ⟨(some 30), none, .bsl 1 [(.t 29)]⟩, ⟨(some 31), none, .app 1 16 false (.t 28) (.t 30)⟩, ⟨(some 4), none, .mv (.t 31)⟩])
        .skip))
      (.seq (.region [⟨(some 5), none, .mv (.c (.str []))⟩])
      (.exit 1))))
      .skip))
    (.seq (.region [⟨(some 32), none, .mv (.t 5)⟩, ⟨(some 33), none, .mv (.t 0)⟩, ⟨(some 34), none, .mv (.t 7)⟩, ⟨(some 35), none, .mv (.t 7)⟩, ⟨(some 36), none, .bin .add (.t 35) (.c (.int .i64 1))⟩, ⟨(some 37), none, .slstr (.t 33) (some (.t 34)) (some (.t 36))⟩, ⟨(some 38), none, .bin .add (.t 32) (.t 37)⟩, ⟨(some 5), none, .mv (.t 38)⟩])
    (.seq (.seq (.region [⟨(some 39), none, .mv (.t 8)⟩, ⟨(some 40), none, .bin .eql (.t 39) (.c (.int .u8 34))⟩])
    (.cond (.t 40)
      (.region [⟨(some 41), none, .mv (.t 6)⟩, ⟨(some 42), none, .un .not (.t 41)⟩, ⟨(some 6), none, .mv (.t 42)⟩])
      .skip))
    (.seq (.region [⟨(some 43), none, .mv (.t 6)⟩, ⟨(some 44), none, .mv (.t 43)⟩, ⟨(some 45), (some (44, true)), .mv (.t 8)⟩, ⟨(some 46), (some (44, true)), .bin .eql (.t 45) (.c (.int .u8 92))⟩, ⟨(some 47), none, .pick (.t 44) (.t 46) (.c (.bool false))⟩, ⟨(some 48), none, .mv (.t 47)⟩, ⟨(some 49), (some (48, true)), .mv (.t 7)⟩, ⟨(some 50), (some (48, true)), .bin .add (.t 49) (.c (.int .i64 1))⟩, ⟨(some 51), (some (48, true)), .mv (.t 0)⟩, ⟨(some 52), (some (48, true)), .len 0 (.t 51)⟩, ⟨(some 53), (some (48, true)), .bin .lss (.t 50) (.t 52)⟩, ⟨(some 54), none, .pick (.t 48) (.t 53) (.c (.bool false))⟩])
    (.cond (.t 54)
      (.seq (.region [⟨(some 55), none, .mv (.t 7)⟩, ⟨(some 56), none, .bin .add (.t 55) (.c (.int .i64 1))⟩, ⟨(some 7), none, .mv (.t 56)⟩])
      (.region [⟨(some 57), none, .mv (.t 5)⟩, ⟨(some 58), none, .mv (.t 0)⟩, ⟨(some 59), none, .mv (.t 7)⟩, ⟨(some 60), none, .mv (.t 7)⟩, ⟨(some 61), none, .bin .add (.t 60) (.c (.int .i64 1))⟩, ⟨(some 62), none, .slstr (.t 58) (some (.t 59)) (some (.t 61))⟩, ⟨(some 63), none, .bin .add (.t 57) (.t 62)⟩, ⟨(some 5), none, .mv (.t 63)⟩]))
      .skip)))))))
    (.region [⟨(some 13), none, .mv (.t 7)⟩, ⟨(some 14), none, .bin .add (.t 13) (.c (.int .i64 1))⟩, ⟨(some 7), none, .mv (.t 14)⟩]))))))
  (.seq (.region [⟨(some 64), none, .mv (.t 5)⟩, ⟨(some 65), none, .call i_gatepostref01_Trim [(.t 64)]⟩, ⟨(some 5), none, .mv (.t 65)⟩])
  (.seq (.seq (.region [⟨(some 66), none, .mv (.t 6)⟩])
  (.cond (.t 66)
    (.seq (.region [⟨(some 2), none, .mv (.c .nsl)⟩, ⟨(some 3), none, .mv (.c (.bool false))⟩])
    .ret)
    .skip))
  (.seq (.seq (.region [⟨(some 67), none, .mv (.t 5)⟩, ⟨(some 68), none, .bin .neq (.t 67) (.c (.str []))⟩])
  (.cond (.t 68)
    (.region [⟨(some 69), none, .mv (.t 4)⟩, ⟨(some 70), none, .mv (.t 5)⟩, ⟨(some 71), none, .bsl 1 [(.t 70)]⟩, ⟨(some 72), none, .app 1 16 false (.t 69) (.t 71)⟩, ⟨(some 4), none, .mv (.t 72)⟩])
    .skip))
  (.seq (.region [⟨(some 73), none, .mv (.t 4)⟩, ⟨(some 2), none, .mv (.t 73)⟩, ⟨(some 3), none, .mv (.c (.bool true))⟩])
  .ret)))))))))⟩
/-- gatepost/gatepostref02.Parse -/
def c_gatepostref02_Parse : FnC := ⟨187, [.tmp 2, .tmp 3],
  (.seq (.region [⟨(some 2), none, .mv (.c (.int .i64 0))⟩, ⟨(some 3), none, .mv (.c (.bool false))⟩])
  (.seq (.seq (.region [⟨(some 10), none, .mv (.t 0)⟩, ⟨(some 11), none, .len 0 (.t 10)⟩, ⟨(some 12), none, .bin .eql (.t 11) (.c (.int .i64 29))⟩, ⟨(some 13), none, .mv (.t 12)⟩, ⟨(some 14), (some (13, true)), .mv (.t 0)⟩, ⟨(some 15), (some (13, true)), .slstr (.t 14) (some (.c (.int .i64 3))) (some (.c (.int .i64 5)))⟩, ⟨(some 16), (some (13, true)), .bin .eql (.t 15) (.c (.str [44, 32]))⟩, ⟨(some 17), none, .pick (.t 13) (.t 16) (.c (.bool false))⟩, ⟨(some 18), none, .mv (.t 17)⟩, ⟨(some 19), (some (18, true)), .mv (.t 0)⟩, ⟨(some 20), (some (18, true)), .ixStr (.t 19) (.c (.int .i64 7))⟩, ⟨(some 21), (some (18, true)), .bin .eql (.t 20) (.c (.int .u8 32))⟩, ⟨(some 22), none, .pick (.t 18) (.t 21) (.c (.bool false))⟩, ⟨(some 23), none, .mv (.t 22)⟩, ⟨(some 24), (some (23, true)), .mv (.t 0)⟩, ⟨(some 25), (some (23, true)), .ixStr (.t 24) (.c (.int .i64 11))⟩, ⟨(some 26), (some (23, true)), .bin .eql (.t 25) (.c (.int .u8 32))⟩, ⟨(some 27), none, .pick (.t 23) (.t 26) (.c (.bool false))⟩, ⟨(some 28), none, .mv (.t 27)⟩, ⟨(some 29), (some (28, true)), .mv (.t 0)⟩, ⟨(some 30), (some (28, true)), .ixStr (.t 29) (.c (.int .i64 16))⟩, ⟨(some 31), (some (28, true)), .bin .eql (.t 30) (.c (.int .u8 32))⟩, ⟨(some 32), none, .pick (.t 28) (.t 31) (.c (.bool false))⟩, ⟨(some 33), none, .mv (.t 32)⟩, ⟨(some 34), (some (33, true)), .mv (.t 0)⟩, ⟨(some 35), (some (33, true)), .slstr (.t 34) (some (.c (.int .i64 25))) none⟩, ⟨(some 36), (some (33, true)), .bin .eql (.t 35) (.c (.str [32, 71, 77, 84]))⟩, ⟨(some 37), none, .pick (.t 33) (.t 36) (.c (.bool false))⟩])
  (.cond (.t 37)
    (.seq (.dregion [⟨(some 38), none, .call i_gatepostref02_short []⟩, ⟨(some 39), none, .mv (.t 0)⟩, ⟨(some 40), none, .slstr (.t 39) none (some (.c (.int .i64 3)))⟩, ⟨(some 41), none, .call i_gatepostref02_find [(.t 38), (.t 40)]⟩, ⟨(some 42), none, .mv (.t 0)⟩, ⟨(some 43), none, .slstr (.t 42) (some (.c (.int .i64 12))) (some (.c (.int .i64 16)))⟩, ⟨(some 44), none, .call i_gatepostref02_number [(.t 43)]⟩, ⟨(some 45), none, .call i_gatepostref02_months []⟩, ⟨(some 46), none, .mv (.t 0)⟩, ⟨(some 47), none, .slstr (.t 46) (some (.c (.int .i64 8))) (some (.c (.int .i64 11)))⟩, ⟨(some 48), none, .call i_gatepostref02_find [(.t 45), (.t 47)]⟩, ⟨(some 49), none, .bin .add (.t 48) (.c (.int .i64 1))⟩, ⟨(some 50), none, .mv (.t 0)⟩, ⟨(some 51), none, .slstr (.t 50) (some (.c (.int .i64 5))) (some (.c (.int .i64 7)))⟩, ⟨(some 52), none, .call i_gatepostref02_number [(.t 51)]⟩, ⟨(some 53), none, .mv (.t 0)⟩, ⟨(some 54), none, .slstr (.t 53) (some (.c (.int .i64 17))) (some (.c (.int .i64 25)))⟩, ⟨(some 55), none, .call i_gatepostref02_clock [(.t 54)]⟩, ⟨(some 56), none, .call i_gatepostref02_second [(.t 41), (.t 44), (.t 49), (.t 52), (.t 55)]⟩, ⟨(some 57), none, .ext 0 (.t 56)⟩, ⟨(some 58), none, .ext 1 (.t 56)⟩] [⟨(some 2), none, .mv (.t 57)⟩, ⟨(some 3), none, .mv (.t 58)⟩])
    .ret)
    .skip))
  (.seq (.seq (.region [⟨(some 59), none, .mv (.t 0)⟩, ⟨(some 60), none, .len 0 (.t 59)⟩, ⟨(some 61), none, .bin .eql (.t 60) (.c (.int .i64 24))⟩, ⟨(some 62), none, .mv (.t 61)⟩, ⟨(some 63), (some (62, true)), .mv (.t 0)⟩, ⟨(some 64), (some (62, true)), .ixStr (.t 63) (.c (.int .i64 3))⟩, ⟨(some 65), (some (62, true)), .bin .eql (.t 64) (.c (.int .u8 32))⟩, ⟨(some 66), none, .pick (.t 62) (.t 65) (.c (.bool false))⟩, ⟨(some 67), none, .mv (.t 66)⟩, ⟨(some 68), (some (67, true)), .mv (.t 0)⟩, ⟨(some 69), (some (67, true)), .ixStr (.t 68) (.c (.int .i64 7))⟩, ⟨(some 70), (some (67, true)), .bin .eql (.t 69) (.c (.int .u8 32))⟩, ⟨(some 71), none, .pick (.t 67) (.t 70) (.c (.bool false))⟩, ⟨(some 72), none, .mv (.t 71)⟩, ⟨(some 73), (some (72, true)), .mv (.t 0)⟩, ⟨(some 74), (some (72, true)), .ixStr (.t 73) (.c (.int .i64 10))⟩, ⟨(some 75), (some (72, true)), .bin .eql (.t 74) (.c (.int .u8 32))⟩, ⟨(some 76), none, .pick (.t 72) (.t 75) (.c (.bool false))⟩, ⟨(some 77), none, .mv (.t 76)⟩, ⟨(some 78), (some (77, true)), .mv (.t 0)⟩, ⟨(some 79), (some (77, true)), .ixStr (.t 78) (.c (.int .i64 19))⟩, ⟨(some 80), (some (77, true)), .bin .eql (.t 79) (.c (.int .u8 32))⟩, ⟨(some 81), none, .pick (.t 77) (.t 80) (.c (.bool false))⟩])
  (.cond (.t 81)
    (.seq (.region [⟨(some 82), none, .mv (.t 0)⟩, ⟨(some 83), none, .slstr (.t 82) (some (.c (.int .i64 8))) (some (.c (.int .i64 10)))⟩, ⟨(some 4), none, .mv (.t 83)⟩])
    (.seq (.seq (.region [⟨(some 84), none, .mv (.t 4)⟩, ⟨(some 85), none, .ixStr (.t 84) (.c (.int .i64 0))⟩, ⟨(some 86), none, .bin .eql (.t 85) (.c (.int .u8 32))⟩])
    (.cond (.t 86)
      (.region [⟨(some 87), none, .mv (.t 4)⟩, ⟨(some 88), none, .slstr (.t 87) (some (.c (.int .i64 1))) none⟩, ⟨(some 4), none, .mv (.t 88)⟩])
      .skip))
    (.seq (.dregion [⟨(some 89), none, .call i_gatepostref02_short []⟩, ⟨(some 90), none, .mv (.t 0)⟩, ⟨(some 91), none, .slstr (.t 90) none (some (.c (.int .i64 3)))⟩, ⟨(some 92), none, .call i_gatepostref02_find [(.t 89), (.t 91)]⟩, ⟨(some 93), none, .mv (.t 0)⟩, ⟨(some 94), none, .slstr (.t 93) (some (.c (.int .i64 20))) none⟩, ⟨(some 95), none, .call i_gatepostref02_number [(.t 94)]⟩, ⟨(some 96), none, .call i_gatepostref02_months []⟩, ⟨(some 97), none, .mv (.t 0)⟩, ⟨(some 98), none, .slstr (.t 97) (some (.c (.int .i64 4))) (some (.c (.int .i64 7)))⟩, ⟨(some 99), none, .call i_gatepostref02_find [(.t 96), (.t 98)]⟩, ⟨(some 100), none, .bin .add (.t 99) (.c (.int .i64 1))⟩, ⟨(some 101), none, .mv (.t 4)⟩, ⟨(some 102), none, .call i_gatepostref02_number [(.t 101)]⟩, ⟨(some 103), none, .mv (.t 0)⟩, ⟨(some 104), none, .slstr (.t 103) (some (.c (.int .i64 11))) (some (.c (.int .i64 19)))⟩, ⟨(some 105), none, .call i_gatepostref02_clock [(.t 104)]⟩, ⟨(some 106), none, .call i_gatepostref02_second [(.t 92), (.t 95), (.t 100), (.t 102), (.t 105)]⟩, ⟨(some 107), none, .ext 0 (.t 106)⟩, ⟨(some 108), none, .ext 1 (.t 106)⟩] [⟨(some 2), none, .mv (.t 107)⟩, ⟨(some 3), none, .mv (.t 108)⟩])
    .ret)))
    .skip))
  (.seq (.region [⟨(some 109), none, .bsl 1 [(.c (.str [77, 111, 110, 100, 97, 121])), (.c (.str [84, 117, 101, 115, 100, 97, 121])), (.c (.str [87, 101, 100, 110, 101, 115, 100, 97, 121])), (.c (.str [84, 104, 117, 114, 115, 100, 97, 121])), (.c (.str [70, 114, 105, 100, 97, 121])), (.c (.str [83, 97, 116, 117, 114, 100, 97, 121])), (.c (.str [83, 117, 110, 100, 97, 121]))]⟩, ⟨(some 5), none, .mv (.t 109)⟩])
  (.seq (.seq (.region [⟨(some 6), none, .mv (.c (.int .i64 0))⟩])
  (.block 0 (.loop
    (.seq (.seq (.region [⟨(some 110), none, .mv (.t 6)⟩, ⟨(some 111), none, .bin .lss (.t 110) (.c (.int .i64 7))⟩])
    (.cond (.t 111)
      .skip
      (.exit 0)))
    (.seq (.block 1 (.seq (.region [⟨(some 114), none, .mv (.t 5)⟩, ⟨(some 115), none, .mv (.t 6)⟩, ⟨(some 116), none, .ixaSl 1 (.t 114) (.t 115)⟩, ⟨(some 117), none, .load false 1 (.t 116)⟩, ⟨(some 118), none, .len 0 (.t 117)⟩, ⟨(some 7), none, .mv (.t 118)⟩])
    (.seq (.seq (.dregion [⟨(some 119), none, .mv (.t 0)⟩, ⟨(some 120), none, .len 0 (.t 119)⟩, ⟨(some 121), none, .mv (.t 7)⟩, ⟨(some 122), none, .bin .add (.t 121) (.c (.int .i64 24))⟩, ⟨(some 123), none, .bin .neq (.t 120) (.t 122)⟩, ⟨(some 124), none, .mv (.t 123)⟩, ⟨(some 125), (some (124, false)), .mv (.t 0)⟩, ⟨(some 126), (some (124, false)), .mv (.t 7)⟩, ⟨(some 127), (some (124, false)), .slstr (.t 125) none (some (.t 126))⟩, ⟨(some 128), (some (124, false)), .mv (.t 5)⟩, ⟨(some 129), (some (124, false)), .mv (.t 6)⟩, ⟨(some 130), (some (124, false)), .ixaSl 1 (.t 128) (.t 129)⟩, ⟨(some 131), (some (124, false)), .load false 1 (.t 130)⟩] [⟨(some 132), (some (124, false)), .bin .neq (.t 127) (.t 131)⟩, ⟨(some 133), none, .pick (.t 124) (.c (.bool true)) (.t 132)⟩])
    (.cond (.t 133)
      (.exit 1)
      .skip))
    (.seq (.region [⟨(some 134), none, .mv (.t 0)⟩, ⟨(some 135), none, .mv (.t 7)⟩, ⟨(some 136), none, .slstr (.t 134) (some (.t 135)) none⟩, ⟨(some 8), none, .mv (.t 136)⟩])
    (.seq (.seq (.region [⟨(some 137), none, .mv (.t 8)⟩, ⟨(some 138), none, .slstr (.t 137) none (some (.c (.int .i64 2)))⟩, ⟨(some 139), none, .bin .neq (.t 138) (.c (.str [44, 32]))⟩, ⟨(some 140), none, .mv (.t 139)⟩, ⟨(some 141), (some (140, false)), .mv (.t 8)⟩, ⟨(some 142), (some (140, false)), .ixStr (.t 141) (.c (.int .i64 4))⟩, ⟨(some 143), (some (140, false)), .bin .neq (.t 142) (.c (.int .u8 45))⟩, ⟨(some 144), none, .pick (.t 140) (.c (.bool true)) (.t 143)⟩, ⟨(some 145), none, .mv (.t 144)⟩, ⟨(some 146), (some (145, false)), .mv (.t 8)⟩, ⟨(some 147), (some (145, false)), .ixStr (.t 146) (.c (.int .i64 8))⟩, ⟨(some 148), (some (145, false)), .bin .neq (.t 147) (.c (.int .u8 45))⟩, ⟨(some 149), none, .pick (.t 145) (.c (.bool true)) (.t 148)⟩, ⟨(some 150), none, .mv (.t 149)⟩, ⟨(some 151), (some (150, false)), .mv (.t 8)⟩, ⟨(some 152), (some (150, false)), .ixStr (.t 151) (.c (.int .i64 11))⟩, ⟨(some 153), (some (150, false)), .bin .neq (.t 152) (.c (.int .u8 32))⟩, ⟨(some 154), none, .pick (.t 150) (.c (.bool true)) (.t 153)⟩, ⟨(some 155), none, .mv (.t 154)⟩, ⟨(some 156), (some (155, false)), .mv (.t 8)⟩, ⟨(some 157), (some (155, false)), .slstr (.t 156) (some (.c (.int .i64 20))) none⟩, ⟨(some 158), (some (155, false)), .bin .neq (.t 157) (.c (.str [32, 71, 77, 84]))⟩, ⟨(some 159), none, .pick (.t 155) (.c (.bool true)) (.t 158)⟩])
    (.cond (.t 159)
      (.seq (.region [⟨(some 2), none, .mv (.c (.int .i64 0))⟩, ⟨(some 3), none, .mv (.c (.bool false))⟩])
      .ret)
      .skip))
    (.seq (.region [⟨(some 160), none, .mv (.t 8)⟩, ⟨(some 161), none, .slstr (.t 160) (some (.c (.int .i64 9))) (some (.c (.int .i64 11)))⟩, ⟨(some 162), none, .call i_gatepostref02_number [(.t 161)]⟩, ⟨(some 9), none, .mv (.t 162)⟩])
    (.seq (.seq (.region [⟨(some 163), none, .mv (.t 9)⟩, ⟨(some 164), none, .bin .geq (.t 163) (.c (.int .i64 70))⟩])
    (.cond (.t 164)
      (.region [⟨(some 165), none, .mv (.t 9)⟩, ⟨(some 166), none, .bin .add (.t 165) (.c (.int .i64 1900))⟩, ⟨(some 9), none, .mv (.t 166)⟩])
      (.seq (.region [⟨(some 167), none, .mv (.t 9)⟩, ⟨(some 168), none, .bin .geq (.t 167) (.c (.int .i64 0))⟩])
      (.cond (.t 168)
        (.region [⟨(some 169), none, .mv (.t 9)⟩, ⟨(some 170), none, .bin .add (.t 169) (.c (.int .i64 2000))⟩, ⟨(some 9), none, .mv (.t 170)⟩])
        .skip))))
    (.seq (.dregion [⟨(some 171), none, .mv (.t 6)⟩, ⟨(some 172), none, .mv (.t 9)⟩, ⟨(some 173), none, .call i_gatepostref02_months []⟩, ⟨(some 174), none, .mv (.t 8)⟩, ⟨(some 175), none, .slstr (.t 174) (some (.c (.int .i64 5))) (some (.c (.int .i64 8)))⟩, ⟨(some 176), none, .call i_gatepostref02_find [(.t 173), (.t 175)]⟩, ⟨(some 177), none, .bin .add (.t 176) (.c (.int .i64 1))⟩, ⟨(some 178), none, .mv (.t 8)⟩, ⟨(some 179), none, .slstr (.t 178) (some (.c (.int .i64 2))) (some (.c (.int .i64 4)))⟩, ⟨(some 180), none, .call i_gatepostref02_number [(.t 179)]⟩, ⟨(some 181), none, .mv (.t 8)⟩, ⟨(some 182), none, .slstr (.t 181) (some (.c (.int .i64 12))) (some (.c (.int .i64 20)))⟩, ⟨(some 183), none, .call i_gatepostref02_clock [(.t 182)]⟩, ⟨(some 184), none, .call i_gatepostref02_second [(.t 171), (.t 172), (.t 177), (.t 180), (.t 183)]⟩, ⟨(some 185), none, .ext 0 (.t 184)⟩, ⟨(some 186), none, .ext 1 (.t 184)⟩] [⟨(some 2), none, .mv (.t 185)⟩, ⟨(some 3), none, .mv (.t 186)⟩])
    .ret))))))))
    (.region [⟨(some 112), none, .mv (.t 6)⟩, ⟨(some 113), none, .bin .add (.t 112) (.c (.int .i64 1))⟩, ⟨(some 6), none, .mv (.t 113)⟩]))))))
  (.seq (.region [⟨(some 2), none, .mv (.c (.int .i64 0))⟩, ⟨(some 3), none, .mv (.c (.bool false))⟩])
  .ret))))))⟩
/-- gatepost/validator.Parse -/
def c_validator_Parse : FnC := ⟨59, [.cell 2 true 2, .tmp 3],
  (.seq (.region [⟨(some 2), none, .boxz [(.bool false), (.str [])]⟩, ⟨(some 3), none, .mv (.c (.bool false))⟩])
  (.seq (.region [⟨(some 11), none, .mv (.t 0)⟩, ⟨(some 12), none, .call i_strings_CutPrefix [(.t 11), (.c (.str [87, 47]))]⟩, ⟨(some 10), none, .mv (.t 12)⟩, ⟨(some 13), none, .ext 0 (.t 10)⟩, ⟨(some 14), none, .ext 1 (.t 10)⟩, ⟨(some 0), none, .mv (.t 13)⟩, ⟨(some 4), none, .mv (.t 14)⟩])
  (.seq (.region [⟨(some 16), none, .mv (.t 0)⟩, ⟨(some 17), none, .call i_strings_CutPrefix [(.t 16), (.c (.str [34]))]⟩, ⟨(some 15), none, .mv (.t 17)⟩, ⟨(some 18), none, .ext 0 (.t 15)⟩, ⟨(some 19), none, .ext 1 (.t 15)⟩, ⟨(some 5), none, .mv (.t 18)⟩, ⟨(some 6), none, .mv (.t 19)⟩])
  (.seq (.region [⟨(some 21), none, .mv (.t 5)⟩, ⟨(some 22), none, .call i_strings_CutSuffix [(.t 21), (.c (.str [34]))]⟩, ⟨(some 20), none, .mv (.t 22)⟩, ⟨(some 23), none, .ext 0 (.t 20)⟩, ⟨(some 24), none, .ext 1 (.t 20)⟩, ⟨(some 5), none, .mv (.t 23)⟩, ⟨(some 7), none, .mv (.t 24)⟩])
  (.seq (.seq (.region [⟨(some 25), none, .mv (.t 6)⟩, ⟨(some 26), none, .un .not (.t 25)⟩, ⟨(some 27), none, .mv (.t 26)⟩, ⟨(some 28), (some (27, false)), .mv (.t 7)⟩, ⟨(some 29), (some (27, false)), .un .not (.t 28)⟩, ⟨(some 30), none, .pick (.t 27) (.c (.bool true)) (.t 29)⟩])
  (.cond (.t 30)
    (.seq (.region [⟨(some 31), none, .build [(.bool false), (.str [])] []⟩, ⟨none, none, .store 2 (.t 2) (.t 31)⟩, ⟨(some 3), none, .mv (.c (.bool false))⟩])
    .ret)
    .skip))
  (.seq (.seq (.region [⟨(some 32), none, .mv (.t 5)⟩, ⟨(some 33), none, .len 0 (.t 32)⟩, ⟨(some 34), none, .mv (.c (.int .i64 0))⟩])
  (.block 0 (.loop
    (.seq (.region [⟨(some 35), none, .bin .lss (.t 34) (.t 33)⟩])
    (.seq (.cond (.t 35)
      .skip
      (.exit 0))
    (.seq (.block 1 (.seq (.region [⟨(some 36), none, .mv (.t 34)⟩, ⟨(some 8), none, .mv (.t 36)⟩])
    (.seq (.region [⟨(some 37), none, .mv (.t 5)⟩, ⟨(some 38), none, .mv (.t 8)⟩, ⟨(some 39), none, .ixStr (.t 37) (.t 38)⟩, ⟨(some 9), none, .mv (.t 39)⟩])
    (.seq (.region [⟨(some 40), none, .mv (.t 9)⟩, ⟨(some 41), none, .bin .leq (.t 40) (.c (.int .u8 32))⟩, ⟨(some 42), none, .mv (.t 41)⟩, ⟨(some 43), (some (42, false)), .mv (.t 9)⟩, ⟨(some 44), (some (42, false)), .bin .eql (.t 43) (.c (.int .u8 34))⟩, ⟨(some 45), none, .pick (.t 42) (.c (.bool true)) (.t 44)⟩, ⟨(some 46), none, .mv (.t 45)⟩, ⟨(some 47), (some (46, false)), .mv (.t 9)⟩, ⟨(some 48), (some (46, false)), .bin .eql (.t 47) (.c (.int .u8 92))⟩, ⟨(some 49), none, .pick (.t 46) (.c (.bool true)) (.t 48)⟩, ⟨(some 50), none, .mv (.t 49)⟩, ⟨(some 51), (some (50, false)), .mv (.t 9)⟩, ⟨(some 52), (some (50, false)), .bin .eql (.t 51) (.c (.int .u8 127))⟩, ⟨(some 53), none, .pick (.t 50) (.c (.bool true)) (.t 52)⟩])
    (.cond (.t 53)
      (.seq (.region [⟨(some 54), none, .build [(.bool false), (.str [])] []⟩, ⟨none, none, .store 2 (.t 2) (.t 54)⟩, ⟨(some 3), none, .mv (.c (.bool false))⟩])
      .ret)
      .skip)))))
    (.region [⟨(some 55), none, .bin .add (.t 34) (.c (.int .i64 1))⟩, ⟨(some 34), none, .mv (.t 55)⟩])))))))
  (.seq (.region [⟨(some 56), none, .mv (.t 4)⟩, ⟨(some 57), none, .mv (.t 5)⟩, ⟨(some 58), none, .build [(.bool false), (.str [])] [(0, 1, (.t 56)), (1, 1, (.t 57))]⟩, ⟨none, none, .store 2 (.t 2) (.t 58)⟩, ⟨(some 3), none, .mv (.c (.bool true))⟩])
  .ret)))))))⟩
/-- gatepost/validator.Strong -/
def c_validator_Strong : FnC := ⟨13, [.tmp 4],
  (.seq (.region [⟨(some 2), none, .box (.t 0)⟩, ⟨(some 3), none, .box (.t 1)⟩, ⟨(some 4), none, .mv (.c (.bool false))⟩])
  (.seq (.region [⟨(some 5), none, .load true 2 (.t 2)⟩, ⟨(some 6), none, .load true 2 (.t 3)⟩, ⟨(some 7), none, .eq (.agg [.b, .s]) false (.t 5) (.t 6)⟩, ⟨(some 8), none, .mv (.t 7)⟩, ⟨(some 9), (some (8, true)), .faddr 0 (.t 2)⟩, ⟨(some 10), (some (8, true)), .load false 1 (.t 9)⟩, ⟨(some 11), (some (8, true)), .un .not (.t 10)⟩, ⟨(some 12), none, .pick (.t 8) (.t 11) (.c (.bool false))⟩, ⟨(some 4), none, .mv (.t 12)⟩])
  .ret))⟩
/-- gatepost/date.Format -/
def c_date_Format : FnC := ⟨62, [.tmp 2],
  (.seq (.region [⟨(some 2), none, .mv (.c (.str []))⟩])
  (.seq (.seq (.region [⟨(some 8), none, .mv (.t 0)⟩, ⟨(some 9), none, .bin .lss (.t 8) (.c (.int .i64 0))⟩, ⟨(some 10), none, .mv (.t 9)⟩, ⟨(some 11), (some (10, false)), .mv (.t 0)⟩, ⟨(some 12), (some (10, false)), .bin .quo (.t 11) (.c (.int .i64 86400))⟩, ⟨(some 13), (some (10, false)), .bin .gtr (.t 12) (.c (.int .i64 2932896))⟩, ⟨(some 14), none, .pick (.t 10) (.c (.bool true)) (.t 13)⟩])
  (.cond (.t 14)
    (.region [⟨(some 0), none, .mv (.c (.int .i64 0))⟩])
    .skip))
  (.seq (.region [⟨(some 15), none, .mv (.t 0)⟩, ⟨(some 16), none, .bin .quo (.t 15) (.c (.int .i64 86400))⟩, ⟨(some 17), none, .mv (.t 0)⟩, ⟨(some 18), none, .bin .rem (.t 17) (.c (.int .i64 86400))⟩, ⟨(some 3), none, .mv (.t 16)⟩, ⟨(some 4), none, .mv (.t 18)⟩])
  (.seq (.region [⟨(some 20), none, .mv (.t 3)⟩, ⟨(some 21), none, .call i_date_Civil [(.t 20)]⟩, ⟨(some 19), none, .mv (.t 21)⟩, ⟨(some 22), none, .ext 0 (.t 19)⟩, ⟨(some 23), none, .ext 1 (.t 19)⟩, ⟨(some 24), none, .ext 2 (.t 19)⟩, ⟨(some 5), none, .mv (.t 22)⟩, ⟨(some 6), none, .mv (.t 23)⟩, ⟨(some 7), none, .mv (.t 24)⟩])
  (.seq (.dregion [⟨(some 25), none, .call i_date_longDays []⟩, ⟨(some 26), none, .mv (.t 3)⟩, ⟨(some 27), none, .bin .add (.t 26) (.c (.int .i64 3))⟩, ⟨(some 28), none, .bin .rem (.t 27) (.c (.int .i64 7))⟩, ⟨(some 29), none, .ixArr 7 1 false (.t 25) (.t 28)⟩, ⟨(some 30), none, .slstr (.t 29) none (some (.c (.int .i64 3)))⟩, ⟨(some 31), none, .bin .add (.t 30) (.c (.str [44, 32]))⟩, ⟨(some 32), none, .mv (.t 7)⟩, ⟨(some 33), none, .call i_date_pad [(.t 32), (.c (.int .i64 2))]⟩, ⟨(some 34), none, .bin .add (.t 31) (.t 33)⟩, ⟨(some 35), none, .bin .add (.t 34) (.c (.str [32]))⟩, ⟨(some 36), none, .call i_date_monthNames []⟩, ⟨(some 37), none, .mv (.t 6)⟩, ⟨(some 38), none, .bin .sub (.t 37) (.c (.int .i64 1))⟩, ⟨(some 39), none, .ixArr 12 1 false (.t 36) (.t 38)⟩, ⟨(some 40), none, .bin .add (.t 35) (.t 39)⟩, ⟨(some 41), none, .bin .add (.t 40) (.c (.str [32]))⟩, ⟨(some 42), none, .mv (.t 5)⟩, ⟨(some 43), none, .call i_date_pad [(.t 42), (.c (.int .i64 4))]⟩, ⟨(some 44), none, .bin .add (.t 41) (.t 43)⟩, ⟨(some 45), none, .bin .add (.t 44) (.c (.str [32]))⟩, ⟨(some 46), none, .mv (.t 4)⟩, ⟨(some 47), none, .bin .quo (.t 46) (.c (.int .i64 3600))⟩, ⟨(some 48), none, .call i_date_pad [(.t 47), (.c (.int .i64 2))]⟩, ⟨(some 49), none, .bin .add (.t 45) (.t 48)⟩, ⟨(some 50), none, .bin .add (.t 49) (.c (.str [58]))⟩, ⟨(some 51), none, .mv (.t 4)⟩, ⟨(some 52), none, .bin .quo (.t 51) (.c (.int .i64 60))⟩, ⟨(some 53), none, .bin .rem (.t 52) (.c (.int .i64 60))⟩, ⟨(some 54), none, .call i_date_pad [(.t 53), (.c (.int .i64 2))]⟩, ⟨(some 55), none, .bin .add (.t 50) (.t 54)⟩, ⟨(some 56), none, .bin .add (.t 55) (.c (.str [58]))⟩, ⟨(some 57), none, .mv (.t 4)⟩, ⟨(some 58), none, .bin .rem (.t 57) (.c (.int .i64 60))⟩, ⟨(some 59), none, .call i_date_pad [(.t 58), (.c (.int .i64 2))]⟩] [⟨(some 60), none, .bin .add (.t 56) (.t 59)⟩, ⟨(some 61), none, .bin .add (.t 60) (.c (.str [32, 71, 77, 84]))⟩, ⟨(some 2), none, .mv (.t 61)⟩])
  .ret)))))⟩
/-- gatepost/gatepostref02.Format -/
def c_gatepostref02_Format : FnC := ⟨67, [.tmp 2],
  (.seq (.region [⟨(some 2), none, .mv (.c (.str []))⟩])
  (.seq (.seq (.region [⟨(some 8), none, .mv (.t 0)⟩, ⟨(some 9), none, .bin .lss (.t 8) (.c (.int .i64 0))⟩, ⟨(some 10), none, .mv (.t 9)⟩, ⟨(some 11), (some (10, false)), .mv (.t 0)⟩, ⟨(some 12), (some (10, false)), .bin .geq (.t 11) (.c (.int .i64 253402300800))⟩, ⟨(some 13), none, .pick (.t 10) (.c (.bool true)) (.t 12)⟩])
  (.cond (.t 13)
    (.region [⟨(some 0), none, .mv (.c (.int .i64 0))⟩])
    .skip))
  (.seq (.region [⟨(some 14), none, .mv (.t 0)⟩, ⟨(some 15), none, .bin .quo (.t 14) (.c (.int .i64 86400))⟩, ⟨(some 3), none, .mv (.t 15)⟩])
  (.seq (.region [⟨(some 16), none, .mv (.t 0)⟩, ⟨(some 17), none, .bin .rem (.t 16) (.c (.int .i64 86400))⟩, ⟨(some 4), none, .mv (.t 17)⟩])
  (.seq (.region [⟨(some 19), none, .mv (.t 3)⟩, ⟨(some 20), none, .call i_gatepostref02_Civil [(.t 19)]⟩, ⟨(some 18), none, .mv (.t 20)⟩, ⟨(some 21), none, .ext 0 (.t 18)⟩, ⟨(some 22), none, .ext 1 (.t 18)⟩, ⟨(some 23), none, .ext 2 (.t 18)⟩, ⟨(some 5), none, .mv (.t 21)⟩, ⟨(some 6), none, .mv (.t 22)⟩, ⟨(some 7), none, .mv (.t 23)⟩])
  (.seq (.dregion [⟨(some 24), none, .call i_gatepostref02_short []⟩, ⟨(some 25), none, .mv (.t 3)⟩, ⟨(some 26), none, .bin .add (.t 25) (.c (.int .i64 3))⟩, ⟨(some 27), none, .bin .rem (.t 26) (.c (.int .i64 7))⟩, ⟨(some 28), none, .ixaSl 1 (.t 24) (.t 27)⟩, ⟨(some 29), none, .load false 1 (.t 28)⟩, ⟨(some 30), none, .bin .add (.t 29) (.c (.str [44, 32]))⟩, ⟨(some 31), none, .mv (.t 7)⟩, ⟨(some 32), none, .call i_gatepostref02_two [(.t 31)]⟩, ⟨(some 33), none, .bin .add (.t 30) (.t 32)⟩, ⟨(some 34), none, .bin .add (.t 33) (.c (.str [32]))⟩, ⟨(some 35), none, .call i_gatepostref02_months []⟩, ⟨(some 36), none, .mv (.t 6)⟩, ⟨(some 37), none, .bin .sub (.t 36) (.c (.int .i64 1))⟩, ⟨(some 38), none, .ixaSl 1 (.t 35) (.t 37)⟩, ⟨(some 39), none, .load false 1 (.t 38)⟩, ⟨(some 40), none, .bin .add (.t 34) (.t 39)⟩, ⟨(some 41), none, .bin .add (.t 40) (.c (.str [32]))⟩, ⟨(some 42), none, .mv (.t 5)⟩, ⟨(some 43), none, .bin .quo (.t 42) (.c (.int .i64 100))⟩, ⟨(some 44), none, .call i_gatepostref02_two [(.t 43)]⟩, ⟨(some 45), none, .bin .add (.t 41) (.t 44)⟩, ⟨(some 46), none, .mv (.t 5)⟩, ⟨(some 47), none, .bin .rem (.t 46) (.c (.int .i64 100))⟩, ⟨(some 48), none, .call i_gatepostref02_two [(.t 47)]⟩, ⟨(some 49), none, .bin .add (.t 45) (.t 48)⟩, ⟨(some 50), none, .bin .add (.t 49) (.c (.str [32]))⟩, ⟨(some 51), none, .mv (.t 4)⟩, ⟨(some 52), none, .bin .quo (.t 51) (.c (.int .i64 3600))⟩, ⟨(some 53), none, .call i_gatepostref02_two [(.t 52)]⟩, ⟨(some 54), none, .bin .add (.t 50) (.t 53)⟩, ⟨(some 55), none, .bin .add (.t 54) (.c (.str [58]))⟩, ⟨(some 56), none, .mv (.t 4)⟩, ⟨(some 57), none, .bin .quo (.t 56) (.c (.int .i64 60))⟩, ⟨(some 58), none, .bin .rem (.t 57) (.c (.int .i64 60))⟩, ⟨(some 59), none, .call i_gatepostref02_two [(.t 58)]⟩, ⟨(some 60), none, .bin .add (.t 55) (.t 59)⟩, ⟨(some 61), none, .bin .add (.t 60) (.c (.str [58]))⟩, ⟨(some 62), none, .mv (.t 4)⟩, ⟨(some 63), none, .bin .rem (.t 62) (.c (.int .i64 60))⟩, ⟨(some 64), none, .call i_gatepostref02_two [(.t 63)]⟩] [⟨(some 65), none, .bin .add (.t 61) (.t 64)⟩, ⟨(some 66), none, .bin .add (.t 65) (.c (.str [32, 71, 77, 84]))⟩, ⟨(some 2), none, .mv (.t 66)⟩])
  .ret))))))⟩
/-- gatepost/token.Same -/
def c_token_Same : FnC := ⟨17, [.tmp 4],
  (.seq (.region [⟨(some 4), none, .mv (.c (.bool false))⟩])
  (.seq (.region [⟨(some 5), none, .mv (.t 0)⟩, ⟨(some 6), none, .len 0 (.t 5)⟩, ⟨(some 7), none, .mv (.t 1)⟩, ⟨(some 8), none, .len 0 (.t 7)⟩, ⟨(some 9), none, .bin .eql (.t 6) (.t 8)⟩, ⟨(some 10), none, .mv (.t 9)⟩, ⟨(some 11), (some (10, true)), .mv (.t 0)⟩, ⟨(some 12), (some (10, true)), .call i_token_Lower [(.t 11)]⟩, ⟨(some 13), (some (10, true)), .mv (.t 1)⟩, ⟨(some 14), (some (10, true)), .call i_token_Lower [(.t 13)]⟩, ⟨(some 15), (some (10, true)), .bin .eql (.t 12) (.t 14)⟩, ⟨(some 16), none, .pick (.t 10) (.t 15) (.c (.bool false))⟩, ⟨(some 4), none, .mv (.t 16)⟩])
  .ret))⟩
/-- gatepost/token.Split -/
def c_token_Split : FnC := ⟨54, [.tmp 2, .tmp 3],
  (.seq (.region [⟨(some 1), none, .box (.t 0)⟩, ⟨(some 2), none, .mv (.c .nsl)⟩, ⟨(some 3), none, .mv (.c (.bool false))⟩])
  (.seq (.region [⟨(some 4), none, .boxz [.nsl]⟩])
  (.seq (.region [⟨(some 5), none, .boxz [(.int .i64 0)]⟩, ⟨none, none, .store 1 (.t 5) (.c (.int .i64 0))⟩])
  (.seq (.region [⟨(some 10), none, .mkfn i_token_Split_1 [(.t 1), (.t 5), (.t 4)]⟩, ⟨(some 6), none, .mv (.t 10)⟩])
  (.seq (.region [⟨(some 7), none, .mv (.c (.bool false))⟩])
  (.seq (.seq (.region [⟨(some 8), none, .mv (.c (.int .i64 0))⟩])
  (.block 0 (.loop
    (.seq (.seq (.region [⟨(some 11), none, .mv (.t 8)⟩, ⟨(some 12), none, .load false 1 (.t 1)⟩, ⟨(some 13), none, .len 0 (.t 12)⟩, ⟨(some 14), none, .bin .lss (.t 11) (.t 13)⟩])
    (.cond (.t 14)
      .skip
      (.exit 0)))
    (.seq (.block 1 (.seq (.region [⟨(some 17), none, .load false 1 (.t 1)⟩, ⟨(some 18), none, .mv (.t 8)⟩, ⟨(some 19), none, .ixStr (.t 17) (.t 18)⟩, ⟨(some 9), none, .mv (.t 19)⟩])
    (.block 2 (.seq (.region [⟨(some 21), none, .mv (.t 9)⟩, ⟨(some 22), none, .bin .eql (.t 21) (.c (.int .u8 34))⟩, ⟨(some 20), none, .mv (.t 22)⟩])
    (.cond (.t 20)
      (.region [⟨(some 23), none, .mv (.t 7)⟩, ⟨(some 24), none, .un .not (.t 23)⟩, ⟨(some 7), none, .mv (.t 24)⟩])
      (.seq (.region [⟨(some 26), none, .mv (.t 7)⟩, ⟨(some 27), none, .mv (.t 26)⟩, ⟨(some 28), (some (27, true)), .mv (.t 9)⟩, ⟨(some 29), (some (27, true)), .bin .eql (.t 28) (.c (.int .u8 92))⟩, ⟨(some 30), none, .pick (.t 27) (.t 29) (.c (.bool false))⟩, ⟨(some 25), none, .mv (.t 30)⟩])
      (.cond (.t 25)
        (.region [⟨(some 31), none, .mv (.t 8)⟩, ⟨(some 32), none, .bin .add (.t 31) (.c (.int .i64 1))⟩, ⟨(some 8), none, .mv (.t 32)⟩])
        (.seq (.region [⟨(some 34), none, .mv (.t 7)⟩, ⟨(some 35), none, .un .not (.t 34)⟩, ⟨(some 36), none, .mv (.t 35)⟩, ⟨(some 37), (some (36, true)), .mv (.t 9)⟩, ⟨(some 38), (some (36, true)), .bin .eql (.t 37) (.c (.int .u8 44))⟩, ⟨(some 39), none, .pick (.t 36) (.t 38) (.c (.bool false))⟩, ⟨(some 33), none, .mv (.t 39)⟩])
        (.cond (.t 33)
          (.region [⟨(some 40), none, .mv (.t 6)⟩, ⟨(some 41), none, .mv (.t 8)⟩, ⟨(some 42), none, .callv (.t 40) [(.t 41)]⟩])
          .skip)))))))))
    (.region [⟨(some 15), none, .mv (.t 8)⟩, ⟨(some 16), none, .bin .add (.t 15) (.c (.int .i64 1))⟩, ⟨(some 8), none, .mv (.t 16)⟩]))))))
  (.seq (.seq (.region [⟨(some 43), none, .mv (.t 7)⟩])
  (.cond (.t 43)
    (.seq (.region [⟨(some 2), none, .mv (.c .nsl)⟩, ⟨(some 3), none, .mv (.c (.bool false))⟩])
    .ret)
    .skip))
  (.seq (.region [⟨(some 44), none, .mv (.t 6)⟩, ⟨(some 45), none, .load false 1 (.t 1)⟩, ⟨(some 46), none, .len 0 (.t 45)⟩, ⟨(some 47), none, .callv (.t 44) [(.t 46)]⟩])
  (.seq (.region [⟨(some 48), none, .load false 1 (.t 4)⟩, ⟨(some 49), none, .load false 1 (.t 4)⟩, ⟨(some 50), none, .len 1 (.t 49)⟩, ⟨(some 51), none, .load false 1 (.t 4)⟩, ⟨(some 52), none, .len 1 (.t 51)⟩, ⟨(some 53), none, .slsl 1 (.t 48) none (some (.t 50)) (some (.t 52))⟩, ⟨(some 2), none, .mv (.t 53)⟩, ⟨(some 3), none, .mv (.c (.bool true))⟩])
  .ret)))))))))⟩
/-- slices.ContainsFunc[[]string,string] -/
def c_slices_ContainsFunc___string_string_ : FnC := ⟨9, [.tmp 4],
  (.seq (.region [⟨(some 4), none, .mv (.c (.bool false))⟩])
  (.seq (.region [⟨(some 5), none, .mv (.t 0)⟩, ⟨(some 6), none, .mv (.t 1)⟩, ⟨(some 7), none, .call i_slices_IndexFunc___string_string_ [(.t 5), (.t 6)]⟩, ⟨(some 8), none, .bin .geq (.t 7) (.c (.int .i64 0))⟩, ⟨(some 4), none, .mv (.t 8)⟩])
  .ret))⟩
/-- gatepost/validator.matches$1 -/
def c_validator_matches_1 : FnC := ⟨17, [.tmp 3],
  (.seq (.region [⟨(some 3), none, .mv (.c (.bool false))⟩])
  (.seq (.region [⟨(some 7), none, .mv (.t 0)⟩, ⟨(some 8), none, .call i_validator_Parse [(.t 7)]⟩, ⟨(some 6), none, .mv (.t 8)⟩, ⟨(some 9), none, .ext 0 (.t 6)⟩, ⟨(some 10), none, .ext 1 (.t 6)⟩, ⟨(some 4), none, .boxz [(.bool false), (.str [])]⟩, ⟨none, none, .store 2 (.t 4) (.t 9)⟩, ⟨(some 5), none, .mv (.t 10)⟩])
  (.seq (.region [⟨(some 11), none, .mv (.t 5)⟩, ⟨(some 12), none, .mv (.t 11)⟩, ⟨(some 13), (some (12, true)), .load true 2 (.t 4)⟩, ⟨(some 14), (some (12, true)), .load true 2 (.t 1)⟩, ⟨(some 15), (some (12, true)), .call i_validator_Weak [(.t 13), (.t 14)]⟩, ⟨(some 16), none, .pick (.t 12) (.t 15) (.c (.bool false))⟩, ⟨(some 3), none, .mv (.t 16)⟩])
  .ret)))⟩
/-- gatepost/validator.Weak -/
def c_validator_Weak : FnC := ⟨10, [.tmp 4],
  (.seq (.region [⟨(some 2), none, .box (.t 0)⟩, ⟨(some 3), none, .box (.t 1)⟩, ⟨(some 4), none, .mv (.c (.bool false))⟩])
  (.seq (.region [⟨(some 5), none, .faddr 1 (.t 2)⟩, ⟨(some 6), none, .load false 1 (.t 5)⟩, ⟨(some 7), none, .faddr 1 (.t 3)⟩, ⟨(some 8), none, .load false 1 (.t 7)⟩, ⟨(some 9), none, .bin .eql (.t 6) (.t 8)⟩, ⟨(some 4), none, .mv (.t 9)⟩])
  .ret))⟩
/-- gatepost/date.fixed -/
def c_date_fixed : FnC := ⟨38, [.tmp 2, .tmp 3],
  (.seq (.region [⟨(some 2), none, .mv (.c (.int .i64 0))⟩, ⟨(some 3), none, .mv (.c (.bool false))⟩])
  (.seq (.region [⟨(some 9), none, .mv (.t 0)⟩, ⟨(some 10), none, .call i___gatepost_date_reader__day [(.t 9), (.c (.bool false))]⟩, ⟨(some 4), none, .mv (.t 10)⟩])
  (.seq (.region [⟨(some 11), none, .mv (.t 0)⟩, ⟨(some 12), none, .call i___gatepost_date_reader__need [(.t 11), (.c (.str [44, 32]))]⟩])
  (.seq (.region [⟨(some 13), none, .mv (.t 0)⟩, ⟨(some 14), none, .call i___gatepost_date_reader__number [(.t 13), (.c (.int .i64 2))]⟩, ⟨(some 5), none, .mv (.t 14)⟩])
  (.seq (.region [⟨(some 15), none, .mv (.t 0)⟩, ⟨(some 16), none, .call i___gatepost_date_reader__need [(.t 15), (.c (.str [32]))]⟩])
  (.seq (.region [⟨(some 17), none, .mv (.t 0)⟩, ⟨(some 18), none, .call i___gatepost_date_reader__month [(.t 17)]⟩, ⟨(some 6), none, .mv (.t 18)⟩])
  (.seq (.region [⟨(some 19), none, .mv (.t 0)⟩, ⟨(some 20), none, .call i___gatepost_date_reader__need [(.t 19), (.c (.str [32]))]⟩])
  (.seq (.region [⟨(some 21), none, .mv (.t 0)⟩, ⟨(some 22), none, .call i___gatepost_date_reader__number [(.t 21), (.c (.int .i64 4))]⟩, ⟨(some 7), none, .mv (.t 22)⟩])
  (.seq (.region [⟨(some 23), none, .mv (.t 0)⟩, ⟨(some 24), none, .call i___gatepost_date_reader__need [(.t 23), (.c (.str [32]))]⟩])
  (.seq (.region [⟨(some 25), none, .mv (.t 0)⟩, ⟨(some 26), none, .call i___gatepost_date_reader__clock [(.t 25)]⟩, ⟨(some 8), none, .mv (.t 26)⟩])
  (.seq (.region [⟨(some 27), none, .mv (.t 0)⟩, ⟨(some 28), none, .call i___gatepost_date_reader__need [(.t 27), (.c (.str [32, 71, 77, 84]))]⟩])
  (.seq (.region [⟨(some 29), none, .mv (.t 0)⟩, ⟨(some 30), none, .mv (.t 4)⟩, ⟨(some 31), none, .mv (.t 7)⟩, ⟨(some 32), none, .mv (.t 6)⟩, ⟨(some 33), none, .mv (.t 5)⟩, ⟨(some 34), none, .mv (.t 8)⟩, ⟨(some 35), none, .call i___gatepost_date_reader__second [(.t 29), (.t 30), (.t 31), (.t 32), (.t 33), (.t 34)]⟩, ⟨(some 36), none, .ext 0 (.t 35)⟩, ⟨(some 37), none, .ext 1 (.t 35)⟩, ⟨(some 2), none, .mv (.t 36)⟩, ⟨(some 3), none, .mv (.t 37)⟩])
  .ret))))))))))))⟩
/-- gatepost/date.old -/
def c_date_old : FnC := ⟨44, [.tmp 2, .tmp 3],
  (.seq (.region [⟨(some 2), none, .mv (.c (.int .i64 0))⟩, ⟨(some 3), none, .mv (.c (.bool false))⟩])
  (.seq (.region [⟨(some 9), none, .mv (.t 0)⟩, ⟨(some 10), none, .call i___gatepost_date_reader__day [(.t 9), (.c (.bool true))]⟩, ⟨(some 4), none, .mv (.t 10)⟩])
  (.seq (.region [⟨(some 11), none, .mv (.t 0)⟩, ⟨(some 12), none, .call i___gatepost_date_reader__need [(.t 11), (.c (.str [44, 32]))]⟩])
  (.seq (.region [⟨(some 13), none, .mv (.t 0)⟩, ⟨(some 14), none, .call i___gatepost_date_reader__number [(.t 13), (.c (.int .i64 2))]⟩, ⟨(some 5), none, .mv (.t 14)⟩])
  (.seq (.region [⟨(some 15), none, .mv (.t 0)⟩, ⟨(some 16), none, .call i___gatepost_date_reader__need [(.t 15), (.c (.str [45]))]⟩])
  (.seq (.region [⟨(some 17), none, .mv (.t 0)⟩, ⟨(some 18), none, .call i___gatepost_date_reader__month [(.t 17)]⟩, ⟨(some 6), none, .mv (.t 18)⟩])
  (.seq (.region [⟨(some 19), none, .mv (.t 0)⟩, ⟨(some 20), none, .call i___gatepost_date_reader__need [(.t 19), (.c (.str [45]))]⟩])
  (.seq (.region [⟨(some 21), none, .mv (.t 0)⟩, ⟨(some 22), none, .call i___gatepost_date_reader__number [(.t 21), (.c (.int .i64 2))]⟩, ⟨(some 7), none, .mv (.t 22)⟩])
  (.seq (.region [⟨(some 23), none, .mv (.t 0)⟩, ⟨(some 24), none, .call i___gatepost_date_reader__need [(.t 23), (.c (.str [32]))]⟩])
  (.seq (.region [⟨(some 25), none, .mv (.t 0)⟩, ⟨(some 26), none, .call i___gatepost_date_reader__clock [(.t 25)]⟩, ⟨(some 8), none, .mv (.t 26)⟩])
  (.seq (.region [⟨(some 27), none, .mv (.t 0)⟩, ⟨(some 28), none, .call i___gatepost_date_reader__need [(.t 27), (.c (.str [32, 71, 77, 84]))]⟩])
  (.seq (.seq (.region [⟨(some 29), none, .mv (.t 7)⟩, ⟨(some 30), none, .bin .geq (.t 29) (.c (.int .i64 70))⟩])
  (.cond (.t 30)
    (.region [⟨(some 31), none, .mv (.t 7)⟩, ⟨(some 32), none, .bin .add (.t 31) (.c (.int .i64 1900))⟩, ⟨(some 7), none, .mv (.t 32)⟩])
    (.region [⟨(some 33), none, .mv (.t 7)⟩, ⟨(some 34), none, .bin .add (.t 33) (.c (.int .i64 2000))⟩, ⟨(some 7), none, .mv (.t 34)⟩])))
  (.seq (.region [⟨(some 35), none, .mv (.t 0)⟩, ⟨(some 36), none, .mv (.t 4)⟩, ⟨(some 37), none, .mv (.t 7)⟩, ⟨(some 38), none, .mv (.t 6)⟩, ⟨(some 39), none, .mv (.t 5)⟩, ⟨(some 40), none, .mv (.t 8)⟩, ⟨(some 41), none, .call i___gatepost_date_reader__second [(.t 35), (.t 36), (.t 37), (.t 38), (.t 39), (.t 40)]⟩, ⟨(some 42), none, .ext 0 (.t 41)⟩, ⟨(some 43), none, .ext 1 (.t 41)⟩, ⟨(some 2), none, .mv (.t 42)⟩, ⟨(some 3), none, .mv (.t 43)⟩])
  .ret)))))))))))))⟩
/-- gatepost/date.plain -/
def c_date_plain : FnC := ⟨54, [.tmp 2, .tmp 3],
  (.seq (.region [⟨(some 2), none, .mv (.c (.int .i64 0))⟩, ⟨(some 3), none, .mv (.c (.bool false))⟩])
  (.seq (.region [⟨(some 10), none, .mv (.t 0)⟩, ⟨(some 11), none, .call i___gatepost_date_reader__day [(.t 10), (.c (.bool false))]⟩, ⟨(some 4), none, .mv (.t 11)⟩])
  (.seq (.region [⟨(some 12), none, .mv (.t 0)⟩, ⟨(some 13), none, .call i___gatepost_date_reader__need [(.t 12), (.c (.str [32]))]⟩])
  (.seq (.region [⟨(some 14), none, .mv (.t 0)⟩, ⟨(some 15), none, .call i___gatepost_date_reader__month [(.t 14)]⟩, ⟨(some 5), none, .mv (.t 15)⟩])
  (.seq (.region [⟨(some 16), none, .mv (.t 0)⟩, ⟨(some 17), none, .call i___gatepost_date_reader__need [(.t 16), (.c (.str [32]))]⟩])
  (.seq (.region [⟨(some 6), none, .mv (.c (.int .i64 2))⟩])
  (.seq (.seq (.region [⟨(some 18), none, .mv (.t 0)⟩, ⟨(some 19), none, .nilck (.t 18)⟩, ⟨(some 20), none, .faddr 0 (.t 19)⟩, ⟨(some 21), none, .load false 1 (.t 20)⟩, ⟨(some 22), none, .len 0 (.t 21)⟩, ⟨(some 23), none, .bin .gtr (.t 22) (.c (.int .i64 0))⟩, ⟨(some 24), none, .mv (.t 23)⟩, ⟨(some 25), (some (24, true)), .mv (.t 0)⟩, ⟨(some 26), (some (24, true)), .nilck (.t 25)⟩, ⟨(some 27), (some (24, true)), .faddr 0 (.t 26)⟩, ⟨(some 28), (some (24, true)), .load false 1 (.t 27)⟩, ⟨(some 29), (some (24, true)), .ixStr (.t 28) (.c (.int .i64 0))⟩, ⟨(some 30), (some (24, true)), .bin .eql (.t 29) (.c (.int .u8 32))⟩, ⟨(some 31), none, .pick (.t 24) (.t 30) (.c (.bool false))⟩])
  (.cond (.t 31)
    (.seq (.region [⟨(some 32), none, .mv (.t 0)⟩, ⟨(some 33), none, .call i___gatepost_date_reader__take [(.t 32), (.c (.int .i64 1))]⟩])
    (.region [⟨(some 6), none, .mv (.c (.int .i64 1))⟩]))
    .skip))
  (.seq (.region [⟨(some 34), none, .mv (.t 0)⟩, ⟨(some 35), none, .mv (.t 6)⟩, ⟨(some 36), none, .call i___gatepost_date_reader__number [(.t 34), (.t 35)]⟩, ⟨(some 7), none, .mv (.t 36)⟩])
  (.seq (.region [⟨(some 37), none, .mv (.t 0)⟩, ⟨(some 38), none, .call i___gatepost_date_reader__need [(.t 37), (.c (.str [32]))]⟩])
  (.seq (.region [⟨(some 39), none, .mv (.t 0)⟩, ⟨(some 40), none, .call i___gatepost_date_reader__clock [(.t 39)]⟩, ⟨(some 8), none, .mv (.t 40)⟩])
  (.seq (.region [⟨(some 41), none, .mv (.t 0)⟩, ⟨(some 42), none, .call i___gatepost_date_reader__need [(.t 41), (.c (.str [32]))]⟩])
  (.seq (.region [⟨(some 43), none, .mv (.t 0)⟩, ⟨(some 44), none, .call i___gatepost_date_reader__number [(.t 43), (.c (.int .i64 4))]⟩, ⟨(some 9), none, .mv (.t 44)⟩])
  (.seq (.region [⟨(some 45), none, .mv (.t 0)⟩, ⟨(some 46), none, .mv (.t 4)⟩, ⟨(some 47), none, .mv (.t 9)⟩, ⟨(some 48), none, .mv (.t 5)⟩, ⟨(some 49), none, .mv (.t 7)⟩, ⟨(some 50), none, .mv (.t 8)⟩, ⟨(some 51), none, .call i___gatepost_date_reader__second [(.t 45), (.t 46), (.t 47), (.t 48), (.t 49), (.t 50)]⟩, ⟨(some 52), none, .ext 0 (.t 51)⟩, ⟨(some 53), none, .ext 1 (.t 51)⟩, ⟨(some 2), none, .mv (.t 52)⟩, ⟨(some 3), none, .mv (.t 53)⟩])
  .ret)))))))))))))⟩
/-- gatepost/gatepostref01.Same -/
def c_gatepostref01_Same : FnC := ⟨10, [.tmp 4],
  (.seq (.region [⟨(some 4), none, .mv (.c (.bool false))⟩])
  (.seq (.region [⟨(some 5), none, .mv (.t 0)⟩, ⟨(some 6), none, .call i_gatepostref01_Lower [(.t 5)]⟩, ⟨(some 7), none, .mv (.t 1)⟩, ⟨(some 8), none, .call i_gatepostref01_Lower [(.t 7)]⟩, ⟨(some 9), none, .bin .eql (.t 6) (.t 8)⟩, ⟨(some 4), none, .mv (.t 9)⟩])
  .ret))⟩
/-- gatepost/gatepostref01.Trim -/
def c_gatepostref01_Trim : FnC := ⟨30, [.tmp 2],
  (.seq (.region [⟨(some 2), none, .mv (.c (.str []))⟩])
  (.seq (.block 0 (.loop
    (.seq (.seq (.region [⟨(some 3), none, .mv (.t 0)⟩, ⟨(some 4), none, .len 0 (.t 3)⟩, ⟨(some 5), none, .bin .gtr (.t 4) (.c (.int .i64 0))⟩, ⟨(some 6), none, .mv (.t 5)⟩, ⟨(some 7), (some (6, true)), .mv (.t 0)⟩, ⟨(some 8), (some (6, true)), .ixStr (.t 7) (.c (.int .i64 0))⟩, ⟨(some 9), (some (6, true)), .call i_gatepostref01_blank [(.t 8)]⟩, ⟨(some 10), none, .pick (.t 6) (.t 9) (.c (.bool false))⟩])
    (.cond (.t 10)
      .skip
      (.exit 0)))
    (.block 1 (.region [⟨(some 11), none, .mv (.t 0)⟩, ⟨(some 12), none, .slstr (.t 11) (some (.c (.int .i64 1))) none⟩, ⟨(some 0), none, .mv (.t 12)⟩])))))
  (.seq (.block 2 (.loop
    (.seq (.seq (.region [⟨(some 13), none, .mv (.t 0)⟩, ⟨(some 14), none, .len 0 (.t 13)⟩, ⟨(some 15), none, .bin .gtr (.t 14) (.c (.int .i64 0))⟩, ⟨(some 16), none, .mv (.t 15)⟩, ⟨(some 17), (some (16, true)), .mv (.t 0)⟩, ⟨(some 18), (some (16, true)), .mv (.t 0)⟩, ⟨(some 19), (some (16, true)), .len 0 (.t 18)⟩, ⟨(some 20), (some (16, true)), .bin .sub (.t 19) (.c (.int .i64 1))⟩, ⟨(some 21), (some (16, true)), .ixStr (.t 17) (.t 20)⟩, ⟨(some 22), (some (16, true)), .call i_gatepostref01_blank [(.t 21)]⟩, ⟨(some 23), none, .pick (.t 16) (.t 22) (.c (.bool false))⟩])
    (.cond (.t 23)
      .skip
      (.exit 2)))
    (.block 3 (.region [⟨(some 24), none, .mv (.t 0)⟩, ⟨(some 25), none, .mv (.t 0)⟩, ⟨(some 26), none, .len 0 (.t 25)⟩, ⟨(some 27), none, .bin .sub (.t 26) (.c (.int .i64 1))⟩, ⟨(some 28), none, .slstr (.t 24) none (some (.t 27))⟩, ⟨(some 0), none, .mv (.t 28)⟩])))))
  (.seq (.region [⟨(some 29), none, .mv (.t 0)⟩, ⟨(some 2), none, .mv (.t 29)⟩])
  .ret))))⟩
/-- gatepost/gatepostref02.second -/
def c_gatepostref02_second : FnC := ⟨34, [.tmp 10, .tmp 11],
  (.seq (.region [⟨(some 10), none, .mv (.c (.int .i64 0))⟩, ⟨(some 11), none, .mv (.c (.bool false))⟩])
  (.seq (.region [⟨(some 13), none, .mv (.t 1)⟩, ⟨(some 14), none, .mv (.t 2)⟩, ⟨(some 15), none, .mv (.t 3)⟩, ⟨(some 16), none, .call i_gatepostref02_Days [(.t 13), (.t 14), (.t 15)]⟩, ⟨(some 12), none, .mv (.t 16)⟩])
  (.seq (.seq (.region [⟨(some 17), none, .mv (.t 12)⟩, ⟨(some 18), none, .bin .lss (.t 17) (.c (.int .i64 0))⟩, ⟨(some 19), none, .mv (.t 18)⟩, ⟨(some 20), (some (19, false)), .mv (.t 4)⟩, ⟨(some 21), (some (19, false)), .bin .lss (.t 20) (.c (.int .i64 0))⟩, ⟨(some 22), none, .pick (.t 19) (.c (.bool true)) (.t 21)⟩, ⟨(some 23), none, .mv (.t 22)⟩, ⟨(some 24), (some (23, false)), .mv (.t 0)⟩, ⟨(some 25), (some (23, false)), .mv (.t 12)⟩, ⟨(some 26), (some (23, false)), .bin .add (.t 25) (.c (.int .i64 3))⟩, ⟨(some 27), (some (23, false)), .bin .rem (.t 26) (.c (.int .i64 7))⟩, ⟨(some 28), (some (23, false)), .bin .neq (.t 24) (.t 27)⟩, ⟨(some 29), none, .pick (.t 23) (.c (.bool true)) (.t 28)⟩])
  (.cond (.t 29)
    (.seq (.region [⟨(some 10), none, .mv (.c (.int .i64 0))⟩, ⟨(some 11), none, .mv (.c (.bool false))⟩])
    .ret)
    .skip))
  (.seq (.region [⟨(some 30), none, .mv (.t 12)⟩, ⟨(some 31), none, .bin .mul (.t 30) (.c (.int .i64 86400))⟩, ⟨(some 32), none, .mv (.t 4)⟩, ⟨(some 33), none, .bin .add (.t 31) (.t 32)⟩, ⟨(some 10), none, .mv (.t 33)⟩, ⟨(some 11), none, .mv (.c (.bool true))⟩])
  .ret))))⟩
/-- gatepost/gatepostref02.find -/
def c_gatepostref02_find : FnC := ⟨19, [.tmp 4],
  (.seq (.region [⟨(some 4), none, .mv (.c (.int .i64 0))⟩])
  (.seq (.seq (.region [⟨(some 5), none, .mv (.c (.int .i64 0))⟩])
  (.block 0 (.loop
    (.seq (.seq (.region [⟨(some 6), none, .mv (.t 5)⟩, ⟨(some 7), none, .mv (.t 0)⟩, ⟨(some 8), none, .len 1 (.t 7)⟩, ⟨(some 9), none, .bin .lss (.t 6) (.t 8)⟩])
    (.cond (.t 9)
      .skip
      (.exit 0)))
    (.seq (.block 1 (.seq (.region [⟨(some 12), none, .mv (.t 0)⟩, ⟨(some 13), none, .mv (.t 5)⟩, ⟨(some 14), none, .ixaSl 1 (.t 12) (.t 13)⟩, ⟨(some 15), none, .load false 1 (.t 14)⟩, ⟨(some 16), none, .mv (.t 1)⟩, ⟨(some 17), none, .bin .eql (.t 15) (.t 16)⟩])
    (.cond (.t 17)
      (.seq (.region [⟨(some 18), none, .mv (.t 5)⟩, ⟨(some 4), none, .mv (.t 18)⟩])
      .ret)
      .skip)))
    (.region [⟨(some 10), none, .mv (.t 5)⟩, ⟨(some 11), none, .bin .add (.t 10) (.c (.int .i64 1))⟩, ⟨(some 5), none, .mv (.t 11)⟩]))))))
  (.seq (.region [⟨(some 4), none, .mv (.c (.int .i64 (-1)))⟩])
  .ret)))⟩
/-- gatepost/gatepostref02.short -/
def c_gatepostref02_short : FnC := ⟨2, [.tmp 0],
  (.seq (.region [⟨(some 0), none, .mv (.c .nsl)⟩])
  (.seq (.region [⟨(some 1), none, .bsl 1 [(.c (.str [77, 111, 110])), (.c (.str [84, 117, 101])), (.c (.str [87, 101, 100])), (.c (.str [84, 104, 117])), (.c (.str [70, 114, 105])), (.c (.str [83, 97, 116])), (.c (.str [83, 117, 110]))]⟩, ⟨(some 0), none, .mv (.t 1)⟩])
  .ret))⟩
/-- gatepost/gatepostref02.number -/
def c_gatepostref02_number : FnC := ⟨30, [.tmp 2],
  (.seq (.region [⟨(some 2), none, .mv (.c (.int .i64 0))⟩])
  (.seq (.region [⟨(some 3), none, .mv (.c (.int .i64 0))⟩])
  (.seq (.seq (.region [⟨(some 4), none, .mv (.c (.int .i64 0))⟩])
  (.block 0 (.loop
    (.seq (.seq (.region [⟨(some 5), none, .mv (.t 4)⟩, ⟨(some 6), none, .mv (.t 0)⟩, ⟨(some 7), none, .len 0 (.t 6)⟩, ⟨(some 8), none, .bin .lss (.t 5) (.t 7)⟩])
    (.cond (.t 8)
      .skip
      (.exit 0)))
    (.seq (.block 1 (.seq (.seq (.region [⟨(some 11), none, .mv (.t 0)⟩, ⟨(some 12), none, .mv (.t 4)⟩, ⟨(some 13), none, .ixStr (.t 11) (.t 12)⟩, ⟨(some 14), none, .bin .lss (.t 13) (.c (.int .u8 48))⟩, ⟨(some 15), none, .mv (.t 14)⟩, ⟨(some 16), (some (15, false)), .mv (.t 0)⟩, ⟨(some 17), (some (15, false)), .mv (.t 4)⟩, ⟨(some 18), (some (15, false)), .ixStr (.t 16) (.t 17)⟩, ⟨(some 19), (some (15, false)), .bin .gtr (.t 18) (.c (.int .u8 57))⟩, ⟨(some 20), none, .pick (.t 15) (.c (.bool true)) (.t 19)⟩])
    (.cond (.t 20)
      (.seq (.region [⟨(some 2), none, .mv (.c (.int .i64 (-1)))⟩])
      .ret)
      .skip))
    (.region [⟨(some 21), none, .mv (.t 3)⟩, ⟨(some 22), none, .bin .mul (.t 21) (.c (.int .i64 10))⟩, ⟨(some 23), none, .mv (.t 0)⟩, ⟨(some 24), none, .mv (.t 4)⟩, ⟨(some 25), none, .ixStr (.t 23) (.t 24)⟩, ⟨(some 26), none, .bin .sub (.t 25) (.c (.int .u8 48))⟩, ⟨(some 27), none, .toInt .i64 (.t 26)⟩, ⟨(some 28), none, .bin .add (.t 22) (.t 27)⟩, ⟨(some 3), none, .mv (.t 28)⟩])))
    (.region [⟨(some 9), none, .mv (.t 4)⟩, ⟨(some 10), none, .bin .add (.t 9) (.c (.int .i64 1))⟩, ⟨(some 4), none, .mv (.t 10)⟩]))))))
  (.seq (.region [⟨(some 29), none, .mv (.t 3)⟩, ⟨(some 2), none, .mv (.t 29)⟩])
  .ret))))⟩
/-- gatepost/gatepostref02.months -/
def c_gatepostref02_months : FnC := ⟨2, [.tmp 0],
  (.seq (.region [⟨(some 0), none, .mv (.c .nsl)⟩])
  (.seq (.region [⟨(some 1), none, .bsl 1 [(.c (.str [74, 97, 110])), (.c (.str [70, 101, 98])), (.c (.str [77, 97, 114])), (.c (.str [65, 112, 114])), (.c (.str [77, 97, 121])), (.c (.str [74, 117, 110])), (.c (.str [74, 117, 108])), (.c (.str [65, 117, 103])), (.c (.str [83, 101, 112])), (.c (.str [79, 99, 116])), (.c (.str [78, 111, 118])), (.c (.str [68, 101, 99]))]⟩, ⟨(some 0), none, .mv (.t 1)⟩])
  .ret))⟩
/-- gatepost/gatepostref02.clock -/
def c_gatepostref02_clock : FnC := ⟨59, [.tmp 2],
  (.seq (.region [⟨(some 2), none, .mv (.c (.int .i64 0))⟩])
  (.seq (.seq (.region [⟨(some 6), none, .mv (.t 0)⟩, ⟨(some 7), none, .len 0 (.t 6)⟩, ⟨(some 8), none, .bin .neq (.t 7) (.c (.int .i64 8))⟩, ⟨(some 9), none, .mv (.t 8)⟩, ⟨(some 10), (some (9, false)), .mv (.t 0)⟩, ⟨(some 11), (some (9, false)), .ixStr (.t 10) (.c (.int .i64 2))⟩, ⟨(some 12), (some (9, false)), .bin .neq (.t 11) (.c (.int .u8 58))⟩, ⟨(some 13), none, .pick (.t 9) (.c (.bool true)) (.t 12)⟩, ⟨(some 14), none, .mv (.t 13)⟩, ⟨(some 15), (some (14, false)), .mv (.t 0)⟩, ⟨(some 16), (some (14, false)), .ixStr (.t 15) (.c (.int .i64 5))⟩, ⟨(some 17), (some (14, false)), .bin .neq (.t 16) (.c (.int .u8 58))⟩, ⟨(some 18), none, .pick (.t 14) (.c (.bool true)) (.t 17)⟩])
  (.cond (.t 18)
    (.seq (.region [⟨(some 2), none, .mv (.c (.int .i64 (-1)))⟩])
    .ret)
    .skip))
  (.seq (.region [⟨(some 19), none, .mv (.t 0)⟩, ⟨(some 20), none, .slstr (.t 19) none (some (.c (.int .i64 2)))⟩, ⟨(some 21), none, .call i_gatepostref02_number [(.t 20)]⟩, ⟨(some 3), none, .mv (.t 21)⟩])
  (.seq (.region [⟨(some 22), none, .mv (.t 0)⟩, ⟨(some 23), none, .slstr (.t 22) (some (.c (.int .i64 3))) (some (.c (.int .i64 5)))⟩, ⟨(some 24), none, .call i_gatepostref02_number [(.t 23)]⟩, ⟨(some 4), none, .mv (.t 24)⟩])
  (.seq (.region [⟨(some 25), none, .mv (.t 0)⟩, ⟨(some 26), none, .slstr (.t 25) (some (.c (.int .i64 6))) none⟩, ⟨(some 27), none, .call i_gatepostref02_number [(.t 26)]⟩, ⟨(some 5), none, .mv (.t 27)⟩])
  (.seq (.seq (.region [⟨(some 28), none, .mv (.t 3)⟩, ⟨(some 29), none, .bin .lss (.t 28) (.c (.int .i64 0))⟩, ⟨(some 30), none, .mv (.t 29)⟩, ⟨(some 31), (some (30, false)), .mv (.t 3)⟩, ⟨(some 32), (some (30, false)), .bin .gtr (.t 31) (.c (.int .i64 23))⟩, ⟨(some 33), none, .pick (.t 30) (.c (.bool true)) (.t 32)⟩, ⟨(some 34), none, .mv (.t 33)⟩, ⟨(some 35), (some (34, false)), .mv (.t 4)⟩, ⟨(some 36), (some (34, false)), .bin .lss (.t 35) (.c (.int .i64 0))⟩, ⟨(some 37), none, .pick (.t 34) (.c (.bool true)) (.t 36)⟩, ⟨(some 38), none, .mv (.t 37)⟩, ⟨(some 39), (some (38, false)), .mv (.t 4)⟩, ⟨(some 40), (some (38, false)), .bin .gtr (.t 39) (.c (.int .i64 59))⟩, ⟨(some 41), none, .pick (.t 38) (.c (.bool true)) (.t 40)⟩, ⟨(some 42), none, .mv (.t 41)⟩, ⟨(some 43), (some (42, false)), .mv (.t 5)⟩, ⟨(some 44), (some (42, false)), .bin .lss (.t 43) (.c (.int .i64 0))⟩, ⟨(some 45), none, .pick (.t 42) (.c (.bool true)) (.t 44)⟩, ⟨(some 46), none, .mv (.t 45)⟩, ⟨(some 47), (some (46, false)), .mv (.t 5)⟩, ⟨(some 48), (some (46, false)), .bin .gtr (.t 47) (.c (.int .i64 60))⟩, ⟨(some 49), none, .pick (.t 46) (.c (.bool true)) (.t 48)⟩])
  (.cond (.t 49)
    (.seq (.region [⟨(some 2), none, .mv (.c (.int .i64 (-1)))⟩])
    .ret)
    .skip))
  (.seq (.seq (.region [⟨(some 50), none, .mv (.t 5)⟩, ⟨(some 51), none, .bin .eql (.t 50) (.c (.int .i64 60))⟩])
  (.cond (.t 51)
    (.region [⟨(some 5), none, .mv (.c (.int .i64 59))⟩])
    .skip))
  (.seq (.region [⟨(some 52), none, .mv (.t 3)⟩, ⟨(some 53), none, .bin .mul (.t 52) (.c (.int .i64 3600))⟩, ⟨(some 54), none, .mv (.t 4)⟩, ⟨(some 55), none, .bin .mul (.t 54) (.c (.int .i64 60))⟩, ⟨(some 56), none, .bin .add (.t 53) (.t 55)⟩, ⟨(some 57), none, .mv (.t 5)⟩, ⟨(some 58), none, .bin .add (.t 56) (.t 57)⟩, ⟨(some 2), none, .mv (.t 58)⟩])
  .ret))))))))⟩
/-- strings.CutPrefix -/
def c_strings_CutPrefix : FnC := ⟨11, [.tmp 4, .tmp 5],
  (.seq (.region [⟨(some 4), none, .mv (.c (.str []))⟩, ⟨(some 5), none, .mv (.c (.bool false))⟩])
  (.seq (.region [⟨(some 6), none, .mv (.t 0)⟩, ⟨(some 7), none, .mv (.t 1)⟩, ⟨(some 8), none, .call i_internal_stringslite_CutPrefix [(.t 6), (.t 7)]⟩, ⟨(some 9), none, .ext 0 (.t 8)⟩, ⟨(some 10), none, .ext 1 (.t 8)⟩, ⟨(some 4), none, .mv (.t 9)⟩, ⟨(some 5), none, .mv (.t 10)⟩])
  .ret))⟩
/-- strings.CutSuffix -/
def c_strings_CutSuffix : FnC := ⟨11, [.tmp 4, .tmp 5],
  (.seq (.region [⟨(some 4), none, .mv (.c (.str []))⟩, ⟨(some 5), none, .mv (.c (.bool false))⟩])
  (.seq (.region [⟨(some 6), none, .mv (.t 0)⟩, ⟨(some 7), none, .mv (.t 1)⟩, ⟨(some 8), none, .call i_internal_stringslite_CutSuffix [(.t 6), (.t 7)]⟩, ⟨(some 9), none, .ext 0 (.t 8)⟩, ⟨(some 10), none, .ext 1 (.t 8)⟩, ⟨(some 4), none, .mv (.t 9)⟩, ⟨(some 5), none, .mv (.t 10)⟩])
  .ret))⟩
/-- gatepost/date.Civil -/
def c_date_Civil : FnC := ⟨70, [.tmp 2, .tmp 3, .tmp 4],
  (.seq (.region [⟨(some 2), none, .mv (.c (.int .i64 0))⟩, ⟨(some 3), none, .mv (.c (.int .i64 0))⟩, ⟨(some 4), none, .mv (.c (.int .i64 0))⟩])
  (.seq (.seq (.region [⟨(some 11), none, .mv (.t 0)⟩, ⟨(some 12), none, .bin .lss (.t 11) (.c (.int .i64 0))⟩, ⟨(some 13), none, .mv (.t 12)⟩, ⟨(some 14), (some (13, false)), .mv (.t 0)⟩, ⟨(some 15), (some (13, false)), .bin .gtr (.t 14) (.c (.int .i64 2932896))⟩, ⟨(some 16), none, .pick (.t 13) (.c (.bool true)) (.t 15)⟩])
  (.cond (.t 16)
    (.seq (.region [⟨(some 2), none, .mv (.c (.int .i64 0))⟩, ⟨(some 3), none, .mv (.c (.int .i64 0))⟩, ⟨(some 4), none, .mv (.c (.int .i64 0))⟩])
    .ret)
    .skip))
  (.seq (.region [⟨(some 17), none, .mv (.t 0)⟩, ⟨(some 18), none, .bin .add (.t 17) (.c (.int .i64 719468))⟩, ⟨(some 5), none, .mv (.t 18)⟩])
  (.seq (.region [⟨(some 19), none, .mv (.t 5)⟩, ⟨(some 20), none, .bin .quo (.t 19) (.c (.int .i64 146097))⟩, ⟨(some 21), none, .mv (.t 5)⟩, ⟨(some 22), none, .bin .rem (.t 21) (.c (.int .i64 146097))⟩, ⟨(some 6), none, .mv (.t 20)⟩, ⟨(some 7), none, .mv (.t 22)⟩])
  (.seq (.region [⟨(some 23), none, .mv (.t 7)⟩, ⟨(some 24), none, .mv (.t 7)⟩, ⟨(some 25), none, .bin .quo (.t 24) (.c (.int .i64 1460))⟩, ⟨(some 26), none, .bin .sub (.t 23) (.t 25)⟩, ⟨(some 27), none, .mv (.t 7)⟩, ⟨(some 28), none, .bin .quo (.t 27) (.c (.int .i64 36524))⟩, ⟨(some 29), none, .bin .add (.t 26) (.t 28)⟩, ⟨(some 30), none, .mv (.t 7)⟩, ⟨(some 31), none, .bin .quo (.t 30) (.c (.int .i64 146096))⟩, ⟨(some 32), none, .bin .sub (.t 29) (.t 31)⟩, ⟨(some 33), none, .bin .quo (.t 32) (.c (.int .i64 365))⟩, ⟨(some 8), none, .mv (.t 33)⟩])
  (.seq (.region [⟨(some 34), none, .mv (.t 7)⟩, ⟨(some 35), none, .mv (.t 8)⟩, ⟨(some 36), none, .bin .mul (.c (.int .i64 365)) (.t 35)⟩, ⟨(some 37), none, .mv (.t 8)⟩, ⟨(some 38), none, .bin .quo (.t 37) (.c (.int .i64 4))⟩, ⟨(some 39), none, .bin .add (.t 36) (.t 38)⟩, ⟨(some 40), none, .mv (.t 8)⟩, ⟨(some 41), none, .bin .quo (.t 40) (.c (.int .i64 100))⟩, ⟨(some 42), none, .bin .sub (.t 39) (.t 41)⟩, ⟨(some 43), none, .bin .sub (.t 34) (.t 42)⟩, ⟨(some 9), none, .mv (.t 43)⟩])
  (.seq (.region [⟨(some 44), none, .mv (.t 9)⟩, ⟨(some 45), none, .bin .mul (.c (.int .i64 5)) (.t 44)⟩, ⟨(some 46), none, .bin .add (.t 45) (.c (.int .i64 2))⟩, ⟨(some 47), none, .bin .quo (.t 46) (.c (.int .i64 153))⟩, ⟨(some 10), none, .mv (.t 47)⟩])
  (.seq (.region [⟨(some 48), none, .mv (.t 9)⟩, ⟨(some 49), none, .mv (.t 10)⟩, ⟨(some 50), none, .bin .mul (.c (.int .i64 153)) (.t 49)⟩, ⟨(some 51), none, .bin .add (.t 50) (.c (.int .i64 2))⟩, ⟨(some 52), none, .bin .quo (.t 51) (.c (.int .i64 5))⟩, ⟨(some 53), none, .bin .sub (.t 48) (.t 52)⟩, ⟨(some 54), none, .bin .add (.t 53) (.c (.int .i64 1))⟩, ⟨(some 4), none, .mv (.t 54)⟩])
  (.seq (.region [⟨(some 55), none, .mv (.t 10)⟩, ⟨(some 56), none, .bin .add (.t 55) (.c (.int .i64 3))⟩, ⟨(some 3), none, .mv (.t 56)⟩])
  (.seq (.region [⟨(some 57), none, .mv (.t 8)⟩, ⟨(some 58), none, .mv (.t 6)⟩, ⟨(some 59), none, .bin .mul (.c (.int .i64 400)) (.t 58)⟩, ⟨(some 60), none, .bin .add (.t 57) (.t 59)⟩, ⟨(some 2), none, .mv (.t 60)⟩])
  (.seq (.seq (.region [⟨(some 61), none, .mv (.t 3)⟩, ⟨(some 62), none, .bin .gtr (.t 61) (.c (.int .i64 12))⟩])
  (.cond (.t 62)
    (.seq (.region [⟨(some 63), none, .mv (.t 3)⟩, ⟨(some 64), none, .bin .sub (.t 63) (.c (.int .i64 12))⟩, ⟨(some 3), none, .mv (.t 64)⟩])
    (.region [⟨(some 65), none, .mv (.t 2)⟩, ⟨(some 66), none, .bin .add (.t 65) (.c (.int .i64 1))⟩, ⟨(some 2), none, .mv (.t 66)⟩]))
    .skip))
  (.seq (.region [⟨(some 67), none, .mv (.t 2)⟩, ⟨(some 68), none, .mv (.t 3)⟩, ⟨(some 69), none, .mv (.t 4)⟩, ⟨(some 2), none, .mv (.t 67)⟩, ⟨(some 3), none, .mv (.t 68)⟩, ⟨(some 4), none, .mv (.t 69)⟩])
  .ret))))))))))))⟩
/-- gatepost/date.longDays -/
def c_date_longDays : FnC := ⟨2, [.cell 0 true 7],
  (.seq (.region [⟨(some 0), none, .boxz [(.str []), (.str []), (.str []), (.str []), (.str []), (.str []), (.str [])]⟩])
  (.seq (.region [⟨(some 1), none, .build [(.str []), (.str []), (.str []), (.str []), (.str []), (.str []), (.str [])] [(0, 1, (.c (.str [77, 111, 110, 100, 97, 121]))), (1, 1, (.c (.str [84, 117, 101, 115, 100, 97, 121]))), (2, 1, (.c (.str [87, 101, 100, 110, 101, 115, 100, 97, 121]))), (3, 1, (.c (.str [84, 104, 117, 114, 115, 100, 97, 121]))), (4, 1, (.c (.str [70, 114, 105, 100, 97, 121]))), (5, 1, (.c (.str [83, 97, 116, 117, 114, 100, 97, 121]))), (6, 1, (.c (.str [83, 117, 110, 100, 97, 121])))]⟩, ⟨none, none, .store 7 (.t 0) (.t 1)⟩])
  .ret))⟩
/-- gatepost/date.pad -/
def c_date_pad : FnC := ⟨15, [.tmp 4],
  (.seq (.region [⟨(some 4), none, .mv (.c (.str []))⟩])
  (.seq (.region [⟨(some 6), none, .mv (.t 0)⟩, ⟨(some 7), none, .call i_strconv_Itoa [(.t 6)]⟩, ⟨(some 5), none, .mv (.t 7)⟩])
  (.seq (.block 0 (.loop
    (.seq (.seq (.region [⟨(some 8), none, .mv (.t 5)⟩, ⟨(some 9), none, .len 0 (.t 8)⟩, ⟨(some 10), none, .mv (.t 1)⟩, ⟨(some 11), none, .bin .lss (.t 9) (.t 10)⟩])
    (.cond (.t 11)
      .skip
      (.exit 0)))
    (.block 1 (.region [⟨(some 12), none, .mv (.t 5)⟩, ⟨(some 13), none, .bin .add (.c (.str [48])) (.t 12)⟩, ⟨(some 5), none, .mv (.t 13)⟩])))))
  (.seq (.region [⟨(some 14), none, .mv (.t 5)⟩, ⟨(some 4), none, .mv (.t 14)⟩])
  .ret))))⟩
/-- gatepost/date.monthNames -/
def c_date_monthNames : FnC := ⟨2, [.cell 0 true 12],
  (.seq (.region [⟨(some 0), none, .boxz [(.str []), (.str []), (.str []), (.str []), (.str []), (.str []), (.str []), (.str []), (.str []), (.str []), (.str []), (.str [])]⟩])
  (.seq (.region [⟨(some 1), none, .build [(.str []), (.str []), (.str []), (.str []), (.str []), (.str []), (.str []), (.str []), (.str []), (.str []), (.str []), (.str [])] [(0, 1, (.c (.str [74, 97, 110]))), (1, 1, (.c (.str [70, 101, 98]))), (2, 1, (.c (.str [77, 97, 114]))), (3, 1, (.c (.str [65, 112, 114]))), (4, 1, (.c (.str [77, 97, 121]))), (5, 1, (.c (.str [74, 117, 110]))), (6, 1, (.c (.str [74, 117, 108]))), (7, 1, (.c (.str [65, 117, 103]))), (8, 1, (.c (.str [83, 101, 112]))), (9, 1, (.c (.str [79, 99, 116]))), (10, 1, (.c (.str [78, 111, 118]))), (11, 1, (.c (.str [68, 101, 99])))]⟩, ⟨none, none, .store 12 (.t 0) (.t 1)⟩])
  .ret))⟩
/-- gatepost/gatepostref02.Civil -/
def c_gatepostref02_Civil : FnC := ⟨39, [.tmp 2, .tmp 3, .tmp 4],
  (.seq (.region [⟨(some 2), none, .mv (.c (.int .i64 0))⟩, ⟨(some 3), none, .mv (.c (.int .i64 0))⟩, ⟨(some 4), none, .mv (.c (.int .i64 0))⟩])
  (.seq (.seq (.region [⟨(some 7), none, .mv (.t 0)⟩, ⟨(some 8), none, .bin .lss (.t 7) (.c (.int .i64 0))⟩, ⟨(some 9), none, .mv (.t 8)⟩, ⟨(some 10), (some (9, false)), .mv (.t 0)⟩, ⟨(some 11), (some (9, false)), .bin .gtr (.t 10) (.c (.int .i64 2932896))⟩, ⟨(some 12), none, .pick (.t 9) (.c (.bool true)) (.t 11)⟩])
  (.cond (.t 12)
    (.seq (.region [⟨(some 2), none, .mv (.c (.int .i64 0))⟩, ⟨(some 3), none, .mv (.c (.int .i64 0))⟩, ⟨(some 4), none, .mv (.c (.int .i64 0))⟩])
    .ret)
    .skip))
  (.seq (.region [⟨(some 5), none, .mv (.c (.int .i64 1970))⟩])
  (.seq (.block 0 (.loop
    (.seq (.seq (.region [⟨(some 13), none, .mv (.t 0)⟩, ⟨(some 14), none, .mv (.t 5)⟩, ⟨(some 15), none, .call i_gatepostref02_year [(.t 14)]⟩, ⟨(some 16), none, .bin .geq (.t 13) (.t 15)⟩])
    (.cond (.t 16)
      .skip
      (.exit 0)))
    (.block 1 (.seq (.region [⟨(some 17), none, .mv (.t 0)⟩, ⟨(some 18), none, .mv (.t 5)⟩, ⟨(some 19), none, .call i_gatepostref02_year [(.t 18)]⟩, ⟨(some 20), none, .bin .sub (.t 17) (.t 19)⟩, ⟨(some 0), none, .mv (.t 20)⟩])
    (.region [⟨(some 21), none, .mv (.t 5)⟩, ⟨(some 22), none, .bin .add (.t 21) (.c (.int .i64 1))⟩, ⟨(some 5), none, .mv (.t 22)⟩]))))))
  (.seq (.region [⟨(some 6), none, .mv (.c (.int .i64 1))⟩])
  (.seq (.block 2 (.loop
    (.seq (.seq (.region [⟨(some 23), none, .mv (.t 0)⟩, ⟨(some 24), none, .mv (.t 5)⟩, ⟨(some 25), none, .mv (.t 6)⟩, ⟨(some 26), none, .call i_gatepostref02_long [(.t 24), (.t 25)]⟩, ⟨(some 27), none, .bin .geq (.t 23) (.t 26)⟩])
    (.cond (.t 27)
      .skip
      (.exit 2)))
    (.block 3 (.seq (.region [⟨(some 28), none, .mv (.t 0)⟩, ⟨(some 29), none, .mv (.t 5)⟩, ⟨(some 30), none, .mv (.t 6)⟩, ⟨(some 31), none, .call i_gatepostref02_long [(.t 29), (.t 30)]⟩, ⟨(some 32), none, .bin .sub (.t 28) (.t 31)⟩, ⟨(some 0), none, .mv (.t 32)⟩])
    (.region [⟨(some 33), none, .mv (.t 6)⟩, ⟨(some 34), none, .bin .add (.t 33) (.c (.int .i64 1))⟩, ⟨(some 6), none, .mv (.t 34)⟩]))))))
  (.seq (.region [⟨(some 35), none, .mv (.t 5)⟩, ⟨(some 36), none, .mv (.t 6)⟩, ⟨(some 37), none, .mv (.t 0)⟩, ⟨(some 38), none, .bin .add (.t 37) (.c (.int .i64 1))⟩, ⟨(some 2), none, .mv (.t 35)⟩, ⟨(some 3), none, .mv (.t 36)⟩, ⟨(some 4), none, .mv (.t 38)⟩])
  .ret)))))))⟩
/-- gatepost/gatepostref02.two -/
def c_gatepostref02_two : FnC := ⟨16, [.tmp 2],
  (.seq (.region [⟨(some 2), none, .mv (.c (.str []))⟩])
  (.seq (.dregion [⟨(some 3), none, .mv (.t 0)⟩, ⟨(some 4), none, .bin .quo (.t 3) (.c (.int .i64 10))⟩, ⟨(some 5), none, .mv (.t 0)⟩, ⟨(some 6), none, .bin .quo (.t 5) (.c (.int .i64 10))⟩, ⟨(some 7), none, .bin .add (.t 6) (.c (.int .i64 1))⟩, ⟨(some 8), none, .slstr (.c (.str [48, 49, 50, 51, 52, 53, 54, 55, 56, 57])) (some (.t 4)) (some (.t 7))⟩, ⟨(some 9), none, .mv (.t 0)⟩, ⟨(some 10), none, .bin .rem (.t 9) (.c (.int .i64 10))⟩, ⟨(some 11), none, .mv (.t 0)⟩, ⟨(some 12), none, .bin .rem (.t 11) (.c (.int .i64 10))⟩, ⟨(some 13), none, .bin .add (.t 12) (.c (.int .i64 1))⟩, ⟨(some 14), none, .slstr (.c (.str [48, 49, 50, 51, 52, 53, 54, 55, 56, 57])) (some (.t 10)) (some (.t 13))⟩] [⟨(some 15), none, .bin .add (.t 8) (.t 14)⟩, ⟨(some 2), none, .mv (.t 15)⟩])
  .ret))⟩
/-- gatepost/token.Lower -/
def c_token_Lower : FnC := ⟨29, [.tmp 2],
  (.seq (.region [⟨(some 2), none, .mv (.c (.str []))⟩])
  (.seq (.region [⟨(some 6), none, .mv (.t 0)⟩, ⟨(some 7), none, .toBytes (.t 6)⟩, ⟨(some 3), none, .mv (.t 7)⟩])
  (.seq (.seq (.region [⟨(some 8), none, .mv (.t 3)⟩, ⟨(some 9), none, .len 1 (.t 8)⟩, ⟨(some 10), none, .mv (.c (.int .i64 0))⟩])
  (.block 0 (.loop
    (.seq (.region [⟨(some 11), none, .bin .lss (.t 10) (.t 9)⟩])
    (.seq (.cond (.t 11)
      .skip
      (.exit 0))
    (.seq (.block 1 (.seq (.region [⟨(some 12), none, .mv (.t 10)⟩, ⟨(some 13), none, .ixaSl 1 (.t 8) (.t 10)⟩, ⟨(some 14), none, .load false 1 (.t 13)⟩, ⟨(some 4), none, .mv (.t 12)⟩, ⟨(some 5), none, .mv (.t 14)⟩])
    (.seq (.region [⟨(some 15), none, .mv (.t 5)⟩, ⟨(some 16), none, .bin .geq (.t 15) (.c (.int .u8 65))⟩, ⟨(some 17), none, .mv (.t 16)⟩, ⟨(some 18), (some (17, true)), .mv (.t 5)⟩, ⟨(some 19), (some (17, true)), .bin .leq (.t 18) (.c (.int .u8 90))⟩, ⟨(some 20), none, .pick (.t 17) (.t 19) (.c (.bool false))⟩])
    (.cond (.t 20)
      (.region [⟨(some 21), none, .mv (.t 3)⟩, ⟨(some 22), none, .mv (.t 4)⟩, ⟨(some 23), none, .mv (.t 5)⟩, ⟨(some 24), none, .bin .or (.t 23) (.c (.int .u8 32))⟩, ⟨(some 25), none, .ixaSl 1 (.t 21) (.t 22)⟩, ⟨none, none, .store 1 (.t 25) (.t 24)⟩])
      .skip))))
    (.region [⟨(some 26), none, .bin .add (.t 10) (.c (.int .i64 1))⟩, ⟨(some 10), none, .mv (.t 26)⟩])))))))
  (.seq (.region [⟨(some 27), none, .mv (.t 3)⟩, ⟨(some 28), none, .toStr (.t 27)⟩, ⟨(some 2), none, .mv (.t 28)⟩])
  .ret))))⟩
/-- gatepost/token.Split$1 -/
def c_token_Split_1 : FnC := ⟨19, [],
  (.seq (.seq (.region [⟨(some 6), none, .load false 1 (.t 1)⟩, ⟨(some 7), none, .load false 1 (.t 2)⟩, ⟨(some 8), none, .mv (.t 0)⟩, ⟨(some 9), none, .slstr (.t 6) (some (.t 7)) (some (.t 8))⟩, ⟨(some 10), none, .call i_token_Trim [(.t 9)]⟩, ⟨(some 5), none, .mv (.t 10)⟩])
  (.seq (.region [⟨(some 11), none, .mv (.t 5)⟩, ⟨(some 12), none, .bin .neq (.t 11) (.c (.str []))⟩])
  (.cond (.t 12)
    (.region [⟨(some 13), none, .load false 1 (.t 3)⟩, ⟨(some 14), none, .mv (.t 5)⟩, ⟨(some 15), none, .bsl 1 [(.t 14)]⟩, ⟨(some 16), none, .app 1 16 false (.t 13) (.t 15)⟩, ⟨none, none, .store 1 (.t 3) (.t 16)⟩])
    .skip)))
  (.region [⟨(some 17), none, .mv (.t 0)⟩, ⟨(some 18), none, .bin .add (.t 17) (.c (.int .i64 1))⟩, ⟨none, none, .store 1 (.t 2) (.t 18)⟩]))⟩
/-- gatepost/token.Trim -/
def c_token_Trim : FnC := ⟨5, [.tmp 2],
  (.seq (.region [⟨(some 2), none, .mv (.c (.str []))⟩])
  (.seq (.region [⟨(some 3), none, .mv (.t 0)⟩, ⟨(some 4), none, .call i_strings_Trim [(.t 3), (.c (.str [32, 9]))]⟩, ⟨(some 2), none, .mv (.t 4)⟩])
  .ret))⟩
/-- slices.IndexFunc[[]string,string] -/
def c_slices_IndexFunc___string_string_ : FnC := ⟨19, [.tmp 4],
  (.seq (.region [⟨(some 4), none, .mv (.c (.int .i64 0))⟩])
  (.seq (.seq (.region [⟨(some 6), none, .mv (.t 0)⟩, ⟨(some 7), none, .len 1 (.t 6)⟩, ⟨(some 8), none, .mv (.c (.int .i64 0))⟩])
  (.block 0 (.loop
    (.seq (.region [⟨(some 9), none, .bin .lss (.t 8) (.t 7)⟩])
    (.seq (.cond (.t 9)
      .skip
      (.exit 0))
    (.seq (.block 1 (.seq (.region [⟨(some 10), none, .mv (.t 8)⟩, ⟨(some 5), none, .mv (.t 10)⟩])
    (.seq (.region [⟨(some 11), none, .mv (.t 1)⟩, ⟨(some 12), none, .mv (.t 0)⟩, ⟨(some 13), none, .mv (.t 5)⟩, ⟨(some 14), none, .ixaSl 1 (.t 12) (.t 13)⟩, ⟨(some 15), none, .load false 1 (.t 14)⟩, ⟨(some 16), none, .callv (.t 11) [(.t 15)]⟩])
    (.cond (.t 16)
      (.seq (.region [⟨(some 17), none, .mv (.t 5)⟩, ⟨(some 4), none, .mv (.t 17)⟩])
      .ret)
      .skip))))
    (.region [⟨(some 18), none, .bin .add (.t 8) (.c (.int .i64 1))⟩, ⟨(some 8), none, .mv (.t 18)⟩])))))))
  (.seq (.region [⟨(some 4), none, .mv (.c (.int .i64 (-1)))⟩])
  .ret)))⟩
/-- (*gatepost/date.reader).day -/
def c___gatepost_date_reader__day : FnC := ⟨44, [.tmp 4],
  (.seq (.region [⟨(some 4), none, .mv (.c (.int .i64 0))⟩])
  (.seq (.seq (.region [⟨(some 7), none, .call i_date_longDays []⟩, ⟨(some 8), none, .mv (.c (.int .i64 0))⟩])
  (.block 0 (.loop
    (.seq (.region [⟨(some 9), none, .bin .lss (.t 8) (.c (.int .i64 7))⟩])
    (.seq (.cond (.t 9)
      .skip
      (.exit 0))
    (.seq (.block 1 (.seq (.region [⟨(some 10), none, .mv (.t 8)⟩, ⟨(some 11), none, .ixArr 7 1 false (.t 7) (.t 8)⟩, ⟨(some 5), none, .mv (.t 10)⟩, ⟨(some 6), none, .mv (.t 11)⟩])
    (.seq (.seq (.region [⟨(some 12), none, .mv (.t 1)⟩, ⟨(some 13), none, .un .not (.t 12)⟩])
    (.cond (.t 13)
      (.region [⟨(some 14), none, .mv (.t 6)⟩, ⟨(some 15), none, .slstr (.t 14) none (some (.c (.int .i64 3)))⟩, ⟨(some 6), none, .mv (.t 15)⟩])
      .skip))
    (.seq (.region [⟨(some 16), none, .mv (.t 0)⟩, ⟨(some 17), none, .nilck (.t 16)⟩, ⟨(some 18), none, .faddr 0 (.t 17)⟩, ⟨(some 19), none, .load false 1 (.t 18)⟩, ⟨(some 20), none, .len 0 (.t 19)⟩, ⟨(some 21), none, .mv (.t 6)⟩, ⟨(some 22), none, .len 0 (.t 21)⟩, ⟨(some 23), none, .bin .gtr (.t 20) (.t 22)⟩, ⟨(some 24), none, .mv (.t 23)⟩, ⟨(some 25), (some (24, true)), .mv (.t 0)⟩, ⟨(some 26), (some (24, true)), .nilck (.t 25)⟩, ⟨(some 27), (some (24, true)), .faddr 0 (.t 26)⟩, ⟨(some 28), (some (24, true)), .load false 1 (.t 27)⟩, ⟨(some 29), (some (24, true)), .mv (.t 6)⟩, ⟨(some 30), (some (24, true)), .len 0 (.t 29)⟩, ⟨(some 31), (some (24, true)), .slstr (.t 28) none (some (.t 30))⟩, ⟨(some 32), (some (24, true)), .mv (.t 6)⟩, ⟨(some 33), (some (24, true)), .bin .eql (.t 31) (.t 32)⟩, ⟨(some 34), none, .pick (.t 24) (.t 33) (.c (.bool false))⟩])
    (.cond (.t 34)
      (.seq (.region [⟨(some 35), none, .mv (.t 0)⟩, ⟨(some 36), none, .mv (.t 6)⟩, ⟨(some 37), none, .len 0 (.t 36)⟩, ⟨(some 38), none, .call i___gatepost_date_reader__take [(.t 35), (.t 37)]⟩])
      (.seq (.region [⟨(some 39), none, .mv (.t 5)⟩, ⟨(some 4), none, .mv (.t 39)⟩])
      .ret))
      .skip)))))
    (.region [⟨(some 40), none, .bin .add (.t 8) (.c (.int .i64 1))⟩, ⟨(some 8), none, .mv (.t 40)⟩])))))))
  (.seq (.region [⟨(some 41), none, .mv (.t 0)⟩, ⟨(some 42), none, .nilck (.t 41)⟩, ⟨(some 43), none, .faddr 1 (.t 42)⟩, ⟨none, none, .store 1 (.t 43) (.c (.bool false))⟩])
  (.seq (.region [⟨(some 4), none, .mv (.c (.int .i64 0))⟩])
  .ret))))⟩
/-- (*gatepost/date.reader).need -/
def c___gatepost_date_reader__need : FnC := ⟨13, [],
  (.seq (.region [⟨(some 4), none, .mv (.t 0)⟩, ⟨(some 5), none, .mv (.t 1)⟩, ⟨(some 6), none, .len 0 (.t 5)⟩, ⟨(some 7), none, .call i___gatepost_date_reader__take [(.t 4), (.t 6)]⟩, ⟨(some 8), none, .mv (.t 1)⟩, ⟨(some 9), none, .bin .neq (.t 7) (.t 8)⟩])
  (.cond (.t 9)
    (.region [⟨(some 10), none, .mv (.t 0)⟩, ⟨(some 11), none, .nilck (.t 10)⟩, ⟨(some 12), none, .faddr 1 (.t 11)⟩, ⟨none, none, .store 1 (.t 12) (.c (.bool false))⟩])
    .skip))⟩
/-- (*gatepost/date.reader).number -/
def c___gatepost_date_reader__number : FnC := ⟨25, [.tmp 4],
  (.seq (.region [⟨(some 2), none, .box (.t 0)⟩, ⟨(some 4), none, .mv (.c (.int .i64 0))⟩])
  (.seq (.region [⟨(some 9), none, .load false 1 (.t 2)⟩, ⟨(some 10), none, .mv (.t 1)⟩, ⟨(some 11), none, .call i___gatepost_date_reader__take [(.t 9), (.t 10)]⟩, ⟨(some 5), none, .mv (.t 11)⟩])
  (.seq (.region [⟨(some 6), none, .boxz [(.int .i64 0)]⟩, ⟨none, none, .store 1 (.t 6) (.c (.int .i64 0))⟩])
  (.seq (.region [⟨(some 12), none, .mkfn i___gatepost_date_reader__number_1 [(.t 2), (.t 6)]⟩, ⟨(some 7), none, .mv (.t 12)⟩])
  (.seq (.seq (.region [⟨(some 13), none, .mv (.t 5)⟩, ⟨(some 14), none, .len 0 (.t 13)⟩, ⟨(some 15), none, .mv (.c (.int .i64 0))⟩])
  (.block 0 (.loop
    (.seq (.region [⟨(some 16), none, .bin .lss (.t 15) (.t 14)⟩])
    (.seq (.cond (.t 16)
      .skip
      (.exit 0))
    (.seq (.block 1 (.seq (.region [⟨(some 17), none, .mv (.t 15)⟩, ⟨(some 8), none, .mv (.t 17)⟩])
    (.region [⟨(some 18), none, .mv (.t 7)⟩, ⟨(some 19), none, .mv (.t 5)⟩, ⟨(some 20), none, .mv (.t 8)⟩, ⟨(some 21), none, .ixStr (.t 19) (.t 20)⟩, ⟨(some 22), none, .callv (.t 18) [(.t 21)]⟩])))
    (.region [⟨(some 23), none, .bin .add (.t 15) (.c (.int .i64 1))⟩, ⟨(some 15), none, .mv (.t 23)⟩])))))))
  (.seq (.region [⟨(some 24), none, .load false 1 (.t 6)⟩, ⟨(some 4), none, .mv (.t 24)⟩])
  .ret))))))⟩
/-- (*gatepost/date.reader).month -/
def c___gatepost_date_reader__month : FnC := ⟨22, [.tmp 2],
  (.seq (.region [⟨(some 2), none, .mv (.c (.int .i64 0))⟩])
  (.seq (.region [⟨(some 6), none, .mv (.t 0)⟩, ⟨(some 7), none, .call i___gatepost_date_reader__take [(.t 6), (.c (.int .i64 3))]⟩, ⟨(some 3), none, .mv (.t 7)⟩])
  (.seq (.seq (.region [⟨(some 8), none, .call i_date_monthNames []⟩, ⟨(some 9), none, .mv (.c (.int .i64 0))⟩])
  (.block 0 (.loop
    (.seq (.region [⟨(some 10), none, .bin .lss (.t 9) (.c (.int .i64 12))⟩])
    (.seq (.cond (.t 10)
      .skip
      (.exit 0))
    (.seq (.block 1 (.seq (.region [⟨(some 11), none, .mv (.t 9)⟩, ⟨(some 12), none, .ixArr 12 1 false (.t 8) (.t 9)⟩, ⟨(some 4), none, .mv (.t 11)⟩, ⟨(some 5), none, .mv (.t 12)⟩])
    (.seq (.region [⟨(some 13), none, .mv (.t 5)⟩, ⟨(some 14), none, .mv (.t 3)⟩, ⟨(some 15), none, .bin .eql (.t 13) (.t 14)⟩])
    (.cond (.t 15)
      (.seq (.region [⟨(some 16), none, .mv (.t 4)⟩, ⟨(some 17), none, .bin .add (.t 16) (.c (.int .i64 1))⟩, ⟨(some 2), none, .mv (.t 17)⟩])
      .ret)
      .skip))))
    (.region [⟨(some 18), none, .bin .add (.t 9) (.c (.int .i64 1))⟩, ⟨(some 9), none, .mv (.t 18)⟩])))))))
  (.seq (.region [⟨(some 19), none, .mv (.t 0)⟩, ⟨(some 20), none, .nilck (.t 19)⟩, ⟨(some 21), none, .faddr 1 (.t 20)⟩, ⟨none, none, .store 1 (.t 21) (.c (.bool false))⟩])
  (.seq (.region [⟨(some 2), none, .mv (.c (.int .i64 0))⟩])
  .ret)))))⟩
/-- (*gatepost/date.reader).clock -/
def c___gatepost_date_reader__clock : FnC := ⟨37, [.tmp 2],
  (.seq (.region [⟨(some 2), none, .mv (.c (.int .i64 0))⟩])
  (.seq (.region [⟨(some 6), none, .mv (.t 0)⟩, ⟨(some 7), none, .call i___gatepost_date_reader__number [(.t 6), (.c (.int .i64 2))]⟩, ⟨(some 3), none, .mv (.t 7)⟩])
  (.seq (.region [⟨(some 8), none, .mv (.t 0)⟩, ⟨(some 9), none, .call i___gatepost_date_reader__need [(.t 8), (.c (.str [58]))]⟩])
  (.seq (.region [⟨(some 10), none, .mv (.t 0)⟩, ⟨(some 11), none, .call i___gatepost_date_reader__number [(.t 10), (.c (.int .i64 2))]⟩, ⟨(some 4), none, .mv (.t 11)⟩])
  (.seq (.region [⟨(some 12), none, .mv (.t 0)⟩, ⟨(some 13), none, .call i___gatepost_date_reader__need [(.t 12), (.c (.str [58]))]⟩])
  (.seq (.region [⟨(some 14), none, .mv (.t 0)⟩, ⟨(some 15), none, .call i___gatepost_date_reader__number [(.t 14), (.c (.int .i64 2))]⟩, ⟨(some 5), none, .mv (.t 15)⟩])
  (.seq (.seq (.region [⟨(some 16), none, .mv (.t 3)⟩, ⟨(some 17), none, .bin .geq (.t 16) (.c (.int .i64 24))⟩, ⟨(some 18), none, .mv (.t 17)⟩, ⟨(some 19), (some (18, false)), .mv (.t 4)⟩, ⟨(some 20), (some (18, false)), .bin .geq (.t 19) (.c (.int .i64 60))⟩, ⟨(some 21), none, .pick (.t 18) (.c (.bool true)) (.t 20)⟩, ⟨(some 22), none, .mv (.t 21)⟩, ⟨(some 23), (some (22, false)), .mv (.t 5)⟩, ⟨(some 24), (some (22, false)), .bin .gtr (.t 23) (.c (.int .i64 60))⟩, ⟨(some 25), none, .pick (.t 22) (.c (.bool true)) (.t 24)⟩])
  (.cond (.t 25)
    (.region [⟨(some 26), none, .mv (.t 0)⟩, ⟨(some 27), none, .nilck (.t 26)⟩, ⟨(some 28), none, .faddr 1 (.t 27)⟩, ⟨none, none, .store 1 (.t 28) (.c (.bool false))⟩])
    .skip))
  (.seq (.region [⟨(some 29), none, .mv (.t 3)⟩, ⟨(some 30), none, .bin .mul (.t 29) (.c (.int .i64 3600))⟩, ⟨(some 31), none, .mv (.t 4)⟩, ⟨(some 32), none, .bin .mul (.t 31) (.c (.int .i64 60))⟩, ⟨(some 33), none, .bin .add (.t 30) (.t 32)⟩, ⟨(some 34), none, .mv (.t 5)⟩, ⟨(some 35), none, .mn [(.t 34), (.c (.int .i64 59))]⟩, ⟨(some 36), none, .bin .add (.t 33) (.t 35)⟩, ⟨(some 2), none, .mv (.t 36)⟩])
  .ret))))))))⟩
/-- (*gatepost/date.reader).second -/
def c___gatepost_date_reader__second : FnC := ⟨46, [.tmp 12, .tmp 13],
  (.seq (.region [⟨(some 12), none, .mv (.c (.int .i64 0))⟩, ⟨(some 13), none, .mv (.c (.bool false))⟩])
  (.seq (.region [⟨(some 15), none, .mv (.t 2)⟩, ⟨(some 16), none, .mv (.t 3)⟩, ⟨(some 17), none, .mv (.t 4)⟩, ⟨(some 18), none, .call i_date_Days [(.t 15), (.t 16), (.t 17)]⟩, ⟨(some 14), none, .mv (.t 18)⟩])
  (.seq (.seq (.region [⟨(some 19), none, .mv (.t 0)⟩, ⟨(some 20), none, .nilck (.t 19)⟩, ⟨(some 21), none, .faddr 1 (.t 20)⟩, ⟨(some 22), none, .load false 1 (.t 21)⟩, ⟨(some 23), none, .un .not (.t 22)⟩, ⟨(some 24), none, .mv (.t 23)⟩, ⟨(some 25), (some (24, false)), .mv (.t 0)⟩, ⟨(some 26), (some (24, false)), .nilck (.t 25)⟩, ⟨(some 27), (some (24, false)), .faddr 0 (.t 26)⟩, ⟨(some 28), (some (24, false)), .load false 1 (.t 27)⟩, ⟨(some 29), (some (24, false)), .bin .neq (.t 28) (.c (.str []))⟩, ⟨(some 30), none, .pick (.t 24) (.c (.bool true)) (.t 29)⟩, ⟨(some 31), none, .mv (.t 30)⟩, ⟨(some 32), (some (31, false)), .mv (.t 14)⟩, ⟨(some 33), (some (31, false)), .bin .lss (.t 32) (.c (.int .i64 0))⟩, ⟨(some 34), none, .pick (.t 31) (.c (.bool true)) (.t 33)⟩, ⟨(some 35), none, .mv (.t 34)⟩, ⟨(some 36), (some (35, false)), .mv (.t 14)⟩, ⟨(some 37), (some (35, false)), .bin .add (.t 36) (.c (.int .i64 3))⟩, ⟨(some 38), (some (35, false)), .bin .rem (.t 37) (.c (.int .i64 7))⟩, ⟨(some 39), (some (35, false)), .mv (.t 1)⟩, ⟨(some 40), (some (35, false)), .bin .neq (.t 38) (.t 39)⟩, ⟨(some 41), none, .pick (.t 35) (.c (.bool true)) (.t 40)⟩])
  (.cond (.t 41)
    (.seq (.region [⟨(some 12), none, .mv (.c (.int .i64 0))⟩, ⟨(some 13), none, .mv (.c (.bool false))⟩])
    .ret)
    .skip))
  (.seq (.region [⟨(some 42), none, .mv (.t 14)⟩, ⟨(some 43), none, .bin .mul (.t 42) (.c (.int .i64 86400))⟩, ⟨(some 44), none, .mv (.t 5)⟩, ⟨(some 45), none, .bin .add (.t 43) (.t 44)⟩, ⟨(some 12), none, .mv (.t 45)⟩, ⟨(some 13), none, .mv (.c (.bool true))⟩])
  .ret))))⟩
/-- (*gatepost/date.reader).take -/
def c___gatepost_date_reader__take : FnC := ⟨32, [.tmp 4],
  (.seq (.region [⟨(some 4), none, .mv (.c (.str []))⟩])
  (.seq (.seq (.region [⟨(some 6), none, .mv (.t 0)⟩, ⟨(some 7), none, .nilck (.t 6)⟩, ⟨(some 8), none, .faddr 0 (.t 7)⟩, ⟨(some 9), none, .load false 1 (.t 8)⟩, ⟨(some 10), none, .len 0 (.t 9)⟩, ⟨(some 11), none, .mv (.t 1)⟩, ⟨(some 12), none, .bin .lss (.t 10) (.t 11)⟩])
  (.cond (.t 12)
    (.seq (.region [⟨(some 13), none, .mv (.t 0)⟩, ⟨(some 14), none, .nilck (.t 13)⟩, ⟨(some 15), none, .faddr 1 (.t 14)⟩, ⟨none, none, .store 1 (.t 15) (.c (.bool false))⟩])
    (.seq (.region [⟨(some 4), none, .mv (.c (.str []))⟩])
    .ret))
    .skip))
  (.seq (.region [⟨(some 16), none, .mv (.t 0)⟩, ⟨(some 17), none, .nilck (.t 16)⟩, ⟨(some 18), none, .faddr 0 (.t 17)⟩, ⟨(some 19), none, .load false 1 (.t 18)⟩, ⟨(some 20), none, .mv (.t 1)⟩, ⟨(some 21), none, .slstr (.t 19) none (some (.t 20))⟩, ⟨(some 5), none, .mv (.t 21)⟩])
  (.seq (.region [⟨(some 22), none, .mv (.t 0)⟩, ⟨(some 23), none, .mv (.t 0)⟩, ⟨(some 24), none, .nilck (.t 23)⟩, ⟨(some 25), none, .faddr 0 (.t 24)⟩, ⟨(some 26), none, .load false 1 (.t 25)⟩, ⟨(some 27), none, .mv (.t 1)⟩, ⟨(some 28), none, .slstr (.t 26) (some (.t 27)) none⟩, ⟨(some 29), none, .nilck (.t 22)⟩, ⟨(some 30), none, .faddr 0 (.t 29)⟩, ⟨none, none, .store 1 (.t 30) (.t 28)⟩])
  (.seq (.region [⟨(some 31), none, .mv (.t 5)⟩, ⟨(some 4), none, .mv (.t 31)⟩])
  .ret)))))⟩
/-- gatepost/gatepostref01.Lower -/
def c_gatepostref01_Lower : FnC := ⟨29, [.tmp 2],
  (.seq (.region [⟨(some 2), none, .mv (.c (.str []))⟩])
  (.seq (.region [⟨(some 3), none, .mv (.c (.str []))⟩])
  (.seq (.seq (.region [⟨(some 4), none, .mv (.c (.int .i64 0))⟩])
  (.block 0 (.loop
    (.seq (.seq (.region [⟨(some 6), none, .mv (.t 4)⟩, ⟨(some 7), none, .mv (.t 0)⟩, ⟨(some 8), none, .len 0 (.t 7)⟩, ⟨(some 9), none, .bin .lss (.t 6) (.t 8)⟩])
    (.cond (.t 9)
      .skip
      (.exit 0)))
    (.seq (.block 1 (.seq (.region [⟨(some 12), none, .mv (.t 0)⟩, ⟨(some 13), none, .mv (.t 4)⟩, ⟨(some 14), none, .ixStr (.t 12) (.t 13)⟩, ⟨(some 5), none, .mv (.t 14)⟩])
    (.seq (.seq (.region [⟨(some 15), none, .mv (.t 5)⟩, ⟨(some 16), none, .bin .geq (.t 15) (.c (.int .u8 65))⟩, ⟨(some 17), none, .mv (.t 16)⟩, ⟨(some 18), (some (17, true)), .mv (.t 5)⟩, ⟨(some 19), (some (17, true)), .bin .leq (.t 18) (.c (.int .u8 90))⟩, ⟨(some 20), none, .pick (.t 17) (.t 19) (.c (.bool false))⟩])
    (.cond (.t 20)
      (.region [⟨(some 21), none, .mv (.t 5)⟩, ⟨(some 22), none, .bin .add (.t 21) (.c (.int .u8 32))⟩, ⟨(some 5), none, .mv (.t 22)⟩])
      .skip))
    (.region [⟨(some 23), none, .mv (.t 3)⟩, ⟨(some 24), none, .mv (.t 5)⟩, ⟨(some 25), none, .bsl 1 [(.t 24)]⟩, ⟨(some 26), none, .toStr (.t 25)⟩, ⟨(some 27), none, .bin .add (.t 23) (.t 26)⟩, ⟨(some 3), none, .mv (.t 27)⟩]))))
    (.region [⟨(some 10), none, .mv (.t 4)⟩, ⟨(some 11), none, .bin .add (.t 10) (.c (.int .i64 1))⟩, ⟨(some 4), none, .mv (.t 11)⟩]))))))
  (.seq (.region [⟨(some 28), none, .mv (.t 3)⟩, ⟨(some 2), none, .mv (.t 28)⟩])
  .ret))))⟩
/-- gatepost/gatepostref01.blank -/
def c_gatepostref01_blank : FnC := ⟨9, [.tmp 2],
  (.seq (.region [⟨(some 2), none, .mv (.c (.bool false))⟩])
  (.seq (.region [⟨(some 3), none, .mv (.t 0)⟩, ⟨(some 4), none, .bin .eql (.t 3) (.c (.int .u8 32))⟩, ⟨(some 5), none, .mv (.t 4)⟩, ⟨(some 6), (some (5, false)), .mv (.t 0)⟩, ⟨(some 7), (some (5, false)), .bin .eql (.t 6) (.c (.int .u8 9))⟩, ⟨(some 8), none, .pick (.t 5) (.c (.bool true)) (.t 7)⟩, ⟨(some 2), none, .mv (.t 8)⟩])
  .ret))⟩
/-- gatepost/gatepostref02.Days -/
def c_gatepostref02_Days : FnC := ⟨57, [.tmp 6],
  (.seq (.region [⟨(some 6), none, .mv (.c (.int .i64 0))⟩])
  (.seq (.seq (.region [⟨(some 10), none, .mv (.t 0)⟩, ⟨(some 11), none, .bin .lss (.t 10) (.c (.int .i64 1970))⟩, ⟨(some 12), none, .mv (.t 11)⟩, ⟨(some 13), (some (12, false)), .mv (.t 0)⟩, ⟨(some 14), (some (12, false)), .bin .gtr (.t 13) (.c (.int .i64 9999))⟩, ⟨(some 15), none, .pick (.t 12) (.c (.bool true)) (.t 14)⟩, ⟨(some 16), none, .mv (.t 15)⟩, ⟨(some 17), (some (16, false)), .mv (.t 1)⟩, ⟨(some 18), (some (16, false)), .bin .lss (.t 17) (.c (.int .i64 1))⟩, ⟨(some 19), none, .pick (.t 16) (.c (.bool true)) (.t 18)⟩, ⟨(some 20), none, .mv (.t 19)⟩, ⟨(some 21), (some (20, false)), .mv (.t 1)⟩, ⟨(some 22), (some (20, false)), .bin .gtr (.t 21) (.c (.int .i64 12))⟩, ⟨(some 23), none, .pick (.t 20) (.c (.bool true)) (.t 22)⟩, ⟨(some 24), none, .mv (.t 23)⟩, ⟨(some 25), (some (24, false)), .mv (.t 2)⟩, ⟨(some 26), (some (24, false)), .bin .lss (.t 25) (.c (.int .i64 1))⟩, ⟨(some 27), none, .pick (.t 24) (.c (.bool true)) (.t 26)⟩, ⟨(some 28), none, .mv (.t 27)⟩, ⟨(some 29), (some (28, false)), .mv (.t 2)⟩, ⟨(some 30), (some (28, false)), .mv (.t 0)⟩, ⟨(some 31), (some (28, false)), .mv (.t 1)⟩, ⟨(some 32), (some (28, false)), .call i_gatepostref02_long [(.t 30), (.t 31)]⟩, ⟨(some 33), (some (28, false)), .bin .gtr (.t 29) (.t 32)⟩, ⟨(some 34), none, .pick (.t 28) (.c (.bool true)) (.t 33)⟩])
  (.cond (.t 34)
    (.seq (.region [⟨(some 6), none, .mv (.c (.int .i64 (-1)))⟩])
    .ret)
    .skip))
  (.seq (.region [⟨(some 35), none, .mv (.t 2)⟩, ⟨(some 36), none, .bin .sub (.t 35) (.c (.int .i64 1))⟩, ⟨(some 7), none, .mv (.t 36)⟩])
  (.seq (.seq (.region [⟨(some 8), none, .mv (.c (.int .i64 1970))⟩])
  (.block 0 (.loop
    (.seq (.seq (.region [⟨(some 37), none, .mv (.t 8)⟩, ⟨(some 38), none, .mv (.t 0)⟩, ⟨(some 39), none, .bin .lss (.t 37) (.t 38)⟩])
    (.cond (.t 39)
      .skip
      (.exit 0)))
    (.seq (.block 1 (.region [⟨(some 42), none, .mv (.t 7)⟩, ⟨(some 43), none, .mv (.t 8)⟩, ⟨(some 44), none, .call i_gatepostref02_year [(.t 43)]⟩, ⟨(some 45), none, .bin .add (.t 42) (.t 44)⟩, ⟨(some 7), none, .mv (.t 45)⟩]))
    (.region [⟨(some 40), none, .mv (.t 8)⟩, ⟨(some 41), none, .bin .add (.t 40) (.c (.int .i64 1))⟩, ⟨(some 8), none, .mv (.t 41)⟩]))))))
  (.seq (.seq (.region [⟨(some 9), none, .mv (.c (.int .i64 1))⟩])
  (.block 2 (.loop
    (.seq (.seq (.region [⟨(some 46), none, .mv (.t 9)⟩, ⟨(some 47), none, .mv (.t 1)⟩, ⟨(some 48), none, .bin .lss (.t 46) (.t 47)⟩])
    (.cond (.t 48)
      .skip
      (.exit 2)))
    (.seq (.block 3 (.region [⟨(some 51), none, .mv (.t 7)⟩, ⟨(some 52), none, .mv (.t 0)⟩, ⟨(some 53), none, .mv (.t 9)⟩, ⟨(some 54), none, .call i_gatepostref02_long [(.t 52), (.t 53)]⟩, ⟨(some 55), none, .bin .add (.t 51) (.t 54)⟩, ⟨(some 7), none, .mv (.t 55)⟩]))
    (.region [⟨(some 49), none, .mv (.t 9)⟩, ⟨(some 50), none, .bin .add (.t 49) (.c (.int .i64 1))⟩, ⟨(some 9), none, .mv (.t 50)⟩]))))))
  (.seq (.region [⟨(some 56), none, .mv (.t 7)⟩, ⟨(some 6), none, .mv (.t 56)⟩])
  .ret))))))⟩
/-- internal/stringslite.CutPrefix -/
def c_internal_stringslite_CutPrefix : FnC := ⟨15, [.tmp 4, .tmp 5],
  (.seq (.region [⟨(some 4), none, .mv (.c (.str []))⟩, ⟨(some 5), none, .mv (.c (.bool false))⟩])
  (.seq (.seq (.region [⟨(some 6), none, .mv (.t 0)⟩, ⟨(some 7), none, .mv (.t 1)⟩, ⟨(some 8), none, .call i_internal_stringslite_HasPrefix [(.t 6), (.t 7)]⟩, ⟨(some 9), none, .un .not (.t 8)⟩])
  (.cond (.t 9)
    (.seq (.region [⟨(some 10), none, .mv (.t 0)⟩, ⟨(some 4), none, .mv (.t 10)⟩, ⟨(some 5), none, .mv (.c (.bool false))⟩])
    .ret)
    .skip))
  (.seq (.region [⟨(some 11), none, .mv (.t 0)⟩, ⟨(some 12), none, .mv (.t 1)⟩, ⟨(some 13), none, .len 0 (.t 12)⟩, ⟨(some 14), none, .slstr (.t 11) (some (.t 13)) none⟩, ⟨(some 4), none, .mv (.t 14)⟩, ⟨(some 5), none, .mv (.c (.bool true))⟩])
  .ret)))⟩
/-- internal/stringslite.CutSuffix -/
def c_internal_stringslite_CutSuffix : FnC := ⟨18, [.tmp 4, .tmp 5],
  (.seq (.region [⟨(some 4), none, .mv (.c (.str []))⟩, ⟨(some 5), none, .mv (.c (.bool false))⟩])
  (.seq (.seq (.region [⟨(some 6), none, .mv (.t 0)⟩, ⟨(some 7), none, .mv (.t 1)⟩, ⟨(some 8), none, .call i_internal_stringslite_HasSuffix [(.t 6), (.t 7)]⟩, ⟨(some 9), none, .un .not (.t 8)⟩])
  (.cond (.t 9)
    (.seq (.region [⟨(some 10), none, .mv (.t 0)⟩, ⟨(some 4), none, .mv (.t 10)⟩, ⟨(some 5), none, .mv (.c (.bool false))⟩])
    .ret)
    .skip))
  (.seq (.region [⟨(some 11), none, .mv (.t 0)⟩, ⟨(some 12), none, .mv (.t 0)⟩, ⟨(some 13), none, .len 0 (.t 12)⟩, ⟨(some 14), none, .mv (.t 1)⟩, ⟨(some 15), none, .len 0 (.t 14)⟩, ⟨(some 16), none, .bin .sub (.t 13) (.t 15)⟩, ⟨(some 17), none, .slstr (.t 11) none (some (.t 16))⟩, ⟨(some 4), none, .mv (.t 17)⟩, ⟨(some 5), none, .mv (.c (.bool true))⟩])
  .ret)))⟩
/-- gatepost/gatepostref02.year -/
def c_gatepostref02_year : FnC := ⟨5, [.tmp 2],
  (.seq (.region [⟨(some 2), none, .mv (.c (.int .i64 0))⟩])
  (.seq (.seq (.region [⟨(some 3), none, .mv (.t 0)⟩, ⟨(some 4), none, .call i_gatepostref02_leap [(.t 3)]⟩])
  (.cond (.t 4)
    (.seq (.region [⟨(some 2), none, .mv (.c (.int .i64 366))⟩])
    .ret)
    .skip))
  (.seq (.region [⟨(some 2), none, .mv (.c (.int .i64 365))⟩])
  .ret)))⟩
/-- gatepost/gatepostref02.long -/
def c_gatepostref02_long : FnC := ⟨15, [.tmp 4],
  (.seq (.region [⟨(some 4), none, .mv (.c (.int .i64 0))⟩])
  (.seq (.seq (.region [⟨(some 5), none, .mv (.t 1)⟩])
  (.block 0 (.seq (.region [⟨(some 7), none, .bin .eql (.t 5) (.c (.int .i64 2))⟩, ⟨(some 6), none, .mv (.t 7)⟩])
  (.cond (.t 6)
    (.seq (.seq (.region [⟨(some 8), none, .mv (.t 0)⟩, ⟨(some 9), none, .call i_gatepostref02_leap [(.t 8)]⟩])
    (.cond (.t 9)
      (.seq (.region [⟨(some 4), none, .mv (.c (.int .i64 29))⟩])
      .ret)
      .skip))
    (.seq (.region [⟨(some 4), none, .mv (.c (.int .i64 28))⟩])
    .ret))
    (.seq (.seq (.region [⟨(some 11), none, .bin .eql (.t 5) (.c (.int .i64 4))⟩, ⟨(some 10), none, .mv (.t 11)⟩])
    (.cond (.t 10)
      .skip
      (.seq (.region [⟨(some 12), none, .bin .eql (.t 5) (.c (.int .i64 6))⟩, ⟨(some 10), none, .mv (.t 12)⟩])
      (.cond (.t 10)
        .skip
        (.seq (.region [⟨(some 13), none, .bin .eql (.t 5) (.c (.int .i64 9))⟩, ⟨(some 10), none, .mv (.t 13)⟩])
        (.cond (.t 10)
          .skip
          (.region [⟨(some 14), none, .bin .eql (.t 5) (.c (.int .i64 11))⟩, ⟨(some 10), none, .mv (.t 14)⟩])))))))
    (.cond (.t 10)
      (.seq (.region [⟨(some 4), none, .mv (.c (.int .i64 30))⟩])
      .ret)
      .skip))))))
  (.seq (.region [⟨(some 4), none, .mv (.c (.int .i64 31))⟩])
  .ret)))⟩
/-- strings.Trim -/
def c_strings_Trim : FnC := ⟨43, [.tmp 4],
  (.seq (.region [⟨(some 4), none, .mv (.c (.str []))⟩])
  (.seq (.seq (.region [⟨(some 7), none, .mv (.t 0)⟩, ⟨(some 8), none, .bin .eql (.t 7) (.c (.str []))⟩, ⟨(some 9), none, .mv (.t 8)⟩, ⟨(some 10), (some (9, false)), .mv (.t 1)⟩, ⟨(some 11), (some (9, false)), .bin .eql (.t 10) (.c (.str []))⟩, ⟨(some 12), none, .pick (.t 9) (.c (.bool true)) (.t 11)⟩])
  (.cond (.t 12)
    (.seq (.region [⟨(some 13), none, .mv (.t 0)⟩, ⟨(some 4), none, .mv (.t 13)⟩])
    .ret)
    .skip))
  (.seq (.seq (.region [⟨(some 14), none, .mv (.t 1)⟩, ⟨(some 15), none, .len 0 (.t 14)⟩, ⟨(some 16), none, .bin .eql (.t 15) (.c (.int .i64 1))⟩, ⟨(some 17), none, .mv (.t 16)⟩, ⟨(some 18), (some (17, true)), .mv (.t 1)⟩, ⟨(some 19), (some (17, true)), .ixStr (.t 18) (.c (.int .i64 0))⟩, ⟨(some 20), (some (17, true)), .bin .lss (.t 19) (.c (.int .u8 128))⟩, ⟨(some 21), none, .pick (.t 17) (.t 20) (.c (.bool false))⟩])
  (.cond (.t 21)
    (.seq (.dregion [⟨(some 22), none, .mv (.t 0)⟩, ⟨(some 23), none, .mv (.t 1)⟩, ⟨(some 24), none, .ixStr (.t 23) (.c (.int .i64 0))⟩, ⟨(some 25), none, .call i_strings_trimRightByte [(.t 22), (.t 24)]⟩, ⟨(some 26), none, .mv (.t 1)⟩, ⟨(some 27), none, .ixStr (.t 26) (.c (.int .i64 0))⟩] [⟨(some 28), none, .call i_strings_trimLeftByte [(.t 25), (.t 27)]⟩, ⟨(some 4), none, .mv (.t 28)⟩])
    .ret)
    .skip))
  (.seq (.seq (.region [⟨(some 30), none, .mv (.t 1)⟩, ⟨(some 31), none, .call i_strings_makeASCIISet [(.t 30)]⟩, ⟨(some 29), none, .mv (.t 31)⟩, ⟨(some 32), none, .ext 0 (.t 29)⟩, ⟨(some 33), none, .ext 1 (.t 29)⟩, ⟨(some 5), none, .boxz (List.replicate 256 (.bool false))⟩, ⟨none, none, .store 256 (.t 5) (.t 32)⟩, ⟨(some 6), none, .mv (.t 33)⟩])
  (.seq (.region [⟨(some 34), none, .mv (.t 6)⟩])
  (.cond (.t 34)
    (.seq (.region [⟨(some 35), none, .mv (.t 0)⟩, ⟨(some 36), none, .call i_strings_trimRightASCII [(.t 35), (.t 5)]⟩, ⟨(some 37), none, .call i_strings_trimLeftASCII [(.t 36), (.t 5)]⟩, ⟨(some 4), none, .mv (.t 37)⟩])
    .ret)
    .skip)))
  (.seq (.region [⟨(some 38), none, .mv (.t 0)⟩, ⟨(some 39), none, .mv (.t 1)⟩, ⟨(some 40), none, .call i_strings_trimRightUnicode [(.t 38), (.t 39)]⟩, ⟨(some 41), none, .mv (.t 1)⟩, ⟨(some 42), none, .call i_strings_trimLeftUnicode [(.t 40), (.t 41)]⟩, ⟨(some 4), none, .mv (.t 42)⟩])
  .ret)))))⟩
/-- (*gatepost/date.reader).number$1 -/
def c___gatepost_date_reader__number_1 : FnC := ⟨19, [],
  (.seq (.seq (.region [⟨(some 4), none, .mv (.t 0)⟩, ⟨(some 5), none, .bin .lss (.t 4) (.c (.int .u8 48))⟩, ⟨(some 6), none, .mv (.t 5)⟩, ⟨(some 7), (some (6, false)), .mv (.t 0)⟩, ⟨(some 8), (some (6, false)), .bin .gtr (.t 7) (.c (.int .u8 57))⟩, ⟨(some 9), none, .pick (.t 6) (.c (.bool true)) (.t 8)⟩])
  (.cond (.t 9)
    (.region [⟨(some 10), none, .load false 1 (.t 1)⟩, ⟨(some 11), none, .nilck (.t 10)⟩, ⟨(some 12), none, .faddr 1 (.t 11)⟩, ⟨none, none, .store 1 (.t 12) (.c (.bool false))⟩])
    .skip))
  (.region [⟨(some 13), none, .load false 1 (.t 2)⟩, ⟨(some 14), none, .bin .mul (.c (.int .i64 10)) (.t 13)⟩, ⟨(some 15), none, .mv (.t 0)⟩, ⟨(some 16), none, .bin .sub (.t 15) (.c (.int .u8 48))⟩, ⟨(some 17), none, .toInt .i64 (.t 16)⟩, ⟨(some 18), none, .bin .add (.t 14) (.t 17)⟩, ⟨none, none, .store 1 (.t 2) (.t 18)⟩]))⟩
/-- gatepost/date.Days -/
def c_date_Days : FnC := ⟨90, [.tmp 6],
  (.seq (.region [⟨(some 6), none, .mv (.c (.int .i64 0))⟩])
  (.seq (.seq (.region [⟨(some 15), none, .mv (.t 0)⟩, ⟨(some 16), none, .bin .lss (.t 15) (.c (.int .i64 1970))⟩, ⟨(some 17), none, .mv (.t 16)⟩, ⟨(some 18), (some (17, false)), .mv (.t 0)⟩, ⟨(some 19), (some (17, false)), .bin .gtr (.t 18) (.c (.int .i64 9999))⟩, ⟨(some 20), none, .pick (.t 17) (.c (.bool true)) (.t 19)⟩, ⟨(some 21), none, .mv (.t 20)⟩, ⟨(some 22), (some (21, false)), .mv (.t 1)⟩, ⟨(some 23), (some (21, false)), .bin .lss (.t 22) (.c (.int .i64 1))⟩, ⟨(some 24), none, .pick (.t 21) (.c (.bool true)) (.t 23)⟩, ⟨(some 25), none, .mv (.t 24)⟩, ⟨(some 26), (some (25, false)), .mv (.t 1)⟩, ⟨(some 27), (some (25, false)), .bin .gtr (.t 26) (.c (.int .i64 12))⟩, ⟨(some 28), none, .pick (.t 25) (.c (.bool true)) (.t 27)⟩, ⟨(some 29), none, .mv (.t 28)⟩, ⟨(some 30), (some (29, false)), .mv (.t 2)⟩, ⟨(some 31), (some (29, false)), .bin .lss (.t 30) (.c (.int .i64 1))⟩, ⟨(some 32), none, .pick (.t 29) (.c (.bool true)) (.t 31)⟩, ⟨(some 33), none, .mv (.t 32)⟩, ⟨(some 34), (some (33, false)), .mv (.t 2)⟩, ⟨(some 35), (some (33, false)), .bin .gtr (.t 34) (.c (.int .i64 31))⟩, ⟨(some 36), none, .pick (.t 33) (.c (.bool true)) (.t 35)⟩])
  (.cond (.t 36)
    (.seq (.region [⟨(some 6), none, .mv (.c (.int .i64 (-1)))⟩])
    .ret)
    .skip))
  (.seq (.region [⟨(some 37), none, .mv (.t 0)⟩, ⟨(some 38), none, .mv (.t 1)⟩, ⟨(some 39), none, .bin .sub (.t 38) (.c (.int .i64 3))⟩, ⟨(some 7), none, .mv (.t 37)⟩, ⟨(some 8), none, .mv (.t 39)⟩])
  (.seq (.seq (.region [⟨(some 40), none, .mv (.t 1)⟩, ⟨(some 41), none, .bin .leq (.t 40) (.c (.int .i64 2))⟩])
  (.cond (.t 41)
    (.region [⟨(some 42), none, .mv (.t 0)⟩, ⟨(some 43), none, .bin .sub (.t 42) (.c (.int .i64 1))⟩, ⟨(some 44), none, .mv (.t 1)⟩, ⟨(some 45), none, .bin .add (.t 44) (.c (.int .i64 9))⟩, ⟨(some 7), none, .mv (.t 43)⟩, ⟨(some 8), none, .mv (.t 45)⟩])
    .skip))
  (.seq (.region [⟨(some 46), none, .mv (.t 7)⟩, ⟨(some 47), none, .bin .quo (.t 46) (.c (.int .i64 400))⟩, ⟨(some 48), none, .mv (.t 7)⟩, ⟨(some 49), none, .bin .rem (.t 48) (.c (.int .i64 400))⟩, ⟨(some 9), none, .mv (.t 47)⟩, ⟨(some 10), none, .mv (.t 49)⟩])
  (.seq (.region [⟨(some 50), none, .mv (.t 9)⟩, ⟨(some 51), none, .bin .mul (.t 50) (.c (.int .i64 146097))⟩, ⟨(some 52), none, .mv (.t 10)⟩, ⟨(some 53), none, .bin .mul (.t 52) (.c (.int .i64 365))⟩, ⟨(some 54), none, .bin .add (.t 51) (.t 53)⟩, ⟨(some 55), none, .mv (.t 10)⟩, ⟨(some 56), none, .bin .quo (.t 55) (.c (.int .i64 4))⟩, ⟨(some 57), none, .bin .add (.t 54) (.t 56)⟩, ⟨(some 58), none, .mv (.t 10)⟩, ⟨(some 59), none, .bin .quo (.t 58) (.c (.int .i64 100))⟩, ⟨(some 60), none, .bin .sub (.t 57) (.t 59)⟩, ⟨(some 61), none, .mv (.t 8)⟩, ⟨(some 62), none, .bin .mul (.c (.int .i64 153)) (.t 61)⟩, ⟨(some 63), none, .bin .add (.t 62) (.c (.int .i64 2))⟩, ⟨(some 64), none, .bin .quo (.t 63) (.c (.int .i64 5))⟩, ⟨(some 65), none, .bin .add (.t 60) (.t 64)⟩, ⟨(some 66), none, .mv (.t 2)⟩, ⟨(some 67), none, .bin .add (.t 65) (.t 66)⟩, ⟨(some 68), none, .bin .sub (.t 67) (.c (.int .i64 1))⟩, ⟨(some 69), none, .bin .sub (.t 68) (.c (.int .i64 719468))⟩, ⟨(some 11), none, .mv (.t 69)⟩])
  (.seq (.seq (.region [⟨(some 71), none, .mv (.t 11)⟩, ⟨(some 72), none, .call i_date_Civil [(.t 71)]⟩, ⟨(some 70), none, .mv (.t 72)⟩, ⟨(some 73), none, .ext 0 (.t 70)⟩, ⟨(some 74), none, .ext 1 (.t 70)⟩, ⟨(some 75), none, .ext 2 (.t 70)⟩, ⟨(some 12), none, .mv (.t 73)⟩, ⟨(some 13), none, .mv (.t 74)⟩, ⟨(some 14), none, .mv (.t 75)⟩])
  (.seq (.region [⟨(some 76), none, .mv (.t 12)⟩, ⟨(some 77), none, .mv (.t 0)⟩, ⟨(some 78), none, .bin .neq (.t 76) (.t 77)⟩, ⟨(some 79), none, .mv (.t 78)⟩, ⟨(some 80), (some (79, false)), .mv (.t 13)⟩, ⟨(some 81), (some (79, false)), .mv (.t 1)⟩, ⟨(some 82), (some (79, false)), .bin .neq (.t 80) (.t 81)⟩, ⟨(some 83), none, .pick (.t 79) (.c (.bool true)) (.t 82)⟩, ⟨(some 84), none, .mv (.t 83)⟩, ⟨(some 85), (some (84, false)), .mv (.t 14)⟩, ⟨(some 86), (some (84, false)), .mv (.t 2)⟩, ⟨(some 87), (some (84, false)), .bin .neq (.t 85) (.t 86)⟩, ⟨(some 88), none, .pick (.t 84) (.c (.bool true)) (.t 87)⟩])
  (.cond (.t 88)
    (.seq (.region [⟨(some 6), none, .mv (.c (.int .i64 (-1)))⟩])
    .ret)
    .skip)))
  (.seq (.region [⟨(some 89), none, .mv (.t 11)⟩, ⟨(some 6), none, .mv (.t 89)⟩])
  .ret))))))))⟩
/-- internal/stringslite.HasPrefix -/
def c_internal_stringslite_HasPrefix : FnC := ⟨18, [.tmp 4],
  (.seq (.region [⟨(some 4), none, .mv (.c (.bool false))⟩])
  (.seq (.region [⟨(some 5), none, .mv (.t 0)⟩, ⟨(some 6), none, .len 0 (.t 5)⟩, ⟨(some 7), none, .mv (.t 1)⟩, ⟨(some 8), none, .len 0 (.t 7)⟩, ⟨(some 9), none, .bin .geq (.t 6) (.t 8)⟩, ⟨(some 10), none, .mv (.t 9)⟩, ⟨(some 11), (some (10, true)), .mv (.t 0)⟩, ⟨(some 12), (some (10, true)), .mv (.t 1)⟩, ⟨(some 13), (some (10, true)), .len 0 (.t 12)⟩, ⟨(some 14), (some (10, true)), .slstr (.t 11) none (some (.t 13))⟩, ⟨(some 15), (some (10, true)), .mv (.t 1)⟩, ⟨(some 16), (some (10, true)), .bin .eql (.t 14) (.t 15)⟩, ⟨(some 17), none, .pick (.t 10) (.t 16) (.c (.bool false))⟩, ⟨(some 4), none, .mv (.t 17)⟩])
  .ret))⟩
/-- internal/stringslite.HasSuffix -/
def c_internal_stringslite_HasSuffix : FnC := ⟨21, [.tmp 4],
  (.seq (.region [⟨(some 4), none, .mv (.c (.bool false))⟩])
  (.seq (.region [⟨(some 5), none, .mv (.t 0)⟩, ⟨(some 6), none, .len 0 (.t 5)⟩, ⟨(some 7), none, .mv (.t 1)⟩, ⟨(some 8), none, .len 0 (.t 7)⟩, ⟨(some 9), none, .bin .geq (.t 6) (.t 8)⟩, ⟨(some 10), none, .mv (.t 9)⟩, ⟨(some 11), (some (10, true)), .mv (.t 0)⟩, ⟨(some 12), (some (10, true)), .mv (.t 0)⟩, ⟨(some 13), (some (10, true)), .len 0 (.t 12)⟩, ⟨(some 14), (some (10, true)), .mv (.t 1)⟩, ⟨(some 15), (some (10, true)), .len 0 (.t 14)⟩, ⟨(some 16), (some (10, true)), .bin .sub (.t 13) (.t 15)⟩, ⟨(some 17), (some (10, true)), .slstr (.t 11) (some (.t 16)) none⟩, ⟨(some 18), (some (10, true)), .mv (.t 1)⟩, ⟨(some 19), (some (10, true)), .bin .eql (.t 17) (.t 18)⟩, ⟨(some 20), none, .pick (.t 10) (.t 19) (.c (.bool false))⟩, ⟨(some 4), none, .mv (.t 20)⟩])
  .ret))⟩
/-- gatepost/gatepostref02.leap -/
def c_gatepostref02_leap : FnC := ⟨16, [.tmp 2],
  (.seq (.region [⟨(some 2), none, .mv (.c (.bool false))⟩])
  (.seq (.region [⟨(some 3), none, .mv (.t 0)⟩, ⟨(some 4), none, .bin .rem (.t 3) (.c (.int .i64 4))⟩, ⟨(some 5), none, .bin .eql (.t 4) (.c (.int .i64 0))⟩, ⟨(some 6), none, .mv (.t 5)⟩, ⟨(some 7), (some (6, true)), .mv (.t 0)⟩, ⟨(some 8), (some (6, true)), .bin .rem (.t 7) (.c (.int .i64 100))⟩, ⟨(some 9), (some (6, true)), .bin .neq (.t 8) (.c (.int .i64 0))⟩, ⟨(some 10), (some (6, true)), .mv (.t 9)⟩, ⟨(some 11), (some (10, false)), .mv (.t 0)⟩, ⟨(some 12), (some (10, false)), .bin .rem (.t 11) (.c (.int .i64 400))⟩, ⟨(some 13), (some (10, false)), .bin .eql (.t 12) (.c (.int .i64 0))⟩, ⟨(some 14), (some (6, true)), .pick (.t 10) (.c (.bool true)) (.t 13)⟩, ⟨(some 15), none, .pick (.t 6) (.t 14) (.c (.bool false))⟩, ⟨(some 2), none, .mv (.t 15)⟩])
  .ret))⟩
/-- strings.makeASCIISet -/
def c_strings_makeASCIISet : FnC := ⟨21, [.cell 2 true 256, .tmp 3],
  (.seq (.region [⟨(some 2), none, .boxz (List.replicate 256 (.bool false))⟩, ⟨(some 3), none, .mv (.c (.bool false))⟩])
  (.seq (.seq (.region [⟨(some 4), none, .mv (.c (.int .i64 0))⟩])
  (.block 0 (.loop
    (.seq (.seq (.region [⟨(some 6), none, .mv (.t 4)⟩, ⟨(some 7), none, .mv (.t 0)⟩, ⟨(some 8), none, .len 0 (.t 7)⟩, ⟨(some 9), none, .bin .lss (.t 6) (.t 8)⟩])
    (.cond (.t 9)
      .skip
      (.exit 0)))
    (.seq (.block 1 (.seq (.region [⟨(some 12), none, .mv (.t 0)⟩, ⟨(some 13), none, .mv (.t 4)⟩, ⟨(some 14), none, .ixStr (.t 12) (.t 13)⟩, ⟨(some 5), none, .mv (.t 14)⟩])
    (.seq (.seq (.region [⟨(some 15), none, .mv (.t 5)⟩, ⟨(some 16), none, .bin .geq (.t 15) (.c (.int .u8 128))⟩])
    (.cond (.t 16)
      (.seq (.region [⟨(some 17), none, .load true 256 (.t 2)⟩, ⟨none, none, .store 256 (.t 2) (.t 17)⟩, ⟨(some 3), none, .mv (.c (.bool false))⟩])
      .ret)
      .skip))
    (.region [⟨(some 18), none, .mv (.t 5)⟩, ⟨(some 19), none, .ixaArr 256 1 (.t 2) (.t 18)⟩, ⟨none, none, .store 1 (.t 19) (.c (.bool true))⟩]))))
    (.region [⟨(some 10), none, .mv (.t 4)⟩, ⟨(some 11), none, .bin .add (.t 10) (.c (.int .i64 1))⟩, ⟨(some 4), none, .mv (.t 11)⟩]))))))
  (.seq (.region [⟨(some 20), none, .load true 256 (.t 2)⟩, ⟨none, none, .store 256 (.t 2) (.t 20)⟩, ⟨(some 3), none, .mv (.c (.bool true))⟩])
  .ret)))⟩
/-- strings.trimLeftASCII -/
def c_strings_trimLeftASCII : FnC := ⟨16, [.tmp 4],
  (.seq (.region [⟨(some 4), none, .mv (.c (.str []))⟩])
  (.seq (.block 0 (.loop
    (.seq (.seq (.region [⟨(some 5), none, .mv (.t 0)⟩, ⟨(some 6), none, .len 0 (.t 5)⟩, ⟨(some 7), none, .bin .gtr (.t 6) (.c (.int .i64 0))⟩])
    (.cond (.t 7)
      .skip
      (.exit 0)))
    (.block 1 (.seq (.seq (.region [⟨(some 8), none, .mv (.t 1)⟩, ⟨(some 9), none, .mv (.t 0)⟩, ⟨(some 10), none, .ixStr (.t 9) (.c (.int .i64 0))⟩, ⟨(some 11), none, .call i___strings_asciiSet__contains [(.t 8), (.t 10)]⟩, ⟨(some 12), none, .un .not (.t 11)⟩])
    (.cond (.t 12)
      (.exit 0)
      .skip))
    (.region [⟨(some 13), none, .mv (.t 0)⟩, ⟨(some 14), none, .slstr (.t 13) (some (.c (.int .i64 1))) none⟩, ⟨(some 0), none, .mv (.t 14)⟩]))))))
  (.seq (.region [⟨(some 15), none, .mv (.t 0)⟩, ⟨(some 4), none, .mv (.t 15)⟩])
  .ret)))⟩
/-- strings.trimRightASCII -/
def c_strings_trimRightASCII : FnC := ⟨22, [.tmp 4],
  (.seq (.region [⟨(some 4), none, .mv (.c (.str []))⟩])
  (.seq (.block 0 (.loop
    (.seq (.seq (.region [⟨(some 5), none, .mv (.t 0)⟩, ⟨(some 6), none, .len 0 (.t 5)⟩, ⟨(some 7), none, .bin .gtr (.t 6) (.c (.int .i64 0))⟩])
    (.cond (.t 7)
      .skip
      (.exit 0)))
    (.block 1 (.seq (.seq (.region [⟨(some 8), none, .mv (.t 1)⟩, ⟨(some 9), none, .mv (.t 0)⟩, ⟨(some 10), none, .mv (.t 0)⟩, ⟨(some 11), none, .len 0 (.t 10)⟩, ⟨(some 12), none, .bin .sub (.t 11) (.c (.int .i64 1))⟩, ⟨(some 13), none, .ixStr (.t 9) (.t 12)⟩, ⟨(some 14), none, .call i___strings_asciiSet__contains [(.t 8), (.t 13)]⟩, ⟨(some 15), none, .un .not (.t 14)⟩])
    (.cond (.t 15)
      (.exit 0)
      .skip))
    (.region [⟨(some 16), none, .mv (.t 0)⟩, ⟨(some 17), none, .mv (.t 0)⟩, ⟨(some 18), none, .len 0 (.t 17)⟩, ⟨(some 19), none, .bin .sub (.t 18) (.c (.int .i64 1))⟩, ⟨(some 20), none, .slstr (.t 16) none (some (.t 19))⟩, ⟨(some 0), none, .mv (.t 20)⟩]))))))
  (.seq (.region [⟨(some 21), none, .mv (.t 0)⟩, ⟨(some 4), none, .mv (.t 21)⟩])
  .ret)))⟩
/-- (*strings.asciiSet).contains -/
def c___strings_asciiSet__contains : FnC := ⟨10, [.tmp 4],
  (.seq (.region [⟨(some 4), none, .mv (.c (.bool false))⟩])
  (.seq (.region [⟨(some 5), none, .mv (.t 0)⟩, ⟨(some 6), none, .mv (.t 1)⟩, ⟨(some 7), none, .nilck (.t 5)⟩, ⟨(some 8), none, .ixaArr 256 1 (.t 7) (.t 6)⟩, ⟨(some 9), none, .load false 1 (.t 8)⟩, ⟨(some 4), none, .mv (.t 9)⟩])
  .ret))⟩
def tab : List (FuncId × FnC) := [(i_gatepostlaw12_ValidatorTells, c_gatepostlaw12_ValidatorTells), (i_gatepostlaw12_few, c_gatepostlaw12_few), (i_validator_Unchanged, c_validator_Unchanged), (i_gatepostref12_Unchanged, c_gatepostref12_Unchanged), (i_validator_Applies, c_validator_Applies), (i_gatepostref12_Applies, c_gatepostref12_Applies), (i_gatepostref04_Same, c_gatepostref04_Same), (i_validator_Asks, c_validator_Asks), (i_gatepostref12_Asks, c_gatepostref12_Asks), (i_field_Get, c_field_Get), (i_validator_matches, c_validator_matches), (i_validator_one, c_validator_one), (i_date_Parse, c_date_Parse), (i_gatepostref04_Get, c_gatepostref04_Get), (i_gatepostref12_Parse, c_gatepostref12_Parse), (i_gatepostref01_Split, c_gatepostref01_Split), (i_gatepostref02_Parse, c_gatepostref02_Parse), (i_validator_Parse, c_validator_Parse), (i_validator_Strong, c_validator_Strong), (i_date_Format, c_date_Format), (i_gatepostref02_Format, c_gatepostref02_Format), (i_token_Same, c_token_Same), (i_token_Split, c_token_Split), (i_slices_ContainsFunc___string_string_, c_slices_ContainsFunc___string_string_), (i_validator_matches_1, c_validator_matches_1), (i_validator_Weak, c_validator_Weak), (i_date_fixed, c_date_fixed), (i_date_old, c_date_old), (i_date_plain, c_date_plain), (i_gatepostref01_Same, c_gatepostref01_Same), (i_gatepostref01_Trim, c_gatepostref01_Trim), (i_gatepostref02_second, c_gatepostref02_second), (i_gatepostref02_find, c_gatepostref02_find), (i_gatepostref02_short, c_gatepostref02_short), (i_gatepostref02_number, c_gatepostref02_number), (i_gatepostref02_months, c_gatepostref02_months), (i_gatepostref02_clock, c_gatepostref02_clock), (i_strings_CutPrefix, c_strings_CutPrefix), (i_strings_CutSuffix, c_strings_CutSuffix), (i_date_Civil, c_date_Civil), (i_date_longDays, c_date_longDays), (i_date_pad, c_date_pad), (i_date_monthNames, c_date_monthNames), (i_gatepostref02_Civil, c_gatepostref02_Civil), (i_gatepostref02_two, c_gatepostref02_two), (i_token_Lower, c_token_Lower), (i_token_Split_1, c_token_Split_1), (i_token_Trim, c_token_Trim), (i_slices_IndexFunc___string_string_, c_slices_IndexFunc___string_string_), (i___gatepost_date_reader__day, c___gatepost_date_reader__day), (i___gatepost_date_reader__need, c___gatepost_date_reader__need), (i___gatepost_date_reader__number, c___gatepost_date_reader__number), (i___gatepost_date_reader__month, c___gatepost_date_reader__month), (i___gatepost_date_reader__clock, c___gatepost_date_reader__clock), (i___gatepost_date_reader__second, c___gatepost_date_reader__second), (i___gatepost_date_reader__take, c___gatepost_date_reader__take), (i_gatepostref01_Lower, c_gatepostref01_Lower), (i_gatepostref01_blank, c_gatepostref01_blank), (i_gatepostref02_Days, c_gatepostref02_Days), (i_internal_stringslite_CutPrefix, c_internal_stringslite_CutPrefix), (i_internal_stringslite_CutSuffix, c_internal_stringslite_CutSuffix), (i_gatepostref02_year, c_gatepostref02_year), (i_gatepostref02_long, c_gatepostref02_long), (i_strings_Trim, c_strings_Trim), (i___gatepost_date_reader__number_1, c___gatepost_date_reader__number_1), (i_date_Days, c_date_Days), (i_internal_stringslite_HasPrefix, c_internal_stringslite_HasPrefix), (i_internal_stringslite_HasSuffix, c_internal_stringslite_HasSuffix), (i_gatepostref02_leap, c_gatepostref02_leap), (i_strings_makeASCIISet, c_strings_makeASCIISet), (i_strings_trimLeftASCII, c_strings_trimLeftASCII), (i_strings_trimRightASCII, c_strings_trimRightASCII), (i___strings_asciiSet__contains, c___strings_asciiSet__contains)]
def F (f : FuncId) : Option FnC := tab.lookup f
theorem F_gatepostlaw12_ValidatorTells : F i_gatepostlaw12_ValidatorTells = some c_gatepostlaw12_ValidatorTells := rfl
end Go.Proofs.YtfkebmdfcpnaeaaGreatDoor.Vh
end
