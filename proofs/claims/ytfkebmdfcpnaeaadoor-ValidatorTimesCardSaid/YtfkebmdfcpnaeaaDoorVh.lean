/- The functions of a seat, compiled for the small machine. Printed by Print.lean. -/
import Derived.Test.YtfkebmdfcpnaeaaDoorProg
import Derived.Test.YtfkebmdfcpnaeaaDoorVmSet
import Derived.KernelRfl
set_option maxRecDepth 100000
set_option linter.unusedVariables false
namespace Go.Proofs.YtfkebmdfcpnaeaaDoor.Vh
open Go.Vm
def i_main_main : FuncId := 0
def i_gosem_cut : FuncId := 1
def i_gosem_cut_init : FuncId := 2
def i_gatepostlaw12_ValidatorTimes : FuncId := 3
def i_gatepostref02_Format : FuncId := 4
def i_validator_Unchanged : FuncId := 5
def i_validator_Applies : FuncId := 6
def i_gatepostref02_Civil : FuncId := 7
def i_gatepostref02_short : FuncId := 8
def i_gatepostref02_two : FuncId := 9
def i_gatepostref02_months : FuncId := 10
def i_field_Get : FuncId := 11
def i_validator_matches : FuncId := 12
def i_validator_one : FuncId := 13
def i_date_Parse : FuncId := 14
def i_validator_Parse : FuncId := 15
def i_validator_Strong : FuncId := 16
def i_gatepostref02_year : FuncId := 17
def i_gatepostref02_long : FuncId := 18
def i_token_Same : FuncId := 19
def i_strings_Join : FuncId := 20
def i_token_Split : FuncId := 21
def i_slices_ContainsFunc___string_string_ : FuncId := 22
def i_validator_matches_1 : FuncId := 23
def i_validator_Weak : FuncId := 24
def i_date_fixed : FuncId := 25
def i_date_old : FuncId := 26
def i_date_plain : FuncId := 27
def i_strings_CutPrefix : FuncId := 28
def i_strings_CutSuffix : FuncId := 29
def i_gatepostref02_leap : FuncId := 30
def i_token_Lower : FuncId := 31
def i___strings_Builder__Grow : FuncId := 32
def i___strings_Builder__WriteString : FuncId := 33
def i___strings_Builder__String : FuncId := 34
def i_token_Split_1 : FuncId := 35
def i_token_Trim : FuncId := 36
def i_slices_IndexFunc___string_string_ : FuncId := 37
def i___gatepost_date_reader__day : FuncId := 38
def i___gatepost_date_reader__need : FuncId := 39
def i___gatepost_date_reader__number : FuncId := 40
def i___gatepost_date_reader__month : FuncId := 41
def i___gatepost_date_reader__clock : FuncId := 42
def i___gatepost_date_reader__second : FuncId := 43
def i___gatepost_date_reader__take : FuncId := 44
def i_internal_stringslite_CutPrefix : FuncId := 45
def i_internal_stringslite_CutSuffix : FuncId := 46
def i___strings_Builder__copyCheck : FuncId := 47
def i___strings_Builder__grow : FuncId := 48
def i_strings_Trim : FuncId := 49
def i_date_longDays : FuncId := 50
def i___gatepost_date_reader__number_1 : FuncId := 51
def i_date_monthNames : FuncId := 52
def i_date_Days : FuncId := 53
def i_internal_stringslite_HasPrefix : FuncId := 54
def i_internal_stringslite_HasSuffix : FuncId := 55
def i_internal_abi_NoEscape : FuncId := 56
def i_internal_bytealg_MakeNoZero : FuncId := 57
def i_strings_trimLeftByte : FuncId := 58
def i_strings_trimRightByte : FuncId := 59
def i_strings_makeASCIISet : FuncId := 60
def i_strings_trimLeftASCII : FuncId := 61
def i_strings_trimRightASCII : FuncId := 62
def i_strings_trimLeftUnicode : FuncId := 63
def i_strings_trimRightUnicode : FuncId := 64
def i_date_Civil : FuncId := 65
def i___strings_asciiSet__contains : FuncId := 66
def i_unicode_utf8_DecodeRuneInString : FuncId := 67
def i_strings_ContainsRune : FuncId := 68
def i_unicode_utf8_DecodeLastRuneInString : FuncId := 69
def i_unicode_utf8_decodeRuneInStringSlow : FuncId := 70
def i_strings_IndexRune : FuncId := 71
def i_unicode_utf8_RuneStart : FuncId := 72
def i_strings_IndexByte : FuncId := 73
def i_unicode_utf8_ValidRune : FuncId := 74
def i_internal_bytealg_Cutover : FuncId := 75
def i_internal_bytealg_IndexString : FuncId := 76
def i_internal_stringslite_IndexByte : FuncId := 77
def i_internal_bytealg_IndexByteString : FuncId := 78
def i___runtime_TypeAssertionError__Error : FuncId := 87
def i___runtime_TypeAssertionError__RuntimeError : FuncId := 88
def i___runtime_PanicNilError__Error : FuncId := 89
def i___runtime_PanicNilError__RuntimeError : FuncId := 90
def i___internal_abi_Type__Align : FuncId := 91
def i__internal_runtime_maps_unhashableTypeError__Error : FuncId := 92
def i__internal_runtime_maps_unhashableTypeError__RuntimeError : FuncId := 93
def i___strings_Builder__Reset : FuncId := 94
def i__internal_abi_Kind__String : FuncId := 95
def i_var_s_door__gosem_cut_vars_holds_initialisers_alone__see_the_manifest_s_row_cutvarsword__look_11__test_files_too_ : FuncId := 96
def i_var_s_door__the_look_of_gosem_cut_vars_went_over_the_folder_that_the_caller_named_as_the_repository_s_root__look_11_ : FuncId := 97
def i_var_s_door__unicode_utf8_acceptRanges_is_laid_by_its_own_initialiser__plain_data__look_11_ : FuncId := 98
def i_var_s_door__unicode_utf8_first_is_laid_by_its_text_alone__pinned_1_ : FuncId := 99
def i_gosem_cut_vars : FuncId := 100
/-- gatepost/gatepostlaw12.ValidatorTimes -/
def c_gatepostlaw12_ValidatorTimes : FnC := ⟨63, [.tmp 4],
  (.seq (.region [⟨(some 4), none, .mv (.c (.bool false))⟩])
  (.seq (.region [⟨(some 11), none, .mv (.t 0)⟩, ⟨(some 12), none, .bin .and (.t 11) (.c (.int .i64 4294967295))⟩, ⟨(some 13), none, .mv (.t 1)⟩, ⟨(some 14), none, .bin .and (.t 13) (.c (.int .i64 4294967295))⟩, ⟨(some 0), none, .mv (.t 12)⟩, ⟨(some 1), none, .mv (.t 14)⟩])
  (.seq (.region [⟨(some 15), none, .mv (.t 0)⟩, ⟨(some 16), none, .build [(.int .i64 0), (.bool false), (.bool false), (.bool false), (.bool false), (.bool false), (.bool false), (.bool false), (.int .i64 0), (.int .i64 0), (.int .i64 0), (.int .i64 0), (.int .i64 0), (.int .i64 0), (.int .i64 0), (.int .i64 0), (.int .i64 0), (.int .i64 0), (.int .i64 0), (.int .i64 0), (.str [])] [(16, 1, (.t 15))]⟩, ⟨(some 5), none, .boxz [(.int .i64 0), (.bool false), (.bool false), (.bool false), (.bool false), (.bool false), (.bool false), (.bool false), (.int .i64 0), (.int .i64 0), (.int .i64 0), (.int .i64 0), (.int .i64 0), (.int .i64 0), (.int .i64 0), (.int .i64 0), (.int .i64 0), (.int .i64 0), (.int .i64 0), (.int .i64 0), (.str [])]⟩, ⟨none, none, .store 21 (.t 5) (.t 16)⟩])
  (.seq (.region [⟨(some 17), none, .mv (.t 1)⟩, ⟨(some 18), none, .call i_gatepostref02_Format [(.t 17)]⟩, ⟨(some 6), none, .mv (.t 18)⟩])
  (.seq (.region [⟨(some 19), none, .mv (.t 6)⟩, ⟨(some 20), none, .build [(.str []), (.str [])] [(0, 1, (.c (.str [73, 102, 45, 77, 111, 100, 105, 102, 105, 101, 100, 45, 83, 105, 110, 99, 101]))), (1, 1, (.t 19))]⟩, ⟨(some 21), none, .bsl 2 [(.t 20)]⟩, ⟨(some 22), none, .build [(.str []), (.str []), (.int .i64 0), .nsl] [(0, 1, (.c (.str [71, 69, 84]))), (3, 1, (.t 21))]⟩, ⟨(some 23), none, .load true 21 (.t 5)⟩, ⟨(some 24), none, .call i_validator_Unchanged [(.t 22), (.t 23)]⟩, ⟨(some 7), none, .mv (.t 24)⟩])
  (.seq (.region [⟨(some 25), none, .mv (.t 6)⟩, ⟨(some 26), none, .build [(.str []), (.str [])] [(0, 1, (.c (.str [73, 102, 45, 77, 111, 100, 105, 102, 105, 101, 100, 45, 83, 105, 110, 99, 101]))), (1, 1, (.t 25))]⟩, ⟨(some 27), none, .build [(.str []), (.str [])] [(0, 1, (.c (.str [73, 102, 45, 78, 111, 110, 101, 45, 77, 97, 116, 99, 104]))), (1, 1, (.c (.str [34, 120, 34])))]⟩, ⟨(some 28), none, .bsl 2 [(.t 26), (.t 27)]⟩, ⟨(some 29), none, .build [(.str []), (.str []), (.int .i64 0), .nsl] [(0, 1, (.c (.str [71, 69, 84]))), (3, 1, (.t 28))]⟩, ⟨(some 30), none, .load true 21 (.t 5)⟩, ⟨(some 31), none, .call i_validator_Unchanged [(.t 29), (.t 30)]⟩, ⟨(some 8), none, .mv (.t 31)⟩])
  (.seq (.region [⟨(some 32), none, .mv (.t 6)⟩, ⟨(some 33), none, .build [(.str []), (.str [])] [(0, 1, (.c (.str [73, 102, 45, 82, 97, 110, 103, 101]))), (1, 1, (.t 32))]⟩, ⟨(some 34), none, .build [(.str []), (.str [])] [(0, 1, (.c (.str [82, 97, 110, 103, 101]))), (1, 1, (.c (.str [120])))]⟩, ⟨(some 35), none, .bsl 2 [(.t 33), (.t 34)]⟩, ⟨(some 36), none, .build [(.str []), (.str []), (.int .i64 0), .nsl] [(0, 1, (.c (.str [71, 69, 84]))), (3, 1, (.t 35))]⟩, ⟨(some 37), none, .load true 21 (.t 5)⟩, ⟨(some 38), none, .call i_validator_Applies [(.t 36), (.t 37)]⟩, ⟨(some 9), none, .mv (.t 38)⟩])
  (.seq (.region [⟨(some 39), none, .build [(.str []), (.str [])] [(0, 1, (.c (.str [82, 97, 110, 103, 101]))), (1, 1, (.c (.str [120])))]⟩, ⟨(some 40), none, .bsl 2 [(.t 39)]⟩, ⟨(some 41), none, .build [(.str []), (.str []), (.int .i64 0), .nsl] [(0, 1, (.c (.str [71, 69, 84]))), (3, 1, (.t 40))]⟩, ⟨(some 42), none, .load true 21 (.t 5)⟩, ⟨(some 43), none, .call i_validator_Applies [(.t 41), (.t 42)]⟩, ⟨(some 10), none, .mv (.t 43)⟩])
  (.seq (.region [⟨(some 44), none, .mv (.t 7)⟩, ⟨(some 45), none, .mv (.t 0)⟩, ⟨(some 46), none, .mv (.t 1)⟩, ⟨(some 47), none, .bin .leq (.t 45) (.t 46)⟩, ⟨(some 48), none, .eq .bool false (.t 44) (.t 47)⟩, ⟨(some 49), none, .mv (.t 48)⟩, ⟨(some 50), (some (49, true)), .mv (.t 8)⟩, ⟨(some 51), (some (49, true)), .un .not (.t 50)⟩, ⟨(some 52), none, .pick (.t 49) (.t 51) (.c (.bool false))⟩, ⟨(some 53), none, .mv (.t 52)⟩, ⟨(some 54), (some (53, true)), .mv (.t 9)⟩, ⟨(some 55), (some (53, true)), .mv (.t 0)⟩, ⟨(some 56), (some (53, true)), .mv (.t 1)⟩, ⟨(some 57), (some (53, true)), .bin .eql (.t 55) (.t 56)⟩, ⟨(some 58), (some (53, true)), .eq .bool false (.t 54) (.t 57)⟩, ⟨(some 59), none, .pick (.t 53) (.t 58) (.c (.bool false))⟩, ⟨(some 60), none, .mv (.t 59)⟩, ⟨(some 61), (some (60, true)), .mv (.t 10)⟩, ⟨(some 62), none, .pick (.t 60) (.t 61) (.c (.bool false))⟩, ⟨(some 4), none, .mv (.t 62)⟩])
  .ret)))))))))⟩
/-- gatepost/gatepostref02.Format -/
def c_gatepostref02_Format : FnC := ⟨67, [.tmp 2],
  (.seq (.region [⟨(some 2), none, .mv (.c (.str []))⟩])
  (.seq (.seq (.region [⟨(some 8), none, .mv (.t 0)⟩, ⟨(some 9), none, .bin .lss (.t 8) (.c (.int .i64 0))⟩, ⟨(some 10), none, .mv (.t 9)⟩, ⟨(some 11), (some (10, false)), .mv (.t 0)⟩, ⟨(some 12), (some (10, false)), .bin .geq (.t 11) (.c (.int .i64 253402300800))⟩, ⟨(some 13), none, .pick (.t 10) (.c (.bool true)) (.t 12)⟩])
  (.cond (.t 13)
    (.region [⟨(some 0), none, .mv (.c (.int .i64 0))⟩])
    .skip))
  (.seq (.region [⟨(some 14), none, .mv (.t 0)⟩, ⟨(some 15), none, .bin .quo (.t 14) (.c (.int .i64 86400))⟩, ⟨(some 3), none, .mv (.t 15)⟩])
  (.seq (.region [⟨(some 16), none, .mv (.t 0)⟩, ⟨(some 17), none, .bin .rem (.t 16) (.c (.int .i64 86400))⟩, ⟨(some 4), none, .mv (.t 17)⟩])
  (.seq (.region [⟨(some 19), none, .mv (.t 3)⟩, ⟨(some 20), none, .call i_gatepostref02_Civil [(.t 19)]⟩, ⟨(some 18), none, .mv (.t 20)⟩, ⟨(some 21), none, .ext 0 (.t 18)⟩, ⟨(some 22), none, .ext 1 (.t 18)⟩, ⟨(some 23), none, .ext 2 (.t 18)⟩, ⟨(some 5), none, .mv (.t 21)⟩, ⟨(some 6), none, .mv (.t 22)⟩, ⟨(some 7), none, .mv (.t 23)⟩])
  (.seq (.dregion [⟨(some 24), none, .call i_gatepostref02_short []⟩, ⟨(some 25), none, .mv (.t 3)⟩, ⟨(some 26), none, .bin .add (.t 25) (.c (.int .i64 3))⟩, ⟨(some 27), none, .bin .rem (.t 26) (.c (.int .i64 7))⟩, ⟨(some 28), none, .ixaSl 1 (.t 24) (.t 27)⟩, ⟨(some 29), none, .load false 1 (.t 28)⟩, ⟨(some 30), none, .bin .add (.t 29) (.c (.str [44, 32]))⟩, ⟨(some 31), none, .mv (.t 7)⟩, ⟨(some 32), none, .call i_gatepostref02_two [(.t 31)]⟩, ⟨(some 33), none, .bin .add (.t 30) (.t 32)⟩, ⟨(some 34), none, .bin .add (.t 33) (.c (.str [32]))⟩, ⟨(some 35), none, .call i_gatepostref02_months []⟩, ⟨(some 36), none, .mv (.t 6)⟩, ⟨(some 37), none, .bin .sub (.t 36) (.c (.int .i64 1))⟩, ⟨(some 38), none, .ixaSl 1 (.t 35) (.t 37)⟩, ⟨(some 39), none, .load false 1 (.t 38)⟩, ⟨(some 40), none, .bin .add (.t 34) (.t 39)⟩, ⟨(some 41), none, .bin .add (.t 40) (.c (.str [32]))⟩, ⟨(some 42), none, .mv (.t 5)⟩, ⟨(some 43), none, .bin .quo (.t 42) (.c (.int .i64 100))⟩, ⟨(some 44), none, .call i_gatepostref02_two [(.t 43)]⟩, ⟨(some 45), none, .bin .add (.t 41) (.t 44)⟩, ⟨(some 46), none, .mv (.t 5)⟩, ⟨(some 47), none, .bin .rem (.t 46) (.c (.int .i64 100))⟩, ⟨(some 48), none, .call i_gatepostref02_two [(.t 47)]⟩, ⟨(some 49), none, .bin .add (.t 45) (.t 48)⟩, ⟨(some 50), none, .bin .add (.t 49) (.c (.str [32]))⟩, ⟨(some 51), none, .mv (.t 4)⟩, ⟨(some 52), none, .bin .quo (.t 51) (.c (.int .i64 3600))⟩, ⟨(some 53), none, .call i_gatepostref02_two [(.t 52)]⟩, ⟨(some 54), none, .bin .add (.t 50) (.t 53)⟩, ⟨(some 55), none, .bin .add (.t 54) (.c (.str [58]))⟩, ⟨(some 56), none, .mv (.t 4)⟩, ⟨(some 57), none, .bin .quo (.t 56) (.c (.int .i64 60))⟩, ⟨(some 58), none, .bin .rem (.t 57) (.c (.int .i64 60))⟩, ⟨(some 59), none, .call i_gatepostref02_two [(.t 58)]⟩, ⟨(some 60), none, .bin .add (.t 55) (.t 59)⟩, ⟨(some 61), none, .bin .add (.t 60) (.c (.str [58]))⟩, ⟨(some 62), none, .mv (.t 4)⟩, ⟨(some 63), none, .bin .rem (.t 62) (.c (.int .i64 60))⟩, ⟨(some 64), none, .call i_gatepostref02_two [(.t 63)]⟩] [⟨(some 65), none, .bin .add (.t 61) (.t 64)⟩, ⟨(some 66), none, .bin .add (.t 65) (.c (.str [32, 71, 77, 84]))⟩, ⟨(some 2), none, .mv (.t 66)⟩])
  .ret))))))⟩
/-- gatepost/validator.Unchanged -/
def c_validator_Unchanged : FnC := ⟨57, [.tmp 4],
  (.seq (.region [⟨(some 2), none, .box (.t 0)⟩, ⟨(some 3), none, .box (.t 1)⟩, ⟨(some 4), none, .mv (.c (.bool false))⟩])
  (.seq (.seq (.region [⟨(some 11), none, .faddr 0 (.t 2)⟩, ⟨(some 12), none, .load false 1 (.t 11)⟩, ⟨(some 13), none, .bin .neq (.t 12) (.c (.str [71, 69, 84]))⟩, ⟨(some 14), none, .mv (.t 13)⟩, ⟨(some 15), (some (14, true)), .faddr 0 (.t 2)⟩, ⟨(some 16), (some (14, true)), .load false 1 (.t 15)⟩, ⟨(some 17), (some (14, true)), .bin .neq (.t 16) (.c (.str [72, 69, 65, 68]))⟩, ⟨(some 18), none, .pick (.t 14) (.t 17) (.c (.bool false))⟩])
  (.cond (.t 18)
    (.seq (.region [⟨(some 4), none, .mv (.c (.bool false))⟩])
    .ret)
    .skip))
  (.seq (.seq (.region [⟨(some 20), none, .faddr 3 (.t 2)⟩, ⟨(some 21), none, .load false 1 (.t 20)⟩, ⟨(some 22), none, .call i_field_Get [(.t 21), (.c (.str [73, 102, 45, 78, 111, 110, 101, 45, 77, 97, 116, 99, 104]))]⟩, ⟨(some 19), none, .mv (.t 22)⟩, ⟨(some 23), none, .ext 0 (.t 19)⟩, ⟨(some 24), none, .ext 1 (.t 19)⟩, ⟨(some 5), none, .mv (.t 23)⟩, ⟨(some 6), none, .mv (.t 24)⟩])
  (.seq (.region [⟨(some 25), none, .mv (.t 6)⟩, ⟨(some 26), none, .bin .gtr (.t 25) (.c (.int .i64 0))⟩])
  (.cond (.t 26)
    (.seq (.region [⟨(some 27), none, .mv (.t 5)⟩, ⟨(some 28), none, .faddr 20 (.t 3)⟩, ⟨(some 29), none, .load false 1 (.t 28)⟩, ⟨(some 30), none, .call i_validator_matches [(.t 27), (.t 29)]⟩, ⟨(some 4), none, .mv (.t 30)⟩])
    .ret)
    .skip)))
  (.seq (.region [⟨(some 32), none, .faddr 3 (.t 2)⟩, ⟨(some 33), none, .load false 1 (.t 32)⟩, ⟨(some 34), none, .call i_validator_one [(.t 33), (.c (.str [73, 102, 45, 77, 111, 100, 105, 102, 105, 101, 100, 45, 83, 105, 110, 99, 101]))]⟩, ⟨(some 31), none, .mv (.t 34)⟩, ⟨(some 35), none, .ext 0 (.t 31)⟩, ⟨(some 36), none, .ext 1 (.t 31)⟩, ⟨(some 7), none, .mv (.t 35)⟩, ⟨(some 8), none, .mv (.t 36)⟩])
  (.seq (.region [⟨(some 38), none, .mv (.t 7)⟩, ⟨(some 39), none, .call i_date_Parse [(.t 38)]⟩, ⟨(some 37), none, .mv (.t 39)⟩, ⟨(some 40), none, .ext 0 (.t 37)⟩, ⟨(some 41), none, .ext 1 (.t 37)⟩, ⟨(some 9), none, .mv (.t 40)⟩, ⟨(some 10), none, .mv (.t 41)⟩])
  (.seq (.region [⟨(some 42), none, .mv (.t 8)⟩, ⟨(some 43), none, .mv (.t 42)⟩, ⟨(some 44), (some (43, true)), .mv (.t 10)⟩, ⟨(some 45), none, .pick (.t 43) (.t 44) (.c (.bool false))⟩, ⟨(some 46), none, .mv (.t 45)⟩, ⟨(some 47), (some (46, true)), .faddr 16 (.t 3)⟩, ⟨(some 48), (some (46, true)), .load false 1 (.t 47)⟩, ⟨(some 49), (some (46, true)), .bin .geq (.t 48) (.c (.int .i64 0))⟩, ⟨(some 50), none, .pick (.t 46) (.t 49) (.c (.bool false))⟩, ⟨(some 51), none, .mv (.t 50)⟩, ⟨(some 52), (some (51, true)), .faddr 16 (.t 3)⟩, ⟨(some 53), (some (51, true)), .load false 1 (.t 52)⟩, ⟨(some 54), (some (51, true)), .mv (.t 9)⟩, ⟨(some 55), (some (51, true)), .bin .leq (.t 53) (.t 54)⟩, ⟨(some 56), none, .pick (.t 51) (.t 55) (.c (.bool false))⟩, ⟨(some 4), none, .mv (.t 56)⟩])
  .ret))))))⟩
/-- gatepost/validator.Applies -/
def c_validator_Applies : FnC := ⟨68, [.tmp 4],
  (.seq (.region [⟨(some 2), none, .box (.t 0)⟩, ⟨(some 3), none, .box (.t 1)⟩, ⟨(some 4), none, .mv (.c (.bool false))⟩])
  (.seq (.seq (.region [⟨(some 16), none, .faddr 3 (.t 2)⟩, ⟨(some 17), none, .load false 1 (.t 16)⟩, ⟨(some 18), none, .call i_validator_one [(.t 17), (.c (.str [82, 97, 110, 103, 101]))]⟩, ⟨(some 15), none, .mv (.t 18)⟩, ⟨(some 19), none, .ext 0 (.t 15)⟩, ⟨(some 20), none, .ext 1 (.t 15)⟩, ⟨(some 5), none, .mv (.t 19)⟩, ⟨(some 6), none, .mv (.t 20)⟩])
  (.seq (.region [⟨(some 21), none, .mv (.t 6)⟩, ⟨(some 22), none, .un .not (.t 21)⟩, ⟨(some 23), none, .mv (.t 22)⟩, ⟨(some 24), (some (23, false)), .faddr 0 (.t 2)⟩, ⟨(some 25), (some (23, false)), .load false 1 (.t 24)⟩, ⟨(some 26), (some (23, false)), .bin .neq (.t 25) (.c (.str [71, 69, 84]))⟩, ⟨(some 27), none, .pick (.t 23) (.c (.bool true)) (.t 26)⟩])
  (.cond (.t 27)
    (.seq (.region [⟨(some 4), none, .mv (.c (.bool false))⟩])
    .ret)
    .skip)))
  (.seq (.region [⟨(some 29), none, .faddr 3 (.t 2)⟩, ⟨(some 30), none, .load false 1 (.t 29)⟩, ⟨(some 31), none, .call i_field_Get [(.t 30), (.c (.str [73, 102, 45, 82, 97, 110, 103, 101]))]⟩, ⟨(some 28), none, .mv (.t 31)⟩, ⟨(some 32), none, .ext 0 (.t 28)⟩, ⟨(some 33), none, .ext 1 (.t 28)⟩, ⟨(some 7), none, .mv (.t 32)⟩, ⟨(some 8), none, .mv (.t 33)⟩])
  (.seq (.seq (.region [⟨(some 34), none, .mv (.t 8)⟩, ⟨(some 35), none, .bin .neq (.t 34) (.c (.int .i64 1))⟩])
  (.cond (.t 35)
    (.seq (.region [⟨(some 36), none, .mv (.t 8)⟩, ⟨(some 37), none, .bin .eql (.t 36) (.c (.int .i64 0))⟩, ⟨(some 4), none, .mv (.t 37)⟩])
    .ret)
    .skip))
  (.seq (.region [⟨(some 39), none, .faddr 20 (.t 3)⟩, ⟨(some 40), none, .load false 1 (.t 39)⟩, ⟨(some 41), none, .call i_validator_Parse [(.t 40)]⟩, ⟨(some 38), none, .mv (.t 41)⟩, ⟨(some 42), none, .ext 0 (.t 38)⟩, ⟨(some 43), none, .ext 1 (.t 38)⟩, ⟨(some 9), none, .boxz [(.bool false), (.str [])]⟩, ⟨none, none, .store 2 (.t 9) (.t 42)⟩, ⟨(some 10), none, .mv (.t 43)⟩])
  (.seq (.seq (.region [⟨(some 45), none, .mv (.t 7)⟩, ⟨(some 46), none, .call i_validator_Parse [(.t 45)]⟩, ⟨(some 44), none, .mv (.t 46)⟩, ⟨(some 47), none, .ext 0 (.t 44)⟩, ⟨(some 48), none, .ext 1 (.t 44)⟩, ⟨(some 11), none, .boxz [(.bool false), (.str [])]⟩, ⟨none, none, .store 2 (.t 11) (.t 47)⟩, ⟨(some 12), none, .mv (.t 48)⟩])
  (.seq (.region [⟨(some 49), none, .mv (.t 12)⟩])
  (.cond (.t 49)
    (.seq (.region [⟨(some 50), none, .mv (.t 10)⟩, ⟨(some 51), none, .mv (.t 50)⟩, ⟨(some 52), (some (51, true)), .load true 2 (.t 11)⟩, ⟨(some 53), (some (51, true)), .load true 2 (.t 9)⟩, ⟨(some 54), (some (51, true)), .call i_validator_Strong [(.t 52), (.t 53)]⟩, ⟨(some 55), none, .pick (.t 51) (.t 54) (.c (.bool false))⟩, ⟨(some 4), none, .mv (.t 55)⟩])
    .ret)
    .skip)))
  (.seq (.region [⟨(some 57), none, .mv (.t 7)⟩, ⟨(some 58), none, .call i_date_Parse [(.t 57)]⟩, ⟨(some 56), none, .mv (.t 58)⟩, ⟨(some 59), none, .ext 0 (.t 56)⟩, ⟨(some 60), none, .ext 1 (.t 56)⟩, ⟨(some 13), none, .mv (.t 59)⟩, ⟨(some 14), none, .mv (.t 60)⟩])
  (.seq (.region [⟨(some 61), none, .mv (.t 14)⟩, ⟨(some 62), none, .mv (.t 61)⟩, ⟨(some 63), (some (62, true)), .mv (.t 13)⟩, ⟨(some 64), (some (62, true)), .faddr 16 (.t 3)⟩, ⟨(some 65), (some (62, true)), .load false 1 (.t 64)⟩, ⟨(some 66), (some (62, true)), .bin .eql (.t 63) (.t 65)⟩, ⟨(some 67), none, .pick (.t 62) (.t 66) (.c (.bool false))⟩, ⟨(some 4), none, .mv (.t 67)⟩])
  .ret))))))))⟩
/-- gatepost/gatepostref02.Civil -/
def c_gatepostref02_Civil : FnC := ⟨39, [.tmp 2, .tmp 3, .tmp 4],
  (.seq (.region [⟨(some 2), none, .mv (.c (.int .i64 0))⟩, ⟨(some 3), none, .mv (.c (.int .i64 0))⟩, ⟨(some 4), none, .mv (.c (.int .i64 0))⟩])
  (.seq (.seq (.region [⟨(some 7), none, .mv (.t 0)⟩, ⟨(some 8), none, .bin .lss (.t 7) (.c (.int .i64 0))⟩, ⟨(some 9), none, .mv (.t 8)⟩, ⟨(some 10), (some (9, false)), .mv (.t 0)⟩, ⟨(some 11), (some (9, false)), .bin .gtr (.t 10) (.c (.int .i64 2932896))⟩, ⟨(some 12), none, .pick (.t 9) (.c (.bool true)) (.t 11)⟩])
  (.cond (.t 12)
    (.seq (.region [⟨(some 2), none, .mv (.c (.int .i64 0))⟩, ⟨(some 3), none, .mv (.c (.int .i64 0))⟩, ⟨(some 4), none, .mv (.c (.int .i64 0))⟩])
    .ret)
    .skip))
  (.seq (.region [⟨(some 5), none, .mv (.c (.int .i64 1970))⟩])
  (.seq (.block 0 (.loop
    (.seq (.seq (.region [⟨(some 13), none, .mv (.t 0)⟩, ⟨(some 14), none, .mv (.t 5)⟩, ⟨(some 15), none, .call i_gatepostref02_year [(.t 14)]⟩, ⟨(some 16), none, .bin .geq (.t 13) (.t 15)⟩])
    (.cond (.t 16)
      .skip
      (.exit 0)))
    (.block 1 (.seq (.region [⟨(some 17), none, .mv (.t 0)⟩, ⟨(some 18), none, .mv (.t 5)⟩, ⟨(some 19), none, .call i_gatepostref02_year [(.t 18)]⟩, ⟨(some 20), none, .bin .sub (.t 17) (.t 19)⟩, ⟨(some 0), none, .mv (.t 20)⟩])
    (.region [⟨(some 21), none, .mv (.t 5)⟩, ⟨(some 22), none, .bin .add (.t 21) (.c (.int .i64 1))⟩, ⟨(some 5), none, .mv (.t 22)⟩]))))))
  (.seq (.region [⟨(some 6), none, .mv (.c (.int .i64 1))⟩])
  (.seq (.block 2 (.loop
    (.seq (.seq (.region [⟨(some 23), none, .mv (.t 0)⟩, ⟨(some 24), none, .mv (.t 5)⟩, ⟨(some 25), none, .mv (.t 6)⟩, ⟨(some 26), none, .call i_gatepostref02_long [(.t 24), (.t 25)]⟩, ⟨(some 27), none, .bin .geq (.t 23) (.t 26)⟩])
    (.cond (.t 27)
      .skip
      (.exit 2)))
    (.block 3 (.seq (.region [⟨(some 28), none, .mv (.t 0)⟩, ⟨(some 29), none, .mv (.t 5)⟩, ⟨(some 30), none, .mv (.t 6)⟩, ⟨(some 31), none, .call i_gatepostref02_long [(.t 29), (.t 30)]⟩, ⟨(some 32), none, .bin .sub (.t 28) (.t 31)⟩, ⟨(some 0), none, .mv (.t 32)⟩])
    (.region [⟨(some 33), none, .mv (.t 6)⟩, ⟨(some 34), none, .bin .add (.t 33) (.c (.int .i64 1))⟩, ⟨(some 6), none, .mv (.t 34)⟩]))))))
  (.seq (.region [⟨(some 35), none, .mv (.t 5)⟩, ⟨(some 36), none, .mv (.t 6)⟩, ⟨(some 37), none, .mv (.t 0)⟩, ⟨(some 38), none, .bin .add (.t 37) (.c (.int .i64 1))⟩, ⟨(some 2), none, .mv (.t 35)⟩, ⟨(some 3), none, .mv (.t 36)⟩, ⟨(some 4), none, .mv (.t 38)⟩])
  .ret)))))))⟩
/-- gatepost/gatepostref02.short -/
def c_gatepostref02_short : FnC := ⟨2, [.tmp 0],
  (.seq (.region [⟨(some 0), none, .mv (.c .nsl)⟩])
  (.seq (.region [⟨(some 1), none, .bsl 1 [(.c (.str [77, 111, 110])), (.c (.str [84, 117, 101])), (.c (.str [87, 101, 100])), (.c (.str [84, 104, 117])), (.c (.str [70, 114, 105])), (.c (.str [83, 97, 116])), (.c (.str [83, 117, 110]))]⟩, ⟨(some 0), none, .mv (.t 1)⟩])
  .ret))⟩
/-- gatepost/gatepostref02.two -/
def c_gatepostref02_two : FnC := ⟨16, [.tmp 2],
  (.seq (.region [⟨(some 2), none, .mv (.c (.str []))⟩])
  (.seq (.dregion [⟨(some 3), none, .mv (.t 0)⟩, ⟨(some 4), none, .bin .quo (.t 3) (.c (.int .i64 10))⟩, ⟨(some 5), none, .mv (.t 0)⟩, ⟨(some 6), none, .bin .quo (.t 5) (.c (.int .i64 10))⟩, ⟨(some 7), none, .bin .add (.t 6) (.c (.int .i64 1))⟩, ⟨(some 8), none, .slstr (.c (.str [48, 49, 50, 51, 52, 53, 54, 55, 56, 57])) (some (.t 4)) (some (.t 7))⟩, ⟨(some 9), none, .mv (.t 0)⟩, ⟨(some 10), none, .bin .rem (.t 9) (.c (.int .i64 10))⟩, ⟨(some 11), none, .mv (.t 0)⟩, ⟨(some 12), none, .bin .rem (.t 11) (.c (.int .i64 10))⟩, ⟨(some 13), none, .bin .add (.t 12) (.c (.int .i64 1))⟩, ⟨(some 14), none, .slstr (.c (.str [48, 49, 50, 51, 52, 53, 54, 55, 56, 57])) (some (.t 10)) (some (.t 13))⟩] [⟨(some 15), none, .bin .add (.t 8) (.t 14)⟩, ⟨(some 2), none, .mv (.t 15)⟩])
  .ret))⟩
/-- gatepost/gatepostref02.months -/
def c_gatepostref02_months : FnC := ⟨2, [.tmp 0],
  (.seq (.region [⟨(some 0), none, .mv (.c .nsl)⟩])
  (.seq (.region [⟨(some 1), none, .bsl 1 [(.c (.str [74, 97, 110])), (.c (.str [70, 101, 98])), (.c (.str [77, 97, 114])), (.c (.str [65, 112, 114])), (.c (.str [77, 97, 121])), (.c (.str [74, 117, 110])), (.c (.str [74, 117, 108])), (.c (.str [65, 117, 103])), (.c (.str [83, 101, 112])), (.c (.str [79, 99, 116])), (.c (.str [78, 111, 118])), (.c (.str [68, 101, 99]))]⟩, ⟨(some 0), none, .mv (.t 1)⟩])
  .ret))⟩
/-- gatepost/field.Get -/
def c_field_Get : FnC := ⟨29, [.tmp 4, .tmp 5],
  (.seq (.region [⟨(some 4), none, .mv (.c (.str []))⟩, ⟨(some 5), none, .mv (.c (.int .i64 0))⟩])
  (.seq (.region [⟨(some 6), none, .mv (.c .nsl)⟩])
  (.seq (.seq (.region [⟨(some 9), none, .mv (.t 0)⟩, ⟨(some 10), none, .len 1 (.t 9)⟩, ⟨(some 11), none, .mv (.c (.int .i64 0))⟩])
  (.block 0 (.loop
    (.seq (.region [⟨(some 12), none, .bin .lss (.t 11) (.t 10)⟩])
    (.seq (.cond (.t 12)
      .skip
      (.exit 0))
    (.seq (.block 1 (.seq (.region [⟨(some 13), none, .ixaSl 2 (.t 9) (.t 11)⟩, ⟨(some 14), none, .load true 2 (.t 13)⟩, ⟨(some 8), none, .boxz [(.str []), (.str [])]⟩, ⟨none, none, .store 2 (.t 8) (.t 14)⟩])
    (.seq (.region [⟨(some 15), none, .faddr 0 (.t 8)⟩, ⟨(some 16), none, .load false 1 (.t 15)⟩, ⟨(some 17), none, .mv (.t 1)⟩, ⟨(some 18), none, .call i_token_Same [(.t 16), (.t 17)]⟩])
    (.cond (.t 18)
      (.region [⟨(some 19), none, .mv (.t 6)⟩, ⟨(some 20), none, .faddr 1 (.t 8)⟩, ⟨(some 21), none, .load false 1 (.t 20)⟩, ⟨(some 22), none, .bsl 1 [(.t 21)]⟩, ⟨(some 23), none, .app 1 16 false (.t 19) (.t 22)⟩, ⟨(some 6), none, .mv (.t 23)⟩])
      .skip))))
    (.region [⟨(some 24), none, .bin .add (.t 11) (.c (.int .i64 1))⟩, ⟨(some 11), none, .mv (.t 24)⟩])))))))
  (.seq (.region [⟨(some 25), none, .mv (.t 6)⟩, ⟨(some 26), none, .call i_strings_Join [(.t 25), (.c (.str [44, 32]))]⟩, ⟨(some 27), none, .mv (.t 6)⟩, ⟨(some 28), none, .len 1 (.t 27)⟩, ⟨(some 4), none, .mv (.t 26)⟩, ⟨(some 5), none, .mv (.t 28)⟩])
  .ret))))⟩
/-- gatepost/validator.matches -/
def c_validator_matches : FnC := ⟨30, [.tmp 4],
  (.seq (.region [⟨(some 4), none, .mv (.c (.bool false))⟩])
  (.seq (.seq (.region [⟨(some 9), none, .mv (.t 0)⟩, ⟨(some 10), none, .bin .eql (.t 9) (.c (.str [42]))⟩])
  (.cond (.t 10)
    (.seq (.region [⟨(some 4), none, .mv (.c (.bool true))⟩])
    .ret)
    .skip))
  (.seq (.region [⟨(some 12), none, .mv (.t 1)⟩, ⟨(some 13), none, .call i_validator_Parse [(.t 12)]⟩, ⟨(some 11), none, .mv (.t 13)⟩, ⟨(some 14), none, .ext 0 (.t 11)⟩, ⟨(some 15), none, .ext 1 (.t 11)⟩, ⟨(some 5), none, .boxz [(.bool false), (.str [])]⟩, ⟨none, none, .store 2 (.t 5) (.t 14)⟩, ⟨(some 6), none, .mv (.t 15)⟩])
  (.seq (.region [⟨(some 17), none, .mv (.t 0)⟩, ⟨(some 18), none, .call i_token_Split [(.t 17)]⟩, ⟨(some 16), none, .mv (.t 18)⟩, ⟨(some 19), none, .ext 0 (.t 16)⟩, ⟨(some 20), none, .ext 1 (.t 16)⟩, ⟨(some 7), none, .mv (.t 19)⟩, ⟨(some 8), none, .mv (.t 20)⟩])
  (.seq (.region [⟨(some 21), none, .mv (.t 6)⟩, ⟨(some 22), none, .mv (.t 21)⟩, ⟨(some 23), (some (22, true)), .mv (.t 8)⟩, ⟨(some 24), none, .pick (.t 22) (.t 23) (.c (.bool false))⟩, ⟨(some 25), none, .mv (.t 24)⟩, ⟨(some 26), (some (25, true)), .mv (.t 7)⟩, ⟨(some 27), (some (25, true)), .mkfn i_validator_matches_1 [(.t 5)]⟩, ⟨(some 28), (some (25, true)), .call i_slices_ContainsFunc___string_string_ [(.t 26), (.t 27)]⟩, ⟨(some 29), none, .pick (.t 25) (.t 28) (.c (.bool false))⟩, ⟨(some 4), none, .mv (.t 29)⟩])
  .ret)))))⟩
/-- gatepost/validator.one -/
def c_validator_one : FnC := ⟨17, [.tmp 4, .tmp 5],
  (.seq (.region [⟨(some 4), none, .mv (.c (.str []))⟩, ⟨(some 5), none, .mv (.c (.bool false))⟩])
  (.seq (.region [⟨(some 9), none, .mv (.t 0)⟩, ⟨(some 10), none, .mv (.t 1)⟩, ⟨(some 11), none, .call i_field_Get [(.t 9), (.t 10)]⟩, ⟨(some 8), none, .mv (.t 11)⟩, ⟨(some 12), none, .ext 0 (.t 8)⟩, ⟨(some 13), none, .ext 1 (.t 8)⟩, ⟨(some 6), none, .mv (.t 12)⟩, ⟨(some 7), none, .mv (.t 13)⟩])
  (.seq (.region [⟨(some 14), none, .mv (.t 6)⟩, ⟨(some 15), none, .mv (.t 7)⟩, ⟨(some 16), none, .bin .eql (.t 15) (.c (.int .i64 1))⟩, ⟨(some 4), none, .mv (.t 14)⟩, ⟨(some 5), none, .mv (.t 16)⟩])
  .ret)))⟩
/-- gatepost/date.Parse -/
def c_date_Parse : FnC := ⟨23, [.tmp 2, .tmp 3],
  (.seq (.region [⟨(some 2), none, .mv (.c (.int .i64 0))⟩, ⟨(some 3), none, .mv (.c (.bool false))⟩])
  (.seq (.seq (.region [⟨(some 8), none, .build [.nfn, .nfn, .nfn] [(0, 1, (.c (.fn i_date_fixed []))), (1, 1, (.c (.fn i_date_old []))), (2, 1, (.c (.fn i_date_plain [])))]⟩, ⟨(some 9), none, .mv (.c (.int .i64 0))⟩])
  (.block 0 (.loop
    (.seq (.region [⟨(some 10), none, .bin .lss (.t 9) (.c (.int .i64 3))⟩])
    (.seq (.cond (.t 10)
      .skip
      (.exit 0))
    (.seq (.block 1 (.seq (.region [⟨(some 11), none, .ixArr 3 1 false (.t 8) (.t 9)⟩, ⟨(some 5), none, .mv (.t 11)⟩])
    (.seq (.region [⟨(some 13), none, .mv (.t 5)⟩, ⟨(some 14), none, .mv (.t 0)⟩, ⟨(some 15), none, .build [(.str []), (.bool false)] [(0, 1, (.t 14)), (1, 1, (.c (.bool true)))]⟩, ⟨(some 16), none, .box (.t 15)⟩, ⟨(some 17), none, .callv (.t 13) [(.t 16)]⟩, ⟨(some 12), none, .mv (.t 17)⟩, ⟨(some 18), none, .ext 0 (.t 12)⟩, ⟨(some 19), none, .ext 1 (.t 12)⟩, ⟨(some 6), none, .mv (.t 18)⟩, ⟨(some 7), none, .mv (.t 19)⟩])
    (.seq (.region [⟨(some 20), none, .mv (.t 7)⟩])
    (.cond (.t 20)
      (.seq (.region [⟨(some 21), none, .mv (.t 6)⟩, ⟨(some 2), none, .mv (.t 21)⟩, ⟨(some 3), none, .mv (.c (.bool true))⟩])
      .ret)
      .skip)))))
    (.region [⟨(some 22), none, .bin .add (.t 9) (.c (.int .i64 1))⟩, ⟨(some 9), none, .mv (.t 22)⟩])))))))
  (.seq (.region [⟨(some 2), none, .mv (.c (.int .i64 0))⟩, ⟨(some 3), none, .mv (.c (.bool false))⟩])
  .ret)))⟩
/-- gatepost/validator.Parse -/
def c_validator_Parse : FnC := ⟨59, [.cell 2 true 2, .tmp 3],
  (.seq (.region [⟨(some 2), none, .boxz [(.bool false), (.str [])]⟩, ⟨(some 3), none, .mv (.c (.bool false))⟩])
  (.seq (.region [⟨(some 11), none, .mv (.t 0)⟩, ⟨(some 12), none, .call i_strings_CutPrefix [(.t 11), (.c (.str [87, 47]))]⟩, ⟨(some 10), none, .mv (.t 12)⟩, ⟨(some 13), none, .ext 0 (.t 10)⟩, ⟨(some 14), none, .ext 1 (.t 10)⟩, ⟨(some 0), none, .mv (.t 13)⟩, ⟨(some 4), none, .mv (.t 14)⟩])
  (.seq (.region [⟨(some 16), none, .mv (.t 0)⟩, ⟨(some 17), none, .call i_strings_CutPrefix [(.t 16), (.c (.str [34]))]⟩, ⟨(some 15), none, .mv (.t 17)⟩, ⟨(some 18), none, .ext 0 (.t 15)⟩, ⟨(some 19), none, .ext 1 (.t 15)⟩, ⟨(some 5), none, .mv (.t 18)⟩, ⟨(some 6), none, .mv (.t 19)⟩])
  (.seq (.region [⟨(some 21), none, .mv (.t 5)⟩, ⟨(some 22), none, .call i_strings_CutSuffix [(.t 21), (.c (.str [34]))]⟩, ⟨(some 20), none, .mv (.t 22)⟩, ⟨(some 23), none, .ext 0 (.t 20)⟩, ⟨(some 24), none, .ext 1 (.t 20)⟩, ⟨(some 5), none, .mv (.t 23)⟩, ⟨(some 7), none, .mv (.t 24)⟩])
  (.seq (.seq (.region [⟨(some 25), none, .mv (.t 6)⟩, ⟨(some 26), none, .un .not (.t 25)⟩, ⟨(some 27), none, .mv (.t 26)⟩, ⟨(some 28), (some (27, false)), .mv (.t 7)⟩, ⟨(some 29), (some (27, false)), .un .not (.t 28)⟩, ⟨(some 30), none, .pick (.t 27) (.c (.bool true)) (.t 29)⟩])
  (.cond (.t 30)
    (.seq (.region [⟨(some 31), none, .build [(.bool false), (.str [])] []⟩, ⟨none, none, .store 2 (.t 2) (.t 31)⟩, ⟨(some 3), none, .mv (.c (.bool false))⟩])
    .ret)
    .skip))
  (.seq (.seq (.region [⟨(some 32), none, .mv (.t 5)⟩, ⟨(some 33), none, .len 0 (.t 32)⟩, ⟨(some 34), none, .mv (.c (.int .i64 0))⟩])
  (.block 0 (.loop
    (.seq (.region [⟨(some 35), none, .bin .lss (.t 34) (.t 33)⟩])
    (.seq (.cond (.t 35)
      .skip
      (.exit 0))
    (.seq (.block 1 (.seq (.region [⟨(some 36), none, .mv (.t 34)⟩, ⟨(some 8), none, .mv (.t 36)⟩])
    (.seq (.region [⟨(some 37), none, .mv (.t 5)⟩, ⟨(some 38), none, .mv (.t 8)⟩, ⟨(some 39), none, .ixStr (.t 37) (.t 38)⟩, ⟨(some 9), none, .mv (.t 39)⟩])
    (.seq (.region [⟨(some 40), none, .mv (.t 9)⟩, ⟨(some 41), none, .bin .leq (.t 40) (.c (.int .u8 32))⟩, ⟨(some 42), none, .mv (.t 41)⟩, ⟨(some 43), (some (42, false)), .mv (.t 9)⟩, ⟨(some 44), (some (42, false)), .bin .eql (.t 43) (.c (.int .u8 34))⟩, ⟨(some 45), none, .pick (.t 42) (.c (.bool true)) (.t 44)⟩, ⟨(some 46), none, .mv (.t 45)⟩, ⟨(some 47), (some (46, false)), .mv (.t 9)⟩, ⟨(some 48), (some (46, false)), .bin .eql (.t 47) (.c (.int .u8 92))⟩, ⟨(some 49), none, .pick (.t 46) (.c (.bool true)) (.t 48)⟩, ⟨(some 50), none, .mv (.t 49)⟩, ⟨(some 51), (some (50, false)), .mv (.t 9)⟩, ⟨(some 52), (some (50, false)), .bin .eql (.t 51) (.c (.int .u8 127))⟩, ⟨(some 53), none, .pick (.t 50) (.c (.bool true)) (.t 52)⟩])
    (.cond (.t 53)
      (.seq (.region [⟨(some 54), none, .build [(.bool false), (.str [])] []⟩, ⟨none, none, .store 2 (.t 2) (.t 54)⟩, ⟨(some 3), none, .mv (.c (.bool false))⟩])
      .ret)
      .skip)))))
    (.region [⟨(some 55), none, .bin .add (.t 34) (.c (.int .i64 1))⟩, ⟨(some 34), none, .mv (.t 55)⟩])))))))
  (.seq (.region [⟨(some 56), none, .mv (.t 4)⟩, ⟨(some 57), none, .mv (.t 5)⟩, ⟨(some 58), none, .build [(.bool false), (.str [])] [(0, 1, (.t 56)), (1, 1, (.t 57))]⟩, ⟨none, none, .store 2 (.t 2) (.t 58)⟩, ⟨(some 3), none, .mv (.c (.bool true))⟩])
  .ret)))))))⟩
/-- gatepost/validator.Strong -/
def c_validator_Strong : FnC := ⟨13, [.tmp 4],
  (.seq (.region [⟨(some 2), none, .box (.t 0)⟩, ⟨(some 3), none, .box (.t 1)⟩, ⟨(some 4), none, .mv (.c (.bool false))⟩])
  (.seq (.region [⟨(some 5), none, .load true 2 (.t 2)⟩, ⟨(some 6), none, .load true 2 (.t 3)⟩, ⟨(some 7), none, .eq (.agg [.b, .s]) false (.t 5) (.t 6)⟩, ⟨(some 8), none, .mv (.t 7)⟩, ⟨(some 9), (some (8, true)), .faddr 0 (.t 2)⟩, ⟨(some 10), (some (8, true)), .load false 1 (.t 9)⟩, ⟨(some 11), (some (8, true)), .un .not (.t 10)⟩, ⟨(some 12), none, .pick (.t 8) (.t 11) (.c (.bool false))⟩, ⟨(some 4), none, .mv (.t 12)⟩])
  .ret))⟩
/-- gatepost/gatepostref02.year -/
def c_gatepostref02_year : FnC := ⟨5, [.tmp 2],
  (.seq (.region [⟨(some 2), none, .mv (.c (.int .i64 0))⟩])
  (.seq (.seq (.region [⟨(some 3), none, .mv (.t 0)⟩, ⟨(some 4), none, .call i_gatepostref02_leap [(.t 3)]⟩])
  (.cond (.t 4)
    (.seq (.region [⟨(some 2), none, .mv (.c (.int .i64 366))⟩])
    .ret)
    .skip))
  (.seq (.region [⟨(some 2), none, .mv (.c (.int .i64 365))⟩])
  .ret)))⟩
/-- gatepost/gatepostref02.long -/
def c_gatepostref02_long : FnC := ⟨15, [.tmp 4],
  (.seq (.region [⟨(some 4), none, .mv (.c (.int .i64 0))⟩])
  (.seq (.seq (.region [⟨(some 5), none, .mv (.t 1)⟩])
  (.block 0 (.seq (.region [⟨(some 7), none, .bin .eql (.t 5) (.c (.int .i64 2))⟩, ⟨(some 6), none, .mv (.t 7)⟩])
  (.cond (.t 6)
    (.seq (.seq (.region [⟨(some 8), none, .mv (.t 0)⟩, ⟨(some 9), none, .call i_gatepostref02_leap [(.t 8)]⟩])
    (.cond (.t 9)
      (.seq (.region [⟨(some 4), none, .mv (.c (.int .i64 29))⟩])
      .ret)
      .skip))
    (.seq (.region [⟨(some 4), none, .mv (.c (.int .i64 28))⟩])
    .ret))
    (.seq (.seq (.region [⟨(some 11), none, .bin .eql (.t 5) (.c (.int .i64 4))⟩, ⟨(some 10), none, .mv (.t 11)⟩])
    (.cond (.t 10)
      .skip
      (.seq (.region [⟨(some 12), none, .bin .eql (.t 5) (.c (.int .i64 6))⟩, ⟨(some 10), none, .mv (.t 12)⟩])
      (.cond (.t 10)
        .skip
        (.seq (.region [⟨(some 13), none, .bin .eql (.t 5) (.c (.int .i64 9))⟩, ⟨(some 10), none, .mv (.t 13)⟩])
        (.cond (.t 10)
          .skip
          (.region [⟨(some 14), none, .bin .eql (.t 5) (.c (.int .i64 11))⟩, ⟨(some 10), none, .mv (.t 14)⟩])))))))
    (.cond (.t 10)
      (.seq (.region [⟨(some 4), none, .mv (.c (.int .i64 30))⟩])
      .ret)
      .skip))))))
  (.seq (.region [⟨(some 4), none, .mv (.c (.int .i64 31))⟩])
  .ret)))⟩
/-- gatepost/token.Same -/
def c_token_Same : FnC := ⟨17, [.tmp 4],
  (.seq (.region [⟨(some 4), none, .mv (.c (.bool false))⟩])
  (.seq (.region [⟨(some 5), none, .mv (.t 0)⟩, ⟨(some 6), none, .len 0 (.t 5)⟩, ⟨(some 7), none, .mv (.t 1)⟩, ⟨(some 8), none, .len 0 (.t 7)⟩, ⟨(some 9), none, .bin .eql (.t 6) (.t 8)⟩, ⟨(some 10), none, .mv (.t 9)⟩, ⟨(some 11), (some (10, true)), .mv (.t 0)⟩, ⟨(some 12), (some (10, true)), .call i_token_Lower [(.t 11)]⟩, ⟨(some 13), (some (10, true)), .mv (.t 1)⟩, ⟨(some 14), (some (10, true)), .call i_token_Lower [(.t 13)]⟩, ⟨(some 15), (some (10, true)), .bin .eql (.t 12) (.t 14)⟩, ⟨(some 16), none, .pick (.t 10) (.t 15) (.c (.bool false))⟩, ⟨(some 4), none, .mv (.t 16)⟩])
  .ret))⟩
/-- gatepost/token.Split -/
def c_token_Split : FnC := ⟨54, [.tmp 2, .tmp 3],
  (.seq (.region [⟨(some 1), none, .box (.t 0)⟩, ⟨(some 2), none, .mv (.c .nsl)⟩, ⟨(some 3), none, .mv (.c (.bool false))⟩])
  (.seq (.region [⟨(some 4), none, .boxz [.nsl]⟩])
  (.seq (.region [⟨(some 5), none, .boxz [(.int .i64 0)]⟩, ⟨none, none, .store 1 (.t 5) (.c (.int .i64 0))⟩])
  (.seq (.region [⟨(some 10), none, .mkfn i_token_Split_1 [(.t 1), (.t 5), (.t 4)]⟩, ⟨(some 6), none, .mv (.t 10)⟩])
  (.seq (.region [⟨(some 7), none, .mv (.c (.bool false))⟩])
  (.seq (.seq (.region [⟨(some 8), none, .mv (.c (.int .i64 0))⟩])
  (.block 0 (.loop
    (.seq (.seq (.region [⟨(some 11), none, .mv (.t 8)⟩, ⟨(some 12), none, .load false 1 (.t 1)⟩, ⟨(some 13), none, .len 0 (.t 12)⟩, ⟨(some 14), none, .bin .lss (.t 11) (.t 13)⟩])
    (.cond (.t 14)
      .skip
      (.exit 0)))
    (.seq (.block 1 (.seq (.region [⟨(some 17), none, .load false 1 (.t 1)⟩, ⟨(some 18), none, .mv (.t 8)⟩, ⟨(some 19), none, .ixStr (.t 17) (.t 18)⟩, ⟨(some 9), none, .mv (.t 19)⟩])
    (.block 2 (.seq (.region [⟨(some 21), none, .mv (.t 9)⟩, ⟨(some 22), none, .bin .eql (.t 21) (.c (.int .u8 34))⟩, ⟨(some 20), none, .mv (.t 22)⟩])
    (.cond (.t 20)
      (.region [⟨(some 23), none, .mv (.t 7)⟩, ⟨(some 24), none, .un .not (.t 23)⟩, ⟨(some 7), none, .mv (.t 24)⟩])
      (.seq (.region [⟨(some 26), none, .mv (.t 7)⟩, ⟨(some 27), none, .mv (.t 26)⟩, ⟨(some 28), (some (27, true)), .mv (.t 9)⟩, ⟨(some 29), (some (27, true)), .bin .eql (.t 28) (.c (.int .u8 92))⟩, ⟨(some 30), none, .pick (.t 27) (.t 29) (.c (.bool false))⟩, ⟨(some 25), none, .mv (.t 30)⟩])
      (.cond (.t 25)
        (.region [⟨(some 31), none, .mv (.t 8)⟩, ⟨(some 32), none, .bin .add (.t 31) (.c (.int .i64 1))⟩, ⟨(some 8), none, .mv (.t 32)⟩])
        (.seq (.region [⟨(some 34), none, .mv (.t 7)⟩, ⟨(some 35), none, .un .not (.t 34)⟩, ⟨(some 36), none, .mv (.t 35)⟩, ⟨(some 37), (some (36, true)), .mv (.t 9)⟩, ⟨(some 38), (some (36, true)), .bin .eql (.t 37) (.c (.int .u8 44))⟩, ⟨(some 39), none, .pick (.t 36) (.t 38) (.c (.bool false))⟩, ⟨(some 33), none, .mv (.t 39)⟩])
        (.cond (.t 33)
          (.region [⟨(some 40), none, .mv (.t 6)⟩, ⟨(some 41), none, .mv (.t 8)⟩, ⟨(some 42), none, .callv (.t 40) [(.t 41)]⟩])
          .skip)))))))))
    (.region [⟨(some 15), none, .mv (.t 8)⟩, ⟨(some 16), none, .bin .add (.t 15) (.c (.int .i64 1))⟩, ⟨(some 8), none, .mv (.t 16)⟩]))))))
  (.seq (.seq (.region [⟨(some 43), none, .mv (.t 7)⟩])
  (.cond (.t 43)
    (.seq (.region [⟨(some 2), none, .mv (.c .nsl)⟩, ⟨(some 3), none, .mv (.c (.bool false))⟩])
    .ret)
    .skip))
  (.seq (.region [⟨(some 44), none, .mv (.t 6)⟩, ⟨(some 45), none, .load false 1 (.t 1)⟩, ⟨(some 46), none, .len 0 (.t 45)⟩, ⟨(some 47), none, .callv (.t 44) [(.t 46)]⟩])
  (.seq (.region [⟨(some 48), none, .load false 1 (.t 4)⟩, ⟨(some 49), none, .load false 1 (.t 4)⟩, ⟨(some 50), none, .len 1 (.t 49)⟩, ⟨(some 51), none, .load false 1 (.t 4)⟩, ⟨(some 52), none, .len 1 (.t 51)⟩, ⟨(some 53), none, .slsl 1 (.t 48) none (some (.t 50)) (some (.t 52))⟩, ⟨(some 2), none, .mv (.t 53)⟩, ⟨(some 3), none, .mv (.c (.bool true))⟩])
  .ret)))))))))⟩
/-- slices.ContainsFunc[[]string,string] -/
def c_slices_ContainsFunc___string_string_ : FnC := ⟨9, [.tmp 4],
  (.seq (.region [⟨(some 4), none, .mv (.c (.bool false))⟩])
  (.seq (.region [⟨(some 5), none, .mv (.t 0)⟩, ⟨(some 6), none, .mv (.t 1)⟩, ⟨(some 7), none, .call i_slices_IndexFunc___string_string_ [(.t 5), (.t 6)]⟩, ⟨(some 8), none, .bin .geq (.t 7) (.c (.int .i64 0))⟩, ⟨(some 4), none, .mv (.t 8)⟩])
  .ret))⟩
/-- gatepost/validator.matches$1 -/
def c_validator_matches_1 : FnC := ⟨17, [.tmp 3],
  (.seq (.region [⟨(some 3), none, .mv (.c (.bool false))⟩])
  (.seq (.region [⟨(some 7), none, .mv (.t 0)⟩, ⟨(some 8), none, .call i_validator_Parse [(.t 7)]⟩, ⟨(some 6), none, .mv (.t 8)⟩, ⟨(some 9), none, .ext 0 (.t 6)⟩, ⟨(some 10), none, .ext 1 (.t 6)⟩, ⟨(some 4), none, .boxz [(.bool false), (.str [])]⟩, ⟨none, none, .store 2 (.t 4) (.t 9)⟩, ⟨(some 5), none, .mv (.t 10)⟩])
  (.seq (.region [⟨(some 11), none, .mv (.t 5)⟩, ⟨(some 12), none, .mv (.t 11)⟩, ⟨(some 13), (some (12, true)), .load true 2 (.t 4)⟩, ⟨(some 14), (some (12, true)), .load true 2 (.t 1)⟩, ⟨(some 15), (some (12, true)), .call i_validator_Weak [(.t 13), (.t 14)]⟩, ⟨(some 16), none, .pick (.t 12) (.t 15) (.c (.bool false))⟩, ⟨(some 3), none, .mv (.t 16)⟩])
  .ret)))⟩
/-- gatepost/validator.Weak -/
def c_validator_Weak : FnC := ⟨10, [.tmp 4],
  (.seq (.region [⟨(some 2), none, .box (.t 0)⟩, ⟨(some 3), none, .box (.t 1)⟩, ⟨(some 4), none, .mv (.c (.bool false))⟩])
  (.seq (.region [⟨(some 5), none, .faddr 1 (.t 2)⟩, ⟨(some 6), none, .load false 1 (.t 5)⟩, ⟨(some 7), none, .faddr 1 (.t 3)⟩, ⟨(some 8), none, .load false 1 (.t 7)⟩, ⟨(some 9), none, .bin .eql (.t 6) (.t 8)⟩, ⟨(some 4), none, .mv (.t 9)⟩])
  .ret))⟩
/-- gatepost/date.fixed -/
def c_date_fixed : FnC := ⟨38, [.tmp 2, .tmp 3],
  (.seq (.region [⟨(some 2), none, .mv (.c (.int .i64 0))⟩, ⟨(some 3), none, .mv (.c (.bool false))⟩])
  (.seq (.region [⟨(some 9), none, .mv (.t 0)⟩, ⟨(some 10), none, .call i___gatepost_date_reader__day [(.t 9), (.c (.bool false))]⟩, ⟨(some 4), none, .mv (.t 10)⟩])
  (.seq (.region [⟨(some 11), none, .mv (.t 0)⟩, ⟨(some 12), none, .call i___gatepost_date_reader__need [(.t 11), (.c (.str [44, 32]))]⟩])
  (.seq (.region [⟨(some 13), none, .mv (.t 0)⟩, ⟨(some 14), none, .call i___gatepost_date_reader__number [(.t 13), (.c (.int .i64 2))]⟩, ⟨(some 5), none, .mv (.t 14)⟩])
  (.seq (.region [⟨(some 15), none, .mv (.t 0)⟩, ⟨(some 16), none, .call i___gatepost_date_reader__need [(.t 15), (.c (.str [32]))]⟩])
  (.seq (.region [⟨(some 17), none, .mv (.t 0)⟩, ⟨(some 18), none, .call i___gatepost_date_reader__month [(.t 17)]⟩, ⟨(some 6), none, .mv (.t 18)⟩])
  (.seq (.region [⟨(some 19), none, .mv (.t 0)⟩, ⟨(some 20), none, .call i___gatepost_date_reader__need [(.t 19), (.c (.str [32]))]⟩])
  (.seq (.region [⟨(some 21), none, .mv (.t 0)⟩, ⟨(some 22), none, .call i___gatepost_date_reader__number [(.t 21), (.c (.int .i64 4))]⟩, ⟨(some 7), none, .mv (.t 22)⟩])
  (.seq (.region [⟨(some 23), none, .mv (.t 0)⟩, ⟨(some 24), none, .call i___gatepost_date_reader__need [(.t 23), (.c (.str [32]))]⟩])
  (.seq (.region [⟨(some 25), none, .mv (.t 0)⟩, ⟨(some 26), none, .call i___gatepost_date_reader__clock [(.t 25)]⟩, ⟨(some 8), none, .mv (.t 26)⟩])
  (.seq (.region [⟨(some 27), none, .mv (.t 0)⟩, ⟨(some 28), none, .call i___gatepost_date_reader__need [(.t 27), (.c (.str [32, 71, 77, 84]))]⟩])
  (.seq (.region [⟨(some 29), none, .mv (.t 0)⟩, ⟨(some 30), none, .mv (.t 4)⟩, ⟨(some 31), none, .mv (.t 7)⟩, ⟨(some 32), none, .mv (.t 6)⟩, ⟨(some 33), none, .mv (.t 5)⟩, ⟨(some 34), none, .mv (.t 8)⟩, ⟨(some 35), none, .call i___gatepost_date_reader__second [(.t 29), (.t 30), (.t 31), (.t 32), (.t 33), (.t 34)]⟩, ⟨(some 36), none, .ext 0 (.t 35)⟩, ⟨(some 37), none, .ext 1 (.t 35)⟩, ⟨(some 2), none, .mv (.t 36)⟩, ⟨(some 3), none, .mv (.t 37)⟩])
  .ret))))))))))))⟩
/-- gatepost/date.old -/
def c_date_old : FnC := ⟨44, [.tmp 2, .tmp 3],
  (.seq (.region [⟨(some 2), none, .mv (.c (.int .i64 0))⟩, ⟨(some 3), none, .mv (.c (.bool false))⟩])
  (.seq (.region [⟨(some 9), none, .mv (.t 0)⟩, ⟨(some 10), none, .call i___gatepost_date_reader__day [(.t 9), (.c (.bool true))]⟩, ⟨(some 4), none, .mv (.t 10)⟩])
  (.seq (.region [⟨(some 11), none, .mv (.t 0)⟩, ⟨(some 12), none, .call i___gatepost_date_reader__need [(.t 11), (.c (.str [44, 32]))]⟩])
  (.seq (.region [⟨(some 13), none, .mv (.t 0)⟩, ⟨(some 14), none, .call i___gatepost_date_reader__number [(.t 13), (.c (.int .i64 2))]⟩, ⟨(some 5), none, .mv (.t 14)⟩])
  (.seq (.region [⟨(some 15), none, .mv (.t 0)⟩, ⟨(some 16), none, .call i___gatepost_date_reader__need [(.t 15), (.c (.str [45]))]⟩])
  (.seq (.region [⟨(some 17), none, .mv (.t 0)⟩, ⟨(some 18), none, .call i___gatepost_date_reader__month [(.t 17)]⟩, ⟨(some 6), none, .mv (.t 18)⟩])
  (.seq (.region [⟨(some 19), none, .mv (.t 0)⟩, ⟨(some 20), none, .call i___gatepost_date_reader__need [(.t 19), (.c (.str [45]))]⟩])
  (.seq (.region [⟨(some 21), none, .mv (.t 0)⟩, ⟨(some 22), none, .call i___gatepost_date_reader__number [(.t 21), (.c (.int .i64 2))]⟩, ⟨(some 7), none, .mv (.t 22)⟩])
  (.seq (.region [⟨(some 23), none, .mv (.t 0)⟩, ⟨(some 24), none, .call i___gatepost_date_reader__need [(.t 23), (.c (.str [32]))]⟩])
  (.seq (.region [⟨(some 25), none, .mv (.t 0)⟩, ⟨(some 26), none, .call i___gatepost_date_reader__clock [(.t 25)]⟩, ⟨(some 8), none, .mv (.t 26)⟩])
  (.seq (.region [⟨(some 27), none, .mv (.t 0)⟩, ⟨(some 28), none, .call i___gatepost_date_reader__need [(.t 27), (.c (.str [32, 71, 77, 84]))]⟩])
  (.seq (.seq (.region [⟨(some 29), none, .mv (.t 7)⟩, ⟨(some 30), none, .bin .geq (.t 29) (.c (.int .i64 70))⟩])
  (.cond (.t 30)
    (.region [⟨(some 31), none, .mv (.t 7)⟩, ⟨(some 32), none, .bin .add (.t 31) (.c (.int .i64 1900))⟩, ⟨(some 7), none, .mv (.t 32)⟩])
    (.region [⟨(some 33), none, .mv (.t 7)⟩, ⟨(some 34), none, .bin .add (.t 33) (.c (.int .i64 2000))⟩, ⟨(some 7), none, .mv (.t 34)⟩])))
  (.seq (.region [⟨(some 35), none, .mv (.t 0)⟩, ⟨(some 36), none, .mv (.t 4)⟩, ⟨(some 37), none, .mv (.t 7)⟩, ⟨(some 38), none, .mv (.t 6)⟩, ⟨(some 39), none, .mv (.t 5)⟩, ⟨(some 40), none, .mv (.t 8)⟩, ⟨(some 41), none, .call i___gatepost_date_reader__second [(.t 35), (.t 36), (.t 37), (.t 38), (.t 39), (.t 40)]⟩, ⟨(some 42), none, .ext 0 (.t 41)⟩, ⟨(some 43), none, .ext 1 (.t 41)⟩, ⟨(some 2), none, .mv (.t 42)⟩, ⟨(some 3), none, .mv (.t 43)⟩])
  .ret)))))))))))))⟩
/-- gatepost/date.plain -/
def c_date_plain : FnC := ⟨54, [.tmp 2, .tmp 3],
  (.seq (.region [⟨(some 2), none, .mv (.c (.int .i64 0))⟩, ⟨(some 3), none, .mv (.c (.bool false))⟩])
  (.seq (.region [⟨(some 10), none, .mv (.t 0)⟩, ⟨(some 11), none, .call i___gatepost_date_reader__day [(.t 10), (.c (.bool false))]⟩, ⟨(some 4), none, .mv (.t 11)⟩])
  (.seq (.region [⟨(some 12), none, .mv (.t 0)⟩, ⟨(some 13), none, .call i___gatepost_date_reader__need [(.t 12), (.c (.str [32]))]⟩])
  (.seq (.region [⟨(some 14), none, .mv (.t 0)⟩, ⟨(some 15), none, .call i___gatepost_date_reader__month [(.t 14)]⟩, ⟨(some 5), none, .mv (.t 15)⟩])
  (.seq (.region [⟨(some 16), none, .mv (.t 0)⟩, ⟨(some 17), none, .call i___gatepost_date_reader__need [(.t 16), (.c (.str [32]))]⟩])
  (.seq (.region [⟨(some 6), none, .mv (.c (.int .i64 2))⟩])
  (.seq (.seq (.region [⟨(some 18), none, .mv (.t 0)⟩, ⟨(some 19), none, .nilck (.t 18)⟩, ⟨(some 20), none, .faddr 0 (.t 19)⟩, ⟨(some 21), none, .load false 1 (.t 20)⟩, ⟨(some 22), none, .len 0 (.t 21)⟩, ⟨(some 23), none, .bin .gtr (.t 22) (.c (.int .i64 0))⟩, ⟨(some 24), none, .mv (.t 23)⟩, ⟨(some 25), (some (24, true)), .mv (.t 0)⟩, ⟨(some 26), (some (24, true)), .nilck (.t 25)⟩, ⟨(some 27), (some (24, true)), .faddr 0 (.t 26)⟩, ⟨(some 28), (some (24, true)), .load false 1 (.t 27)⟩, ⟨(some 29), (some (24, true)), .ixStr (.t 28) (.c (.int .i64 0))⟩, ⟨(some 30), (some (24, true)), .bin .eql (.t 29) (.c (.int .u8 32))⟩, ⟨(some 31), none, .pick (.t 24) (.t 30) (.c (.bool false))⟩])
  (.cond (.t 31)
    (.seq (.region [⟨(some 32), none, .mv (.t 0)⟩, ⟨(some 33), none, .call i___gatepost_date_reader__take [(.t 32), (.c (.int .i64 1))]⟩])
    (.region [⟨(some 6), none, .mv (.c (.int .i64 1))⟩]))
    .skip))
  (.seq (.region [⟨(some 34), none, .mv (.t 0)⟩, ⟨(some 35), none, .mv (.t 6)⟩, ⟨(some 36), none, .call i___gatepost_date_reader__number [(.t 34), (.t 35)]⟩, ⟨(some 7), none, .mv (.t 36)⟩])
  (.seq (.region [⟨(some 37), none, .mv (.t 0)⟩, ⟨(some 38), none, .call i___gatepost_date_reader__need [(.t 37), (.c (.str [32]))]⟩])
  (.seq (.region [⟨(some 39), none, .mv (.t 0)⟩, ⟨(some 40), none, .call i___gatepost_date_reader__clock [(.t 39)]⟩, ⟨(some 8), none, .mv (.t 40)⟩])
  (.seq (.region [⟨(some 41), none, .mv (.t 0)⟩, ⟨(some 42), none, .call i___gatepost_date_reader__need [(.t 41), (.c (.str [32]))]⟩])
  (.seq (.region [⟨(some 43), none, .mv (.t 0)⟩, ⟨(some 44), none, .call i___gatepost_date_reader__number [(.t 43), (.c (.int .i64 4))]⟩, ⟨(some 9), none, .mv (.t 44)⟩])
  (.seq (.region [⟨(some 45), none, .mv (.t 0)⟩, ⟨(some 46), none, .mv (.t 4)⟩, ⟨(some 47), none, .mv (.t 9)⟩, ⟨(some 48), none, .mv (.t 5)⟩, ⟨(some 49), none, .mv (.t 7)⟩, ⟨(some 50), none, .mv (.t 8)⟩, ⟨(some 51), none, .call i___gatepost_date_reader__second [(.t 45), (.t 46), (.t 47), (.t 48), (.t 49), (.t 50)]⟩, ⟨(some 52), none, .ext 0 (.t 51)⟩, ⟨(some 53), none, .ext 1 (.t 51)⟩, ⟨(some 2), none, .mv (.t 52)⟩, ⟨(some 3), none, .mv (.t 53)⟩])
  .ret)))))))))))))⟩
/-- strings.CutPrefix -/
def c_strings_CutPrefix : FnC := ⟨11, [.tmp 4, .tmp 5],
  (.seq (.region [⟨(some 4), none, .mv (.c (.str []))⟩, ⟨(some 5), none, .mv (.c (.bool false))⟩])
  (.seq (.region [⟨(some 6), none, .mv (.t 0)⟩, ⟨(some 7), none, .mv (.t 1)⟩, ⟨(some 8), none, .call i_internal_stringslite_CutPrefix [(.t 6), (.t 7)]⟩, ⟨(some 9), none, .ext 0 (.t 8)⟩, ⟨(some 10), none, .ext 1 (.t 8)⟩, ⟨(some 4), none, .mv (.t 9)⟩, ⟨(some 5), none, .mv (.t 10)⟩])
  .ret))⟩
/-- strings.CutSuffix -/
def c_strings_CutSuffix : FnC := ⟨11, [.tmp 4, .tmp 5],
  (.seq (.region [⟨(some 4), none, .mv (.c (.str []))⟩, ⟨(some 5), none, .mv (.c (.bool false))⟩])
  (.seq (.region [⟨(some 6), none, .mv (.t 0)⟩, ⟨(some 7), none, .mv (.t 1)⟩, ⟨(some 8), none, .call i_internal_stringslite_CutSuffix [(.t 6), (.t 7)]⟩, ⟨(some 9), none, .ext 0 (.t 8)⟩, ⟨(some 10), none, .ext 1 (.t 8)⟩, ⟨(some 4), none, .mv (.t 9)⟩, ⟨(some 5), none, .mv (.t 10)⟩])
  .ret))⟩
/-- gatepost/gatepostref02.leap -/
def c_gatepostref02_leap : FnC := ⟨16, [.tmp 2],
  (.seq (.region [⟨(some 2), none, .mv (.c (.bool false))⟩])
  (.seq (.region [⟨(some 3), none, .mv (.t 0)⟩, ⟨(some 4), none, .bin .rem (.t 3) (.c (.int .i64 4))⟩, ⟨(some 5), none, .bin .eql (.t 4) (.c (.int .i64 0))⟩, ⟨(some 6), none, .mv (.t 5)⟩, ⟨(some 7), (some (6, true)), .mv (.t 0)⟩, ⟨(some 8), (some (6, true)), .bin .rem (.t 7) (.c (.int .i64 100))⟩, ⟨(some 9), (some (6, true)), .bin .neq (.t 8) (.c (.int .i64 0))⟩, ⟨(some 10), (some (6, true)), .mv (.t 9)⟩, ⟨(some 11), (some (10, false)), .mv (.t 0)⟩, ⟨(some 12), (some (10, false)), .bin .rem (.t 11) (.c (.int .i64 400))⟩, ⟨(some 13), (some (10, false)), .bin .eql (.t 12) (.c (.int .i64 0))⟩, ⟨(some 14), (some (6, true)), .pick (.t 10) (.c (.bool true)) (.t 13)⟩, ⟨(some 15), none, .pick (.t 6) (.t 14) (.c (.bool false))⟩, ⟨(some 2), none, .mv (.t 15)⟩])
  .ret))⟩
/-- gatepost/token.Lower -/
def c_token_Lower : FnC := ⟨29, [.tmp 2],
  (.seq (.region [⟨(some 2), none, .mv (.c (.str []))⟩])
  (.seq (.region [⟨(some 6), none, .mv (.t 0)⟩, ⟨(some 7), none, .toBytes (.t 6)⟩, ⟨(some 3), none, .mv (.t 7)⟩])
  (.seq (.seq (.region [⟨(some 8), none, .mv (.t 3)⟩, ⟨(some 9), none, .len 1 (.t 8)⟩, ⟨(some 10), none, .mv (.c (.int .i64 0))⟩])
  (.block 0 (.loop
    (.seq (.region [⟨(some 11), none, .bin .lss (.t 10) (.t 9)⟩])
    (.seq (.cond (.t 11)
      .skip
      (.exit 0))
    (.seq (.block 1 (.seq (.region [⟨(some 12), none, .mv (.t 10)⟩, ⟨(some 13), none, .ixaSl 1 (.t 8) (.t 10)⟩, ⟨(some 14), none, .load false 1 (.t 13)⟩, ⟨(some 4), none, .mv (.t 12)⟩, ⟨(some 5), none, .mv (.t 14)⟩])
    (.seq (.region [⟨(some 15), none, .mv (.t 5)⟩, ⟨(some 16), none, .bin .geq (.t 15) (.c (.int .u8 65))⟩, ⟨(some 17), none, .mv (.t 16)⟩, ⟨(some 18), (some (17, true)), .mv (.t 5)⟩, ⟨(some 19), (some (17, true)), .bin .leq (.t 18) (.c (.int .u8 90))⟩, ⟨(some 20), none, .pick (.t 17) (.t 19) (.c (.bool false))⟩])
    (.cond (.t 20)
      (.region [⟨(some 21), none, .mv (.t 3)⟩, ⟨(some 22), none, .mv (.t 4)⟩, ⟨(some 23), none, .mv (.t 5)⟩, ⟨(some 24), none, .bin .or (.t 23) (.c (.int .u8 32))⟩, ⟨(some 25), none, .ixaSl 1 (.t 21) (.t 22)⟩, ⟨none, none, .store 1 (.t 25) (.t 24)⟩])
      .skip))))
    (.region [⟨(some 26), none, .bin .add (.t 10) (.c (.int .i64 1))⟩, ⟨(some 10), none, .mv (.t 26)⟩])))))))
  (.seq (.region [⟨(some 27), none, .mv (.t 3)⟩, ⟨(some 28), none, .toStr (.t 27)⟩, ⟨(some 2), none, .mv (.t 28)⟩])
  .ret))))⟩
/-- gatepost/token.Split$1 -/
def c_token_Split_1 : FnC := ⟨19, [],
  (.seq (.seq (.region [⟨(some 6), none, .load false 1 (.t 1)⟩, ⟨(some 7), none, .load false 1 (.t 2)⟩, ⟨(some 8), none, .mv (.t 0)⟩, ⟨(some 9), none, .slstr (.t 6) (some (.t 7)) (some (.t 8))⟩, ⟨(some 10), none, .call i_token_Trim [(.t 9)]⟩, ⟨(some 5), none, .mv (.t 10)⟩])
  (.seq (.region [⟨(some 11), none, .mv (.t 5)⟩, ⟨(some 12), none, .bin .neq (.t 11) (.c (.str []))⟩])
  (.cond (.t 12)
    (.region [⟨(some 13), none, .load false 1 (.t 3)⟩, ⟨(some 14), none, .mv (.t 5)⟩, ⟨(some 15), none, .bsl 1 [(.t 14)]⟩, ⟨(some 16), none, .app 1 16 false (.t 13) (.t 15)⟩, ⟨none, none, .store 1 (.t 3) (.t 16)⟩])
    .skip)))
  (.region [⟨(some 17), none, .mv (.t 0)⟩, ⟨(some 18), none, .bin .add (.t 17) (.c (.int .i64 1))⟩, ⟨none, none, .store 1 (.t 2) (.t 18)⟩]))⟩
/-- gatepost/token.Trim -/
def c_token_Trim : FnC := ⟨5, [.tmp 2],
  (.seq (.region [⟨(some 2), none, .mv (.c (.str []))⟩])
  (.seq (.region [⟨(some 3), none, .mv (.t 0)⟩, ⟨(some 4), none, .call i_strings_Trim [(.t 3), (.c (.str [32, 9]))]⟩, ⟨(some 2), none, .mv (.t 4)⟩])
  .ret))⟩
/-- slices.IndexFunc[[]string,string] -/
def c_slices_IndexFunc___string_string_ : FnC := ⟨19, [.tmp 4],
  (.seq (.region [⟨(some 4), none, .mv (.c (.int .i64 0))⟩])
  (.seq (.seq (.region [⟨(some 6), none, .mv (.t 0)⟩, ⟨(some 7), none, .len 1 (.t 6)⟩, ⟨(some 8), none, .mv (.c (.int .i64 0))⟩])
  (.block 0 (.loop
    (.seq (.region [⟨(some 9), none, .bin .lss (.t 8) (.t 7)⟩])
    (.seq (.cond (.t 9)
      .skip
      (.exit 0))
    (.seq (.block 1 (.seq (.region [⟨(some 10), none, .mv (.t 8)⟩, ⟨(some 5), none, .mv (.t 10)⟩])
    (.seq (.region [⟨(some 11), none, .mv (.t 1)⟩, ⟨(some 12), none, .mv (.t 0)⟩, ⟨(some 13), none, .mv (.t 5)⟩, ⟨(some 14), none, .ixaSl 1 (.t 12) (.t 13)⟩, ⟨(some 15), none, .load false 1 (.t 14)⟩, ⟨(some 16), none, .callv (.t 11) [(.t 15)]⟩])
    (.cond (.t 16)
      (.seq (.region [⟨(some 17), none, .mv (.t 5)⟩, ⟨(some 4), none, .mv (.t 17)⟩])
      .ret)
      .skip))))
    (.region [⟨(some 18), none, .bin .add (.t 8) (.c (.int .i64 1))⟩, ⟨(some 8), none, .mv (.t 18)⟩])))))))
  (.seq (.region [⟨(some 4), none, .mv (.c (.int .i64 (-1)))⟩])
  .ret)))⟩
/-- (*gatepost/date.reader).day -/
def c___gatepost_date_reader__day : FnC := ⟨44, [.tmp 4],
  (.seq (.region [⟨(some 4), none, .mv (.c (.int .i64 0))⟩])
  (.seq (.seq (.region [⟨(some 7), none, .call i_date_longDays []⟩, ⟨(some 8), none, .mv (.c (.int .i64 0))⟩])
  (.block 0 (.loop
    (.seq (.region [⟨(some 9), none, .bin .lss (.t 8) (.c (.int .i64 7))⟩])
    (.seq (.cond (.t 9)
      .skip
      (.exit 0))
    (.seq (.block 1 (.seq (.region [⟨(some 10), none, .mv (.t 8)⟩, ⟨(some 11), none, .ixArr 7 1 false (.t 7) (.t 8)⟩, ⟨(some 5), none, .mv (.t 10)⟩, ⟨(some 6), none, .mv (.t 11)⟩])
    (.seq (.seq (.region [⟨(some 12), none, .mv (.t 1)⟩, ⟨(some 13), none, .un .not (.t 12)⟩])
    (.cond (.t 13)
      (.region [⟨(some 14), none, .mv (.t 6)⟩, ⟨(some 15), none, .slstr (.t 14) none (some (.c (.int .i64 3)))⟩, ⟨(some 6), none, .mv (.t 15)⟩])
      .skip))
    (.seq (.region [⟨(some 16), none, .mv (.t 0)⟩, ⟨(some 17), none, .nilck (.t 16)⟩, ⟨(some 18), none, .faddr 0 (.t 17)⟩, ⟨(some 19), none, .load false 1 (.t 18)⟩, ⟨(some 20), none, .len 0 (.t 19)⟩, ⟨(some 21), none, .mv (.t 6)⟩, ⟨(some 22), none, .len 0 (.t 21)⟩, ⟨(some 23), none, .bin .gtr (.t 20) (.t 22)⟩, ⟨(some 24), none, .mv (.t 23)⟩, ⟨(some 25), (some (24, true)), .mv (.t 0)⟩, ⟨(some 26), (some (24, true)), .nilck (.t 25)⟩, ⟨(some 27), (some (24, true)), .faddr 0 (.t 26)⟩, ⟨(some 28), (some (24, true)), .load false 1 (.t 27)⟩, ⟨(some 29), (some (24, true)), .mv (.t 6)⟩, ⟨(some 30), (some (24, true)), .len 0 (.t 29)⟩, ⟨(some 31), (some (24, true)), .slstr (.t 28) none (some (.t 30))⟩, ⟨(some 32), (some (24, true)), .mv (.t 6)⟩, ⟨(some 33), (some (24, true)), .bin .eql (.t 31) (.t 32)⟩, ⟨(some 34), none, .pick (.t 24) (.t 33) (.c (.bool false))⟩])
    (.cond (.t 34)
      (.seq (.region [⟨(some 35), none, .mv (.t 0)⟩, ⟨(some 36), none, .mv (.t 6)⟩, ⟨(some 37), none, .len 0 (.t 36)⟩, ⟨(some 38), none, .call i___gatepost_date_reader__take [(.t 35), (.t 37)]⟩])
      (.seq (.region [⟨(some 39), none, .mv (.t 5)⟩, ⟨(some 4), none, .mv (.t 39)⟩])
      .ret))
      .skip)))))
    (.region [⟨(some 40), none, .bin .add (.t 8) (.c (.int .i64 1))⟩, ⟨(some 8), none, .mv (.t 40)⟩])))))))
  (.seq (.region [⟨(some 41), none, .mv (.t 0)⟩, ⟨(some 42), none, .nilck (.t 41)⟩, ⟨(some 43), none, .faddr 1 (.t 42)⟩, ⟨none, none, .store 1 (.t 43) (.c (.bool false))⟩])
  (.seq (.region [⟨(some 4), none, .mv (.c (.int .i64 0))⟩])
  .ret))))⟩
/-- (*gatepost/date.reader).need -/
def c___gatepost_date_reader__need : FnC := ⟨13, [],
  (.seq (.region [⟨(some 4), none, .mv (.t 0)⟩, ⟨(some 5), none, .mv (.t 1)⟩, ⟨(some 6), none, .len 0 (.t 5)⟩, ⟨(some 7), none, .call i___gatepost_date_reader__take [(.t 4), (.t 6)]⟩, ⟨(some 8), none, .mv (.t 1)⟩, ⟨(some 9), none, .bin .neq (.t 7) (.t 8)⟩])
  (.cond (.t 9)
    (.region [⟨(some 10), none, .mv (.t 0)⟩, ⟨(some 11), none, .nilck (.t 10)⟩, ⟨(some 12), none, .faddr 1 (.t 11)⟩, ⟨none, none, .store 1 (.t 12) (.c (.bool false))⟩])
    .skip))⟩
/-- (*gatepost/date.reader).number -/
def c___gatepost_date_reader__number : FnC := ⟨25, [.tmp 4],
  (.seq (.region [⟨(some 2), none, .box (.t 0)⟩, ⟨(some 4), none, .mv (.c (.int .i64 0))⟩])
  (.seq (.region [⟨(some 9), none, .load false 1 (.t 2)⟩, ⟨(some 10), none, .mv (.t 1)⟩, ⟨(some 11), none, .call i___gatepost_date_reader__take [(.t 9), (.t 10)]⟩, ⟨(some 5), none, .mv (.t 11)⟩])
  (.seq (.region [⟨(some 6), none, .boxz [(.int .i64 0)]⟩, ⟨none, none, .store 1 (.t 6) (.c (.int .i64 0))⟩])
  (.seq (.region [⟨(some 12), none, .mkfn i___gatepost_date_reader__number_1 [(.t 2), (.t 6)]⟩, ⟨(some 7), none, .mv (.t 12)⟩])
  (.seq (.seq (.region [⟨(some 13), none, .mv (.t 5)⟩, ⟨(some 14), none, .len 0 (.t 13)⟩, ⟨(some 15), none, .mv (.c (.int .i64 0))⟩])
  (.block 0 (.loop
    (.seq (.region [⟨(some 16), none, .bin .lss (.t 15) (.t 14)⟩])
    (.seq (.cond (.t 16)
      .skip
      (.exit 0))
    (.seq (.block 1 (.seq (.region [⟨(some 17), none, .mv (.t 15)⟩, ⟨(some 8), none, .mv (.t 17)⟩])
    (.region [⟨(some 18), none, .mv (.t 7)⟩, ⟨(some 19), none, .mv (.t 5)⟩, ⟨(some 20), none, .mv (.t 8)⟩, ⟨(some 21), none, .ixStr (.t 19) (.t 20)⟩, ⟨(some 22), none, .callv (.t 18) [(.t 21)]⟩])))
    (.region [⟨(some 23), none, .bin .add (.t 15) (.c (.int .i64 1))⟩, ⟨(some 15), none, .mv (.t 23)⟩])))))))
  (.seq (.region [⟨(some 24), none, .load false 1 (.t 6)⟩, ⟨(some 4), none, .mv (.t 24)⟩])
  .ret))))))⟩
/-- (*gatepost/date.reader).month -/
def c___gatepost_date_reader__month : FnC := ⟨22, [.tmp 2],
  (.seq (.region [⟨(some 2), none, .mv (.c (.int .i64 0))⟩])
  (.seq (.region [⟨(some 6), none, .mv (.t 0)⟩, ⟨(some 7), none, .call i___gatepost_date_reader__take [(.t 6), (.c (.int .i64 3))]⟩, ⟨(some 3), none, .mv (.t 7)⟩])
  (.seq (.seq (.region [⟨(some 8), none, .call i_date_monthNames []⟩, ⟨(some 9), none, .mv (.c (.int .i64 0))⟩])
  (.block 0 (.loop
    (.seq (.region [⟨(some 10), none, .bin .lss (.t 9) (.c (.int .i64 12))⟩])
    (.seq (.cond (.t 10)
      .skip
      (.exit 0))
    (.seq (.block 1 (.seq (.region [⟨(some 11), none, .mv (.t 9)⟩, ⟨(some 12), none, .ixArr 12 1 false (.t 8) (.t 9)⟩, ⟨(some 4), none, .mv (.t 11)⟩, ⟨(some 5), none, .mv (.t 12)⟩])
    (.seq (.region [⟨(some 13), none, .mv (.t 5)⟩, ⟨(some 14), none, .mv (.t 3)⟩, ⟨(some 15), none, .bin .eql (.t 13) (.t 14)⟩])
    (.cond (.t 15)
      (.seq (.region [⟨(some 16), none, .mv (.t 4)⟩, ⟨(some 17), none, .bin .add (.t 16) (.c (.int .i64 1))⟩, ⟨(some 2), none, .mv (.t 17)⟩])
      .ret)
      .skip))))
    (.region [⟨(some 18), none, .bin .add (.t 9) (.c (.int .i64 1))⟩, ⟨(some 9), none, .mv (.t 18)⟩])))))))
  (.seq (.region [⟨(some 19), none, .mv (.t 0)⟩, ⟨(some 20), none, .nilck (.t 19)⟩, ⟨(some 21), none, .faddr 1 (.t 20)⟩, ⟨none, none, .store 1 (.t 21) (.c (.bool false))⟩])
  (.seq (.region [⟨(some 2), none, .mv (.c (.int .i64 0))⟩])
  .ret)))))⟩
/-- (*gatepost/date.reader).clock -/
def c___gatepost_date_reader__clock : FnC := ⟨37, [.tmp 2],
  (.seq (.region [⟨(some 2), none, .mv (.c (.int .i64 0))⟩])
  (.seq (.region [⟨(some 6), none, .mv (.t 0)⟩, ⟨(some 7), none, .call i___gatepost_date_reader__number [(.t 6), (.c (.int .i64 2))]⟩, ⟨(some 3), none, .mv (.t 7)⟩])
  (.seq (.region [⟨(some 8), none, .mv (.t 0)⟩, ⟨(some 9), none, .call i___gatepost_date_reader__need [(.t 8), (.c (.str [58]))]⟩])
  (.seq (.region [⟨(some 10), none, .mv (.t 0)⟩, ⟨(some 11), none, .call i___gatepost_date_reader__number [(.t 10), (.c (.int .i64 2))]⟩, ⟨(some 4), none, .mv (.t 11)⟩])
  (.seq (.region [⟨(some 12), none, .mv (.t 0)⟩, ⟨(some 13), none, .call i___gatepost_date_reader__need [(.t 12), (.c (.str [58]))]⟩])
  (.seq (.region [⟨(some 14), none, .mv (.t 0)⟩, ⟨(some 15), none, .call i___gatepost_date_reader__number [(.t 14), (.c (.int .i64 2))]⟩, ⟨(some 5), none, .mv (.t 15)⟩])
  (.seq (.seq (.region [⟨(some 16), none, .mv (.t 3)⟩, ⟨(some 17), none, .bin .geq (.t 16) (.c (.int .i64 24))⟩, ⟨(some 18), none, .mv (.t 17)⟩, ⟨(some 19), (some (18, false)), .mv (.t 4)⟩, ⟨(some 20), (some (18, false)), .bin .geq (.t 19) (.c (.int .i64 60))⟩, ⟨(some 21), none, .pick (.t 18) (.c (.bool true)) (.t 20)⟩, ⟨(some 22), none, .mv (.t 21)⟩, ⟨(some 23), (some (22, false)), .mv (.t 5)⟩, ⟨(some 24), (some (22, false)), .bin .gtr (.t 23) (.c (.int .i64 60))⟩, ⟨(some 25), none, .pick (.t 22) (.c (.bool true)) (.t 24)⟩])
  (.cond (.t 25)
    (.region [⟨(some 26), none, .mv (.t 0)⟩, ⟨(some 27), none, .nilck (.t 26)⟩, ⟨(some 28), none, .faddr 1 (.t 27)⟩, ⟨none, none, .store 1 (.t 28) (.c (.bool false))⟩])
    .skip))
  (.seq (.region [⟨(some 29), none, .mv (.t 3)⟩, ⟨(some 30), none, .bin .mul (.t 29) (.c (.int .i64 3600))⟩, ⟨(some 31), none, .mv (.t 4)⟩, ⟨(some 32), none, .bin .mul (.t 31) (.c (.int .i64 60))⟩, ⟨(some 33), none, .bin .add (.t 30) (.t 32)⟩, ⟨(some 34), none, .mv (.t 5)⟩, ⟨(some 35), none, .mn [(.t 34), (.c (.int .i64 59))]⟩, ⟨(some 36), none, .bin .add (.t 33) (.t 35)⟩, ⟨(some 2), none, .mv (.t 36)⟩])
  .ret))))))))⟩
/-- (*gatepost/date.reader).second -/
def c___gatepost_date_reader__second : FnC := ⟨46, [.tmp 12, .tmp 13],
  (.seq (.region [⟨(some 12), none, .mv (.c (.int .i64 0))⟩, ⟨(some 13), none, .mv (.c (.bool false))⟩])
  (.seq (.region [⟨(some 15), none, .mv (.t 2)⟩, ⟨(some 16), none, .mv (.t 3)⟩, ⟨(some 17), none, .mv (.t 4)⟩, ⟨(some 18), none, .call i_date_Days [(.t 15), (.t 16), (.t 17)]⟩, ⟨(some 14), none, .mv (.t 18)⟩])
  (.seq (.seq (.region [⟨(some 19), none, .mv (.t 0)⟩, ⟨(some 20), none, .nilck (.t 19)⟩, ⟨(some 21), none, .faddr 1 (.t 20)⟩, ⟨(some 22), none, .load false 1 (.t 21)⟩, ⟨(some 23), none, .un .not (.t 22)⟩, ⟨(some 24), none, .mv (.t 23)⟩, ⟨(some 25), (some (24, false)), .mv (.t 0)⟩, ⟨(some 26), (some (24, false)), .nilck (.t 25)⟩, ⟨(some 27), (some (24, false)), .faddr 0 (.t 26)⟩, ⟨(some 28), (some (24, false)), .load false 1 (.t 27)⟩, ⟨(some 29), (some (24, false)), .bin .neq (.t 28) (.c (.str []))⟩, ⟨(some 30), none, .pick (.t 24) (.c (.bool true)) (.t 29)⟩, ⟨(some 31), none, .mv (.t 30)⟩, ⟨(some 32), (some (31, false)), .mv (.t 14)⟩, ⟨(some 33), (some (31, false)), .bin .lss (.t 32) (.c (.int .i64 0))⟩, ⟨(some 34), none, .pick (.t 31) (.c (.bool true)) (.t 33)⟩, ⟨(some 35), none, .mv (.t 34)⟩, ⟨(some 36), (some (35, false)), .mv (.t 14)⟩, ⟨(some 37), (some (35, false)), .bin .add (.t 36) (.c (.int .i64 3))⟩, ⟨(some 38), (some (35, false)), .bin .rem (.t 37) (.c (.int .i64 7))⟩, ⟨(some 39), (some (35, false)), .mv (.t 1)⟩, ⟨(some 40), (some (35, false)), .bin .neq (.t 38) (.t 39)⟩, ⟨(some 41), none, .pick (.t 35) (.c (.bool true)) (.t 40)⟩])
  (.cond (.t 41)
    (.seq (.region [⟨(some 12), none, .mv (.c (.int .i64 0))⟩, ⟨(some 13), none, .mv (.c (.bool false))⟩])
    .ret)
    .skip))
  (.seq (.region [⟨(some 42), none, .mv (.t 14)⟩, ⟨(some 43), none, .bin .mul (.t 42) (.c (.int .i64 86400))⟩, ⟨(some 44), none, .mv (.t 5)⟩, ⟨(some 45), none, .bin .add (.t 43) (.t 44)⟩, ⟨(some 12), none, .mv (.t 45)⟩, ⟨(some 13), none, .mv (.c (.bool true))⟩])
  .ret))))⟩
/-- (*gatepost/date.reader).take -/
def c___gatepost_date_reader__take : FnC := ⟨32, [.tmp 4],
  (.seq (.region [⟨(some 4), none, .mv (.c (.str []))⟩])
  (.seq (.seq (.region [⟨(some 6), none, .mv (.t 0)⟩, ⟨(some 7), none, .nilck (.t 6)⟩, ⟨(some 8), none, .faddr 0 (.t 7)⟩, ⟨(some 9), none, .load false 1 (.t 8)⟩, ⟨(some 10), none, .len 0 (.t 9)⟩, ⟨(some 11), none, .mv (.t 1)⟩, ⟨(some 12), none, .bin .lss (.t 10) (.t 11)⟩])
  (.cond (.t 12)
    (.seq (.region [⟨(some 13), none, .mv (.t 0)⟩, ⟨(some 14), none, .nilck (.t 13)⟩, ⟨(some 15), none, .faddr 1 (.t 14)⟩, ⟨none, none, .store 1 (.t 15) (.c (.bool false))⟩])
    (.seq (.region [⟨(some 4), none, .mv (.c (.str []))⟩])
    .ret))
    .skip))
  (.seq (.region [⟨(some 16), none, .mv (.t 0)⟩, ⟨(some 17), none, .nilck (.t 16)⟩, ⟨(some 18), none, .faddr 0 (.t 17)⟩, ⟨(some 19), none, .load false 1 (.t 18)⟩, ⟨(some 20), none, .mv (.t 1)⟩, ⟨(some 21), none, .slstr (.t 19) none (some (.t 20))⟩, ⟨(some 5), none, .mv (.t 21)⟩])
  (.seq (.region [⟨(some 22), none, .mv (.t 0)⟩, ⟨(some 23), none, .mv (.t 0)⟩, ⟨(some 24), none, .nilck (.t 23)⟩, ⟨(some 25), none, .faddr 0 (.t 24)⟩, ⟨(some 26), none, .load false 1 (.t 25)⟩, ⟨(some 27), none, .mv (.t 1)⟩, ⟨(some 28), none, .slstr (.t 26) (some (.t 27)) none⟩, ⟨(some 29), none, .nilck (.t 22)⟩, ⟨(some 30), none, .faddr 0 (.t 29)⟩, ⟨none, none, .store 1 (.t 30) (.t 28)⟩])
  (.seq (.region [⟨(some 31), none, .mv (.t 5)⟩, ⟨(some 4), none, .mv (.t 31)⟩])
  .ret)))))⟩
/-- internal/stringslite.CutPrefix -/
def c_internal_stringslite_CutPrefix : FnC := ⟨15, [.tmp 4, .tmp 5],
  (.seq (.region [⟨(some 4), none, .mv (.c (.str []))⟩, ⟨(some 5), none, .mv (.c (.bool false))⟩])
  (.seq (.seq (.region [⟨(some 6), none, .mv (.t 0)⟩, ⟨(some 7), none, .mv (.t 1)⟩, ⟨(some 8), none, .call i_internal_stringslite_HasPrefix [(.t 6), (.t 7)]⟩, ⟨(some 9), none, .un .not (.t 8)⟩])
  (.cond (.t 9)
    (.seq (.region [⟨(some 10), none, .mv (.t 0)⟩, ⟨(some 4), none, .mv (.t 10)⟩, ⟨(some 5), none, .mv (.c (.bool false))⟩])
    .ret)
    .skip))
  (.seq (.region [⟨(some 11), none, .mv (.t 0)⟩, ⟨(some 12), none, .mv (.t 1)⟩, ⟨(some 13), none, .len 0 (.t 12)⟩, ⟨(some 14), none, .slstr (.t 11) (some (.t 13)) none⟩, ⟨(some 4), none, .mv (.t 14)⟩, ⟨(some 5), none, .mv (.c (.bool true))⟩])
  .ret)))⟩
/-- internal/stringslite.CutSuffix -/
def c_internal_stringslite_CutSuffix : FnC := ⟨18, [.tmp 4, .tmp 5],
  (.seq (.region [⟨(some 4), none, .mv (.c (.str []))⟩, ⟨(some 5), none, .mv (.c (.bool false))⟩])
  (.seq (.seq (.region [⟨(some 6), none, .mv (.t 0)⟩, ⟨(some 7), none, .mv (.t 1)⟩, ⟨(some 8), none, .call i_internal_stringslite_HasSuffix [(.t 6), (.t 7)]⟩, ⟨(some 9), none, .un .not (.t 8)⟩])
  (.cond (.t 9)
    (.seq (.region [⟨(some 10), none, .mv (.t 0)⟩, ⟨(some 4), none, .mv (.t 10)⟩, ⟨(some 5), none, .mv (.c (.bool false))⟩])
    .ret)
    .skip))
  (.seq (.region [⟨(some 11), none, .mv (.t 0)⟩, ⟨(some 12), none, .mv (.t 0)⟩, ⟨(some 13), none, .len 0 (.t 12)⟩, ⟨(some 14), none, .mv (.t 1)⟩, ⟨(some 15), none, .len 0 (.t 14)⟩, ⟨(some 16), none, .bin .sub (.t 13) (.t 15)⟩, ⟨(some 17), none, .slstr (.t 11) none (some (.t 16))⟩, ⟨(some 4), none, .mv (.t 17)⟩, ⟨(some 5), none, .mv (.c (.bool true))⟩])
  .ret)))⟩
/-- strings.Trim -/
def c_strings_Trim : FnC := ⟨43, [.tmp 4],
  (.seq (.region [⟨(some 4), none, .mv (.c (.str []))⟩])
  (.seq (.seq (.region [⟨(some 7), none, .mv (.t 0)⟩, ⟨(some 8), none, .bin .eql (.t 7) (.c (.str []))⟩, ⟨(some 9), none, .mv (.t 8)⟩, ⟨(some 10), (some (9, false)), .mv (.t 1)⟩, ⟨(some 11), (some (9, false)), .bin .eql (.t 10) (.c (.str []))⟩, ⟨(some 12), none, .pick (.t 9) (.c (.bool true)) (.t 11)⟩])
  (.cond (.t 12)
    (.seq (.region [⟨(some 13), none, .mv (.t 0)⟩, ⟨(some 4), none, .mv (.t 13)⟩])
    .ret)
    .skip))
  (.seq (.seq (.region [⟨(some 14), none, .mv (.t 1)⟩, ⟨(some 15), none, .len 0 (.t 14)⟩, ⟨(some 16), none, .bin .eql (.t 15) (.c (.int .i64 1))⟩, ⟨(some 17), none, .mv (.t 16)⟩, ⟨(some 18), (some (17, true)), .mv (.t 1)⟩, ⟨(some 19), (some (17, true)), .ixStr (.t 18) (.c (.int .i64 0))⟩, ⟨(some 20), (some (17, true)), .bin .lss (.t 19) (.c (.int .u8 128))⟩, ⟨(some 21), none, .pick (.t 17) (.t 20) (.c (.bool false))⟩])
  (.cond (.t 21)
    (.seq (.dregion [⟨(some 22), none, .mv (.t 0)⟩, ⟨(some 23), none, .mv (.t 1)⟩, ⟨(some 24), none, .ixStr (.t 23) (.c (.int .i64 0))⟩, ⟨(some 25), none, .call i_strings_trimRightByte [(.t 22), (.t 24)]⟩, ⟨(some 26), none, .mv (.t 1)⟩, ⟨(some 27), none, .ixStr (.t 26) (.c (.int .i64 0))⟩] [⟨(some 28), none, .call i_strings_trimLeftByte [(.t 25), (.t 27)]⟩, ⟨(some 4), none, .mv (.t 28)⟩])
    .ret)
    .skip))
  (.seq (.seq (.region [⟨(some 30), none, .mv (.t 1)⟩, ⟨(some 31), none, .call i_strings_makeASCIISet [(.t 30)]⟩, ⟨(some 29), none, .mv (.t 31)⟩, ⟨(some 32), none, .ext 0 (.t 29)⟩, ⟨(some 33), none, .ext 1 (.t 29)⟩, ⟨(some 5), none, .boxz (List.replicate 256 (.bool false))⟩, ⟨none, none, .store 256 (.t 5) (.t 32)⟩, ⟨(some 6), none, .mv (.t 33)⟩])
  (.seq (.region [⟨(some 34), none, .mv (.t 6)⟩])
  (.cond (.t 34)
    (.seq (.region [⟨(some 35), none, .mv (.t 0)⟩, ⟨(some 36), none, .call i_strings_trimRightASCII [(.t 35), (.t 5)]⟩, ⟨(some 37), none, .call i_strings_trimLeftASCII [(.t 36), (.t 5)]⟩, ⟨(some 4), none, .mv (.t 37)⟩])
    .ret)
    .skip)))
  (.seq (.region [⟨(some 38), none, .mv (.t 0)⟩, ⟨(some 39), none, .mv (.t 1)⟩, ⟨(some 40), none, .call i_strings_trimRightUnicode [(.t 38), (.t 39)]⟩, ⟨(some 41), none, .mv (.t 1)⟩, ⟨(some 42), none, .call i_strings_trimLeftUnicode [(.t 40), (.t 41)]⟩, ⟨(some 4), none, .mv (.t 42)⟩])
  .ret)))))⟩
/-- gatepost/date.longDays -/
def c_date_longDays : FnC := ⟨2, [.cell 0 true 7],
  (.seq (.region [⟨(some 0), none, .boxz [(.str []), (.str []), (.str []), (.str []), (.str []), (.str []), (.str [])]⟩])
  (.seq (.region [⟨(some 1), none, .build [(.str []), (.str []), (.str []), (.str []), (.str []), (.str []), (.str [])] [(0, 1, (.c (.str [77, 111, 110, 100, 97, 121]))), (1, 1, (.c (.str [84, 117, 101, 115, 100, 97, 121]))), (2, 1, (.c (.str [87, 101, 100, 110, 101, 115, 100, 97, 121]))), (3, 1, (.c (.str [84, 104, 117, 114, 115, 100, 97, 121]))), (4, 1, (.c (.str [70, 114, 105, 100, 97, 121]))), (5, 1, (.c (.str [83, 97, 116, 117, 114, 100, 97, 121]))), (6, 1, (.c (.str [83, 117, 110, 100, 97, 121])))]⟩, ⟨none, none, .store 7 (.t 0) (.t 1)⟩])
  .ret))⟩
/-- (*gatepost/date.reader).number$1 -/
def c___gatepost_date_reader__number_1 : FnC := ⟨19, [],
  (.seq (.seq (.region [⟨(some 4), none, .mv (.t 0)⟩, ⟨(some 5), none, .bin .lss (.t 4) (.c (.int .u8 48))⟩, ⟨(some 6), none, .mv (.t 5)⟩, ⟨(some 7), (some (6, false)), .mv (.t 0)⟩, ⟨(some 8), (some (6, false)), .bin .gtr (.t 7) (.c (.int .u8 57))⟩, ⟨(some 9), none, .pick (.t 6) (.c (.bool true)) (.t 8)⟩])
  (.cond (.t 9)
    (.region [⟨(some 10), none, .load false 1 (.t 1)⟩, ⟨(some 11), none, .nilck (.t 10)⟩, ⟨(some 12), none, .faddr 1 (.t 11)⟩, ⟨none, none, .store 1 (.t 12) (.c (.bool false))⟩])
    .skip))
  (.region [⟨(some 13), none, .load false 1 (.t 2)⟩, ⟨(some 14), none, .bin .mul (.c (.int .i64 10)) (.t 13)⟩, ⟨(some 15), none, .mv (.t 0)⟩, ⟨(some 16), none, .bin .sub (.t 15) (.c (.int .u8 48))⟩, ⟨(some 17), none, .toInt .i64 (.t 16)⟩, ⟨(some 18), none, .bin .add (.t 14) (.t 17)⟩, ⟨none, none, .store 1 (.t 2) (.t 18)⟩]))⟩
/-- gatepost/date.monthNames -/
def c_date_monthNames : FnC := ⟨2, [.cell 0 true 12],
  (.seq (.region [⟨(some 0), none, .boxz [(.str []), (.str []), (.str []), (.str []), (.str []), (.str []), (.str []), (.str []), (.str []), (.str []), (.str []), (.str [])]⟩])
  (.seq (.region [⟨(some 1), none, .build [(.str []), (.str []), (.str []), (.str []), (.str []), (.str []), (.str []), (.str []), (.str []), (.str []), (.str []), (.str [])] [(0, 1, (.c (.str [74, 97, 110]))), (1, 1, (.c (.str [70, 101, 98]))), (2, 1, (.c (.str [77, 97, 114]))), (3, 1, (.c (.str [65, 112, 114]))), (4, 1, (.c (.str [77, 97, 121]))), (5, 1, (.c (.str [74, 117, 110]))), (6, 1, (.c (.str [74, 117, 108]))), (7, 1, (.c (.str [65, 117, 103]))), (8, 1, (.c (.str [83, 101, 112]))), (9, 1, (.c (.str [79, 99, 116]))), (10, 1, (.c (.str [78, 111, 118]))), (11, 1, (.c (.str [68, 101, 99])))]⟩, ⟨none, none, .store 12 (.t 0) (.t 1)⟩])
  .ret))⟩
/-- gatepost/date.Days -/
def c_date_Days : FnC := ⟨90, [.tmp 6],
  (.seq (.region [⟨(some 6), none, .mv (.c (.int .i64 0))⟩])
  (.seq (.seq (.region [⟨(some 15), none, .mv (.t 0)⟩, ⟨(some 16), none, .bin .lss (.t 15) (.c (.int .i64 1970))⟩, ⟨(some 17), none, .mv (.t 16)⟩, ⟨(some 18), (some (17, false)), .mv (.t 0)⟩, ⟨(some 19), (some (17, false)), .bin .gtr (.t 18) (.c (.int .i64 9999))⟩, ⟨(some 20), none, .pick (.t 17) (.c (.bool true)) (.t 19)⟩, ⟨(some 21), none, .mv (.t 20)⟩, ⟨(some 22), (some (21, false)), .mv (.t 1)⟩, ⟨(some 23), (some (21, false)), .bin .lss (.t 22) (.c (.int .i64 1))⟩, ⟨(some 24), none, .pick (.t 21) (.c (.bool true)) (.t 23)⟩, ⟨(some 25), none, .mv (.t 24)⟩, ⟨(some 26), (some (25, false)), .mv (.t 1)⟩, ⟨(some 27), (some (25, false)), .bin .gtr (.t 26) (.c (.int .i64 12))⟩, ⟨(some 28), none, .pick (.t 25) (.c (.bool true)) (.t 27)⟩, ⟨(some 29), none, .mv (.t 28)⟩, ⟨(some 30), (some (29, false)), .mv (.t 2)⟩, ⟨(some 31), (some (29, false)), .bin .lss (.t 30) (.c (.int .i64 1))⟩, ⟨(some 32), none, .pick (.t 29) (.c (.bool true)) (.t 31)⟩, ⟨(some 33), none, .mv (.t 32)⟩, ⟨(some 34), (some (33, false)), .mv (.t 2)⟩, ⟨(some 35), (some (33, false)), .bin .gtr (.t 34) (.c (.int .i64 31))⟩, ⟨(some 36), none, .pick (.t 33) (.c (.bool true)) (.t 35)⟩])
  (.cond (.t 36)
    (.seq (.region [⟨(some 6), none, .mv (.c (.int .i64 (-1)))⟩])
    .ret)
    .skip))
  (.seq (.region [⟨(some 37), none, .mv (.t 0)⟩, ⟨(some 38), none, .mv (.t 1)⟩, ⟨(some 39), none, .bin .sub (.t 38) (.c (.int .i64 3))⟩, ⟨(some 7), none, .mv (.t 37)⟩, ⟨(some 8), none, .mv (.t 39)⟩])
  (.seq (.seq (.region [⟨(some 40), none, .mv (.t 1)⟩, ⟨(some 41), none, .bin .leq (.t 40) (.c (.int .i64 2))⟩])
  (.cond (.t 41)
    (.region [⟨(some 42), none, .mv (.t 0)⟩, ⟨(some 43), none, .bin .sub (.t 42) (.c (.int .i64 1))⟩, ⟨(some 44), none, .mv (.t 1)⟩, ⟨(some 45), none, .bin .add (.t 44) (.c (.int .i64 9))⟩, ⟨(some 7), none, .mv (.t 43)⟩, ⟨(some 8), none, .mv (.t 45)⟩])
    .skip))
  (.seq (.region [⟨(some 46), none, .mv (.t 7)⟩, ⟨(some 47), none, .bin .quo (.t 46) (.c (.int .i64 400))⟩, ⟨(some 48), none, .mv (.t 7)⟩, ⟨(some 49), none, .bin .rem (.t 48) (.c (.int .i64 400))⟩, ⟨(some 9), none, .mv (.t 47)⟩, ⟨(some 10), none, .mv (.t 49)⟩])
  (.seq (.region [⟨(some 50), none, .mv (.t 9)⟩, ⟨(some 51), none, .bin .mul (.t 50) (.c (.int .i64 146097))⟩, ⟨(some 52), none, .mv (.t 10)⟩, ⟨(some 53), none, .bin .mul (.t 52) (.c (.int .i64 365))⟩, ⟨(some 54), none, .bin .add (.t 51) (.t 53)⟩, ⟨(some 55), none, .mv (.t 10)⟩, ⟨(some 56), none, .bin .quo (.t 55) (.c (.int .i64 4))⟩, ⟨(some 57), none, .bin .add (.t 54) (.t 56)⟩, ⟨(some 58), none, .mv (.t 10)⟩, ⟨(some 59), none, .bin .quo (.t 58) (.c (.int .i64 100))⟩, ⟨(some 60), none, .bin .sub (.t 57) (.t 59)⟩, ⟨(some 61), none, .mv (.t 8)⟩, ⟨(some 62), none, .bin .mul (.c (.int .i64 153)) (.t 61)⟩, ⟨(some 63), none, .bin .add (.t 62) (.c (.int .i64 2))⟩, ⟨(some 64), none, .bin .quo (.t 63) (.c (.int .i64 5))⟩, ⟨(some 65), none, .bin .add (.t 60) (.t 64)⟩, ⟨(some 66), none, .mv (.t 2)⟩, ⟨(some 67), none, .bin .add (.t 65) (.t 66)⟩, ⟨(some 68), none, .bin .sub (.t 67) (.c (.int .i64 1))⟩, ⟨(some 69), none, .bin .sub (.t 68) (.c (.int .i64 719468))⟩, ⟨(some 11), none, .mv (.t 69)⟩])
  (.seq (.seq (.region [⟨(some 71), none, .mv (.t 11)⟩, ⟨(some 72), none, .call i_date_Civil [(.t 71)]⟩, ⟨(some 70), none, .mv (.t 72)⟩, ⟨(some 73), none, .ext 0 (.t 70)⟩, ⟨(some 74), none, .ext 1 (.t 70)⟩, ⟨(some 75), none, .ext 2 (.t 70)⟩, ⟨(some 12), none, .mv (.t 73)⟩, ⟨(some 13), none, .mv (.t 74)⟩, ⟨(some 14), none, .mv (.t 75)⟩])
  (.seq (.region [⟨(some 76), none, .mv (.t 12)⟩, ⟨(some 77), none, .mv (.t 0)⟩, ⟨(some 78), none, .bin .neq (.t 76) (.t 77)⟩, ⟨(some 79), none, .mv (.t 78)⟩, ⟨(some 80), (some (79, false)), .mv (.t 13)⟩, ⟨(some 81), (some (79, false)), .mv (.t 1)⟩, ⟨(some 82), (some (79, false)), .bin .neq (.t 80) (.t 81)⟩, ⟨(some 83), none, .pick (.t 79) (.c (.bool true)) (.t 82)⟩, ⟨(some 84), none, .mv (.t 83)⟩, ⟨(some 85), (some (84, false)), .mv (.t 14)⟩, ⟨(some 86), (some (84, false)), .mv (.t 2)⟩, ⟨(some 87), (some (84, false)), .bin .neq (.t 85) (.t 86)⟩, ⟨(some 88), none, .pick (.t 84) (.c (.bool true)) (.t 87)⟩])
  (.cond (.t 88)
    (.seq (.region [⟨(some 6), none, .mv (.c (.int .i64 (-1)))⟩])
    .ret)
    .skip)))
  (.seq (.region [⟨(some 89), none, .mv (.t 11)⟩, ⟨(some 6), none, .mv (.t 89)⟩])
  .ret))))))))⟩
/-- internal/stringslite.HasPrefix -/
def c_internal_stringslite_HasPrefix : FnC := ⟨18, [.tmp 4],
  (.seq (.region [⟨(some 4), none, .mv (.c (.bool false))⟩])
  (.seq (.region [⟨(some 5), none, .mv (.t 0)⟩, ⟨(some 6), none, .len 0 (.t 5)⟩, ⟨(some 7), none, .mv (.t 1)⟩, ⟨(some 8), none, .len 0 (.t 7)⟩, ⟨(some 9), none, .bin .geq (.t 6) (.t 8)⟩, ⟨(some 10), none, .mv (.t 9)⟩, ⟨(some 11), (some (10, true)), .mv (.t 0)⟩, ⟨(some 12), (some (10, true)), .mv (.t 1)⟩, ⟨(some 13), (some (10, true)), .len 0 (.t 12)⟩, ⟨(some 14), (some (10, true)), .slstr (.t 11) none (some (.t 13))⟩, ⟨(some 15), (some (10, true)), .mv (.t 1)⟩, ⟨(some 16), (some (10, true)), .bin .eql (.t 14) (.t 15)⟩, ⟨(some 17), none, .pick (.t 10) (.t 16) (.c (.bool false))⟩, ⟨(some 4), none, .mv (.t 17)⟩])
  .ret))⟩
/-- internal/stringslite.HasSuffix -/
def c_internal_stringslite_HasSuffix : FnC := ⟨21, [.tmp 4],
  (.seq (.region [⟨(some 4), none, .mv (.c (.bool false))⟩])
  (.seq (.region [⟨(some 5), none, .mv (.t 0)⟩, ⟨(some 6), none, .len 0 (.t 5)⟩, ⟨(some 7), none, .mv (.t 1)⟩, ⟨(some 8), none, .len 0 (.t 7)⟩, ⟨(some 9), none, .bin .geq (.t 6) (.t 8)⟩, ⟨(some 10), none, .mv (.t 9)⟩, ⟨(some 11), (some (10, true)), .mv (.t 0)⟩, ⟨(some 12), (some (10, true)), .mv (.t 0)⟩, ⟨(some 13), (some (10, true)), .len 0 (.t 12)⟩, ⟨(some 14), (some (10, true)), .mv (.t 1)⟩, ⟨(some 15), (some (10, true)), .len 0 (.t 14)⟩, ⟨(some 16), (some (10, true)), .bin .sub (.t 13) (.t 15)⟩, ⟨(some 17), (some (10, true)), .slstr (.t 11) (some (.t 16)) none⟩, ⟨(some 18), (some (10, true)), .mv (.t 1)⟩, ⟨(some 19), (some (10, true)), .bin .eql (.t 17) (.t 18)⟩, ⟨(some 20), none, .pick (.t 10) (.t 19) (.c (.bool false))⟩, ⟨(some 4), none, .mv (.t 20)⟩])
  .ret))⟩
/-- strings.makeASCIISet -/
def c_strings_makeASCIISet : FnC := ⟨21, [.cell 2 true 256, .tmp 3],
  (.seq (.region [⟨(some 2), none, .boxz (List.replicate 256 (.bool false))⟩, ⟨(some 3), none, .mv (.c (.bool false))⟩])
  (.seq (.seq (.region [⟨(some 4), none, .mv (.c (.int .i64 0))⟩])
  (.block 0 (.loop
    (.seq (.seq (.region [⟨(some 6), none, .mv (.t 4)⟩, ⟨(some 7), none, .mv (.t 0)⟩, ⟨(some 8), none, .len 0 (.t 7)⟩, ⟨(some 9), none, .bin .lss (.t 6) (.t 8)⟩])
    (.cond (.t 9)
      .skip
      (.exit 0)))
    (.seq (.block 1 (.seq (.region [⟨(some 12), none, .mv (.t 0)⟩, ⟨(some 13), none, .mv (.t 4)⟩, ⟨(some 14), none, .ixStr (.t 12) (.t 13)⟩, ⟨(some 5), none, .mv (.t 14)⟩])
    (.seq (.seq (.region [⟨(some 15), none, .mv (.t 5)⟩, ⟨(some 16), none, .bin .geq (.t 15) (.c (.int .u8 128))⟩])
    (.cond (.t 16)
      (.seq (.region [⟨(some 17), none, .load true 256 (.t 2)⟩, ⟨none, none, .store 256 (.t 2) (.t 17)⟩, ⟨(some 3), none, .mv (.c (.bool false))⟩])
      .ret)
      .skip))
    (.region [⟨(some 18), none, .mv (.t 5)⟩, ⟨(some 19), none, .ixaArr 256 1 (.t 2) (.t 18)⟩, ⟨none, none, .store 1 (.t 19) (.c (.bool true))⟩]))))
    (.region [⟨(some 10), none, .mv (.t 4)⟩, ⟨(some 11), none, .bin .add (.t 10) (.c (.int .i64 1))⟩, ⟨(some 4), none, .mv (.t 11)⟩]))))))
  (.seq (.region [⟨(some 20), none, .load true 256 (.t 2)⟩, ⟨none, none, .store 256 (.t 2) (.t 20)⟩, ⟨(some 3), none, .mv (.c (.bool true))⟩])
  .ret)))⟩
/-- strings.trimLeftASCII -/
def c_strings_trimLeftASCII : FnC := ⟨16, [.tmp 4],
  (.seq (.region [⟨(some 4), none, .mv (.c (.str []))⟩])
  (.seq (.block 0 (.loop
    (.seq (.seq (.region [⟨(some 5), none, .mv (.t 0)⟩, ⟨(some 6), none, .len 0 (.t 5)⟩, ⟨(some 7), none, .bin .gtr (.t 6) (.c (.int .i64 0))⟩])
    (.cond (.t 7)
      .skip
      (.exit 0)))
    (.block 1 (.seq (.seq (.region [⟨(some 8), none, .mv (.t 1)⟩, ⟨(some 9), none, .mv (.t 0)⟩, ⟨(some 10), none, .ixStr (.t 9) (.c (.int .i64 0))⟩, ⟨(some 11), none, .call i___strings_asciiSet__contains [(.t 8), (.t 10)]⟩, ⟨(some 12), none, .un .not (.t 11)⟩])
    (.cond (.t 12)
      (.exit 0)
      .skip))
    (.region [⟨(some 13), none, .mv (.t 0)⟩, ⟨(some 14), none, .slstr (.t 13) (some (.c (.int .i64 1))) none⟩, ⟨(some 0), none, .mv (.t 14)⟩]))))))
  (.seq (.region [⟨(some 15), none, .mv (.t 0)⟩, ⟨(some 4), none, .mv (.t 15)⟩])
  .ret)))⟩
/-- strings.trimRightASCII -/
def c_strings_trimRightASCII : FnC := ⟨22, [.tmp 4],
  (.seq (.region [⟨(some 4), none, .mv (.c (.str []))⟩])
  (.seq (.block 0 (.loop
    (.seq (.seq (.region [⟨(some 5), none, .mv (.t 0)⟩, ⟨(some 6), none, .len 0 (.t 5)⟩, ⟨(some 7), none, .bin .gtr (.t 6) (.c (.int .i64 0))⟩])
    (.cond (.t 7)
      .skip
      (.exit 0)))
    (.block 1 (.seq (.seq (.region [⟨(some 8), none, .mv (.t 1)⟩, ⟨(some 9), none, .mv (.t 0)⟩, ⟨(some 10), none, .mv (.t 0)⟩, ⟨(some 11), none, .len 0 (.t 10)⟩, ⟨(some 12), none, .bin .sub (.t 11) (.c (.int .i64 1))⟩, ⟨(some 13), none, .ixStr (.t 9) (.t 12)⟩, ⟨(some 14), none, .call i___strings_asciiSet__contains [(.t 8), (.t 13)]⟩, ⟨(some 15), none, .un .not (.t 14)⟩])
    (.cond (.t 15)
      (.exit 0)
      .skip))
    (.region [⟨(some 16), none, .mv (.t 0)⟩, ⟨(some 17), none, .mv (.t 0)⟩, ⟨(some 18), none, .len 0 (.t 17)⟩, ⟨(some 19), none, .bin .sub (.t 18) (.c (.int .i64 1))⟩, ⟨(some 20), none, .slstr (.t 16) none (some (.t 19))⟩, ⟨(some 0), none, .mv (.t 20)⟩]))))))
  (.seq (.region [⟨(some 21), none, .mv (.t 0)⟩, ⟨(some 4), none, .mv (.t 21)⟩])
  .ret)))⟩
/-- gatepost/date.Civil -/
def c_date_Civil : FnC := ⟨70, [.tmp 2, .tmp 3, .tmp 4],
  (.seq (.region [⟨(some 2), none, .mv (.c (.int .i64 0))⟩, ⟨(some 3), none, .mv (.c (.int .i64 0))⟩, ⟨(some 4), none, .mv (.c (.int .i64 0))⟩])
  (.seq (.seq (.region [⟨(some 11), none, .mv (.t 0)⟩, ⟨(some 12), none, .bin .lss (.t 11) (.c (.int .i64 0))⟩, ⟨(some 13), none, .mv (.t 12)⟩, ⟨(some 14), (some (13, false)), .mv (.t 0)⟩, ⟨(some 15), (some (13, false)), .bin .gtr (.t 14) (.c (.int .i64 2932896))⟩, ⟨(some 16), none, .pick (.t 13) (.c (.bool true)) (.t 15)⟩])
  (.cond (.t 16)
    (.seq (.region [⟨(some 2), none, .mv (.c (.int .i64 0))⟩, ⟨(some 3), none, .mv (.c (.int .i64 0))⟩, ⟨(some 4), none, .mv (.c (.int .i64 0))⟩])
    .ret)
    .skip))
  (.seq (.region [⟨(some 17), none, .mv (.t 0)⟩, ⟨(some 18), none, .bin .add (.t 17) (.c (.int .i64 719468))⟩, ⟨(some 5), none, .mv (.t 18)⟩])
  (.seq (.region [⟨(some 19), none, .mv (.t 5)⟩, ⟨(some 20), none, .bin .quo (.t 19) (.c (.int .i64 146097))⟩, ⟨(some 21), none, .mv (.t 5)⟩, ⟨(some 22), none, .bin .rem (.t 21) (.c (.int .i64 146097))⟩, ⟨(some 6), none, .mv (.t 20)⟩, ⟨(some 7), none, .mv (.t 22)⟩])
  (.seq (.region [⟨(some 23), none, .mv (.t 7)⟩, ⟨(some 24), none, .mv (.t 7)⟩, ⟨(some 25), none, .bin .quo (.t 24) (.c (.int .i64 1460))⟩, ⟨(some 26), none, .bin .sub (.t 23) (.t 25)⟩, ⟨(some 27), none, .mv (.t 7)⟩, ⟨(some 28), none, .bin .quo (.t 27) (.c (.int .i64 36524))⟩, ⟨(some 29), none, .bin .add (.t 26) (.t 28)⟩, ⟨(some 30), none, .mv (.t 7)⟩, ⟨(some 31), none, .bin .quo (.t 30) (.c (.int .i64 146096))⟩, ⟨(some 32), none, .bin .sub (.t 29) (.t 31)⟩, ⟨(some 33), none, .bin .quo (.t 32) (.c (.int .i64 365))⟩, ⟨(some 8), none, .mv (.t 33)⟩])
  (.seq (.region [⟨(some 34), none, .mv (.t 7)⟩, ⟨(some 35), none, .mv (.t 8)⟩, ⟨(some 36), none, .bin .mul (.c (.int .i64 365)) (.t 35)⟩, ⟨(some 37), none, .mv (.t 8)⟩, ⟨(some 38), none, .bin .quo (.t 37) (.c (.int .i64 4))⟩, ⟨(some 39), none, .bin .add (.t 36) (.t 38)⟩, ⟨(some 40), none, .mv (.t 8)⟩, ⟨(some 41), none, .bin .quo (.t 40) (.c (.int .i64 100))⟩, ⟨(some 42), none, .bin .sub (.t 39) (.t 41)⟩, ⟨(some 43), none, .bin .sub (.t 34) (.t 42)⟩, ⟨(some 9), none, .mv (.t 43)⟩])
  (.seq (.region [⟨(some 44), none, .mv (.t 9)⟩, ⟨(some 45), none, .bin .mul (.c (.int .i64 5)) (.t 44)⟩, ⟨(some 46), none, .bin .add (.t 45) (.c (.int .i64 2))⟩, ⟨(some 47), none, .bin .quo (.t 46) (.c (.int .i64 153))⟩, ⟨(some 10), none, .mv (.t 47)⟩])
  (.seq (.region [⟨(some 48), none, .mv (.t 9)⟩, ⟨(some 49), none, .mv (.t 10)⟩, ⟨(some 50), none, .bin .mul (.c (.int .i64 153)) (.t 49)⟩, ⟨(some 51), none, .bin .add (.t 50) (.c (.int .i64 2))⟩, ⟨(some 52), none, .bin .quo (.t 51) (.c (.int .i64 5))⟩, ⟨(some 53), none, .bin .sub (.t 48) (.t 52)⟩, ⟨(some 54), none, .bin .add (.t 53) (.c (.int .i64 1))⟩, ⟨(some 4), none, .mv (.t 54)⟩])
  (.seq (.region [⟨(some 55), none, .mv (.t 10)⟩, ⟨(some 56), none, .bin .add (.t 55) (.c (.int .i64 3))⟩, ⟨(some 3), none, .mv (.t 56)⟩])
  (.seq (.region [⟨(some 57), none, .mv (.t 8)⟩, ⟨(some 58), none, .mv (.t 6)⟩, ⟨(some 59), none, .bin .mul (.c (.int .i64 400)) (.t 58)⟩, ⟨(some 60), none, .bin .add (.t 57) (.t 59)⟩, ⟨(some 2), none, .mv (.t 60)⟩])
  (.seq (.seq (.region [⟨(some 61), none, .mv (.t 3)⟩, ⟨(some 62), none, .bin .gtr (.t 61) (.c (.int .i64 12))⟩])
  (.cond (.t 62)
    (.seq (.region [⟨(some 63), none, .mv (.t 3)⟩, ⟨(some 64), none, .bin .sub (.t 63) (.c (.int .i64 12))⟩, ⟨(some 3), none, .mv (.t 64)⟩])
    (.region [⟨(some 65), none, .mv (.t 2)⟩, ⟨(some 66), none, .bin .add (.t 65) (.c (.int .i64 1))⟩, ⟨(some 2), none, .mv (.t 66)⟩]))
    .skip))
  (.seq (.region [⟨(some 67), none, .mv (.t 2)⟩, ⟨(some 68), none, .mv (.t 3)⟩, ⟨(some 69), none, .mv (.t 4)⟩, ⟨(some 2), none, .mv (.t 67)⟩, ⟨(some 3), none, .mv (.t 68)⟩, ⟨(some 4), none, .mv (.t 69)⟩])
  .ret))))))))))))⟩
/-- (*strings.asciiSet).contains -/
def c___strings_asciiSet__contains : FnC := ⟨10, [.tmp 4],
  (.seq (.region [⟨(some 4), none, .mv (.c (.bool false))⟩])
  (.seq (.region [⟨(some 5), none, .mv (.t 0)⟩, ⟨(some 6), none, .mv (.t 1)⟩, ⟨(some 7), none, .nilck (.t 5)⟩, ⟨(some 8), none, .ixaArr 256 1 (.t 7) (.t 6)⟩, ⟨(some 9), none, .load false 1 (.t 8)⟩, ⟨(some 4), none, .mv (.t 9)⟩])
  .ret))⟩
def tab : List (FuncId × FnC) := [(i_gatepostlaw12_ValidatorTimes, c_gatepostlaw12_ValidatorTimes), (i_gatepostref02_Format, c_gatepostref02_Format), (i_validator_Unchanged, c_validator_Unchanged), (i_validator_Applies, c_validator_Applies), (i_gatepostref02_Civil, c_gatepostref02_Civil), (i_gatepostref02_short, c_gatepostref02_short), (i_gatepostref02_two, c_gatepostref02_two), (i_gatepostref02_months, c_gatepostref02_months), (i_field_Get, c_field_Get), (i_validator_matches, c_validator_matches), (i_validator_one, c_validator_one), (i_date_Parse, c_date_Parse), (i_validator_Parse, c_validator_Parse), (i_validator_Strong, c_validator_Strong), (i_gatepostref02_year, c_gatepostref02_year), (i_gatepostref02_long, c_gatepostref02_long), (i_token_Same, c_token_Same), (i_token_Split, c_token_Split), (i_slices_ContainsFunc___string_string_, c_slices_ContainsFunc___string_string_), (i_validator_matches_1, c_validator_matches_1), (i_validator_Weak, c_validator_Weak), (i_date_fixed, c_date_fixed), (i_date_old, c_date_old), (i_date_plain, c_date_plain), (i_strings_CutPrefix, c_strings_CutPrefix), (i_strings_CutSuffix, c_strings_CutSuffix), (i_gatepostref02_leap, c_gatepostref02_leap), (i_token_Lower, c_token_Lower), (i_token_Split_1, c_token_Split_1), (i_token_Trim, c_token_Trim), (i_slices_IndexFunc___string_string_, c_slices_IndexFunc___string_string_), (i___gatepost_date_reader__day, c___gatepost_date_reader__day), (i___gatepost_date_reader__need, c___gatepost_date_reader__need), (i___gatepost_date_reader__number, c___gatepost_date_reader__number), (i___gatepost_date_reader__month, c___gatepost_date_reader__month), (i___gatepost_date_reader__clock, c___gatepost_date_reader__clock), (i___gatepost_date_reader__second, c___gatepost_date_reader__second), (i___gatepost_date_reader__take, c___gatepost_date_reader__take), (i_internal_stringslite_CutPrefix, c_internal_stringslite_CutPrefix), (i_internal_stringslite_CutSuffix, c_internal_stringslite_CutSuffix), (i_strings_Trim, c_strings_Trim), (i_date_longDays, c_date_longDays), (i___gatepost_date_reader__number_1, c___gatepost_date_reader__number_1), (i_date_monthNames, c_date_monthNames), (i_date_Days, c_date_Days), (i_internal_stringslite_HasPrefix, c_internal_stringslite_HasPrefix), (i_internal_stringslite_HasSuffix, c_internal_stringslite_HasSuffix), (i_strings_makeASCIISet, c_strings_makeASCIISet), (i_strings_trimLeftASCII, c_strings_trimLeftASCII), (i_strings_trimRightASCII, c_strings_trimRightASCII), (i_date_Civil, c_date_Civil), (i___strings_asciiSet__contains, c___strings_asciiSet__contains)]
def F (f : FuncId) : Option FnC := tab.lookup f
theorem F_gatepostlaw12_ValidatorTimes : F i_gatepostlaw12_ValidatorTimes = some c_gatepostlaw12_ValidatorTimes := rfl
theorem kc_gatepostlaw12_ValidatorTimes : compF Tryd.prog i_gatepostlaw12_ValidatorTimes = some c_gatepostlaw12_ValidatorTimes := by kernel_rfl
theorem F_gatepostref02_Format : F i_gatepostref02_Format = some c_gatepostref02_Format := rfl
theorem kc_gatepostref02_Format : compF Tryd.prog i_gatepostref02_Format = some c_gatepostref02_Format := by kernel_rfl
theorem F_validator_Unchanged : F i_validator_Unchanged = some c_validator_Unchanged := rfl
theorem kc_validator_Unchanged : compF Tryd.prog i_validator_Unchanged = some c_validator_Unchanged := by kernel_rfl
theorem F_validator_Applies : F i_validator_Applies = some c_validator_Applies := rfl
theorem kc_validator_Applies : compF Tryd.prog i_validator_Applies = some c_validator_Applies := by kernel_rfl
theorem F_gatepostref02_Civil : F i_gatepostref02_Civil = some c_gatepostref02_Civil := rfl
theorem kc_gatepostref02_Civil : compF Tryd.prog i_gatepostref02_Civil = some c_gatepostref02_Civil := by kernel_rfl
theorem F_gatepostref02_short : F i_gatepostref02_short = some c_gatepostref02_short := rfl
theorem kc_gatepostref02_short : compF Tryd.prog i_gatepostref02_short = some c_gatepostref02_short := by kernel_rfl
theorem F_gatepostref02_two : F i_gatepostref02_two = some c_gatepostref02_two := rfl
theorem kc_gatepostref02_two : compF Tryd.prog i_gatepostref02_two = some c_gatepostref02_two := by kernel_rfl
theorem F_gatepostref02_months : F i_gatepostref02_months = some c_gatepostref02_months := rfl
theorem kc_gatepostref02_months : compF Tryd.prog i_gatepostref02_months = some c_gatepostref02_months := by kernel_rfl
theorem F_field_Get : F i_field_Get = some c_field_Get := rfl
theorem kc_field_Get : compF Tryd.prog i_field_Get = some c_field_Get := by kernel_rfl
theorem F_validator_matches : F i_validator_matches = some c_validator_matches := rfl
theorem kc_validator_matches : compF Tryd.prog i_validator_matches = some c_validator_matches := by kernel_rfl
theorem F_validator_one : F i_validator_one = some c_validator_one := rfl
theorem kc_validator_one : compF Tryd.prog i_validator_one = some c_validator_one := by kernel_rfl
theorem F_date_Parse : F i_date_Parse = some c_date_Parse := rfl
theorem kc_date_Parse : compF Tryd.prog i_date_Parse = some c_date_Parse := by kernel_rfl
theorem F_validator_Parse : F i_validator_Parse = some c_validator_Parse := rfl
theorem kc_validator_Parse : compF Tryd.prog i_validator_Parse = some c_validator_Parse := by kernel_rfl
theorem F_validator_Strong : F i_validator_Strong = some c_validator_Strong := rfl
theorem kc_validator_Strong : compF Tryd.prog i_validator_Strong = some c_validator_Strong := by kernel_rfl
theorem F_gatepostref02_year : F i_gatepostref02_year = some c_gatepostref02_year := rfl
theorem kc_gatepostref02_year : compF Tryd.prog i_gatepostref02_year = some c_gatepostref02_year := by kernel_rfl
theorem F_gatepostref02_long : F i_gatepostref02_long = some c_gatepostref02_long := rfl
theorem kc_gatepostref02_long : compF Tryd.prog i_gatepostref02_long = some c_gatepostref02_long := by kernel_rfl
theorem F_token_Same : F i_token_Same = some c_token_Same := rfl
theorem kc_token_Same : compF Tryd.prog i_token_Same = some c_token_Same := by kernel_rfl
theorem F_token_Split : F i_token_Split = some c_token_Split := rfl
theorem kc_token_Split : compF Tryd.prog i_token_Split = some c_token_Split := by kernel_rfl
theorem F_slices_ContainsFunc___string_string_ : F i_slices_ContainsFunc___string_string_ = some c_slices_ContainsFunc___string_string_ := rfl
theorem kc_slices_ContainsFunc___string_string_ : compF Tryd.prog i_slices_ContainsFunc___string_string_ = some c_slices_ContainsFunc___string_string_ := by kernel_rfl
theorem F_validator_matches_1 : F i_validator_matches_1 = some c_validator_matches_1 := rfl
theorem kc_validator_matches_1 : compF Tryd.prog i_validator_matches_1 = some c_validator_matches_1 := by kernel_rfl
theorem F_validator_Weak : F i_validator_Weak = some c_validator_Weak := rfl
theorem kc_validator_Weak : compF Tryd.prog i_validator_Weak = some c_validator_Weak := by kernel_rfl
theorem F_date_fixed : F i_date_fixed = some c_date_fixed := rfl
theorem kc_date_fixed : compF Tryd.prog i_date_fixed = some c_date_fixed := by kernel_rfl
theorem F_date_old : F i_date_old = some c_date_old := rfl
theorem kc_date_old : compF Tryd.prog i_date_old = some c_date_old := by kernel_rfl
theorem F_date_plain : F i_date_plain = some c_date_plain := rfl
theorem kc_date_plain : compF Tryd.prog i_date_plain = some c_date_plain := by kernel_rfl
theorem F_strings_CutPrefix : F i_strings_CutPrefix = some c_strings_CutPrefix := rfl
theorem kc_strings_CutPrefix : compF Tryd.prog i_strings_CutPrefix = some c_strings_CutPrefix := by kernel_rfl
theorem F_strings_CutSuffix : F i_strings_CutSuffix = some c_strings_CutSuffix := rfl
theorem kc_strings_CutSuffix : compF Tryd.prog i_strings_CutSuffix = some c_strings_CutSuffix := by kernel_rfl
theorem F_gatepostref02_leap : F i_gatepostref02_leap = some c_gatepostref02_leap := rfl
theorem kc_gatepostref02_leap : compF Tryd.prog i_gatepostref02_leap = some c_gatepostref02_leap := by kernel_rfl
theorem F_token_Lower : F i_token_Lower = some c_token_Lower := rfl
theorem kc_token_Lower : compF Tryd.prog i_token_Lower = some c_token_Lower := by kernel_rfl
theorem F_token_Split_1 : F i_token_Split_1 = some c_token_Split_1 := rfl
theorem kc_token_Split_1 : compF Tryd.prog i_token_Split_1 = some c_token_Split_1 := by kernel_rfl
theorem F_token_Trim : F i_token_Trim = some c_token_Trim := rfl
theorem kc_token_Trim : compF Tryd.prog i_token_Trim = some c_token_Trim := by kernel_rfl
theorem F_slices_IndexFunc___string_string_ : F i_slices_IndexFunc___string_string_ = some c_slices_IndexFunc___string_string_ := rfl
theorem kc_slices_IndexFunc___string_string_ : compF Tryd.prog i_slices_IndexFunc___string_string_ = some c_slices_IndexFunc___string_string_ := by kernel_rfl
theorem F___gatepost_date_reader__day : F i___gatepost_date_reader__day = some c___gatepost_date_reader__day := rfl
theorem kc___gatepost_date_reader__day : compF Tryd.prog i___gatepost_date_reader__day = some c___gatepost_date_reader__day := by kernel_rfl
theorem F___gatepost_date_reader__need : F i___gatepost_date_reader__need = some c___gatepost_date_reader__need := rfl
theorem kc___gatepost_date_reader__need : compF Tryd.prog i___gatepost_date_reader__need = some c___gatepost_date_reader__need := by kernel_rfl
theorem F___gatepost_date_reader__number : F i___gatepost_date_reader__number = some c___gatepost_date_reader__number := rfl
theorem kc___gatepost_date_reader__number : compF Tryd.prog i___gatepost_date_reader__number = some c___gatepost_date_reader__number := by kernel_rfl
theorem F___gatepost_date_reader__month : F i___gatepost_date_reader__month = some c___gatepost_date_reader__month := rfl
theorem kc___gatepost_date_reader__month : compF Tryd.prog i___gatepost_date_reader__month = some c___gatepost_date_reader__month := by kernel_rfl
theorem F___gatepost_date_reader__clock : F i___gatepost_date_reader__clock = some c___gatepost_date_reader__clock := rfl
theorem kc___gatepost_date_reader__clock : compF Tryd.prog i___gatepost_date_reader__clock = some c___gatepost_date_reader__clock := by kernel_rfl
theorem F___gatepost_date_reader__second : F i___gatepost_date_reader__second = some c___gatepost_date_reader__second := rfl
theorem kc___gatepost_date_reader__second : compF Tryd.prog i___gatepost_date_reader__second = some c___gatepost_date_reader__second := by kernel_rfl
theorem F___gatepost_date_reader__take : F i___gatepost_date_reader__take = some c___gatepost_date_reader__take := rfl
theorem kc___gatepost_date_reader__take : compF Tryd.prog i___gatepost_date_reader__take = some c___gatepost_date_reader__take := by kernel_rfl
theorem F_internal_stringslite_CutPrefix : F i_internal_stringslite_CutPrefix = some c_internal_stringslite_CutPrefix := rfl
theorem kc_internal_stringslite_CutPrefix : compF Tryd.prog i_internal_stringslite_CutPrefix = some c_internal_stringslite_CutPrefix := by kernel_rfl
theorem F_internal_stringslite_CutSuffix : F i_internal_stringslite_CutSuffix = some c_internal_stringslite_CutSuffix := rfl
theorem kc_internal_stringslite_CutSuffix : compF Tryd.prog i_internal_stringslite_CutSuffix = some c_internal_stringslite_CutSuffix := by kernel_rfl
theorem F_strings_Trim : F i_strings_Trim = some c_strings_Trim := rfl
theorem kc_strings_Trim : compF Tryd.prog i_strings_Trim = some c_strings_Trim := by kernel_rfl
theorem F_date_longDays : F i_date_longDays = some c_date_longDays := rfl
theorem kc_date_longDays : compF Tryd.prog i_date_longDays = some c_date_longDays := by kernel_rfl
theorem F___gatepost_date_reader__number_1 : F i___gatepost_date_reader__number_1 = some c___gatepost_date_reader__number_1 := rfl
theorem kc___gatepost_date_reader__number_1 : compF Tryd.prog i___gatepost_date_reader__number_1 = some c___gatepost_date_reader__number_1 := by kernel_rfl
theorem F_date_monthNames : F i_date_monthNames = some c_date_monthNames := rfl
theorem kc_date_monthNames : compF Tryd.prog i_date_monthNames = some c_date_monthNames := by kernel_rfl
theorem F_date_Days : F i_date_Days = some c_date_Days := rfl
theorem kc_date_Days : compF Tryd.prog i_date_Days = some c_date_Days := by kernel_rfl
theorem F_internal_stringslite_HasPrefix : F i_internal_stringslite_HasPrefix = some c_internal_stringslite_HasPrefix := rfl
theorem kc_internal_stringslite_HasPrefix : compF Tryd.prog i_internal_stringslite_HasPrefix = some c_internal_stringslite_HasPrefix := by kernel_rfl
theorem F_internal_stringslite_HasSuffix : F i_internal_stringslite_HasSuffix = some c_internal_stringslite_HasSuffix := rfl
theorem kc_internal_stringslite_HasSuffix : compF Tryd.prog i_internal_stringslite_HasSuffix = some c_internal_stringslite_HasSuffix := by kernel_rfl
theorem F_strings_makeASCIISet : F i_strings_makeASCIISet = some c_strings_makeASCIISet := rfl
theorem kc_strings_makeASCIISet : compF Tryd.prog i_strings_makeASCIISet = some c_strings_makeASCIISet := by kernel_rfl
theorem F_strings_trimLeftASCII : F i_strings_trimLeftASCII = some c_strings_trimLeftASCII := rfl
theorem kc_strings_trimLeftASCII : compF Tryd.prog i_strings_trimLeftASCII = some c_strings_trimLeftASCII := by kernel_rfl
theorem F_strings_trimRightASCII : F i_strings_trimRightASCII = some c_strings_trimRightASCII := rfl
theorem kc_strings_trimRightASCII : compF Tryd.prog i_strings_trimRightASCII = some c_strings_trimRightASCII := by kernel_rfl
theorem F_date_Civil : F i_date_Civil = some c_date_Civil := rfl
theorem kc_date_Civil : compF Tryd.prog i_date_Civil = some c_date_Civil := by kernel_rfl
theorem F___strings_asciiSet__contains : F i___strings_asciiSet__contains = some c___strings_asciiSet__contains := rfl
theorem kc___strings_asciiSet__contains : compF Tryd.prog i___strings_asciiSet__contains = some c___strings_asciiSet__contains := by kernel_rfl
def p_gatepostlaw12_ValidatorTimes (L : FuncId → List V → V → Prop) (K : V → Heap → Prop) (a0 a1 : V) (h : Heap) : Prop :=
    (wi F L (.bin .and (.c a0) (.c (.int .i64 4294967295))) E0 h fun v12 h =>
    (wi F L (.bin .and (.c a1) (.c (.int .i64 4294967295))) E0 h fun v14 h =>
    (wi F L (.build [(.int .i64 0), (.bool false), (.bool false), (.bool false), (.bool false), (.bool false), (.bool false), (.bool false), (.int .i64 0), (.int .i64 0), (.int .i64 0), (.int .i64 0), (.int .i64 0), (.int .i64 0), (.int .i64 0), (.int .i64 0), (.int .i64 0), (.int .i64 0), (.int .i64 0), (.int .i64 0), (.str [])] [(16, 1, (.c v12))]) E0 h fun v16 h =>
    (wi F L (.boxz [(.int .i64 0), (.bool false), (.bool false), (.bool false), (.bool false), (.bool false), (.bool false), (.bool false), (.int .i64 0), (.int .i64 0), (.int .i64 0), (.int .i64 0), (.int .i64 0), (.int .i64 0), (.int .i64 0), (.int .i64 0), (.int .i64 0), (.int .i64 0), (.int .i64 0), (.int .i64 0), (.str [])]) E0 h fun v5 h =>
    (wi F L (.store 21 (.c v5) (.c v16)) E0 h fun _ h =>
    (wi F L (.call i_gatepostref02_Format [(.c v14)]) E0 h fun v18 h =>
    (wi F L (.build [(.str []), (.str [])] [(0, 1, (.c (.str [73, 102, 45, 77, 111, 100, 105, 102, 105, 101, 100, 45, 83, 105, 110, 99, 101]))), (1, 1, (.c v18))]) E0 h fun v20 h =>
    (wi F L (.bsl 2 [(.c v20)]) E0 h fun v21 h =>
    (wi F L (.build [(.str []), (.str []), (.int .i64 0), .nsl] [(0, 1, (.c (.str [71, 69, 84]))), (3, 1, (.c v21))]) E0 h fun v22 h =>
    (wi F L (.load true 21 (.c v5)) E0 h fun v23 h =>
    (wi F L (.call i_validator_Unchanged [(.c v22), (.c v23)]) E0 h fun v24 h =>
    (wi F L (.build [(.str []), (.str [])] [(0, 1, (.c (.str [73, 102, 45, 77, 111, 100, 105, 102, 105, 101, 100, 45, 83, 105, 110, 99, 101]))), (1, 1, (.c v18))]) E0 h fun v26 h =>
    (wi F L (.build [(.str []), (.str [])] [(0, 1, (.c (.str [73, 102, 45, 78, 111, 110, 101, 45, 77, 97, 116, 99, 104]))), (1, 1, (.c (.str [34, 120, 34])))]) E0 h fun v27 h =>
    (wi F L (.bsl 2 [(.c v26), (.c v27)]) E0 h fun v28 h =>
    (wi F L (.build [(.str []), (.str []), (.int .i64 0), .nsl] [(0, 1, (.c (.str [71, 69, 84]))), (3, 1, (.c v28))]) E0 h fun v29 h =>
    (wi F L (.load true 21 (.c v5)) E0 h fun v30 h =>
    (wi F L (.call i_validator_Unchanged [(.c v29), (.c v30)]) E0 h fun v31 h =>
    (wi F L (.build [(.str []), (.str [])] [(0, 1, (.c (.str [73, 102, 45, 82, 97, 110, 103, 101]))), (1, 1, (.c v18))]) E0 h fun v33 h =>
    (wi F L (.build [(.str []), (.str [])] [(0, 1, (.c (.str [82, 97, 110, 103, 101]))), (1, 1, (.c (.str [120])))]) E0 h fun v34 h =>
    (wi F L (.bsl 2 [(.c v33), (.c v34)]) E0 h fun v35 h =>
    (wi F L (.build [(.str []), (.str []), (.int .i64 0), .nsl] [(0, 1, (.c (.str [71, 69, 84]))), (3, 1, (.c v35))]) E0 h fun v36 h =>
    (wi F L (.load true 21 (.c v5)) E0 h fun v37 h =>
    (wi F L (.call i_validator_Applies [(.c v36), (.c v37)]) E0 h fun v38 h =>
    (wi F L (.build [(.str []), (.str [])] [(0, 1, (.c (.str [82, 97, 110, 103, 101]))), (1, 1, (.c (.str [120])))]) E0 h fun v39 h =>
    (wi F L (.bsl 2 [(.c v39)]) E0 h fun v40 h =>
    (wi F L (.build [(.str []), (.str []), (.int .i64 0), .nsl] [(0, 1, (.c (.str [71, 69, 84]))), (3, 1, (.c v40))]) E0 h fun v41 h =>
    (wi F L (.load true 21 (.c v5)) E0 h fun v42 h =>
    (wi F L (.call i_validator_Applies [(.c v41), (.c v42)]) E0 h fun v43 h =>
    (wi F L (.bin .leq (.c v12) (.c v14)) E0 h fun v47 h =>
    (wi F L (.eq .bool false (.c v24) (.c v47)) E0 h fun v48 h =>
    (wg v48 true (wi F L (.mv (.c v31)) E0 h) h fun v50 h =>
    (wg v48 true (wi F L (.un .not (.c v50)) E0 h) h fun v51 h =>
    (wi F L (.pick (.c v48) (.c v51) (.c (.bool false))) E0 h fun v52 h =>
    (wg v52 true (wi F L (.mv (.c v38)) E0 h) h fun v54 h =>
    (wg v52 true (wi F L (.mv (.c v12)) E0 h) h fun v55 h =>
    (wg v52 true (wi F L (.mv (.c v14)) E0 h) h fun v56 h =>
    (wg v52 true (wi F L (.bin .eql (.c v55) (.c v56)) E0 h) h fun v57 h =>
    (wg v52 true (wi F L (.eq .bool false (.c v54) (.c v57)) E0 h) h fun v58 h =>
    (wi F L (.pick (.c v52) (.c v58) (.c (.bool false))) E0 h fun v59 h =>
    (wg v59 true (wi F L (.mv (.c v43)) E0 h) h fun v61 h =>
    (wi F L (.pick (.c v59) (.c v61) (.c (.bool false))) E0 h fun v62 h =>
    (∃ v, some v62 = some v ∧ K v h))))))))))))))))))))))))))))))))))))))))))
theorem run_gatepostlaw12_ValidatorTimes {L : FuncId → List V → V → Prop} {K : V → Heap → Prop} {a0 a1 : V} {h : Heap} (hp : p_gatepostlaw12_ValidatorTimes L K a0 a1 h) : Cf F L i_gatepostlaw12_ValidatorTimes [a0, a1] h K :=
  wcallp F_gatepostlaw12_ValidatorTimes (show 2 ≤ 63 by decide) (p := p_gatepostlaw12_ValidatorTimes L K a0 a1 h) (by kernel_rfl) hp
def k_gatepostref02_Format_0 (L : FuncId → List V → V → Prop) (K : V → Heap → Prop) (v0 : V) (h : Heap) : Prop :=
    (wi F L (.bin .quo (.c v0) (.c (.int .i64 86400))) E0 h fun v15 h =>
    (wi F L (.bin .rem (.c v0) (.c (.int .i64 86400))) E0 h fun v17 h =>
    (wi F L (.call i_gatepostref02_Civil [(.c v15)]) E0 h fun v20 h =>
    (wi F L (.ext 0 (.c v20)) E0 h fun v21 h =>
    (wi F L (.ext 1 (.c v20)) E0 h fun v22 h =>
    (wi F L (.ext 2 (.c v20)) E0 h fun v23 h =>
    (wi F L (.call i_gatepostref02_short []) E0 h fun v24 h' => Ext h h' ∧
    (wi F L (.bin .add (.c v15) (.c (.int .i64 3))) E0 h' fun v26 h => Ext h' h ∧
    (wi F L (.bin .rem (.c v26) (.c (.int .i64 7))) E0 h fun v27 h' => Ext h h' ∧
    (wi F L (.ixaSl 1 (.c v24) (.c v27)) E0 h' fun v28 h => Ext h' h ∧
    (wi F L (.load false 1 (.c v28)) E0 h fun v29 h' => Ext h h' ∧
    (wi F L (.bin .add (.c v29) (.c (.str [44, 32]))) E0 h' fun v30 h => Ext h' h ∧
    (wi F L (.call i_gatepostref02_two [(.c v23)]) E0 h fun v32 h' => Ext h h' ∧
    (wi F L (.bin .add (.c v30) (.c v32)) E0 h' fun v33 h => Ext h' h ∧
    (wi F L (.bin .add (.c v33) (.c (.str [32]))) E0 h fun v34 h' => Ext h h' ∧
    (wi F L (.call i_gatepostref02_months []) E0 h' fun v35 h => Ext h' h ∧
    (wi F L (.bin .sub (.c v22) (.c (.int .i64 1))) E0 h fun v37 h' => Ext h h' ∧
    (wi F L (.ixaSl 1 (.c v35) (.c v37)) E0 h' fun v38 h => Ext h' h ∧
    (wi F L (.load false 1 (.c v38)) E0 h fun v39 h' => Ext h h' ∧
    (wi F L (.bin .add (.c v34) (.c v39)) E0 h' fun v40 h => Ext h' h ∧
    (wi F L (.bin .add (.c v40) (.c (.str [32]))) E0 h fun v41 h' => Ext h h' ∧
    (wi F L (.bin .quo (.c v21) (.c (.int .i64 100))) E0 h' fun v43 h => Ext h' h ∧
    (wi F L (.call i_gatepostref02_two [(.c v43)]) E0 h fun v44 h' => Ext h h' ∧
    (wi F L (.bin .add (.c v41) (.c v44)) E0 h' fun v45 h => Ext h' h ∧
    (wi F L (.bin .rem (.c v21) (.c (.int .i64 100))) E0 h fun v47 h' => Ext h h' ∧
    (wi F L (.call i_gatepostref02_two [(.c v47)]) E0 h' fun v48 h => Ext h' h ∧
    (wi F L (.bin .add (.c v45) (.c v48)) E0 h fun v49 h' => Ext h h' ∧
    (wi F L (.bin .add (.c v49) (.c (.str [32]))) E0 h' fun v50 h => Ext h' h ∧
    (wi F L (.bin .quo (.c v17) (.c (.int .i64 3600))) E0 h fun v52 h' => Ext h h' ∧
    (wi F L (.call i_gatepostref02_two [(.c v52)]) E0 h' fun v53 h => Ext h' h ∧
    (wi F L (.bin .add (.c v50) (.c v53)) E0 h fun v54 h' => Ext h h' ∧
    (wi F L (.bin .add (.c v54) (.c (.str [58]))) E0 h' fun v55 h => Ext h' h ∧
    (wi F L (.bin .quo (.c v17) (.c (.int .i64 60))) E0 h fun v57 h' => Ext h h' ∧
    (wi F L (.bin .rem (.c v57) (.c (.int .i64 60))) E0 h' fun v58 h => Ext h' h ∧
    (wi F L (.call i_gatepostref02_two [(.c v58)]) E0 h fun v59 h' => Ext h h' ∧
    (wi F L (.bin .add (.c v55) (.c v59)) E0 h' fun v60 h => Ext h' h ∧
    (wi F L (.bin .add (.c v60) (.c (.str [58]))) E0 h fun v61 h' => Ext h h' ∧
    (wi F L (.bin .rem (.c v17) (.c (.int .i64 60))) E0 h' fun v63 h => Ext h' h ∧
    (wi F L (.call i_gatepostref02_two [(.c v63)]) E0 h fun v64 h' => Ext h h' ∧
    (wi F L (.bin .add (.c v61) (.c v64)) E0 h' fun v65 h =>
    (wi F L (.bin .add (.c v65) (.c (.str [32, 71, 77, 84]))) E0 h fun v66 h =>
    (∃ v, some v66 = some v ∧ K v h))))))))))))))))))))))))))))))))))))))))))
def p_gatepostref02_Format (L : FuncId → List V → V → Prop) (K : V → Heap → Prop) (a0 : V) (h : Heap) : Prop :=
    (wi F L (.bin .lss (.c a0) (.c (.int .i64 0))) E0 h fun v9 h =>
    (wg v9 false (wi F L (.mv (.c a0)) E0 h) h fun v11 h =>
    (wg v9 false (wi F L (.bin .geq (.c v11) (.c (.int .i64 253402300800))) E0 h) h fun v12 h =>
    (wi F L (.pick (.c v9) (.c (.bool true)) (.c v12)) E0 h fun v13 h =>
    (wb v13
    (k_gatepostref02_Format_0 L K (.int .i64 0) h)
    (k_gatepostref02_Format_0 L K a0 h))))))
theorem run_gatepostref02_Format {L : FuncId → List V → V → Prop} {K : V → Heap → Prop} {a0 : V} {h : Heap} (hp : p_gatepostref02_Format L K a0 h) : Cf F L i_gatepostref02_Format [a0] h K :=
  wcallp F_gatepostref02_Format (show 1 ≤ 67 by decide) (p := p_gatepostref02_Format L K a0 h) (by kernel_rfl) hp
def k_validator_Unchanged_1 (L : FuncId → List V → V → Prop) (K : V → Heap → Prop) (v2 v3 : V) (h : Heap) : Prop :=
    (wi F L (.faddr 3 (.c v2)) E0 h fun v32 h =>
    (wi F L (.load false 1 (.c v32)) E0 h fun v33 h =>
    (wi F L (.call i_validator_one [(.c v33), (.c (.str [73, 102, 45, 77, 111, 100, 105, 102, 105, 101, 100, 45, 83, 105, 110, 99, 101]))]) E0 h fun v34 h =>
    (wi F L (.ext 0 (.c v34)) E0 h fun v35 h =>
    (wi F L (.ext 1 (.c v34)) E0 h fun v36 h =>
    (wi F L (.call i_date_Parse [(.c v35)]) E0 h fun v39 h =>
    (wi F L (.ext 0 (.c v39)) E0 h fun v40 h =>
    (wi F L (.ext 1 (.c v39)) E0 h fun v41 h =>
    (wg v36 true (wi F L (.mv (.c v41)) E0 h) h fun v44 h =>
    (wi F L (.pick (.c v36) (.c v44) (.c (.bool false))) E0 h fun v45 h =>
    (wg v45 true (wi F L (.faddr 16 (.c v3)) E0 h) h fun v47 h =>
    (wg v45 true (wi F L (.load false 1 (.c v47)) E0 h) h fun v48 h =>
    (wg v45 true (wi F L (.bin .geq (.c v48) (.c (.int .i64 0))) E0 h) h fun v49 h =>
    (wi F L (.pick (.c v45) (.c v49) (.c (.bool false))) E0 h fun v50 h =>
    (wg v50 true (wi F L (.faddr 16 (.c v3)) E0 h) h fun v52 h =>
    (wg v50 true (wi F L (.load false 1 (.c v52)) E0 h) h fun v53 h =>
    (wg v50 true (wi F L (.mv (.c v40)) E0 h) h fun v54 h =>
    (wg v50 true (wi F L (.bin .leq (.c v53) (.c v54)) E0 h) h fun v55 h =>
    (wi F L (.pick (.c v50) (.c v55) (.c (.bool false))) E0 h fun v56 h =>
    (∃ v, some v56 = some v ∧ K v h))))))))))))))))))))
def k_validator_Unchanged_0 (L : FuncId → List V → V → Prop) (K : V → Heap → Prop) (v2 v3 : V) (h : Heap) : Prop :=
    (wi F L (.faddr 3 (.c v2)) E0 h fun v20 h =>
    (wi F L (.load false 1 (.c v20)) E0 h fun v21 h =>
    (wi F L (.call i_field_Get [(.c v21), (.c (.str [73, 102, 45, 78, 111, 110, 101, 45, 77, 97, 116, 99, 104]))]) E0 h fun v22 h =>
    (wi F L (.ext 0 (.c v22)) E0 h fun v23 h =>
    (wi F L (.ext 1 (.c v22)) E0 h fun v24 h =>
    (wi F L (.bin .gtr (.c v24) (.c (.int .i64 0))) E0 h fun v26 h =>
    (wb v26
    (wi F L (.faddr 20 (.c v3)) E0 h fun v28 h =>
    (wi F L (.load false 1 (.c v28)) E0 h fun v29 h =>
    (wi F L (.call i_validator_matches [(.c v23), (.c v29)]) E0 h fun v30 h =>
    (∃ v, some v30 = some v ∧ K v h))))
    (k_validator_Unchanged_1 L K v2 v3 h))))))))
def p_validator_Unchanged (L : FuncId → List V → V → Prop) (K : V → Heap → Prop) (a0 a1 : V) (h : Heap) : Prop :=
    (wi F L (.box (.c a0)) E0 h fun v2 h =>
    (wi F L (.box (.c a1)) E0 h fun v3 h =>
    (wi F L (.faddr 0 (.c v2)) E0 h fun v11 h =>
    (wi F L (.load false 1 (.c v11)) E0 h fun v12 h =>
    (wi F L (.bin .neq (.c v12) (.c (.str [71, 69, 84]))) E0 h fun v13 h =>
    (wg v13 true (wi F L (.faddr 0 (.c v2)) E0 h) h fun v15 h =>
    (wg v13 true (wi F L (.load false 1 (.c v15)) E0 h) h fun v16 h =>
    (wg v13 true (wi F L (.bin .neq (.c v16) (.c (.str [72, 69, 65, 68]))) E0 h) h fun v17 h =>
    (wi F L (.pick (.c v13) (.c v17) (.c (.bool false))) E0 h fun v18 h =>
    (wb v18
    (∃ v, some (.bool false) = some v ∧ K v h)
    (k_validator_Unchanged_0 L K v2 v3 h)))))))))))
theorem run_validator_Unchanged {L : FuncId → List V → V → Prop} {K : V → Heap → Prop} {a0 a1 : V} {h : Heap} (hp : p_validator_Unchanged L K a0 a1 h) : Cf F L i_validator_Unchanged [a0, a1] h K :=
  wcallp F_validator_Unchanged (show 2 ≤ 57 by decide) (p := p_validator_Unchanged L K a0 a1 h) (by kernel_rfl) hp
def k_validator_Applies_2 (L : FuncId → List V → V → Prop) (K : V → Heap → Prop) (v3 v7 : V) (h : Heap) : Prop :=
    (wi F L (.call i_date_Parse [(.c v7)]) E0 h fun v58 h =>
    (wi F L (.ext 0 (.c v58)) E0 h fun v59 h =>
    (wi F L (.ext 1 (.c v58)) E0 h fun v60 h =>
    (wg v60 true (wi F L (.mv (.c v59)) E0 h) h fun v63 h =>
    (wg v60 true (wi F L (.faddr 16 (.c v3)) E0 h) h fun v64 h =>
    (wg v60 true (wi F L (.load false 1 (.c v64)) E0 h) h fun v65 h =>
    (wg v60 true (wi F L (.bin .eql (.c v63) (.c v65)) E0 h) h fun v66 h =>
    (wi F L (.pick (.c v60) (.c v66) (.c (.bool false))) E0 h fun v67 h =>
    (∃ v, some v67 = some v ∧ K v h)))))))))
def k_validator_Applies_1 (L : FuncId → List V → V → Prop) (K : V → Heap → Prop) (v3 v7 : V) (h : Heap) : Prop :=
    (wi F L (.faddr 20 (.c v3)) E0 h fun v39 h =>
    (wi F L (.load false 1 (.c v39)) E0 h fun v40 h =>
    (wi F L (.call i_validator_Parse [(.c v40)]) E0 h fun v41 h =>
    (wi F L (.ext 0 (.c v41)) E0 h fun v42 h =>
    (wi F L (.ext 1 (.c v41)) E0 h fun v43 h =>
    (wi F L (.boxz [(.bool false), (.str [])]) E0 h fun v9 h =>
    (wi F L (.store 2 (.c v9) (.c v42)) E0 h fun _ h =>
    (wi F L (.call i_validator_Parse [(.c v7)]) E0 h fun v46 h =>
    (wi F L (.ext 0 (.c v46)) E0 h fun v47 h =>
    (wi F L (.ext 1 (.c v46)) E0 h fun v48 h =>
    (wi F L (.boxz [(.bool false), (.str [])]) E0 h fun v11 h =>
    (wi F L (.store 2 (.c v11) (.c v47)) E0 h fun _ h =>
    (wb v48
    (wg v43 true (wi F L (.load true 2 (.c v11)) E0 h) h fun v52 h =>
    (wg v43 true (wi F L (.load true 2 (.c v9)) E0 h) h fun v53 h =>
    (wg v43 true (wi F L (.call i_validator_Strong [(.c v52), (.c v53)]) E0 h) h fun v54 h =>
    (wi F L (.pick (.c v43) (.c v54) (.c (.bool false))) E0 h fun v55 h =>
    (∃ v, some v55 = some v ∧ K v h)))))
    (k_validator_Applies_2 L K v3 v7 h))))))))))))))
def k_validator_Applies_0 (L : FuncId → List V → V → Prop) (K : V → Heap → Prop) (v2 v3 : V) (h : Heap) : Prop :=
    (wi F L (.faddr 3 (.c v2)) E0 h fun v29 h =>
    (wi F L (.load false 1 (.c v29)) E0 h fun v30 h =>
    (wi F L (.call i_field_Get [(.c v30), (.c (.str [73, 102, 45, 82, 97, 110, 103, 101]))]) E0 h fun v31 h =>
    (wi F L (.ext 0 (.c v31)) E0 h fun v32 h =>
    (wi F L (.ext 1 (.c v31)) E0 h fun v33 h =>
    (wi F L (.bin .neq (.c v33) (.c (.int .i64 1))) E0 h fun v35 h =>
    (wb v35
    (wi F L (.bin .eql (.c v33) (.c (.int .i64 0))) E0 h fun v37 h =>
    (∃ v, some v37 = some v ∧ K v h))
    (k_validator_Applies_1 L K v3 v32 h))))))))
def p_validator_Applies (L : FuncId → List V → V → Prop) (K : V → Heap → Prop) (a0 a1 : V) (h : Heap) : Prop :=
    (wi F L (.box (.c a0)) E0 h fun v2 h =>
    (wi F L (.box (.c a1)) E0 h fun v3 h =>
    (wi F L (.faddr 3 (.c v2)) E0 h fun v16 h =>
    (wi F L (.load false 1 (.c v16)) E0 h fun v17 h =>
    (wi F L (.call i_validator_one [(.c v17), (.c (.str [82, 97, 110, 103, 101]))]) E0 h fun v18 h =>
    (wi F L (.ext 0 (.c v18)) E0 h fun v19 h =>
    (wi F L (.ext 1 (.c v18)) E0 h fun v20 h =>
    (wi F L (.un .not (.c v20)) E0 h fun v22 h =>
    (wg v22 false (wi F L (.faddr 0 (.c v2)) E0 h) h fun v24 h =>
    (wg v22 false (wi F L (.load false 1 (.c v24)) E0 h) h fun v25 h =>
    (wg v22 false (wi F L (.bin .neq (.c v25) (.c (.str [71, 69, 84]))) E0 h) h fun v26 h =>
    (wi F L (.pick (.c v22) (.c (.bool true)) (.c v26)) E0 h fun v27 h =>
    (wb v27
    (∃ v, some (.bool false) = some v ∧ K v h)
    (k_validator_Applies_0 L K v2 v3 h))))))))))))))
theorem run_validator_Applies {L : FuncId → List V → V → Prop} {K : V → Heap → Prop} {a0 a1 : V} {h : Heap} (hp : p_validator_Applies L K a0 a1 h) : Cf F L i_validator_Applies [a0, a1] h K :=
  wcallp F_validator_Applies (show 2 ≤ 68 by decide) (p := p_validator_Applies L K a0 a1 h) (by kernel_rfl) hp
def k_gatepostref02_Civil_2 (L : FuncId → List V → V → Prop) (K : V → Heap → Prop) (v0 v5 v6 : V) (h : Heap) : Prop :=
    (wi F L (.bin .add (.c v0) (.c (.int .i64 1))) E0 h fun v38 h =>
    (∃ v, resultsV h (enterE [v5, v6, v38]) [.tmp 0, .tmp 1, .tmp 2] = some v ∧ K v h))
def k_gatepostref02_Civil_3 (L : FuncId → List V → V → Prop) (K : V → Heap → Prop) (N0 : Env → Heap → Prop) (e : Env) (v0 v5 v6 : V) (h : Heap) : Prop :=
    (wi F L (.call i_gatepostref02_long [(.c v5), (.c v6)]) E0 h fun v31 h =>
    (wi F L (.bin .sub (.c v0) (.c v31)) E0 h fun v32 h =>
    (wi F L (.bin .add (.c v6) (.c (.int .i64 1))) E0 h fun v34 h =>
    (N0 (upd (upd (upd (upd (upd (upd (upd (upd (upd e 28 v0) 29 v5) 30 v6) 31 v31) 32 v32) 0 v32) 33 v6) 34 v34) 6 v34) h))))
def q_gatepostref02_Civil_0 (L : FuncId → List V → V → Prop) (K : V → Heap → Prop) : X → Env → Heap → Prop := (fun x => (seqX (fun e h => k_gatepostref02_Civil_2 L K (e 0) (e 5) (e 6) h) (retX c_gatepostref02_Civil.results K)) (X.out 2 x))
def lc_gatepostref02_Civil_0 : C :=
  (.seq (.seq (.region [⟨(some 23), none, .mv (.t 0)⟩, ⟨(some 24), none, .mv (.t 5)⟩, ⟨(some 25), none, .mv (.t 6)⟩, ⟨(some 26), none, .call i_gatepostref02_long [(.t 24), (.t 25)]⟩, ⟨(some 27), none, .bin .geq (.t 23) (.t 26)⟩])
  (.cond (.t 27)
    .skip
    (.exit 2)))
  (.block 3 (.seq (.region [⟨(some 28), none, .mv (.t 0)⟩, ⟨(some 29), none, .mv (.t 5)⟩, ⟨(some 30), none, .mv (.t 6)⟩, ⟨(some 31), none, .call i_gatepostref02_long [(.t 29), (.t 30)]⟩, ⟨(some 32), none, .bin .sub (.t 28) (.t 31)⟩, ⟨(some 0), none, .mv (.t 32)⟩])
  (.region [⟨(some 33), none, .mv (.t 6)⟩, ⟨(some 34), none, .bin .add (.t 33) (.c (.int .i64 1))⟩, ⟨(some 6), none, .mv (.t 34)⟩]))))
def b_gatepostref02_Civil_0 (L : FuncId → List V → V → Prop) (K : V → Heap → Prop) (N0 : Env → Heap → Prop) (e : Env) (h : Heap) : Prop :=
    (wi F L (.call i_gatepostref02_long [(.c (e 5)), (.c (e 6))]) E0 h fun v26 h =>
    (wi F L (.bin .geq (.c (e 0)) (.c v26)) E0 h fun v27 h =>
    (wb v27
    (k_gatepostref02_Civil_3 L K N0 (upd (upd (upd (upd (upd e 23 (e 0)) 24 (e 5)) 25 (e 6)) 26 v26) 27 v27) (e 0) (e 5) (e 6) h)
    (k_gatepostref02_Civil_2 L K (e 0) (e 5) (e 6) h))))
theorem l_gatepostref02_Civil_0 {L : FuncId → List V → V → Prop} {K : V → Heap → Prop} (I : Nat → Env → Heap → Prop) (hr : ∀ n e h, I n e h → b_gatepostref02_Civil_0 L K (fun e' h' => ∃ m, m < n ∧ I m e' h') e h) {n : Nat} {e : Env} {h : Heap} (hi : I n e h) : Wl F L lc_gatepostref02_Civil_0 (q_gatepostref02_Civil_0 L K) e h :=
  wloopp (b := b_gatepostref02_Civil_0 L K) I (fun _ _ _ => by kernel_rfl) hr hi
def k_gatepostref02_Civil_1 (L : FuncId → List V → V → Prop) (K : V → Heap → Prop) (e : Env) (h : Heap) : Prop :=
    (Wl F L lc_gatepostref02_Civil_0 (q_gatepostref02_Civil_0 L K) (upd e 6 (.int .i64 1)) h)
def k_gatepostref02_Civil_4 (L : FuncId → List V → V → Prop) (K : V → Heap → Prop) (N0 : Env → Heap → Prop) (e : Env) (v0 v5 : V) (h : Heap) : Prop :=
    (wi F L (.call i_gatepostref02_year [(.c v5)]) E0 h fun v19 h =>
    (wi F L (.bin .sub (.c v0) (.c v19)) E0 h fun v20 h =>
    (wi F L (.bin .add (.c v5) (.c (.int .i64 1))) E0 h fun v22 h =>
    (N0 (upd (upd (upd (upd (upd (upd (upd (upd e 17 v0) 18 v5) 19 v19) 20 v20) 0 v20) 21 v5) 22 v22) 5 v22) h))))
def q_gatepostref02_Civil_1 (L : FuncId → List V → V → Prop) (K : V → Heap → Prop) : X → Env → Heap → Prop := (fun x => (seqX (fun e h => k_gatepostref02_Civil_1 L K e  h) (retX c_gatepostref02_Civil.results K)) (X.out 0 x))
def lc_gatepostref02_Civil_1 : C :=
  (.seq (.seq (.region [⟨(some 13), none, .mv (.t 0)⟩, ⟨(some 14), none, .mv (.t 5)⟩, ⟨(some 15), none, .call i_gatepostref02_year [(.t 14)]⟩, ⟨(some 16), none, .bin .geq (.t 13) (.t 15)⟩])
  (.cond (.t 16)
    .skip
    (.exit 0)))
  (.block 1 (.seq (.region [⟨(some 17), none, .mv (.t 0)⟩, ⟨(some 18), none, .mv (.t 5)⟩, ⟨(some 19), none, .call i_gatepostref02_year [(.t 18)]⟩, ⟨(some 20), none, .bin .sub (.t 17) (.t 19)⟩, ⟨(some 0), none, .mv (.t 20)⟩])
  (.region [⟨(some 21), none, .mv (.t 5)⟩, ⟨(some 22), none, .bin .add (.t 21) (.c (.int .i64 1))⟩, ⟨(some 5), none, .mv (.t 22)⟩]))))
def b_gatepostref02_Civil_1 (L : FuncId → List V → V → Prop) (K : V → Heap → Prop) (N0 : Env → Heap → Prop) (e : Env) (h : Heap) : Prop :=
    (wi F L (.call i_gatepostref02_year [(.c (e 5))]) E0 h fun v15 h =>
    (wi F L (.bin .geq (.c (e 0)) (.c v15)) E0 h fun v16 h =>
    (wb v16
    (k_gatepostref02_Civil_4 L K N0 (upd (upd (upd (upd e 13 (e 0)) 14 (e 5)) 15 v15) 16 v16) (e 0) (e 5) h)
    (k_gatepostref02_Civil_1 L K (upd (upd (upd (upd e 13 (e 0)) 14 (e 5)) 15 v15) 16 v16)  h))))
theorem l_gatepostref02_Civil_1 {L : FuncId → List V → V → Prop} {K : V → Heap → Prop} (I : Nat → Env → Heap → Prop) (hr : ∀ n e h, I n e h → b_gatepostref02_Civil_1 L K (fun e' h' => ∃ m, m < n ∧ I m e' h') e h) {n : Nat} {e : Env} {h : Heap} (hi : I n e h) : Wl F L lc_gatepostref02_Civil_1 (q_gatepostref02_Civil_1 L K) e h :=
  wloopp (b := b_gatepostref02_Civil_1 L K) I (fun _ _ _ => by kernel_rfl) hr hi
def k_gatepostref02_Civil_0 (L : FuncId → List V → V → Prop) (K : V → Heap → Prop) (e : Env) (h : Heap) : Prop :=
    (Wl F L lc_gatepostref02_Civil_1 (q_gatepostref02_Civil_1 L K) (upd e 5 (.int .i64 1970)) h)
def p_gatepostref02_Civil (L : FuncId → List V → V → Prop) (K : V → Heap → Prop) (a0 : V) (h : Heap) : Prop :=
    (wi F L (.bin .lss (.c a0) (.c (.int .i64 0))) E0 h fun v8 h =>
    (wg v8 false (wi F L (.mv (.c a0)) E0 h) h fun v10 h =>
    (wg v8 false (wi F L (.bin .gtr (.c v10) (.c (.int .i64 2932896))) E0 h) h fun v11 h =>
    (wi F L (.pick (.c v8) (.c (.bool true)) (.c v11)) E0 h fun v12 h =>
    (wb v12
    (∃ v, resultsV h (enterE [(.int .i64 0), (.int .i64 0), (.int .i64 0)]) [.tmp 0, .tmp 1, .tmp 2] = some v ∧ K v h)
    (k_gatepostref02_Civil_0 L K (upd (upd (upd (upd (upd (upd (upd (upd (upd (enterE [a0]) 2 (.int .i64 0)) 3 (.int .i64 0)) 4 (.int .i64 0)) 7 a0) 8 v8) 9 v8) 10 v10) 11 v11) 12 v12)  h))))))
theorem run_gatepostref02_Civil {L : FuncId → List V → V → Prop} {K : V → Heap → Prop} {a0 : V} {h : Heap} (hp : p_gatepostref02_Civil L K a0 h) : Cf F L i_gatepostref02_Civil [a0] h K :=
  wcallp F_gatepostref02_Civil (show 1 ≤ 39 by decide) (p := p_gatepostref02_Civil L K a0 h) (by kernel_rfl) hp
def p_gatepostref02_short (L : FuncId → List V → V → Prop) (K : V → Heap → Prop) (h : Heap) : Prop :=
    (wi F L (.bsl 1 [(.c (.str [77, 111, 110])), (.c (.str [84, 117, 101])), (.c (.str [87, 101, 100])), (.c (.str [84, 104, 117])), (.c (.str [70, 114, 105])), (.c (.str [83, 97, 116])), (.c (.str [83, 117, 110]))]) E0 h fun v1 h =>
    (∃ v, some v1 = some v ∧ K v h))
theorem run_gatepostref02_short {L : FuncId → List V → V → Prop} {K : V → Heap → Prop} {h : Heap} (hp : p_gatepostref02_short L K  h) : Cf F L i_gatepostref02_short [] h K :=
  wcallp F_gatepostref02_short (show 0 ≤ 2 by decide) (p := p_gatepostref02_short L K  h) (by kernel_rfl) hp
def p_gatepostref02_two (L : FuncId → List V → V → Prop) (K : V → Heap → Prop) (a0 : V) (h : Heap) : Prop :=
    (wi F L (.bin .quo (.c a0) (.c (.int .i64 10))) E0 h fun v4 h' => Ext h h' ∧
    (wi F L (.bin .quo (.c a0) (.c (.int .i64 10))) E0 h' fun v6 h => Ext h' h ∧
    (wi F L (.bin .add (.c v6) (.c (.int .i64 1))) E0 h fun v7 h' => Ext h h' ∧
    (wi F L (.slstr (.c (.str [48, 49, 50, 51, 52, 53, 54, 55, 56, 57])) (some (.c v4)) (some (.c v7))) E0 h' fun v8 h => Ext h' h ∧
    (wi F L (.bin .rem (.c a0) (.c (.int .i64 10))) E0 h fun v10 h' => Ext h h' ∧
    (wi F L (.bin .rem (.c a0) (.c (.int .i64 10))) E0 h' fun v12 h => Ext h' h ∧
    (wi F L (.bin .add (.c v12) (.c (.int .i64 1))) E0 h fun v13 h' => Ext h h' ∧
    (wi F L (.slstr (.c (.str [48, 49, 50, 51, 52, 53, 54, 55, 56, 57])) (some (.c v10)) (some (.c v13))) E0 h' fun v14 h => Ext h' h ∧
    (wi F L (.bin .add (.c v8) (.c v14)) E0 h fun v15 h =>
    (∃ v, some v15 = some v ∧ K v h))))))))))
theorem run_gatepostref02_two {L : FuncId → List V → V → Prop} {K : V → Heap → Prop} {a0 : V} {h : Heap} (hp : p_gatepostref02_two L K a0 h) : Cf F L i_gatepostref02_two [a0] h K :=
  wcallp F_gatepostref02_two (show 1 ≤ 16 by decide) (p := p_gatepostref02_two L K a0 h) (by kernel_rfl) hp
def p_gatepostref02_months (L : FuncId → List V → V → Prop) (K : V → Heap → Prop) (h : Heap) : Prop :=
    (wi F L (.bsl 1 [(.c (.str [74, 97, 110])), (.c (.str [70, 101, 98])), (.c (.str [77, 97, 114])), (.c (.str [65, 112, 114])), (.c (.str [77, 97, 121])), (.c (.str [74, 117, 110])), (.c (.str [74, 117, 108])), (.c (.str [65, 117, 103])), (.c (.str [83, 101, 112])), (.c (.str [79, 99, 116])), (.c (.str [78, 111, 118])), (.c (.str [68, 101, 99]))]) E0 h fun v1 h =>
    (∃ v, some v1 = some v ∧ K v h))
theorem run_gatepostref02_months {L : FuncId → List V → V → Prop} {K : V → Heap → Prop} {h : Heap} (hp : p_gatepostref02_months L K  h) : Cf F L i_gatepostref02_months [] h K :=
  wcallp F_gatepostref02_months (show 0 ≤ 2 by decide) (p := p_gatepostref02_months L K  h) (by kernel_rfl) hp
def k_field_Get_0 (L : FuncId → List V → V → Prop) (K : V → Heap → Prop) (v6 : V) (h : Heap) : Prop :=
    (wi F L (.call i_strings_Join [(.c v6), (.c (.str [44, 32]))]) E0 h fun v26 h =>
    (wi F L (.len 1 (.c v6)) E0 h fun v28 h =>
    (∃ v, resultsV h (enterE [v26, v28]) [.tmp 0, .tmp 1] = some v ∧ K v h)))
def k_field_Get_2 (L : FuncId → List V → V → Prop) (K : V → Heap → Prop) (N0 : Env → Heap → Prop) (e : Env) (v11 : V) (h : Heap) : Prop :=
    (wi F L (.bin .add (.c v11) (.c (.int .i64 1))) E0 h fun v24 h =>
    (N0 (upd (upd e 24 v24) 11 v24) h))
def k_field_Get_1 (L : FuncId → List V → V → Prop) (K : V → Heap → Prop) (N0 : Env → Heap → Prop) (e : Env) (v1 v6 v9 v11 : V) (h : Heap) : Prop :=
    (wi F L (.ixaSl 2 (.c v9) (.c v11)) E0 h fun v13 h =>
    (wi F L (.load true 2 (.c v13)) E0 h fun v14 h =>
    (wi F L (.boxz [(.str []), (.str [])]) E0 h fun v8 h =>
    (wi F L (.store 2 (.c v8) (.c v14)) E0 h fun _ h =>
    (wi F L (.faddr 0 (.c v8)) E0 h fun v15 h =>
    (wi F L (.load false 1 (.c v15)) E0 h fun v16 h =>
    (wi F L (.call i_token_Same [(.c v16), (.c v1)]) E0 h fun v18 h =>
    (wb v18
    (wi F L (.faddr 1 (.c v8)) E0 h fun v20 h =>
    (wi F L (.load false 1 (.c v20)) E0 h fun v21 h =>
    (wi F L (.bsl 1 [(.c v21)]) E0 h fun v22 h =>
    (wi F L (.app 1 16 false (.c v6) (.c v22)) E0 h fun v23 h =>
    (k_field_Get_2 L K N0 (upd (upd (upd (upd (upd (upd (upd (upd (upd (upd (upd (upd (upd e 13 v13) 14 v14) 8 v8) 15 v15) 16 v16) 17 v1) 18 v18) 19 v6) 20 v20) 21 v21) 22 v22) 23 v23) 6 v23) v11 h)))))
    (k_field_Get_2 L K N0 (upd (upd (upd (upd (upd (upd (upd e 13 v13) 14 v14) 8 v8) 15 v15) 16 v16) 17 v1) 18 v18) v11 h)))))))))
def q_field_Get_0 (L : FuncId → List V → V → Prop) (K : V → Heap → Prop) : X → Env → Heap → Prop := (fun x => (seqX (fun e h => k_field_Get_0 L K (e 6) h) (retX c_field_Get.results K)) (X.out 0 x))
def lc_field_Get_0 : C :=
  (.seq (.region [⟨(some 12), none, .bin .lss (.t 11) (.t 10)⟩])
  (.seq (.cond (.t 12)
    .skip
    (.exit 0))
  (.seq (.block 1 (.seq (.region [⟨(some 13), none, .ixaSl 2 (.t 9) (.t 11)⟩, ⟨(some 14), none, .load true 2 (.t 13)⟩, ⟨(some 8), none, .boxz [(.str []), (.str [])]⟩, ⟨none, none, .store 2 (.t 8) (.t 14)⟩])
  (.seq (.region [⟨(some 15), none, .faddr 0 (.t 8)⟩, ⟨(some 16), none, .load false 1 (.t 15)⟩, ⟨(some 17), none, .mv (.t 1)⟩, ⟨(some 18), none, .call i_token_Same [(.t 16), (.t 17)]⟩])
  (.cond (.t 18)
    (.region [⟨(some 19), none, .mv (.t 6)⟩, ⟨(some 20), none, .faddr 1 (.t 8)⟩, ⟨(some 21), none, .load false 1 (.t 20)⟩, ⟨(some 22), none, .bsl 1 [(.t 21)]⟩, ⟨(some 23), none, .app 1 16 false (.t 19) (.t 22)⟩, ⟨(some 6), none, .mv (.t 23)⟩])
    .skip))))
  (.region [⟨(some 24), none, .bin .add (.t 11) (.c (.int .i64 1))⟩, ⟨(some 11), none, .mv (.t 24)⟩]))))
def b_field_Get_0 (L : FuncId → List V → V → Prop) (K : V → Heap → Prop) (N0 : Env → Heap → Prop) (e : Env) (h : Heap) : Prop :=
    (wi F L (.bin .lss (.c (e 11)) (.c (e 10))) E0 h fun v12 h =>
    (wb v12
    (k_field_Get_1 L K N0 (upd e 12 v12) (e 1) (e 6) (e 9) (e 11) h)
    (k_field_Get_0 L K (e 6) h)))
theorem l_field_Get_0 {L : FuncId → List V → V → Prop} {K : V → Heap → Prop} (I : Nat → Env → Heap → Prop) (hr : ∀ n e h, I n e h → b_field_Get_0 L K (fun e' h' => ∃ m, m < n ∧ I m e' h') e h) {n : Nat} {e : Env} {h : Heap} (hi : I n e h) : Wl F L lc_field_Get_0 (q_field_Get_0 L K) e h :=
  wloopp (b := b_field_Get_0 L K) I (fun _ _ _ => by kernel_rfl) hr hi
def p_field_Get (L : FuncId → List V → V → Prop) (K : V → Heap → Prop) (a0 a1 : V) (h : Heap) : Prop :=
    (wi F L (.len 1 (.c a0)) E0 h fun v10 h =>
    (Wl F L lc_field_Get_0 (q_field_Get_0 L K) (upd (upd (upd (upd (upd (upd (enterE [a0, a1]) 4 (.str [])) 5 (.int .i64 0)) 6 .nsl) 9 a0) 10 v10) 11 (.int .i64 0)) h))
theorem run_field_Get {L : FuncId → List V → V → Prop} {K : V → Heap → Prop} {a0 a1 : V} {h : Heap} (hp : p_field_Get L K a0 a1 h) : Cf F L i_field_Get [a0, a1] h K :=
  wcallp F_field_Get (show 2 ≤ 29 by decide) (p := p_field_Get L K a0 a1 h) (by kernel_rfl) hp
def k_validator_matches_0 (L : FuncId → List V → V → Prop) (K : V → Heap → Prop) (v0 v1 : V) (h : Heap) : Prop :=
    (wi F L (.call i_validator_Parse [(.c v1)]) E0 h fun v13 h =>
    (wi F L (.ext 0 (.c v13)) E0 h fun v14 h =>
    (wi F L (.ext 1 (.c v13)) E0 h fun v15 h =>
    (wi F L (.boxz [(.bool false), (.str [])]) E0 h fun v5 h =>
    (wi F L (.store 2 (.c v5) (.c v14)) E0 h fun _ h =>
    (wi F L (.call i_token_Split [(.c v0)]) E0 h fun v18 h =>
    (wi F L (.ext 0 (.c v18)) E0 h fun v19 h =>
    (wi F L (.ext 1 (.c v18)) E0 h fun v20 h =>
    (wg v15 true (wi F L (.mv (.c v20)) E0 h) h fun v23 h =>
    (wi F L (.pick (.c v15) (.c v23) (.c (.bool false))) E0 h fun v24 h =>
    (wg v24 true (wi F L (.mv (.c v19)) E0 h) h fun v26 h =>
    (wg v24 true (wi F L (.mkfn i_validator_matches_1 [(.c v5)]) E0 h) h fun v27 h =>
    (wg v24 true (wi F L (.call i_slices_ContainsFunc___string_string_ [(.c v26), (.c v27)]) E0 h) h fun v28 h =>
    (wi F L (.pick (.c v24) (.c v28) (.c (.bool false))) E0 h fun v29 h =>
    (∃ v, some v29 = some v ∧ K v h)))))))))))))))
def p_validator_matches (L : FuncId → List V → V → Prop) (K : V → Heap → Prop) (a0 a1 : V) (h : Heap) : Prop :=
    (wi F L (.bin .eql (.c a0) (.c (.str [42]))) E0 h fun v10 h =>
    (wb v10
    (∃ v, some (.bool true) = some v ∧ K v h)
    (k_validator_matches_0 L K a0 a1 h)))
theorem run_validator_matches {L : FuncId → List V → V → Prop} {K : V → Heap → Prop} {a0 a1 : V} {h : Heap} (hp : p_validator_matches L K a0 a1 h) : Cf F L i_validator_matches [a0, a1] h K :=
  wcallp F_validator_matches (show 2 ≤ 30 by decide) (p := p_validator_matches L K a0 a1 h) (by kernel_rfl) hp
def p_validator_one (L : FuncId → List V → V → Prop) (K : V → Heap → Prop) (a0 a1 : V) (h : Heap) : Prop :=
    (wi F L (.call i_field_Get [(.c a0), (.c a1)]) E0 h fun v11 h =>
    (wi F L (.ext 0 (.c v11)) E0 h fun v12 h =>
    (wi F L (.ext 1 (.c v11)) E0 h fun v13 h =>
    (wi F L (.bin .eql (.c v13) (.c (.int .i64 1))) E0 h fun v16 h =>
    (∃ v, resultsV h (enterE [v12, v16]) [.tmp 0, .tmp 1] = some v ∧ K v h)))))
theorem run_validator_one {L : FuncId → List V → V → Prop} {K : V → Heap → Prop} {a0 a1 : V} {h : Heap} (hp : p_validator_one L K a0 a1 h) : Cf F L i_validator_one [a0, a1] h K :=
  wcallp F_validator_one (show 2 ≤ 17 by decide) (p := p_validator_one L K a0 a1 h) (by kernel_rfl) hp
def k_date_Parse_0 (L : FuncId → List V → V → Prop) (K : V → Heap → Prop) (h : Heap) : Prop :=
    (∃ v, resultsV h (enterE [(.int .i64 0), (.bool false)]) [.tmp 0, .tmp 1] = some v ∧ K v h)
def k_date_Parse_2 (L : FuncId → List V → V → Prop) (K : V → Heap → Prop) (N0 : Env → Heap → Prop) (e : Env) (v9 : V) (h : Heap) : Prop :=
    (wi F L (.bin .add (.c v9) (.c (.int .i64 1))) E0 h fun v22 h =>
    (N0 (upd (upd e 22 v22) 9 v22) h))
def k_date_Parse_1 (L : FuncId → List V → V → Prop) (K : V → Heap → Prop) (N0 : Env → Heap → Prop) (e : Env) (v0 v8 v9 : V) (h : Heap) : Prop :=
    (wi F L (.ixArr 3 1 false (.c v8) (.c v9)) E0 h fun v11 h =>
    (wi F L (.build [(.str []), (.bool false)] [(0, 1, (.c v0)), (1, 1, (.c (.bool true)))]) E0 h fun v15 h =>
    (wi F L (.box (.c v15)) E0 h fun v16 h =>
    (wi F L (.callv (.c v11) [(.c v16)]) E0 h fun v17 h =>
    (wi F L (.ext 0 (.c v17)) E0 h fun v18 h =>
    (wi F L (.ext 1 (.c v17)) E0 h fun v19 h =>
    (wb v19
    (∃ v, resultsV h (enterE [v18, (.bool true)]) [.tmp 0, .tmp 1] = some v ∧ K v h)
    (k_date_Parse_2 L K N0 (upd (upd (upd (upd (upd (upd (upd (upd (upd (upd (upd (upd (upd e 11 v11) 5 v11) 13 v11) 14 v0) 15 v15) 16 v16) 17 v17) 12 v17) 18 v18) 19 v19) 6 v18) 7 v19) 20 v19) v9 h))))))))
def q_date_Parse_0 (L : FuncId → List V → V → Prop) (K : V → Heap → Prop) : X → Env → Heap → Prop := (fun x => (seqX (fun e h => k_date_Parse_0 L K  h) (retX c_date_Parse.results K)) (X.out 0 x))
def lc_date_Parse_0 : C :=
  (.seq (.region [⟨(some 10), none, .bin .lss (.t 9) (.c (.int .i64 3))⟩])
  (.seq (.cond (.t 10)
    .skip
    (.exit 0))
  (.seq (.block 1 (.seq (.region [⟨(some 11), none, .ixArr 3 1 false (.t 8) (.t 9)⟩, ⟨(some 5), none, .mv (.t 11)⟩])
  (.seq (.region [⟨(some 13), none, .mv (.t 5)⟩, ⟨(some 14), none, .mv (.t 0)⟩, ⟨(some 15), none, .build [(.str []), (.bool false)] [(0, 1, (.t 14)), (1, 1, (.c (.bool true)))]⟩, ⟨(some 16), none, .box (.t 15)⟩, ⟨(some 17), none, .callv (.t 13) [(.t 16)]⟩, ⟨(some 12), none, .mv (.t 17)⟩, ⟨(some 18), none, .ext 0 (.t 12)⟩, ⟨(some 19), none, .ext 1 (.t 12)⟩, ⟨(some 6), none, .mv (.t 18)⟩, ⟨(some 7), none, .mv (.t 19)⟩])
  (.seq (.region [⟨(some 20), none, .mv (.t 7)⟩])
  (.cond (.t 20)
    (.seq (.region [⟨(some 21), none, .mv (.t 6)⟩, ⟨(some 2), none, .mv (.t 21)⟩, ⟨(some 3), none, .mv (.c (.bool true))⟩])
    .ret)
    .skip)))))
  (.region [⟨(some 22), none, .bin .add (.t 9) (.c (.int .i64 1))⟩, ⟨(some 9), none, .mv (.t 22)⟩]))))
def b_date_Parse_0 (L : FuncId → List V → V → Prop) (K : V → Heap → Prop) (N0 : Env → Heap → Prop) (e : Env) (h : Heap) : Prop :=
    (wi F L (.bin .lss (.c (e 9)) (.c (.int .i64 3))) E0 h fun v10 h =>
    (wb v10
    (k_date_Parse_1 L K N0 (upd e 10 v10) (e 0) (e 8) (e 9) h)
    (k_date_Parse_0 L K  h)))
theorem l_date_Parse_0 {L : FuncId → List V → V → Prop} {K : V → Heap → Prop} (I : Nat → Env → Heap → Prop) (hr : ∀ n e h, I n e h → b_date_Parse_0 L K (fun e' h' => ∃ m, m < n ∧ I m e' h') e h) {n : Nat} {e : Env} {h : Heap} (hi : I n e h) : Wl F L lc_date_Parse_0 (q_date_Parse_0 L K) e h :=
  wloopp (b := b_date_Parse_0 L K) I (fun _ _ _ => by kernel_rfl) hr hi
def p_date_Parse (L : FuncId → List V → V → Prop) (K : V → Heap → Prop) (a0 : V) (h : Heap) : Prop :=
    (wi F L (.build [.nfn, .nfn, .nfn] [(0, 1, (.c (.fn i_date_fixed []))), (1, 1, (.c (.fn i_date_old []))), (2, 1, (.c (.fn i_date_plain [])))]) E0 h fun v8 h =>
    (Wl F L lc_date_Parse_0 (q_date_Parse_0 L K) (upd (upd (upd (upd (enterE [a0]) 2 (.int .i64 0)) 3 (.bool false)) 8 v8) 9 (.int .i64 0)) h))
theorem run_date_Parse {L : FuncId → List V → V → Prop} {K : V → Heap → Prop} {a0 : V} {h : Heap} (hp : p_date_Parse L K a0 h) : Cf F L i_date_Parse [a0] h K :=
  wcallp F_date_Parse (show 1 ≤ 23 by decide) (p := p_date_Parse L K a0 h) (by kernel_rfl) hp
def k_validator_Parse_1 (L : FuncId → List V → V → Prop) (K : V → Heap → Prop) (v2 v4 v5 : V) (h : Heap) : Prop :=
    (wi F L (.build [(.bool false), (.str [])] [(0, 1, (.c v4)), (1, 1, (.c v5))]) E0 h fun v58 h =>
    (wi F L (.store 2 (.c v2) (.c v58)) E0 h fun _ h =>
    (∃ v, resultsV h (enterE [v2, (.bool true)]) [.cell 0 true 2, .tmp 1] = some v ∧ K v h)))
def k_validator_Parse_3 (L : FuncId → List V → V → Prop) (K : V → Heap → Prop) (N0 : Env → Heap → Prop) (e : Env) (v34 : V) (h : Heap) : Prop :=
    (wi F L (.bin .add (.c v34) (.c (.int .i64 1))) E0 h fun v55 h =>
    (N0 (upd (upd e 55 v55) 34 v55) h))
def k_validator_Parse_2 (L : FuncId → List V → V → Prop) (K : V → Heap → Prop) (N0 : Env → Heap → Prop) (e : Env) (v2 v5 v34 : V) (h : Heap) : Prop :=
    (wi F L (.ixStr (.c v5) (.c v34)) E0 h fun v39 h =>
    (wi F L (.bin .leq (.c v39) (.c (.int .u8 32))) E0 h fun v41 h =>
    (wg v41 false (wi F L (.mv (.c v39)) E0 h) h fun v43 h =>
    (wg v41 false (wi F L (.bin .eql (.c v43) (.c (.int .u8 34))) E0 h) h fun v44 h =>
    (wi F L (.pick (.c v41) (.c (.bool true)) (.c v44)) E0 h fun v45 h =>
    (wg v45 false (wi F L (.mv (.c v39)) E0 h) h fun v47 h =>
    (wg v45 false (wi F L (.bin .eql (.c v47) (.c (.int .u8 92))) E0 h) h fun v48 h =>
    (wi F L (.pick (.c v45) (.c (.bool true)) (.c v48)) E0 h fun v49 h =>
    (wg v49 false (wi F L (.mv (.c v39)) E0 h) h fun v51 h =>
    (wg v49 false (wi F L (.bin .eql (.c v51) (.c (.int .u8 127))) E0 h) h fun v52 h =>
    (wi F L (.pick (.c v49) (.c (.bool true)) (.c v52)) E0 h fun v53 h =>
    (wb v53
    (wi F L (.build [(.bool false), (.str [])] []) E0 h fun v54 h =>
    (wi F L (.store 2 (.c v2) (.c v54)) E0 h fun _ h =>
    (∃ v, resultsV h (enterE [v2, (.bool false)]) [.cell 0 true 2, .tmp 1] = some v ∧ K v h)))
    (k_validator_Parse_3 L K N0 (upd (upd (upd (upd (upd (upd (upd (upd (upd (upd (upd (upd (upd (upd (upd (upd (upd (upd (upd (upd e 36 v34) 8 v34) 37 v5) 38 v34) 39 v39) 9 v39) 40 v39) 41 v41) 42 v41) 43 v43) 44 v44) 45 v45) 46 v45) 47 v47) 48 v48) 49 v49) 50 v49) 51 v51) 52 v52) 53 v53) v34 h)))))))))))))
def q_validator_Parse_0 (L : FuncId → List V → V → Prop) (K : V → Heap → Prop) : X → Env → Heap → Prop := (fun x => (seqX (fun e h => k_validator_Parse_1 L K (e 2) (e 4) (e 5) h) (retX c_validator_Parse.results K)) (X.out 0 x))
def lc_validator_Parse_0 : C :=
  (.seq (.region [⟨(some 35), none, .bin .lss (.t 34) (.t 33)⟩])
  (.seq (.cond (.t 35)
    .skip
    (.exit 0))
  (.seq (.block 1 (.seq (.region [⟨(some 36), none, .mv (.t 34)⟩, ⟨(some 8), none, .mv (.t 36)⟩])
  (.seq (.region [⟨(some 37), none, .mv (.t 5)⟩, ⟨(some 38), none, .mv (.t 8)⟩, ⟨(some 39), none, .ixStr (.t 37) (.t 38)⟩, ⟨(some 9), none, .mv (.t 39)⟩])
  (.seq (.region [⟨(some 40), none, .mv (.t 9)⟩, ⟨(some 41), none, .bin .leq (.t 40) (.c (.int .u8 32))⟩, ⟨(some 42), none, .mv (.t 41)⟩, ⟨(some 43), (some (42, false)), .mv (.t 9)⟩, ⟨(some 44), (some (42, false)), .bin .eql (.t 43) (.c (.int .u8 34))⟩, ⟨(some 45), none, .pick (.t 42) (.c (.bool true)) (.t 44)⟩, ⟨(some 46), none, .mv (.t 45)⟩, ⟨(some 47), (some (46, false)), .mv (.t 9)⟩, ⟨(some 48), (some (46, false)), .bin .eql (.t 47) (.c (.int .u8 92))⟩, ⟨(some 49), none, .pick (.t 46) (.c (.bool true)) (.t 48)⟩, ⟨(some 50), none, .mv (.t 49)⟩, ⟨(some 51), (some (50, false)), .mv (.t 9)⟩, ⟨(some 52), (some (50, false)), .bin .eql (.t 51) (.c (.int .u8 127))⟩, ⟨(some 53), none, .pick (.t 50) (.c (.bool true)) (.t 52)⟩])
  (.cond (.t 53)
    (.seq (.region [⟨(some 54), none, .build [(.bool false), (.str [])] []⟩, ⟨none, none, .store 2 (.t 2) (.t 54)⟩, ⟨(some 3), none, .mv (.c (.bool false))⟩])
    .ret)
    .skip)))))
  (.region [⟨(some 55), none, .bin .add (.t 34) (.c (.int .i64 1))⟩, ⟨(some 34), none, .mv (.t 55)⟩]))))
def b_validator_Parse_0 (L : FuncId → List V → V → Prop) (K : V → Heap → Prop) (N0 : Env → Heap → Prop) (e : Env) (h : Heap) : Prop :=
    (wi F L (.bin .lss (.c (e 34)) (.c (e 33))) E0 h fun v35 h =>
    (wb v35
    (k_validator_Parse_2 L K N0 (upd e 35 v35) (e 2) (e 5) (e 34) h)
    (k_validator_Parse_1 L K (e 2) (e 4) (e 5) h)))
theorem l_validator_Parse_0 {L : FuncId → List V → V → Prop} {K : V → Heap → Prop} (I : Nat → Env → Heap → Prop) (hr : ∀ n e h, I n e h → b_validator_Parse_0 L K (fun e' h' => ∃ m, m < n ∧ I m e' h') e h) {n : Nat} {e : Env} {h : Heap} (hi : I n e h) : Wl F L lc_validator_Parse_0 (q_validator_Parse_0 L K) e h :=
  wloopp (b := b_validator_Parse_0 L K) I (fun _ _ _ => by kernel_rfl) hr hi
def k_validator_Parse_0 (L : FuncId → List V → V → Prop) (K : V → Heap → Prop) (e : Env) (v5 : V) (h : Heap) : Prop :=
    (wi F L (.len 0 (.c v5)) E0 h fun v33 h =>
    (Wl F L lc_validator_Parse_0 (q_validator_Parse_0 L K) (upd (upd (upd e 32 v5) 33 v33) 34 (.int .i64 0)) h))
def p_validator_Parse (L : FuncId → List V → V → Prop) (K : V → Heap → Prop) (a0 : V) (h : Heap) : Prop :=
    (wi F L (.boxz [(.bool false), (.str [])]) E0 h fun v2 h =>
    (wi F L (.call i_strings_CutPrefix [(.c a0), (.c (.str [87, 47]))]) E0 h fun v12 h =>
    (wi F L (.ext 0 (.c v12)) E0 h fun v13 h =>
    (wi F L (.ext 1 (.c v12)) E0 h fun v14 h =>
    (wi F L (.call i_strings_CutPrefix [(.c v13), (.c (.str [34]))]) E0 h fun v17 h =>
    (wi F L (.ext 0 (.c v17)) E0 h fun v18 h =>
    (wi F L (.ext 1 (.c v17)) E0 h fun v19 h =>
    (wi F L (.call i_strings_CutSuffix [(.c v18), (.c (.str [34]))]) E0 h fun v22 h =>
    (wi F L (.ext 0 (.c v22)) E0 h fun v23 h =>
    (wi F L (.ext 1 (.c v22)) E0 h fun v24 h =>
    (wi F L (.un .not (.c v19)) E0 h fun v26 h =>
    (wg v26 false (wi F L (.mv (.c v24)) E0 h) h fun v28 h =>
    (wg v26 false (wi F L (.un .not (.c v28)) E0 h) h fun v29 h =>
    (wi F L (.pick (.c v26) (.c (.bool true)) (.c v29)) E0 h fun v30 h =>
    (wb v30
    (wi F L (.build [(.bool false), (.str [])] []) E0 h fun v31 h =>
    (wi F L (.store 2 (.c v2) (.c v31)) E0 h fun _ h =>
    (∃ v, resultsV h (enterE [v2, (.bool false)]) [.cell 0 true 2, .tmp 1] = some v ∧ K v h)))
    (k_validator_Parse_0 L K (upd (upd (upd (upd (upd (upd (upd (upd (upd (upd (upd (upd (upd (upd (upd (upd (upd (upd (upd (upd (upd (upd (upd (upd (upd (upd (upd (upd (upd (enterE [a0]) 2 v2) 3 (.bool false)) 11 a0) 12 v12) 10 v12) 13 v13) 14 v14) 0 v13) 4 v14) 16 v13) 17 v17) 15 v17) 18 v18) 19 v19) 5 v18) 6 v19) 21 v18) 22 v22) 20 v22) 23 v23) 24 v24) 5 v23) 7 v24) 25 v19) 26 v26) 27 v26) 28 v28) 29 v29) 30 v30) v23 h))))))))))))))))
theorem run_validator_Parse {L : FuncId → List V → V → Prop} {K : V → Heap → Prop} {a0 : V} {h : Heap} (hp : p_validator_Parse L K a0 h) : Cf F L i_validator_Parse [a0] h K :=
  wcallp F_validator_Parse (show 1 ≤ 59 by decide) (p := p_validator_Parse L K a0 h) (by kernel_rfl) hp
def p_validator_Strong (L : FuncId → List V → V → Prop) (K : V → Heap → Prop) (a0 a1 : V) (h : Heap) : Prop :=
    (wi F L (.box (.c a0)) E0 h fun v2 h =>
    (wi F L (.box (.c a1)) E0 h fun v3 h =>
    (wi F L (.load true 2 (.c v2)) E0 h fun v5 h =>
    (wi F L (.load true 2 (.c v3)) E0 h fun v6 h =>
    (wi F L (.eq (.agg [.b, .s]) false (.c v5) (.c v6)) E0 h fun v7 h =>
    (wg v7 true (wi F L (.faddr 0 (.c v2)) E0 h) h fun v9 h =>
    (wg v7 true (wi F L (.load false 1 (.c v9)) E0 h) h fun v10 h =>
    (wg v7 true (wi F L (.un .not (.c v10)) E0 h) h fun v11 h =>
    (wi F L (.pick (.c v7) (.c v11) (.c (.bool false))) E0 h fun v12 h =>
    (∃ v, some v12 = some v ∧ K v h))))))))))
theorem run_validator_Strong {L : FuncId → List V → V → Prop} {K : V → Heap → Prop} {a0 a1 : V} {h : Heap} (hp : p_validator_Strong L K a0 a1 h) : Cf F L i_validator_Strong [a0, a1] h K :=
  wcallp F_validator_Strong (show 2 ≤ 13 by decide) (p := p_validator_Strong L K a0 a1 h) (by kernel_rfl) hp
def k_gatepostref02_year_0 (L : FuncId → List V → V → Prop) (K : V → Heap → Prop) (h : Heap) : Prop :=
    (∃ v, some (.int .i64 365) = some v ∧ K v h)
def p_gatepostref02_year (L : FuncId → List V → V → Prop) (K : V → Heap → Prop) (a0 : V) (h : Heap) : Prop :=
    (wi F L (.call i_gatepostref02_leap [(.c a0)]) E0 h fun v4 h =>
    (wb v4
    (∃ v, some (.int .i64 366) = some v ∧ K v h)
    (k_gatepostref02_year_0 L K  h)))
theorem run_gatepostref02_year {L : FuncId → List V → V → Prop} {K : V → Heap → Prop} {a0 : V} {h : Heap} (hp : p_gatepostref02_year L K a0 h) : Cf F L i_gatepostref02_year [a0] h K :=
  wcallp F_gatepostref02_year (show 1 ≤ 5 by decide) (p := p_gatepostref02_year L K a0 h) (by kernel_rfl) hp
def k_gatepostref02_long_0 (L : FuncId → List V → V → Prop) (K : V → Heap → Prop) (h : Heap) : Prop :=
    (∃ v, some (.int .i64 31) = some v ∧ K v h)
def k_gatepostref02_long_1 (L : FuncId → List V → V → Prop) (K : V → Heap → Prop) (h : Heap) : Prop :=
    (∃ v, some (.int .i64 28) = some v ∧ K v h)
def k_gatepostref02_long_2 (L : FuncId → List V → V → Prop) (K : V → Heap → Prop) (v10 : V) (h : Heap) : Prop :=
    (wb v10
    (∃ v, some (.int .i64 30) = some v ∧ K v h)
    (k_gatepostref02_long_0 L K  h))
def p_gatepostref02_long (L : FuncId → List V → V → Prop) (K : V → Heap → Prop) (a0 a1 : V) (h : Heap) : Prop :=
    (wi F L (.bin .eql (.c a1) (.c (.int .i64 2))) E0 h fun v7 h =>
    (wb v7
    (wi F L (.call i_gatepostref02_leap [(.c a0)]) E0 h fun v9 h =>
    (wb v9
    (∃ v, some (.int .i64 29) = some v ∧ K v h)
    (k_gatepostref02_long_1 L K  h)))
    (wi F L (.bin .eql (.c a1) (.c (.int .i64 4))) E0 h fun v11 h =>
    (wb v11
    (k_gatepostref02_long_2 L K v11 h)
    (wi F L (.bin .eql (.c a1) (.c (.int .i64 6))) E0 h fun v12 h =>
    (wb v12
    (k_gatepostref02_long_2 L K v12 h)
    (wi F L (.bin .eql (.c a1) (.c (.int .i64 9))) E0 h fun v13 h =>
    (wb v13
    (k_gatepostref02_long_2 L K v13 h)
    (wi F L (.bin .eql (.c a1) (.c (.int .i64 11))) E0 h fun v14 h =>
    (k_gatepostref02_long_2 L K v14 h))))))))))
theorem run_gatepostref02_long {L : FuncId → List V → V → Prop} {K : V → Heap → Prop} {a0 a1 : V} {h : Heap} (hp : p_gatepostref02_long L K a0 a1 h) : Cf F L i_gatepostref02_long [a0, a1] h K :=
  wcallp F_gatepostref02_long (show 2 ≤ 15 by decide) (p := p_gatepostref02_long L K a0 a1 h) (by kernel_rfl) hp
def p_token_Same (L : FuncId → List V → V → Prop) (K : V → Heap → Prop) (a0 a1 : V) (h : Heap) : Prop :=
    (wi F L (.len 0 (.c a0)) E0 h fun v6 h =>
    (wi F L (.len 0 (.c a1)) E0 h fun v8 h =>
    (wi F L (.bin .eql (.c v6) (.c v8)) E0 h fun v9 h =>
    (wg v9 true (wi F L (.mv (.c a0)) E0 h) h fun v11 h =>
    (wg v9 true (wi F L (.call i_token_Lower [(.c v11)]) E0 h) h fun v12 h =>
    (wg v9 true (wi F L (.mv (.c a1)) E0 h) h fun v13 h =>
    (wg v9 true (wi F L (.call i_token_Lower [(.c v13)]) E0 h) h fun v14 h =>
    (wg v9 true (wi F L (.bin .eql (.c v12) (.c v14)) E0 h) h fun v15 h =>
    (wi F L (.pick (.c v9) (.c v15) (.c (.bool false))) E0 h fun v16 h =>
    (∃ v, some v16 = some v ∧ K v h))))))))))
theorem run_token_Same {L : FuncId → List V → V → Prop} {K : V → Heap → Prop} {a0 a1 : V} {h : Heap} (hp : p_token_Same L K a0 a1 h) : Cf F L i_token_Same [a0, a1] h K :=
  wcallp F_token_Same (show 2 ≤ 17 by decide) (p := p_token_Same L K a0 a1 h) (by kernel_rfl) hp
def k_token_Split_1 (L : FuncId → List V → V → Prop) (K : V → Heap → Prop) (v1 v4 v6 : V) (h : Heap) : Prop :=
    (wi F L (.load false 1 (.c v1)) E0 h fun v45 h =>
    (wi F L (.len 0 (.c v45)) E0 h fun v46 h =>
    (wi F L (.callv (.c v6) [(.c v46)]) E0 h fun v47 h =>
    (wi F L (.load false 1 (.c v4)) E0 h fun v48 h =>
    (wi F L (.load false 1 (.c v4)) E0 h fun v49 h =>
    (wi F L (.len 1 (.c v49)) E0 h fun v50 h =>
    (wi F L (.load false 1 (.c v4)) E0 h fun v51 h =>
    (wi F L (.len 1 (.c v51)) E0 h fun v52 h =>
    (wi F L (.slsl 1 (.c v48) none (some (.c v50)) (some (.c v52))) E0 h fun v53 h =>
    (∃ v, resultsV h (enterE [v53, (.bool true)]) [.tmp 0, .tmp 1] = some v ∧ K v h))))))))))
def k_token_Split_0 (L : FuncId → List V → V → Prop) (K : V → Heap → Prop) (v1 v4 v6 v7 : V) (h : Heap) : Prop :=
    (wb v7
    (∃ v, resultsV h (enterE [.nsl, (.bool false)]) [.tmp 0, .tmp 1] = some v ∧ K v h)
    (k_token_Split_1 L K v1 v4 v6 h))
def k_token_Split_3 (L : FuncId → List V → V → Prop) (K : V → Heap → Prop) (N0 : Env → Heap → Prop) (e : Env) (v8 : V) (h : Heap) : Prop :=
    (wi F L (.bin .add (.c v8) (.c (.int .i64 1))) E0 h fun v16 h =>
    (N0 (upd (upd (upd e 15 v8) 16 v16) 8 v16) h))
def k_token_Split_2 (L : FuncId → List V → V → Prop) (K : V → Heap → Prop) (N0 : Env → Heap → Prop) (e : Env) (v1 v6 v7 v8 : V) (h : Heap) : Prop :=
    (wi F L (.load false 1 (.c v1)) E0 h fun v17 h =>
    (wi F L (.ixStr (.c v17) (.c v8)) E0 h fun v19 h =>
    (wi F L (.bin .eql (.c v19) (.c (.int .u8 34))) E0 h fun v22 h =>
    (wb v22
    (wi F L (.un .not (.c v7)) E0 h fun v24 h =>
    (k_token_Split_3 L K N0 (upd (upd (upd (upd (upd (upd (upd (upd (upd (upd e 17 v17) 18 v8) 19 v19) 9 v19) 21 v19) 22 v22) 20 v22) 23 v7) 24 v24) 7 v24) v8 h))
    (wg v7 true (wi F L (.mv (.c v19)) E0 h) h fun v28 h =>
    (wg v7 true (wi F L (.bin .eql (.c v28) (.c (.int .u8 92))) E0 h) h fun v29 h =>
    (wi F L (.pick (.c v7) (.c v29) (.c (.bool false))) E0 h fun v30 h =>
    (wb v30
    (wi F L (.bin .add (.c v8) (.c (.int .i64 1))) E0 h fun v32 h =>
    (k_token_Split_3 L K N0 (upd (upd (upd (upd (upd (upd (upd (upd (upd (upd (upd (upd (upd (upd (upd (upd e 17 v17) 18 v8) 19 v19) 9 v19) 21 v19) 22 v22) 20 v22) 26 v7) 27 v7) 28 v28) 29 v29) 30 v30) 25 v30) 31 v8) 32 v32) 8 v32) v32 h))
    (wi F L (.un .not (.c v7)) E0 h fun v35 h =>
    (wg v35 true (wi F L (.mv (.c v19)) E0 h) h fun v37 h =>
    (wg v35 true (wi F L (.bin .eql (.c v37) (.c (.int .u8 44))) E0 h) h fun v38 h =>
    (wi F L (.pick (.c v35) (.c v38) (.c (.bool false))) E0 h fun v39 h =>
    (wb v39
    (wi F L (.callv (.c v6) [(.c v8)]) E0 h fun v42 h =>
    (k_token_Split_3 L K N0 (upd (upd (upd (upd (upd (upd (upd (upd (upd (upd (upd (upd (upd (upd (upd (upd (upd (upd (upd (upd (upd (upd (upd e 17 v17) 18 v8) 19 v19) 9 v19) 21 v19) 22 v22) 20 v22) 26 v7) 27 v7) 28 v28) 29 v29) 30 v30) 25 v30) 34 v7) 35 v35) 36 v35) 37 v37) 38 v38) 39 v39) 33 v39) 40 v6) 41 v8) 42 v42) v8 h))
    (k_token_Split_3 L K N0 (upd (upd (upd (upd (upd (upd (upd (upd (upd (upd (upd (upd (upd (upd (upd (upd (upd (upd (upd (upd e 17 v17) 18 v8) 19 v19) 9 v19) 21 v19) 22 v22) 20 v22) 26 v7) 27 v7) 28 v28) 29 v29) 30 v30) 25 v30) 34 v7) 35 v35) 36 v35) 37 v37) 38 v38) 39 v39) 33 v39) v8 h))))))))))))))
def q_token_Split_0 (L : FuncId → List V → V → Prop) (K : V → Heap → Prop) : X → Env → Heap → Prop := (fun x => (seqX (fun e h => k_token_Split_0 L K (e 1) (e 4) (e 6) (e 7) h) (retX c_token_Split.results K)) (X.out 0 x))
def lc_token_Split_0 : C :=
  (.seq (.seq (.region [⟨(some 11), none, .mv (.t 8)⟩, ⟨(some 12), none, .load false 1 (.t 1)⟩, ⟨(some 13), none, .len 0 (.t 12)⟩, ⟨(some 14), none, .bin .lss (.t 11) (.t 13)⟩])
  (.cond (.t 14)
    .skip
    (.exit 0)))
  (.seq (.block 1 (.seq (.region [⟨(some 17), none, .load false 1 (.t 1)⟩, ⟨(some 18), none, .mv (.t 8)⟩, ⟨(some 19), none, .ixStr (.t 17) (.t 18)⟩, ⟨(some 9), none, .mv (.t 19)⟩])
  (.block 2 (.seq (.region [⟨(some 21), none, .mv (.t 9)⟩, ⟨(some 22), none, .bin .eql (.t 21) (.c (.int .u8 34))⟩, ⟨(some 20), none, .mv (.t 22)⟩])
  (.cond (.t 20)
    (.region [⟨(some 23), none, .mv (.t 7)⟩, ⟨(some 24), none, .un .not (.t 23)⟩, ⟨(some 7), none, .mv (.t 24)⟩])
    (.seq (.region [⟨(some 26), none, .mv (.t 7)⟩, ⟨(some 27), none, .mv (.t 26)⟩, ⟨(some 28), (some (27, true)), .mv (.t 9)⟩, ⟨(some 29), (some (27, true)), .bin .eql (.t 28) (.c (.int .u8 92))⟩, ⟨(some 30), none, .pick (.t 27) (.t 29) (.c (.bool false))⟩, ⟨(some 25), none, .mv (.t 30)⟩])
    (.cond (.t 25)
      (.region [⟨(some 31), none, .mv (.t 8)⟩, ⟨(some 32), none, .bin .add (.t 31) (.c (.int .i64 1))⟩, ⟨(some 8), none, .mv (.t 32)⟩])
      (.seq (.region [⟨(some 34), none, .mv (.t 7)⟩, ⟨(some 35), none, .un .not (.t 34)⟩, ⟨(some 36), none, .mv (.t 35)⟩, ⟨(some 37), (some (36, true)), .mv (.t 9)⟩, ⟨(some 38), (some (36, true)), .bin .eql (.t 37) (.c (.int .u8 44))⟩, ⟨(some 39), none, .pick (.t 36) (.t 38) (.c (.bool false))⟩, ⟨(some 33), none, .mv (.t 39)⟩])
      (.cond (.t 33)
        (.region [⟨(some 40), none, .mv (.t 6)⟩, ⟨(some 41), none, .mv (.t 8)⟩, ⟨(some 42), none, .callv (.t 40) [(.t 41)]⟩])
        .skip)))))))))
  (.region [⟨(some 15), none, .mv (.t 8)⟩, ⟨(some 16), none, .bin .add (.t 15) (.c (.int .i64 1))⟩, ⟨(some 8), none, .mv (.t 16)⟩])))
def b_token_Split_0 (L : FuncId → List V → V → Prop) (K : V → Heap → Prop) (N0 : Env → Heap → Prop) (e : Env) (h : Heap) : Prop :=
    (wi F L (.load false 1 (.c (e 1))) E0 h fun v12 h =>
    (wi F L (.len 0 (.c v12)) E0 h fun v13 h =>
    (wi F L (.bin .lss (.c (e 8)) (.c v13)) E0 h fun v14 h =>
    (wb v14
    (k_token_Split_2 L K N0 (upd (upd (upd (upd e 11 (e 8)) 12 v12) 13 v13) 14 v14) (e 1) (e 6) (e 7) (e 8) h)
    (k_token_Split_0 L K (e 1) (e 4) (e 6) (e 7) h)))))
theorem l_token_Split_0 {L : FuncId → List V → V → Prop} {K : V → Heap → Prop} (I : Nat → Env → Heap → Prop) (hr : ∀ n e h, I n e h → b_token_Split_0 L K (fun e' h' => ∃ m, m < n ∧ I m e' h') e h) {n : Nat} {e : Env} {h : Heap} (hi : I n e h) : Wl F L lc_token_Split_0 (q_token_Split_0 L K) e h :=
  wloopp (b := b_token_Split_0 L K) I (fun _ _ _ => by kernel_rfl) hr hi
def p_token_Split (L : FuncId → List V → V → Prop) (K : V → Heap → Prop) (a0 : V) (h : Heap) : Prop :=
    (wi F L (.box (.c a0)) E0 h fun v1 h =>
    (wi F L (.boxz [.nsl]) E0 h fun v4 h =>
    (wi F L (.boxz [(.int .i64 0)]) E0 h fun v5 h =>
    (wi F L (.store 1 (.c v5) (.c (.int .i64 0))) E0 h fun _ h =>
    (wi F L (.mkfn i_token_Split_1 [(.c v1), (.c v5), (.c v4)]) E0 h fun v10 h =>
    (Wl F L lc_token_Split_0 (q_token_Split_0 L K) (upd (upd (upd (upd (upd (upd (upd (upd (upd (enterE [a0]) 1 v1) 2 .nsl) 3 (.bool false)) 4 v4) 5 v5) 10 v10) 6 v10) 7 (.bool false)) 8 (.int .i64 0)) h))))))
theorem run_token_Split {L : FuncId → List V → V → Prop} {K : V → Heap → Prop} {a0 : V} {h : Heap} (hp : p_token_Split L K a0 h) : Cf F L i_token_Split [a0] h K :=
  wcallp F_token_Split (show 1 ≤ 54 by decide) (p := p_token_Split L K a0 h) (by kernel_rfl) hp
def p_slices_ContainsFunc___string_string_ (L : FuncId → List V → V → Prop) (K : V → Heap → Prop) (a0 a1 : V) (h : Heap) : Prop :=
    (wi F L (.call i_slices_IndexFunc___string_string_ [(.c a0), (.c a1)]) E0 h fun v7 h =>
    (wi F L (.bin .geq (.c v7) (.c (.int .i64 0))) E0 h fun v8 h =>
    (∃ v, some v8 = some v ∧ K v h)))
theorem run_slices_ContainsFunc___string_string_ {L : FuncId → List V → V → Prop} {K : V → Heap → Prop} {a0 a1 : V} {h : Heap} (hp : p_slices_ContainsFunc___string_string_ L K a0 a1 h) : Cf F L i_slices_ContainsFunc___string_string_ [a0, a1] h K :=
  wcallp F_slices_ContainsFunc___string_string_ (show 2 ≤ 9 by decide) (p := p_slices_ContainsFunc___string_string_ L K a0 a1 h) (by kernel_rfl) hp
def p_validator_matches_1 (L : FuncId → List V → V → Prop) (K : V → Heap → Prop) (a0 a1 : V) (h : Heap) : Prop :=
    (wi F L (.call i_validator_Parse [(.c a0)]) E0 h fun v8 h =>
    (wi F L (.ext 0 (.c v8)) E0 h fun v9 h =>
    (wi F L (.ext 1 (.c v8)) E0 h fun v10 h =>
    (wi F L (.boxz [(.bool false), (.str [])]) E0 h fun v4 h =>
    (wi F L (.store 2 (.c v4) (.c v9)) E0 h fun _ h =>
    (wg v10 true (wi F L (.load true 2 (.c v4)) E0 h) h fun v13 h =>
    (wg v10 true (wi F L (.load true 2 (.c a1)) E0 h) h fun v14 h =>
    (wg v10 true (wi F L (.call i_validator_Weak [(.c v13), (.c v14)]) E0 h) h fun v15 h =>
    (wi F L (.pick (.c v10) (.c v15) (.c (.bool false))) E0 h fun v16 h =>
    (∃ v, some v16 = some v ∧ K v h))))))))))
theorem run_validator_matches_1 {L : FuncId → List V → V → Prop} {K : V → Heap → Prop} {a0 a1 : V} {h : Heap} (hp : p_validator_matches_1 L K a0 a1 h) : Cf F L i_validator_matches_1 [a0, a1] h K :=
  wcallp F_validator_matches_1 (show 2 ≤ 17 by decide) (p := p_validator_matches_1 L K a0 a1 h) (by kernel_rfl) hp
def p_validator_Weak (L : FuncId → List V → V → Prop) (K : V → Heap → Prop) (a0 a1 : V) (h : Heap) : Prop :=
    (wi F L (.box (.c a0)) E0 h fun v2 h =>
    (wi F L (.box (.c a1)) E0 h fun v3 h =>
    (wi F L (.faddr 1 (.c v2)) E0 h fun v5 h =>
    (wi F L (.load false 1 (.c v5)) E0 h fun v6 h =>
    (wi F L (.faddr 1 (.c v3)) E0 h fun v7 h =>
    (wi F L (.load false 1 (.c v7)) E0 h fun v8 h =>
    (wi F L (.bin .eql (.c v6) (.c v8)) E0 h fun v9 h =>
    (∃ v, some v9 = some v ∧ K v h))))))))
theorem run_validator_Weak {L : FuncId → List V → V → Prop} {K : V → Heap → Prop} {a0 a1 : V} {h : Heap} (hp : p_validator_Weak L K a0 a1 h) : Cf F L i_validator_Weak [a0, a1] h K :=
  wcallp F_validator_Weak (show 2 ≤ 10 by decide) (p := p_validator_Weak L K a0 a1 h) (by kernel_rfl) hp
def p_date_fixed (L : FuncId → List V → V → Prop) (K : V → Heap → Prop) (a0 : V) (h : Heap) : Prop :=
    (wi F L (.call i___gatepost_date_reader__day [(.c a0), (.c (.bool false))]) E0 h fun v10 h =>
    (wi F L (.call i___gatepost_date_reader__need [(.c a0), (.c (.str [44, 32]))]) E0 h fun v12 h =>
    (wi F L (.call i___gatepost_date_reader__number [(.c a0), (.c (.int .i64 2))]) E0 h fun v14 h =>
    (wi F L (.call i___gatepost_date_reader__need [(.c a0), (.c (.str [32]))]) E0 h fun v16 h =>
    (wi F L (.call i___gatepost_date_reader__month [(.c a0)]) E0 h fun v18 h =>
    (wi F L (.call i___gatepost_date_reader__need [(.c a0), (.c (.str [32]))]) E0 h fun v20 h =>
    (wi F L (.call i___gatepost_date_reader__number [(.c a0), (.c (.int .i64 4))]) E0 h fun v22 h =>
    (wi F L (.call i___gatepost_date_reader__need [(.c a0), (.c (.str [32]))]) E0 h fun v24 h =>
    (wi F L (.call i___gatepost_date_reader__clock [(.c a0)]) E0 h fun v26 h =>
    (wi F L (.call i___gatepost_date_reader__need [(.c a0), (.c (.str [32, 71, 77, 84]))]) E0 h fun v28 h =>
    (wi F L (.call i___gatepost_date_reader__second [(.c a0), (.c v10), (.c v22), (.c v18), (.c v14), (.c v26)]) E0 h fun v35 h =>
    (wi F L (.ext 0 (.c v35)) E0 h fun v36 h =>
    (wi F L (.ext 1 (.c v35)) E0 h fun v37 h =>
    (∃ v, resultsV h (enterE [v36, v37]) [.tmp 0, .tmp 1] = some v ∧ K v h))))))))))))))
theorem run_date_fixed {L : FuncId → List V → V → Prop} {K : V → Heap → Prop} {a0 : V} {h : Heap} (hp : p_date_fixed L K a0 h) : Cf F L i_date_fixed [a0] h K :=
  wcallp F_date_fixed (show 1 ≤ 38 by decide) (p := p_date_fixed L K a0 h) (by kernel_rfl) hp
def k_date_old_0 (L : FuncId → List V → V → Prop) (K : V → Heap → Prop) (v0 v4 v5 v6 v7 v8 : V) (h : Heap) : Prop :=
    (wi F L (.call i___gatepost_date_reader__second [(.c v0), (.c v4), (.c v7), (.c v6), (.c v5), (.c v8)]) E0 h fun v41 h =>
    (wi F L (.ext 0 (.c v41)) E0 h fun v42 h =>
    (wi F L (.ext 1 (.c v41)) E0 h fun v43 h =>
    (∃ v, resultsV h (enterE [v42, v43]) [.tmp 0, .tmp 1] = some v ∧ K v h))))
def p_date_old (L : FuncId → List V → V → Prop) (K : V → Heap → Prop) (a0 : V) (h : Heap) : Prop :=
    (wi F L (.call i___gatepost_date_reader__day [(.c a0), (.c (.bool true))]) E0 h fun v10 h =>
    (wi F L (.call i___gatepost_date_reader__need [(.c a0), (.c (.str [44, 32]))]) E0 h fun v12 h =>
    (wi F L (.call i___gatepost_date_reader__number [(.c a0), (.c (.int .i64 2))]) E0 h fun v14 h =>
    (wi F L (.call i___gatepost_date_reader__need [(.c a0), (.c (.str [45]))]) E0 h fun v16 h =>
    (wi F L (.call i___gatepost_date_reader__month [(.c a0)]) E0 h fun v18 h =>
    (wi F L (.call i___gatepost_date_reader__need [(.c a0), (.c (.str [45]))]) E0 h fun v20 h =>
    (wi F L (.call i___gatepost_date_reader__number [(.c a0), (.c (.int .i64 2))]) E0 h fun v22 h =>
    (wi F L (.call i___gatepost_date_reader__need [(.c a0), (.c (.str [32]))]) E0 h fun v24 h =>
    (wi F L (.call i___gatepost_date_reader__clock [(.c a0)]) E0 h fun v26 h =>
    (wi F L (.call i___gatepost_date_reader__need [(.c a0), (.c (.str [32, 71, 77, 84]))]) E0 h fun v28 h =>
    (wi F L (.bin .geq (.c v22) (.c (.int .i64 70))) E0 h fun v30 h =>
    (wb v30
    (wi F L (.bin .add (.c v22) (.c (.int .i64 1900))) E0 h fun v32 h =>
    (k_date_old_0 L K a0 v10 v14 v18 v32 v26 h))
    (wi F L (.bin .add (.c v22) (.c (.int .i64 2000))) E0 h fun v34 h =>
    (k_date_old_0 L K a0 v10 v14 v18 v34 v26 h))))))))))))))
theorem run_date_old {L : FuncId → List V → V → Prop} {K : V → Heap → Prop} {a0 : V} {h : Heap} (hp : p_date_old L K a0 h) : Cf F L i_date_old [a0] h K :=
  wcallp F_date_old (show 1 ≤ 44 by decide) (p := p_date_old L K a0 h) (by kernel_rfl) hp
def k_date_plain_0 (L : FuncId → List V → V → Prop) (K : V → Heap → Prop) (v0 v4 v5 v6 : V) (h : Heap) : Prop :=
    (wi F L (.call i___gatepost_date_reader__number [(.c v0), (.c v6)]) E0 h fun v36 h =>
    (wi F L (.call i___gatepost_date_reader__need [(.c v0), (.c (.str [32]))]) E0 h fun v38 h =>
    (wi F L (.call i___gatepost_date_reader__clock [(.c v0)]) E0 h fun v40 h =>
    (wi F L (.call i___gatepost_date_reader__need [(.c v0), (.c (.str [32]))]) E0 h fun v42 h =>
    (wi F L (.call i___gatepost_date_reader__number [(.c v0), (.c (.int .i64 4))]) E0 h fun v44 h =>
    (wi F L (.call i___gatepost_date_reader__second [(.c v0), (.c v4), (.c v44), (.c v5), (.c v36), (.c v40)]) E0 h fun v51 h =>
    (wi F L (.ext 0 (.c v51)) E0 h fun v52 h =>
    (wi F L (.ext 1 (.c v51)) E0 h fun v53 h =>
    (∃ v, resultsV h (enterE [v52, v53]) [.tmp 0, .tmp 1] = some v ∧ K v h)))))))))
def p_date_plain (L : FuncId → List V → V → Prop) (K : V → Heap → Prop) (a0 : V) (h : Heap) : Prop :=
    (wi F L (.call i___gatepost_date_reader__day [(.c a0), (.c (.bool false))]) E0 h fun v11 h =>
    (wi F L (.call i___gatepost_date_reader__need [(.c a0), (.c (.str [32]))]) E0 h fun v13 h =>
    (wi F L (.call i___gatepost_date_reader__month [(.c a0)]) E0 h fun v15 h =>
    (wi F L (.call i___gatepost_date_reader__need [(.c a0), (.c (.str [32]))]) E0 h fun v17 h =>
    (wi F L (.nilck (.c a0)) E0 h fun v19 h =>
    (wi F L (.faddr 0 (.c v19)) E0 h fun v20 h =>
    (wi F L (.load false 1 (.c v20)) E0 h fun v21 h =>
    (wi F L (.len 0 (.c v21)) E0 h fun v22 h =>
    (wi F L (.bin .gtr (.c v22) (.c (.int .i64 0))) E0 h fun v23 h =>
    (wg v23 true (wi F L (.mv (.c a0)) E0 h) h fun v25 h =>
    (wg v23 true (wi F L (.nilck (.c v25)) E0 h) h fun v26 h =>
    (wg v23 true (wi F L (.faddr 0 (.c v26)) E0 h) h fun v27 h =>
    (wg v23 true (wi F L (.load false 1 (.c v27)) E0 h) h fun v28 h =>
    (wg v23 true (wi F L (.ixStr (.c v28) (.c (.int .i64 0))) E0 h) h fun v29 h =>
    (wg v23 true (wi F L (.bin .eql (.c v29) (.c (.int .u8 32))) E0 h) h fun v30 h =>
    (wi F L (.pick (.c v23) (.c v30) (.c (.bool false))) E0 h fun v31 h =>
    (wb v31
    (wi F L (.call i___gatepost_date_reader__take [(.c a0), (.c (.int .i64 1))]) E0 h fun v33 h =>
    (k_date_plain_0 L K a0 v11 v15 (.int .i64 1) h))
    (k_date_plain_0 L K a0 v11 v15 (.int .i64 2) h))))))))))))))))))
theorem run_date_plain {L : FuncId → List V → V → Prop} {K : V → Heap → Prop} {a0 : V} {h : Heap} (hp : p_date_plain L K a0 h) : Cf F L i_date_plain [a0] h K :=
  wcallp F_date_plain (show 1 ≤ 54 by decide) (p := p_date_plain L K a0 h) (by kernel_rfl) hp
def p_strings_CutPrefix (L : FuncId → List V → V → Prop) (K : V → Heap → Prop) (a0 a1 : V) (h : Heap) : Prop :=
    (wi F L (.call i_internal_stringslite_CutPrefix [(.c a0), (.c a1)]) E0 h fun v8 h =>
    (wi F L (.ext 0 (.c v8)) E0 h fun v9 h =>
    (wi F L (.ext 1 (.c v8)) E0 h fun v10 h =>
    (∃ v, resultsV h (enterE [v9, v10]) [.tmp 0, .tmp 1] = some v ∧ K v h))))
theorem run_strings_CutPrefix {L : FuncId → List V → V → Prop} {K : V → Heap → Prop} {a0 a1 : V} {h : Heap} (hp : p_strings_CutPrefix L K a0 a1 h) : Cf F L i_strings_CutPrefix [a0, a1] h K :=
  wcallp F_strings_CutPrefix (show 2 ≤ 11 by decide) (p := p_strings_CutPrefix L K a0 a1 h) (by kernel_rfl) hp
def p_strings_CutSuffix (L : FuncId → List V → V → Prop) (K : V → Heap → Prop) (a0 a1 : V) (h : Heap) : Prop :=
    (wi F L (.call i_internal_stringslite_CutSuffix [(.c a0), (.c a1)]) E0 h fun v8 h =>
    (wi F L (.ext 0 (.c v8)) E0 h fun v9 h =>
    (wi F L (.ext 1 (.c v8)) E0 h fun v10 h =>
    (∃ v, resultsV h (enterE [v9, v10]) [.tmp 0, .tmp 1] = some v ∧ K v h))))
theorem run_strings_CutSuffix {L : FuncId → List V → V → Prop} {K : V → Heap → Prop} {a0 a1 : V} {h : Heap} (hp : p_strings_CutSuffix L K a0 a1 h) : Cf F L i_strings_CutSuffix [a0, a1] h K :=
  wcallp F_strings_CutSuffix (show 2 ≤ 11 by decide) (p := p_strings_CutSuffix L K a0 a1 h) (by kernel_rfl) hp
def p_gatepostref02_leap (L : FuncId → List V → V → Prop) (K : V → Heap → Prop) (a0 : V) (h : Heap) : Prop :=
    (wi F L (.bin .rem (.c a0) (.c (.int .i64 4))) E0 h fun v4 h =>
    (wi F L (.bin .eql (.c v4) (.c (.int .i64 0))) E0 h fun v5 h =>
    (wg v5 true (wi F L (.mv (.c a0)) E0 h) h fun v7 h =>
    (wg v5 true (wi F L (.bin .rem (.c v7) (.c (.int .i64 100))) E0 h) h fun v8 h =>
    (wg v5 true (wi F L (.bin .neq (.c v8) (.c (.int .i64 0))) E0 h) h fun v9 h =>
    (wg v5 true (wi F L (.mv (.c v9)) E0 h) h fun v10 h =>
    (wg v10 false (wi F L (.mv (.c a0)) E0 h) h fun v11 h =>
    (wg v10 false (wi F L (.bin .rem (.c v11) (.c (.int .i64 400))) E0 h) h fun v12 h =>
    (wg v10 false (wi F L (.bin .eql (.c v12) (.c (.int .i64 0))) E0 h) h fun v13 h =>
    (wg v5 true (wi F L (.pick (.c v10) (.c (.bool true)) (.c v13)) E0 h) h fun v14 h =>
    (wi F L (.pick (.c v5) (.c v14) (.c (.bool false))) E0 h fun v15 h =>
    (∃ v, some v15 = some v ∧ K v h))))))))))))
theorem run_gatepostref02_leap {L : FuncId → List V → V → Prop} {K : V → Heap → Prop} {a0 : V} {h : Heap} (hp : p_gatepostref02_leap L K a0 h) : Cf F L i_gatepostref02_leap [a0] h K :=
  wcallp F_gatepostref02_leap (show 1 ≤ 16 by decide) (p := p_gatepostref02_leap L K a0 h) (by kernel_rfl) hp
def k_token_Lower_0 (L : FuncId → List V → V → Prop) (K : V → Heap → Prop) (v3 : V) (h : Heap) : Prop :=
    (wi F L (.toStr (.c v3)) E0 h fun v28 h =>
    (∃ v, some v28 = some v ∧ K v h))
def k_token_Lower_2 (L : FuncId → List V → V → Prop) (K : V → Heap → Prop) (N0 : Env → Heap → Prop) (e : Env) (v10 : V) (h : Heap) : Prop :=
    (wi F L (.bin .add (.c v10) (.c (.int .i64 1))) E0 h fun v26 h =>
    (N0 (upd (upd e 26 v26) 10 v26) h))
def k_token_Lower_1 (L : FuncId → List V → V → Prop) (K : V → Heap → Prop) (N0 : Env → Heap → Prop) (e : Env) (v3 v8 v10 : V) (h : Heap) : Prop :=
    (wi F L (.ixaSl 1 (.c v8) (.c v10)) E0 h fun v13 h =>
    (wi F L (.load false 1 (.c v13)) E0 h fun v14 h =>
    (wi F L (.bin .geq (.c v14) (.c (.int .u8 65))) E0 h fun v16 h =>
    (wg v16 true (wi F L (.mv (.c v14)) E0 h) h fun v18 h =>
    (wg v16 true (wi F L (.bin .leq (.c v18) (.c (.int .u8 90))) E0 h) h fun v19 h =>
    (wi F L (.pick (.c v16) (.c v19) (.c (.bool false))) E0 h fun v20 h =>
    (wb v20
    (wi F L (.bin .or (.c v14) (.c (.int .u8 32))) E0 h fun v24 h =>
    (wi F L (.ixaSl 1 (.c v3) (.c v10)) E0 h fun v25 h =>
    (wi F L (.store 1 (.c v25) (.c v24)) E0 h fun _ h =>
    (k_token_Lower_2 L K N0 (upd (upd (upd (upd (upd (upd (upd (upd (upd (upd (upd (upd (upd (upd (upd (upd e 12 v10) 13 v13) 14 v14) 4 v10) 5 v14) 15 v14) 16 v16) 17 v16) 18 v18) 19 v19) 20 v20) 21 v3) 22 v10) 23 v14) 24 v24) 25 v25) v10 h))))
    (k_token_Lower_2 L K N0 (upd (upd (upd (upd (upd (upd (upd (upd (upd (upd (upd e 12 v10) 13 v13) 14 v14) 4 v10) 5 v14) 15 v14) 16 v16) 17 v16) 18 v18) 19 v19) 20 v20) v10 h))))))))
def q_token_Lower_0 (L : FuncId → List V → V → Prop) (K : V → Heap → Prop) : X → Env → Heap → Prop := (fun x => (seqX (fun e h => k_token_Lower_0 L K (e 3) h) (retX c_token_Lower.results K)) (X.out 0 x))
def lc_token_Lower_0 : C :=
  (.seq (.region [⟨(some 11), none, .bin .lss (.t 10) (.t 9)⟩])
  (.seq (.cond (.t 11)
    .skip
    (.exit 0))
  (.seq (.block 1 (.seq (.region [⟨(some 12), none, .mv (.t 10)⟩, ⟨(some 13), none, .ixaSl 1 (.t 8) (.t 10)⟩, ⟨(some 14), none, .load false 1 (.t 13)⟩, ⟨(some 4), none, .mv (.t 12)⟩, ⟨(some 5), none, .mv (.t 14)⟩])
  (.seq (.region [⟨(some 15), none, .mv (.t 5)⟩, ⟨(some 16), none, .bin .geq (.t 15) (.c (.int .u8 65))⟩, ⟨(some 17), none, .mv (.t 16)⟩, ⟨(some 18), (some (17, true)), .mv (.t 5)⟩, ⟨(some 19), (some (17, true)), .bin .leq (.t 18) (.c (.int .u8 90))⟩, ⟨(some 20), none, .pick (.t 17) (.t 19) (.c (.bool false))⟩])
  (.cond (.t 20)
    (.region [⟨(some 21), none, .mv (.t 3)⟩, ⟨(some 22), none, .mv (.t 4)⟩, ⟨(some 23), none, .mv (.t 5)⟩, ⟨(some 24), none, .bin .or (.t 23) (.c (.int .u8 32))⟩, ⟨(some 25), none, .ixaSl 1 (.t 21) (.t 22)⟩, ⟨none, none, .store 1 (.t 25) (.t 24)⟩])
    .skip))))
  (.region [⟨(some 26), none, .bin .add (.t 10) (.c (.int .i64 1))⟩, ⟨(some 10), none, .mv (.t 26)⟩]))))
def b_token_Lower_0 (L : FuncId → List V → V → Prop) (K : V → Heap → Prop) (N0 : Env → Heap → Prop) (e : Env) (h : Heap) : Prop :=
    (wi F L (.bin .lss (.c (e 10)) (.c (e 9))) E0 h fun v11 h =>
    (wb v11
    (k_token_Lower_1 L K N0 (upd e 11 v11) (e 3) (e 8) (e 10) h)
    (k_token_Lower_0 L K (e 3) h)))
theorem l_token_Lower_0 {L : FuncId → List V → V → Prop} {K : V → Heap → Prop} (I : Nat → Env → Heap → Prop) (hr : ∀ n e h, I n e h → b_token_Lower_0 L K (fun e' h' => ∃ m, m < n ∧ I m e' h') e h) {n : Nat} {e : Env} {h : Heap} (hi : I n e h) : Wl F L lc_token_Lower_0 (q_token_Lower_0 L K) e h :=
  wloopp (b := b_token_Lower_0 L K) I (fun _ _ _ => by kernel_rfl) hr hi
def p_token_Lower (L : FuncId → List V → V → Prop) (K : V → Heap → Prop) (a0 : V) (h : Heap) : Prop :=
    (wi F L (.toBytes (.c a0)) E0 h fun v7 h =>
    (wi F L (.len 1 (.c v7)) E0 h fun v9 h =>
    (Wl F L lc_token_Lower_0 (q_token_Lower_0 L K) (upd (upd (upd (upd (upd (upd (upd (enterE [a0]) 2 (.str [])) 6 a0) 7 v7) 3 v7) 8 v7) 9 v9) 10 (.int .i64 0)) h)))
theorem run_token_Lower {L : FuncId → List V → V → Prop} {K : V → Heap → Prop} {a0 : V} {h : Heap} (hp : p_token_Lower L K a0 h) : Cf F L i_token_Lower [a0] h K :=
  wcallp F_token_Lower (show 1 ≤ 29 by decide) (p := p_token_Lower L K a0 h) (by kernel_rfl) hp
def k_token_Split_1_0 (L : FuncId → List V → V → Prop) (K : V → Heap → Prop) (v0 v2 : V) (h : Heap) : Prop :=
    (wi F L (.bin .add (.c v0) (.c (.int .i64 1))) E0 h fun v18 h =>
    (wi F L (.store 1 (.c v2) (.c v18)) E0 h fun _ h =>
    (∃ v, resultsV h (enterE []) [] = some v ∧ K v h)))
def p_token_Split_1 (L : FuncId → List V → V → Prop) (K : V → Heap → Prop) (a0 a1 a2 a3 : V) (h : Heap) : Prop :=
    (wi F L (.load false 1 (.c a1)) E0 h fun v6 h =>
    (wi F L (.load false 1 (.c a2)) E0 h fun v7 h =>
    (wi F L (.slstr (.c v6) (some (.c v7)) (some (.c a0))) E0 h fun v9 h =>
    (wi F L (.call i_token_Trim [(.c v9)]) E0 h fun v10 h =>
    (wi F L (.bin .neq (.c v10) (.c (.str []))) E0 h fun v12 h =>
    (wb v12
    (wi F L (.load false 1 (.c a3)) E0 h fun v13 h =>
    (wi F L (.bsl 1 [(.c v10)]) E0 h fun v15 h =>
    (wi F L (.app 1 16 false (.c v13) (.c v15)) E0 h fun v16 h =>
    (wi F L (.store 1 (.c a3) (.c v16)) E0 h fun _ h =>
    (k_token_Split_1_0 L K a0 a2 h)))))
    (k_token_Split_1_0 L K a0 a2 h)))))))
theorem run_token_Split_1 {L : FuncId → List V → V → Prop} {K : V → Heap → Prop} {a0 a1 a2 a3 : V} {h : Heap} (hp : p_token_Split_1 L K a0 a1 a2 a3 h) : Cf F L i_token_Split_1 [a0, a1, a2, a3] h K :=
  wcallp F_token_Split_1 (show 4 ≤ 19 by decide) (p := p_token_Split_1 L K a0 a1 a2 a3 h) (by kernel_rfl) hp
def p_token_Trim (L : FuncId → List V → V → Prop) (K : V → Heap → Prop) (a0 : V) (h : Heap) : Prop :=
    (wi F L (.call i_strings_Trim [(.c a0), (.c (.str [32, 9]))]) E0 h fun v4 h =>
    (∃ v, some v4 = some v ∧ K v h))
theorem run_token_Trim {L : FuncId → List V → V → Prop} {K : V → Heap → Prop} {a0 : V} {h : Heap} (hp : p_token_Trim L K a0 h) : Cf F L i_token_Trim [a0] h K :=
  wcallp F_token_Trim (show 1 ≤ 5 by decide) (p := p_token_Trim L K a0 h) (by kernel_rfl) hp
def k_slices_IndexFunc___string_string__0 (L : FuncId → List V → V → Prop) (K : V → Heap → Prop) (h : Heap) : Prop :=
    (∃ v, some (.int .i64 (-1)) = some v ∧ K v h)
def k_slices_IndexFunc___string_string__2 (L : FuncId → List V → V → Prop) (K : V → Heap → Prop) (N0 : Env → Heap → Prop) (e : Env) (v8 : V) (h : Heap) : Prop :=
    (wi F L (.bin .add (.c v8) (.c (.int .i64 1))) E0 h fun v18 h =>
    (N0 (upd (upd e 18 v18) 8 v18) h))
def k_slices_IndexFunc___string_string__1 (L : FuncId → List V → V → Prop) (K : V → Heap → Prop) (N0 : Env → Heap → Prop) (e : Env) (v0 v1 v8 : V) (h : Heap) : Prop :=
    (wi F L (.ixaSl 1 (.c v0) (.c v8)) E0 h fun v14 h =>
    (wi F L (.load false 1 (.c v14)) E0 h fun v15 h =>
    (wi F L (.callv (.c v1) [(.c v15)]) E0 h fun v16 h =>
    (wb v16
    (∃ v, some v8 = some v ∧ K v h)
    (k_slices_IndexFunc___string_string__2 L K N0 (upd (upd (upd (upd (upd (upd (upd (upd e 10 v8) 5 v8) 11 v1) 12 v0) 13 v8) 14 v14) 15 v15) 16 v16) v8 h)))))
def q_slices_IndexFunc___string_string__0 (L : FuncId → List V → V → Prop) (K : V → Heap → Prop) : X → Env → Heap → Prop := (fun x => (seqX (fun e h => k_slices_IndexFunc___string_string__0 L K  h) (retX c_slices_IndexFunc___string_string_.results K)) (X.out 0 x))
def lc_slices_IndexFunc___string_string__0 : C :=
  (.seq (.region [⟨(some 9), none, .bin .lss (.t 8) (.t 7)⟩])
  (.seq (.cond (.t 9)
    .skip
    (.exit 0))
  (.seq (.block 1 (.seq (.region [⟨(some 10), none, .mv (.t 8)⟩, ⟨(some 5), none, .mv (.t 10)⟩])
  (.seq (.region [⟨(some 11), none, .mv (.t 1)⟩, ⟨(some 12), none, .mv (.t 0)⟩, ⟨(some 13), none, .mv (.t 5)⟩, ⟨(some 14), none, .ixaSl 1 (.t 12) (.t 13)⟩, ⟨(some 15), none, .load false 1 (.t 14)⟩, ⟨(some 16), none, .callv (.t 11) [(.t 15)]⟩])
  (.cond (.t 16)
    (.seq (.region [⟨(some 17), none, .mv (.t 5)⟩, ⟨(some 4), none, .mv (.t 17)⟩])
    .ret)
    .skip))))
  (.region [⟨(some 18), none, .bin .add (.t 8) (.c (.int .i64 1))⟩, ⟨(some 8), none, .mv (.t 18)⟩]))))
def b_slices_IndexFunc___string_string__0 (L : FuncId → List V → V → Prop) (K : V → Heap → Prop) (N0 : Env → Heap → Prop) (e : Env) (h : Heap) : Prop :=
    (wi F L (.bin .lss (.c (e 8)) (.c (e 7))) E0 h fun v9 h =>
    (wb v9
    (k_slices_IndexFunc___string_string__1 L K N0 (upd e 9 v9) (e 0) (e 1) (e 8) h)
    (k_slices_IndexFunc___string_string__0 L K  h)))
theorem l_slices_IndexFunc___string_string__0 {L : FuncId → List V → V → Prop} {K : V → Heap → Prop} (I : Nat → Env → Heap → Prop) (hr : ∀ n e h, I n e h → b_slices_IndexFunc___string_string__0 L K (fun e' h' => ∃ m, m < n ∧ I m e' h') e h) {n : Nat} {e : Env} {h : Heap} (hi : I n e h) : Wl F L lc_slices_IndexFunc___string_string__0 (q_slices_IndexFunc___string_string__0 L K) e h :=
  wloopp (b := b_slices_IndexFunc___string_string__0 L K) I (fun _ _ _ => by kernel_rfl) hr hi
def p_slices_IndexFunc___string_string_ (L : FuncId → List V → V → Prop) (K : V → Heap → Prop) (a0 a1 : V) (h : Heap) : Prop :=
    (wi F L (.len 1 (.c a0)) E0 h fun v7 h =>
    (Wl F L lc_slices_IndexFunc___string_string__0 (q_slices_IndexFunc___string_string__0 L K) (upd (upd (upd (upd (enterE [a0, a1]) 4 (.int .i64 0)) 6 a0) 7 v7) 8 (.int .i64 0)) h))
theorem run_slices_IndexFunc___string_string_ {L : FuncId → List V → V → Prop} {K : V → Heap → Prop} {a0 a1 : V} {h : Heap} (hp : p_slices_IndexFunc___string_string_ L K a0 a1 h) : Cf F L i_slices_IndexFunc___string_string_ [a0, a1] h K :=
  wcallp F_slices_IndexFunc___string_string_ (show 2 ≤ 19 by decide) (p := p_slices_IndexFunc___string_string_ L K a0 a1 h) (by kernel_rfl) hp
def k___gatepost_date_reader__day_0 (L : FuncId → List V → V → Prop) (K : V → Heap → Prop) (v0 : V) (h : Heap) : Prop :=
    (wi F L (.nilck (.c v0)) E0 h fun v42 h =>
    (wi F L (.faddr 1 (.c v42)) E0 h fun v43 h =>
    (wi F L (.store 1 (.c v43) (.c (.bool false))) E0 h fun _ h =>
    (∃ v, some (.int .i64 0) = some v ∧ K v h))))
def k___gatepost_date_reader__day_2 (L : FuncId → List V → V → Prop) (K : V → Heap → Prop) (N0 : Env → Heap → Prop) (e : Env) (v8 : V) (h : Heap) : Prop :=
    (wi F L (.bin .add (.c v8) (.c (.int .i64 1))) E0 h fun v40 h =>
    (N0 (upd (upd e 40 v40) 8 v40) h))
def k___gatepost_date_reader__day_3 (L : FuncId → List V → V → Prop) (K : V → Heap → Prop) (N0 : Env → Heap → Prop) (e : Env) (v0 v5 v6 v8 : V) (h : Heap) : Prop :=
    (wi F L (.nilck (.c v0)) E0 h fun v17 h =>
    (wi F L (.faddr 0 (.c v17)) E0 h fun v18 h =>
    (wi F L (.load false 1 (.c v18)) E0 h fun v19 h =>
    (wi F L (.len 0 (.c v19)) E0 h fun v20 h =>
    (wi F L (.len 0 (.c v6)) E0 h fun v22 h =>
    (wi F L (.bin .gtr (.c v20) (.c v22)) E0 h fun v23 h =>
    (wg v23 true (wi F L (.mv (.c v0)) E0 h) h fun v25 h =>
    (wg v23 true (wi F L (.nilck (.c v25)) E0 h) h fun v26 h =>
    (wg v23 true (wi F L (.faddr 0 (.c v26)) E0 h) h fun v27 h =>
    (wg v23 true (wi F L (.load false 1 (.c v27)) E0 h) h fun v28 h =>
    (wg v23 true (wi F L (.mv (.c v6)) E0 h) h fun v29 h =>
    (wg v23 true (wi F L (.len 0 (.c v29)) E0 h) h fun v30 h =>
    (wg v23 true (wi F L (.slstr (.c v28) none (some (.c v30))) E0 h) h fun v31 h =>
    (wg v23 true (wi F L (.mv (.c v6)) E0 h) h fun v32 h =>
    (wg v23 true (wi F L (.bin .eql (.c v31) (.c v32)) E0 h) h fun v33 h =>
    (wi F L (.pick (.c v23) (.c v33) (.c (.bool false))) E0 h fun v34 h =>
    (wb v34
    (wi F L (.len 0 (.c v6)) E0 h fun v37 h =>
    (wi F L (.call i___gatepost_date_reader__take [(.c v0), (.c v37)]) E0 h fun v38 h =>
    (∃ v, some v5 = some v ∧ K v h)))
    (k___gatepost_date_reader__day_2 L K N0 (upd (upd (upd (upd (upd (upd (upd (upd (upd (upd (upd (upd (upd (upd (upd (upd (upd (upd (upd e 16 v0) 17 v17) 18 v18) 19 v19) 20 v20) 21 v6) 22 v22) 23 v23) 24 v23) 25 v25) 26 v26) 27 v27) 28 v28) 29 v29) 30 v30) 31 v31) 32 v32) 33 v33) 34 v34) v8 h))))))))))))))))))
def k___gatepost_date_reader__day_1 (L : FuncId → List V → V → Prop) (K : V → Heap → Prop) (N0 : Env → Heap → Prop) (e : Env) (v0 v1 v7 v8 : V) (h : Heap) : Prop :=
    (wi F L (.ixArr 7 1 false (.c v7) (.c v8)) E0 h fun v11 h =>
    (wi F L (.un .not (.c v1)) E0 h fun v13 h =>
    (wb v13
    (wi F L (.slstr (.c v11) none (some (.c (.int .i64 3)))) E0 h fun v15 h =>
    (k___gatepost_date_reader__day_3 L K N0 (upd (upd (upd (upd (upd (upd (upd (upd (upd e 10 v8) 11 v11) 5 v8) 6 v11) 12 v1) 13 v13) 14 v11) 15 v15) 6 v15) v0 v8 v15 v8 h))
    (k___gatepost_date_reader__day_3 L K N0 (upd (upd (upd (upd (upd (upd e 10 v8) 11 v11) 5 v8) 6 v11) 12 v1) 13 v13) v0 v8 v11 v8 h))))
def q___gatepost_date_reader__day_0 (L : FuncId → List V → V → Prop) (K : V → Heap → Prop) : X → Env → Heap → Prop := (fun x => (seqX (fun e h => k___gatepost_date_reader__day_0 L K (e 0) h) (retX c___gatepost_date_reader__day.results K)) (X.out 0 x))
def lc___gatepost_date_reader__day_0 : C :=
  (.seq (.region [⟨(some 9), none, .bin .lss (.t 8) (.c (.int .i64 7))⟩])
  (.seq (.cond (.t 9)
    .skip
    (.exit 0))
  (.seq (.block 1 (.seq (.region [⟨(some 10), none, .mv (.t 8)⟩, ⟨(some 11), none, .ixArr 7 1 false (.t 7) (.t 8)⟩, ⟨(some 5), none, .mv (.t 10)⟩, ⟨(some 6), none, .mv (.t 11)⟩])
  (.seq (.seq (.region [⟨(some 12), none, .mv (.t 1)⟩, ⟨(some 13), none, .un .not (.t 12)⟩])
  (.cond (.t 13)
    (.region [⟨(some 14), none, .mv (.t 6)⟩, ⟨(some 15), none, .slstr (.t 14) none (some (.c (.int .i64 3)))⟩, ⟨(some 6), none, .mv (.t 15)⟩])
    .skip))
  (.seq (.region [⟨(some 16), none, .mv (.t 0)⟩, ⟨(some 17), none, .nilck (.t 16)⟩, ⟨(some 18), none, .faddr 0 (.t 17)⟩, ⟨(some 19), none, .load false 1 (.t 18)⟩, ⟨(some 20), none, .len 0 (.t 19)⟩, ⟨(some 21), none, .mv (.t 6)⟩, ⟨(some 22), none, .len 0 (.t 21)⟩, ⟨(some 23), none, .bin .gtr (.t 20) (.t 22)⟩, ⟨(some 24), none, .mv (.t 23)⟩, ⟨(some 25), (some (24, true)), .mv (.t 0)⟩, ⟨(some 26), (some (24, true)), .nilck (.t 25)⟩, ⟨(some 27), (some (24, true)), .faddr 0 (.t 26)⟩, ⟨(some 28), (some (24, true)), .load false 1 (.t 27)⟩, ⟨(some 29), (some (24, true)), .mv (.t 6)⟩, ⟨(some 30), (some (24, true)), .len 0 (.t 29)⟩, ⟨(some 31), (some (24, true)), .slstr (.t 28) none (some (.t 30))⟩, ⟨(some 32), (some (24, true)), .mv (.t 6)⟩, ⟨(some 33), (some (24, true)), .bin .eql (.t 31) (.t 32)⟩, ⟨(some 34), none, .pick (.t 24) (.t 33) (.c (.bool false))⟩])
  (.cond (.t 34)
    (.seq (.region [⟨(some 35), none, .mv (.t 0)⟩, ⟨(some 36), none, .mv (.t 6)⟩, ⟨(some 37), none, .len 0 (.t 36)⟩, ⟨(some 38), none, .call i___gatepost_date_reader__take [(.t 35), (.t 37)]⟩])
    (.seq (.region [⟨(some 39), none, .mv (.t 5)⟩, ⟨(some 4), none, .mv (.t 39)⟩])
    .ret))
    .skip)))))
  (.region [⟨(some 40), none, .bin .add (.t 8) (.c (.int .i64 1))⟩, ⟨(some 8), none, .mv (.t 40)⟩]))))
def b___gatepost_date_reader__day_0 (L : FuncId → List V → V → Prop) (K : V → Heap → Prop) (N0 : Env → Heap → Prop) (e : Env) (h : Heap) : Prop :=
    (wi F L (.bin .lss (.c (e 8)) (.c (.int .i64 7))) E0 h fun v9 h =>
    (wb v9
    (k___gatepost_date_reader__day_1 L K N0 (upd e 9 v9) (e 0) (e 1) (e 7) (e 8) h)
    (k___gatepost_date_reader__day_0 L K (e 0) h)))
theorem l___gatepost_date_reader__day_0 {L : FuncId → List V → V → Prop} {K : V → Heap → Prop} (I : Nat → Env → Heap → Prop) (hr : ∀ n e h, I n e h → b___gatepost_date_reader__day_0 L K (fun e' h' => ∃ m, m < n ∧ I m e' h') e h) {n : Nat} {e : Env} {h : Heap} (hi : I n e h) : Wl F L lc___gatepost_date_reader__day_0 (q___gatepost_date_reader__day_0 L K) e h :=
  wloopp (b := b___gatepost_date_reader__day_0 L K) I (fun _ _ _ => by kernel_rfl) hr hi
def p___gatepost_date_reader__day (L : FuncId → List V → V → Prop) (K : V → Heap → Prop) (a0 a1 : V) (h : Heap) : Prop :=
    (wi F L (.call i_date_longDays []) E0 h fun v7 h =>
    (Wl F L lc___gatepost_date_reader__day_0 (q___gatepost_date_reader__day_0 L K) (upd (upd (upd (enterE [a0, a1]) 4 (.int .i64 0)) 7 v7) 8 (.int .i64 0)) h))
theorem run___gatepost_date_reader__day {L : FuncId → List V → V → Prop} {K : V → Heap → Prop} {a0 a1 : V} {h : Heap} (hp : p___gatepost_date_reader__day L K a0 a1 h) : Cf F L i___gatepost_date_reader__day [a0, a1] h K :=
  wcallp F___gatepost_date_reader__day (show 2 ≤ 44 by decide) (p := p___gatepost_date_reader__day L K a0 a1 h) (by kernel_rfl) hp
def p___gatepost_date_reader__need (L : FuncId → List V → V → Prop) (K : V → Heap → Prop) (a0 a1 : V) (h : Heap) : Prop :=
    (wi F L (.len 0 (.c a1)) E0 h fun v6 h =>
    (wi F L (.call i___gatepost_date_reader__take [(.c a0), (.c v6)]) E0 h fun v7 h =>
    (wi F L (.bin .neq (.c v7) (.c a1)) E0 h fun v9 h =>
    (wb v9
    (wi F L (.nilck (.c a0)) E0 h fun v11 h =>
    (wi F L (.faddr 1 (.c v11)) E0 h fun v12 h =>
    (wi F L (.store 1 (.c v12) (.c (.bool false))) E0 h fun _ h =>
    (∃ v, resultsV h (enterE []) [] = some v ∧ K v h))))
    (∃ v, resultsV h (enterE []) [] = some v ∧ K v h)))))
theorem run___gatepost_date_reader__need {L : FuncId → List V → V → Prop} {K : V → Heap → Prop} {a0 a1 : V} {h : Heap} (hp : p___gatepost_date_reader__need L K a0 a1 h) : Cf F L i___gatepost_date_reader__need [a0, a1] h K :=
  wcallp F___gatepost_date_reader__need (show 2 ≤ 13 by decide) (p := p___gatepost_date_reader__need L K a0 a1 h) (by kernel_rfl) hp
def k___gatepost_date_reader__number_0 (L : FuncId → List V → V → Prop) (K : V → Heap → Prop) (v6 : V) (h : Heap) : Prop :=
    (wi F L (.load false 1 (.c v6)) E0 h fun v24 h =>
    (∃ v, some v24 = some v ∧ K v h))
def k___gatepost_date_reader__number_2 (L : FuncId → List V → V → Prop) (K : V → Heap → Prop) (N0 : Env → Heap → Prop) (e : Env) (v15 : V) (h : Heap) : Prop :=
    (wi F L (.bin .add (.c v15) (.c (.int .i64 1))) E0 h fun v23 h =>
    (N0 (upd (upd e 23 v23) 15 v23) h))
def k___gatepost_date_reader__number_1 (L : FuncId → List V → V → Prop) (K : V → Heap → Prop) (N0 : Env → Heap → Prop) (e : Env) (v5 v7 v15 : V) (h : Heap) : Prop :=
    (wi F L (.ixStr (.c v5) (.c v15)) E0 h fun v21 h =>
    (wi F L (.callv (.c v7) [(.c v21)]) E0 h fun v22 h =>
    (k___gatepost_date_reader__number_2 L K N0 (upd (upd (upd (upd (upd (upd (upd e 17 v15) 8 v15) 18 v7) 19 v5) 20 v15) 21 v21) 22 v22) v15 h)))
def q___gatepost_date_reader__number_0 (L : FuncId → List V → V → Prop) (K : V → Heap → Prop) : X → Env → Heap → Prop := (fun x => (seqX (fun e h => k___gatepost_date_reader__number_0 L K (e 6) h) (retX c___gatepost_date_reader__number.results K)) (X.out 0 x))
def lc___gatepost_date_reader__number_0 : C :=
  (.seq (.region [⟨(some 16), none, .bin .lss (.t 15) (.t 14)⟩])
  (.seq (.cond (.t 16)
    .skip
    (.exit 0))
  (.seq (.block 1 (.seq (.region [⟨(some 17), none, .mv (.t 15)⟩, ⟨(some 8), none, .mv (.t 17)⟩])
  (.region [⟨(some 18), none, .mv (.t 7)⟩, ⟨(some 19), none, .mv (.t 5)⟩, ⟨(some 20), none, .mv (.t 8)⟩, ⟨(some 21), none, .ixStr (.t 19) (.t 20)⟩, ⟨(some 22), none, .callv (.t 18) [(.t 21)]⟩])))
  (.region [⟨(some 23), none, .bin .add (.t 15) (.c (.int .i64 1))⟩, ⟨(some 15), none, .mv (.t 23)⟩]))))
def b___gatepost_date_reader__number_0 (L : FuncId → List V → V → Prop) (K : V → Heap → Prop) (N0 : Env → Heap → Prop) (e : Env) (h : Heap) : Prop :=
    (wi F L (.bin .lss (.c (e 15)) (.c (e 14))) E0 h fun v16 h =>
    (wb v16
    (k___gatepost_date_reader__number_1 L K N0 (upd e 16 v16) (e 5) (e 7) (e 15) h)
    (k___gatepost_date_reader__number_0 L K (e 6) h)))
theorem l___gatepost_date_reader__number_0 {L : FuncId → List V → V → Prop} {K : V → Heap → Prop} (I : Nat → Env → Heap → Prop) (hr : ∀ n e h, I n e h → b___gatepost_date_reader__number_0 L K (fun e' h' => ∃ m, m < n ∧ I m e' h') e h) {n : Nat} {e : Env} {h : Heap} (hi : I n e h) : Wl F L lc___gatepost_date_reader__number_0 (q___gatepost_date_reader__number_0 L K) e h :=
  wloopp (b := b___gatepost_date_reader__number_0 L K) I (fun _ _ _ => by kernel_rfl) hr hi
def p___gatepost_date_reader__number (L : FuncId → List V → V → Prop) (K : V → Heap → Prop) (a0 a1 : V) (h : Heap) : Prop :=
    (wi F L (.box (.c a0)) E0 h fun v2 h =>
    (wi F L (.load false 1 (.c v2)) E0 h fun v9 h =>
    (wi F L (.call i___gatepost_date_reader__take [(.c v9), (.c a1)]) E0 h fun v11 h =>
    (wi F L (.boxz [(.int .i64 0)]) E0 h fun v6 h =>
    (wi F L (.store 1 (.c v6) (.c (.int .i64 0))) E0 h fun _ h =>
    (wi F L (.mkfn i___gatepost_date_reader__number_1 [(.c v2), (.c v6)]) E0 h fun v12 h =>
    (wi F L (.len 0 (.c v11)) E0 h fun v14 h =>
    (Wl F L lc___gatepost_date_reader__number_0 (q___gatepost_date_reader__number_0 L K) (upd (upd (upd (upd (upd (upd (upd (upd (upd (upd (upd (upd (enterE [a0, a1]) 2 v2) 4 (.int .i64 0)) 9 v9) 10 a1) 11 v11) 5 v11) 6 v6) 12 v12) 7 v12) 13 v11) 14 v14) 15 (.int .i64 0)) h))))))))
theorem run___gatepost_date_reader__number {L : FuncId → List V → V → Prop} {K : V → Heap → Prop} {a0 a1 : V} {h : Heap} (hp : p___gatepost_date_reader__number L K a0 a1 h) : Cf F L i___gatepost_date_reader__number [a0, a1] h K :=
  wcallp F___gatepost_date_reader__number (show 2 ≤ 25 by decide) (p := p___gatepost_date_reader__number L K a0 a1 h) (by kernel_rfl) hp
def k___gatepost_date_reader__month_0 (L : FuncId → List V → V → Prop) (K : V → Heap → Prop) (v0 : V) (h : Heap) : Prop :=
    (wi F L (.nilck (.c v0)) E0 h fun v20 h =>
    (wi F L (.faddr 1 (.c v20)) E0 h fun v21 h =>
    (wi F L (.store 1 (.c v21) (.c (.bool false))) E0 h fun _ h =>
    (∃ v, some (.int .i64 0) = some v ∧ K v h))))
def k___gatepost_date_reader__month_2 (L : FuncId → List V → V → Prop) (K : V → Heap → Prop) (N0 : Env → Heap → Prop) (e : Env) (v9 : V) (h : Heap) : Prop :=
    (wi F L (.bin .add (.c v9) (.c (.int .i64 1))) E0 h fun v18 h =>
    (N0 (upd (upd e 18 v18) 9 v18) h))
def k___gatepost_date_reader__month_1 (L : FuncId → List V → V → Prop) (K : V → Heap → Prop) (N0 : Env → Heap → Prop) (e : Env) (v3 v8 v9 : V) (h : Heap) : Prop :=
    (wi F L (.ixArr 12 1 false (.c v8) (.c v9)) E0 h fun v12 h =>
    (wi F L (.bin .eql (.c v12) (.c v3)) E0 h fun v15 h =>
    (wb v15
    (wi F L (.bin .add (.c v9) (.c (.int .i64 1))) E0 h fun v17 h =>
    (∃ v, some v17 = some v ∧ K v h))
    (k___gatepost_date_reader__month_2 L K N0 (upd (upd (upd (upd (upd (upd (upd e 11 v9) 12 v12) 4 v9) 5 v12) 13 v12) 14 v3) 15 v15) v9 h))))
def q___gatepost_date_reader__month_0 (L : FuncId → List V → V → Prop) (K : V → Heap → Prop) : X → Env → Heap → Prop := (fun x => (seqX (fun e h => k___gatepost_date_reader__month_0 L K (e 0) h) (retX c___gatepost_date_reader__month.results K)) (X.out 0 x))
def lc___gatepost_date_reader__month_0 : C :=
  (.seq (.region [⟨(some 10), none, .bin .lss (.t 9) (.c (.int .i64 12))⟩])
  (.seq (.cond (.t 10)
    .skip
    (.exit 0))
  (.seq (.block 1 (.seq (.region [⟨(some 11), none, .mv (.t 9)⟩, ⟨(some 12), none, .ixArr 12 1 false (.t 8) (.t 9)⟩, ⟨(some 4), none, .mv (.t 11)⟩, ⟨(some 5), none, .mv (.t 12)⟩])
  (.seq (.region [⟨(some 13), none, .mv (.t 5)⟩, ⟨(some 14), none, .mv (.t 3)⟩, ⟨(some 15), none, .bin .eql (.t 13) (.t 14)⟩])
  (.cond (.t 15)
    (.seq (.region [⟨(some 16), none, .mv (.t 4)⟩, ⟨(some 17), none, .bin .add (.t 16) (.c (.int .i64 1))⟩, ⟨(some 2), none, .mv (.t 17)⟩])
    .ret)
    .skip))))
  (.region [⟨(some 18), none, .bin .add (.t 9) (.c (.int .i64 1))⟩, ⟨(some 9), none, .mv (.t 18)⟩]))))
def b___gatepost_date_reader__month_0 (L : FuncId → List V → V → Prop) (K : V → Heap → Prop) (N0 : Env → Heap → Prop) (e : Env) (h : Heap) : Prop :=
    (wi F L (.bin .lss (.c (e 9)) (.c (.int .i64 12))) E0 h fun v10 h =>
    (wb v10
    (k___gatepost_date_reader__month_1 L K N0 (upd e 10 v10) (e 3) (e 8) (e 9) h)
    (k___gatepost_date_reader__month_0 L K (e 0) h)))
theorem l___gatepost_date_reader__month_0 {L : FuncId → List V → V → Prop} {K : V → Heap → Prop} (I : Nat → Env → Heap → Prop) (hr : ∀ n e h, I n e h → b___gatepost_date_reader__month_0 L K (fun e' h' => ∃ m, m < n ∧ I m e' h') e h) {n : Nat} {e : Env} {h : Heap} (hi : I n e h) : Wl F L lc___gatepost_date_reader__month_0 (q___gatepost_date_reader__month_0 L K) e h :=
  wloopp (b := b___gatepost_date_reader__month_0 L K) I (fun _ _ _ => by kernel_rfl) hr hi
def p___gatepost_date_reader__month (L : FuncId → List V → V → Prop) (K : V → Heap → Prop) (a0 : V) (h : Heap) : Prop :=
    (wi F L (.call i___gatepost_date_reader__take [(.c a0), (.c (.int .i64 3))]) E0 h fun v7 h =>
    (wi F L (.call i_date_monthNames []) E0 h fun v8 h =>
    (Wl F L lc___gatepost_date_reader__month_0 (q___gatepost_date_reader__month_0 L K) (upd (upd (upd (upd (upd (upd (enterE [a0]) 2 (.int .i64 0)) 6 a0) 7 v7) 3 v7) 8 v8) 9 (.int .i64 0)) h)))
theorem run___gatepost_date_reader__month {L : FuncId → List V → V → Prop} {K : V → Heap → Prop} {a0 : V} {h : Heap} (hp : p___gatepost_date_reader__month L K a0 h) : Cf F L i___gatepost_date_reader__month [a0] h K :=
  wcallp F___gatepost_date_reader__month (show 1 ≤ 22 by decide) (p := p___gatepost_date_reader__month L K a0 h) (by kernel_rfl) hp
def k___gatepost_date_reader__clock_0 (L : FuncId → List V → V → Prop) (K : V → Heap → Prop) (v3 v4 v5 : V) (h : Heap) : Prop :=
    (wi F L (.bin .mul (.c v3) (.c (.int .i64 3600))) E0 h fun v30 h =>
    (wi F L (.bin .mul (.c v4) (.c (.int .i64 60))) E0 h fun v32 h =>
    (wi F L (.bin .add (.c v30) (.c v32)) E0 h fun v33 h =>
    (wi F L (.mn [(.c v5), (.c (.int .i64 59))]) E0 h fun v35 h =>
    (wi F L (.bin .add (.c v33) (.c v35)) E0 h fun v36 h =>
    (∃ v, some v36 = some v ∧ K v h))))))
def p___gatepost_date_reader__clock (L : FuncId → List V → V → Prop) (K : V → Heap → Prop) (a0 : V) (h : Heap) : Prop :=
    (wi F L (.call i___gatepost_date_reader__number [(.c a0), (.c (.int .i64 2))]) E0 h fun v7 h =>
    (wi F L (.call i___gatepost_date_reader__need [(.c a0), (.c (.str [58]))]) E0 h fun v9 h =>
    (wi F L (.call i___gatepost_date_reader__number [(.c a0), (.c (.int .i64 2))]) E0 h fun v11 h =>
    (wi F L (.call i___gatepost_date_reader__need [(.c a0), (.c (.str [58]))]) E0 h fun v13 h =>
    (wi F L (.call i___gatepost_date_reader__number [(.c a0), (.c (.int .i64 2))]) E0 h fun v15 h =>
    (wi F L (.bin .geq (.c v7) (.c (.int .i64 24))) E0 h fun v17 h =>
    (wg v17 false (wi F L (.mv (.c v11)) E0 h) h fun v19 h =>
    (wg v17 false (wi F L (.bin .geq (.c v19) (.c (.int .i64 60))) E0 h) h fun v20 h =>
    (wi F L (.pick (.c v17) (.c (.bool true)) (.c v20)) E0 h fun v21 h =>
    (wg v21 false (wi F L (.mv (.c v15)) E0 h) h fun v23 h =>
    (wg v21 false (wi F L (.bin .gtr (.c v23) (.c (.int .i64 60))) E0 h) h fun v24 h =>
    (wi F L (.pick (.c v21) (.c (.bool true)) (.c v24)) E0 h fun v25 h =>
    (wb v25
    (wi F L (.nilck (.c a0)) E0 h fun v27 h =>
    (wi F L (.faddr 1 (.c v27)) E0 h fun v28 h =>
    (wi F L (.store 1 (.c v28) (.c (.bool false))) E0 h fun _ h =>
    (k___gatepost_date_reader__clock_0 L K v7 v11 v15 h))))
    (k___gatepost_date_reader__clock_0 L K v7 v11 v15 h))))))))))))))
theorem run___gatepost_date_reader__clock {L : FuncId → List V → V → Prop} {K : V → Heap → Prop} {a0 : V} {h : Heap} (hp : p___gatepost_date_reader__clock L K a0 h) : Cf F L i___gatepost_date_reader__clock [a0] h K :=
  wcallp F___gatepost_date_reader__clock (show 1 ≤ 37 by decide) (p := p___gatepost_date_reader__clock L K a0 h) (by kernel_rfl) hp
def k___gatepost_date_reader__second_0 (L : FuncId → List V → V → Prop) (K : V → Heap → Prop) (v5 v14 : V) (h : Heap) : Prop :=
    (wi F L (.bin .mul (.c v14) (.c (.int .i64 86400))) E0 h fun v43 h =>
    (wi F L (.bin .add (.c v43) (.c v5)) E0 h fun v45 h =>
    (∃ v, resultsV h (enterE [v45, (.bool true)]) [.tmp 0, .tmp 1] = some v ∧ K v h)))
def p___gatepost_date_reader__second (L : FuncId → List V → V → Prop) (K : V → Heap → Prop) (a0 a1 a2 a3 a4 a5 : V) (h : Heap) : Prop :=
    (wi F L (.call i_date_Days [(.c a2), (.c a3), (.c a4)]) E0 h fun v18 h =>
    (wi F L (.nilck (.c a0)) E0 h fun v20 h =>
    (wi F L (.faddr 1 (.c v20)) E0 h fun v21 h =>
    (wi F L (.load false 1 (.c v21)) E0 h fun v22 h =>
    (wi F L (.un .not (.c v22)) E0 h fun v23 h =>
    (wg v23 false (wi F L (.mv (.c a0)) E0 h) h fun v25 h =>
    (wg v23 false (wi F L (.nilck (.c v25)) E0 h) h fun v26 h =>
    (wg v23 false (wi F L (.faddr 0 (.c v26)) E0 h) h fun v27 h =>
    (wg v23 false (wi F L (.load false 1 (.c v27)) E0 h) h fun v28 h =>
    (wg v23 false (wi F L (.bin .neq (.c v28) (.c (.str []))) E0 h) h fun v29 h =>
    (wi F L (.pick (.c v23) (.c (.bool true)) (.c v29)) E0 h fun v30 h =>
    (wg v30 false (wi F L (.mv (.c v18)) E0 h) h fun v32 h =>
    (wg v30 false (wi F L (.bin .lss (.c v32) (.c (.int .i64 0))) E0 h) h fun v33 h =>
    (wi F L (.pick (.c v30) (.c (.bool true)) (.c v33)) E0 h fun v34 h =>
    (wg v34 false (wi F L (.mv (.c v18)) E0 h) h fun v36 h =>
    (wg v34 false (wi F L (.bin .add (.c v36) (.c (.int .i64 3))) E0 h) h fun v37 h =>
    (wg v34 false (wi F L (.bin .rem (.c v37) (.c (.int .i64 7))) E0 h) h fun v38 h =>
    (wg v34 false (wi F L (.mv (.c a1)) E0 h) h fun v39 h =>
    (wg v34 false (wi F L (.bin .neq (.c v38) (.c v39)) E0 h) h fun v40 h =>
    (wi F L (.pick (.c v34) (.c (.bool true)) (.c v40)) E0 h fun v41 h =>
    (wb v41
    (∃ v, resultsV h (enterE [(.int .i64 0), (.bool false)]) [.tmp 0, .tmp 1] = some v ∧ K v h)
    (k___gatepost_date_reader__second_0 L K a5 v18 h))))))))))))))))))))))
theorem run___gatepost_date_reader__second {L : FuncId → List V → V → Prop} {K : V → Heap → Prop} {a0 a1 a2 a3 a4 a5 : V} {h : Heap} (hp : p___gatepost_date_reader__second L K a0 a1 a2 a3 a4 a5 h) : Cf F L i___gatepost_date_reader__second [a0, a1, a2, a3, a4, a5] h K :=
  wcallp F___gatepost_date_reader__second (show 6 ≤ 46 by decide) (p := p___gatepost_date_reader__second L K a0 a1 a2 a3 a4 a5 h) (by kernel_rfl) hp
def k___gatepost_date_reader__take_0 (L : FuncId → List V → V → Prop) (K : V → Heap → Prop) (v0 v1 : V) (h : Heap) : Prop :=
    (wi F L (.nilck (.c v0)) E0 h fun v17 h =>
    (wi F L (.faddr 0 (.c v17)) E0 h fun v18 h =>
    (wi F L (.load false 1 (.c v18)) E0 h fun v19 h =>
    (wi F L (.slstr (.c v19) none (some (.c v1))) E0 h fun v21 h =>
    (wi F L (.nilck (.c v0)) E0 h fun v24 h =>
    (wi F L (.faddr 0 (.c v24)) E0 h fun v25 h =>
    (wi F L (.load false 1 (.c v25)) E0 h fun v26 h =>
    (wi F L (.slstr (.c v26) (some (.c v1)) none) E0 h fun v28 h =>
    (wi F L (.nilck (.c v0)) E0 h fun v29 h =>
    (wi F L (.faddr 0 (.c v29)) E0 h fun v30 h =>
    (wi F L (.store 1 (.c v30) (.c v28)) E0 h fun _ h =>
    (∃ v, some v21 = some v ∧ K v h))))))))))))
def p___gatepost_date_reader__take (L : FuncId → List V → V → Prop) (K : V → Heap → Prop) (a0 a1 : V) (h : Heap) : Prop :=
    (wi F L (.nilck (.c a0)) E0 h fun v7 h =>
    (wi F L (.faddr 0 (.c v7)) E0 h fun v8 h =>
    (wi F L (.load false 1 (.c v8)) E0 h fun v9 h =>
    (wi F L (.len 0 (.c v9)) E0 h fun v10 h =>
    (wi F L (.bin .lss (.c v10) (.c a1)) E0 h fun v12 h =>
    (wb v12
    (wi F L (.nilck (.c a0)) E0 h fun v14 h =>
    (wi F L (.faddr 1 (.c v14)) E0 h fun v15 h =>
    (wi F L (.store 1 (.c v15) (.c (.bool false))) E0 h fun _ h =>
    (∃ v, some (.str []) = some v ∧ K v h))))
    (k___gatepost_date_reader__take_0 L K a0 a1 h)))))))
theorem run___gatepost_date_reader__take {L : FuncId → List V → V → Prop} {K : V → Heap → Prop} {a0 a1 : V} {h : Heap} (hp : p___gatepost_date_reader__take L K a0 a1 h) : Cf F L i___gatepost_date_reader__take [a0, a1] h K :=
  wcallp F___gatepost_date_reader__take (show 2 ≤ 32 by decide) (p := p___gatepost_date_reader__take L K a0 a1 h) (by kernel_rfl) hp
def k_internal_stringslite_CutPrefix_0 (L : FuncId → List V → V → Prop) (K : V → Heap → Prop) (v0 v1 : V) (h : Heap) : Prop :=
    (wi F L (.len 0 (.c v1)) E0 h fun v13 h =>
    (wi F L (.slstr (.c v0) (some (.c v13)) none) E0 h fun v14 h =>
    (∃ v, resultsV h (enterE [v14, (.bool true)]) [.tmp 0, .tmp 1] = some v ∧ K v h)))
def p_internal_stringslite_CutPrefix (L : FuncId → List V → V → Prop) (K : V → Heap → Prop) (a0 a1 : V) (h : Heap) : Prop :=
    (wi F L (.call i_internal_stringslite_HasPrefix [(.c a0), (.c a1)]) E0 h fun v8 h =>
    (wi F L (.un .not (.c v8)) E0 h fun v9 h =>
    (wb v9
    (∃ v, resultsV h (enterE [a0, (.bool false)]) [.tmp 0, .tmp 1] = some v ∧ K v h)
    (k_internal_stringslite_CutPrefix_0 L K a0 a1 h))))
theorem run_internal_stringslite_CutPrefix {L : FuncId → List V → V → Prop} {K : V → Heap → Prop} {a0 a1 : V} {h : Heap} (hp : p_internal_stringslite_CutPrefix L K a0 a1 h) : Cf F L i_internal_stringslite_CutPrefix [a0, a1] h K :=
  wcallp F_internal_stringslite_CutPrefix (show 2 ≤ 15 by decide) (p := p_internal_stringslite_CutPrefix L K a0 a1 h) (by kernel_rfl) hp
def k_internal_stringslite_CutSuffix_0 (L : FuncId → List V → V → Prop) (K : V → Heap → Prop) (v0 v1 : V) (h : Heap) : Prop :=
    (wi F L (.len 0 (.c v0)) E0 h fun v13 h =>
    (wi F L (.len 0 (.c v1)) E0 h fun v15 h =>
    (wi F L (.bin .sub (.c v13) (.c v15)) E0 h fun v16 h =>
    (wi F L (.slstr (.c v0) none (some (.c v16))) E0 h fun v17 h =>
    (∃ v, resultsV h (enterE [v17, (.bool true)]) [.tmp 0, .tmp 1] = some v ∧ K v h)))))
def p_internal_stringslite_CutSuffix (L : FuncId → List V → V → Prop) (K : V → Heap → Prop) (a0 a1 : V) (h : Heap) : Prop :=
    (wi F L (.call i_internal_stringslite_HasSuffix [(.c a0), (.c a1)]) E0 h fun v8 h =>
    (wi F L (.un .not (.c v8)) E0 h fun v9 h =>
    (wb v9
    (∃ v, resultsV h (enterE [a0, (.bool false)]) [.tmp 0, .tmp 1] = some v ∧ K v h)
    (k_internal_stringslite_CutSuffix_0 L K a0 a1 h))))
theorem run_internal_stringslite_CutSuffix {L : FuncId → List V → V → Prop} {K : V → Heap → Prop} {a0 a1 : V} {h : Heap} (hp : p_internal_stringslite_CutSuffix L K a0 a1 h) : Cf F L i_internal_stringslite_CutSuffix [a0, a1] h K :=
  wcallp F_internal_stringslite_CutSuffix (show 2 ≤ 18 by decide) (p := p_internal_stringslite_CutSuffix L K a0 a1 h) (by kernel_rfl) hp
def k_strings_Trim_2 (L : FuncId → List V → V → Prop) (K : V → Heap → Prop) (v0 v1 : V) (h : Heap) : Prop :=
    (wi F L (.call i_strings_trimRightUnicode [(.c v0), (.c v1)]) E0 h fun v40 h =>
    (wi F L (.call i_strings_trimLeftUnicode [(.c v40), (.c v1)]) E0 h fun v42 h =>
    (∃ v, some v42 = some v ∧ K v h)))
def k_strings_Trim_1 (L : FuncId → List V → V → Prop) (K : V → Heap → Prop) (v0 v1 : V) (h : Heap) : Prop :=
    (wi F L (.call i_strings_makeASCIISet [(.c v1)]) E0 h fun v31 h =>
    (wi F L (.ext 0 (.c v31)) E0 h fun v32 h =>
    (wi F L (.ext 1 (.c v31)) E0 h fun v33 h =>
    (wi F L (.boxz (List.replicate 256 (.bool false))) E0 h fun v5 h =>
    (wi F L (.store 256 (.c v5) (.c v32)) E0 h fun _ h =>
    (wb v33
    (wi F L (.call i_strings_trimRightASCII [(.c v0), (.c v5)]) E0 h fun v36 h =>
    (wi F L (.call i_strings_trimLeftASCII [(.c v36), (.c v5)]) E0 h fun v37 h =>
    (∃ v, some v37 = some v ∧ K v h)))
    (k_strings_Trim_2 L K v0 v1 h)))))))
def k_strings_Trim_0 (L : FuncId → List V → V → Prop) (K : V → Heap → Prop) (v0 v1 : V) (h : Heap) : Prop :=
    (wi F L (.len 0 (.c v1)) E0 h fun v15 h =>
    (wi F L (.bin .eql (.c v15) (.c (.int .i64 1))) E0 h fun v16 h =>
    (wg v16 true (wi F L (.mv (.c v1)) E0 h) h fun v18 h =>
    (wg v16 true (wi F L (.ixStr (.c v18) (.c (.int .i64 0))) E0 h) h fun v19 h =>
    (wg v16 true (wi F L (.bin .lss (.c v19) (.c (.int .u8 128))) E0 h) h fun v20 h =>
    (wi F L (.pick (.c v16) (.c v20) (.c (.bool false))) E0 h fun v21 h =>
    (wb v21
    (wi F L (.ixStr (.c v1) (.c (.int .i64 0))) E0 h fun v24 h' => Ext h h' ∧
    (wi F L (.call i_strings_trimRightByte [(.c v0), (.c v24)]) E0 h' fun v25 h => Ext h' h ∧
    (wi F L (.ixStr (.c v1) (.c (.int .i64 0))) E0 h fun v27 h' => Ext h h' ∧
    (wi F L (.call i_strings_trimLeftByte [(.c v25), (.c v27)]) E0 h' fun v28 h =>
    (∃ v, some v28 = some v ∧ K v h)))))
    (k_strings_Trim_1 L K v0 v1 h))))))))
def p_strings_Trim (L : FuncId → List V → V → Prop) (K : V → Heap → Prop) (a0 a1 : V) (h : Heap) : Prop :=
    (wi F L (.bin .eql (.c a0) (.c (.str []))) E0 h fun v8 h =>
    (wg v8 false (wi F L (.mv (.c a1)) E0 h) h fun v10 h =>
    (wg v8 false (wi F L (.bin .eql (.c v10) (.c (.str []))) E0 h) h fun v11 h =>
    (wi F L (.pick (.c v8) (.c (.bool true)) (.c v11)) E0 h fun v12 h =>
    (wb v12
    (∃ v, some a0 = some v ∧ K v h)
    (k_strings_Trim_0 L K a0 a1 h))))))
theorem run_strings_Trim {L : FuncId → List V → V → Prop} {K : V → Heap → Prop} {a0 a1 : V} {h : Heap} (hp : p_strings_Trim L K a0 a1 h) : Cf F L i_strings_Trim [a0, a1] h K :=
  wcallp F_strings_Trim (show 2 ≤ 43 by decide) (p := p_strings_Trim L K a0 a1 h) (by kernel_rfl) hp
def p_date_longDays (L : FuncId → List V → V → Prop) (K : V → Heap → Prop) (h : Heap) : Prop :=
    (wi F L (.boxz [(.str []), (.str []), (.str []), (.str []), (.str []), (.str []), (.str [])]) E0 h fun v0 h =>
    (wi F L (.build [(.str []), (.str []), (.str []), (.str []), (.str []), (.str []), (.str [])] [(0, 1, (.c (.str [77, 111, 110, 100, 97, 121]))), (1, 1, (.c (.str [84, 117, 101, 115, 100, 97, 121]))), (2, 1, (.c (.str [87, 101, 100, 110, 101, 115, 100, 97, 121]))), (3, 1, (.c (.str [84, 104, 117, 114, 115, 100, 97, 121]))), (4, 1, (.c (.str [70, 114, 105, 100, 97, 121]))), (5, 1, (.c (.str [83, 97, 116, 117, 114, 100, 97, 121]))), (6, 1, (.c (.str [83, 117, 110, 100, 97, 121])))]) E0 h fun v1 h =>
    (wi F L (.store 7 (.c v0) (.c v1)) E0 h fun _ h =>
    (∃ v, resultsV h (enterE [v0]) [.cell 0 true 7] = some v ∧ K v h))))
theorem run_date_longDays {L : FuncId → List V → V → Prop} {K : V → Heap → Prop} {h : Heap} (hp : p_date_longDays L K  h) : Cf F L i_date_longDays [] h K :=
  wcallp F_date_longDays (show 0 ≤ 2 by decide) (p := p_date_longDays L K  h) (by kernel_rfl) hp
def k___gatepost_date_reader__number_1_0 (L : FuncId → List V → V → Prop) (K : V → Heap → Prop) (v0 v2 : V) (h : Heap) : Prop :=
    (wi F L (.load false 1 (.c v2)) E0 h fun v13 h =>
    (wi F L (.bin .mul (.c (.int .i64 10)) (.c v13)) E0 h fun v14 h =>
    (wi F L (.bin .sub (.c v0) (.c (.int .u8 48))) E0 h fun v16 h =>
    (wi F L (.toInt .i64 (.c v16)) E0 h fun v17 h =>
    (wi F L (.bin .add (.c v14) (.c v17)) E0 h fun v18 h =>
    (wi F L (.store 1 (.c v2) (.c v18)) E0 h fun _ h =>
    (∃ v, resultsV h (enterE []) [] = some v ∧ K v h)))))))
def p___gatepost_date_reader__number_1 (L : FuncId → List V → V → Prop) (K : V → Heap → Prop) (a0 a1 a2 : V) (h : Heap) : Prop :=
    (wi F L (.bin .lss (.c a0) (.c (.int .u8 48))) E0 h fun v5 h =>
    (wg v5 false (wi F L (.mv (.c a0)) E0 h) h fun v7 h =>
    (wg v5 false (wi F L (.bin .gtr (.c v7) (.c (.int .u8 57))) E0 h) h fun v8 h =>
    (wi F L (.pick (.c v5) (.c (.bool true)) (.c v8)) E0 h fun v9 h =>
    (wb v9
    (wi F L (.load false 1 (.c a1)) E0 h fun v10 h =>
    (wi F L (.nilck (.c v10)) E0 h fun v11 h =>
    (wi F L (.faddr 1 (.c v11)) E0 h fun v12 h =>
    (wi F L (.store 1 (.c v12) (.c (.bool false))) E0 h fun _ h =>
    (k___gatepost_date_reader__number_1_0 L K a0 a2 h)))))
    (k___gatepost_date_reader__number_1_0 L K a0 a2 h))))))
theorem run___gatepost_date_reader__number_1 {L : FuncId → List V → V → Prop} {K : V → Heap → Prop} {a0 a1 a2 : V} {h : Heap} (hp : p___gatepost_date_reader__number_1 L K a0 a1 a2 h) : Cf F L i___gatepost_date_reader__number_1 [a0, a1, a2] h K :=
  wcallp F___gatepost_date_reader__number_1 (show 3 ≤ 19 by decide) (p := p___gatepost_date_reader__number_1 L K a0 a1 a2 h) (by kernel_rfl) hp
def p_date_monthNames (L : FuncId → List V → V → Prop) (K : V → Heap → Prop) (h : Heap) : Prop :=
    (wi F L (.boxz [(.str []), (.str []), (.str []), (.str []), (.str []), (.str []), (.str []), (.str []), (.str []), (.str []), (.str []), (.str [])]) E0 h fun v0 h =>
    (wi F L (.build [(.str []), (.str []), (.str []), (.str []), (.str []), (.str []), (.str []), (.str []), (.str []), (.str []), (.str []), (.str [])] [(0, 1, (.c (.str [74, 97, 110]))), (1, 1, (.c (.str [70, 101, 98]))), (2, 1, (.c (.str [77, 97, 114]))), (3, 1, (.c (.str [65, 112, 114]))), (4, 1, (.c (.str [77, 97, 121]))), (5, 1, (.c (.str [74, 117, 110]))), (6, 1, (.c (.str [74, 117, 108]))), (7, 1, (.c (.str [65, 117, 103]))), (8, 1, (.c (.str [83, 101, 112]))), (9, 1, (.c (.str [79, 99, 116]))), (10, 1, (.c (.str [78, 111, 118]))), (11, 1, (.c (.str [68, 101, 99])))]) E0 h fun v1 h =>
    (wi F L (.store 12 (.c v0) (.c v1)) E0 h fun _ h =>
    (∃ v, resultsV h (enterE [v0]) [.cell 0 true 12] = some v ∧ K v h))))
theorem run_date_monthNames {L : FuncId → List V → V → Prop} {K : V → Heap → Prop} {h : Heap} (hp : p_date_monthNames L K  h) : Cf F L i_date_monthNames [] h K :=
  wcallp F_date_monthNames (show 0 ≤ 2 by decide) (p := p_date_monthNames L K  h) (by kernel_rfl) hp
def k_date_Days_2 (L : FuncId → List V → V → Prop) (K : V → Heap → Prop) (v11 : V) (h : Heap) : Prop :=
    (∃ v, some v11 = some v ∧ K v h)
def k_date_Days_1 (L : FuncId → List V → V → Prop) (K : V → Heap → Prop) (v0 v1 v2 v7 v8 : V) (h : Heap) : Prop :=
    (wi F L (.bin .quo (.c v7) (.c (.int .i64 400))) E0 h fun v47 h =>
    (wi F L (.bin .rem (.c v7) (.c (.int .i64 400))) E0 h fun v49 h =>
    (wi F L (.bin .mul (.c v47) (.c (.int .i64 146097))) E0 h fun v51 h =>
    (wi F L (.bin .mul (.c v49) (.c (.int .i64 365))) E0 h fun v53 h =>
    (wi F L (.bin .add (.c v51) (.c v53)) E0 h fun v54 h =>
    (wi F L (.bin .quo (.c v49) (.c (.int .i64 4))) E0 h fun v56 h =>
    (wi F L (.bin .add (.c v54) (.c v56)) E0 h fun v57 h =>
    (wi F L (.bin .quo (.c v49) (.c (.int .i64 100))) E0 h fun v59 h =>
    (wi F L (.bin .sub (.c v57) (.c v59)) E0 h fun v60 h =>
    (wi F L (.bin .mul (.c (.int .i64 153)) (.c v8)) E0 h fun v62 h =>
    (wi F L (.bin .add (.c v62) (.c (.int .i64 2))) E0 h fun v63 h =>
    (wi F L (.bin .quo (.c v63) (.c (.int .i64 5))) E0 h fun v64 h =>
    (wi F L (.bin .add (.c v60) (.c v64)) E0 h fun v65 h =>
    (wi F L (.bin .add (.c v65) (.c v2)) E0 h fun v67 h =>
    (wi F L (.bin .sub (.c v67) (.c (.int .i64 1))) E0 h fun v68 h =>
    (wi F L (.bin .sub (.c v68) (.c (.int .i64 719468))) E0 h fun v69 h =>
    (wi F L (.call i_date_Civil [(.c v69)]) E0 h fun v72 h =>
    (wi F L (.ext 0 (.c v72)) E0 h fun v73 h =>
    (wi F L (.ext 1 (.c v72)) E0 h fun v74 h =>
    (wi F L (.ext 2 (.c v72)) E0 h fun v75 h =>
    (wi F L (.bin .neq (.c v73) (.c v0)) E0 h fun v78 h =>
    (wg v78 false (wi F L (.mv (.c v74)) E0 h) h fun v80 h =>
    (wg v78 false (wi F L (.mv (.c v1)) E0 h) h fun v81 h =>
    (wg v78 false (wi F L (.bin .neq (.c v80) (.c v81)) E0 h) h fun v82 h =>
    (wi F L (.pick (.c v78) (.c (.bool true)) (.c v82)) E0 h fun v83 h =>
    (wg v83 false (wi F L (.mv (.c v75)) E0 h) h fun v85 h =>
    (wg v83 false (wi F L (.mv (.c v2)) E0 h) h fun v86 h =>
    (wg v83 false (wi F L (.bin .neq (.c v85) (.c v86)) E0 h) h fun v87 h =>
    (wi F L (.pick (.c v83) (.c (.bool true)) (.c v87)) E0 h fun v88 h =>
    (wb v88
    (∃ v, some (.int .i64 (-1)) = some v ∧ K v h)
    (k_date_Days_2 L K v69 h)))))))))))))))))))))))))))))))
def k_date_Days_0 (L : FuncId → List V → V → Prop) (K : V → Heap → Prop) (v0 v1 v2 : V) (h : Heap) : Prop :=
    (wi F L (.bin .sub (.c v1) (.c (.int .i64 3))) E0 h fun v39 h =>
    (wi F L (.bin .leq (.c v1) (.c (.int .i64 2))) E0 h fun v41 h =>
    (wb v41
    (wi F L (.bin .sub (.c v0) (.c (.int .i64 1))) E0 h fun v43 h =>
    (wi F L (.bin .add (.c v1) (.c (.int .i64 9))) E0 h fun v45 h =>
    (k_date_Days_1 L K v0 v1 v2 v43 v45 h)))
    (k_date_Days_1 L K v0 v1 v2 v0 v39 h))))
def p_date_Days (L : FuncId → List V → V → Prop) (K : V → Heap → Prop) (a0 a1 a2 : V) (h : Heap) : Prop :=
    (wi F L (.bin .lss (.c a0) (.c (.int .i64 1970))) E0 h fun v16 h =>
    (wg v16 false (wi F L (.mv (.c a0)) E0 h) h fun v18 h =>
    (wg v16 false (wi F L (.bin .gtr (.c v18) (.c (.int .i64 9999))) E0 h) h fun v19 h =>
    (wi F L (.pick (.c v16) (.c (.bool true)) (.c v19)) E0 h fun v20 h =>
    (wg v20 false (wi F L (.mv (.c a1)) E0 h) h fun v22 h =>
    (wg v20 false (wi F L (.bin .lss (.c v22) (.c (.int .i64 1))) E0 h) h fun v23 h =>
    (wi F L (.pick (.c v20) (.c (.bool true)) (.c v23)) E0 h fun v24 h =>
    (wg v24 false (wi F L (.mv (.c a1)) E0 h) h fun v26 h =>
    (wg v24 false (wi F L (.bin .gtr (.c v26) (.c (.int .i64 12))) E0 h) h fun v27 h =>
    (wi F L (.pick (.c v24) (.c (.bool true)) (.c v27)) E0 h fun v28 h =>
    (wg v28 false (wi F L (.mv (.c a2)) E0 h) h fun v30 h =>
    (wg v28 false (wi F L (.bin .lss (.c v30) (.c (.int .i64 1))) E0 h) h fun v31 h =>
    (wi F L (.pick (.c v28) (.c (.bool true)) (.c v31)) E0 h fun v32 h =>
    (wg v32 false (wi F L (.mv (.c a2)) E0 h) h fun v34 h =>
    (wg v32 false (wi F L (.bin .gtr (.c v34) (.c (.int .i64 31))) E0 h) h fun v35 h =>
    (wi F L (.pick (.c v32) (.c (.bool true)) (.c v35)) E0 h fun v36 h =>
    (wb v36
    (∃ v, some (.int .i64 (-1)) = some v ∧ K v h)
    (k_date_Days_0 L K a0 a1 a2 h))))))))))))))))))
theorem run_date_Days {L : FuncId → List V → V → Prop} {K : V → Heap → Prop} {a0 a1 a2 : V} {h : Heap} (hp : p_date_Days L K a0 a1 a2 h) : Cf F L i_date_Days [a0, a1, a2] h K :=
  wcallp F_date_Days (show 3 ≤ 90 by decide) (p := p_date_Days L K a0 a1 a2 h) (by kernel_rfl) hp
def p_internal_stringslite_HasPrefix (L : FuncId → List V → V → Prop) (K : V → Heap → Prop) (a0 a1 : V) (h : Heap) : Prop :=
    (wi F L (.len 0 (.c a0)) E0 h fun v6 h =>
    (wi F L (.len 0 (.c a1)) E0 h fun v8 h =>
    (wi F L (.bin .geq (.c v6) (.c v8)) E0 h fun v9 h =>
    (wg v9 true (wi F L (.mv (.c a0)) E0 h) h fun v11 h =>
    (wg v9 true (wi F L (.mv (.c a1)) E0 h) h fun v12 h =>
    (wg v9 true (wi F L (.len 0 (.c v12)) E0 h) h fun v13 h =>
    (wg v9 true (wi F L (.slstr (.c v11) none (some (.c v13))) E0 h) h fun v14 h =>
    (wg v9 true (wi F L (.mv (.c a1)) E0 h) h fun v15 h =>
    (wg v9 true (wi F L (.bin .eql (.c v14) (.c v15)) E0 h) h fun v16 h =>
    (wi F L (.pick (.c v9) (.c v16) (.c (.bool false))) E0 h fun v17 h =>
    (∃ v, some v17 = some v ∧ K v h)))))))))))
theorem run_internal_stringslite_HasPrefix {L : FuncId → List V → V → Prop} {K : V → Heap → Prop} {a0 a1 : V} {h : Heap} (hp : p_internal_stringslite_HasPrefix L K a0 a1 h) : Cf F L i_internal_stringslite_HasPrefix [a0, a1] h K :=
  wcallp F_internal_stringslite_HasPrefix (show 2 ≤ 18 by decide) (p := p_internal_stringslite_HasPrefix L K a0 a1 h) (by kernel_rfl) hp
def p_internal_stringslite_HasSuffix (L : FuncId → List V → V → Prop) (K : V → Heap → Prop) (a0 a1 : V) (h : Heap) : Prop :=
    (wi F L (.len 0 (.c a0)) E0 h fun v6 h =>
    (wi F L (.len 0 (.c a1)) E0 h fun v8 h =>
    (wi F L (.bin .geq (.c v6) (.c v8)) E0 h fun v9 h =>
    (wg v9 true (wi F L (.mv (.c a0)) E0 h) h fun v11 h =>
    (wg v9 true (wi F L (.mv (.c a0)) E0 h) h fun v12 h =>
    (wg v9 true (wi F L (.len 0 (.c v12)) E0 h) h fun v13 h =>
    (wg v9 true (wi F L (.mv (.c a1)) E0 h) h fun v14 h =>
    (wg v9 true (wi F L (.len 0 (.c v14)) E0 h) h fun v15 h =>
    (wg v9 true (wi F L (.bin .sub (.c v13) (.c v15)) E0 h) h fun v16 h =>
    (wg v9 true (wi F L (.slstr (.c v11) (some (.c v16)) none) E0 h) h fun v17 h =>
    (wg v9 true (wi F L (.mv (.c a1)) E0 h) h fun v18 h =>
    (wg v9 true (wi F L (.bin .eql (.c v17) (.c v18)) E0 h) h fun v19 h =>
    (wi F L (.pick (.c v9) (.c v19) (.c (.bool false))) E0 h fun v20 h =>
    (∃ v, some v20 = some v ∧ K v h))))))))))))))
theorem run_internal_stringslite_HasSuffix {L : FuncId → List V → V → Prop} {K : V → Heap → Prop} {a0 a1 : V} {h : Heap} (hp : p_internal_stringslite_HasSuffix L K a0 a1 h) : Cf F L i_internal_stringslite_HasSuffix [a0, a1] h K :=
  wcallp F_internal_stringslite_HasSuffix (show 2 ≤ 21 by decide) (p := p_internal_stringslite_HasSuffix L K a0 a1 h) (by kernel_rfl) hp
def k_strings_makeASCIISet_0 (L : FuncId → List V → V → Prop) (K : V → Heap → Prop) (v2 : V) (h : Heap) : Prop :=
    (wi F L (.load true 256 (.c v2)) E0 h fun v20 h =>
    (wi F L (.store 256 (.c v2) (.c v20)) E0 h fun _ h =>
    (∃ v, resultsV h (enterE [v2, (.bool true)]) [.cell 0 true 256, .tmp 1] = some v ∧ K v h)))
def k_strings_makeASCIISet_2 (L : FuncId → List V → V → Prop) (K : V → Heap → Prop) (N0 : Env → Heap → Prop) (e : Env) (v4 : V) (h : Heap) : Prop :=
    (wi F L (.bin .add (.c v4) (.c (.int .i64 1))) E0 h fun v11 h =>
    (N0 (upd (upd (upd e 10 v4) 11 v11) 4 v11) h))
def k_strings_makeASCIISet_3 (L : FuncId → List V → V → Prop) (K : V → Heap → Prop) (N0 : Env → Heap → Prop) (e : Env) (v2 v4 v5 : V) (h : Heap) : Prop :=
    (wi F L (.ixaArr 256 1 (.c v2) (.c v5)) E0 h fun v19 h =>
    (wi F L (.store 1 (.c v19) (.c (.bool true))) E0 h fun _ h =>
    (k_strings_makeASCIISet_2 L K N0 (upd (upd e 18 v5) 19 v19) v4 h)))
def k_strings_makeASCIISet_1 (L : FuncId → List V → V → Prop) (K : V → Heap → Prop) (N0 : Env → Heap → Prop) (e : Env) (v0 v2 v4 : V) (h : Heap) : Prop :=
    (wi F L (.ixStr (.c v0) (.c v4)) E0 h fun v14 h =>
    (wi F L (.bin .geq (.c v14) (.c (.int .u8 128))) E0 h fun v16 h =>
    (wb v16
    (wi F L (.load true 256 (.c v2)) E0 h fun v17 h =>
    (wi F L (.store 256 (.c v2) (.c v17)) E0 h fun _ h =>
    (∃ v, resultsV h (enterE [v2, (.bool false)]) [.cell 0 true 256, .tmp 1] = some v ∧ K v h)))
    (k_strings_makeASCIISet_3 L K N0 (upd (upd (upd (upd (upd (upd e 12 v0) 13 v4) 14 v14) 5 v14) 15 v14) 16 v16) v2 v4 v14 h))))
def q_strings_makeASCIISet_0 (L : FuncId → List V → V → Prop) (K : V → Heap → Prop) : X → Env → Heap → Prop := (fun x => (seqX (fun e h => k_strings_makeASCIISet_0 L K (e 2) h) (retX c_strings_makeASCIISet.results K)) (X.out 0 x))
def lc_strings_makeASCIISet_0 : C :=
  (.seq (.seq (.region [⟨(some 6), none, .mv (.t 4)⟩, ⟨(some 7), none, .mv (.t 0)⟩, ⟨(some 8), none, .len 0 (.t 7)⟩, ⟨(some 9), none, .bin .lss (.t 6) (.t 8)⟩])
  (.cond (.t 9)
    .skip
    (.exit 0)))
  (.seq (.block 1 (.seq (.region [⟨(some 12), none, .mv (.t 0)⟩, ⟨(some 13), none, .mv (.t 4)⟩, ⟨(some 14), none, .ixStr (.t 12) (.t 13)⟩, ⟨(some 5), none, .mv (.t 14)⟩])
  (.seq (.seq (.region [⟨(some 15), none, .mv (.t 5)⟩, ⟨(some 16), none, .bin .geq (.t 15) (.c (.int .u8 128))⟩])
  (.cond (.t 16)
    (.seq (.region [⟨(some 17), none, .load true 256 (.t 2)⟩, ⟨none, none, .store 256 (.t 2) (.t 17)⟩, ⟨(some 3), none, .mv (.c (.bool false))⟩])
    .ret)
    .skip))
  (.region [⟨(some 18), none, .mv (.t 5)⟩, ⟨(some 19), none, .ixaArr 256 1 (.t 2) (.t 18)⟩, ⟨none, none, .store 1 (.t 19) (.c (.bool true))⟩]))))
  (.region [⟨(some 10), none, .mv (.t 4)⟩, ⟨(some 11), none, .bin .add (.t 10) (.c (.int .i64 1))⟩, ⟨(some 4), none, .mv (.t 11)⟩])))
def b_strings_makeASCIISet_0 (L : FuncId → List V → V → Prop) (K : V → Heap → Prop) (N0 : Env → Heap → Prop) (e : Env) (h : Heap) : Prop :=
    (wi F L (.len 0 (.c (e 0))) E0 h fun v8 h =>
    (wi F L (.bin .lss (.c (e 4)) (.c v8)) E0 h fun v9 h =>
    (wb v9
    (k_strings_makeASCIISet_1 L K N0 (upd (upd (upd (upd e 6 (e 4)) 7 (e 0)) 8 v8) 9 v9) (e 0) (e 2) (e 4) h)
    (k_strings_makeASCIISet_0 L K (e 2) h))))
theorem l_strings_makeASCIISet_0 {L : FuncId → List V → V → Prop} {K : V → Heap → Prop} (I : Nat → Env → Heap → Prop) (hr : ∀ n e h, I n e h → b_strings_makeASCIISet_0 L K (fun e' h' => ∃ m, m < n ∧ I m e' h') e h) {n : Nat} {e : Env} {h : Heap} (hi : I n e h) : Wl F L lc_strings_makeASCIISet_0 (q_strings_makeASCIISet_0 L K) e h :=
  wloopp (b := b_strings_makeASCIISet_0 L K) I (fun _ _ _ => by kernel_rfl) hr hi
def p_strings_makeASCIISet (L : FuncId → List V → V → Prop) (K : V → Heap → Prop) (a0 : V) (h : Heap) : Prop :=
    (wi F L (.boxz (List.replicate 256 (.bool false))) E0 h fun v2 h =>
    (Wl F L lc_strings_makeASCIISet_0 (q_strings_makeASCIISet_0 L K) (upd (upd (upd (enterE [a0]) 2 v2) 3 (.bool false)) 4 (.int .i64 0)) h))
theorem run_strings_makeASCIISet {L : FuncId → List V → V → Prop} {K : V → Heap → Prop} {a0 : V} {h : Heap} (hp : p_strings_makeASCIISet L K a0 h) : Cf F L i_strings_makeASCIISet [a0] h K :=
  wcallp F_strings_makeASCIISet (show 1 ≤ 21 by decide) (p := p_strings_makeASCIISet L K a0 h) (by kernel_rfl) hp
def k_strings_trimLeftASCII_0 (L : FuncId → List V → V → Prop) (K : V → Heap → Prop) (v0 : V) (h : Heap) : Prop :=
    (∃ v, some v0 = some v ∧ K v h)
def k_strings_trimLeftASCII_2 (L : FuncId → List V → V → Prop) (K : V → Heap → Prop) (N0 : Env → Heap → Prop) (e : Env) (v0 : V) (h : Heap) : Prop :=
    (wi F L (.slstr (.c v0) (some (.c (.int .i64 1))) none) E0 h fun v14 h =>
    (N0 (upd (upd (upd e 13 v0) 14 v14) 0 v14) h))
def k_strings_trimLeftASCII_1 (L : FuncId → List V → V → Prop) (K : V → Heap → Prop) (N0 : Env → Heap → Prop) (e : Env) (v0 v1 : V) (h : Heap) : Prop :=
    (wi F L (.ixStr (.c v0) (.c (.int .i64 0))) E0 h fun v10 h =>
    (wi F L (.call i___strings_asciiSet__contains [(.c v1), (.c v10)]) E0 h fun v11 h =>
    (wi F L (.un .not (.c v11)) E0 h fun v12 h =>
    (wb v12
    (k_strings_trimLeftASCII_0 L K v0 h)
    (k_strings_trimLeftASCII_2 L K N0 (upd (upd (upd (upd (upd e 8 v1) 9 v0) 10 v10) 11 v11) 12 v12) v0 h)))))
def q_strings_trimLeftASCII_0 (L : FuncId → List V → V → Prop) (K : V → Heap → Prop) : X → Env → Heap → Prop := (fun x => (seqX (fun e h => k_strings_trimLeftASCII_0 L K (e 0) h) (retX c_strings_trimLeftASCII.results K)) (X.out 0 x))
def lc_strings_trimLeftASCII_0 : C :=
  (.seq (.seq (.region [⟨(some 5), none, .mv (.t 0)⟩, ⟨(some 6), none, .len 0 (.t 5)⟩, ⟨(some 7), none, .bin .gtr (.t 6) (.c (.int .i64 0))⟩])
  (.cond (.t 7)
    .skip
    (.exit 0)))
  (.block 1 (.seq (.seq (.region [⟨(some 8), none, .mv (.t 1)⟩, ⟨(some 9), none, .mv (.t 0)⟩, ⟨(some 10), none, .ixStr (.t 9) (.c (.int .i64 0))⟩, ⟨(some 11), none, .call i___strings_asciiSet__contains [(.t 8), (.t 10)]⟩, ⟨(some 12), none, .un .not (.t 11)⟩])
  (.cond (.t 12)
    (.exit 0)
    .skip))
  (.region [⟨(some 13), none, .mv (.t 0)⟩, ⟨(some 14), none, .slstr (.t 13) (some (.c (.int .i64 1))) none⟩, ⟨(some 0), none, .mv (.t 14)⟩]))))
def b_strings_trimLeftASCII_0 (L : FuncId → List V → V → Prop) (K : V → Heap → Prop) (N0 : Env → Heap → Prop) (e : Env) (h : Heap) : Prop :=
    (wi F L (.len 0 (.c (e 0))) E0 h fun v6 h =>
    (wi F L (.bin .gtr (.c v6) (.c (.int .i64 0))) E0 h fun v7 h =>
    (wb v7
    (k_strings_trimLeftASCII_1 L K N0 (upd (upd (upd e 5 (e 0)) 6 v6) 7 v7) (e 0) (e 1) h)
    (k_strings_trimLeftASCII_0 L K (e 0) h))))
theorem l_strings_trimLeftASCII_0 {L : FuncId → List V → V → Prop} {K : V → Heap → Prop} (I : Nat → Env → Heap → Prop) (hr : ∀ n e h, I n e h → b_strings_trimLeftASCII_0 L K (fun e' h' => ∃ m, m < n ∧ I m e' h') e h) {n : Nat} {e : Env} {h : Heap} (hi : I n e h) : Wl F L lc_strings_trimLeftASCII_0 (q_strings_trimLeftASCII_0 L K) e h :=
  wloopp (b := b_strings_trimLeftASCII_0 L K) I (fun _ _ _ => by kernel_rfl) hr hi
def p_strings_trimLeftASCII (L : FuncId → List V → V → Prop) (K : V → Heap → Prop) (a0 a1 : V) (h : Heap) : Prop :=
    (Wl F L lc_strings_trimLeftASCII_0 (q_strings_trimLeftASCII_0 L K) (upd (enterE [a0, a1]) 4 (.str [])) h)
theorem run_strings_trimLeftASCII {L : FuncId → List V → V → Prop} {K : V → Heap → Prop} {a0 a1 : V} {h : Heap} (hp : p_strings_trimLeftASCII L K a0 a1 h) : Cf F L i_strings_trimLeftASCII [a0, a1] h K :=
  wcallp F_strings_trimLeftASCII (show 2 ≤ 16 by decide) (p := p_strings_trimLeftASCII L K a0 a1 h) (by kernel_rfl) hp
def k_strings_trimRightASCII_0 (L : FuncId → List V → V → Prop) (K : V → Heap → Prop) (v0 : V) (h : Heap) : Prop :=
    (∃ v, some v0 = some v ∧ K v h)
def k_strings_trimRightASCII_2 (L : FuncId → List V → V → Prop) (K : V → Heap → Prop) (N0 : Env → Heap → Prop) (e : Env) (v0 : V) (h : Heap) : Prop :=
    (wi F L (.len 0 (.c v0)) E0 h fun v18 h =>
    (wi F L (.bin .sub (.c v18) (.c (.int .i64 1))) E0 h fun v19 h =>
    (wi F L (.slstr (.c v0) none (some (.c v19))) E0 h fun v20 h =>
    (N0 (upd (upd (upd (upd (upd (upd e 16 v0) 17 v0) 18 v18) 19 v19) 20 v20) 0 v20) h))))
def k_strings_trimRightASCII_1 (L : FuncId → List V → V → Prop) (K : V → Heap → Prop) (N0 : Env → Heap → Prop) (e : Env) (v0 v1 : V) (h : Heap) : Prop :=
    (wi F L (.len 0 (.c v0)) E0 h fun v11 h =>
    (wi F L (.bin .sub (.c v11) (.c (.int .i64 1))) E0 h fun v12 h =>
    (wi F L (.ixStr (.c v0) (.c v12)) E0 h fun v13 h =>
    (wi F L (.call i___strings_asciiSet__contains [(.c v1), (.c v13)]) E0 h fun v14 h =>
    (wi F L (.un .not (.c v14)) E0 h fun v15 h =>
    (wb v15
    (k_strings_trimRightASCII_0 L K v0 h)
    (k_strings_trimRightASCII_2 L K N0 (upd (upd (upd (upd (upd (upd (upd (upd e 8 v1) 9 v0) 10 v0) 11 v11) 12 v12) 13 v13) 14 v14) 15 v15) v0 h)))))))
def q_strings_trimRightASCII_0 (L : FuncId → List V → V → Prop) (K : V → Heap → Prop) : X → Env → Heap → Prop := (fun x => (seqX (fun e h => k_strings_trimRightASCII_0 L K (e 0) h) (retX c_strings_trimRightASCII.results K)) (X.out 0 x))
def lc_strings_trimRightASCII_0 : C :=
  (.seq (.seq (.region [⟨(some 5), none, .mv (.t 0)⟩, ⟨(some 6), none, .len 0 (.t 5)⟩, ⟨(some 7), none, .bin .gtr (.t 6) (.c (.int .i64 0))⟩])
  (.cond (.t 7)
    .skip
    (.exit 0)))
  (.block 1 (.seq (.seq (.region [⟨(some 8), none, .mv (.t 1)⟩, ⟨(some 9), none, .mv (.t 0)⟩, ⟨(some 10), none, .mv (.t 0)⟩, ⟨(some 11), none, .len 0 (.t 10)⟩, ⟨(some 12), none, .bin .sub (.t 11) (.c (.int .i64 1))⟩, ⟨(some 13), none, .ixStr (.t 9) (.t 12)⟩, ⟨(some 14), none, .call i___strings_asciiSet__contains [(.t 8), (.t 13)]⟩, ⟨(some 15), none, .un .not (.t 14)⟩])
  (.cond (.t 15)
    (.exit 0)
    .skip))
  (.region [⟨(some 16), none, .mv (.t 0)⟩, ⟨(some 17), none, .mv (.t 0)⟩, ⟨(some 18), none, .len 0 (.t 17)⟩, ⟨(some 19), none, .bin .sub (.t 18) (.c (.int .i64 1))⟩, ⟨(some 20), none, .slstr (.t 16) none (some (.t 19))⟩, ⟨(some 0), none, .mv (.t 20)⟩]))))
def b_strings_trimRightASCII_0 (L : FuncId → List V → V → Prop) (K : V → Heap → Prop) (N0 : Env → Heap → Prop) (e : Env) (h : Heap) : Prop :=
    (wi F L (.len 0 (.c (e 0))) E0 h fun v6 h =>
    (wi F L (.bin .gtr (.c v6) (.c (.int .i64 0))) E0 h fun v7 h =>
    (wb v7
    (k_strings_trimRightASCII_1 L K N0 (upd (upd (upd e 5 (e 0)) 6 v6) 7 v7) (e 0) (e 1) h)
    (k_strings_trimRightASCII_0 L K (e 0) h))))
theorem l_strings_trimRightASCII_0 {L : FuncId → List V → V → Prop} {K : V → Heap → Prop} (I : Nat → Env → Heap → Prop) (hr : ∀ n e h, I n e h → b_strings_trimRightASCII_0 L K (fun e' h' => ∃ m, m < n ∧ I m e' h') e h) {n : Nat} {e : Env} {h : Heap} (hi : I n e h) : Wl F L lc_strings_trimRightASCII_0 (q_strings_trimRightASCII_0 L K) e h :=
  wloopp (b := b_strings_trimRightASCII_0 L K) I (fun _ _ _ => by kernel_rfl) hr hi
def p_strings_trimRightASCII (L : FuncId → List V → V → Prop) (K : V → Heap → Prop) (a0 a1 : V) (h : Heap) : Prop :=
    (Wl F L lc_strings_trimRightASCII_0 (q_strings_trimRightASCII_0 L K) (upd (enterE [a0, a1]) 4 (.str [])) h)
theorem run_strings_trimRightASCII {L : FuncId → List V → V → Prop} {K : V → Heap → Prop} {a0 a1 : V} {h : Heap} (hp : p_strings_trimRightASCII L K a0 a1 h) : Cf F L i_strings_trimRightASCII [a0, a1] h K :=
  wcallp F_strings_trimRightASCII (show 2 ≤ 22 by decide) (p := p_strings_trimRightASCII L K a0 a1 h) (by kernel_rfl) hp
def k_date_Civil_1 (L : FuncId → List V → V → Prop) (K : V → Heap → Prop) (v2 v3 v4 : V) (h : Heap) : Prop :=
    (∃ v, resultsV h (enterE [v2, v3, v4]) [.tmp 0, .tmp 1, .tmp 2] = some v ∧ K v h)
def k_date_Civil_0 (L : FuncId → List V → V → Prop) (K : V → Heap → Prop) (v0 : V) (h : Heap) : Prop :=
    (wi F L (.bin .add (.c v0) (.c (.int .i64 719468))) E0 h fun v18 h =>
    (wi F L (.bin .quo (.c v18) (.c (.int .i64 146097))) E0 h fun v20 h =>
    (wi F L (.bin .rem (.c v18) (.c (.int .i64 146097))) E0 h fun v22 h =>
    (wi F L (.bin .quo (.c v22) (.c (.int .i64 1460))) E0 h fun v25 h =>
    (wi F L (.bin .sub (.c v22) (.c v25)) E0 h fun v26 h =>
    (wi F L (.bin .quo (.c v22) (.c (.int .i64 36524))) E0 h fun v28 h =>
    (wi F L (.bin .add (.c v26) (.c v28)) E0 h fun v29 h =>
    (wi F L (.bin .quo (.c v22) (.c (.int .i64 146096))) E0 h fun v31 h =>
    (wi F L (.bin .sub (.c v29) (.c v31)) E0 h fun v32 h =>
    (wi F L (.bin .quo (.c v32) (.c (.int .i64 365))) E0 h fun v33 h =>
    (wi F L (.bin .mul (.c (.int .i64 365)) (.c v33)) E0 h fun v36 h =>
    (wi F L (.bin .quo (.c v33) (.c (.int .i64 4))) E0 h fun v38 h =>
    (wi F L (.bin .add (.c v36) (.c v38)) E0 h fun v39 h =>
    (wi F L (.bin .quo (.c v33) (.c (.int .i64 100))) E0 h fun v41 h =>
    (wi F L (.bin .sub (.c v39) (.c v41)) E0 h fun v42 h =>
    (wi F L (.bin .sub (.c v22) (.c v42)) E0 h fun v43 h =>
    (wi F L (.bin .mul (.c (.int .i64 5)) (.c v43)) E0 h fun v45 h =>
    (wi F L (.bin .add (.c v45) (.c (.int .i64 2))) E0 h fun v46 h =>
    (wi F L (.bin .quo (.c v46) (.c (.int .i64 153))) E0 h fun v47 h =>
    (wi F L (.bin .mul (.c (.int .i64 153)) (.c v47)) E0 h fun v50 h =>
    (wi F L (.bin .add (.c v50) (.c (.int .i64 2))) E0 h fun v51 h =>
    (wi F L (.bin .quo (.c v51) (.c (.int .i64 5))) E0 h fun v52 h =>
    (wi F L (.bin .sub (.c v43) (.c v52)) E0 h fun v53 h =>
    (wi F L (.bin .add (.c v53) (.c (.int .i64 1))) E0 h fun v54 h =>
    (wi F L (.bin .add (.c v47) (.c (.int .i64 3))) E0 h fun v56 h =>
    (wi F L (.bin .mul (.c (.int .i64 400)) (.c v20)) E0 h fun v59 h =>
    (wi F L (.bin .add (.c v33) (.c v59)) E0 h fun v60 h =>
    (wi F L (.bin .gtr (.c v56) (.c (.int .i64 12))) E0 h fun v62 h =>
    (wb v62
    (wi F L (.bin .sub (.c v56) (.c (.int .i64 12))) E0 h fun v64 h =>
    (wi F L (.bin .add (.c v60) (.c (.int .i64 1))) E0 h fun v66 h =>
    (k_date_Civil_1 L K v66 v64 v54 h)))
    (k_date_Civil_1 L K v60 v56 v54 h))))))))))))))))))))))))))))))
def p_date_Civil (L : FuncId → List V → V → Prop) (K : V → Heap → Prop) (a0 : V) (h : Heap) : Prop :=
    (wi F L (.bin .lss (.c a0) (.c (.int .i64 0))) E0 h fun v12 h =>
    (wg v12 false (wi F L (.mv (.c a0)) E0 h) h fun v14 h =>
    (wg v12 false (wi F L (.bin .gtr (.c v14) (.c (.int .i64 2932896))) E0 h) h fun v15 h =>
    (wi F L (.pick (.c v12) (.c (.bool true)) (.c v15)) E0 h fun v16 h =>
    (wb v16
    (∃ v, resultsV h (enterE [(.int .i64 0), (.int .i64 0), (.int .i64 0)]) [.tmp 0, .tmp 1, .tmp 2] = some v ∧ K v h)
    (k_date_Civil_0 L K a0 h))))))
theorem run_date_Civil {L : FuncId → List V → V → Prop} {K : V → Heap → Prop} {a0 : V} {h : Heap} (hp : p_date_Civil L K a0 h) : Cf F L i_date_Civil [a0] h K :=
  wcallp F_date_Civil (show 1 ≤ 70 by decide) (p := p_date_Civil L K a0 h) (by kernel_rfl) hp
def p___strings_asciiSet__contains (L : FuncId → List V → V → Prop) (K : V → Heap → Prop) (a0 a1 : V) (h : Heap) : Prop :=
    (wi F L (.nilck (.c a0)) E0 h fun v7 h =>
    (wi F L (.ixaArr 256 1 (.c v7) (.c a1)) E0 h fun v8 h =>
    (wi F L (.load false 1 (.c v8)) E0 h fun v9 h =>
    (∃ v, some v9 = some v ∧ K v h))))
theorem run___strings_asciiSet__contains {L : FuncId → List V → V → Prop} {K : V → Heap → Prop} {a0 a1 : V} {h : Heap} (hp : p___strings_asciiSet__contains L K a0 a1 h) : Cf F L i___strings_asciiSet__contains [a0, a1] h K :=
  wcallp F___strings_asciiSet__contains (show 2 ≤ 10 by decide) (p := p___strings_asciiSet__contains L K a0 a1 h) (by kernel_rfl) hp
theorem hF : ∀ f fn, F f = some fn → compF Tryd.prog f = some fn := lookup_all ⟨kc_gatepostlaw12_ValidatorTimes, kc_gatepostref02_Format, kc_validator_Unchanged, kc_validator_Applies, kc_gatepostref02_Civil, kc_gatepostref02_short, kc_gatepostref02_two, kc_gatepostref02_months, kc_field_Get, kc_validator_matches, kc_validator_one, kc_date_Parse, kc_validator_Parse, kc_validator_Strong, kc_gatepostref02_year, kc_gatepostref02_long, kc_token_Same, kc_token_Split, kc_slices_ContainsFunc___string_string_, kc_validator_matches_1, kc_validator_Weak, kc_date_fixed, kc_date_old, kc_date_plain, kc_strings_CutPrefix, kc_strings_CutSuffix, kc_gatepostref02_leap, kc_token_Lower, kc_token_Split_1, kc_token_Trim, kc_slices_IndexFunc___string_string_, kc___gatepost_date_reader__day, kc___gatepost_date_reader__need, kc___gatepost_date_reader__number, kc___gatepost_date_reader__month, kc___gatepost_date_reader__clock, kc___gatepost_date_reader__second, kc___gatepost_date_reader__take, kc_internal_stringslite_CutPrefix, kc_internal_stringslite_CutSuffix, kc_strings_Trim, kc_date_longDays, kc___gatepost_date_reader__number_1, kc_date_monthNames, kc_date_Days, kc_internal_stringslite_HasPrefix, kc_internal_stringslite_HasSuffix, kc_strings_makeASCIISet, kc_strings_trimLeftASCII, kc_strings_trimRightASCII, kc_date_Civil, kc___strings_asciiSet__contains, trivial⟩
theorem hm : Tryd.prog.follows .mixedOrders = true := by kernel_rfl
end Go.Proofs.YtfkebmdfcpnaeaaDoor.Vh
