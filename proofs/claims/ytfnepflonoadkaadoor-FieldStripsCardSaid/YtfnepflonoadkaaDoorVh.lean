/- The functions of a seat, compiled for the small machine. Printed by Print.lean. -/
import Derived.Test.YtfnepflonoadkaaDoorProg
import Derived.Test.YtfnepflonoadkaaDoorVmSet
import Derived.KernelRfl
set_option maxRecDepth 100000
set_option linter.unusedVariables false
namespace Go.Proofs.YtfnepflonoadkaaDoor.Vh
open Go.Vm
def i_main_main : FuncId := 0
def i_gosem_cut : FuncId := 1
def i_gosem_cut_init : FuncId := 2
def i_gatepostlaw04_FieldParses : FuncId := 3
def i_gatepostlaw04_FieldBack : FuncId := 4
def i_gatepostlaw04_FieldNames : FuncId := 5
def i_gatepostlaw04_FieldStrips : FuncId := 6
def i_gatepostlaw04_FieldGets : FuncId := 7
def i_gatepostlaw04_few : FuncId := 8
def i_field_Parse : FuncId := 9
def i_gatepostref04_Parse : FuncId := 10
def i_field_Line : FuncId := 11
def i_gatepostref04_Line : FuncId := 12
def i_field_Names : FuncId := 13
def i_token_Is : FuncId := 14
def i_token_Lower : FuncId := 15
def i_field_Strip : FuncId := 16
def i_field_Get : FuncId := 17
def i_gatepostref04_Same : FuncId := 18
def i_gatepostref04_Get : FuncId := 19
def i_gatepostref04_Names : FuncId := 20
def i_gatepostlaw04_texts : FuncId := 21
def i_field_Del : FuncId := 22
def i_gatepostref04_Del : FuncId := 23
def i_field_Set : FuncId := 24
def i_gatepostref04_Set : FuncId := 25
def i_gatepostref04_Strip : FuncId := 26
def i_strings_Cut : FuncId := 27
def i_token_Trim : FuncId := 28
def i_field_fine : FuncId := 29
def i_gatepostref01_Is : FuncId := 30
def i_gatepostref01_Trim : FuncId := 31
def i_gatepostref01_Value : FuncId := 32
def i_token_Split : FuncId := 33
def i_token_all : FuncId := 34
def i_token_inToken : FuncId := 35
def i_field_without : FuncId := 36
def i_token_Same : FuncId := 37
def i_strings_Join : FuncId := 38
def i_gatepostref01_Same : FuncId := 39
def i_gatepostref01_Split : FuncId := 40
def i_gatepostref01_Lower : FuncId := 41
def i_internal_stringslite_Cut : FuncId := 42
def i_strings_Trim : FuncId := 43
def i_token_Value : FuncId := 44
def i_gatepostref01_tchar : FuncId := 45
def i_gatepostref01_blank : FuncId := 46
def i_token_Split_1 : FuncId := 47
def i_token_marks : FuncId := 48
def i_field_keep : FuncId := 49
def i_field_without_1 : FuncId := 50
def i___strings_Builder__Grow : FuncId := 51
def i___strings_Builder__WriteString : FuncId := 52
def i___strings_Builder__String : FuncId := 53
def i_internal_stringslite_Index : FuncId := 54
def i_strings_trimLeftByte : FuncId := 55
def i_strings_trimRightByte : FuncId := 56
def i_strings_makeASCIISet : FuncId := 57
def i_strings_trimLeftASCII : FuncId := 58
def i_strings_trimRightASCII : FuncId := 59
def i_strings_trimLeftUnicode : FuncId := 60
def i_strings_trimRightUnicode : FuncId := 61
def i_token_Value_1 : FuncId := 62
def i_token_isBlank : FuncId := 63
def i___strings_Builder__copyCheck : FuncId := 64
def i___strings_Builder__grow : FuncId := 65
def i_internal_stringslite_IndexByte : FuncId := 66
def i_internal_bytealg_IndexString : FuncId := 67
def i_internal_bytealg_Cutover : FuncId := 68
def i_internal_bytealg_IndexRabinKarp_string_ : FuncId := 69
def i___strings_asciiSet__contains : FuncId := 70
def i_unicode_utf8_DecodeRuneInString : FuncId := 71
def i_strings_ContainsRune : FuncId := 72
def i_unicode_utf8_DecodeLastRuneInString : FuncId := 73
def i_internal_abi_NoEscape : FuncId := 74
def i_internal_bytealg_MakeNoZero : FuncId := 75
def i_internal_bytealg_IndexByteString : FuncId := 76
def i_internal_bytealg_hashStr_string_ : FuncId := 77
def i_unicode_utf8_decodeRuneInStringSlow : FuncId := 78
def i_strings_IndexRune : FuncId := 79
def i_unicode_utf8_RuneStart : FuncId := 80
def i_strings_IndexByte : FuncId := 81
def i_unicode_utf8_ValidRune : FuncId := 82
def i___runtime_TypeAssertionError__Error : FuncId := 91
def i___runtime_TypeAssertionError__RuntimeError : FuncId := 92
def i___runtime_PanicNilError__Error : FuncId := 93
def i___runtime_PanicNilError__RuntimeError : FuncId := 94
def i___internal_abi_Type__Align : FuncId := 95
def i__internal_runtime_maps_unhashableTypeError__Error : FuncId := 96
def i__internal_runtime_maps_unhashableTypeError__RuntimeError : FuncId := 97
def i__gatepost_api_Errno__Error : FuncId := 98
def i___strings_Builder__Reset : FuncId := 99
def i__internal_abi_Kind__String : FuncId := 100
def i_var_s_door__gosem_cut_vars_holds_initialisers_alone__see_the_manifest_s_row_cutvarsword__look_11__test_files_too_ : FuncId := 101
def i_var_s_door__the_look_of_gosem_cut_vars_went_over_the_folder_that_the_caller_named_as_the_repository_s_root__look_11_ : FuncId := 102
def i_var_s_door__unicode_utf8_acceptRanges_is_laid_by_its_own_initialiser__plain_data__look_11_ : FuncId := 103
def i_var_s_door__unicode_utf8_first_is_laid_by_its_text_alone__pinned_1_ : FuncId := 104
def i_gosem_cut_vars : FuncId := 105
/-- gatepost/gatepostlaw04.FieldParses -/
def c_gatepostlaw04_FieldParses : FnC := ⟨71, [.tmp 4],
  (.seq (.region [⟨(some 3), none, .box (.t 1)⟩, ⟨(some 4), none, .mv (.c (.bool false))⟩])
  (.seq (.seq (.region [⟨(some 13), none, .mv (.t 0)⟩, ⟨(some 14), none, .len 0 (.t 13)⟩, ⟨(some 15), none, .bin .gtr (.t 14) (.c (.int .i64 2000))⟩, ⟨(some 16), none, .mv (.t 15)⟩, ⟨(some 17), (some (16, false)), .load true 2 (.t 3)⟩, ⟨(some 18), (some (16, false)), .bsl 2 [(.t 17)]⟩, ⟨(some 19), (some (16, false)), .call i_gatepostlaw04_few [(.t 18)]⟩, ⟨(some 20), (some (16, false)), .un .not (.t 19)⟩, ⟨(some 21), none, .pick (.t 16) (.c (.bool true)) (.t 20)⟩])
  (.cond (.t 21)
    (.seq (.region [⟨(some 4), none, .mv (.c (.bool true))⟩])
    .ret)
    .skip))
  (.seq (.region [⟨(some 23), none, .mv (.t 0)⟩, ⟨(some 24), none, .call i_field_Parse [(.t 23)]⟩, ⟨(some 22), none, .mv (.t 24)⟩, ⟨(some 25), none, .ext 0 (.t 22)⟩, ⟨(some 26), none, .ext 1 (.t 22)⟩, ⟨(some 5), none, .boxz [(.str []), (.str [])]⟩, ⟨none, none, .store 2 (.t 5) (.t 25)⟩, ⟨(some 6), none, .mv (.t 26)⟩])
  (.seq (.region [⟨(some 28), none, .mv (.t 0)⟩, ⟨(some 29), none, .call i_gatepostref04_Parse [(.t 28)]⟩, ⟨(some 27), none, .mv (.t 29)⟩, ⟨(some 30), none, .ext 0 (.t 27)⟩, ⟨(some 31), none, .ext 1 (.t 27)⟩, ⟨(some 7), none, .boxz [(.str []), (.str [])]⟩, ⟨none, none, .store 2 (.t 7) (.t 30)⟩, ⟨(some 8), none, .mv (.t 31)⟩])
  (.seq (.region [⟨(some 33), none, .load true 2 (.t 3)⟩, ⟨(some 34), none, .call i_field_Line [(.t 33)]⟩, ⟨(some 32), none, .mv (.t 34)⟩, ⟨(some 35), none, .ext 0 (.t 32)⟩, ⟨(some 36), none, .ext 1 (.t 32)⟩, ⟨(some 9), none, .mv (.t 35)⟩, ⟨(some 10), none, .mv (.t 36)⟩])
  (.seq (.region [⟨(some 38), none, .load true 2 (.t 3)⟩, ⟨(some 39), none, .call i_gatepostref04_Line [(.t 38)]⟩, ⟨(some 37), none, .mv (.t 39)⟩, ⟨(some 40), none, .ext 0 (.t 37)⟩, ⟨(some 41), none, .ext 1 (.t 37)⟩, ⟨(some 11), none, .mv (.t 40)⟩, ⟨(some 12), none, .mv (.t 41)⟩])
  (.seq (.region [⟨(some 42), none, .faddr 0 (.t 5)⟩, ⟨(some 43), none, .load false 1 (.t 42)⟩, ⟨(some 44), none, .faddr 0 (.t 7)⟩, ⟨(some 45), none, .load false 1 (.t 44)⟩, ⟨(some 46), none, .bin .eql (.t 43) (.t 45)⟩, ⟨(some 47), none, .mv (.t 46)⟩, ⟨(some 48), (some (47, true)), .faddr 1 (.t 5)⟩, ⟨(some 49), (some (47, true)), .load false 1 (.t 48)⟩, ⟨(some 50), (some (47, true)), .faddr 1 (.t 7)⟩, ⟨(some 51), (some (47, true)), .load false 1 (.t 50)⟩, ⟨(some 52), (some (47, true)), .bin .eql (.t 49) (.t 51)⟩, ⟨(some 53), none, .pick (.t 47) (.t 52) (.c (.bool false))⟩, ⟨(some 54), none, .mv (.t 53)⟩, ⟨(some 55), (some (54, true)), .mv (.t 6)⟩, ⟨(some 56), (some (54, true)), .mv (.t 8)⟩, ⟨(some 57), (some (54, true)), .bin .eql (.t 55) (.t 56)⟩, ⟨(some 58), none, .pick (.t 54) (.t 57) (.c (.bool false))⟩, ⟨(some 59), none, .mv (.t 58)⟩, ⟨(some 60), (some (59, true)), .mv (.t 9)⟩, ⟨(some 61), (some (59, true)), .mv (.t 11)⟩, ⟨(some 62), (some (59, true)), .bin .eql (.t 60) (.t 61)⟩, ⟨(some 63), none, .pick (.t 59) (.t 62) (.c (.bool false))⟩, ⟨(some 64), none, .mv (.t 63)⟩, ⟨(some 65), (some (64, true)), .mv (.t 10)⟩, ⟨(some 66), (some (64, true)), .mv (.t 12)⟩, ⟨(some 67), (some (64, true)), .bin .eql (.t 65) (.t 66)⟩, ⟨(some 68), none, .pick (.t 64) (.t 67) (.c (.bool false))⟩, ⟨(some 69), none, .mv (.t 68)⟩, ⟨(some 70), none, .pick (.t 69) (.c (.bool true)) (.c (.bool false))⟩, ⟨(some 4), none, .mv (.t 70)⟩])
  .ret)))))))⟩
/-- gatepost/gatepostlaw04.FieldBack -/
def c_gatepostlaw04_FieldBack : FnC := ⟨108, [.tmp 4],
  (.seq (.region [⟨(some 2), none, .box (.t 0)⟩, ⟨(some 4), none, .mv (.c (.bool false))⟩])
  (.seq (.seq (.region [⟨(some 15), none, .load true 2 (.t 2)⟩, ⟨(some 16), none, .bsl 2 [(.t 15)]⟩, ⟨(some 17), none, .call i_gatepostlaw04_few [(.t 16)]⟩, ⟨(some 18), none, .un .not (.t 17)⟩, ⟨(some 19), none, .mv (.t 18)⟩, ⟨(some 20), (some (19, false)), .mv (.t 1)⟩, ⟨(some 21), (some (19, false)), .len 0 (.t 20)⟩, ⟨(some 22), (some (19, false)), .bin .gtr (.t 21) (.c (.int .i64 2000))⟩, ⟨(some 23), none, .pick (.t 19) (.c (.bool true)) (.t 22)⟩])
  (.cond (.t 23)
    (.seq (.region [⟨(some 4), none, .mv (.c (.bool true))⟩])
    .ret)
    .skip))
  (.seq (.region [⟨(some 25), none, .build [(.str []), (.str [])] [(0, 1, (.c (.str [65, 103, 101]))), (1, 1, (.c (.str [53])))]⟩, ⟨(some 26), none, .call i_field_Line [(.t 25)]⟩, ⟨(some 24), none, .mv (.t 26)⟩, ⟨(some 27), none, .ext 0 (.t 24)⟩, ⟨(some 28), none, .ext 1 (.t 24)⟩, ⟨(some 5), none, .mv (.t 27)⟩, ⟨(some 6), none, .mv (.t 28)⟩])
  (.seq (.seq (.region [⟨(some 29), none, .mv (.t 5)⟩, ⟨(some 30), none, .bin .neq (.t 29) (.c (.str [65, 103, 101, 58, 32, 53]))⟩, ⟨(some 31), none, .mv (.t 30)⟩, ⟨(some 32), (some (31, false)), .mv (.t 6)⟩, ⟨(some 33), (some (31, false)), .bin .neq (.t 32) (.c (.int .i64 0))⟩, ⟨(some 34), none, .pick (.t 31) (.c (.bool true)) (.t 33)⟩])
  (.cond (.t 34)
    (.seq (.region [⟨(some 4), none, .mv (.c (.bool false))⟩])
    .ret)
    .skip))
  (.seq (.seq (.region [⟨(some 36), none, .load true 2 (.t 2)⟩, ⟨(some 37), none, .call i_field_Line [(.t 36)]⟩, ⟨(some 35), none, .mv (.t 37)⟩, ⟨(some 38), none, .ext 0 (.t 35)⟩, ⟨(some 39), none, .ext 1 (.t 35)⟩, ⟨(some 7), none, .mv (.t 38)⟩, ⟨(some 8), none, .mv (.t 39)⟩])
  (.seq (.region [⟨(some 40), none, .mv (.t 8)⟩, ⟨(some 41), none, .bin .eql (.t 40) (.c (.int .i64 0))⟩])
  (.cond (.t 41)
    (.seq (.region [⟨(some 43), none, .mv (.t 7)⟩, ⟨(some 44), none, .call i_field_Parse [(.t 43)]⟩, ⟨(some 42), none, .mv (.t 44)⟩, ⟨(some 45), none, .ext 0 (.t 42)⟩, ⟨(some 46), none, .ext 1 (.t 42)⟩, ⟨(some 9), none, .boxz [(.str []), (.str [])]⟩, ⟨none, none, .store 2 (.t 9) (.t 45)⟩, ⟨(some 10), none, .mv (.t 46)⟩])
    (.seq (.region [⟨(some 47), none, .mv (.t 10)⟩, ⟨(some 48), none, .bin .neq (.t 47) (.c (.int .i64 0))⟩, ⟨(some 49), none, .mv (.t 48)⟩, ⟨(some 50), (some (49, false)), .faddr 0 (.t 9)⟩, ⟨(some 51), (some (49, false)), .load false 1 (.t 50)⟩, ⟨(some 52), (some (49, false)), .faddr 0 (.t 2)⟩, ⟨(some 53), (some (49, false)), .load false 1 (.t 52)⟩, ⟨(some 54), (some (49, false)), .bin .neq (.t 51) (.t 53)⟩, ⟨(some 55), none, .pick (.t 49) (.c (.bool true)) (.t 54)⟩, ⟨(some 56), none, .mv (.t 55)⟩, ⟨(some 57), (some (56, false)), .faddr 1 (.t 9)⟩, ⟨(some 58), (some (56, false)), .load false 1 (.t 57)⟩, ⟨(some 59), (some (56, false)), .faddr 1 (.t 2)⟩, ⟨(some 60), (some (56, false)), .load false 1 (.t 59)⟩, ⟨(some 61), (some (56, false)), .bin .neq (.t 58) (.t 60)⟩, ⟨(some 62), none, .pick (.t 56) (.c (.bool true)) (.t 61)⟩])
    (.cond (.t 62)
      (.seq (.region [⟨(some 4), none, .mv (.c (.bool false))⟩])
      .ret)
      .skip)))
    .skip)))
  (.seq (.region [⟨(some 64), none, .mv (.t 1)⟩, ⟨(some 65), none, .call i_field_Parse [(.t 64)]⟩, ⟨(some 63), none, .mv (.t 65)⟩, ⟨(some 66), none, .ext 0 (.t 63)⟩, ⟨(some 67), none, .ext 1 (.t 63)⟩, ⟨(some 11), none, .boxz [(.str []), (.str [])]⟩, ⟨none, none, .store 2 (.t 11) (.t 66)⟩, ⟨(some 6), none, .mv (.t 67)⟩])
  (.seq (.seq (.region [⟨(some 68), none, .mv (.t 6)⟩, ⟨(some 69), none, .bin .neq (.t 68) (.c (.int .i64 0))⟩])
  (.cond (.t 69)
    (.seq (.region [⟨(some 70), none, .faddr 0 (.t 11)⟩, ⟨(some 71), none, .load false 1 (.t 70)⟩, ⟨(some 72), none, .bin .eql (.t 71) (.c (.str []))⟩, ⟨(some 73), none, .mv (.t 72)⟩, ⟨(some 74), (some (73, true)), .faddr 1 (.t 11)⟩, ⟨(some 75), (some (73, true)), .load false 1 (.t 74)⟩, ⟨(some 76), (some (73, true)), .bin .eql (.t 75) (.c (.str []))⟩, ⟨(some 77), none, .pick (.t 73) (.t 76) (.c (.bool false))⟩, ⟨(some 4), none, .mv (.t 77)⟩])
    .ret)
    .skip))
  (.seq (.region [⟨(some 79), none, .load true 2 (.t 11)⟩, ⟨(some 80), none, .call i_field_Line [(.t 79)]⟩, ⟨(some 78), none, .mv (.t 80)⟩, ⟨(some 81), none, .ext 0 (.t 78)⟩, ⟨(some 82), none, .ext 1 (.t 78)⟩, ⟨(some 12), none, .mv (.t 81)⟩, ⟨(some 6), none, .mv (.t 82)⟩])
  (.seq (.region [⟨(some 84), none, .mv (.t 12)⟩, ⟨(some 85), none, .call i_field_Parse [(.t 84)]⟩, ⟨(some 83), none, .mv (.t 85)⟩, ⟨(some 86), none, .ext 0 (.t 83)⟩, ⟨(some 87), none, .ext 1 (.t 83)⟩, ⟨(some 13), none, .boxz [(.str []), (.str [])]⟩, ⟨none, none, .store 2 (.t 13) (.t 86)⟩, ⟨(some 14), none, .mv (.t 87)⟩])
  (.seq (.region [⟨(some 88), none, .mv (.t 6)⟩, ⟨(some 89), none, .bin .eql (.t 88) (.c (.int .i64 0))⟩, ⟨(some 90), none, .mv (.t 89)⟩, ⟨(some 91), (some (90, true)), .mv (.t 14)⟩, ⟨(some 92), (some (90, true)), .bin .eql (.t 91) (.c (.int .i64 0))⟩, ⟨(some 93), none, .pick (.t 90) (.t 92) (.c (.bool false))⟩, ⟨(some 94), none, .mv (.t 93)⟩, ⟨(some 95), (some (94, true)), .faddr 0 (.t 13)⟩, ⟨(some 96), (some (94, true)), .load false 1 (.t 95)⟩, ⟨(some 97), (some (94, true)), .faddr 0 (.t 11)⟩, ⟨(some 98), (some (94, true)), .load false 1 (.t 97)⟩, ⟨(some 99), (some (94, true)), .bin .eql (.t 96) (.t 98)⟩, ⟨(some 100), none, .pick (.t 94) (.t 99) (.c (.bool false))⟩, ⟨(some 101), none, .mv (.t 100)⟩, ⟨(some 102), (some (101, true)), .faddr 1 (.t 13)⟩, ⟨(some 103), (some (101, true)), .load false 1 (.t 102)⟩, ⟨(some 104), (some (101, true)), .faddr 1 (.t 11)⟩, ⟨(some 105), (some (101, true)), .load false 1 (.t 104)⟩, ⟨(some 106), (some (101, true)), .bin .eql (.t 103) (.t 105)⟩, ⟨(some 107), none, .pick (.t 101) (.t 106) (.c (.bool false))⟩, ⟨(some 4), none, .mv (.t 107)⟩])
  .ret))))))))))⟩
/-- gatepost/gatepostlaw04.FieldNames -/
def c_gatepostlaw04_FieldNames : FnC := ⟨73, [.tmp 4],
  (.seq (.region [⟨(some 4), none, .mv (.c (.bool false))⟩])
  (.seq (.seq (.region [⟨(some 9), none, .mv (.t 0)⟩, ⟨(some 10), none, .len 0 (.t 9)⟩, ⟨(some 11), none, .mv (.t 1)⟩, ⟨(some 12), none, .len 0 (.t 11)⟩, ⟨(some 13), none, .bin .add (.t 10) (.t 12)⟩, ⟨(some 14), none, .bin .gtr (.t 13) (.c (.int .i64 1000))⟩])
  (.cond (.t 14)
    (.seq (.region [⟨(some 4), none, .mv (.c (.bool true))⟩])
    .ret)
    .skip))
  (.seq (.region [⟨(some 16), none, .mv (.t 0)⟩, ⟨(some 17), none, .build [(.str []), (.str [])] [(0, 1, (.c (.str [118]))), (1, 1, (.t 16))]⟩, ⟨(some 18), none, .build [(.str []), (.str [])] [(0, 1, (.c (.str [120]))), (1, 1, (.c (.str [110, 111])))]⟩, ⟨(some 19), none, .mv (.t 1)⟩, ⟨(some 20), none, .build [(.str []), (.str [])] [(0, 1, (.c (.str [86]))), (1, 1, (.t 19))]⟩, ⟨(some 21), none, .bsl 2 [(.t 17), (.t 18), (.t 20)]⟩, ⟨(some 22), none, .call i_field_Names [(.t 21), (.c (.str [86]))]⟩, ⟨(some 15), none, .mv (.t 22)⟩, ⟨(some 23), none, .ext 0 (.t 15)⟩, ⟨(some 24), none, .ext 1 (.t 15)⟩, ⟨(some 5), none, .mv (.t 23)⟩, ⟨(some 6), none, .mv (.t 24)⟩])
  (.seq (.seq (.region [⟨(some 25), none, .mv (.t 0)⟩, ⟨(some 26), none, .call i_token_Is [(.t 25)]⟩, ⟨(some 27), none, .un .not (.t 26)⟩, ⟨(some 28), none, .mv (.t 27)⟩, ⟨(some 29), (some (28, false)), .mv (.t 1)⟩, ⟨(some 30), (some (28, false)), .call i_token_Is [(.t 29)]⟩, ⟨(some 31), (some (28, false)), .un .not (.t 30)⟩, ⟨(some 32), none, .pick (.t 28) (.c (.bool true)) (.t 31)⟩])
  (.cond (.t 32)
    (.seq (.region [⟨(some 34), none, .build [(.str []), (.str [])] [(0, 1, (.c (.str [118]))), (1, 1, (.c (.str [65, 44, 32, 98])))]⟩, ⟨(some 35), none, .bsl 2 [(.t 34)]⟩, ⟨(some 36), none, .call i_field_Names [(.t 35), (.c (.str [118]))]⟩, ⟨(some 33), none, .mv (.t 36)⟩, ⟨(some 37), none, .ext 0 (.t 33)⟩, ⟨(some 38), none, .ext 1 (.t 33)⟩, ⟨(some 7), none, .mv (.t 37)⟩, ⟨(some 8), none, .mv (.t 38)⟩])
    (.seq (.region [⟨(some 39), none, .mv (.t 8)⟩, ⟨(some 40), none, .mv (.t 39)⟩, ⟨(some 41), (some (40, true)), .mv (.t 7)⟩, ⟨(some 42), (some (40, true)), .len 1 (.t 41)⟩, ⟨(some 43), (some (40, true)), .bin .eql (.t 42) (.c (.int .i64 2))⟩, ⟨(some 44), none, .pick (.t 40) (.t 43) (.c (.bool false))⟩, ⟨(some 45), none, .mv (.t 44)⟩, ⟨(some 46), (some (45, true)), .mv (.t 7)⟩, ⟨(some 47), (some (45, true)), .ixaSl 1 (.t 46) (.c (.int .i64 0))⟩, ⟨(some 48), (some (45, true)), .load false 1 (.t 47)⟩, ⟨(some 49), (some (45, true)), .bin .eql (.t 48) (.c (.str [97]))⟩, ⟨(some 50), none, .pick (.t 45) (.t 49) (.c (.bool false))⟩, ⟨(some 4), none, .mv (.t 50)⟩])
    .ret))
    .skip))
  (.seq (.dregion [⟨(some 51), none, .mv (.t 6)⟩, ⟨(some 52), none, .mv (.t 51)⟩, ⟨(some 53), (some (52, true)), .mv (.t 5)⟩, ⟨(some 54), (some (52, true)), .len 1 (.t 53)⟩, ⟨(some 55), (some (52, true)), .bin .eql (.t 54) (.c (.int .i64 2))⟩, ⟨(some 56), none, .pick (.t 52) (.t 55) (.c (.bool false))⟩, ⟨(some 57), none, .mv (.t 56)⟩, ⟨(some 58), (some (57, true)), .mv (.t 5)⟩, ⟨(some 59), (some (57, true)), .ixaSl 1 (.t 58) (.c (.int .i64 0))⟩, ⟨(some 60), (some (57, true)), .load false 1 (.t 59)⟩, ⟨(some 61), (some (57, true)), .mv (.t 0)⟩, ⟨(some 62), (some (57, true)), .call i_token_Lower [(.t 61)]⟩, ⟨(some 63), (some (57, true)), .bin .eql (.t 60) (.t 62)⟩, ⟨(some 64), none, .pick (.t 57) (.t 63) (.c (.bool false))⟩, ⟨(some 65), none, .mv (.t 64)⟩, ⟨(some 66), (some (65, true)), .mv (.t 5)⟩, ⟨(some 67), (some (65, true)), .ixaSl 1 (.t 66) (.c (.int .i64 1))⟩, ⟨(some 68), (some (65, true)), .load false 1 (.t 67)⟩, ⟨(some 69), (some (65, true)), .mv (.t 1)⟩, ⟨(some 70), (some (65, true)), .call i_token_Lower [(.t 69)]⟩] [⟨(some 71), (some (65, true)), .bin .eql (.t 68) (.t 70)⟩, ⟨(some 72), none, .pick (.t 65) (.t 71) (.c (.bool false))⟩, ⟨(some 4), none, .mv (.t 72)⟩])
  .ret)))))⟩
/-- gatepost/gatepostlaw04.FieldStrips -/
def c_gatepostlaw04_FieldStrips : FnC := ⟨61, [.tmp 4],
  (.seq (.region [⟨(some 4), none, .mv (.c (.bool false))⟩])
  (.seq (.seq (.region [⟨(some 11), none, .mv (.t 0)⟩, ⟨(some 12), none, .call i_gatepostlaw04_few [(.t 11)]⟩, ⟨(some 13), none, .un .not (.t 12)⟩])
  (.cond (.t 13)
    (.seq (.region [⟨(some 4), none, .mv (.c (.bool true))⟩])
    .ret)
    .skip))
  (.seq (.region [⟨(some 14), none, .bsl 1 [(.c (.str [67, 111, 110, 110, 101, 99, 116, 105, 111, 110])), (.c (.str [75, 69, 69, 80, 45, 65, 76, 73, 86, 69])), (.c (.str [116, 101])), (.c (.str [84, 114, 97, 105, 108, 101, 114])), (.c (.str [116, 114, 97, 110, 115, 102, 101, 114, 45, 69, 110, 99, 111, 100, 105, 110, 103])), (.c (.str [117, 112, 103, 114, 97, 100, 101])), (.c (.str [80, 114, 111, 120, 121, 45, 67, 111, 110, 110, 101, 99, 116, 105, 111, 110]))]⟩, ⟨(some 5), none, .mv (.t 14)⟩])
  (.seq (.region [⟨(some 15), none, .mv (.t 5)⟩, ⟨(some 16), none, .mv (.t 1)⟩, ⟨(some 17), none, .bin .rem (.t 16) (.c (.int .i64 7))⟩, ⟨(some 18), none, .bin .add (.t 17) (.c (.int .i64 7))⟩, ⟨(some 19), none, .bin .rem (.t 18) (.c (.int .i64 7))⟩, ⟨(some 20), none, .ixaSl 1 (.t 15) (.t 19)⟩, ⟨(some 21), none, .load false 1 (.t 20)⟩, ⟨(some 6), none, .mv (.t 21)⟩])
  (.seq (.region [⟨(some 22), none, .bsl 2 []⟩, ⟨(some 23), none, .mv (.t 0)⟩, ⟨(some 24), none, .app 2 32 false (.t 22) (.t 23)⟩, ⟨(some 25), none, .mv (.t 6)⟩, ⟨(some 26), none, .build [(.str []), (.str [])] [(0, 1, (.t 25)), (1, 1, (.c (.str [122, 122])))]⟩, ⟨(some 27), none, .bsl 2 [(.t 26)]⟩, ⟨(some 28), none, .app 2 32 false (.t 24) (.t 27)⟩, ⟨(some 29), none, .call i_field_Strip [(.t 28)]⟩, ⟨(some 7), none, .mv (.t 29)⟩])
  (.seq (.seq (.region [⟨(some 31), none, .mv (.t 7)⟩, ⟨(some 32), none, .mv (.t 6)⟩, ⟨(some 33), none, .call i_field_Get [(.t 31), (.t 32)]⟩, ⟨(some 30), none, .mv (.t 33)⟩, ⟨(some 34), none, .ext 0 (.t 30)⟩, ⟨(some 35), none, .ext 1 (.t 30)⟩, ⟨(some 8), none, .mv (.t 34)⟩, ⟨(some 9), none, .mv (.t 35)⟩])
  (.seq (.region [⟨(some 36), none, .mv (.t 9)⟩, ⟨(some 37), none, .bin .neq (.t 36) (.c (.int .i64 0))⟩, ⟨(some 38), none, .mv (.t 37)⟩, ⟨(some 39), (some (38, false)), .mv (.t 7)⟩, ⟨(some 40), (some (38, false)), .call i_field_Strip [(.t 39)]⟩, ⟨(some 41), (some (38, false)), .mv (.t 7)⟩, ⟨(some 42), (some (38, false)), .call i_gatepostref04_Same [(.t 40), (.t 41)]⟩, ⟨(some 43), (some (38, false)), .un .not (.t 42)⟩, ⟨(some 44), none, .pick (.t 38) (.c (.bool true)) (.t 43)⟩])
  (.cond (.t 44)
    (.seq (.region [⟨(some 4), none, .mv (.c (.bool false))⟩])
    .ret)
    .skip)))
  (.seq (.region [⟨(some 45), none, .build [(.str []), (.str [])] [(0, 1, (.c (.str [65]))), (1, 1, (.c (.str [49])))]⟩, ⟨(some 46), none, .build [(.str []), (.str [])] [(0, 1, (.c (.str [99, 111, 110, 110, 101, 99, 116, 105, 111, 110]))), (1, 1, (.c (.str [98, 44, 32, 97])))]⟩, ⟨(some 47), none, .build [(.str []), (.str [])] [(0, 1, (.c (.str [66]))), (1, 1, (.c (.str [50])))]⟩, ⟨(some 48), none, .build [(.str []), (.str [])] [(0, 1, (.c (.str [67]))), (1, 1, (.c (.str [51])))]⟩, ⟨(some 49), none, .bsl 2 [(.t 45), (.t 46), (.t 47), (.t 48)]⟩, ⟨(some 50), none, .call i_field_Strip [(.t 49)]⟩, ⟨(some 10), none, .mv (.t 50)⟩])
  (.seq (.region [⟨(some 51), none, .mv (.t 10)⟩, ⟨(some 52), none, .len 1 (.t 51)⟩, ⟨(some 53), none, .bin .eql (.t 52) (.c (.int .i64 1))⟩, ⟨(some 54), none, .mv (.t 53)⟩, ⟨(some 55), (some (54, true)), .mv (.t 10)⟩, ⟨(some 56), (some (54, true)), .ixaSl 2 (.t 55) (.c (.int .i64 0))⟩, ⟨(some 57), (some (54, true)), .faddr 0 (.t 56)⟩, ⟨(some 58), (some (54, true)), .load false 1 (.t 57)⟩, ⟨(some 59), (some (54, true)), .bin .eql (.t 58) (.c (.str [67]))⟩, ⟨(some 60), none, .pick (.t 54) (.t 59) (.c (.bool false))⟩, ⟨(some 4), none, .mv (.t 60)⟩])
  .ret))))))))⟩
/-- gatepost/gatepostlaw04.FieldGets -/
def c_gatepostlaw04_FieldGets : FnC := ⟨112, [.tmp 6],
  (.seq (.region [⟨(some 6), none, .mv (.c (.bool false))⟩])
  (.seq (.seq (.region [⟨(some 17), none, .mv (.t 0)⟩, ⟨(some 18), none, .call i_gatepostlaw04_few [(.t 17)]⟩, ⟨(some 19), none, .un .not (.t 18)⟩, ⟨(some 20), none, .mv (.t 19)⟩, ⟨(some 21), (some (20, false)), .mv (.t 1)⟩, ⟨(some 22), (some (20, false)), .len 0 (.t 21)⟩, ⟨(some 23), (some (20, false)), .mv (.t 2)⟩, ⟨(some 24), (some (20, false)), .len 0 (.t 23)⟩, ⟨(some 25), (some (20, false)), .bin .add (.t 22) (.t 24)⟩, ⟨(some 26), (some (20, false)), .bin .gtr (.t 25) (.c (.int .i64 2000))⟩, ⟨(some 27), none, .pick (.t 20) (.c (.bool true)) (.t 26)⟩])
  (.cond (.t 27)
    (.seq (.region [⟨(some 6), none, .mv (.c (.bool true))⟩])
    .ret)
    .skip))
  (.seq (.region [⟨(some 29), none, .mv (.t 0)⟩, ⟨(some 30), none, .mv (.t 1)⟩, ⟨(some 31), none, .call i_field_Get [(.t 29), (.t 30)]⟩, ⟨(some 28), none, .mv (.t 31)⟩, ⟨(some 32), none, .ext 0 (.t 28)⟩, ⟨(some 33), none, .ext 1 (.t 28)⟩, ⟨(some 7), none, .mv (.t 32)⟩, ⟨(some 8), none, .mv (.t 33)⟩])
  (.seq (.region [⟨(some 35), none, .mv (.t 0)⟩, ⟨(some 36), none, .mv (.t 1)⟩, ⟨(some 37), none, .call i_gatepostref04_Get [(.t 35), (.t 36)]⟩, ⟨(some 34), none, .mv (.t 37)⟩, ⟨(some 38), none, .ext 0 (.t 34)⟩, ⟨(some 39), none, .ext 1 (.t 34)⟩, ⟨(some 9), none, .mv (.t 38)⟩, ⟨(some 10), none, .mv (.t 39)⟩])
  (.seq (.region [⟨(some 41), none, .mv (.t 0)⟩, ⟨(some 42), none, .mv (.t 1)⟩, ⟨(some 43), none, .call i_field_Names [(.t 41), (.t 42)]⟩, ⟨(some 40), none, .mv (.t 43)⟩, ⟨(some 44), none, .ext 0 (.t 40)⟩, ⟨(some 45), none, .ext 1 (.t 40)⟩, ⟨(some 11), none, .mv (.t 44)⟩, ⟨(some 12), none, .mv (.t 45)⟩])
  (.seq (.region [⟨(some 47), none, .mv (.t 0)⟩, ⟨(some 48), none, .mv (.t 1)⟩, ⟨(some 49), none, .call i_gatepostref04_Names [(.t 47), (.t 48)]⟩, ⟨(some 46), none, .mv (.t 49)⟩, ⟨(some 50), none, .ext 0 (.t 46)⟩, ⟨(some 51), none, .ext 1 (.t 46)⟩, ⟨(some 13), none, .mv (.t 50)⟩, ⟨(some 14), none, .mv (.t 51)⟩])
  (.seq (.region [⟨(some 53), none, .build [(.str []), (.str [])] [(0, 1, (.c (.str [65]))), (1, 1, (.c (.str [49])))]⟩, ⟨(some 54), none, .build [(.str []), (.str [])] [(0, 1, (.c (.str [97]))), (1, 1, (.c (.str [50])))]⟩, ⟨(some 55), none, .bsl 2 [(.t 53), (.t 54)]⟩, ⟨(some 56), none, .call i_field_Get [(.t 55), (.c (.str [97]))]⟩, ⟨(some 52), none, .mv (.t 56)⟩, ⟨(some 57), none, .ext 0 (.t 52)⟩, ⟨(some 58), none, .ext 1 (.t 52)⟩, ⟨(some 15), none, .mv (.t 57)⟩, ⟨(some 16), none, .mv (.t 58)⟩])
  (.seq (.region [⟨(some 59), none, .mv (.t 7)⟩, ⟨(some 60), none, .mv (.t 9)⟩, ⟨(some 61), none, .bin .eql (.t 59) (.t 60)⟩, ⟨(some 62), none, .mv (.t 61)⟩, ⟨(some 63), (some (62, true)), .mv (.t 8)⟩, ⟨(some 64), (some (62, true)), .mv (.t 10)⟩, ⟨(some 65), (some (62, true)), .bin .eql (.t 63) (.t 64)⟩, ⟨(some 66), none, .pick (.t 62) (.t 65) (.c (.bool false))⟩, ⟨(some 67), none, .mv (.t 66)⟩, ⟨(some 68), (some (67, true)), .mv (.t 11)⟩, ⟨(some 69), (some (67, true)), .mv (.t 13)⟩, ⟨(some 70), (some (67, true)), .call i_gatepostlaw04_texts [(.t 68), (.t 69)]⟩, ⟨(some 71), none, .pick (.t 67) (.t 70) (.c (.bool false))⟩, ⟨(some 72), none, .mv (.t 71)⟩, ⟨(some 73), (some (72, true)), .mv (.t 12)⟩, ⟨(some 74), (some (72, true)), .mv (.t 14)⟩, ⟨(some 75), (some (72, true)), .eq .bool false (.t 73) (.t 74)⟩, ⟨(some 76), none, .pick (.t 72) (.t 75) (.c (.bool false))⟩, ⟨(some 77), none, .mv (.t 76)⟩, ⟨(some 78), (some (77, true)), .mv (.t 0)⟩, ⟨(some 79), (some (77, true)), .mv (.t 1)⟩, ⟨(some 80), (some (77, true)), .call i_field_Del [(.t 78), (.t 79)]⟩, ⟨(some 81), (some (77, true)), .mv (.t 0)⟩, ⟨(some 82), (some (77, true)), .mv (.t 1)⟩, ⟨(some 83), (some (77, true)), .call i_gatepostref04_Del [(.t 81), (.t 82)]⟩, ⟨(some 84), (some (77, true)), .call i_gatepostref04_Same [(.t 80), (.t 83)]⟩, ⟨(some 85), none, .pick (.t 77) (.t 84) (.c (.bool false))⟩, ⟨(some 86), none, .mv (.t 85)⟩, ⟨(some 87), (some (86, true)), .mv (.t 0)⟩, ⟨(some 88), (some (86, true)), .mv (.t 1)⟩, ⟨(some 89), (some (86, true)), .mv (.t 2)⟩, ⟨(some 90), (some (86, true)), .call i_field_Set [(.t 87), (.t 88), (.t 89)]⟩, ⟨(some 91), (some (86, true)), .mv (.t 0)⟩, ⟨(some 92), (some (86, true)), .mv (.t 1)⟩, ⟨(some 93), (some (86, true)), .mv (.t 2)⟩, ⟨(some 94), (some (86, true)), .call i_gatepostref04_Set [(.t 91), (.t 92), (.t 93)]⟩, ⟨(some 95), (some (86, true)), .call i_gatepostref04_Same [(.t 90), (.t 94)]⟩, ⟨(some 96), none, .pick (.t 86) (.t 95) (.c (.bool false))⟩, ⟨(some 97), none, .mv (.t 96)⟩, ⟨(some 98), (some (97, true)), .mv (.t 0)⟩, ⟨(some 99), (some (97, true)), .call i_field_Strip [(.t 98)]⟩, ⟨(some 100), (some (97, true)), .mv (.t 0)⟩, ⟨(some 101), (some (97, true)), .call i_gatepostref04_Strip [(.t 100)]⟩, ⟨(some 102), (some (97, true)), .call i_gatepostref04_Same [(.t 99), (.t 101)]⟩, ⟨(some 103), none, .pick (.t 97) (.t 102) (.c (.bool false))⟩, ⟨(some 104), none, .mv (.t 103)⟩, ⟨(some 105), (some (104, true)), .mv (.t 15)⟩, ⟨(some 106), (some (104, true)), .bin .eql (.t 105) (.c (.str [49, 44, 32, 50]))⟩, ⟨(some 107), none, .pick (.t 104) (.t 106) (.c (.bool false))⟩, ⟨(some 108), none, .mv (.t 107)⟩, ⟨(some 109), (some (108, true)), .mv (.t 16)⟩, ⟨(some 110), (some (108, true)), .bin .eql (.t 109) (.c (.int .i64 2))⟩, ⟨(some 111), none, .pick (.t 108) (.t 110) (.c (.bool false))⟩, ⟨(some 6), none, .mv (.t 111)⟩])
  .ret))))))))⟩
/-- gatepost/gatepostlaw04.few -/
def c_gatepostlaw04_few : FnC := ⟨34, [.tmp 2],
  (.seq (.region [⟨(some 2), none, .mv (.c (.bool false))⟩])
  (.seq (.region [⟨(some 5), none, .mv (.t 0)⟩, ⟨(some 6), none, .len 1 (.t 5)⟩, ⟨(some 3), none, .mv (.t 6)⟩])
  (.seq (.seq (.region [⟨(some 4), none, .mv (.c (.int .i64 0))⟩])
  (.block 0 (.loop
    (.seq (.seq (.region [⟨(some 7), none, .mv (.t 4)⟩, ⟨(some 8), none, .mv (.t 0)⟩, ⟨(some 9), none, .len 1 (.t 8)⟩, ⟨(some 10), none, .bin .lss (.t 7) (.t 9)⟩, ⟨(some 11), none, .mv (.t 10)⟩, ⟨(some 12), (some (11, true)), .mv (.t 3)⟩, ⟨(some 13), (some (11, true)), .bin .lss (.t 12) (.c (.int .i64 4000))⟩, ⟨(some 14), none, .pick (.t 11) (.t 13) (.c (.bool false))⟩])
    (.cond (.t 14)
      .skip
      (.exit 0)))
    (.seq (.block 1 (.dregion [⟨(some 17), none, .mv (.t 3)⟩, ⟨(some 18), none, .mv (.t 0)⟩, ⟨(some 19), none, .mv (.t 4)⟩, ⟨(some 20), none, .ixaSl 2 (.t 18) (.t 19)⟩, ⟨(some 21), none, .faddr 0 (.t 20)⟩, ⟨(some 22), none, .load false 1 (.t 21)⟩, ⟨(some 23), none, .len 0 (.t 22)⟩, ⟨(some 24), none, .bin .add (.t 17) (.t 23)⟩, ⟨(some 25), none, .mv (.t 0)⟩, ⟨(some 26), none, .mv (.t 4)⟩, ⟨(some 27), none, .ixaSl 2 (.t 25) (.t 26)⟩, ⟨(some 28), none, .faddr 1 (.t 27)⟩, ⟨(some 29), none, .load false 1 (.t 28)⟩, ⟨(some 30), none, .len 0 (.t 29)⟩] [⟨(some 31), none, .bin .add (.t 24) (.t 30)⟩, ⟨(some 3), none, .mv (.t 31)⟩]))
    (.region [⟨(some 15), none, .mv (.t 4)⟩, ⟨(some 16), none, .bin .add (.t 15) (.c (.int .i64 1))⟩, ⟨(some 4), none, .mv (.t 16)⟩]))))))
  (.seq (.region [⟨(some 32), none, .mv (.t 3)⟩, ⟨(some 33), none, .bin .lss (.t 32) (.c (.int .i64 4000))⟩, ⟨(some 2), none, .mv (.t 33)⟩])
  .ret))))⟩
/-- gatepost/field.Parse -/
def c_field_Parse : FnC := ⟨27, [.cell 2 true 2, .tmp 3],
  (.seq (.region [⟨(some 2), none, .boxz [(.str []), (.str [])]⟩, ⟨(some 3), none, .mv (.c (.int .i64 0))⟩])
  (.seq (.region [⟨(some 9), none, .mv (.t 0)⟩, ⟨(some 10), none, .call i_strings_Cut [(.t 9), (.c (.str [58]))]⟩, ⟨(some 8), none, .mv (.t 10)⟩, ⟨(some 11), none, .ext 0 (.t 8)⟩, ⟨(some 12), none, .ext 1 (.t 8)⟩, ⟨(some 13), none, .ext 2 (.t 8)⟩, ⟨(some 4), none, .mv (.t 11)⟩, ⟨(some 5), none, .mv (.t 12)⟩, ⟨(some 6), none, .mv (.t 13)⟩])
  (.seq (.region [⟨(some 14), none, .mv (.t 4)⟩, ⟨(some 15), none, .mv (.t 5)⟩, ⟨(some 16), none, .call i_token_Trim [(.t 15)]⟩, ⟨(some 17), none, .build [(.str []), (.str [])] [(0, 1, (.t 14)), (1, 1, (.t 16))]⟩, ⟨(some 7), none, .boxz [(.str []), (.str [])]⟩, ⟨none, none, .store 2 (.t 7) (.t 17)⟩])
  (.seq (.seq (.region [⟨(some 18), none, .mv (.t 6)⟩, ⟨(some 19), none, .un .not (.t 18)⟩, ⟨(some 20), none, .mv (.t 19)⟩, ⟨(some 21), (some (20, false)), .load true 2 (.t 7)⟩, ⟨(some 22), (some (20, false)), .call i_field_fine [(.t 21)]⟩, ⟨(some 23), (some (20, false)), .un .not (.t 22)⟩, ⟨(some 24), none, .pick (.t 20) (.c (.bool true)) (.t 23)⟩])
  (.cond (.t 24)
    (.seq (.region [⟨(some 25), none, .build [(.str []), (.str [])] []⟩, ⟨none, none, .store 2 (.t 2) (.t 25)⟩, ⟨(some 3), none, .mv (.c (.int .i64 31))⟩])
    .ret)
    .skip))
  (.seq (.region [⟨(some 26), none, .load true 2 (.t 7)⟩, ⟨none, none, .store 2 (.t 2) (.t 26)⟩, ⟨(some 3), none, .mv (.c (.int .i64 0))⟩])
  .ret)))))⟩
/-- gatepost/gatepostref04.Parse -/
def c_gatepostref04_Parse : FnC := ⟨44, [.cell 2 true 2, .tmp 3],
  (.seq (.region [⟨(some 2), none, .boxz [(.str []), (.str [])]⟩, ⟨(some 3), none, .mv (.c (.int .i64 0))⟩])
  (.seq (.region [⟨(some 4), none, .mv (.c (.int .i64 0))⟩])
  (.seq (.block 0 (.loop
    (.seq (.seq (.region [⟨(some 6), none, .mv (.t 4)⟩, ⟨(some 7), none, .mv (.t 0)⟩, ⟨(some 8), none, .len 0 (.t 7)⟩, ⟨(some 9), none, .bin .lss (.t 6) (.t 8)⟩, ⟨(some 10), none, .mv (.t 9)⟩, ⟨(some 11), (some (10, true)), .mv (.t 0)⟩, ⟨(some 12), (some (10, true)), .mv (.t 4)⟩, ⟨(some 13), (some (10, true)), .ixStr (.t 11) (.t 12)⟩, ⟨(some 14), (some (10, true)), .bin .neq (.t 13) (.c (.int .u8 58))⟩, ⟨(some 15), none, .pick (.t 10) (.t 14) (.c (.bool false))⟩])
    (.cond (.t 15)
      .skip
      (.exit 0)))
    (.block 1 (.region [⟨(some 16), none, .mv (.t 4)⟩, ⟨(some 17), none, .bin .add (.t 16) (.c (.int .i64 1))⟩, ⟨(some 4), none, .mv (.t 17)⟩])))))
  (.seq (.seq (.region [⟨(some 18), none, .mv (.t 4)⟩, ⟨(some 19), none, .mv (.t 0)⟩, ⟨(some 20), none, .len 0 (.t 19)⟩, ⟨(some 21), none, .bin .eql (.t 18) (.t 20)⟩, ⟨(some 22), none, .mv (.t 21)⟩, ⟨(some 23), (some (22, false)), .mv (.t 0)⟩, ⟨(some 24), (some (22, false)), .mv (.t 4)⟩, ⟨(some 25), (some (22, false)), .slstr (.t 23) none (some (.t 24))⟩, ⟨(some 26), (some (22, false)), .call i_gatepostref01_Is [(.t 25)]⟩, ⟨(some 27), (some (22, false)), .un .not (.t 26)⟩, ⟨(some 28), none, .pick (.t 22) (.c (.bool true)) (.t 27)⟩])
  (.cond (.t 28)
    (.seq (.region [⟨(some 29), none, .build [(.str []), (.str [])] []⟩, ⟨none, none, .store 2 (.t 2) (.t 29)⟩, ⟨(some 3), none, .mv (.c (.int .i64 31))⟩])
    .ret)
    .skip))
  (.seq (.region [⟨(some 30), none, .mv (.t 0)⟩, ⟨(some 31), none, .mv (.t 4)⟩, ⟨(some 32), none, .bin .add (.t 31) (.c (.int .i64 1))⟩, ⟨(some 33), none, .slstr (.t 30) (some (.t 32)) none⟩, ⟨(some 34), none, .call i_gatepostref01_Trim [(.t 33)]⟩, ⟨(some 5), none, .mv (.t 34)⟩])
  (.seq (.seq (.region [⟨(some 35), none, .mv (.t 5)⟩, ⟨(some 36), none, .call i_gatepostref01_Value [(.t 35)]⟩, ⟨(some 37), none, .un .not (.t 36)⟩])
  (.cond (.t 37)
    (.seq (.region [⟨(some 38), none, .build [(.str []), (.str [])] []⟩, ⟨none, none, .store 2 (.t 2) (.t 38)⟩, ⟨(some 3), none, .mv (.c (.int .i64 31))⟩])
    .ret)
    .skip))
  (.seq (.region [⟨(some 39), none, .mv (.t 0)⟩, ⟨(some 40), none, .mv (.t 4)⟩, ⟨(some 41), none, .slstr (.t 39) none (some (.t 40))⟩, ⟨(some 42), none, .mv (.t 5)⟩, ⟨(some 43), none, .build [(.str []), (.str [])] [(0, 1, (.t 41)), (1, 1, (.t 42))]⟩, ⟨none, none, .store 2 (.t 2) (.t 43)⟩, ⟨(some 3), none, .mv (.c (.int .i64 0))⟩])
  .ret)))))))⟩
/-- gatepost/field.Line -/
def c_field_Line : FnC := ⟨13, [.tmp 2, .tmp 3],
  (.seq (.region [⟨(some 1), none, .box (.t 0)⟩, ⟨(some 2), none, .mv (.c (.str []))⟩, ⟨(some 3), none, .mv (.c (.int .i64 0))⟩])
  (.seq (.seq (.region [⟨(some 4), none, .load true 2 (.t 1)⟩, ⟨(some 5), none, .call i_field_fine [(.t 4)]⟩, ⟨(some 6), none, .un .not (.t 5)⟩])
  (.cond (.t 6)
    (.seq (.region [⟨(some 2), none, .mv (.c (.str []))⟩, ⟨(some 3), none, .mv (.c (.int .i64 31))⟩])
    .ret)
    .skip))
  (.seq (.region [⟨(some 7), none, .faddr 0 (.t 1)⟩, ⟨(some 8), none, .load false 1 (.t 7)⟩, ⟨(some 9), none, .bin .add (.t 8) (.c (.str [58, 32]))⟩, ⟨(some 10), none, .faddr 1 (.t 1)⟩, ⟨(some 11), none, .load false 1 (.t 10)⟩, ⟨(some 12), none, .bin .add (.t 9) (.t 11)⟩, ⟨(some 2), none, .mv (.t 12)⟩, ⟨(some 3), none, .mv (.c (.int .i64 0))⟩])
  .ret)))⟩
/-- gatepost/gatepostref04.Line -/
def c_gatepostref04_Line : FnC := ⟨20, [.tmp 2, .tmp 3],
  (.seq (.region [⟨(some 1), none, .box (.t 0)⟩, ⟨(some 2), none, .mv (.c (.str []))⟩, ⟨(some 3), none, .mv (.c (.int .i64 0))⟩])
  (.seq (.seq (.region [⟨(some 4), none, .faddr 0 (.t 1)⟩, ⟨(some 5), none, .load false 1 (.t 4)⟩, ⟨(some 6), none, .call i_gatepostref01_Is [(.t 5)]⟩, ⟨(some 7), none, .un .not (.t 6)⟩, ⟨(some 8), none, .mv (.t 7)⟩, ⟨(some 9), (some (8, false)), .faddr 1 (.t 1)⟩, ⟨(some 10), (some (8, false)), .load false 1 (.t 9)⟩, ⟨(some 11), (some (8, false)), .call i_gatepostref01_Value [(.t 10)]⟩, ⟨(some 12), (some (8, false)), .un .not (.t 11)⟩, ⟨(some 13), none, .pick (.t 8) (.c (.bool true)) (.t 12)⟩])
  (.cond (.t 13)
    (.seq (.region [⟨(some 2), none, .mv (.c (.str []))⟩, ⟨(some 3), none, .mv (.c (.int .i64 31))⟩])
    .ret)
    .skip))
  (.seq (.region [⟨(some 14), none, .faddr 0 (.t 1)⟩, ⟨(some 15), none, .load false 1 (.t 14)⟩, ⟨(some 16), none, .bin .add (.t 15) (.c (.str [58, 32]))⟩, ⟨(some 17), none, .faddr 1 (.t 1)⟩, ⟨(some 18), none, .load false 1 (.t 17)⟩, ⟨(some 19), none, .bin .add (.t 16) (.t 18)⟩, ⟨(some 2), none, .mv (.t 19)⟩, ⟨(some 3), none, .mv (.c (.int .i64 0))⟩])
  .ret)))⟩
/-- gatepost/field.Names -/
def c_field_Names : FnC := ⟨44, [.tmp 4, .tmp 5],
  (.seq (.region [⟨(some 4), none, .mv (.c .nsl)⟩, ⟨(some 5), none, .mv (.c (.bool false))⟩])
  (.seq (.region [⟨(some 14), none, .mv (.t 0)⟩, ⟨(some 15), none, .mv (.t 1)⟩, ⟨(some 16), none, .call i_field_Get [(.t 14), (.t 15)]⟩, ⟨(some 13), none, .mv (.t 16)⟩, ⟨(some 17), none, .ext 0 (.t 13)⟩, ⟨(some 18), none, .ext 1 (.t 13)⟩, ⟨(some 6), none, .mv (.t 17)⟩, ⟨(some 7), none, .mv (.t 18)⟩])
  (.seq (.region [⟨(some 20), none, .mv (.t 6)⟩, ⟨(some 21), none, .call i_token_Split [(.t 20)]⟩, ⟨(some 19), none, .mv (.t 21)⟩, ⟨(some 22), none, .ext 0 (.t 19)⟩, ⟨(some 23), none, .ext 1 (.t 19)⟩, ⟨(some 8), none, .mv (.t 22)⟩, ⟨(some 9), none, .mv (.t 23)⟩])
  (.seq (.region [⟨(some 10), none, .mv (.c .nsl)⟩])
  (.seq (.seq (.region [⟨(some 24), none, .mv (.t 8)⟩, ⟨(some 25), none, .len 1 (.t 24)⟩, ⟨(some 26), none, .mv (.c (.int .i64 0))⟩])
  (.block 0 (.loop
    (.seq (.region [⟨(some 27), none, .bin .lss (.t 26) (.t 25)⟩])
    (.seq (.cond (.t 27)
      .skip
      (.exit 0))
    (.seq (.block 1 (.seq (.region [⟨(some 28), none, .ixaSl 1 (.t 24) (.t 26)⟩, ⟨(some 29), none, .load false 1 (.t 28)⟩, ⟨(some 12), none, .mv (.t 29)⟩])
    (.seq (.region [⟨(some 30), none, .mv (.t 9)⟩, ⟨(some 31), none, .mv (.t 30)⟩, ⟨(some 32), (some (31, true)), .mv (.t 12)⟩, ⟨(some 33), (some (31, true)), .call i_token_Is [(.t 32)]⟩, ⟨(some 34), none, .pick (.t 31) (.t 33) (.c (.bool false))⟩, ⟨(some 9), none, .mv (.t 34)⟩])
    (.region [⟨(some 35), none, .mv (.t 10)⟩, ⟨(some 36), none, .mv (.t 12)⟩, ⟨(some 37), none, .call i_token_Lower [(.t 36)]⟩, ⟨(some 38), none, .bsl 1 [(.t 37)]⟩, ⟨(some 39), none, .app 1 16 false (.t 35) (.t 38)⟩, ⟨(some 10), none, .mv (.t 39)⟩]))))
    (.region [⟨(some 40), none, .bin .add (.t 26) (.c (.int .i64 1))⟩, ⟨(some 26), none, .mv (.t 40)⟩])))))))
  (.seq (.seq (.region [⟨(some 41), none, .mv (.t 9)⟩, ⟨(some 42), none, .un .not (.t 41)⟩])
  (.cond (.t 42)
    (.seq (.region [⟨(some 4), none, .mv (.c .nsl)⟩, ⟨(some 5), none, .mv (.c (.bool false))⟩])
    .ret)
    .skip))
  (.seq (.region [⟨(some 43), none, .mv (.t 10)⟩, ⟨(some 4), none, .mv (.t 43)⟩, ⟨(some 5), none, .mv (.c (.bool true))⟩])
  .ret)))))))⟩
/-- gatepost/token.Is -/
def c_token_Is : FnC := ⟨9, [.tmp 2],
  (.seq (.region [⟨(some 2), none, .mv (.c (.bool false))⟩])
  (.seq (.region [⟨(some 3), none, .mv (.t 0)⟩, ⟨(some 4), none, .bin .neq (.t 3) (.c (.str []))⟩, ⟨(some 5), none, .mv (.t 4)⟩, ⟨(some 6), (some (5, true)), .mv (.t 0)⟩, ⟨(some 7), (some (5, true)), .call i_token_all [(.t 6), (.c (.fn i_token_inToken []))]⟩, ⟨(some 8), none, .pick (.t 5) (.t 7) (.c (.bool false))⟩, ⟨(some 2), none, .mv (.t 8)⟩])
  .ret))⟩
/-- gatepost/token.Lower -/
def c_token_Lower : FnC := ⟨29, [.tmp 2],
  (.seq (.region [⟨(some 2), none, .mv (.c (.str []))⟩])
  (.seq (.region [⟨(some 6), none, .mv (.t 0)⟩, ⟨(some 7), none, .toBytes (.t 6)⟩, ⟨(some 3), none, .mv (.t 7)⟩])
  (.seq (.seq (.region [⟨(some 8), none, .mv (.t 3)⟩, ⟨(some 9), none, .len 1 (.t 8)⟩, ⟨(some 10), none, .mv (.c (.int .i64 0))⟩])
  (.block 0 (.loop
    (.seq (.region [⟨(some 11), none, .bin .lss (.t 10) (.t 9)⟩])
    (.seq (.cond (.t 11)
      .skip
      (.exit 0))
    (.seq (.block 1 (.seq (.region [⟨(some 12), none, .mv (.t 10)⟩, ⟨(some 13), none, .ixaSl 1 (.t 8) (.t 10)⟩, ⟨(some 14), none, .load false 1 (.t 13)⟩, ⟨(some 4), none, .mv (.t 12)⟩, ⟨(some 5), none, .mv (.t 14)⟩])
    (.seq (.region [⟨(some 15), none, .mv (.t 5)⟩, ⟨(some 16), none, .bin .geq (.t 15) (.c (.int .u8 65))⟩, ⟨(some 17), none, .mv (.t 16)⟩, ⟨(some 18), (some (17, true)), .mv (.t 5)⟩, ⟨(some 19), (some (17, true)), .bin .leq (.t 18) (.c (.int .u8 90))⟩, ⟨(some 20), none, .pick (.t 17) (.t 19) (.c (.bool false))⟩])
    (.cond (.t 20)
      (.region [⟨(some 21), none, .mv (.t 3)⟩, ⟨(some 22), none, .mv (.t 4)⟩, ⟨(some 23), none, .mv (.t 5)⟩, ⟨(some 24), none, .bin .or (.t 23) (.c (.int .u8 32))⟩, ⟨(some 25), none, .ixaSl 1 (.t 21) (.t 22)⟩, ⟨none, none, .store 1 (.t 25) (.t 24)⟩])
      .skip))))
    (.region [⟨(some 26), none, .bin .add (.t 10) (.c (.int .i64 1))⟩, ⟨(some 10), none, .mv (.t 26)⟩])))))))
  (.seq (.region [⟨(some 27), none, .mv (.t 3)⟩, ⟨(some 28), none, .toStr (.t 27)⟩, ⟨(some 2), none, .mv (.t 28)⟩])
  .ret))))⟩
/-- gatepost/field.Strip -/
def c_field_Strip : FnC := ⟨16, [.tmp 2],
  (.seq (.region [⟨(some 2), none, .mv (.c .nsl)⟩])
  (.seq (.region [⟨(some 6), none, .mv (.t 0)⟩, ⟨(some 7), none, .call i_field_Names [(.t 6), (.c (.str [67, 111, 110, 110, 101, 99, 116, 105, 111, 110]))]⟩, ⟨(some 5), none, .mv (.t 7)⟩, ⟨(some 8), none, .ext 0 (.t 5)⟩, ⟨(some 9), none, .ext 1 (.t 5)⟩, ⟨(some 3), none, .mv (.t 8)⟩, ⟨(some 4), none, .mv (.t 9)⟩])
  (.seq (.region [⟨(some 10), none, .mv (.t 3)⟩, ⟨(some 11), none, .bsl 1 [(.c (.str [67, 111, 110, 110, 101, 99, 116, 105, 111, 110])), (.c (.str [75, 101, 101, 112, 45, 65, 108, 105, 118, 101])), (.c (.str [80, 114, 111, 120, 121, 45, 67, 111, 110, 110, 101, 99, 116, 105, 111, 110])), (.c (.str [84, 69])), (.c (.str [84, 114, 97, 105, 108, 101, 114])), (.c (.str [84, 114, 97, 110, 115, 102, 101, 114, 45, 69, 110, 99, 111, 100, 105, 110, 103])), (.c (.str [85, 112, 103, 114, 97, 100, 101]))]⟩, ⟨(some 12), none, .app 1 16 false (.t 10) (.t 11)⟩, ⟨(some 3), none, .mv (.t 12)⟩])
  (.seq (.region [⟨(some 13), none, .mv (.t 0)⟩, ⟨(some 14), none, .mv (.t 3)⟩, ⟨(some 15), none, .call i_field_without [(.t 13), (.t 14)]⟩, ⟨(some 2), none, .mv (.t 15)⟩])
  .ret))))⟩
/-- gatepost/field.Get -/
def c_field_Get : FnC := ⟨29, [.tmp 4, .tmp 5],
  (.seq (.region [⟨(some 4), none, .mv (.c (.str []))⟩, ⟨(some 5), none, .mv (.c (.int .i64 0))⟩])
  (.seq (.region [⟨(some 6), none, .mv (.c .nsl)⟩])
  (.seq (.seq (.region [⟨(some 9), none, .mv (.t 0)⟩, ⟨(some 10), none, .len 1 (.t 9)⟩, ⟨(some 11), none, .mv (.c (.int .i64 0))⟩])
  (.block 0 (.loop
    (.seq (.region [⟨(some 12), none, .bin .lss (.t 11) (.t 10)⟩])
    (.seq (.cond (.t 12)
      .skip
      (.exit 0))
    (.seq (.block 1 (.seq (.region [⟨(some 13), none, .ixaSl 2 (.t 9) (.t 11)⟩, ⟨(some 14), none, .load true 2 (.t 13)⟩, ⟨(some 8), none, .boxz [(.str []), (.str [])]⟩, ⟨none, none, .store 2 (.t 8) (.t 14)⟩])
    (.seq (.region [⟨(some 15), none, .faddr 0 (.t 8)⟩, ⟨(some 16), none, .load false 1 (.t 15)⟩, ⟨(some 17), none, .mv (.t 1)⟩, ⟨(some 18), none, .call i_token_Same [(.t 16), (.t 17)]⟩])
    (.cond (.t 18)
      (.region [⟨(some 19), none, .mv (.t 6)⟩, ⟨(some 20), none, .faddr 1 (.t 8)⟩, ⟨(some 21), none, .load false 1 (.t 20)⟩, ⟨(some 22), none, .bsl 1 [(.t 21)]⟩, ⟨(some 23), none, .app 1 16 false (.t 19) (.t 22)⟩, ⟨(some 6), none, .mv (.t 23)⟩])
      .skip))))
    (.region [⟨(some 24), none, .bin .add (.t 11) (.c (.int .i64 1))⟩, ⟨(some 11), none, .mv (.t 24)⟩])))))))
  (.seq (.region [⟨(some 25), none, .mv (.t 6)⟩, ⟨(some 26), none, .call i_strings_Join [(.t 25), (.c (.str [44, 32]))]⟩, ⟨(some 27), none, .mv (.t 6)⟩, ⟨(some 28), none, .len 1 (.t 27)⟩, ⟨(some 4), none, .mv (.t 26)⟩, ⟨(some 5), none, .mv (.t 28)⟩])
  .ret))))⟩
/-- gatepost/gatepostref04.Same -/
def c_gatepostref04_Same : FnC := ⟨41, [.tmp 4],
  (.seq (.region [⟨(some 4), none, .mv (.c (.bool false))⟩])
  (.seq (.seq (.region [⟨(some 6), none, .mv (.t 0)⟩, ⟨(some 7), none, .len 1 (.t 6)⟩, ⟨(some 8), none, .mv (.t 1)⟩, ⟨(some 9), none, .len 1 (.t 8)⟩, ⟨(some 10), none, .bin .neq (.t 7) (.t 9)⟩])
  (.cond (.t 10)
    (.seq (.region [⟨(some 4), none, .mv (.c (.bool false))⟩])
    .ret)
    .skip))
  (.seq (.seq (.region [⟨(some 5), none, .mv (.c (.int .i64 0))⟩])
  (.block 0 (.loop
    (.seq (.seq (.region [⟨(some 11), none, .mv (.t 5)⟩, ⟨(some 12), none, .mv (.t 0)⟩, ⟨(some 13), none, .len 1 (.t 12)⟩, ⟨(some 14), none, .bin .lss (.t 11) (.t 13)⟩])
    (.cond (.t 14)
      .skip
      (.exit 0)))
    (.seq (.block 1 (.seq (.dregion [⟨(some 17), none, .mv (.t 0)⟩, ⟨(some 18), none, .mv (.t 5)⟩, ⟨(some 19), none, .ixaSl 2 (.t 17) (.t 18)⟩, ⟨(some 20), none, .faddr 0 (.t 19)⟩, ⟨(some 21), none, .load false 1 (.t 20)⟩, ⟨(some 22), none, .mv (.t 1)⟩, ⟨(some 23), none, .mv (.t 5)⟩, ⟨(some 24), none, .ixaSl 2 (.t 22) (.t 23)⟩, ⟨(some 25), none, .faddr 0 (.t 24)⟩, ⟨(some 26), none, .load false 1 (.t 25)⟩, ⟨(some 27), none, .bin .neq (.t 21) (.t 26)⟩, ⟨(some 28), none, .mv (.t 27)⟩, ⟨(some 29), (some (28, false)), .mv (.t 0)⟩, ⟨(some 30), (some (28, false)), .mv (.t 5)⟩, ⟨(some 31), (some (28, false)), .ixaSl 2 (.t 29) (.t 30)⟩, ⟨(some 32), (some (28, false)), .faddr 1 (.t 31)⟩, ⟨(some 33), (some (28, false)), .load false 1 (.t 32)⟩, ⟨(some 34), (some (28, false)), .mv (.t 1)⟩, ⟨(some 35), (some (28, false)), .mv (.t 5)⟩, ⟨(some 36), (some (28, false)), .ixaSl 2 (.t 34) (.t 35)⟩, ⟨(some 37), (some (28, false)), .faddr 1 (.t 36)⟩, ⟨(some 38), (some (28, false)), .load false 1 (.t 37)⟩] [⟨(some 39), (some (28, false)), .bin .neq (.t 33) (.t 38)⟩, ⟨(some 40), none, .pick (.t 28) (.c (.bool true)) (.t 39)⟩])
    (.cond (.t 40)
      (.seq (.region [⟨(some 4), none, .mv (.c (.bool false))⟩])
      .ret)
      .skip)))
    (.region [⟨(some 15), none, .mv (.t 5)⟩, ⟨(some 16), none, .bin .add (.t 15) (.c (.int .i64 1))⟩, ⟨(some 5), none, .mv (.t 16)⟩]))))))
  (.seq (.region [⟨(some 4), none, .mv (.c (.bool true))⟩])
  .ret))))⟩
/-- gatepost/gatepostref04.Get -/
def c_gatepostref04_Get : FnC := ⟨37, [.tmp 4, .tmp 5],
  (.seq (.region [⟨(some 4), none, .mv (.c (.str []))⟩, ⟨(some 5), none, .mv (.c (.int .i64 0))⟩])
  (.seq (.region [⟨(some 6), none, .mv (.c (.str []))⟩])
  (.seq (.region [⟨(some 7), none, .mv (.c (.int .i64 0))⟩])
  (.seq (.seq (.region [⟨(some 8), none, .mv (.c (.int .i64 0))⟩])
  (.block 0 (.loop
    (.seq (.seq (.region [⟨(some 9), none, .mv (.t 8)⟩, ⟨(some 10), none, .mv (.t 0)⟩, ⟨(some 11), none, .len 1 (.t 10)⟩, ⟨(some 12), none, .bin .lss (.t 9) (.t 11)⟩])
    (.cond (.t 12)
      .skip
      (.exit 0)))
    (.seq (.block 1 (.seq (.region [⟨(some 15), none, .mv (.t 0)⟩, ⟨(some 16), none, .mv (.t 8)⟩, ⟨(some 17), none, .ixaSl 2 (.t 15) (.t 16)⟩, ⟨(some 18), none, .faddr 0 (.t 17)⟩, ⟨(some 19), none, .load false 1 (.t 18)⟩, ⟨(some 20), none, .mv (.t 1)⟩, ⟨(some 21), none, .call i_gatepostref01_Same [(.t 19), (.t 20)]⟩])
    (.cond (.t 21)
      (.seq (.seq (.region [⟨(some 22), none, .mv (.t 7)⟩, ⟨(some 23), none, .bin .gtr (.t 22) (.c (.int .i64 0))⟩])
      (.cond (.t 23)
        (.region [⟨(some 24), none, .mv (.t 6)⟩, ⟨(some 25), none, .bin .add (.t 24) (.c (.str [44, 32]))⟩, ⟨(some 6), none, .mv (.t 25)⟩])
        .skip))
      (.seq (.region [⟨(some 26), none, .mv (.t 6)⟩, ⟨(some 27), none, .mv (.t 0)⟩, ⟨(some 28), none, .mv (.t 8)⟩, ⟨(some 29), none, .ixaSl 2 (.t 27) (.t 28)⟩, ⟨(some 30), none, .faddr 1 (.t 29)⟩, ⟨(some 31), none, .load false 1 (.t 30)⟩, ⟨(some 32), none, .bin .add (.t 26) (.t 31)⟩, ⟨(some 6), none, .mv (.t 32)⟩])
      (.region [⟨(some 33), none, .mv (.t 7)⟩, ⟨(some 34), none, .bin .add (.t 33) (.c (.int .i64 1))⟩, ⟨(some 7), none, .mv (.t 34)⟩])))
      .skip)))
    (.region [⟨(some 13), none, .mv (.t 8)⟩, ⟨(some 14), none, .bin .add (.t 13) (.c (.int .i64 1))⟩, ⟨(some 8), none, .mv (.t 14)⟩]))))))
  (.seq (.region [⟨(some 35), none, .mv (.t 6)⟩, ⟨(some 36), none, .mv (.t 7)⟩, ⟨(some 4), none, .mv (.t 35)⟩, ⟨(some 5), none, .mv (.t 36)⟩])
  .ret)))))⟩
/-- gatepost/gatepostref04.Names -/
def c_gatepostref04_Names : FnC := ⟨46, [.tmp 4, .tmp 5],
  (.seq (.region [⟨(some 4), none, .mv (.c .nsl)⟩, ⟨(some 5), none, .mv (.c (.bool false))⟩])
  (.seq (.region [⟨(some 13), none, .mv (.t 0)⟩, ⟨(some 14), none, .mv (.t 1)⟩, ⟨(some 15), none, .call i_gatepostref04_Get [(.t 13), (.t 14)]⟩, ⟨(some 12), none, .mv (.t 15)⟩, ⟨(some 16), none, .ext 0 (.t 12)⟩, ⟨(some 17), none, .ext 1 (.t 12)⟩, ⟨(some 6), none, .mv (.t 16)⟩, ⟨(some 7), none, .mv (.t 17)⟩])
  (.seq (.region [⟨(some 19), none, .mv (.t 6)⟩, ⟨(some 20), none, .call i_gatepostref01_Split [(.t 19)]⟩, ⟨(some 18), none, .mv (.t 20)⟩, ⟨(some 21), none, .ext 0 (.t 18)⟩, ⟨(some 22), none, .ext 1 (.t 18)⟩, ⟨(some 8), none, .mv (.t 21)⟩, ⟨(some 9), none, .mv (.t 22)⟩])
  (.seq (.seq (.region [⟨(some 23), none, .mv (.t 9)⟩, ⟨(some 24), none, .un .not (.t 23)⟩])
  (.cond (.t 24)
    (.seq (.region [⟨(some 4), none, .mv (.c .nsl)⟩, ⟨(some 5), none, .mv (.c (.bool false))⟩])
    .ret)
    .skip))
  (.seq (.region [⟨(some 10), none, .mv (.c .nsl)⟩])
  (.seq (.seq (.region [⟨(some 11), none, .mv (.c (.int .i64 0))⟩])
  (.block 0 (.loop
    (.seq (.seq (.region [⟨(some 25), none, .mv (.t 11)⟩, ⟨(some 26), none, .mv (.t 8)⟩, ⟨(some 27), none, .len 1 (.t 26)⟩, ⟨(some 28), none, .bin .lss (.t 25) (.t 27)⟩])
    (.cond (.t 28)
      .skip
      (.exit 0)))
    (.seq (.block 1 (.seq (.seq (.region [⟨(some 31), none, .mv (.t 8)⟩, ⟨(some 32), none, .mv (.t 11)⟩, ⟨(some 33), none, .ixaSl 1 (.t 31) (.t 32)⟩, ⟨(some 34), none, .load false 1 (.t 33)⟩, ⟨(some 35), none, .call i_gatepostref01_Is [(.t 34)]⟩, ⟨(some 36), none, .un .not (.t 35)⟩])
    (.cond (.t 36)
      (.seq (.region [⟨(some 4), none, .mv (.c .nsl)⟩, ⟨(some 5), none, .mv (.c (.bool false))⟩])
      .ret)
      .skip))
    (.region [⟨(some 37), none, .mv (.t 10)⟩, ⟨(some 38), none, .mv (.t 8)⟩, ⟨(some 39), none, .mv (.t 11)⟩, ⟨(some 40), none, .ixaSl 1 (.t 38) (.t 39)⟩, ⟨(some 41), none, .load false 1 (.t 40)⟩, ⟨(some 42), none, .call i_gatepostref01_Lower [(.t 41)]⟩, ⟨(some 43), none, .bsl 1 [(.t 42)]⟩, ⟨(some 44), none, .app 1 16 false (.t 37) (.t 43)⟩, ⟨(some 10), none, .mv (.t 44)⟩])))
    (.region [⟨(some 29), none, .mv (.t 11)⟩, ⟨(some 30), none, .bin .add (.t 29) (.c (.int .i64 1))⟩, ⟨(some 11), none, .mv (.t 30)⟩]))))))
  (.seq (.region [⟨(some 45), none, .mv (.t 10)⟩, ⟨(some 4), none, .mv (.t 45)⟩, ⟨(some 5), none, .mv (.c (.bool true))⟩])
  .ret)))))))⟩
/-- gatepost/gatepostlaw04.texts -/
def c_gatepostlaw04_texts : FnC := ⟨26, [.tmp 4],
  (.seq (.region [⟨(some 4), none, .mv (.c (.bool false))⟩])
  (.seq (.seq (.region [⟨(some 6), none, .mv (.t 0)⟩, ⟨(some 7), none, .len 1 (.t 6)⟩, ⟨(some 8), none, .mv (.t 1)⟩, ⟨(some 9), none, .len 1 (.t 8)⟩, ⟨(some 10), none, .bin .neq (.t 7) (.t 9)⟩])
  (.cond (.t 10)
    (.seq (.region [⟨(some 4), none, .mv (.c (.bool false))⟩])
    .ret)
    .skip))
  (.seq (.seq (.region [⟨(some 5), none, .mv (.c (.int .i64 0))⟩])
  (.block 0 (.loop
    (.seq (.seq (.region [⟨(some 11), none, .mv (.t 5)⟩, ⟨(some 12), none, .mv (.t 0)⟩, ⟨(some 13), none, .len 1 (.t 12)⟩, ⟨(some 14), none, .bin .lss (.t 11) (.t 13)⟩])
    (.cond (.t 14)
      .skip
      (.exit 0)))
    (.seq (.block 1 (.seq (.dregion [⟨(some 17), none, .mv (.t 0)⟩, ⟨(some 18), none, .mv (.t 5)⟩, ⟨(some 19), none, .ixaSl 1 (.t 17) (.t 18)⟩, ⟨(some 20), none, .load false 1 (.t 19)⟩, ⟨(some 21), none, .mv (.t 1)⟩, ⟨(some 22), none, .mv (.t 5)⟩, ⟨(some 23), none, .ixaSl 1 (.t 21) (.t 22)⟩, ⟨(some 24), none, .load false 1 (.t 23)⟩] [⟨(some 25), none, .bin .neq (.t 20) (.t 24)⟩])
    (.cond (.t 25)
      (.seq (.region [⟨(some 4), none, .mv (.c (.bool false))⟩])
      .ret)
      .skip)))
    (.region [⟨(some 15), none, .mv (.t 5)⟩, ⟨(some 16), none, .bin .add (.t 15) (.c (.int .i64 1))⟩, ⟨(some 5), none, .mv (.t 16)⟩]))))))
  (.seq (.region [⟨(some 4), none, .mv (.c (.bool true))⟩])
  .ret))))⟩
/-- gatepost/field.Del -/
def c_field_Del : FnC := ⟨9, [.tmp 4],
  (.seq (.region [⟨(some 4), none, .mv (.c .nsl)⟩])
  (.seq (.region [⟨(some 5), none, .mv (.t 0)⟩, ⟨(some 6), none, .mv (.t 1)⟩, ⟨(some 7), none, .bsl 1 [(.t 6)]⟩, ⟨(some 8), none, .call i_field_without [(.t 5), (.t 7)]⟩, ⟨(some 4), none, .mv (.t 8)⟩])
  .ret))⟩
/-- gatepost/gatepostref04.Del -/
def c_gatepostref04_Del : FnC := ⟨29, [.tmp 4],
  (.seq (.region [⟨(some 4), none, .mv (.c .nsl)⟩])
  (.seq (.region [⟨(some 5), none, .mv (.c .nsl)⟩])
  (.seq (.seq (.region [⟨(some 6), none, .mv (.c (.int .i64 0))⟩])
  (.block 0 (.loop
    (.seq (.seq (.region [⟨(some 7), none, .mv (.t 6)⟩, ⟨(some 8), none, .mv (.t 0)⟩, ⟨(some 9), none, .len 1 (.t 8)⟩, ⟨(some 10), none, .bin .lss (.t 7) (.t 9)⟩])
    (.cond (.t 10)
      .skip
      (.exit 0)))
    (.seq (.block 1 (.seq (.region [⟨(some 13), none, .mv (.t 0)⟩, ⟨(some 14), none, .mv (.t 6)⟩, ⟨(some 15), none, .ixaSl 2 (.t 13) (.t 14)⟩, ⟨(some 16), none, .faddr 0 (.t 15)⟩, ⟨(some 17), none, .load false 1 (.t 16)⟩, ⟨(some 18), none, .mv (.t 1)⟩, ⟨(some 19), none, .call i_gatepostref01_Same [(.t 17), (.t 18)]⟩, ⟨(some 20), none, .un .not (.t 19)⟩])
    (.cond (.t 20)
      (.region [⟨(some 21), none, .mv (.t 5)⟩, ⟨(some 22), none, .mv (.t 0)⟩, ⟨(some 23), none, .mv (.t 6)⟩, ⟨(some 24), none, .ixaSl 2 (.t 22) (.t 23)⟩, ⟨(some 25), none, .load true 2 (.t 24)⟩, ⟨(some 26), none, .bsl 2 [(.t 25)]⟩, ⟨(some 27), none, .app 2 32 false (.t 21) (.t 26)⟩, ⟨(some 5), none, .mv (.t 27)⟩])
      .skip)))
    (.region [⟨(some 11), none, .mv (.t 6)⟩, ⟨(some 12), none, .bin .add (.t 11) (.c (.int .i64 1))⟩, ⟨(some 6), none, .mv (.t 12)⟩]))))))
  (.seq (.region [⟨(some 28), none, .mv (.t 5)⟩, ⟨(some 4), none, .mv (.t 28)⟩])
  .ret))))⟩
/-- gatepost/field.Set -/
def c_field_Set : FnC := ⟨16, [.tmp 6],
  (.seq (.region [⟨(some 6), none, .mv (.c .nsl)⟩])
  (.seq (.region [⟨(some 7), none, .mv (.t 0)⟩, ⟨(some 8), none, .mv (.t 1)⟩, ⟨(some 9), none, .bsl 1 [(.t 8)]⟩, ⟨(some 10), none, .call i_field_without [(.t 7), (.t 9)]⟩, ⟨(some 11), none, .mv (.t 1)⟩, ⟨(some 12), none, .mv (.t 2)⟩, ⟨(some 13), none, .build [(.str []), (.str [])] [(0, 1, (.t 11)), (1, 1, (.t 12))]⟩, ⟨(some 14), none, .bsl 2 [(.t 13)]⟩, ⟨(some 15), none, .app 2 32 false (.t 10) (.t 14)⟩, ⟨(some 6), none, .mv (.t 15)⟩])
  .ret))⟩
/-- gatepost/gatepostref04.Set -/
def c_gatepostref04_Set : FnC := ⟨15, [.tmp 6],
  (.seq (.region [⟨(some 6), none, .mv (.c .nsl)⟩])
  (.seq (.region [⟨(some 7), none, .mv (.t 0)⟩, ⟨(some 8), none, .mv (.t 1)⟩, ⟨(some 9), none, .call i_gatepostref04_Del [(.t 7), (.t 8)]⟩, ⟨(some 10), none, .mv (.t 1)⟩, ⟨(some 11), none, .mv (.t 2)⟩, ⟨(some 12), none, .build [(.str []), (.str [])] [(0, 1, (.t 10)), (1, 1, (.t 11))]⟩, ⟨(some 13), none, .bsl 2 [(.t 12)]⟩, ⟨(some 14), none, .app 2 32 false (.t 9) (.t 13)⟩, ⟨(some 6), none, .mv (.t 14)⟩])
  .ret))⟩
/-- gatepost/gatepostref04.Strip -/
def c_gatepostref04_Strip : FnC := ⟨33, [.tmp 2],
  (.seq (.region [⟨(some 2), none, .mv (.c .nsl)⟩])
  (.seq (.region [⟨(some 10), none, .mv (.t 0)⟩, ⟨(some 11), none, .call i_gatepostref04_Names [(.t 10), (.c (.str [99, 111, 110, 110, 101, 99, 116, 105, 111, 110]))]⟩, ⟨(some 9), none, .mv (.t 11)⟩, ⟨(some 12), none, .ext 0 (.t 9)⟩, ⟨(some 13), none, .ext 1 (.t 9)⟩, ⟨(some 3), none, .mv (.t 12)⟩, ⟨(some 4), none, .mv (.t 13)⟩])
  (.seq (.region [⟨(some 14), none, .bsl 1 [(.c (.str [99, 111, 110, 110, 101, 99, 116, 105, 111, 110])), (.c (.str [107, 101, 101, 112, 45, 97, 108, 105, 118, 101])), (.c (.str [112, 114, 111, 120, 121, 45, 99, 111, 110, 110, 101, 99, 116, 105, 111, 110])), (.c (.str [116, 101])), (.c (.str [116, 114, 97, 105, 108, 101, 114])), (.c (.str [116, 114, 97, 110, 115, 102, 101, 114, 45, 101, 110, 99, 111, 100, 105, 110, 103])), (.c (.str [117, 112, 103, 114, 97, 100, 101]))]⟩, ⟨(some 15), none, .mv (.t 3)⟩, ⟨(some 16), none, .app 1 16 false (.t 14) (.t 15)⟩, ⟨(some 5), none, .mv (.t 16)⟩])
  (.seq (.region [⟨(some 17), none, .mv (.t 0)⟩, ⟨(some 6), none, .mv (.t 17)⟩])
  (.seq (.seq (.region [⟨(some 7), none, .mv (.c (.int .i64 0))⟩])
  (.block 0 (.loop
    (.seq (.seq (.region [⟨(some 18), none, .mv (.t 7)⟩, ⟨(some 19), none, .mv (.t 5)⟩, ⟨(some 20), none, .len 1 (.t 19)⟩, ⟨(some 21), none, .bin .lss (.t 18) (.t 20)⟩])
    (.cond (.t 21)
      .skip
      (.exit 0)))
    (.seq (.block 1 (.region [⟨(some 24), none, .mv (.t 6)⟩, ⟨(some 25), none, .mv (.t 5)⟩, ⟨(some 26), none, .mv (.t 7)⟩, ⟨(some 27), none, .ixaSl 1 (.t 25) (.t 26)⟩, ⟨(some 28), none, .load false 1 (.t 27)⟩, ⟨(some 29), none, .call i_gatepostref04_Del [(.t 24), (.t 28)]⟩, ⟨(some 6), none, .mv (.t 29)⟩]))
    (.region [⟨(some 22), none, .mv (.t 7)⟩, ⟨(some 23), none, .bin .add (.t 22) (.c (.int .i64 1))⟩, ⟨(some 7), none, .mv (.t 23)⟩]))))))
  (.seq (.region [⟨(some 8), none, .mv (.c .nsl)⟩])
  (.seq (.region [⟨(some 30), none, .mv (.t 8)⟩, ⟨(some 31), none, .mv (.t 6)⟩, ⟨(some 32), none, .app 2 32 false (.t 30) (.t 31)⟩, ⟨(some 2), none, .mv (.t 32)⟩])
  .ret)))))))⟩
/-- strings.Cut -/
def c_strings_Cut : FnC := ⟨13, [.tmp 4, .tmp 5, .tmp 6],
  (.seq (.region [⟨(some 4), none, .mv (.c (.str []))⟩, ⟨(some 5), none, .mv (.c (.str []))⟩, ⟨(some 6), none, .mv (.c (.bool false))⟩])
  (.seq (.region [⟨(some 7), none, .mv (.t 0)⟩, ⟨(some 8), none, .mv (.t 1)⟩, ⟨(some 9), none, .call i_internal_stringslite_Cut [(.t 7), (.t 8)]⟩, ⟨(some 10), none, .ext 0 (.t 9)⟩, ⟨(some 11), none, .ext 1 (.t 9)⟩, ⟨(some 12), none, .ext 2 (.t 9)⟩, ⟨(some 4), none, .mv (.t 10)⟩, ⟨(some 5), none, .mv (.t 11)⟩, ⟨(some 6), none, .mv (.t 12)⟩])
  .ret))⟩
/-- gatepost/token.Trim -/
def c_token_Trim : FnC := ⟨5, [.tmp 2],
  (.seq (.region [⟨(some 2), none, .mv (.c (.str []))⟩])
  (.seq (.region [⟨(some 3), none, .mv (.t 0)⟩, ⟨(some 4), none, .call i_strings_Trim [(.t 3), (.c (.str [32, 9]))]⟩, ⟨(some 2), none, .mv (.t 4)⟩])
  .ret))⟩
/-- gatepost/field.fine -/
def c_field_fine : FnC := ⟨11, [.tmp 2],
  (.seq (.region [⟨(some 1), none, .box (.t 0)⟩, ⟨(some 2), none, .mv (.c (.bool false))⟩])
  (.seq (.region [⟨(some 3), none, .faddr 0 (.t 1)⟩, ⟨(some 4), none, .load false 1 (.t 3)⟩, ⟨(some 5), none, .call i_token_Is [(.t 4)]⟩, ⟨(some 6), none, .mv (.t 5)⟩, ⟨(some 7), (some (6, true)), .faddr 1 (.t 1)⟩, ⟨(some 8), (some (6, true)), .load false 1 (.t 7)⟩, ⟨(some 9), (some (6, true)), .call i_token_Value [(.t 8)]⟩, ⟨(some 10), none, .pick (.t 6) (.t 9) (.c (.bool false))⟩, ⟨(some 2), none, .mv (.t 10)⟩])
  .ret))⟩
/-- gatepost/gatepostref01.Is -/
def c_gatepostref01_Is : FnC := ⟨18, [.tmp 2],
  (.seq (.region [⟨(some 2), none, .mv (.c (.bool false))⟩])
  (.seq (.seq (.region [⟨(some 3), none, .mv (.c (.int .i64 0))⟩])
  (.block 0 (.loop
    (.seq (.seq (.region [⟨(some 4), none, .mv (.t 3)⟩, ⟨(some 5), none, .mv (.t 0)⟩, ⟨(some 6), none, .len 0 (.t 5)⟩, ⟨(some 7), none, .bin .lss (.t 4) (.t 6)⟩])
    (.cond (.t 7)
      .skip
      (.exit 0)))
    (.seq (.block 1 (.seq (.region [⟨(some 10), none, .mv (.t 0)⟩, ⟨(some 11), none, .mv (.t 3)⟩, ⟨(some 12), none, .ixStr (.t 10) (.t 11)⟩, ⟨(some 13), none, .call i_gatepostref01_tchar [(.t 12)]⟩, ⟨(some 14), none, .un .not (.t 13)⟩])
    (.cond (.t 14)
      (.seq (.region [⟨(some 2), none, .mv (.c (.bool false))⟩])
      .ret)
      .skip)))
    (.region [⟨(some 8), none, .mv (.t 3)⟩, ⟨(some 9), none, .bin .add (.t 8) (.c (.int .i64 1))⟩, ⟨(some 3), none, .mv (.t 9)⟩]))))))
  (.seq (.region [⟨(some 15), none, .mv (.t 0)⟩, ⟨(some 16), none, .len 0 (.t 15)⟩, ⟨(some 17), none, .bin .gtr (.t 16) (.c (.int .i64 0))⟩, ⟨(some 2), none, .mv (.t 17)⟩])
  .ret)))⟩
/-- gatepost/gatepostref01.Trim -/
def c_gatepostref01_Trim : FnC := ⟨30, [.tmp 2],
  (.seq (.region [⟨(some 2), none, .mv (.c (.str []))⟩])
  (.seq (.block 0 (.loop
    (.seq (.seq (.region [⟨(some 3), none, .mv (.t 0)⟩, ⟨(some 4), none, .len 0 (.t 3)⟩, ⟨(some 5), none, .bin .gtr (.t 4) (.c (.int .i64 0))⟩, ⟨(some 6), none, .mv (.t 5)⟩, ⟨(some 7), (some (6, true)), .mv (.t 0)⟩, ⟨(some 8), (some (6, true)), .ixStr (.t 7) (.c (.int .i64 0))⟩, ⟨(some 9), (some (6, true)), .call i_gatepostref01_blank [(.t 8)]⟩, ⟨(some 10), none, .pick (.t 6) (.t 9) (.c (.bool false))⟩])
    (.cond (.t 10)
      .skip
      (.exit 0)))
    (.block 1 (.region [⟨(some 11), none, .mv (.t 0)⟩, ⟨(some 12), none, .slstr (.t 11) (some (.c (.int .i64 1))) none⟩, ⟨(some 0), none, .mv (.t 12)⟩])))))
  (.seq (.block 2 (.loop
    (.seq (.seq (.region [⟨(some 13), none, .mv (.t 0)⟩, ⟨(some 14), none, .len 0 (.t 13)⟩, ⟨(some 15), none, .bin .gtr (.t 14) (.c (.int .i64 0))⟩, ⟨(some 16), none, .mv (.t 15)⟩, ⟨(some 17), (some (16, true)), .mv (.t 0)⟩, ⟨(some 18), (some (16, true)), .mv (.t 0)⟩, ⟨(some 19), (some (16, true)), .len 0 (.t 18)⟩, ⟨(some 20), (some (16, true)), .bin .sub (.t 19) (.c (.int .i64 1))⟩, ⟨(some 21), (some (16, true)), .ixStr (.t 17) (.t 20)⟩, ⟨(some 22), (some (16, true)), .call i_gatepostref01_blank [(.t 21)]⟩, ⟨(some 23), none, .pick (.t 16) (.t 22) (.c (.bool false))⟩])
    (.cond (.t 23)
      .skip
      (.exit 2)))
    (.block 3 (.region [⟨(some 24), none, .mv (.t 0)⟩, ⟨(some 25), none, .mv (.t 0)⟩, ⟨(some 26), none, .len 0 (.t 25)⟩, ⟨(some 27), none, .bin .sub (.t 26) (.c (.int .i64 1))⟩, ⟨(some 28), none, .slstr (.t 24) none (some (.t 27))⟩, ⟨(some 0), none, .mv (.t 28)⟩])))))
  (.seq (.region [⟨(some 29), none, .mv (.t 0)⟩, ⟨(some 2), none, .mv (.t 29)⟩])
  .ret))))⟩
/-- gatepost/gatepostref01.Value -/
def c_gatepostref01_Value : FnC := ⟨42, [.tmp 2],
  (.seq (.region [⟨(some 2), none, .mv (.c (.bool false))⟩])
  (.seq (.seq (.region [⟨(some 3), none, .mv (.c (.int .i64 0))⟩])
  (.block 0 (.loop
    (.seq (.seq (.region [⟨(some 5), none, .mv (.t 3)⟩, ⟨(some 6), none, .mv (.t 0)⟩, ⟨(some 7), none, .len 0 (.t 6)⟩, ⟨(some 8), none, .bin .lss (.t 5) (.t 7)⟩])
    (.cond (.t 8)
      .skip
      (.exit 0)))
    (.seq (.block 1 (.seq (.region [⟨(some 11), none, .mv (.t 0)⟩, ⟨(some 12), none, .mv (.t 3)⟩, ⟨(some 13), none, .ixStr (.t 11) (.t 12)⟩, ⟨(some 4), none, .mv (.t 13)⟩])
    (.seq (.region [⟨(some 14), none, .mv (.t 4)⟩, ⟨(some 15), none, .call i_gatepostref01_blank [(.t 14)]⟩, ⟨(some 16), none, .un .not (.t 15)⟩, ⟨(some 17), none, .mv (.t 16)⟩, ⟨(some 18), (some (17, true)), .mv (.t 4)⟩, ⟨(some 19), (some (17, true)), .bin .lss (.t 18) (.c (.int .u8 33))⟩, ⟨(some 20), (some (17, true)), .mv (.t 19)⟩, ⟨(some 21), (some (20, false)), .mv (.t 4)⟩, ⟨(some 22), (some (20, false)), .bin .eql (.t 21) (.c (.int .u8 127))⟩, ⟨(some 23), (some (17, true)), .pick (.t 20) (.c (.bool true)) (.t 22)⟩, ⟨(some 24), none, .pick (.t 17) (.t 23) (.c (.bool false))⟩])
    (.cond (.t 24)
      (.seq (.region [⟨(some 2), none, .mv (.c (.bool false))⟩])
      .ret)
      .skip))))
    (.region [⟨(some 9), none, .mv (.t 3)⟩, ⟨(some 10), none, .bin .add (.t 9) (.c (.int .i64 1))⟩, ⟨(some 3), none, .mv (.t 10)⟩]))))))
  (.seq (.region [⟨(some 25), none, .mv (.t 0)⟩, ⟨(some 26), none, .bin .eql (.t 25) (.c (.str []))⟩, ⟨(some 27), none, .mv (.t 26)⟩, ⟨(some 28), (some (27, false)), .mv (.t 0)⟩, ⟨(some 29), (some (27, false)), .ixStr (.t 28) (.c (.int .i64 0))⟩, ⟨(some 30), (some (27, false)), .call i_gatepostref01_blank [(.t 29)]⟩, ⟨(some 31), (some (27, false)), .un .not (.t 30)⟩, ⟨(some 32), (some (27, false)), .mv (.t 31)⟩, ⟨(some 33), (some (32, true)), .mv (.t 0)⟩, ⟨(some 34), (some (32, true)), .mv (.t 0)⟩, ⟨(some 35), (some (32, true)), .len 0 (.t 34)⟩, ⟨(some 36), (some (32, true)), .bin .sub (.t 35) (.c (.int .i64 1))⟩, ⟨(some 37), (some (32, true)), .ixStr (.t 33) (.t 36)⟩, ⟨(some 38), (some (32, true)), .call i_gatepostref01_blank [(.t 37)]⟩, ⟨(some 39), (some (32, true)), .un .not (.t 38)⟩, ⟨(some 40), (some (27, false)), .pick (.t 32) (.t 39) (.c (.bool false))⟩, ⟨(some 41), none, .pick (.t 27) (.c (.bool true)) (.t 40)⟩, ⟨(some 2), none, .mv (.t 41)⟩])
  .ret)))⟩
/-- gatepost/token.Split -/
def c_token_Split : FnC := ⟨54, [.tmp 2, .tmp 3],
  (.seq (.region [⟨(some 1), none, .box (.t 0)⟩, ⟨(some 2), none, .mv (.c .nsl)⟩, ⟨(some 3), none, .mv (.c (.bool false))⟩])
  (.seq (.region [⟨(some 4), none, .boxz [.nsl]⟩])
  (.seq (.region [⟨(some 5), none, .boxz [(.int .i64 0)]⟩, ⟨none, none, .store 1 (.t 5) (.c (.int .i64 0))⟩])
  (.seq (.region [⟨(some 10), none, .mkfn i_token_Split_1 [(.t 1), (.t 5), (.t 4)]⟩, ⟨(some 6), none, .mv (.t 10)⟩])
  (.seq (.region [⟨(some 7), none, .mv (.c (.bool false))⟩])
  (.seq (.seq (.region [⟨(some 8), none, .mv (.c (.int .i64 0))⟩])
  (.block 0 (.loop
    (.seq (.seq (.region [⟨(some 11), none, .mv (.t 8)⟩, ⟨(some 12), none, .load false 1 (.t 1)⟩, ⟨(some 13), none, .len 0 (.t 12)⟩, ⟨(some 14), none, .bin .lss (.t 11) (.t 13)⟩])
    (.cond (.t 14)
      .skip
      (.exit 0)))
    (.seq (.block 1 (.seq (.region [⟨(some 17), none, .load false 1 (.t 1)⟩, ⟨(some 18), none, .mv (.t 8)⟩, ⟨(some 19), none, .ixStr (.t 17) (.t 18)⟩, ⟨(some 9), none, .mv (.t 19)⟩])
    (.block 2 (.seq (.region [⟨(some 21), none, .mv (.t 9)⟩, ⟨(some 22), none, .bin .eql (.t 21) (.c (.int .u8 34))⟩, ⟨(some 20), none, .mv (.t 22)⟩])
    (.cond (.t 20)
      (.region [⟨(some 23), none, .mv (.t 7)⟩, ⟨(some 24), none, .un .not (.t 23)⟩, ⟨(some 7), none, .mv (.t 24)⟩])
      (.seq (.region [⟨(some 26), none, .mv (.t 7)⟩, ⟨(some 27), none, .mv (.t 26)⟩, ⟨(some 28), (some (27, true)), .mv (.t 9)⟩, ⟨(some 29), (some (27, true)), .bin .eql (.t 28) (.c (.int .u8 92))⟩, ⟨(some 30), none, .pick (.t 27) (.t 29) (.c (.bool false))⟩, ⟨(some 25), none, .mv (.t 30)⟩])
      (.cond (.t 25)
        (.region [⟨(some 31), none, .mv (.t 8)⟩, ⟨(some 32), none, .bin .add (.t 31) (.c (.int .i64 1))⟩, ⟨(some 8), none, .mv (.t 32)⟩])
        (.seq (.region [⟨(some 34), none, .mv (.t 7)⟩, ⟨(some 35), none, .un .not (.t 34)⟩, ⟨(some 36), none, .mv (.t 35)⟩, ⟨(some 37), (some (36, true)), .mv (.t 9)⟩, ⟨(some 38), (some (36, true)), .bin .eql (.t 37) (.c (.int .u8 44))⟩, ⟨(some 39), none, .pick (.t 36) (.t 38) (.c (.bool false))⟩, ⟨(some 33), none, .mv (.t 39)⟩])
        (.cond (.t 33)
          (.region [⟨(some 40), none, .mv (.t 6)⟩, ⟨(some 41), none, .mv (.t 8)⟩, ⟨(some 42), none, .callv (.t 40) [(.t 41)]⟩])
          .skip)))))))))
    (.region [⟨(some 15), none, .mv (.t 8)⟩, ⟨(some 16), none, .bin .add (.t 15) (.c (.int .i64 1))⟩, ⟨(some 8), none, .mv (.t 16)⟩]))))))
  (.seq (.seq (.region [⟨(some 43), none, .mv (.t 7)⟩])
  (.cond (.t 43)
    (.seq (.region [⟨(some 2), none, .mv (.c .nsl)⟩, ⟨(some 3), none, .mv (.c (.bool false))⟩])
    .ret)
    .skip))
  (.seq (.region [⟨(some 44), none, .mv (.t 6)⟩, ⟨(some 45), none, .load false 1 (.t 1)⟩, ⟨(some 46), none, .len 0 (.t 45)⟩, ⟨(some 47), none, .callv (.t 44) [(.t 46)]⟩])
  (.seq (.region [⟨(some 48), none, .load false 1 (.t 4)⟩, ⟨(some 49), none, .load false 1 (.t 4)⟩, ⟨(some 50), none, .len 1 (.t 49)⟩, ⟨(some 51), none, .load false 1 (.t 4)⟩, ⟨(some 52), none, .len 1 (.t 51)⟩, ⟨(some 53), none, .slsl 1 (.t 48) none (some (.t 50)) (some (.t 52))⟩, ⟨(some 2), none, .mv (.t 53)⟩, ⟨(some 3), none, .mv (.c (.bool true))⟩])
  .ret)))))))))⟩
/-- gatepost/token.all -/
def c_token_all : FnC := ⟨18, [.tmp 4],
  (.seq (.region [⟨(some 4), none, .mv (.c (.bool false))⟩])
  (.seq (.seq (.region [⟨(some 6), none, .mv (.t 0)⟩, ⟨(some 7), none, .len 0 (.t 6)⟩, ⟨(some 8), none, .mv (.c (.int .i64 0))⟩])
  (.block 0 (.loop
    (.seq (.region [⟨(some 9), none, .bin .lss (.t 8) (.t 7)⟩])
    (.seq (.cond (.t 9)
      .skip
      (.exit 0))
    (.seq (.block 1 (.seq (.region [⟨(some 10), none, .mv (.t 8)⟩, ⟨(some 5), none, .mv (.t 10)⟩])
    (.seq (.region [⟨(some 11), none, .mv (.t 1)⟩, ⟨(some 12), none, .mv (.t 0)⟩, ⟨(some 13), none, .mv (.t 5)⟩, ⟨(some 14), none, .ixStr (.t 12) (.t 13)⟩, ⟨(some 15), none, .callv (.t 11) [(.t 14)]⟩, ⟨(some 16), none, .un .not (.t 15)⟩])
    (.cond (.t 16)
      (.seq (.region [⟨(some 4), none, .mv (.c (.bool false))⟩])
      .ret)
      .skip))))
    (.region [⟨(some 17), none, .bin .add (.t 8) (.c (.int .i64 1))⟩, ⟨(some 8), none, .mv (.t 17)⟩])))))))
  (.seq (.region [⟨(some 4), none, .mv (.c (.bool true))⟩])
  .ret)))⟩
/-- gatepost/token.inToken -/
def c_token_inToken : FnC := ⟨30, [.tmp 2],
  (.seq (.region [⟨(some 2), none, .mv (.c (.bool false))⟩])
  (.seq (.seq (.region [⟨(some 6), none, .mv (.t 0)⟩, ⟨(some 7), none, .bin .or (.t 6) (.c (.int .u8 32))⟩, ⟨(some 3), none, .mv (.t 7)⟩])
  (.seq (.region [⟨(some 8), none, .mv (.t 3)⟩, ⟨(some 9), none, .bin .geq (.t 8) (.c (.int .u8 97))⟩, ⟨(some 10), none, .mv (.t 9)⟩, ⟨(some 11), (some (10, true)), .mv (.t 3)⟩, ⟨(some 12), (some (10, true)), .bin .leq (.t 11) (.c (.int .u8 122))⟩, ⟨(some 13), none, .pick (.t 10) (.t 12) (.c (.bool false))⟩, ⟨(some 14), none, .mv (.t 13)⟩, ⟨(some 15), (some (14, false)), .mv (.t 0)⟩, ⟨(some 16), (some (14, false)), .bin .geq (.t 15) (.c (.int .u8 48))⟩, ⟨(some 17), (some (14, false)), .mv (.t 16)⟩, ⟨(some 18), (some (17, true)), .mv (.t 0)⟩, ⟨(some 19), (some (17, true)), .bin .leq (.t 18) (.c (.int .u8 57))⟩, ⟨(some 20), (some (14, false)), .pick (.t 17) (.t 19) (.c (.bool false))⟩, ⟨(some 21), none, .pick (.t 14) (.c (.bool true)) (.t 20)⟩])
  (.cond (.t 21)
    (.seq (.region [⟨(some 2), none, .mv (.c (.bool true))⟩])
    .ret)
    .skip)))
  (.seq (.seq (.region [⟨(some 22), none, .call i_token_marks []⟩, ⟨(some 23), none, .mv (.c (.int .i64 0))⟩])
  (.block 0 (.loop
    (.seq (.region [⟨(some 24), none, .bin .lss (.t 23) (.c (.int .i64 15))⟩])
    (.seq (.cond (.t 24)
      .skip
      (.exit 0))
    (.seq (.block 1 (.seq (.region [⟨(some 25), none, .ixArr 15 1 false (.t 22) (.t 23)⟩, ⟨(some 5), none, .mv (.t 25)⟩])
    (.seq (.region [⟨(some 26), none, .mv (.t 5)⟩, ⟨(some 27), none, .mv (.t 0)⟩, ⟨(some 28), none, .bin .eql (.t 26) (.t 27)⟩])
    (.cond (.t 28)
      (.seq (.region [⟨(some 2), none, .mv (.c (.bool true))⟩])
      .ret)
      .skip))))
    (.region [⟨(some 29), none, .bin .add (.t 23) (.c (.int .i64 1))⟩, ⟨(some 23), none, .mv (.t 29)⟩])))))))
  (.seq (.region [⟨(some 2), none, .mv (.c (.bool false))⟩])
  .ret))))⟩
/-- gatepost/field.without -/
def c_field_without : FnC := ⟨22, [.tmp 4],
  (.seq (.region [⟨(some 4), none, .mv (.c .nsl)⟩])
  (.seq (.region [⟨(some 8), none, .mkmap⟩, ⟨(some 5), none, .boxz [.nmap]⟩, ⟨none, none, .store 1 (.t 5) (.t 8)⟩])
  (.seq (.seq (.region [⟨(some 9), none, .mv (.t 1)⟩, ⟨(some 10), none, .len 1 (.t 9)⟩, ⟨(some 11), none, .mv (.c (.int .i64 0))⟩])
  (.block 0 (.loop
    (.seq (.region [⟨(some 12), none, .bin .lss (.t 11) (.t 10)⟩])
    (.seq (.cond (.t 12)
      .skip
      (.exit 0))
    (.seq (.block 1 (.seq (.region [⟨(some 13), none, .ixaSl 1 (.t 9) (.t 11)⟩, ⟨(some 14), none, .load false 1 (.t 13)⟩, ⟨(some 7), none, .mv (.t 14)⟩])
    (.dregion [⟨(some 15), none, .load false 1 (.t 5)⟩, ⟨(some 16), none, .mv (.t 7)⟩, ⟨(some 17), none, .call i_token_Lower [(.t 16)]⟩] [⟨none, none, .mapset .s (.t 15) (.t 17) (.c (.bool true))⟩])))
    (.region [⟨(some 18), none, .bin .add (.t 11) (.c (.int .i64 1))⟩, ⟨(some 11), none, .mv (.t 18)⟩])))))))
  (.seq (.region [⟨(some 19), none, .mv (.t 0)⟩, ⟨(some 20), none, .mkfn i_field_without_1 [(.t 5)]⟩, ⟨(some 21), none, .call i_field_keep [(.t 19), (.t 20)]⟩, ⟨(some 4), none, .mv (.t 21)⟩])
  .ret))))⟩
/-- gatepost/token.Same -/
def c_token_Same : FnC := ⟨17, [.tmp 4],
  (.seq (.region [⟨(some 4), none, .mv (.c (.bool false))⟩])
  (.seq (.region [⟨(some 5), none, .mv (.t 0)⟩, ⟨(some 6), none, .len 0 (.t 5)⟩, ⟨(some 7), none, .mv (.t 1)⟩, ⟨(some 8), none, .len 0 (.t 7)⟩, ⟨(some 9), none, .bin .eql (.t 6) (.t 8)⟩, ⟨(some 10), none, .mv (.t 9)⟩, ⟨(some 11), (some (10, true)), .mv (.t 0)⟩, ⟨(some 12), (some (10, true)), .call i_token_Lower [(.t 11)]⟩, ⟨(some 13), (some (10, true)), .mv (.t 1)⟩, ⟨(some 14), (some (10, true)), .call i_token_Lower [(.t 13)]⟩, ⟨(some 15), (some (10, true)), .bin .eql (.t 12) (.t 14)⟩, ⟨(some 16), none, .pick (.t 10) (.t 15) (.c (.bool false))⟩, ⟨(some 4), none, .mv (.t 16)⟩])
  .ret))⟩
/-- gatepost/gatepostref01.Same -/
def c_gatepostref01_Same : FnC := ⟨10, [.tmp 4],
  (.seq (.region [⟨(some 4), none, .mv (.c (.bool false))⟩])
  (.seq (.region [⟨(some 5), none, .mv (.t 0)⟩, ⟨(some 6), none, .call i_gatepostref01_Lower [(.t 5)]⟩, ⟨(some 7), none, .mv (.t 1)⟩, ⟨(some 8), none, .call i_gatepostref01_Lower [(.t 7)]⟩, ⟨(some 9), none, .bin .eql (.t 6) (.t 8)⟩, ⟨(some 4), none, .mv (.t 9)⟩])
  .ret))⟩
/-- gatepost/gatepostref01.Split -/
def c_gatepostref01_Split : FnC := ⟨74, [.tmp 2, .tmp 3],
  (.seq (.region [⟨(some 2), none, .mv (.c .nsl)⟩, ⟨(some 3), none, .mv (.c (.bool false))⟩])
  (.seq (.region [⟨(some 4), none, .mv (.c .nsl)⟩])
  (.seq (.region [⟨(some 5), none, .mv (.c (.str []))⟩])
  (.seq (.region [⟨(some 6), none, .mv (.c (.bool false))⟩])
  (.seq (.seq (.region [⟨(some 7), none, .mv (.c (.int .i64 0))⟩])
  (.block 0 (.loop
    (.seq (.seq (.region [⟨(some 9), none, .mv (.t 7)⟩, ⟨(some 10), none, .mv (.t 0)⟩, ⟨(some 11), none, .len 0 (.t 10)⟩, ⟨(some 12), none, .bin .lss (.t 9) (.t 11)⟩])
    (.cond (.t 12)
      .skip
      (.exit 0)))
    (.seq (.block 1 (.seq (.region [⟨(some 15), none, .mv (.t 0)⟩, ⟨(some 16), none, .mv (.t 7)⟩, ⟨(some 17), none, .ixStr (.t 15) (.t 16)⟩, ⟨(some 8), none, .mv (.t 17)⟩])
    (.seq (.seq (.region [⟨(some 18), none, .mv (.t 6)⟩, ⟨(some 19), none, .un .not (.t 18)⟩, ⟨(some 20), none, .mv (.t 19)⟩, ⟨(some 21), (some (20, true)), .mv (.t 8)⟩, ⟨(some 22), (some (20, true)), .bin .eql (.t 21) (.c (.int .u8 44))⟩, ⟨(some 23), none, .pick (.t 20) (.t 22) (.c (.bool false))⟩])
    (.cond (.t 23)
      (.seq (.region [⟨(some 24), none, .mv (.t 5)⟩, ⟨(some 25), none, .call i_gatepostref01_Trim [(.t 24)]⟩, ⟨(some 5), none, .mv (.t 25)⟩])
      (.seq (.seq (.region [⟨(some 26), none, .mv (.t 5)⟩, ⟨(some 27), none, .bin .neq (.t 26) (.c (.str []))⟩])
      (.cond (.t 27)
        (.region [⟨(some 28), none, .mv (.t 4)⟩, ⟨(some 29), none, .mv (.t 5)⟩, ⟨(some 30), none, .bsl 1 [(.t 29)]⟩, ⟨(some 31), none, .app 1 16 false (.t 28) (.t 30)⟩, ⟨(some 4), none, .mv (.t 31)⟩])
        .skip))
      (.seq (.region [⟨(some 5), none, .mv (.c (.str []))⟩])
      (.exit 1))))
      .skip))
    (.seq (.region [⟨(some 32), none, .mv (.t 5)⟩, ⟨(some 33), none, .mv (.t 0)⟩, ⟨(some 34), none, .mv (.t 7)⟩, ⟨(some 35), none, .mv (.t 7)⟩, ⟨(some 36), none, .bin .add (.t 35) (.c (.int .i64 1))⟩, ⟨(some 37), none, .slstr (.t 33) (some (.t 34)) (some (.t 36))⟩, ⟨(some 38), none, .bin .add (.t 32) (.t 37)⟩, ⟨(some 5), none, .mv (.t 38)⟩])
    (.seq (.seq (.region [⟨(some 39), none, .mv (.t 8)⟩, ⟨(some 40), none, .bin .eql (.t 39) (.c (.int .u8 34))⟩])
    (.cond (.t 40)
      (.region [⟨(some 41), none, .mv (.t 6)⟩, ⟨(some 42), none, .un .not (.t 41)⟩, ⟨(some 6), none, .mv (.t 42)⟩])
      .skip))
    (.seq (.region [⟨(some 43), none, .mv (.t 6)⟩, ⟨(some 44), none, .mv (.t 43)⟩, ⟨(some 45), (some (44, true)), .mv (.t 8)⟩, ⟨(some 46), (some (44, true)), .bin .eql (.t 45) (.c (.int .u8 92))⟩, ⟨(some 47), none, .pick (.t 44) (.t 46) (.c (.bool false))⟩, ⟨(some 48), none, .mv (.t 47)⟩, ⟨(some 49), (some (48, true)), .mv (.t 7)⟩, ⟨(some 50), (some (48, true)), .bin .add (.t 49) (.c (.int .i64 1))⟩, ⟨(some 51), (some (48, true)), .mv (.t 0)⟩, ⟨(some 52), (some (48, true)), .len 0 (.t 51)⟩, ⟨(some 53), (some (48, true)), .bin .lss (.t 50) (.t 52)⟩, ⟨(some 54), none, .pick (.t 48) (.t 53) (.c (.bool false))⟩])
    (.cond (.t 54)
      (.seq (.region [⟨(some 55), none, .mv (.t 7)⟩, ⟨(some 56), none, .bin .add (.t 55) (.c (.int .i64 1))⟩, ⟨(some 7), none, .mv (.t 56)⟩])
      (.region [⟨(some 57), none, .mv (.t 5)⟩, ⟨(some 58), none, .mv (.t 0)⟩, ⟨(some 59), none, .mv (.t 7)⟩, ⟨(some 60), none, .mv (.t 7)⟩, ⟨(some 61), none, .bin .add (.t 60) (.c (.int .i64 1))⟩, ⟨(some 62), none, .slstr (.t 58) (some (.t 59)) (some (.t 61))⟩, ⟨(some 63), none, .bin .add (.t 57) (.t 62)⟩, ⟨(some 5), none, .mv (.t 63)⟩]))
      .skip)))))))
    (.region [⟨(some 13), none, .mv (.t 7)⟩, ⟨(some 14), none, .bin .add (.t 13) (.c (.int .i64 1))⟩, ⟨(some 7), none, .mv (.t 14)⟩]))))))
  (.seq (.region [⟨(some 64), none, .mv (.t 5)⟩, ⟨(some 65), none, .call i_gatepostref01_Trim [(.t 64)]⟩, ⟨(some 5), none, .mv (.t 65)⟩])
  (.seq (.seq (.region [⟨(some 66), none, .mv (.t 6)⟩])
  (.cond (.t 66)
    (.seq (.region [⟨(some 2), none, .mv (.c .nsl)⟩, ⟨(some 3), none, .mv (.c (.bool false))⟩])
    .ret)
    .skip))
  (.seq (.seq (.region [⟨(some 67), none, .mv (.t 5)⟩, ⟨(some 68), none, .bin .neq (.t 67) (.c (.str []))⟩])
  (.cond (.t 68)
    (.region [⟨(some 69), none, .mv (.t 4)⟩, ⟨(some 70), none, .mv (.t 5)⟩, ⟨(some 71), none, .bsl 1 [(.t 70)]⟩, ⟨(some 72), none, .app 1 16 false (.t 69) (.t 71)⟩, ⟨(some 4), none, .mv (.t 72)⟩])
    .skip))
  (.seq (.region [⟨(some 73), none, .mv (.t 4)⟩, ⟨(some 2), none, .mv (.t 73)⟩, ⟨(some 3), none, .mv (.c (.bool true))⟩])
  .ret)))))))))⟩
/-- gatepost/gatepostref01.Lower -/
def c_gatepostref01_Lower : FnC := ⟨29, [.tmp 2],
  (.seq (.region [⟨(some 2), none, .mv (.c (.str []))⟩])
  (.seq (.region [⟨(some 3), none, .mv (.c (.str []))⟩])
  (.seq (.seq (.region [⟨(some 4), none, .mv (.c (.int .i64 0))⟩])
  (.block 0 (.loop
    (.seq (.seq (.region [⟨(some 6), none, .mv (.t 4)⟩, ⟨(some 7), none, .mv (.t 0)⟩, ⟨(some 8), none, .len 0 (.t 7)⟩, ⟨(some 9), none, .bin .lss (.t 6) (.t 8)⟩])
    (.cond (.t 9)
      .skip
      (.exit 0)))
    (.seq (.block 1 (.seq (.region [⟨(some 12), none, .mv (.t 0)⟩, ⟨(some 13), none, .mv (.t 4)⟩, ⟨(some 14), none, .ixStr (.t 12) (.t 13)⟩, ⟨(some 5), none, .mv (.t 14)⟩])
    (.seq (.seq (.region [⟨(some 15), none, .mv (.t 5)⟩, ⟨(some 16), none, .bin .geq (.t 15) (.c (.int .u8 65))⟩, ⟨(some 17), none, .mv (.t 16)⟩, ⟨(some 18), (some (17, true)), .mv (.t 5)⟩, ⟨(some 19), (some (17, true)), .bin .leq (.t 18) (.c (.int .u8 90))⟩, ⟨(some 20), none, .pick (.t 17) (.t 19) (.c (.bool false))⟩])
    (.cond (.t 20)
      (.region [⟨(some 21), none, .mv (.t 5)⟩, ⟨(some 22), none, .bin .add (.t 21) (.c (.int .u8 32))⟩, ⟨(some 5), none, .mv (.t 22)⟩])
      .skip))
    (.region [⟨(some 23), none, .mv (.t 3)⟩, ⟨(some 24), none, .mv (.t 5)⟩, ⟨(some 25), none, .bsl 1 [(.t 24)]⟩, ⟨(some 26), none, .toStr (.t 25)⟩, ⟨(some 27), none, .bin .add (.t 23) (.t 26)⟩, ⟨(some 3), none, .mv (.t 27)⟩]))))
    (.region [⟨(some 10), none, .mv (.t 4)⟩, ⟨(some 11), none, .bin .add (.t 10) (.c (.int .i64 1))⟩, ⟨(some 4), none, .mv (.t 11)⟩]))))))
  (.seq (.region [⟨(some 28), none, .mv (.t 3)⟩, ⟨(some 2), none, .mv (.t 28)⟩])
  .ret))))⟩
/-- internal/stringslite.Cut -/
def c_internal_stringslite_Cut : FnC := ⟨23, [.tmp 4, .tmp 5, .tmp 6],
  (.seq (.region [⟨(some 4), none, .mv (.c (.str []))⟩, ⟨(some 5), none, .mv (.c (.str []))⟩, ⟨(some 6), none, .mv (.c (.bool false))⟩])
  (.seq (.seq (.region [⟨(some 8), none, .mv (.t 0)⟩, ⟨(some 9), none, .mv (.t 1)⟩, ⟨(some 10), none, .call i_internal_stringslite_Index [(.t 8), (.t 9)]⟩, ⟨(some 7), none, .mv (.t 10)⟩])
  (.seq (.region [⟨(some 11), none, .mv (.t 7)⟩, ⟨(some 12), none, .bin .geq (.t 11) (.c (.int .i64 0))⟩])
  (.cond (.t 12)
    (.seq (.dregion [⟨(some 13), none, .mv (.t 0)⟩, ⟨(some 14), none, .mv (.t 7)⟩, ⟨(some 15), none, .slstr (.t 13) none (some (.t 14))⟩, ⟨(some 16), none, .mv (.t 0)⟩, ⟨(some 17), none, .mv (.t 7)⟩, ⟨(some 18), none, .mv (.t 1)⟩, ⟨(some 19), none, .len 0 (.t 18)⟩, ⟨(some 20), none, .bin .add (.t 17) (.t 19)⟩, ⟨(some 21), none, .slstr (.t 16) (some (.t 20)) none⟩, ⟨(some 4), none, .mv (.t 15)⟩] [⟨(some 5), none, .mv (.t 21)⟩, ⟨(some 6), none, .mv (.c (.bool true))⟩])
    .ret)
    .skip)))
  (.seq (.region [⟨(some 22), none, .mv (.t 0)⟩, ⟨(some 4), none, .mv (.t 22)⟩, ⟨(some 5), none, .mv (.c (.str []))⟩, ⟨(some 6), none, .mv (.c (.bool false))⟩])
  .ret)))⟩
/-- strings.Trim -/
def c_strings_Trim : FnC := ⟨43, [.tmp 4],
  (.seq (.region [⟨(some 4), none, .mv (.c (.str []))⟩])
  (.seq (.seq (.region [⟨(some 7), none, .mv (.t 0)⟩, ⟨(some 8), none, .bin .eql (.t 7) (.c (.str []))⟩, ⟨(some 9), none, .mv (.t 8)⟩, ⟨(some 10), (some (9, false)), .mv (.t 1)⟩, ⟨(some 11), (some (9, false)), .bin .eql (.t 10) (.c (.str []))⟩, ⟨(some 12), none, .pick (.t 9) (.c (.bool true)) (.t 11)⟩])
  (.cond (.t 12)
    (.seq (.region [⟨(some 13), none, .mv (.t 0)⟩, ⟨(some 4), none, .mv (.t 13)⟩])
    .ret)
    .skip))
  (.seq (.seq (.region [⟨(some 14), none, .mv (.t 1)⟩, ⟨(some 15), none, .len 0 (.t 14)⟩, ⟨(some 16), none, .bin .eql (.t 15) (.c (.int .i64 1))⟩, ⟨(some 17), none, .mv (.t 16)⟩, ⟨(some 18), (some (17, true)), .mv (.t 1)⟩, ⟨(some 19), (some (17, true)), .ixStr (.t 18) (.c (.int .i64 0))⟩, ⟨(some 20), (some (17, true)), .bin .lss (.t 19) (.c (.int .u8 128))⟩, ⟨(some 21), none, .pick (.t 17) (.t 20) (.c (.bool false))⟩])
  (.cond (.t 21)
    (.seq (.dregion [⟨(some 22), none, .mv (.t 0)⟩, ⟨(some 23), none, .mv (.t 1)⟩, ⟨(some 24), none, .ixStr (.t 23) (.c (.int .i64 0))⟩, ⟨(some 25), none, .call i_strings_trimRightByte [(.t 22), (.t 24)]⟩, ⟨(some 26), none, .mv (.t 1)⟩, ⟨(some 27), none, .ixStr (.t 26) (.c (.int .i64 0))⟩] [⟨(some 28), none, .call i_strings_trimLeftByte [(.t 25), (.t 27)]⟩, ⟨(some 4), none, .mv (.t 28)⟩])
    .ret)
    .skip))
  (.seq (.seq (.region [⟨(some 30), none, .mv (.t 1)⟩, ⟨(some 31), none, .call i_strings_makeASCIISet [(.t 30)]⟩, ⟨(some 29), none, .mv (.t 31)⟩, ⟨(some 32), none, .ext 0 (.t 29)⟩, ⟨(some 33), none, .ext 1 (.t 29)⟩, ⟨(some 5), none, .boxz (List.replicate 256 (.bool false))⟩, ⟨none, none, .store 256 (.t 5) (.t 32)⟩, ⟨(some 6), none, .mv (.t 33)⟩])
  (.seq (.region [⟨(some 34), none, .mv (.t 6)⟩])
  (.cond (.t 34)
    (.seq (.region [⟨(some 35), none, .mv (.t 0)⟩, ⟨(some 36), none, .call i_strings_trimRightASCII [(.t 35), (.t 5)]⟩, ⟨(some 37), none, .call i_strings_trimLeftASCII [(.t 36), (.t 5)]⟩, ⟨(some 4), none, .mv (.t 37)⟩])
    .ret)
    .skip)))
  (.seq (.region [⟨(some 38), none, .mv (.t 0)⟩, ⟨(some 39), none, .mv (.t 1)⟩, ⟨(some 40), none, .call i_strings_trimRightUnicode [(.t 38), (.t 39)]⟩, ⟨(some 41), none, .mv (.t 1)⟩, ⟨(some 42), none, .call i_strings_trimLeftUnicode [(.t 40), (.t 41)]⟩, ⟨(some 4), none, .mv (.t 42)⟩])
  .ret)))))⟩
/-- gatepost/token.Value -/
def c_token_Value : FnC := ⟨11, [.tmp 2],
  (.seq (.region [⟨(some 2), none, .mv (.c (.bool false))⟩])
  (.seq (.region [⟨(some 3), none, .mv (.t 0)⟩, ⟨(some 4), none, .call i_token_Trim [(.t 3)]⟩, ⟨(some 5), none, .mv (.t 0)⟩, ⟨(some 6), none, .bin .eql (.t 4) (.t 5)⟩, ⟨(some 7), none, .mv (.t 6)⟩, ⟨(some 8), (some (7, true)), .mv (.t 0)⟩, ⟨(some 9), (some (7, true)), .call i_token_all [(.t 8), (.c (.fn i_token_Value_1 []))]⟩, ⟨(some 10), none, .pick (.t 7) (.t 9) (.c (.bool false))⟩, ⟨(some 2), none, .mv (.t 10)⟩])
  .ret))⟩
/-- gatepost/gatepostref01.tchar -/
def c_gatepostref01_tchar : FnC := ⟨42, [.tmp 2],
  (.seq (.region [⟨(some 2), none, .mv (.c (.bool false))⟩])
  (.seq (.seq (.region [⟨(some 3), none, .mv (.t 0)⟩, ⟨(some 4), none, .bin .geq (.t 3) (.c (.int .u8 97))⟩, ⟨(some 5), none, .mv (.t 4)⟩, ⟨(some 6), (some (5, true)), .mv (.t 0)⟩, ⟨(some 7), (some (5, true)), .bin .leq (.t 6) (.c (.int .u8 122))⟩, ⟨(some 8), none, .pick (.t 5) (.t 7) (.c (.bool false))⟩, ⟨(some 9), none, .mv (.t 8)⟩, ⟨(some 10), (some (9, false)), .mv (.t 0)⟩, ⟨(some 11), (some (9, false)), .bin .geq (.t 10) (.c (.int .u8 65))⟩, ⟨(some 12), (some (9, false)), .mv (.t 11)⟩, ⟨(some 13), (some (12, true)), .mv (.t 0)⟩, ⟨(some 14), (some (12, true)), .bin .leq (.t 13) (.c (.int .u8 90))⟩, ⟨(some 15), (some (9, false)), .pick (.t 12) (.t 14) (.c (.bool false))⟩, ⟨(some 16), none, .pick (.t 9) (.c (.bool true)) (.t 15)⟩, ⟨(some 17), none, .mv (.t 16)⟩, ⟨(some 18), (some (17, false)), .mv (.t 0)⟩, ⟨(some 19), (some (17, false)), .bin .geq (.t 18) (.c (.int .u8 48))⟩, ⟨(some 20), (some (17, false)), .mv (.t 19)⟩, ⟨(some 21), (some (20, true)), .mv (.t 0)⟩, ⟨(some 22), (some (20, true)), .bin .leq (.t 21) (.c (.int .u8 57))⟩, ⟨(some 23), (some (17, false)), .pick (.t 20) (.t 22) (.c (.bool false))⟩, ⟨(some 24), none, .pick (.t 17) (.c (.bool true)) (.t 23)⟩])
  (.cond (.t 24)
    (.seq (.region [⟨(some 2), none, .mv (.c (.bool true))⟩])
    .ret)
    .skip))
  (.seq (.seq (.region [⟨(some 25), none, .mv (.t 0)⟩])
  (.block 0 (.seq (.seq (.region [⟨(some 27), none, .bin .eql (.t 25) (.c (.int .u8 33))⟩, ⟨(some 26), none, .mv (.t 27)⟩])
  (.cond (.t 26)
    .skip
    (.seq (.region [⟨(some 28), none, .bin .eql (.t 25) (.c (.int .u8 35))⟩, ⟨(some 26), none, .mv (.t 28)⟩])
    (.cond (.t 26)
      .skip
      (.seq (.region [⟨(some 29), none, .bin .eql (.t 25) (.c (.int .u8 36))⟩, ⟨(some 26), none, .mv (.t 29)⟩])
      (.cond (.t 26)
        .skip
        (.seq (.region [⟨(some 30), none, .bin .eql (.t 25) (.c (.int .u8 37))⟩, ⟨(some 26), none, .mv (.t 30)⟩])
        (.cond (.t 26)
          .skip
          (.seq (.region [⟨(some 31), none, .bin .eql (.t 25) (.c (.int .u8 38))⟩, ⟨(some 26), none, .mv (.t 31)⟩])
          (.cond (.t 26)
            .skip
            (.seq (.region [⟨(some 32), none, .bin .eql (.t 25) (.c (.int .u8 39))⟩, ⟨(some 26), none, .mv (.t 32)⟩])
            (.cond (.t 26)
              .skip
              (.seq (.region [⟨(some 33), none, .bin .eql (.t 25) (.c (.int .u8 42))⟩, ⟨(some 26), none, .mv (.t 33)⟩])
              (.cond (.t 26)
                .skip
                (.seq (.region [⟨(some 34), none, .bin .eql (.t 25) (.c (.int .u8 43))⟩, ⟨(some 26), none, .mv (.t 34)⟩])
                (.cond (.t 26)
                  .skip
                  (.seq (.region [⟨(some 35), none, .bin .eql (.t 25) (.c (.int .u8 45))⟩, ⟨(some 26), none, .mv (.t 35)⟩])
                  (.cond (.t 26)
                    .skip
                    (.seq (.region [⟨(some 36), none, .bin .eql (.t 25) (.c (.int .u8 46))⟩, ⟨(some 26), none, .mv (.t 36)⟩])
                    (.cond (.t 26)
                      .skip
                      (.seq (.region [⟨(some 37), none, .bin .eql (.t 25) (.c (.int .u8 94))⟩, ⟨(some 26), none, .mv (.t 37)⟩])
                      (.cond (.t 26)
                        .skip
                        (.seq (.region [⟨(some 38), none, .bin .eql (.t 25) (.c (.int .u8 95))⟩, ⟨(some 26), none, .mv (.t 38)⟩])
                        (.cond (.t 26)
                          .skip
                          (.seq (.region [⟨(some 39), none, .bin .eql (.t 25) (.c (.int .u8 96))⟩, ⟨(some 26), none, .mv (.t 39)⟩])
                          (.cond (.t 26)
                            .skip
                            (.seq (.region [⟨(some 40), none, .bin .eql (.t 25) (.c (.int .u8 124))⟩, ⟨(some 26), none, .mv (.t 40)⟩])
                            (.cond (.t 26)
                              .skip
                              (.region [⟨(some 41), none, .bin .eql (.t 25) (.c (.int .u8 126))⟩, ⟨(some 26), none, .mv (.t 41)⟩])))))))))))))))))))))))))))))
  (.cond (.t 26)
    (.seq (.region [⟨(some 2), none, .mv (.c (.bool true))⟩])
    .ret)
    .skip))))
  (.seq (.region [⟨(some 2), none, .mv (.c (.bool false))⟩])
  .ret))))⟩
/-- gatepost/gatepostref01.blank -/
def c_gatepostref01_blank : FnC := ⟨9, [.tmp 2],
  (.seq (.region [⟨(some 2), none, .mv (.c (.bool false))⟩])
  (.seq (.region [⟨(some 3), none, .mv (.t 0)⟩, ⟨(some 4), none, .bin .eql (.t 3) (.c (.int .u8 32))⟩, ⟨(some 5), none, .mv (.t 4)⟩, ⟨(some 6), (some (5, false)), .mv (.t 0)⟩, ⟨(some 7), (some (5, false)), .bin .eql (.t 6) (.c (.int .u8 9))⟩, ⟨(some 8), none, .pick (.t 5) (.c (.bool true)) (.t 7)⟩, ⟨(some 2), none, .mv (.t 8)⟩])
  .ret))⟩
/-- gatepost/token.Split$1 -/
def c_token_Split_1 : FnC := ⟨19, [],
  (.seq (.seq (.region [⟨(some 6), none, .load false 1 (.t 1)⟩, ⟨(some 7), none, .load false 1 (.t 2)⟩, ⟨(some 8), none, .mv (.t 0)⟩, ⟨(some 9), none, .slstr (.t 6) (some (.t 7)) (some (.t 8))⟩, ⟨(some 10), none, .call i_token_Trim [(.t 9)]⟩, ⟨(some 5), none, .mv (.t 10)⟩])
  (.seq (.region [⟨(some 11), none, .mv (.t 5)⟩, ⟨(some 12), none, .bin .neq (.t 11) (.c (.str []))⟩])
  (.cond (.t 12)
    (.region [⟨(some 13), none, .load false 1 (.t 3)⟩, ⟨(some 14), none, .mv (.t 5)⟩, ⟨(some 15), none, .bsl 1 [(.t 14)]⟩, ⟨(some 16), none, .app 1 16 false (.t 13) (.t 15)⟩, ⟨none, none, .store 1 (.t 3) (.t 16)⟩])
    .skip)))
  (.region [⟨(some 17), none, .mv (.t 0)⟩, ⟨(some 18), none, .bin .add (.t 17) (.c (.int .i64 1))⟩, ⟨none, none, .store 1 (.t 2) (.t 18)⟩]))⟩
/-- gatepost/token.marks -/
def c_token_marks : FnC := ⟨2, [.cell 0 true 15],
  (.seq (.region [⟨(some 0), none, .boxz [(.int .u8 0), (.int .u8 0), (.int .u8 0), (.int .u8 0), (.int .u8 0), (.int .u8 0), (.int .u8 0), (.int .u8 0), (.int .u8 0), (.int .u8 0), (.int .u8 0), (.int .u8 0), (.int .u8 0), (.int .u8 0), (.int .u8 0)]⟩])
  (.seq (.region [⟨(some 1), none, .build [(.int .u8 0), (.int .u8 0), (.int .u8 0), (.int .u8 0), (.int .u8 0), (.int .u8 0), (.int .u8 0), (.int .u8 0), (.int .u8 0), (.int .u8 0), (.int .u8 0), (.int .u8 0), (.int .u8 0), (.int .u8 0), (.int .u8 0)] [(0, 1, (.c (.int .u8 33))), (1, 1, (.c (.int .u8 35))), (2, 1, (.c (.int .u8 36))), (3, 1, (.c (.int .u8 37))), (4, 1, (.c (.int .u8 38))), (5, 1, (.c (.int .u8 39))), (6, 1, (.c (.int .u8 42))), (7, 1, (.c (.int .u8 43))), (8, 1, (.c (.int .u8 45))), (9, 1, (.c (.int .u8 46))), (10, 1, (.c (.int .u8 94))), (11, 1, (.c (.int .u8 95))), (12, 1, (.c (.int .u8 96))), (13, 1, (.c (.int .u8 124))), (14, 1, (.c (.int .u8 126)))]⟩, ⟨none, none, .store 15 (.t 0) (.t 1)⟩])
  .ret))⟩
/-- gatepost/field.keep -/
def c_field_keep : FnC := ⟨23, [.tmp 4],
  (.seq (.region [⟨(some 4), none, .mv (.c .nsl)⟩])
  (.seq (.region [⟨(some 5), none, .mv (.c .nsl)⟩])
  (.seq (.seq (.region [⟨(some 8), none, .mv (.t 0)⟩, ⟨(some 9), none, .len 1 (.t 8)⟩, ⟨(some 10), none, .mv (.c (.int .i64 0))⟩])
  (.block 0 (.loop
    (.seq (.region [⟨(some 11), none, .bin .lss (.t 10) (.t 9)⟩])
    (.seq (.cond (.t 11)
      .skip
      (.exit 0))
    (.seq (.block 1 (.seq (.region [⟨(some 12), none, .ixaSl 2 (.t 8) (.t 10)⟩, ⟨(some 13), none, .load true 2 (.t 12)⟩, ⟨(some 7), none, .boxz [(.str []), (.str [])]⟩, ⟨none, none, .store 2 (.t 7) (.t 13)⟩])
    (.seq (.region [⟨(some 14), none, .mv (.t 1)⟩, ⟨(some 15), none, .load true 2 (.t 7)⟩, ⟨(some 16), none, .callv (.t 14) [(.t 15)]⟩])
    (.cond (.t 16)
      (.region [⟨(some 17), none, .mv (.t 5)⟩, ⟨(some 18), none, .load true 2 (.t 7)⟩, ⟨(some 19), none, .bsl 2 [(.t 18)]⟩, ⟨(some 20), none, .app 2 32 false (.t 17) (.t 19)⟩, ⟨(some 5), none, .mv (.t 20)⟩])
      .skip))))
    (.region [⟨(some 21), none, .bin .add (.t 10) (.c (.int .i64 1))⟩, ⟨(some 10), none, .mv (.t 21)⟩])))))))
  (.seq (.region [⟨(some 22), none, .mv (.t 5)⟩, ⟨(some 4), none, .mv (.t 22)⟩])
  .ret))))⟩
/-- gatepost/field.without$1 -/
def c_field_without_1 : FnC := ⟨10, [.tmp 3],
  (.seq (.region [⟨(some 2), none, .box (.t 0)⟩, ⟨(some 3), none, .mv (.c (.bool false))⟩])
  (.seq (.dregion [⟨(some 4), none, .load false 1 (.t 1)⟩, ⟨(some 5), none, .faddr 0 (.t 2)⟩, ⟨(some 6), none, .load false 1 (.t 5)⟩, ⟨(some 7), none, .call i_token_Lower [(.t 6)]⟩] [⟨(some 8), none, .lookup .s (.bool false) false (.t 4) (.t 7)⟩, ⟨(some 9), none, .un .not (.t 8)⟩, ⟨(some 3), none, .mv (.t 9)⟩])
  .ret))⟩
/-- strings.makeASCIISet -/
def c_strings_makeASCIISet : FnC := ⟨21, [.cell 2 true 256, .tmp 3],
  (.seq (.region [⟨(some 2), none, .boxz (List.replicate 256 (.bool false))⟩, ⟨(some 3), none, .mv (.c (.bool false))⟩])
  (.seq (.seq (.region [⟨(some 4), none, .mv (.c (.int .i64 0))⟩])
  (.block 0 (.loop
    (.seq (.seq (.region [⟨(some 6), none, .mv (.t 4)⟩, ⟨(some 7), none, .mv (.t 0)⟩, ⟨(some 8), none, .len 0 (.t 7)⟩, ⟨(some 9), none, .bin .lss (.t 6) (.t 8)⟩])
    (.cond (.t 9)
      .skip
      (.exit 0)))
    (.seq (.block 1 (.seq (.region [⟨(some 12), none, .mv (.t 0)⟩, ⟨(some 13), none, .mv (.t 4)⟩, ⟨(some 14), none, .ixStr (.t 12) (.t 13)⟩, ⟨(some 5), none, .mv (.t 14)⟩])
    (.seq (.seq (.region [⟨(some 15), none, .mv (.t 5)⟩, ⟨(some 16), none, .bin .geq (.t 15) (.c (.int .u8 128))⟩])
    (.cond (.t 16)
      (.seq (.region [⟨(some 17), none, .load true 256 (.t 2)⟩, ⟨none, none, .store 256 (.t 2) (.t 17)⟩, ⟨(some 3), none, .mv (.c (.bool false))⟩])
      .ret)
      .skip))
    (.region [⟨(some 18), none, .mv (.t 5)⟩, ⟨(some 19), none, .ixaArr 256 1 (.t 2) (.t 18)⟩, ⟨none, none, .store 1 (.t 19) (.c (.bool true))⟩]))))
    (.region [⟨(some 10), none, .mv (.t 4)⟩, ⟨(some 11), none, .bin .add (.t 10) (.c (.int .i64 1))⟩, ⟨(some 4), none, .mv (.t 11)⟩]))))))
  (.seq (.region [⟨(some 20), none, .load true 256 (.t 2)⟩, ⟨none, none, .store 256 (.t 2) (.t 20)⟩, ⟨(some 3), none, .mv (.c (.bool true))⟩])
  .ret)))⟩
/-- strings.trimLeftASCII -/
def c_strings_trimLeftASCII : FnC := ⟨16, [.tmp 4],
  (.seq (.region [⟨(some 4), none, .mv (.c (.str []))⟩])
  (.seq (.block 0 (.loop
    (.seq (.seq (.region [⟨(some 5), none, .mv (.t 0)⟩, ⟨(some 6), none, .len 0 (.t 5)⟩, ⟨(some 7), none, .bin .gtr (.t 6) (.c (.int .i64 0))⟩])
    (.cond (.t 7)
      .skip
      (.exit 0)))
    (.block 1 (.seq (.seq (.region [⟨(some 8), none, .mv (.t 1)⟩, ⟨(some 9), none, .mv (.t 0)⟩, ⟨(some 10), none, .ixStr (.t 9) (.c (.int .i64 0))⟩, ⟨(some 11), none, .call i___strings_asciiSet__contains [(.t 8), (.t 10)]⟩, ⟨(some 12), none, .un .not (.t 11)⟩])
    (.cond (.t 12)
      (.exit 0)
      .skip))
    (.region [⟨(some 13), none, .mv (.t 0)⟩, ⟨(some 14), none, .slstr (.t 13) (some (.c (.int .i64 1))) none⟩, ⟨(some 0), none, .mv (.t 14)⟩]))))))
  (.seq (.region [⟨(some 15), none, .mv (.t 0)⟩, ⟨(some 4), none, .mv (.t 15)⟩])
  .ret)))⟩
/-- strings.trimRightASCII -/
def c_strings_trimRightASCII : FnC := ⟨22, [.tmp 4],
  (.seq (.region [⟨(some 4), none, .mv (.c (.str []))⟩])
  (.seq (.block 0 (.loop
    (.seq (.seq (.region [⟨(some 5), none, .mv (.t 0)⟩, ⟨(some 6), none, .len 0 (.t 5)⟩, ⟨(some 7), none, .bin .gtr (.t 6) (.c (.int .i64 0))⟩])
    (.cond (.t 7)
      .skip
      (.exit 0)))
    (.block 1 (.seq (.seq (.region [⟨(some 8), none, .mv (.t 1)⟩, ⟨(some 9), none, .mv (.t 0)⟩, ⟨(some 10), none, .mv (.t 0)⟩, ⟨(some 11), none, .len 0 (.t 10)⟩, ⟨(some 12), none, .bin .sub (.t 11) (.c (.int .i64 1))⟩, ⟨(some 13), none, .ixStr (.t 9) (.t 12)⟩, ⟨(some 14), none, .call i___strings_asciiSet__contains [(.t 8), (.t 13)]⟩, ⟨(some 15), none, .un .not (.t 14)⟩])
    (.cond (.t 15)
      (.exit 0)
      .skip))
    (.region [⟨(some 16), none, .mv (.t 0)⟩, ⟨(some 17), none, .mv (.t 0)⟩, ⟨(some 18), none, .len 0 (.t 17)⟩, ⟨(some 19), none, .bin .sub (.t 18) (.c (.int .i64 1))⟩, ⟨(some 20), none, .slstr (.t 16) none (some (.t 19))⟩, ⟨(some 0), none, .mv (.t 20)⟩]))))))
  (.seq (.region [⟨(some 21), none, .mv (.t 0)⟩, ⟨(some 4), none, .mv (.t 21)⟩])
  .ret)))⟩
/-- gatepost/token.Value$1 -/
def c_token_Value_1 : FnC := ⟨13, [.tmp 2],
  (.seq (.region [⟨(some 2), none, .mv (.c (.bool false))⟩])
  (.seq (.region [⟨(some 3), none, .mv (.t 0)⟩, ⟨(some 4), none, .call i_token_isBlank [(.t 3)]⟩, ⟨(some 5), none, .mv (.t 4)⟩, ⟨(some 6), (some (5, false)), .mv (.t 0)⟩, ⟨(some 7), (some (5, false)), .bin .gtr (.t 6) (.c (.int .u8 32))⟩, ⟨(some 8), (some (5, false)), .mv (.t 7)⟩, ⟨(some 9), (some (8, true)), .mv (.t 0)⟩, ⟨(some 10), (some (8, true)), .bin .neq (.t 9) (.c (.int .u8 127))⟩, ⟨(some 11), (some (5, false)), .pick (.t 8) (.t 10) (.c (.bool false))⟩, ⟨(some 12), none, .pick (.t 5) (.c (.bool true)) (.t 11)⟩, ⟨(some 2), none, .mv (.t 12)⟩])
  .ret))⟩
/-- gatepost/token.isBlank -/
def c_token_isBlank : FnC := ⟨9, [.tmp 2],
  (.seq (.region [⟨(some 2), none, .mv (.c (.bool false))⟩])
  (.seq (.region [⟨(some 3), none, .mv (.t 0)⟩, ⟨(some 4), none, .bin .eql (.t 3) (.c (.int .u8 32))⟩, ⟨(some 5), none, .mv (.t 4)⟩, ⟨(some 6), (some (5, false)), .mv (.t 0)⟩, ⟨(some 7), (some (5, false)), .bin .eql (.t 6) (.c (.int .u8 9))⟩, ⟨(some 8), none, .pick (.t 5) (.c (.bool true)) (.t 7)⟩, ⟨(some 2), none, .mv (.t 8)⟩])
  .ret))⟩
/-- (*strings.asciiSet).contains -/
def c___strings_asciiSet__contains : FnC := ⟨10, [.tmp 4],
  (.seq (.region [⟨(some 4), none, .mv (.c (.bool false))⟩])
  (.seq (.region [⟨(some 5), none, .mv (.t 0)⟩, ⟨(some 6), none, .mv (.t 1)⟩, ⟨(some 7), none, .nilck (.t 5)⟩, ⟨(some 8), none, .ixaArr 256 1 (.t 7) (.t 6)⟩, ⟨(some 9), none, .load false 1 (.t 8)⟩, ⟨(some 4), none, .mv (.t 9)⟩])
  .ret))⟩
def tab : List (FuncId × FnC) := [(i_gatepostlaw04_FieldParses, c_gatepostlaw04_FieldParses), (i_gatepostlaw04_FieldBack, c_gatepostlaw04_FieldBack), (i_gatepostlaw04_FieldNames, c_gatepostlaw04_FieldNames), (i_gatepostlaw04_FieldStrips, c_gatepostlaw04_FieldStrips), (i_gatepostlaw04_FieldGets, c_gatepostlaw04_FieldGets), (i_gatepostlaw04_few, c_gatepostlaw04_few), (i_field_Parse, c_field_Parse), (i_gatepostref04_Parse, c_gatepostref04_Parse), (i_field_Line, c_field_Line), (i_gatepostref04_Line, c_gatepostref04_Line), (i_field_Names, c_field_Names), (i_token_Is, c_token_Is), (i_token_Lower, c_token_Lower), (i_field_Strip, c_field_Strip), (i_field_Get, c_field_Get), (i_gatepostref04_Same, c_gatepostref04_Same), (i_gatepostref04_Get, c_gatepostref04_Get), (i_gatepostref04_Names, c_gatepostref04_Names), (i_gatepostlaw04_texts, c_gatepostlaw04_texts), (i_field_Del, c_field_Del), (i_gatepostref04_Del, c_gatepostref04_Del), (i_field_Set, c_field_Set), (i_gatepostref04_Set, c_gatepostref04_Set), (i_gatepostref04_Strip, c_gatepostref04_Strip), (i_strings_Cut, c_strings_Cut), (i_token_Trim, c_token_Trim), (i_field_fine, c_field_fine), (i_gatepostref01_Is, c_gatepostref01_Is), (i_gatepostref01_Trim, c_gatepostref01_Trim), (i_gatepostref01_Value, c_gatepostref01_Value), (i_token_Split, c_token_Split), (i_token_all, c_token_all), (i_token_inToken, c_token_inToken), (i_field_without, c_field_without), (i_token_Same, c_token_Same), (i_gatepostref01_Same, c_gatepostref01_Same), (i_gatepostref01_Split, c_gatepostref01_Split), (i_gatepostref01_Lower, c_gatepostref01_Lower), (i_internal_stringslite_Cut, c_internal_stringslite_Cut), (i_strings_Trim, c_strings_Trim), (i_token_Value, c_token_Value), (i_gatepostref01_tchar, c_gatepostref01_tchar), (i_gatepostref01_blank, c_gatepostref01_blank), (i_token_Split_1, c_token_Split_1), (i_token_marks, c_token_marks), (i_field_keep, c_field_keep), (i_field_without_1, c_field_without_1), (i_strings_makeASCIISet, c_strings_makeASCIISet), (i_strings_trimLeftASCII, c_strings_trimLeftASCII), (i_strings_trimRightASCII, c_strings_trimRightASCII), (i_token_Value_1, c_token_Value_1), (i_token_isBlank, c_token_isBlank), (i___strings_asciiSet__contains, c___strings_asciiSet__contains)]
def F (f : FuncId) : Option FnC := tab.lookup f
theorem F_gatepostlaw04_FieldParses : F i_gatepostlaw04_FieldParses = some c_gatepostlaw04_FieldParses := rfl
theorem kc_gatepostlaw04_FieldParses : compF Tryd.prog i_gatepostlaw04_FieldParses = some c_gatepostlaw04_FieldParses := by kernel_rfl
theorem F_gatepostlaw04_FieldBack : F i_gatepostlaw04_FieldBack = some c_gatepostlaw04_FieldBack := rfl
theorem kc_gatepostlaw04_FieldBack : compF Tryd.prog i_gatepostlaw04_FieldBack = some c_gatepostlaw04_FieldBack := by kernel_rfl
theorem F_gatepostlaw04_FieldNames : F i_gatepostlaw04_FieldNames = some c_gatepostlaw04_FieldNames := rfl
theorem kc_gatepostlaw04_FieldNames : compF Tryd.prog i_gatepostlaw04_FieldNames = some c_gatepostlaw04_FieldNames := by kernel_rfl
theorem F_gatepostlaw04_FieldStrips : F i_gatepostlaw04_FieldStrips = some c_gatepostlaw04_FieldStrips := rfl
theorem kc_gatepostlaw04_FieldStrips : compF Tryd.prog i_gatepostlaw04_FieldStrips = some c_gatepostlaw04_FieldStrips := by kernel_rfl
theorem F_gatepostlaw04_FieldGets : F i_gatepostlaw04_FieldGets = some c_gatepostlaw04_FieldGets := rfl
theorem kc_gatepostlaw04_FieldGets : compF Tryd.prog i_gatepostlaw04_FieldGets = some c_gatepostlaw04_FieldGets := by kernel_rfl
theorem F_gatepostlaw04_few : F i_gatepostlaw04_few = some c_gatepostlaw04_few := rfl
theorem kc_gatepostlaw04_few : compF Tryd.prog i_gatepostlaw04_few = some c_gatepostlaw04_few := by kernel_rfl
theorem F_field_Parse : F i_field_Parse = some c_field_Parse := rfl
theorem kc_field_Parse : compF Tryd.prog i_field_Parse = some c_field_Parse := by kernel_rfl
theorem F_gatepostref04_Parse : F i_gatepostref04_Parse = some c_gatepostref04_Parse := rfl
theorem kc_gatepostref04_Parse : compF Tryd.prog i_gatepostref04_Parse = some c_gatepostref04_Parse := by kernel_rfl
theorem F_field_Line : F i_field_Line = some c_field_Line := rfl
theorem kc_field_Line : compF Tryd.prog i_field_Line = some c_field_Line := by kernel_rfl
theorem F_gatepostref04_Line : F i_gatepostref04_Line = some c_gatepostref04_Line := rfl
theorem kc_gatepostref04_Line : compF Tryd.prog i_gatepostref04_Line = some c_gatepostref04_Line := by kernel_rfl
theorem F_field_Names : F i_field_Names = some c_field_Names := rfl
theorem kc_field_Names : compF Tryd.prog i_field_Names = some c_field_Names := by kernel_rfl
theorem F_token_Is : F i_token_Is = some c_token_Is := rfl
theorem kc_token_Is : compF Tryd.prog i_token_Is = some c_token_Is := by kernel_rfl
theorem F_token_Lower : F i_token_Lower = some c_token_Lower := rfl
theorem kc_token_Lower : compF Tryd.prog i_token_Lower = some c_token_Lower := by kernel_rfl
theorem F_field_Strip : F i_field_Strip = some c_field_Strip := rfl
theorem kc_field_Strip : compF Tryd.prog i_field_Strip = some c_field_Strip := by kernel_rfl
theorem F_field_Get : F i_field_Get = some c_field_Get := rfl
theorem kc_field_Get : compF Tryd.prog i_field_Get = some c_field_Get := by kernel_rfl
theorem F_gatepostref04_Same : F i_gatepostref04_Same = some c_gatepostref04_Same := rfl
theorem kc_gatepostref04_Same : compF Tryd.prog i_gatepostref04_Same = some c_gatepostref04_Same := by kernel_rfl
theorem F_gatepostref04_Get : F i_gatepostref04_Get = some c_gatepostref04_Get := rfl
theorem kc_gatepostref04_Get : compF Tryd.prog i_gatepostref04_Get = some c_gatepostref04_Get := by kernel_rfl
theorem F_gatepostref04_Names : F i_gatepostref04_Names = some c_gatepostref04_Names := rfl
theorem kc_gatepostref04_Names : compF Tryd.prog i_gatepostref04_Names = some c_gatepostref04_Names := by kernel_rfl
theorem F_gatepostlaw04_texts : F i_gatepostlaw04_texts = some c_gatepostlaw04_texts := rfl
theorem kc_gatepostlaw04_texts : compF Tryd.prog i_gatepostlaw04_texts = some c_gatepostlaw04_texts := by kernel_rfl
theorem F_field_Del : F i_field_Del = some c_field_Del := rfl
theorem kc_field_Del : compF Tryd.prog i_field_Del = some c_field_Del := by kernel_rfl
theorem F_gatepostref04_Del : F i_gatepostref04_Del = some c_gatepostref04_Del := rfl
theorem kc_gatepostref04_Del : compF Tryd.prog i_gatepostref04_Del = some c_gatepostref04_Del := by kernel_rfl
theorem F_field_Set : F i_field_Set = some c_field_Set := rfl
theorem kc_field_Set : compF Tryd.prog i_field_Set = some c_field_Set := by kernel_rfl
theorem F_gatepostref04_Set : F i_gatepostref04_Set = some c_gatepostref04_Set := rfl
theorem kc_gatepostref04_Set : compF Tryd.prog i_gatepostref04_Set = some c_gatepostref04_Set := by kernel_rfl
theorem F_gatepostref04_Strip : F i_gatepostref04_Strip = some c_gatepostref04_Strip := rfl
theorem kc_gatepostref04_Strip : compF Tryd.prog i_gatepostref04_Strip = some c_gatepostref04_Strip := by kernel_rfl
theorem F_strings_Cut : F i_strings_Cut = some c_strings_Cut := rfl
theorem kc_strings_Cut : compF Tryd.prog i_strings_Cut = some c_strings_Cut := by kernel_rfl
theorem F_token_Trim : F i_token_Trim = some c_token_Trim := rfl
theorem kc_token_Trim : compF Tryd.prog i_token_Trim = some c_token_Trim := by kernel_rfl
theorem F_field_fine : F i_field_fine = some c_field_fine := rfl
theorem kc_field_fine : compF Tryd.prog i_field_fine = some c_field_fine := by kernel_rfl
theorem F_gatepostref01_Is : F i_gatepostref01_Is = some c_gatepostref01_Is := rfl
theorem kc_gatepostref01_Is : compF Tryd.prog i_gatepostref01_Is = some c_gatepostref01_Is := by kernel_rfl
theorem F_gatepostref01_Trim : F i_gatepostref01_Trim = some c_gatepostref01_Trim := rfl
theorem kc_gatepostref01_Trim : compF Tryd.prog i_gatepostref01_Trim = some c_gatepostref01_Trim := by kernel_rfl
theorem F_gatepostref01_Value : F i_gatepostref01_Value = some c_gatepostref01_Value := rfl
theorem kc_gatepostref01_Value : compF Tryd.prog i_gatepostref01_Value = some c_gatepostref01_Value := by kernel_rfl
theorem F_token_Split : F i_token_Split = some c_token_Split := rfl
theorem kc_token_Split : compF Tryd.prog i_token_Split = some c_token_Split := by kernel_rfl
theorem F_token_all : F i_token_all = some c_token_all := rfl
theorem kc_token_all : compF Tryd.prog i_token_all = some c_token_all := by kernel_rfl
theorem F_token_inToken : F i_token_inToken = some c_token_inToken := rfl
theorem kc_token_inToken : compF Tryd.prog i_token_inToken = some c_token_inToken := by kernel_rfl
theorem F_field_without : F i_field_without = some c_field_without := rfl
theorem kc_field_without : compF Tryd.prog i_field_without = some c_field_without := by kernel_rfl
theorem F_token_Same : F i_token_Same = some c_token_Same := rfl
theorem kc_token_Same : compF Tryd.prog i_token_Same = some c_token_Same := by kernel_rfl
theorem F_gatepostref01_Same : F i_gatepostref01_Same = some c_gatepostref01_Same := rfl
theorem kc_gatepostref01_Same : compF Tryd.prog i_gatepostref01_Same = some c_gatepostref01_Same := by kernel_rfl
theorem F_gatepostref01_Split : F i_gatepostref01_Split = some c_gatepostref01_Split := rfl
theorem kc_gatepostref01_Split : compF Tryd.prog i_gatepostref01_Split = some c_gatepostref01_Split := by kernel_rfl
theorem F_gatepostref01_Lower : F i_gatepostref01_Lower = some c_gatepostref01_Lower := rfl
theorem kc_gatepostref01_Lower : compF Tryd.prog i_gatepostref01_Lower = some c_gatepostref01_Lower := by kernel_rfl
theorem F_internal_stringslite_Cut : F i_internal_stringslite_Cut = some c_internal_stringslite_Cut := rfl
theorem kc_internal_stringslite_Cut : compF Tryd.prog i_internal_stringslite_Cut = some c_internal_stringslite_Cut := by kernel_rfl
theorem F_strings_Trim : F i_strings_Trim = some c_strings_Trim := rfl
theorem kc_strings_Trim : compF Tryd.prog i_strings_Trim = some c_strings_Trim := by kernel_rfl
theorem F_token_Value : F i_token_Value = some c_token_Value := rfl
theorem kc_token_Value : compF Tryd.prog i_token_Value = some c_token_Value := by kernel_rfl
theorem F_gatepostref01_tchar : F i_gatepostref01_tchar = some c_gatepostref01_tchar := rfl
theorem kc_gatepostref01_tchar : compF Tryd.prog i_gatepostref01_tchar = some c_gatepostref01_tchar := by kernel_rfl
theorem F_gatepostref01_blank : F i_gatepostref01_blank = some c_gatepostref01_blank := rfl
theorem kc_gatepostref01_blank : compF Tryd.prog i_gatepostref01_blank = some c_gatepostref01_blank := by kernel_rfl
theorem F_token_Split_1 : F i_token_Split_1 = some c_token_Split_1 := rfl
theorem kc_token_Split_1 : compF Tryd.prog i_token_Split_1 = some c_token_Split_1 := by kernel_rfl
theorem F_token_marks : F i_token_marks = some c_token_marks := rfl
theorem kc_token_marks : compF Tryd.prog i_token_marks = some c_token_marks := by kernel_rfl
theorem F_field_keep : F i_field_keep = some c_field_keep := rfl
theorem kc_field_keep : compF Tryd.prog i_field_keep = some c_field_keep := by kernel_rfl
theorem F_field_without_1 : F i_field_without_1 = some c_field_without_1 := rfl
theorem kc_field_without_1 : compF Tryd.prog i_field_without_1 = some c_field_without_1 := by kernel_rfl
theorem F_strings_makeASCIISet : F i_strings_makeASCIISet = some c_strings_makeASCIISet := rfl
theorem kc_strings_makeASCIISet : compF Tryd.prog i_strings_makeASCIISet = some c_strings_makeASCIISet := by kernel_rfl
theorem F_strings_trimLeftASCII : F i_strings_trimLeftASCII = some c_strings_trimLeftASCII := rfl
theorem kc_strings_trimLeftASCII : compF Tryd.prog i_strings_trimLeftASCII = some c_strings_trimLeftASCII := by kernel_rfl
theorem F_strings_trimRightASCII : F i_strings_trimRightASCII = some c_strings_trimRightASCII := rfl
theorem kc_strings_trimRightASCII : compF Tryd.prog i_strings_trimRightASCII = some c_strings_trimRightASCII := by kernel_rfl
theorem F_token_Value_1 : F i_token_Value_1 = some c_token_Value_1 := rfl
theorem kc_token_Value_1 : compF Tryd.prog i_token_Value_1 = some c_token_Value_1 := by kernel_rfl
theorem F_token_isBlank : F i_token_isBlank = some c_token_isBlank := rfl
theorem kc_token_isBlank : compF Tryd.prog i_token_isBlank = some c_token_isBlank := by kernel_rfl
theorem F___strings_asciiSet__contains : F i___strings_asciiSet__contains = some c___strings_asciiSet__contains := rfl
theorem kc___strings_asciiSet__contains : compF Tryd.prog i___strings_asciiSet__contains = some c___strings_asciiSet__contains := by kernel_rfl
def k_gatepostlaw04_FieldParses_0 (L : FuncId → List V → V → Prop) (K : V → Heap → Prop) (v0 v3 : V) (h : Heap) : Prop :=
    (wi F L (.call i_field_Parse [(.c v0)]) E0 h fun v24 h =>
    (wi F L (.ext 0 (.c v24)) E0 h fun v25 h =>
    (wi F L (.ext 1 (.c v24)) E0 h fun v26 h =>
    (wi F L (.boxz [(.str []), (.str [])]) E0 h fun v5 h =>
    (wi F L (.store 2 (.c v5) (.c v25)) E0 h fun _ h =>
    (wi F L (.call i_gatepostref04_Parse [(.c v0)]) E0 h fun v29 h =>
    (wi F L (.ext 0 (.c v29)) E0 h fun v30 h =>
    (wi F L (.ext 1 (.c v29)) E0 h fun v31 h =>
    (wi F L (.boxz [(.str []), (.str [])]) E0 h fun v7 h =>
    (wi F L (.store 2 (.c v7) (.c v30)) E0 h fun _ h =>
    (wi F L (.load true 2 (.c v3)) E0 h fun v33 h =>
    (wi F L (.call i_field_Line [(.c v33)]) E0 h fun v34 h =>
    (wi F L (.ext 0 (.c v34)) E0 h fun v35 h =>
    (wi F L (.ext 1 (.c v34)) E0 h fun v36 h =>
    (wi F L (.load true 2 (.c v3)) E0 h fun v38 h =>
    (wi F L (.call i_gatepostref04_Line [(.c v38)]) E0 h fun v39 h =>
    (wi F L (.ext 0 (.c v39)) E0 h fun v40 h =>
    (wi F L (.ext 1 (.c v39)) E0 h fun v41 h =>
    (wi F L (.faddr 0 (.c v5)) E0 h fun v42 h =>
    (wi F L (.load false 1 (.c v42)) E0 h fun v43 h =>
    (wi F L (.faddr 0 (.c v7)) E0 h fun v44 h =>
    (wi F L (.load false 1 (.c v44)) E0 h fun v45 h =>
    (wi F L (.bin .eql (.c v43) (.c v45)) E0 h fun v46 h =>
    (wg v46 true (wi F L (.faddr 1 (.c v5)) E0 h) h fun v48 h =>
    (wg v46 true (wi F L (.load false 1 (.c v48)) E0 h) h fun v49 h =>
    (wg v46 true (wi F L (.faddr 1 (.c v7)) E0 h) h fun v50 h =>
    (wg v46 true (wi F L (.load false 1 (.c v50)) E0 h) h fun v51 h =>
    (wg v46 true (wi F L (.bin .eql (.c v49) (.c v51)) E0 h) h fun v52 h =>
    (wi F L (.pick (.c v46) (.c v52) (.c (.bool false))) E0 h fun v53 h =>
    (wg v53 true (wi F L (.mv (.c v26)) E0 h) h fun v55 h =>
    (wg v53 true (wi F L (.mv (.c v31)) E0 h) h fun v56 h =>
    (wg v53 true (wi F L (.bin .eql (.c v55) (.c v56)) E0 h) h fun v57 h =>
    (wi F L (.pick (.c v53) (.c v57) (.c (.bool false))) E0 h fun v58 h =>
    (wg v58 true (wi F L (.mv (.c v35)) E0 h) h fun v60 h =>
    (wg v58 true (wi F L (.mv (.c v40)) E0 h) h fun v61 h =>
    (wg v58 true (wi F L (.bin .eql (.c v60) (.c v61)) E0 h) h fun v62 h =>
    (wi F L (.pick (.c v58) (.c v62) (.c (.bool false))) E0 h fun v63 h =>
    (wg v63 true (wi F L (.mv (.c v36)) E0 h) h fun v65 h =>
    (wg v63 true (wi F L (.mv (.c v41)) E0 h) h fun v66 h =>
    (wg v63 true (wi F L (.bin .eql (.c v65) (.c v66)) E0 h) h fun v67 h =>
    (wi F L (.pick (.c v63) (.c v67) (.c (.bool false))) E0 h fun v68 h =>
    (wi F L (.pick (.c v68) (.c (.bool true)) (.c (.bool false))) E0 h fun v70 h =>
    (∃ v, some v70 = some v ∧ K v h)))))))))))))))))))))))))))))))))))))))))))
def p_gatepostlaw04_FieldParses (L : FuncId → List V → V → Prop) (K : V → Heap → Prop) (a0 a1 : V) (h : Heap) : Prop :=
    (wi F L (.box (.c a1)) E0 h fun v3 h =>
    (wi F L (.len 0 (.c a0)) E0 h fun v14 h =>
    (wi F L (.bin .gtr (.c v14) (.c (.int .i64 2000))) E0 h fun v15 h =>
    (wg v15 false (wi F L (.load true 2 (.c v3)) E0 h) h fun v17 h =>
    (wg v15 false (wi F L (.bsl 2 [(.c v17)]) E0 h) h fun v18 h =>
    (wg v15 false (wi F L (.call i_gatepostlaw04_few [(.c v18)]) E0 h) h fun v19 h =>
    (wg v15 false (wi F L (.un .not (.c v19)) E0 h) h fun v20 h =>
    (wi F L (.pick (.c v15) (.c (.bool true)) (.c v20)) E0 h fun v21 h =>
    (wb v21
    (∃ v, some (.bool true) = some v ∧ K v h)
    (k_gatepostlaw04_FieldParses_0 L K a0 v3 h))))))))))
theorem run_gatepostlaw04_FieldParses {L : FuncId → List V → V → Prop} {K : V → Heap → Prop} {a0 a1 : V} {h : Heap} (hp : p_gatepostlaw04_FieldParses L K a0 a1 h) : Cf F L i_gatepostlaw04_FieldParses [a0, a1] h K :=
  wcallp F_gatepostlaw04_FieldParses (show 2 ≤ 71 by decide) (p := p_gatepostlaw04_FieldParses L K a0 a1 h) (by kernel_rfl) hp
def k_gatepostlaw04_FieldBack_3 (L : FuncId → List V → V → Prop) (K : V → Heap → Prop) (v11 : V) (h : Heap) : Prop :=
    (wi F L (.load true 2 (.c v11)) E0 h fun v79 h =>
    (wi F L (.call i_field_Line [(.c v79)]) E0 h fun v80 h =>
    (wi F L (.ext 0 (.c v80)) E0 h fun v81 h =>
    (wi F L (.ext 1 (.c v80)) E0 h fun v82 h =>
    (wi F L (.call i_field_Parse [(.c v81)]) E0 h fun v85 h =>
    (wi F L (.ext 0 (.c v85)) E0 h fun v86 h =>
    (wi F L (.ext 1 (.c v85)) E0 h fun v87 h =>
    (wi F L (.boxz [(.str []), (.str [])]) E0 h fun v13 h =>
    (wi F L (.store 2 (.c v13) (.c v86)) E0 h fun _ h =>
    (wi F L (.bin .eql (.c v82) (.c (.int .i64 0))) E0 h fun v89 h =>
    (wg v89 true (wi F L (.mv (.c v87)) E0 h) h fun v91 h =>
    (wg v89 true (wi F L (.bin .eql (.c v91) (.c (.int .i64 0))) E0 h) h fun v92 h =>
    (wi F L (.pick (.c v89) (.c v92) (.c (.bool false))) E0 h fun v93 h =>
    (wg v93 true (wi F L (.faddr 0 (.c v13)) E0 h) h fun v95 h =>
    (wg v93 true (wi F L (.load false 1 (.c v95)) E0 h) h fun v96 h =>
    (wg v93 true (wi F L (.faddr 0 (.c v11)) E0 h) h fun v97 h =>
    (wg v93 true (wi F L (.load false 1 (.c v97)) E0 h) h fun v98 h =>
    (wg v93 true (wi F L (.bin .eql (.c v96) (.c v98)) E0 h) h fun v99 h =>
    (wi F L (.pick (.c v93) (.c v99) (.c (.bool false))) E0 h fun v100 h =>
    (wg v100 true (wi F L (.faddr 1 (.c v13)) E0 h) h fun v102 h =>
    (wg v100 true (wi F L (.load false 1 (.c v102)) E0 h) h fun v103 h =>
    (wg v100 true (wi F L (.faddr 1 (.c v11)) E0 h) h fun v104 h =>
    (wg v100 true (wi F L (.load false 1 (.c v104)) E0 h) h fun v105 h =>
    (wg v100 true (wi F L (.bin .eql (.c v103) (.c v105)) E0 h) h fun v106 h =>
    (wi F L (.pick (.c v100) (.c v106) (.c (.bool false))) E0 h fun v107 h =>
    (∃ v, some v107 = some v ∧ K v h))))))))))))))))))))))))))
def k_gatepostlaw04_FieldBack_2 (L : FuncId → List V → V → Prop) (K : V → Heap → Prop) (v1 : V) (h : Heap) : Prop :=
    (wi F L (.call i_field_Parse [(.c v1)]) E0 h fun v65 h =>
    (wi F L (.ext 0 (.c v65)) E0 h fun v66 h =>
    (wi F L (.ext 1 (.c v65)) E0 h fun v67 h =>
    (wi F L (.boxz [(.str []), (.str [])]) E0 h fun v11 h =>
    (wi F L (.store 2 (.c v11) (.c v66)) E0 h fun _ h =>
    (wi F L (.bin .neq (.c v67) (.c (.int .i64 0))) E0 h fun v69 h =>
    (wb v69
    (wi F L (.faddr 0 (.c v11)) E0 h fun v70 h =>
    (wi F L (.load false 1 (.c v70)) E0 h fun v71 h =>
    (wi F L (.bin .eql (.c v71) (.c (.str []))) E0 h fun v72 h =>
    (wg v72 true (wi F L (.faddr 1 (.c v11)) E0 h) h fun v74 h =>
    (wg v72 true (wi F L (.load false 1 (.c v74)) E0 h) h fun v75 h =>
    (wg v72 true (wi F L (.bin .eql (.c v75) (.c (.str []))) E0 h) h fun v76 h =>
    (wi F L (.pick (.c v72) (.c v76) (.c (.bool false))) E0 h fun v77 h =>
    (∃ v, some v77 = some v ∧ K v h))))))))
    (k_gatepostlaw04_FieldBack_3 L K v11 h))))))))
def k_gatepostlaw04_FieldBack_1 (L : FuncId → List V → V → Prop) (K : V → Heap → Prop) (v1 v2 : V) (h : Heap) : Prop :=
    (wi F L (.load true 2 (.c v2)) E0 h fun v36 h =>
    (wi F L (.call i_field_Line [(.c v36)]) E0 h fun v37 h =>
    (wi F L (.ext 0 (.c v37)) E0 h fun v38 h =>
    (wi F L (.ext 1 (.c v37)) E0 h fun v39 h =>
    (wi F L (.bin .eql (.c v39) (.c (.int .i64 0))) E0 h fun v41 h =>
    (wb v41
    (wi F L (.call i_field_Parse [(.c v38)]) E0 h fun v44 h =>
    (wi F L (.ext 0 (.c v44)) E0 h fun v45 h =>
    (wi F L (.ext 1 (.c v44)) E0 h fun v46 h =>
    (wi F L (.boxz [(.str []), (.str [])]) E0 h fun v9 h =>
    (wi F L (.store 2 (.c v9) (.c v45)) E0 h fun _ h =>
    (wi F L (.bin .neq (.c v46) (.c (.int .i64 0))) E0 h fun v48 h =>
    (wg v48 false (wi F L (.faddr 0 (.c v9)) E0 h) h fun v50 h =>
    (wg v48 false (wi F L (.load false 1 (.c v50)) E0 h) h fun v51 h =>
    (wg v48 false (wi F L (.faddr 0 (.c v2)) E0 h) h fun v52 h =>
    (wg v48 false (wi F L (.load false 1 (.c v52)) E0 h) h fun v53 h =>
    (wg v48 false (wi F L (.bin .neq (.c v51) (.c v53)) E0 h) h fun v54 h =>
    (wi F L (.pick (.c v48) (.c (.bool true)) (.c v54)) E0 h fun v55 h =>
    (wg v55 false (wi F L (.faddr 1 (.c v9)) E0 h) h fun v57 h =>
    (wg v55 false (wi F L (.load false 1 (.c v57)) E0 h) h fun v58 h =>
    (wg v55 false (wi F L (.faddr 1 (.c v2)) E0 h) h fun v59 h =>
    (wg v55 false (wi F L (.load false 1 (.c v59)) E0 h) h fun v60 h =>
    (wg v55 false (wi F L (.bin .neq (.c v58) (.c v60)) E0 h) h fun v61 h =>
    (wi F L (.pick (.c v55) (.c (.bool true)) (.c v61)) E0 h fun v62 h =>
    (wb v62
    (∃ v, some (.bool false) = some v ∧ K v h)
    (k_gatepostlaw04_FieldBack_2 L K v1 h))))))))))))))))))))
    (k_gatepostlaw04_FieldBack_2 L K v1 h)))))))
def k_gatepostlaw04_FieldBack_0 (L : FuncId → List V → V → Prop) (K : V → Heap → Prop) (v1 v2 : V) (h : Heap) : Prop :=
    (wi F L (.build [(.str []), (.str [])] [(0, 1, (.c (.str [65, 103, 101]))), (1, 1, (.c (.str [53])))]) E0 h fun v25 h =>
    (wi F L (.call i_field_Line [(.c v25)]) E0 h fun v26 h =>
    (wi F L (.ext 0 (.c v26)) E0 h fun v27 h =>
    (wi F L (.ext 1 (.c v26)) E0 h fun v28 h =>
    (wi F L (.bin .neq (.c v27) (.c (.str [65, 103, 101, 58, 32, 53]))) E0 h fun v30 h =>
    (wg v30 false (wi F L (.mv (.c v28)) E0 h) h fun v32 h =>
    (wg v30 false (wi F L (.bin .neq (.c v32) (.c (.int .i64 0))) E0 h) h fun v33 h =>
    (wi F L (.pick (.c v30) (.c (.bool true)) (.c v33)) E0 h fun v34 h =>
    (wb v34
    (∃ v, some (.bool false) = some v ∧ K v h)
    (k_gatepostlaw04_FieldBack_1 L K v1 v2 h))))))))))
def p_gatepostlaw04_FieldBack (L : FuncId → List V → V → Prop) (K : V → Heap → Prop) (a0 a1 : V) (h : Heap) : Prop :=
    (wi F L (.box (.c a0)) E0 h fun v2 h =>
    (wi F L (.load true 2 (.c v2)) E0 h fun v15 h =>
    (wi F L (.bsl 2 [(.c v15)]) E0 h fun v16 h =>
    (wi F L (.call i_gatepostlaw04_few [(.c v16)]) E0 h fun v17 h =>
    (wi F L (.un .not (.c v17)) E0 h fun v18 h =>
    (wg v18 false (wi F L (.mv (.c a1)) E0 h) h fun v20 h =>
    (wg v18 false (wi F L (.len 0 (.c v20)) E0 h) h fun v21 h =>
    (wg v18 false (wi F L (.bin .gtr (.c v21) (.c (.int .i64 2000))) E0 h) h fun v22 h =>
    (wi F L (.pick (.c v18) (.c (.bool true)) (.c v22)) E0 h fun v23 h =>
    (wb v23
    (∃ v, some (.bool true) = some v ∧ K v h)
    (k_gatepostlaw04_FieldBack_0 L K a1 v2 h)))))))))))
theorem run_gatepostlaw04_FieldBack {L : FuncId → List V → V → Prop} {K : V → Heap → Prop} {a0 a1 : V} {h : Heap} (hp : p_gatepostlaw04_FieldBack L K a0 a1 h) : Cf F L i_gatepostlaw04_FieldBack [a0, a1] h K :=
  wcallp F_gatepostlaw04_FieldBack (show 2 ≤ 108 by decide) (p := p_gatepostlaw04_FieldBack L K a0 a1 h) (by kernel_rfl) hp
def k_gatepostlaw04_FieldNames_1 (L : FuncId → List V → V → Prop) (K : V → Heap → Prop) (v0 v1 v5 v6 : V) (h : Heap) : Prop :=
    (wgd v6 true (wi F L (.mv (.c v5)) E0 h) h fun v53 h' =>
    (wgd v6 true (wi F L (.len 1 (.c v53)) E0 h') h' fun v54 h =>
    (wgd v6 true (wi F L (.bin .eql (.c v54) (.c (.int .i64 2))) E0 h) h fun v55 h' =>
    (wi F L (.pick (.c v6) (.c v55) (.c (.bool false))) E0 h' fun v56 h => Ext h' h ∧
    (wgd v56 true (wi F L (.mv (.c v5)) E0 h) h fun v58 h' =>
    (wgd v56 true (wi F L (.ixaSl 1 (.c v58) (.c (.int .i64 0))) E0 h') h' fun v59 h =>
    (wgd v56 true (wi F L (.load false 1 (.c v59)) E0 h) h fun v60 h' =>
    (wgd v56 true (wi F L (.mv (.c v0)) E0 h') h' fun v61 h =>
    (wgd v56 true (wi F L (.call i_token_Lower [(.c v61)]) E0 h) h fun v62 h' =>
    (wgd v56 true (wi F L (.bin .eql (.c v60) (.c v62)) E0 h') h' fun v63 h =>
    (wi F L (.pick (.c v56) (.c v63) (.c (.bool false))) E0 h fun v64 h' => Ext h h' ∧
    (wgd v64 true (wi F L (.mv (.c v5)) E0 h') h' fun v66 h =>
    (wgd v64 true (wi F L (.ixaSl 1 (.c v66) (.c (.int .i64 1))) E0 h) h fun v67 h' =>
    (wgd v64 true (wi F L (.load false 1 (.c v67)) E0 h') h' fun v68 h =>
    (wgd v64 true (wi F L (.mv (.c v1)) E0 h) h fun v69 h' =>
    (wgd v64 true (wi F L (.call i_token_Lower [(.c v69)]) E0 h') h' fun v70 h =>
    (wg v64 true (wi F L (.bin .eql (.c v68) (.c v70)) E0 h) h fun v71 h =>
    (wi F L (.pick (.c v64) (.c v71) (.c (.bool false))) E0 h fun v72 h =>
    (∃ v, some v72 = some v ∧ K v h)))))))))))))))))))
def k_gatepostlaw04_FieldNames_0 (L : FuncId → List V → V → Prop) (K : V → Heap → Prop) (v0 v1 : V) (h : Heap) : Prop :=
    (wi F L (.build [(.str []), (.str [])] [(0, 1, (.c (.str [118]))), (1, 1, (.c v0))]) E0 h fun v17 h =>
    (wi F L (.build [(.str []), (.str [])] [(0, 1, (.c (.str [120]))), (1, 1, (.c (.str [110, 111])))]) E0 h fun v18 h =>
    (wi F L (.build [(.str []), (.str [])] [(0, 1, (.c (.str [86]))), (1, 1, (.c v1))]) E0 h fun v20 h =>
    (wi F L (.bsl 2 [(.c v17), (.c v18), (.c v20)]) E0 h fun v21 h =>
    (wi F L (.call i_field_Names [(.c v21), (.c (.str [86]))]) E0 h fun v22 h =>
    (wi F L (.ext 0 (.c v22)) E0 h fun v23 h =>
    (wi F L (.ext 1 (.c v22)) E0 h fun v24 h =>
    (wi F L (.call i_token_Is [(.c v0)]) E0 h fun v26 h =>
    (wi F L (.un .not (.c v26)) E0 h fun v27 h =>
    (wg v27 false (wi F L (.mv (.c v1)) E0 h) h fun v29 h =>
    (wg v27 false (wi F L (.call i_token_Is [(.c v29)]) E0 h) h fun v30 h =>
    (wg v27 false (wi F L (.un .not (.c v30)) E0 h) h fun v31 h =>
    (wi F L (.pick (.c v27) (.c (.bool true)) (.c v31)) E0 h fun v32 h =>
    (wb v32
    (wi F L (.build [(.str []), (.str [])] [(0, 1, (.c (.str [118]))), (1, 1, (.c (.str [65, 44, 32, 98])))]) E0 h fun v34 h =>
    (wi F L (.bsl 2 [(.c v34)]) E0 h fun v35 h =>
    (wi F L (.call i_field_Names [(.c v35), (.c (.str [118]))]) E0 h fun v36 h =>
    (wi F L (.ext 0 (.c v36)) E0 h fun v37 h =>
    (wi F L (.ext 1 (.c v36)) E0 h fun v38 h =>
    (wg v38 true (wi F L (.mv (.c v37)) E0 h) h fun v41 h =>
    (wg v38 true (wi F L (.len 1 (.c v41)) E0 h) h fun v42 h =>
    (wg v38 true (wi F L (.bin .eql (.c v42) (.c (.int .i64 2))) E0 h) h fun v43 h =>
    (wi F L (.pick (.c v38) (.c v43) (.c (.bool false))) E0 h fun v44 h =>
    (wg v44 true (wi F L (.mv (.c v37)) E0 h) h fun v46 h =>
    (wg v44 true (wi F L (.ixaSl 1 (.c v46) (.c (.int .i64 0))) E0 h) h fun v47 h =>
    (wg v44 true (wi F L (.load false 1 (.c v47)) E0 h) h fun v48 h =>
    (wg v44 true (wi F L (.bin .eql (.c v48) (.c (.str [97]))) E0 h) h fun v49 h =>
    (wi F L (.pick (.c v44) (.c v49) (.c (.bool false))) E0 h fun v50 h =>
    (∃ v, some v50 = some v ∧ K v h)))))))))))))))
    (k_gatepostlaw04_FieldNames_1 L K v0 v1 v23 v24 h)))))))))))))))
def p_gatepostlaw04_FieldNames (L : FuncId → List V → V → Prop) (K : V → Heap → Prop) (a0 a1 : V) (h : Heap) : Prop :=
    (wi F L (.len 0 (.c a0)) E0 h fun v10 h =>
    (wi F L (.len 0 (.c a1)) E0 h fun v12 h =>
    (wi F L (.bin .add (.c v10) (.c v12)) E0 h fun v13 h =>
    (wi F L (.bin .gtr (.c v13) (.c (.int .i64 1000))) E0 h fun v14 h =>
    (wb v14
    (∃ v, some (.bool true) = some v ∧ K v h)
    (k_gatepostlaw04_FieldNames_0 L K a0 a1 h))))))
theorem run_gatepostlaw04_FieldNames {L : FuncId → List V → V → Prop} {K : V → Heap → Prop} {a0 a1 : V} {h : Heap} (hp : p_gatepostlaw04_FieldNames L K a0 a1 h) : Cf F L i_gatepostlaw04_FieldNames [a0, a1] h K :=
  wcallp F_gatepostlaw04_FieldNames (show 2 ≤ 73 by decide) (p := p_gatepostlaw04_FieldNames L K a0 a1 h) (by kernel_rfl) hp
def k_gatepostlaw04_FieldStrips_1 (L : FuncId → List V → V → Prop) (K : V → Heap → Prop) (h : Heap) : Prop :=
    (wi F L (.build [(.str []), (.str [])] [(0, 1, (.c (.str [65]))), (1, 1, (.c (.str [49])))]) E0 h fun v45 h =>
    (wi F L (.build [(.str []), (.str [])] [(0, 1, (.c (.str [99, 111, 110, 110, 101, 99, 116, 105, 111, 110]))), (1, 1, (.c (.str [98, 44, 32, 97])))]) E0 h fun v46 h =>
    (wi F L (.build [(.str []), (.str [])] [(0, 1, (.c (.str [66]))), (1, 1, (.c (.str [50])))]) E0 h fun v47 h =>
    (wi F L (.build [(.str []), (.str [])] [(0, 1, (.c (.str [67]))), (1, 1, (.c (.str [51])))]) E0 h fun v48 h =>
    (wi F L (.bsl 2 [(.c v45), (.c v46), (.c v47), (.c v48)]) E0 h fun v49 h =>
    (wi F L (.call i_field_Strip [(.c v49)]) E0 h fun v50 h =>
    (wi F L (.len 1 (.c v50)) E0 h fun v52 h =>
    (wi F L (.bin .eql (.c v52) (.c (.int .i64 1))) E0 h fun v53 h =>
    (wg v53 true (wi F L (.mv (.c v50)) E0 h) h fun v55 h =>
    (wg v53 true (wi F L (.ixaSl 2 (.c v55) (.c (.int .i64 0))) E0 h) h fun v56 h =>
    (wg v53 true (wi F L (.faddr 0 (.c v56)) E0 h) h fun v57 h =>
    (wg v53 true (wi F L (.load false 1 (.c v57)) E0 h) h fun v58 h =>
    (wg v53 true (wi F L (.bin .eql (.c v58) (.c (.str [67]))) E0 h) h fun v59 h =>
    (wi F L (.pick (.c v53) (.c v59) (.c (.bool false))) E0 h fun v60 h =>
    (∃ v, some v60 = some v ∧ K v h)))))))))))))))
def k_gatepostlaw04_FieldStrips_0 (L : FuncId → List V → V → Prop) (K : V → Heap → Prop) (v0 v1 : V) (h : Heap) : Prop :=
    (wi F L (.bsl 1 [(.c (.str [67, 111, 110, 110, 101, 99, 116, 105, 111, 110])), (.c (.str [75, 69, 69, 80, 45, 65, 76, 73, 86, 69])), (.c (.str [116, 101])), (.c (.str [84, 114, 97, 105, 108, 101, 114])), (.c (.str [116, 114, 97, 110, 115, 102, 101, 114, 45, 69, 110, 99, 111, 100, 105, 110, 103])), (.c (.str [117, 112, 103, 114, 97, 100, 101])), (.c (.str [80, 114, 111, 120, 121, 45, 67, 111, 110, 110, 101, 99, 116, 105, 111, 110]))]) E0 h fun v14 h =>
    (wi F L (.bin .rem (.c v1) (.c (.int .i64 7))) E0 h fun v17 h =>
    (wi F L (.bin .add (.c v17) (.c (.int .i64 7))) E0 h fun v18 h =>
    (wi F L (.bin .rem (.c v18) (.c (.int .i64 7))) E0 h fun v19 h =>
    (wi F L (.ixaSl 1 (.c v14) (.c v19)) E0 h fun v20 h =>
    (wi F L (.load false 1 (.c v20)) E0 h fun v21 h =>
    (wi F L (.bsl 2 []) E0 h fun v22 h =>
    (wi F L (.app 2 32 false (.c v22) (.c v0)) E0 h fun v24 h =>
    (wi F L (.build [(.str []), (.str [])] [(0, 1, (.c v21)), (1, 1, (.c (.str [122, 122])))]) E0 h fun v26 h =>
    (wi F L (.bsl 2 [(.c v26)]) E0 h fun v27 h =>
    (wi F L (.app 2 32 false (.c v24) (.c v27)) E0 h fun v28 h =>
    (wi F L (.call i_field_Strip [(.c v28)]) E0 h fun v29 h =>
    (wi F L (.call i_field_Get [(.c v29), (.c v21)]) E0 h fun v33 h =>
    (wi F L (.ext 0 (.c v33)) E0 h fun v34 h =>
    (wi F L (.ext 1 (.c v33)) E0 h fun v35 h =>
    (wi F L (.bin .neq (.c v35) (.c (.int .i64 0))) E0 h fun v37 h =>
    (wg v37 false (wi F L (.mv (.c v29)) E0 h) h fun v39 h =>
    (wg v37 false (wi F L (.call i_field_Strip [(.c v39)]) E0 h) h fun v40 h =>
    (wg v37 false (wi F L (.mv (.c v29)) E0 h) h fun v41 h =>
    (wg v37 false (wi F L (.call i_gatepostref04_Same [(.c v40), (.c v41)]) E0 h) h fun v42 h =>
    (wg v37 false (wi F L (.un .not (.c v42)) E0 h) h fun v43 h =>
    (wi F L (.pick (.c v37) (.c (.bool true)) (.c v43)) E0 h fun v44 h =>
    (wb v44
    (∃ v, some (.bool false) = some v ∧ K v h)
    (k_gatepostlaw04_FieldStrips_1 L K  h))))))))))))))))))))))))
def p_gatepostlaw04_FieldStrips (L : FuncId → List V → V → Prop) (K : V → Heap → Prop) (a0 a1 : V) (h : Heap) : Prop :=
    (wi F L (.call i_gatepostlaw04_few [(.c a0)]) E0 h fun v12 h =>
    (wi F L (.un .not (.c v12)) E0 h fun v13 h =>
    (wb v13
    (∃ v, some (.bool true) = some v ∧ K v h)
    (k_gatepostlaw04_FieldStrips_0 L K a0 a1 h))))
theorem run_gatepostlaw04_FieldStrips {L : FuncId → List V → V → Prop} {K : V → Heap → Prop} {a0 a1 : V} {h : Heap} (hp : p_gatepostlaw04_FieldStrips L K a0 a1 h) : Cf F L i_gatepostlaw04_FieldStrips [a0, a1] h K :=
  wcallp F_gatepostlaw04_FieldStrips (show 2 ≤ 61 by decide) (p := p_gatepostlaw04_FieldStrips L K a0 a1 h) (by kernel_rfl) hp
def k_gatepostlaw04_FieldGets_0 (L : FuncId → List V → V → Prop) (K : V → Heap → Prop) (v0 v1 v2 : V) (h : Heap) : Prop :=
    (wi F L (.call i_field_Get [(.c v0), (.c v1)]) E0 h fun v31 h =>
    (wi F L (.ext 0 (.c v31)) E0 h fun v32 h =>
    (wi F L (.ext 1 (.c v31)) E0 h fun v33 h =>
    (wi F L (.call i_gatepostref04_Get [(.c v0), (.c v1)]) E0 h fun v37 h =>
    (wi F L (.ext 0 (.c v37)) E0 h fun v38 h =>
    (wi F L (.ext 1 (.c v37)) E0 h fun v39 h =>
    (wi F L (.call i_field_Names [(.c v0), (.c v1)]) E0 h fun v43 h =>
    (wi F L (.ext 0 (.c v43)) E0 h fun v44 h =>
    (wi F L (.ext 1 (.c v43)) E0 h fun v45 h =>
    (wi F L (.call i_gatepostref04_Names [(.c v0), (.c v1)]) E0 h fun v49 h =>
    (wi F L (.ext 0 (.c v49)) E0 h fun v50 h =>
    (wi F L (.ext 1 (.c v49)) E0 h fun v51 h =>
    (wi F L (.build [(.str []), (.str [])] [(0, 1, (.c (.str [65]))), (1, 1, (.c (.str [49])))]) E0 h fun v53 h =>
    (wi F L (.build [(.str []), (.str [])] [(0, 1, (.c (.str [97]))), (1, 1, (.c (.str [50])))]) E0 h fun v54 h =>
    (wi F L (.bsl 2 [(.c v53), (.c v54)]) E0 h fun v55 h =>
    (wi F L (.call i_field_Get [(.c v55), (.c (.str [97]))]) E0 h fun v56 h =>
    (wi F L (.ext 0 (.c v56)) E0 h fun v57 h =>
    (wi F L (.ext 1 (.c v56)) E0 h fun v58 h =>
    (wi F L (.bin .eql (.c v32) (.c v38)) E0 h fun v61 h =>
    (wg v61 true (wi F L (.mv (.c v33)) E0 h) h fun v63 h =>
    (wg v61 true (wi F L (.mv (.c v39)) E0 h) h fun v64 h =>
    (wg v61 true (wi F L (.bin .eql (.c v63) (.c v64)) E0 h) h fun v65 h =>
    (wi F L (.pick (.c v61) (.c v65) (.c (.bool false))) E0 h fun v66 h =>
    (wg v66 true (wi F L (.mv (.c v44)) E0 h) h fun v68 h =>
    (wg v66 true (wi F L (.mv (.c v50)) E0 h) h fun v69 h =>
    (wg v66 true (wi F L (.call i_gatepostlaw04_texts [(.c v68), (.c v69)]) E0 h) h fun v70 h =>
    (wi F L (.pick (.c v66) (.c v70) (.c (.bool false))) E0 h fun v71 h =>
    (wg v71 true (wi F L (.mv (.c v45)) E0 h) h fun v73 h =>
    (wg v71 true (wi F L (.mv (.c v51)) E0 h) h fun v74 h =>
    (wg v71 true (wi F L (.eq .bool false (.c v73) (.c v74)) E0 h) h fun v75 h =>
    (wi F L (.pick (.c v71) (.c v75) (.c (.bool false))) E0 h fun v76 h =>
    (wg v76 true (wi F L (.mv (.c v0)) E0 h) h fun v78 h =>
    (wg v76 true (wi F L (.mv (.c v1)) E0 h) h fun v79 h =>
    (wg v76 true (wi F L (.call i_field_Del [(.c v78), (.c v79)]) E0 h) h fun v80 h =>
    (wg v76 true (wi F L (.mv (.c v0)) E0 h) h fun v81 h =>
    (wg v76 true (wi F L (.mv (.c v1)) E0 h) h fun v82 h =>
    (wg v76 true (wi F L (.call i_gatepostref04_Del [(.c v81), (.c v82)]) E0 h) h fun v83 h =>
    (wg v76 true (wi F L (.call i_gatepostref04_Same [(.c v80), (.c v83)]) E0 h) h fun v84 h =>
    (wi F L (.pick (.c v76) (.c v84) (.c (.bool false))) E0 h fun v85 h =>
    (wg v85 true (wi F L (.mv (.c v0)) E0 h) h fun v87 h =>
    (wg v85 true (wi F L (.mv (.c v1)) E0 h) h fun v88 h =>
    (wg v85 true (wi F L (.mv (.c v2)) E0 h) h fun v89 h =>
    (wg v85 true (wi F L (.call i_field_Set [(.c v87), (.c v88), (.c v89)]) E0 h) h fun v90 h =>
    (wg v85 true (wi F L (.mv (.c v0)) E0 h) h fun v91 h =>
    (wg v85 true (wi F L (.mv (.c v1)) E0 h) h fun v92 h =>
    (wg v85 true (wi F L (.mv (.c v2)) E0 h) h fun v93 h =>
    (wg v85 true (wi F L (.call i_gatepostref04_Set [(.c v91), (.c v92), (.c v93)]) E0 h) h fun v94 h =>
    (wg v85 true (wi F L (.call i_gatepostref04_Same [(.c v90), (.c v94)]) E0 h) h fun v95 h =>
    (wi F L (.pick (.c v85) (.c v95) (.c (.bool false))) E0 h fun v96 h =>
    (wg v96 true (wi F L (.mv (.c v0)) E0 h) h fun v98 h =>
    (wg v96 true (wi F L (.call i_field_Strip [(.c v98)]) E0 h) h fun v99 h =>
    (wg v96 true (wi F L (.mv (.c v0)) E0 h) h fun v100 h =>
    (wg v96 true (wi F L (.call i_gatepostref04_Strip [(.c v100)]) E0 h) h fun v101 h =>
    (wg v96 true (wi F L (.call i_gatepostref04_Same [(.c v99), (.c v101)]) E0 h) h fun v102 h =>
    (wi F L (.pick (.c v96) (.c v102) (.c (.bool false))) E0 h fun v103 h =>
    (wg v103 true (wi F L (.mv (.c v57)) E0 h) h fun v105 h =>
    (wg v103 true (wi F L (.bin .eql (.c v105) (.c (.str [49, 44, 32, 50]))) E0 h) h fun v106 h =>
    (wi F L (.pick (.c v103) (.c v106) (.c (.bool false))) E0 h fun v107 h =>
    (wg v107 true (wi F L (.mv (.c v58)) E0 h) h fun v109 h =>
    (wg v107 true (wi F L (.bin .eql (.c v109) (.c (.int .i64 2))) E0 h) h fun v110 h =>
    (wi F L (.pick (.c v107) (.c v110) (.c (.bool false))) E0 h fun v111 h =>
    (∃ v, some v111 = some v ∧ K v h))))))))))))))))))))))))))))))))))))))))))))))))))))))))))))))
def p_gatepostlaw04_FieldGets (L : FuncId → List V → V → Prop) (K : V → Heap → Prop) (a0 a1 a2 : V) (h : Heap) : Prop :=
    (wi F L (.call i_gatepostlaw04_few [(.c a0)]) E0 h fun v18 h =>
    (wi F L (.un .not (.c v18)) E0 h fun v19 h =>
    (wg v19 false (wi F L (.mv (.c a1)) E0 h) h fun v21 h =>
    (wg v19 false (wi F L (.len 0 (.c v21)) E0 h) h fun v22 h =>
    (wg v19 false (wi F L (.mv (.c a2)) E0 h) h fun v23 h =>
    (wg v19 false (wi F L (.len 0 (.c v23)) E0 h) h fun v24 h =>
    (wg v19 false (wi F L (.bin .add (.c v22) (.c v24)) E0 h) h fun v25 h =>
    (wg v19 false (wi F L (.bin .gtr (.c v25) (.c (.int .i64 2000))) E0 h) h fun v26 h =>
    (wi F L (.pick (.c v19) (.c (.bool true)) (.c v26)) E0 h fun v27 h =>
    (wb v27
    (∃ v, some (.bool true) = some v ∧ K v h)
    (k_gatepostlaw04_FieldGets_0 L K a0 a1 a2 h)))))))))))
theorem run_gatepostlaw04_FieldGets {L : FuncId → List V → V → Prop} {K : V → Heap → Prop} {a0 a1 a2 : V} {h : Heap} (hp : p_gatepostlaw04_FieldGets L K a0 a1 a2 h) : Cf F L i_gatepostlaw04_FieldGets [a0, a1, a2] h K :=
  wcallp F_gatepostlaw04_FieldGets (show 3 ≤ 112 by decide) (p := p_gatepostlaw04_FieldGets L K a0 a1 a2 h) (by kernel_rfl) hp
def k_gatepostlaw04_few_0 (L : FuncId → List V → V → Prop) (K : V → Heap → Prop) (v3 : V) (h : Heap) : Prop :=
    (wi F L (.bin .lss (.c v3) (.c (.int .i64 4000))) E0 h fun v33 h =>
    (∃ v, some v33 = some v ∧ K v h))
def k_gatepostlaw04_few_2 (L : FuncId → List V → V → Prop) (K : V → Heap → Prop) (N0 : Env → Heap → Prop) (e : Env) (v4 : V) (h : Heap) : Prop :=
    (wi F L (.bin .add (.c v4) (.c (.int .i64 1))) E0 h fun v16 h =>
    (N0 (upd (upd (upd e 15 v4) 16 v16) 4 v16) h))
def k_gatepostlaw04_few_1 (L : FuncId → List V → V → Prop) (K : V → Heap → Prop) (N0 : Env → Heap → Prop) (e : Env) (v0 v3 v4 : V) (h : Heap) : Prop :=
    (wi F L (.ixaSl 2 (.c v0) (.c v4)) E0 h fun v20 h' => Ext h h' ∧
    (wi F L (.faddr 0 (.c v20)) E0 h' fun v21 h => Ext h' h ∧
    (wi F L (.load false 1 (.c v21)) E0 h fun v22 h' => Ext h h' ∧
    (wi F L (.len 0 (.c v22)) E0 h' fun v23 h => Ext h' h ∧
    (wi F L (.bin .add (.c v3) (.c v23)) E0 h fun v24 h' => Ext h h' ∧
    (wi F L (.ixaSl 2 (.c v0) (.c v4)) E0 h' fun v27 h => Ext h' h ∧
    (wi F L (.faddr 1 (.c v27)) E0 h fun v28 h' => Ext h h' ∧
    (wi F L (.load false 1 (.c v28)) E0 h' fun v29 h => Ext h' h ∧
    (wi F L (.len 0 (.c v29)) E0 h fun v30 h' => Ext h h' ∧
    (wi F L (.bin .add (.c v24) (.c v30)) E0 h' fun v31 h =>
    (k_gatepostlaw04_few_2 L K N0 (upd (upd (upd (upd (upd (upd (upd (upd (upd (upd (upd (upd (upd (upd (upd (upd e 17 v3) 18 v0) 19 v4) 20 v20) 21 v21) 22 v22) 23 v23) 24 v24) 25 v0) 26 v4) 27 v27) 28 v28) 29 v29) 30 v30) 31 v31) 3 v31) v4 h)))))))))))
def q_gatepostlaw04_few_0 (L : FuncId → List V → V → Prop) (K : V → Heap → Prop) : X → Env → Heap → Prop := (fun x => (seqX (fun e h => k_gatepostlaw04_few_0 L K (e 3) h) (retX c_gatepostlaw04_few.results K)) (X.out 0 x))
def lc_gatepostlaw04_few_0 : C :=
  (.seq (.seq (.region [⟨(some 7), none, .mv (.t 4)⟩, ⟨(some 8), none, .mv (.t 0)⟩, ⟨(some 9), none, .len 1 (.t 8)⟩, ⟨(some 10), none, .bin .lss (.t 7) (.t 9)⟩, ⟨(some 11), none, .mv (.t 10)⟩, ⟨(some 12), (some (11, true)), .mv (.t 3)⟩, ⟨(some 13), (some (11, true)), .bin .lss (.t 12) (.c (.int .i64 4000))⟩, ⟨(some 14), none, .pick (.t 11) (.t 13) (.c (.bool false))⟩])
  (.cond (.t 14)
    .skip
    (.exit 0)))
  (.seq (.block 1 (.dregion [⟨(some 17), none, .mv (.t 3)⟩, ⟨(some 18), none, .mv (.t 0)⟩, ⟨(some 19), none, .mv (.t 4)⟩, ⟨(some 20), none, .ixaSl 2 (.t 18) (.t 19)⟩, ⟨(some 21), none, .faddr 0 (.t 20)⟩, ⟨(some 22), none, .load false 1 (.t 21)⟩, ⟨(some 23), none, .len 0 (.t 22)⟩, ⟨(some 24), none, .bin .add (.t 17) (.t 23)⟩, ⟨(some 25), none, .mv (.t 0)⟩, ⟨(some 26), none, .mv (.t 4)⟩, ⟨(some 27), none, .ixaSl 2 (.t 25) (.t 26)⟩, ⟨(some 28), none, .faddr 1 (.t 27)⟩, ⟨(some 29), none, .load false 1 (.t 28)⟩, ⟨(some 30), none, .len 0 (.t 29)⟩] [⟨(some 31), none, .bin .add (.t 24) (.t 30)⟩, ⟨(some 3), none, .mv (.t 31)⟩]))
  (.region [⟨(some 15), none, .mv (.t 4)⟩, ⟨(some 16), none, .bin .add (.t 15) (.c (.int .i64 1))⟩, ⟨(some 4), none, .mv (.t 16)⟩])))
def b_gatepostlaw04_few_0 (L : FuncId → List V → V → Prop) (K : V → Heap → Prop) (N0 : Env → Heap → Prop) (e : Env) (h : Heap) : Prop :=
    (wi F L (.len 1 (.c (e 0))) E0 h fun v9 h =>
    (wi F L (.bin .lss (.c (e 4)) (.c v9)) E0 h fun v10 h =>
    (wg v10 true (wi F L (.mv (.c (e 3))) E0 h) h fun v12 h =>
    (wg v10 true (wi F L (.bin .lss (.c v12) (.c (.int .i64 4000))) E0 h) h fun v13 h =>
    (wi F L (.pick (.c v10) (.c v13) (.c (.bool false))) E0 h fun v14 h =>
    (wb v14
    (k_gatepostlaw04_few_1 L K N0 (upd (upd (upd (upd (upd (upd (upd (upd e 7 (e 4)) 8 (e 0)) 9 v9) 10 v10) 11 v10) 12 v12) 13 v13) 14 v14) (e 0) (e 3) (e 4) h)
    (k_gatepostlaw04_few_0 L K (e 3) h)))))))
theorem l_gatepostlaw04_few_0 {L : FuncId → List V → V → Prop} {K : V → Heap → Prop} (I : Nat → Env → Heap → Prop) (hr : ∀ n e h, I n e h → b_gatepostlaw04_few_0 L K (fun e' h' => ∃ m, m < n ∧ I m e' h') e h) {n : Nat} {e : Env} {h : Heap} (hi : I n e h) : Wl F L lc_gatepostlaw04_few_0 (q_gatepostlaw04_few_0 L K) e h :=
  wloopp (b := b_gatepostlaw04_few_0 L K) I (fun _ _ _ => by kernel_rfl) hr hi
def p_gatepostlaw04_few (L : FuncId → List V → V → Prop) (K : V → Heap → Prop) (a0 : V) (h : Heap) : Prop :=
    (wi F L (.len 1 (.c a0)) E0 h fun v6 h =>
    (Wl F L lc_gatepostlaw04_few_0 (q_gatepostlaw04_few_0 L K) (upd (upd (upd (upd (upd (enterE [a0]) 2 (.bool false)) 5 a0) 6 v6) 3 v6) 4 (.int .i64 0)) h))
theorem run_gatepostlaw04_few {L : FuncId → List V → V → Prop} {K : V → Heap → Prop} {a0 : V} {h : Heap} (hp : p_gatepostlaw04_few L K a0 h) : Cf F L i_gatepostlaw04_few [a0] h K :=
  wcallp F_gatepostlaw04_few (show 1 ≤ 34 by decide) (p := p_gatepostlaw04_few L K a0 h) (by kernel_rfl) hp
def k_field_Parse_0 (L : FuncId → List V → V → Prop) (K : V → Heap → Prop) (v2 v7 : V) (h : Heap) : Prop :=
    (wi F L (.load true 2 (.c v7)) E0 h fun v26 h =>
    (wi F L (.store 2 (.c v2) (.c v26)) E0 h fun _ h =>
    (∃ v, resultsV h (enterE [v2, (.int .i64 0)]) [.cell 0 true 2, .tmp 1] = some v ∧ K v h)))
def p_field_Parse (L : FuncId → List V → V → Prop) (K : V → Heap → Prop) (a0 : V) (h : Heap) : Prop :=
    (wi F L (.boxz [(.str []), (.str [])]) E0 h fun v2 h =>
    (wi F L (.call i_strings_Cut [(.c a0), (.c (.str [58]))]) E0 h fun v10 h =>
    (wi F L (.ext 0 (.c v10)) E0 h fun v11 h =>
    (wi F L (.ext 1 (.c v10)) E0 h fun v12 h =>
    (wi F L (.ext 2 (.c v10)) E0 h fun v13 h =>
    (wi F L (.call i_token_Trim [(.c v12)]) E0 h fun v16 h =>
    (wi F L (.build [(.str []), (.str [])] [(0, 1, (.c v11)), (1, 1, (.c v16))]) E0 h fun v17 h =>
    (wi F L (.boxz [(.str []), (.str [])]) E0 h fun v7 h =>
    (wi F L (.store 2 (.c v7) (.c v17)) E0 h fun _ h =>
    (wi F L (.un .not (.c v13)) E0 h fun v19 h =>
    (wg v19 false (wi F L (.load true 2 (.c v7)) E0 h) h fun v21 h =>
    (wg v19 false (wi F L (.call i_field_fine [(.c v21)]) E0 h) h fun v22 h =>
    (wg v19 false (wi F L (.un .not (.c v22)) E0 h) h fun v23 h =>
    (wi F L (.pick (.c v19) (.c (.bool true)) (.c v23)) E0 h fun v24 h =>
    (wb v24
    (wi F L (.build [(.str []), (.str [])] []) E0 h fun v25 h =>
    (wi F L (.store 2 (.c v2) (.c v25)) E0 h fun _ h =>
    (∃ v, resultsV h (enterE [v2, (.int .i64 31)]) [.cell 0 true 2, .tmp 1] = some v ∧ K v h)))
    (k_field_Parse_0 L K v2 v7 h))))))))))))))))
theorem run_field_Parse {L : FuncId → List V → V → Prop} {K : V → Heap → Prop} {a0 : V} {h : Heap} (hp : p_field_Parse L K a0 h) : Cf F L i_field_Parse [a0] h K :=
  wcallp F_field_Parse (show 1 ≤ 27 by decide) (p := p_field_Parse L K a0 h) (by kernel_rfl) hp
def k_gatepostref04_Parse_2 (L : FuncId → List V → V → Prop) (K : V → Heap → Prop) (v0 v2 v4 v5 : V) (h : Heap) : Prop :=
    (wi F L (.slstr (.c v0) none (some (.c v4))) E0 h fun v41 h =>
    (wi F L (.build [(.str []), (.str [])] [(0, 1, (.c v41)), (1, 1, (.c v5))]) E0 h fun v43 h =>
    (wi F L (.store 2 (.c v2) (.c v43)) E0 h fun _ h =>
    (∃ v, resultsV h (enterE [v2, (.int .i64 0)]) [.cell 0 true 2, .tmp 1] = some v ∧ K v h))))
def k_gatepostref04_Parse_1 (L : FuncId → List V → V → Prop) (K : V → Heap → Prop) (v0 v2 v4 : V) (h : Heap) : Prop :=
    (wi F L (.bin .add (.c v4) (.c (.int .i64 1))) E0 h fun v32 h =>
    (wi F L (.slstr (.c v0) (some (.c v32)) none) E0 h fun v33 h =>
    (wi F L (.call i_gatepostref01_Trim [(.c v33)]) E0 h fun v34 h =>
    (wi F L (.call i_gatepostref01_Value [(.c v34)]) E0 h fun v36 h =>
    (wi F L (.un .not (.c v36)) E0 h fun v37 h =>
    (wb v37
    (wi F L (.build [(.str []), (.str [])] []) E0 h fun v38 h =>
    (wi F L (.store 2 (.c v2) (.c v38)) E0 h fun _ h =>
    (∃ v, resultsV h (enterE [v2, (.int .i64 31)]) [.cell 0 true 2, .tmp 1] = some v ∧ K v h)))
    (k_gatepostref04_Parse_2 L K v0 v2 v4 v34 h)))))))
def k_gatepostref04_Parse_0 (L : FuncId → List V → V → Prop) (K : V → Heap → Prop) (v0 v2 v4 : V) (h : Heap) : Prop :=
    (wi F L (.len 0 (.c v0)) E0 h fun v20 h =>
    (wi F L (.bin .eql (.c v4) (.c v20)) E0 h fun v21 h =>
    (wg v21 false (wi F L (.mv (.c v0)) E0 h) h fun v23 h =>
    (wg v21 false (wi F L (.mv (.c v4)) E0 h) h fun v24 h =>
    (wg v21 false (wi F L (.slstr (.c v23) none (some (.c v24))) E0 h) h fun v25 h =>
    (wg v21 false (wi F L (.call i_gatepostref01_Is [(.c v25)]) E0 h) h fun v26 h =>
    (wg v21 false (wi F L (.un .not (.c v26)) E0 h) h fun v27 h =>
    (wi F L (.pick (.c v21) (.c (.bool true)) (.c v27)) E0 h fun v28 h =>
    (wb v28
    (wi F L (.build [(.str []), (.str [])] []) E0 h fun v29 h =>
    (wi F L (.store 2 (.c v2) (.c v29)) E0 h fun _ h =>
    (∃ v, resultsV h (enterE [v2, (.int .i64 31)]) [.cell 0 true 2, .tmp 1] = some v ∧ K v h)))
    (k_gatepostref04_Parse_1 L K v0 v2 v4 h))))))))))
def k_gatepostref04_Parse_3 (L : FuncId → List V → V → Prop) (K : V → Heap → Prop) (N0 : Env → Heap → Prop) (e : Env) (v4 : V) (h : Heap) : Prop :=
    (wi F L (.bin .add (.c v4) (.c (.int .i64 1))) E0 h fun v17 h =>
    (N0 (upd (upd (upd e 16 v4) 17 v17) 4 v17) h))
def q_gatepostref04_Parse_0 (L : FuncId → List V → V → Prop) (K : V → Heap → Prop) : X → Env → Heap → Prop := (fun x => (seqX (fun e h => k_gatepostref04_Parse_0 L K (e 0) (e 2) (e 4) h) (retX c_gatepostref04_Parse.results K)) (X.out 0 x))
def lc_gatepostref04_Parse_0 : C :=
  (.seq (.seq (.region [⟨(some 6), none, .mv (.t 4)⟩, ⟨(some 7), none, .mv (.t 0)⟩, ⟨(some 8), none, .len 0 (.t 7)⟩, ⟨(some 9), none, .bin .lss (.t 6) (.t 8)⟩, ⟨(some 10), none, .mv (.t 9)⟩, ⟨(some 11), (some (10, true)), .mv (.t 0)⟩, ⟨(some 12), (some (10, true)), .mv (.t 4)⟩, ⟨(some 13), (some (10, true)), .ixStr (.t 11) (.t 12)⟩, ⟨(some 14), (some (10, true)), .bin .neq (.t 13) (.c (.int .u8 58))⟩, ⟨(some 15), none, .pick (.t 10) (.t 14) (.c (.bool false))⟩])
  (.cond (.t 15)
    .skip
    (.exit 0)))
  (.block 1 (.region [⟨(some 16), none, .mv (.t 4)⟩, ⟨(some 17), none, .bin .add (.t 16) (.c (.int .i64 1))⟩, ⟨(some 4), none, .mv (.t 17)⟩])))
def b_gatepostref04_Parse_0 (L : FuncId → List V → V → Prop) (K : V → Heap → Prop) (N0 : Env → Heap → Prop) (e : Env) (h : Heap) : Prop :=
    (wi F L (.len 0 (.c (e 0))) E0 h fun v8 h =>
    (wi F L (.bin .lss (.c (e 4)) (.c v8)) E0 h fun v9 h =>
    (wg v9 true (wi F L (.mv (.c (e 0))) E0 h) h fun v11 h =>
    (wg v9 true (wi F L (.mv (.c (e 4))) E0 h) h fun v12 h =>
    (wg v9 true (wi F L (.ixStr (.c v11) (.c v12)) E0 h) h fun v13 h =>
    (wg v9 true (wi F L (.bin .neq (.c v13) (.c (.int .u8 58))) E0 h) h fun v14 h =>
    (wi F L (.pick (.c v9) (.c v14) (.c (.bool false))) E0 h fun v15 h =>
    (wb v15
    (k_gatepostref04_Parse_3 L K N0 (upd (upd (upd (upd (upd (upd (upd (upd (upd (upd e 6 (e 4)) 7 (e 0)) 8 v8) 9 v9) 10 v9) 11 v11) 12 v12) 13 v13) 14 v14) 15 v15) (e 4) h)
    (k_gatepostref04_Parse_0 L K (e 0) (e 2) (e 4) h)))))))))
theorem l_gatepostref04_Parse_0 {L : FuncId → List V → V → Prop} {K : V → Heap → Prop} (I : Nat → Env → Heap → Prop) (hr : ∀ n e h, I n e h → b_gatepostref04_Parse_0 L K (fun e' h' => ∃ m, m < n ∧ I m e' h') e h) {n : Nat} {e : Env} {h : Heap} (hi : I n e h) : Wl F L lc_gatepostref04_Parse_0 (q_gatepostref04_Parse_0 L K) e h :=
  wloopp (b := b_gatepostref04_Parse_0 L K) I (fun _ _ _ => by kernel_rfl) hr hi
def p_gatepostref04_Parse (L : FuncId → List V → V → Prop) (K : V → Heap → Prop) (a0 : V) (h : Heap) : Prop :=
    (wi F L (.boxz [(.str []), (.str [])]) E0 h fun v2 h =>
    (Wl F L lc_gatepostref04_Parse_0 (q_gatepostref04_Parse_0 L K) (upd (upd (upd (enterE [a0]) 2 v2) 3 (.int .i64 0)) 4 (.int .i64 0)) h))
theorem run_gatepostref04_Parse {L : FuncId → List V → V → Prop} {K : V → Heap → Prop} {a0 : V} {h : Heap} (hp : p_gatepostref04_Parse L K a0 h) : Cf F L i_gatepostref04_Parse [a0] h K :=
  wcallp F_gatepostref04_Parse (show 1 ≤ 44 by decide) (p := p_gatepostref04_Parse L K a0 h) (by kernel_rfl) hp
def k_field_Line_0 (L : FuncId → List V → V → Prop) (K : V → Heap → Prop) (v1 : V) (h : Heap) : Prop :=
    (wi F L (.faddr 0 (.c v1)) E0 h fun v7 h =>
    (wi F L (.load false 1 (.c v7)) E0 h fun v8 h =>
    (wi F L (.bin .add (.c v8) (.c (.str [58, 32]))) E0 h fun v9 h =>
    (wi F L (.faddr 1 (.c v1)) E0 h fun v10 h =>
    (wi F L (.load false 1 (.c v10)) E0 h fun v11 h =>
    (wi F L (.bin .add (.c v9) (.c v11)) E0 h fun v12 h =>
    (∃ v, resultsV h (enterE [v12, (.int .i64 0)]) [.tmp 0, .tmp 1] = some v ∧ K v h)))))))
def p_field_Line (L : FuncId → List V → V → Prop) (K : V → Heap → Prop) (a0 : V) (h : Heap) : Prop :=
    (wi F L (.box (.c a0)) E0 h fun v1 h =>
    (wi F L (.load true 2 (.c v1)) E0 h fun v4 h =>
    (wi F L (.call i_field_fine [(.c v4)]) E0 h fun v5 h =>
    (wi F L (.un .not (.c v5)) E0 h fun v6 h =>
    (wb v6
    (∃ v, resultsV h (enterE [(.str []), (.int .i64 31)]) [.tmp 0, .tmp 1] = some v ∧ K v h)
    (k_field_Line_0 L K v1 h))))))
theorem run_field_Line {L : FuncId → List V → V → Prop} {K : V → Heap → Prop} {a0 : V} {h : Heap} (hp : p_field_Line L K a0 h) : Cf F L i_field_Line [a0] h K :=
  wcallp F_field_Line (show 1 ≤ 13 by decide) (p := p_field_Line L K a0 h) (by kernel_rfl) hp
def k_gatepostref04_Line_0 (L : FuncId → List V → V → Prop) (K : V → Heap → Prop) (v1 : V) (h : Heap) : Prop :=
    (wi F L (.faddr 0 (.c v1)) E0 h fun v14 h =>
    (wi F L (.load false 1 (.c v14)) E0 h fun v15 h =>
    (wi F L (.bin .add (.c v15) (.c (.str [58, 32]))) E0 h fun v16 h =>
    (wi F L (.faddr 1 (.c v1)) E0 h fun v17 h =>
    (wi F L (.load false 1 (.c v17)) E0 h fun v18 h =>
    (wi F L (.bin .add (.c v16) (.c v18)) E0 h fun v19 h =>
    (∃ v, resultsV h (enterE [v19, (.int .i64 0)]) [.tmp 0, .tmp 1] = some v ∧ K v h)))))))
def p_gatepostref04_Line (L : FuncId → List V → V → Prop) (K : V → Heap → Prop) (a0 : V) (h : Heap) : Prop :=
    (wi F L (.box (.c a0)) E0 h fun v1 h =>
    (wi F L (.faddr 0 (.c v1)) E0 h fun v4 h =>
    (wi F L (.load false 1 (.c v4)) E0 h fun v5 h =>
    (wi F L (.call i_gatepostref01_Is [(.c v5)]) E0 h fun v6 h =>
    (wi F L (.un .not (.c v6)) E0 h fun v7 h =>
    (wg v7 false (wi F L (.faddr 1 (.c v1)) E0 h) h fun v9 h =>
    (wg v7 false (wi F L (.load false 1 (.c v9)) E0 h) h fun v10 h =>
    (wg v7 false (wi F L (.call i_gatepostref01_Value [(.c v10)]) E0 h) h fun v11 h =>
    (wg v7 false (wi F L (.un .not (.c v11)) E0 h) h fun v12 h =>
    (wi F L (.pick (.c v7) (.c (.bool true)) (.c v12)) E0 h fun v13 h =>
    (wb v13
    (∃ v, resultsV h (enterE [(.str []), (.int .i64 31)]) [.tmp 0, .tmp 1] = some v ∧ K v h)
    (k_gatepostref04_Line_0 L K v1 h))))))))))))
theorem run_gatepostref04_Line {L : FuncId → List V → V → Prop} {K : V → Heap → Prop} {a0 : V} {h : Heap} (hp : p_gatepostref04_Line L K a0 h) : Cf F L i_gatepostref04_Line [a0] h K :=
  wcallp F_gatepostref04_Line (show 1 ≤ 20 by decide) (p := p_gatepostref04_Line L K a0 h) (by kernel_rfl) hp
def k_field_Names_1 (L : FuncId → List V → V → Prop) (K : V → Heap → Prop) (v10 : V) (h : Heap) : Prop :=
    (∃ v, resultsV h (enterE [v10, (.bool true)]) [.tmp 0, .tmp 1] = some v ∧ K v h)
def k_field_Names_0 (L : FuncId → List V → V → Prop) (K : V → Heap → Prop) (v9 v10 : V) (h : Heap) : Prop :=
    (wi F L (.un .not (.c v9)) E0 h fun v42 h =>
    (wb v42
    (∃ v, resultsV h (enterE [.nsl, (.bool false)]) [.tmp 0, .tmp 1] = some v ∧ K v h)
    (k_field_Names_1 L K v10 h)))
def k_field_Names_3 (L : FuncId → List V → V → Prop) (K : V → Heap → Prop) (N0 : Env → Heap → Prop) (e : Env) (v26 : V) (h : Heap) : Prop :=
    (wi F L (.bin .add (.c v26) (.c (.int .i64 1))) E0 h fun v40 h =>
    (N0 (upd (upd e 40 v40) 26 v40) h))
def k_field_Names_2 (L : FuncId → List V → V → Prop) (K : V → Heap → Prop) (N0 : Env → Heap → Prop) (e : Env) (v9 v10 v24 v26 : V) (h : Heap) : Prop :=
    (wi F L (.ixaSl 1 (.c v24) (.c v26)) E0 h fun v28 h =>
    (wi F L (.load false 1 (.c v28)) E0 h fun v29 h =>
    (wg v9 true (wi F L (.mv (.c v29)) E0 h) h fun v32 h =>
    (wg v9 true (wi F L (.call i_token_Is [(.c v32)]) E0 h) h fun v33 h =>
    (wi F L (.pick (.c v9) (.c v33) (.c (.bool false))) E0 h fun v34 h =>
    (wi F L (.call i_token_Lower [(.c v29)]) E0 h fun v37 h =>
    (wi F L (.bsl 1 [(.c v37)]) E0 h fun v38 h =>
    (wi F L (.app 1 16 false (.c v10) (.c v38)) E0 h fun v39 h =>
    (k_field_Names_3 L K N0 (upd (upd (upd (upd (upd (upd (upd (upd (upd (upd (upd (upd (upd (upd (upd e 28 v28) 29 v29) 12 v29) 30 v9) 31 v9) 32 v32) 33 v33) 34 v34) 9 v34) 35 v10) 36 v29) 37 v37) 38 v38) 39 v39) 10 v39) v26 h)))))))))
def q_field_Names_0 (L : FuncId → List V → V → Prop) (K : V → Heap → Prop) : X → Env → Heap → Prop := (fun x => (seqX (fun e h => k_field_Names_0 L K (e 9) (e 10) h) (retX c_field_Names.results K)) (X.out 0 x))
def lc_field_Names_0 : C :=
  (.seq (.region [⟨(some 27), none, .bin .lss (.t 26) (.t 25)⟩])
  (.seq (.cond (.t 27)
    .skip
    (.exit 0))
  (.seq (.block 1 (.seq (.region [⟨(some 28), none, .ixaSl 1 (.t 24) (.t 26)⟩, ⟨(some 29), none, .load false 1 (.t 28)⟩, ⟨(some 12), none, .mv (.t 29)⟩])
  (.seq (.region [⟨(some 30), none, .mv (.t 9)⟩, ⟨(some 31), none, .mv (.t 30)⟩, ⟨(some 32), (some (31, true)), .mv (.t 12)⟩, ⟨(some 33), (some (31, true)), .call i_token_Is [(.t 32)]⟩, ⟨(some 34), none, .pick (.t 31) (.t 33) (.c (.bool false))⟩, ⟨(some 9), none, .mv (.t 34)⟩])
  (.region [⟨(some 35), none, .mv (.t 10)⟩, ⟨(some 36), none, .mv (.t 12)⟩, ⟨(some 37), none, .call i_token_Lower [(.t 36)]⟩, ⟨(some 38), none, .bsl 1 [(.t 37)]⟩, ⟨(some 39), none, .app 1 16 false (.t 35) (.t 38)⟩, ⟨(some 10), none, .mv (.t 39)⟩]))))
  (.region [⟨(some 40), none, .bin .add (.t 26) (.c (.int .i64 1))⟩, ⟨(some 26), none, .mv (.t 40)⟩]))))
def b_field_Names_0 (L : FuncId → List V → V → Prop) (K : V → Heap → Prop) (N0 : Env → Heap → Prop) (e : Env) (h : Heap) : Prop :=
    (wi F L (.bin .lss (.c (e 26)) (.c (e 25))) E0 h fun v27 h =>
    (wb v27
    (k_field_Names_2 L K N0 (upd e 27 v27) (e 9) (e 10) (e 24) (e 26) h)
    (k_field_Names_0 L K (e 9) (e 10) h)))
theorem l_field_Names_0 {L : FuncId → List V → V → Prop} {K : V → Heap → Prop} (I : Nat → Env → Heap → Prop) (hr : ∀ n e h, I n e h → b_field_Names_0 L K (fun e' h' => ∃ m, m < n ∧ I m e' h') e h) {n : Nat} {e : Env} {h : Heap} (hi : I n e h) : Wl F L lc_field_Names_0 (q_field_Names_0 L K) e h :=
  wloopp (b := b_field_Names_0 L K) I (fun _ _ _ => by kernel_rfl) hr hi
def p_field_Names (L : FuncId → List V → V → Prop) (K : V → Heap → Prop) (a0 a1 : V) (h : Heap) : Prop :=
    (wi F L (.call i_field_Get [(.c a0), (.c a1)]) E0 h fun v16 h =>
    (wi F L (.ext 0 (.c v16)) E0 h fun v17 h =>
    (wi F L (.ext 1 (.c v16)) E0 h fun v18 h =>
    (wi F L (.call i_token_Split [(.c v17)]) E0 h fun v21 h =>
    (wi F L (.ext 0 (.c v21)) E0 h fun v22 h =>
    (wi F L (.ext 1 (.c v21)) E0 h fun v23 h =>
    (wi F L (.len 1 (.c v22)) E0 h fun v25 h =>
    (Wl F L lc_field_Names_0 (q_field_Names_0 L K) (upd (upd (upd (upd (upd (upd (upd (upd (upd (upd (upd (upd (upd (upd (upd (upd (upd (upd (upd (upd (upd (enterE [a0, a1]) 4 .nsl) 5 (.bool false)) 14 a0) 15 a1) 16 v16) 13 v16) 17 v17) 18 v18) 6 v17) 7 v18) 20 v17) 21 v21) 19 v21) 22 v22) 23 v23) 8 v22) 9 v23) 10 .nsl) 24 v22) 25 v25) 26 (.int .i64 0)) h))))))))
theorem run_field_Names {L : FuncId → List V → V → Prop} {K : V → Heap → Prop} {a0 a1 : V} {h : Heap} (hp : p_field_Names L K a0 a1 h) : Cf F L i_field_Names [a0, a1] h K :=
  wcallp F_field_Names (show 2 ≤ 44 by decide) (p := p_field_Names L K a0 a1 h) (by kernel_rfl) hp
def p_token_Is (L : FuncId → List V → V → Prop) (K : V → Heap → Prop) (a0 : V) (h : Heap) : Prop :=
    (wi F L (.bin .neq (.c a0) (.c (.str []))) E0 h fun v4 h =>
    (wg v4 true (wi F L (.mv (.c a0)) E0 h) h fun v6 h =>
    (wg v4 true (wi F L (.call i_token_all [(.c v6), (.c (.fn i_token_inToken []))]) E0 h) h fun v7 h =>
    (wi F L (.pick (.c v4) (.c v7) (.c (.bool false))) E0 h fun v8 h =>
    (∃ v, some v8 = some v ∧ K v h)))))
theorem run_token_Is {L : FuncId → List V → V → Prop} {K : V → Heap → Prop} {a0 : V} {h : Heap} (hp : p_token_Is L K a0 h) : Cf F L i_token_Is [a0] h K :=
  wcallp F_token_Is (show 1 ≤ 9 by decide) (p := p_token_Is L K a0 h) (by kernel_rfl) hp
def k_token_Lower_0 (L : FuncId → List V → V → Prop) (K : V → Heap → Prop) (v3 : V) (h : Heap) : Prop :=
    (wi F L (.toStr (.c v3)) E0 h fun v28 h =>
    (∃ v, some v28 = some v ∧ K v h))
def k_token_Lower_2 (L : FuncId → List V → V → Prop) (K : V → Heap → Prop) (N0 : Env → Heap → Prop) (e : Env) (v10 : V) (h : Heap) : Prop :=
    (wi F L (.bin .add (.c v10) (.c (.int .i64 1))) E0 h fun v26 h =>
    (N0 (upd (upd e 26 v26) 10 v26) h))
def k_token_Lower_1 (L : FuncId → List V → V → Prop) (K : V → Heap → Prop) (N0 : Env → Heap → Prop) (e : Env) (v3 v8 v10 : V) (h : Heap) : Prop :=
    (wi F L (.ixaSl 1 (.c v8) (.c v10)) E0 h fun v13 h =>
    (wi F L (.load false 1 (.c v13)) E0 h fun v14 h =>
    (wi F L (.bin .geq (.c v14) (.c (.int .u8 65))) E0 h fun v16 h =>
    (wg v16 true (wi F L (.mv (.c v14)) E0 h) h fun v18 h =>
    (wg v16 true (wi F L (.bin .leq (.c v18) (.c (.int .u8 90))) E0 h) h fun v19 h =>
    (wi F L (.pick (.c v16) (.c v19) (.c (.bool false))) E0 h fun v20 h =>
    (wb v20
    (wi F L (.bin .or (.c v14) (.c (.int .u8 32))) E0 h fun v24 h =>
    (wi F L (.ixaSl 1 (.c v3) (.c v10)) E0 h fun v25 h =>
    (wi F L (.store 1 (.c v25) (.c v24)) E0 h fun _ h =>
    (k_token_Lower_2 L K N0 (upd (upd (upd (upd (upd (upd (upd (upd (upd (upd (upd (upd (upd (upd (upd (upd e 12 v10) 13 v13) 14 v14) 4 v10) 5 v14) 15 v14) 16 v16) 17 v16) 18 v18) 19 v19) 20 v20) 21 v3) 22 v10) 23 v14) 24 v24) 25 v25) v10 h))))
    (k_token_Lower_2 L K N0 (upd (upd (upd (upd (upd (upd (upd (upd (upd (upd (upd e 12 v10) 13 v13) 14 v14) 4 v10) 5 v14) 15 v14) 16 v16) 17 v16) 18 v18) 19 v19) 20 v20) v10 h))))))))
def q_token_Lower_0 (L : FuncId → List V → V → Prop) (K : V → Heap → Prop) : X → Env → Heap → Prop := (fun x => (seqX (fun e h => k_token_Lower_0 L K (e 3) h) (retX c_token_Lower.results K)) (X.out 0 x))
def lc_token_Lower_0 : C :=
  (.seq (.region [⟨(some 11), none, .bin .lss (.t 10) (.t 9)⟩])
  (.seq (.cond (.t 11)
    .skip
    (.exit 0))
  (.seq (.block 1 (.seq (.region [⟨(some 12), none, .mv (.t 10)⟩, ⟨(some 13), none, .ixaSl 1 (.t 8) (.t 10)⟩, ⟨(some 14), none, .load false 1 (.t 13)⟩, ⟨(some 4), none, .mv (.t 12)⟩, ⟨(some 5), none, .mv (.t 14)⟩])
  (.seq (.region [⟨(some 15), none, .mv (.t 5)⟩, ⟨(some 16), none, .bin .geq (.t 15) (.c (.int .u8 65))⟩, ⟨(some 17), none, .mv (.t 16)⟩, ⟨(some 18), (some (17, true)), .mv (.t 5)⟩, ⟨(some 19), (some (17, true)), .bin .leq (.t 18) (.c (.int .u8 90))⟩, ⟨(some 20), none, .pick (.t 17) (.t 19) (.c (.bool false))⟩])
  (.cond (.t 20)
    (.region [⟨(some 21), none, .mv (.t 3)⟩, ⟨(some 22), none, .mv (.t 4)⟩, ⟨(some 23), none, .mv (.t 5)⟩, ⟨(some 24), none, .bin .or (.t 23) (.c (.int .u8 32))⟩, ⟨(some 25), none, .ixaSl 1 (.t 21) (.t 22)⟩, ⟨none, none, .store 1 (.t 25) (.t 24)⟩])
    .skip))))
  (.region [⟨(some 26), none, .bin .add (.t 10) (.c (.int .i64 1))⟩, ⟨(some 10), none, .mv (.t 26)⟩]))))
def b_token_Lower_0 (L : FuncId → List V → V → Prop) (K : V → Heap → Prop) (N0 : Env → Heap → Prop) (e : Env) (h : Heap) : Prop :=
    (wi F L (.bin .lss (.c (e 10)) (.c (e 9))) E0 h fun v11 h =>
    (wb v11
    (k_token_Lower_1 L K N0 (upd e 11 v11) (e 3) (e 8) (e 10) h)
    (k_token_Lower_0 L K (e 3) h)))
theorem l_token_Lower_0 {L : FuncId → List V → V → Prop} {K : V → Heap → Prop} (I : Nat → Env → Heap → Prop) (hr : ∀ n e h, I n e h → b_token_Lower_0 L K (fun e' h' => ∃ m, m < n ∧ I m e' h') e h) {n : Nat} {e : Env} {h : Heap} (hi : I n e h) : Wl F L lc_token_Lower_0 (q_token_Lower_0 L K) e h :=
  wloopp (b := b_token_Lower_0 L K) I (fun _ _ _ => by kernel_rfl) hr hi
def p_token_Lower (L : FuncId → List V → V → Prop) (K : V → Heap → Prop) (a0 : V) (h : Heap) : Prop :=
    (wi F L (.toBytes (.c a0)) E0 h fun v7 h =>
    (wi F L (.len 1 (.c v7)) E0 h fun v9 h =>
    (Wl F L lc_token_Lower_0 (q_token_Lower_0 L K) (upd (upd (upd (upd (upd (upd (upd (enterE [a0]) 2 (.str [])) 6 a0) 7 v7) 3 v7) 8 v7) 9 v9) 10 (.int .i64 0)) h)))
theorem run_token_Lower {L : FuncId → List V → V → Prop} {K : V → Heap → Prop} {a0 : V} {h : Heap} (hp : p_token_Lower L K a0 h) : Cf F L i_token_Lower [a0] h K :=
  wcallp F_token_Lower (show 1 ≤ 29 by decide) (p := p_token_Lower L K a0 h) (by kernel_rfl) hp
def p_field_Strip (L : FuncId → List V → V → Prop) (K : V → Heap → Prop) (a0 : V) (h : Heap) : Prop :=
    (wi F L (.call i_field_Names [(.c a0), (.c (.str [67, 111, 110, 110, 101, 99, 116, 105, 111, 110]))]) E0 h fun v7 h =>
    (wi F L (.ext 0 (.c v7)) E0 h fun v8 h =>
    (wi F L (.ext 1 (.c v7)) E0 h fun v9 h =>
    (wi F L (.bsl 1 [(.c (.str [67, 111, 110, 110, 101, 99, 116, 105, 111, 110])), (.c (.str [75, 101, 101, 112, 45, 65, 108, 105, 118, 101])), (.c (.str [80, 114, 111, 120, 121, 45, 67, 111, 110, 110, 101, 99, 116, 105, 111, 110])), (.c (.str [84, 69])), (.c (.str [84, 114, 97, 105, 108, 101, 114])), (.c (.str [84, 114, 97, 110, 115, 102, 101, 114, 45, 69, 110, 99, 111, 100, 105, 110, 103])), (.c (.str [85, 112, 103, 114, 97, 100, 101]))]) E0 h fun v11 h =>
    (wi F L (.app 1 16 false (.c v8) (.c v11)) E0 h fun v12 h =>
    (wi F L (.call i_field_without [(.c a0), (.c v12)]) E0 h fun v15 h =>
    (∃ v, some v15 = some v ∧ K v h)))))))
theorem run_field_Strip {L : FuncId → List V → V → Prop} {K : V → Heap → Prop} {a0 : V} {h : Heap} (hp : p_field_Strip L K a0 h) : Cf F L i_field_Strip [a0] h K :=
  wcallp F_field_Strip (show 1 ≤ 16 by decide) (p := p_field_Strip L K a0 h) (by kernel_rfl) hp
def k_field_Get_0 (L : FuncId → List V → V → Prop) (K : V → Heap → Prop) (v6 : V) (h : Heap) : Prop :=
    (wi F L (.call i_strings_Join [(.c v6), (.c (.str [44, 32]))]) E0 h fun v26 h =>
    (wi F L (.len 1 (.c v6)) E0 h fun v28 h =>
    (∃ v, resultsV h (enterE [v26, v28]) [.tmp 0, .tmp 1] = some v ∧ K v h)))
def k_field_Get_2 (L : FuncId → List V → V → Prop) (K : V → Heap → Prop) (N0 : Env → Heap → Prop) (e : Env) (v11 : V) (h : Heap) : Prop :=
    (wi F L (.bin .add (.c v11) (.c (.int .i64 1))) E0 h fun v24 h =>
    (N0 (upd (upd e 24 v24) 11 v24) h))
def k_field_Get_1 (L : FuncId → List V → V → Prop) (K : V → Heap → Prop) (N0 : Env → Heap → Prop) (e : Env) (v1 v6 v9 v11 : V) (h : Heap) : Prop :=
    (wi F L (.ixaSl 2 (.c v9) (.c v11)) E0 h fun v13 h =>
    (wi F L (.load true 2 (.c v13)) E0 h fun v14 h =>
    (wi F L (.boxz [(.str []), (.str [])]) E0 h fun v8 h =>
    (wi F L (.store 2 (.c v8) (.c v14)) E0 h fun _ h =>
    (wi F L (.faddr 0 (.c v8)) E0 h fun v15 h =>
    (wi F L (.load false 1 (.c v15)) E0 h fun v16 h =>
    (wi F L (.call i_token_Same [(.c v16), (.c v1)]) E0 h fun v18 h =>
    (wb v18
    (wi F L (.faddr 1 (.c v8)) E0 h fun v20 h =>
    (wi F L (.load false 1 (.c v20)) E0 h fun v21 h =>
    (wi F L (.bsl 1 [(.c v21)]) E0 h fun v22 h =>
    (wi F L (.app 1 16 false (.c v6) (.c v22)) E0 h fun v23 h =>
    (k_field_Get_2 L K N0 (upd (upd (upd (upd (upd (upd (upd (upd (upd (upd (upd (upd (upd e 13 v13) 14 v14) 8 v8) 15 v15) 16 v16) 17 v1) 18 v18) 19 v6) 20 v20) 21 v21) 22 v22) 23 v23) 6 v23) v11 h)))))
    (k_field_Get_2 L K N0 (upd (upd (upd (upd (upd (upd (upd e 13 v13) 14 v14) 8 v8) 15 v15) 16 v16) 17 v1) 18 v18) v11 h)))))))))
def q_field_Get_0 (L : FuncId → List V → V → Prop) (K : V → Heap → Prop) : X → Env → Heap → Prop := (fun x => (seqX (fun e h => k_field_Get_0 L K (e 6) h) (retX c_field_Get.results K)) (X.out 0 x))
def lc_field_Get_0 : C :=
  (.seq (.region [⟨(some 12), none, .bin .lss (.t 11) (.t 10)⟩])
  (.seq (.cond (.t 12)
    .skip
    (.exit 0))
  (.seq (.block 1 (.seq (.region [⟨(some 13), none, .ixaSl 2 (.t 9) (.t 11)⟩, ⟨(some 14), none, .load true 2 (.t 13)⟩, ⟨(some 8), none, .boxz [(.str []), (.str [])]⟩, ⟨none, none, .store 2 (.t 8) (.t 14)⟩])
  (.seq (.region [⟨(some 15), none, .faddr 0 (.t 8)⟩, ⟨(some 16), none, .load false 1 (.t 15)⟩, ⟨(some 17), none, .mv (.t 1)⟩, ⟨(some 18), none, .call i_token_Same [(.t 16), (.t 17)]⟩])
  (.cond (.t 18)
    (.region [⟨(some 19), none, .mv (.t 6)⟩, ⟨(some 20), none, .faddr 1 (.t 8)⟩, ⟨(some 21), none, .load false 1 (.t 20)⟩, ⟨(some 22), none, .bsl 1 [(.t 21)]⟩, ⟨(some 23), none, .app 1 16 false (.t 19) (.t 22)⟩, ⟨(some 6), none, .mv (.t 23)⟩])
    .skip))))
  (.region [⟨(some 24), none, .bin .add (.t 11) (.c (.int .i64 1))⟩, ⟨(some 11), none, .mv (.t 24)⟩]))))
def b_field_Get_0 (L : FuncId → List V → V → Prop) (K : V → Heap → Prop) (N0 : Env → Heap → Prop) (e : Env) (h : Heap) : Prop :=
    (wi F L (.bin .lss (.c (e 11)) (.c (e 10))) E0 h fun v12 h =>
    (wb v12
    (k_field_Get_1 L K N0 (upd e 12 v12) (e 1) (e 6) (e 9) (e 11) h)
    (k_field_Get_0 L K (e 6) h)))
theorem l_field_Get_0 {L : FuncId → List V → V → Prop} {K : V → Heap → Prop} (I : Nat → Env → Heap → Prop) (hr : ∀ n e h, I n e h → b_field_Get_0 L K (fun e' h' => ∃ m, m < n ∧ I m e' h') e h) {n : Nat} {e : Env} {h : Heap} (hi : I n e h) : Wl F L lc_field_Get_0 (q_field_Get_0 L K) e h :=
  wloopp (b := b_field_Get_0 L K) I (fun _ _ _ => by kernel_rfl) hr hi
def p_field_Get (L : FuncId → List V → V → Prop) (K : V → Heap → Prop) (a0 a1 : V) (h : Heap) : Prop :=
    (wi F L (.len 1 (.c a0)) E0 h fun v10 h =>
    (Wl F L lc_field_Get_0 (q_field_Get_0 L K) (upd (upd (upd (upd (upd (upd (enterE [a0, a1]) 4 (.str [])) 5 (.int .i64 0)) 6 .nsl) 9 a0) 10 v10) 11 (.int .i64 0)) h))
theorem run_field_Get {L : FuncId → List V → V → Prop} {K : V → Heap → Prop} {a0 a1 : V} {h : Heap} (hp : p_field_Get L K a0 a1 h) : Cf F L i_field_Get [a0, a1] h K :=
  wcallp F_field_Get (show 2 ≤ 29 by decide) (p := p_field_Get L K a0 a1 h) (by kernel_rfl) hp
def k_gatepostref04_Same_1 (L : FuncId → List V → V → Prop) (K : V → Heap → Prop) (h : Heap) : Prop :=
    (∃ v, some (.bool true) = some v ∧ K v h)
def k_gatepostref04_Same_3 (L : FuncId → List V → V → Prop) (K : V → Heap → Prop) (N0 : Env → Heap → Prop) (e : Env) (v5 : V) (h : Heap) : Prop :=
    (wi F L (.bin .add (.c v5) (.c (.int .i64 1))) E0 h fun v16 h =>
    (N0 (upd (upd (upd e 15 v5) 16 v16) 5 v16) h))
def k_gatepostref04_Same_2 (L : FuncId → List V → V → Prop) (K : V → Heap → Prop) (N0 : Env → Heap → Prop) (e : Env) (v0 v1 v5 : V) (h : Heap) : Prop :=
    (wi F L (.ixaSl 2 (.c v0) (.c v5)) E0 h fun v19 h' => Ext h h' ∧
    (wi F L (.faddr 0 (.c v19)) E0 h' fun v20 h => Ext h' h ∧
    (wi F L (.load false 1 (.c v20)) E0 h fun v21 h' => Ext h h' ∧
    (wi F L (.ixaSl 2 (.c v1) (.c v5)) E0 h' fun v24 h => Ext h' h ∧
    (wi F L (.faddr 0 (.c v24)) E0 h fun v25 h' => Ext h h' ∧
    (wi F L (.load false 1 (.c v25)) E0 h' fun v26 h => Ext h' h ∧
    (wi F L (.bin .neq (.c v21) (.c v26)) E0 h fun v27 h' => Ext h h' ∧
    (wgd v27 false (wi F L (.mv (.c v0)) E0 h') h' fun v29 h =>
    (wgd v27 false (wi F L (.mv (.c v5)) E0 h) h fun v30 h' =>
    (wgd v27 false (wi F L (.ixaSl 2 (.c v29) (.c v30)) E0 h') h' fun v31 h =>
    (wgd v27 false (wi F L (.faddr 1 (.c v31)) E0 h) h fun v32 h' =>
    (wgd v27 false (wi F L (.load false 1 (.c v32)) E0 h') h' fun v33 h =>
    (wgd v27 false (wi F L (.mv (.c v1)) E0 h) h fun v34 h' =>
    (wgd v27 false (wi F L (.mv (.c v5)) E0 h') h' fun v35 h =>
    (wgd v27 false (wi F L (.ixaSl 2 (.c v34) (.c v35)) E0 h) h fun v36 h' =>
    (wgd v27 false (wi F L (.faddr 1 (.c v36)) E0 h') h' fun v37 h =>
    (wgd v27 false (wi F L (.load false 1 (.c v37)) E0 h) h fun v38 h' =>
    (wg v27 false (wi F L (.bin .neq (.c v33) (.c v38)) E0 h') h' fun v39 h =>
    (wi F L (.pick (.c v27) (.c (.bool true)) (.c v39)) E0 h fun v40 h =>
    (wb v40
    (∃ v, some (.bool false) = some v ∧ K v h)
    (k_gatepostref04_Same_3 L K N0 (upd (upd (upd (upd (upd (upd (upd (upd (upd (upd (upd (upd (upd (upd (upd (upd (upd (upd (upd (upd (upd (upd (upd (upd e 17 v0) 18 v5) 19 v19) 20 v20) 21 v21) 22 v1) 23 v5) 24 v24) 25 v25) 26 v26) 27 v27) 28 v27) 29 v29) 30 v30) 31 v31) 32 v32) 33 v33) 34 v34) 35 v35) 36 v36) 37 v37) 38 v38) 39 v39) 40 v40) v5 h)))))))))))))))))))))
def q_gatepostref04_Same_0 (L : FuncId → List V → V → Prop) (K : V → Heap → Prop) : X → Env → Heap → Prop := (fun x => (seqX (fun e h => k_gatepostref04_Same_1 L K  h) (retX c_gatepostref04_Same.results K)) (X.out 0 x))
def lc_gatepostref04_Same_0 : C :=
  (.seq (.seq (.region [⟨(some 11), none, .mv (.t 5)⟩, ⟨(some 12), none, .mv (.t 0)⟩, ⟨(some 13), none, .len 1 (.t 12)⟩, ⟨(some 14), none, .bin .lss (.t 11) (.t 13)⟩])
  (.cond (.t 14)
    .skip
    (.exit 0)))
  (.seq (.block 1 (.seq (.dregion [⟨(some 17), none, .mv (.t 0)⟩, ⟨(some 18), none, .mv (.t 5)⟩, ⟨(some 19), none, .ixaSl 2 (.t 17) (.t 18)⟩, ⟨(some 20), none, .faddr 0 (.t 19)⟩, ⟨(some 21), none, .load false 1 (.t 20)⟩, ⟨(some 22), none, .mv (.t 1)⟩, ⟨(some 23), none, .mv (.t 5)⟩, ⟨(some 24), none, .ixaSl 2 (.t 22) (.t 23)⟩, ⟨(some 25), none, .faddr 0 (.t 24)⟩, ⟨(some 26), none, .load false 1 (.t 25)⟩, ⟨(some 27), none, .bin .neq (.t 21) (.t 26)⟩, ⟨(some 28), none, .mv (.t 27)⟩, ⟨(some 29), (some (28, false)), .mv (.t 0)⟩, ⟨(some 30), (some (28, false)), .mv (.t 5)⟩, ⟨(some 31), (some (28, false)), .ixaSl 2 (.t 29) (.t 30)⟩, ⟨(some 32), (some (28, false)), .faddr 1 (.t 31)⟩, ⟨(some 33), (some (28, false)), .load false 1 (.t 32)⟩, ⟨(some 34), (some (28, false)), .mv (.t 1)⟩, ⟨(some 35), (some (28, false)), .mv (.t 5)⟩, ⟨(some 36), (some (28, false)), .ixaSl 2 (.t 34) (.t 35)⟩, ⟨(some 37), (some (28, false)), .faddr 1 (.t 36)⟩, ⟨(some 38), (some (28, false)), .load false 1 (.t 37)⟩] [⟨(some 39), (some (28, false)), .bin .neq (.t 33) (.t 38)⟩, ⟨(some 40), none, .pick (.t 28) (.c (.bool true)) (.t 39)⟩])
  (.cond (.t 40)
    (.seq (.region [⟨(some 4), none, .mv (.c (.bool false))⟩])
    .ret)
    .skip)))
  (.region [⟨(some 15), none, .mv (.t 5)⟩, ⟨(some 16), none, .bin .add (.t 15) (.c (.int .i64 1))⟩, ⟨(some 5), none, .mv (.t 16)⟩])))
def b_gatepostref04_Same_0 (L : FuncId → List V → V → Prop) (K : V → Heap → Prop) (N0 : Env → Heap → Prop) (e : Env) (h : Heap) : Prop :=
    (wi F L (.len 1 (.c (e 0))) E0 h fun v13 h =>
    (wi F L (.bin .lss (.c (e 5)) (.c v13)) E0 h fun v14 h =>
    (wb v14
    (k_gatepostref04_Same_2 L K N0 (upd (upd (upd (upd e 11 (e 5)) 12 (e 0)) 13 v13) 14 v14) (e 0) (e 1) (e 5) h)
    (k_gatepostref04_Same_1 L K  h))))
theorem l_gatepostref04_Same_0 {L : FuncId → List V → V → Prop} {K : V → Heap → Prop} (I : Nat → Env → Heap → Prop) (hr : ∀ n e h, I n e h → b_gatepostref04_Same_0 L K (fun e' h' => ∃ m, m < n ∧ I m e' h') e h) {n : Nat} {e : Env} {h : Heap} (hi : I n e h) : Wl F L lc_gatepostref04_Same_0 (q_gatepostref04_Same_0 L K) e h :=
  wloopp (b := b_gatepostref04_Same_0 L K) I (fun _ _ _ => by kernel_rfl) hr hi
def k_gatepostref04_Same_0 (L : FuncId → List V → V → Prop) (K : V → Heap → Prop) (e : Env) (h : Heap) : Prop :=
    (Wl F L lc_gatepostref04_Same_0 (q_gatepostref04_Same_0 L K) (upd e 5 (.int .i64 0)) h)
def p_gatepostref04_Same (L : FuncId → List V → V → Prop) (K : V → Heap → Prop) (a0 a1 : V) (h : Heap) : Prop :=
    (wi F L (.len 1 (.c a0)) E0 h fun v7 h =>
    (wi F L (.len 1 (.c a1)) E0 h fun v9 h =>
    (wi F L (.bin .neq (.c v7) (.c v9)) E0 h fun v10 h =>
    (wb v10
    (∃ v, some (.bool false) = some v ∧ K v h)
    (k_gatepostref04_Same_0 L K (upd (upd (upd (upd (upd (upd (enterE [a0, a1]) 4 (.bool false)) 6 a0) 7 v7) 8 a1) 9 v9) 10 v10)  h)))))
theorem run_gatepostref04_Same {L : FuncId → List V → V → Prop} {K : V → Heap → Prop} {a0 a1 : V} {h : Heap} (hp : p_gatepostref04_Same L K a0 a1 h) : Cf F L i_gatepostref04_Same [a0, a1] h K :=
  wcallp F_gatepostref04_Same (show 2 ≤ 41 by decide) (p := p_gatepostref04_Same L K a0 a1 h) (by kernel_rfl) hp
def k_gatepostref04_Get_0 (L : FuncId → List V → V → Prop) (K : V → Heap → Prop) (v6 v7 : V) (h : Heap) : Prop :=
    (∃ v, resultsV h (enterE [v6, v7]) [.tmp 0, .tmp 1] = some v ∧ K v h)
def k_gatepostref04_Get_2 (L : FuncId → List V → V → Prop) (K : V → Heap → Prop) (N0 : Env → Heap → Prop) (e : Env) (v8 : V) (h : Heap) : Prop :=
    (wi F L (.bin .add (.c v8) (.c (.int .i64 1))) E0 h fun v14 h =>
    (N0 (upd (upd (upd e 13 v8) 14 v14) 8 v14) h))
def k_gatepostref04_Get_3 (L : FuncId → List V → V → Prop) (K : V → Heap → Prop) (N0 : Env → Heap → Prop) (e : Env) (v0 v6 v7 v8 : V) (h : Heap) : Prop :=
    (wi F L (.ixaSl 2 (.c v0) (.c v8)) E0 h fun v29 h =>
    (wi F L (.faddr 1 (.c v29)) E0 h fun v30 h =>
    (wi F L (.load false 1 (.c v30)) E0 h fun v31 h =>
    (wi F L (.bin .add (.c v6) (.c v31)) E0 h fun v32 h =>
    (wi F L (.bin .add (.c v7) (.c (.int .i64 1))) E0 h fun v34 h =>
    (k_gatepostref04_Get_2 L K N0 (upd (upd (upd (upd (upd (upd (upd (upd (upd (upd (upd e 26 v6) 27 v0) 28 v8) 29 v29) 30 v30) 31 v31) 32 v32) 6 v32) 33 v7) 34 v34) 7 v34) v8 h))))))
def k_gatepostref04_Get_1 (L : FuncId → List V → V → Prop) (K : V → Heap → Prop) (N0 : Env → Heap → Prop) (e : Env) (v0 v1 v6 v7 v8 : V) (h : Heap) : Prop :=
    (wi F L (.ixaSl 2 (.c v0) (.c v8)) E0 h fun v17 h =>
    (wi F L (.faddr 0 (.c v17)) E0 h fun v18 h =>
    (wi F L (.load false 1 (.c v18)) E0 h fun v19 h =>
    (wi F L (.call i_gatepostref01_Same [(.c v19), (.c v1)]) E0 h fun v21 h =>
    (wb v21
    (wi F L (.bin .gtr (.c v7) (.c (.int .i64 0))) E0 h fun v23 h =>
    (wb v23
    (wi F L (.bin .add (.c v6) (.c (.str [44, 32]))) E0 h fun v25 h =>
    (k_gatepostref04_Get_3 L K N0 (upd (upd (upd (upd (upd (upd (upd (upd (upd (upd (upd (upd e 15 v0) 16 v8) 17 v17) 18 v18) 19 v19) 20 v1) 21 v21) 22 v7) 23 v23) 24 v6) 25 v25) 6 v25) v0 v25 v7 v8 h))
    (k_gatepostref04_Get_3 L K N0 (upd (upd (upd (upd (upd (upd (upd (upd (upd e 15 v0) 16 v8) 17 v17) 18 v18) 19 v19) 20 v1) 21 v21) 22 v7) 23 v23) v0 v6 v7 v8 h)))
    (k_gatepostref04_Get_2 L K N0 (upd (upd (upd (upd (upd (upd (upd e 15 v0) 16 v8) 17 v17) 18 v18) 19 v19) 20 v1) 21 v21) v8 h))))))
def q_gatepostref04_Get_0 (L : FuncId → List V → V → Prop) (K : V → Heap → Prop) : X → Env → Heap → Prop := (fun x => (seqX (fun e h => k_gatepostref04_Get_0 L K (e 6) (e 7) h) (retX c_gatepostref04_Get.results K)) (X.out 0 x))
def lc_gatepostref04_Get_0 : C :=
  (.seq (.seq (.region [⟨(some 9), none, .mv (.t 8)⟩, ⟨(some 10), none, .mv (.t 0)⟩, ⟨(some 11), none, .len 1 (.t 10)⟩, ⟨(some 12), none, .bin .lss (.t 9) (.t 11)⟩])
  (.cond (.t 12)
    .skip
    (.exit 0)))
  (.seq (.block 1 (.seq (.region [⟨(some 15), none, .mv (.t 0)⟩, ⟨(some 16), none, .mv (.t 8)⟩, ⟨(some 17), none, .ixaSl 2 (.t 15) (.t 16)⟩, ⟨(some 18), none, .faddr 0 (.t 17)⟩, ⟨(some 19), none, .load false 1 (.t 18)⟩, ⟨(some 20), none, .mv (.t 1)⟩, ⟨(some 21), none, .call i_gatepostref01_Same [(.t 19), (.t 20)]⟩])
  (.cond (.t 21)
    (.seq (.seq (.region [⟨(some 22), none, .mv (.t 7)⟩, ⟨(some 23), none, .bin .gtr (.t 22) (.c (.int .i64 0))⟩])
    (.cond (.t 23)
      (.region [⟨(some 24), none, .mv (.t 6)⟩, ⟨(some 25), none, .bin .add (.t 24) (.c (.str [44, 32]))⟩, ⟨(some 6), none, .mv (.t 25)⟩])
      .skip))
    (.seq (.region [⟨(some 26), none, .mv (.t 6)⟩, ⟨(some 27), none, .mv (.t 0)⟩, ⟨(some 28), none, .mv (.t 8)⟩, ⟨(some 29), none, .ixaSl 2 (.t 27) (.t 28)⟩, ⟨(some 30), none, .faddr 1 (.t 29)⟩, ⟨(some 31), none, .load false 1 (.t 30)⟩, ⟨(some 32), none, .bin .add (.t 26) (.t 31)⟩, ⟨(some 6), none, .mv (.t 32)⟩])
    (.region [⟨(some 33), none, .mv (.t 7)⟩, ⟨(some 34), none, .bin .add (.t 33) (.c (.int .i64 1))⟩, ⟨(some 7), none, .mv (.t 34)⟩])))
    .skip)))
  (.region [⟨(some 13), none, .mv (.t 8)⟩, ⟨(some 14), none, .bin .add (.t 13) (.c (.int .i64 1))⟩, ⟨(some 8), none, .mv (.t 14)⟩])))
def b_gatepostref04_Get_0 (L : FuncId → List V → V → Prop) (K : V → Heap → Prop) (N0 : Env → Heap → Prop) (e : Env) (h : Heap) : Prop :=
    (wi F L (.len 1 (.c (e 0))) E0 h fun v11 h =>
    (wi F L (.bin .lss (.c (e 8)) (.c v11)) E0 h fun v12 h =>
    (wb v12
    (k_gatepostref04_Get_1 L K N0 (upd (upd (upd (upd e 9 (e 8)) 10 (e 0)) 11 v11) 12 v12) (e 0) (e 1) (e 6) (e 7) (e 8) h)
    (k_gatepostref04_Get_0 L K (e 6) (e 7) h))))
theorem l_gatepostref04_Get_0 {L : FuncId → List V → V → Prop} {K : V → Heap → Prop} (I : Nat → Env → Heap → Prop) (hr : ∀ n e h, I n e h → b_gatepostref04_Get_0 L K (fun e' h' => ∃ m, m < n ∧ I m e' h') e h) {n : Nat} {e : Env} {h : Heap} (hi : I n e h) : Wl F L lc_gatepostref04_Get_0 (q_gatepostref04_Get_0 L K) e h :=
  wloopp (b := b_gatepostref04_Get_0 L K) I (fun _ _ _ => by kernel_rfl) hr hi
def p_gatepostref04_Get (L : FuncId → List V → V → Prop) (K : V → Heap → Prop) (a0 a1 : V) (h : Heap) : Prop :=
    (Wl F L lc_gatepostref04_Get_0 (q_gatepostref04_Get_0 L K) (upd (upd (upd (upd (upd (enterE [a0, a1]) 4 (.str [])) 5 (.int .i64 0)) 6 (.str [])) 7 (.int .i64 0)) 8 (.int .i64 0)) h)
theorem run_gatepostref04_Get {L : FuncId → List V → V → Prop} {K : V → Heap → Prop} {a0 a1 : V} {h : Heap} (hp : p_gatepostref04_Get L K a0 a1 h) : Cf F L i_gatepostref04_Get [a0, a1] h K :=
  wcallp F_gatepostref04_Get (show 2 ≤ 37 by decide) (p := p_gatepostref04_Get L K a0 a1 h) (by kernel_rfl) hp
def k_gatepostref04_Names_1 (L : FuncId → List V → V → Prop) (K : V → Heap → Prop) (v10 : V) (h : Heap) : Prop :=
    (∃ v, resultsV h (enterE [v10, (.bool true)]) [.tmp 0, .tmp 1] = some v ∧ K v h)
def k_gatepostref04_Names_3 (L : FuncId → List V → V → Prop) (K : V → Heap → Prop) (N0 : Env → Heap → Prop) (e : Env) (v11 : V) (h : Heap) : Prop :=
    (wi F L (.bin .add (.c v11) (.c (.int .i64 1))) E0 h fun v30 h =>
    (N0 (upd (upd (upd e 29 v11) 30 v30) 11 v30) h))
def k_gatepostref04_Names_4 (L : FuncId → List V → V → Prop) (K : V → Heap → Prop) (N0 : Env → Heap → Prop) (e : Env) (v8 v10 v11 : V) (h : Heap) : Prop :=
    (wi F L (.ixaSl 1 (.c v8) (.c v11)) E0 h fun v40 h =>
    (wi F L (.load false 1 (.c v40)) E0 h fun v41 h =>
    (wi F L (.call i_gatepostref01_Lower [(.c v41)]) E0 h fun v42 h =>
    (wi F L (.bsl 1 [(.c v42)]) E0 h fun v43 h =>
    (wi F L (.app 1 16 false (.c v10) (.c v43)) E0 h fun v44 h =>
    (k_gatepostref04_Names_3 L K N0 (upd (upd (upd (upd (upd (upd (upd (upd (upd e 37 v10) 38 v8) 39 v11) 40 v40) 41 v41) 42 v42) 43 v43) 44 v44) 10 v44) v11 h))))))
def k_gatepostref04_Names_2 (L : FuncId → List V → V → Prop) (K : V → Heap → Prop) (N0 : Env → Heap → Prop) (e : Env) (v8 v10 v11 : V) (h : Heap) : Prop :=
    (wi F L (.ixaSl 1 (.c v8) (.c v11)) E0 h fun v33 h =>
    (wi F L (.load false 1 (.c v33)) E0 h fun v34 h =>
    (wi F L (.call i_gatepostref01_Is [(.c v34)]) E0 h fun v35 h =>
    (wi F L (.un .not (.c v35)) E0 h fun v36 h =>
    (wb v36
    (∃ v, resultsV h (enterE [.nsl, (.bool false)]) [.tmp 0, .tmp 1] = some v ∧ K v h)
    (k_gatepostref04_Names_4 L K N0 (upd (upd (upd (upd (upd (upd e 31 v8) 32 v11) 33 v33) 34 v34) 35 v35) 36 v36) v8 v10 v11 h))))))
def q_gatepostref04_Names_0 (L : FuncId → List V → V → Prop) (K : V → Heap → Prop) : X → Env → Heap → Prop := (fun x => (seqX (fun e h => k_gatepostref04_Names_1 L K (e 10) h) (retX c_gatepostref04_Names.results K)) (X.out 0 x))
def lc_gatepostref04_Names_0 : C :=
  (.seq (.seq (.region [⟨(some 25), none, .mv (.t 11)⟩, ⟨(some 26), none, .mv (.t 8)⟩, ⟨(some 27), none, .len 1 (.t 26)⟩, ⟨(some 28), none, .bin .lss (.t 25) (.t 27)⟩])
  (.cond (.t 28)
    .skip
    (.exit 0)))
  (.seq (.block 1 (.seq (.seq (.region [⟨(some 31), none, .mv (.t 8)⟩, ⟨(some 32), none, .mv (.t 11)⟩, ⟨(some 33), none, .ixaSl 1 (.t 31) (.t 32)⟩, ⟨(some 34), none, .load false 1 (.t 33)⟩, ⟨(some 35), none, .call i_gatepostref01_Is [(.t 34)]⟩, ⟨(some 36), none, .un .not (.t 35)⟩])
  (.cond (.t 36)
    (.seq (.region [⟨(some 4), none, .mv (.c .nsl)⟩, ⟨(some 5), none, .mv (.c (.bool false))⟩])
    .ret)
    .skip))
  (.region [⟨(some 37), none, .mv (.t 10)⟩, ⟨(some 38), none, .mv (.t 8)⟩, ⟨(some 39), none, .mv (.t 11)⟩, ⟨(some 40), none, .ixaSl 1 (.t 38) (.t 39)⟩, ⟨(some 41), none, .load false 1 (.t 40)⟩, ⟨(some 42), none, .call i_gatepostref01_Lower [(.t 41)]⟩, ⟨(some 43), none, .bsl 1 [(.t 42)]⟩, ⟨(some 44), none, .app 1 16 false (.t 37) (.t 43)⟩, ⟨(some 10), none, .mv (.t 44)⟩])))
  (.region [⟨(some 29), none, .mv (.t 11)⟩, ⟨(some 30), none, .bin .add (.t 29) (.c (.int .i64 1))⟩, ⟨(some 11), none, .mv (.t 30)⟩])))
def b_gatepostref04_Names_0 (L : FuncId → List V → V → Prop) (K : V → Heap → Prop) (N0 : Env → Heap → Prop) (e : Env) (h : Heap) : Prop :=
    (wi F L (.len 1 (.c (e 8))) E0 h fun v27 h =>
    (wi F L (.bin .lss (.c (e 11)) (.c v27)) E0 h fun v28 h =>
    (wb v28
    (k_gatepostref04_Names_2 L K N0 (upd (upd (upd (upd e 25 (e 11)) 26 (e 8)) 27 v27) 28 v28) (e 8) (e 10) (e 11) h)
    (k_gatepostref04_Names_1 L K (e 10) h))))
theorem l_gatepostref04_Names_0 {L : FuncId → List V → V → Prop} {K : V → Heap → Prop} (I : Nat → Env → Heap → Prop) (hr : ∀ n e h, I n e h → b_gatepostref04_Names_0 L K (fun e' h' => ∃ m, m < n ∧ I m e' h') e h) {n : Nat} {e : Env} {h : Heap} (hi : I n e h) : Wl F L lc_gatepostref04_Names_0 (q_gatepostref04_Names_0 L K) e h :=
  wloopp (b := b_gatepostref04_Names_0 L K) I (fun _ _ _ => by kernel_rfl) hr hi
def k_gatepostref04_Names_0 (L : FuncId → List V → V → Prop) (K : V → Heap → Prop) (e : Env) (h : Heap) : Prop :=
    (Wl F L lc_gatepostref04_Names_0 (q_gatepostref04_Names_0 L K) (upd (upd e 10 .nsl) 11 (.int .i64 0)) h)
def p_gatepostref04_Names (L : FuncId → List V → V → Prop) (K : V → Heap → Prop) (a0 a1 : V) (h : Heap) : Prop :=
    (wi F L (.call i_gatepostref04_Get [(.c a0), (.c a1)]) E0 h fun v15 h =>
    (wi F L (.ext 0 (.c v15)) E0 h fun v16 h =>
    (wi F L (.ext 1 (.c v15)) E0 h fun v17 h =>
    (wi F L (.call i_gatepostref01_Split [(.c v16)]) E0 h fun v20 h =>
    (wi F L (.ext 0 (.c v20)) E0 h fun v21 h =>
    (wi F L (.ext 1 (.c v20)) E0 h fun v22 h =>
    (wi F L (.un .not (.c v22)) E0 h fun v24 h =>
    (wb v24
    (∃ v, resultsV h (enterE [.nsl, (.bool false)]) [.tmp 0, .tmp 1] = some v ∧ K v h)
    (k_gatepostref04_Names_0 L K (upd (upd (upd (upd (upd (upd (upd (upd (upd (upd (upd (upd (upd (upd (upd (upd (upd (upd (upd (enterE [a0, a1]) 4 .nsl) 5 (.bool false)) 13 a0) 14 a1) 15 v15) 12 v15) 16 v16) 17 v17) 6 v16) 7 v17) 19 v16) 20 v20) 18 v20) 21 v21) 22 v22) 8 v21) 9 v22) 23 v22) 24 v24)  h)))))))))
theorem run_gatepostref04_Names {L : FuncId → List V → V → Prop} {K : V → Heap → Prop} {a0 a1 : V} {h : Heap} (hp : p_gatepostref04_Names L K a0 a1 h) : Cf F L i_gatepostref04_Names [a0, a1] h K :=
  wcallp F_gatepostref04_Names (show 2 ≤ 46 by decide) (p := p_gatepostref04_Names L K a0 a1 h) (by kernel_rfl) hp
def k_gatepostlaw04_texts_1 (L : FuncId → List V → V → Prop) (K : V → Heap → Prop) (h : Heap) : Prop :=
    (∃ v, some (.bool true) = some v ∧ K v h)
def k_gatepostlaw04_texts_3 (L : FuncId → List V → V → Prop) (K : V → Heap → Prop) (N0 : Env → Heap → Prop) (e : Env) (v5 : V) (h : Heap) : Prop :=
    (wi F L (.bin .add (.c v5) (.c (.int .i64 1))) E0 h fun v16 h =>
    (N0 (upd (upd (upd e 15 v5) 16 v16) 5 v16) h))
def k_gatepostlaw04_texts_2 (L : FuncId → List V → V → Prop) (K : V → Heap → Prop) (N0 : Env → Heap → Prop) (e : Env) (v0 v1 v5 : V) (h : Heap) : Prop :=
    (wi F L (.ixaSl 1 (.c v0) (.c v5)) E0 h fun v19 h' => Ext h h' ∧
    (wi F L (.load false 1 (.c v19)) E0 h' fun v20 h => Ext h' h ∧
    (wi F L (.ixaSl 1 (.c v1) (.c v5)) E0 h fun v23 h' => Ext h h' ∧
    (wi F L (.load false 1 (.c v23)) E0 h' fun v24 h => Ext h' h ∧
    (wi F L (.bin .neq (.c v20) (.c v24)) E0 h fun v25 h =>
    (wb v25
    (∃ v, some (.bool false) = some v ∧ K v h)
    (k_gatepostlaw04_texts_3 L K N0 (upd (upd (upd (upd (upd (upd (upd (upd (upd e 17 v0) 18 v5) 19 v19) 20 v20) 21 v1) 22 v5) 23 v23) 24 v24) 25 v25) v5 h)))))))
def q_gatepostlaw04_texts_0 (L : FuncId → List V → V → Prop) (K : V → Heap → Prop) : X → Env → Heap → Prop := (fun x => (seqX (fun e h => k_gatepostlaw04_texts_1 L K  h) (retX c_gatepostlaw04_texts.results K)) (X.out 0 x))
def lc_gatepostlaw04_texts_0 : C :=
  (.seq (.seq (.region [⟨(some 11), none, .mv (.t 5)⟩, ⟨(some 12), none, .mv (.t 0)⟩, ⟨(some 13), none, .len 1 (.t 12)⟩, ⟨(some 14), none, .bin .lss (.t 11) (.t 13)⟩])
  (.cond (.t 14)
    .skip
    (.exit 0)))
  (.seq (.block 1 (.seq (.dregion [⟨(some 17), none, .mv (.t 0)⟩, ⟨(some 18), none, .mv (.t 5)⟩, ⟨(some 19), none, .ixaSl 1 (.t 17) (.t 18)⟩, ⟨(some 20), none, .load false 1 (.t 19)⟩, ⟨(some 21), none, .mv (.t 1)⟩, ⟨(some 22), none, .mv (.t 5)⟩, ⟨(some 23), none, .ixaSl 1 (.t 21) (.t 22)⟩, ⟨(some 24), none, .load false 1 (.t 23)⟩] [⟨(some 25), none, .bin .neq (.t 20) (.t 24)⟩])
  (.cond (.t 25)
    (.seq (.region [⟨(some 4), none, .mv (.c (.bool false))⟩])
    .ret)
    .skip)))
  (.region [⟨(some 15), none, .mv (.t 5)⟩, ⟨(some 16), none, .bin .add (.t 15) (.c (.int .i64 1))⟩, ⟨(some 5), none, .mv (.t 16)⟩])))
def b_gatepostlaw04_texts_0 (L : FuncId → List V → V → Prop) (K : V → Heap → Prop) (N0 : Env → Heap → Prop) (e : Env) (h : Heap) : Prop :=
    (wi F L (.len 1 (.c (e 0))) E0 h fun v13 h =>
    (wi F L (.bin .lss (.c (e 5)) (.c v13)) E0 h fun v14 h =>
    (wb v14
    (k_gatepostlaw04_texts_2 L K N0 (upd (upd (upd (upd e 11 (e 5)) 12 (e 0)) 13 v13) 14 v14) (e 0) (e 1) (e 5) h)
    (k_gatepostlaw04_texts_1 L K  h))))
theorem l_gatepostlaw04_texts_0 {L : FuncId → List V → V → Prop} {K : V → Heap → Prop} (I : Nat → Env → Heap → Prop) (hr : ∀ n e h, I n e h → b_gatepostlaw04_texts_0 L K (fun e' h' => ∃ m, m < n ∧ I m e' h') e h) {n : Nat} {e : Env} {h : Heap} (hi : I n e h) : Wl F L lc_gatepostlaw04_texts_0 (q_gatepostlaw04_texts_0 L K) e h :=
  wloopp (b := b_gatepostlaw04_texts_0 L K) I (fun _ _ _ => by kernel_rfl) hr hi
def k_gatepostlaw04_texts_0 (L : FuncId → List V → V → Prop) (K : V → Heap → Prop) (e : Env) (h : Heap) : Prop :=
    (Wl F L lc_gatepostlaw04_texts_0 (q_gatepostlaw04_texts_0 L K) (upd e 5 (.int .i64 0)) h)
def p_gatepostlaw04_texts (L : FuncId → List V → V → Prop) (K : V → Heap → Prop) (a0 a1 : V) (h : Heap) : Prop :=
    (wi F L (.len 1 (.c a0)) E0 h fun v7 h =>
    (wi F L (.len 1 (.c a1)) E0 h fun v9 h =>
    (wi F L (.bin .neq (.c v7) (.c v9)) E0 h fun v10 h =>
    (wb v10
    (∃ v, some (.bool false) = some v ∧ K v h)
    (k_gatepostlaw04_texts_0 L K (upd (upd (upd (upd (upd (upd (enterE [a0, a1]) 4 (.bool false)) 6 a0) 7 v7) 8 a1) 9 v9) 10 v10)  h)))))
theorem run_gatepostlaw04_texts {L : FuncId → List V → V → Prop} {K : V → Heap → Prop} {a0 a1 : V} {h : Heap} (hp : p_gatepostlaw04_texts L K a0 a1 h) : Cf F L i_gatepostlaw04_texts [a0, a1] h K :=
  wcallp F_gatepostlaw04_texts (show 2 ≤ 26 by decide) (p := p_gatepostlaw04_texts L K a0 a1 h) (by kernel_rfl) hp
def p_field_Del (L : FuncId → List V → V → Prop) (K : V → Heap → Prop) (a0 a1 : V) (h : Heap) : Prop :=
    (wi F L (.bsl 1 [(.c a1)]) E0 h fun v7 h =>
    (wi F L (.call i_field_without [(.c a0), (.c v7)]) E0 h fun v8 h =>
    (∃ v, some v8 = some v ∧ K v h)))
theorem run_field_Del {L : FuncId → List V → V → Prop} {K : V → Heap → Prop} {a0 a1 : V} {h : Heap} (hp : p_field_Del L K a0 a1 h) : Cf F L i_field_Del [a0, a1] h K :=
  wcallp F_field_Del (show 2 ≤ 9 by decide) (p := p_field_Del L K a0 a1 h) (by kernel_rfl) hp
def k_gatepostref04_Del_0 (L : FuncId → List V → V → Prop) (K : V → Heap → Prop) (v5 : V) (h : Heap) : Prop :=
    (∃ v, some v5 = some v ∧ K v h)
def k_gatepostref04_Del_2 (L : FuncId → List V → V → Prop) (K : V → Heap → Prop) (N0 : Env → Heap → Prop) (e : Env) (v6 : V) (h : Heap) : Prop :=
    (wi F L (.bin .add (.c v6) (.c (.int .i64 1))) E0 h fun v12 h =>
    (N0 (upd (upd (upd e 11 v6) 12 v12) 6 v12) h))
def k_gatepostref04_Del_1 (L : FuncId → List V → V → Prop) (K : V → Heap → Prop) (N0 : Env → Heap → Prop) (e : Env) (v0 v1 v5 v6 : V) (h : Heap) : Prop :=
    (wi F L (.ixaSl 2 (.c v0) (.c v6)) E0 h fun v15 h =>
    (wi F L (.faddr 0 (.c v15)) E0 h fun v16 h =>
    (wi F L (.load false 1 (.c v16)) E0 h fun v17 h =>
    (wi F L (.call i_gatepostref01_Same [(.c v17), (.c v1)]) E0 h fun v19 h =>
    (wi F L (.un .not (.c v19)) E0 h fun v20 h =>
    (wb v20
    (wi F L (.ixaSl 2 (.c v0) (.c v6)) E0 h fun v24 h =>
    (wi F L (.load true 2 (.c v24)) E0 h fun v25 h =>
    (wi F L (.bsl 2 [(.c v25)]) E0 h fun v26 h =>
    (wi F L (.app 2 32 false (.c v5) (.c v26)) E0 h fun v27 h =>
    (k_gatepostref04_Del_2 L K N0 (upd (upd (upd (upd (upd (upd (upd (upd (upd (upd (upd (upd (upd (upd (upd (upd e 13 v0) 14 v6) 15 v15) 16 v16) 17 v17) 18 v1) 19 v19) 20 v20) 21 v5) 22 v0) 23 v6) 24 v24) 25 v25) 26 v26) 27 v27) 5 v27) v6 h)))))
    (k_gatepostref04_Del_2 L K N0 (upd (upd (upd (upd (upd (upd (upd (upd e 13 v0) 14 v6) 15 v15) 16 v16) 17 v17) 18 v1) 19 v19) 20 v20) v6 h)))))))
def q_gatepostref04_Del_0 (L : FuncId → List V → V → Prop) (K : V → Heap → Prop) : X → Env → Heap → Prop := (fun x => (seqX (fun e h => k_gatepostref04_Del_0 L K (e 5) h) (retX c_gatepostref04_Del.results K)) (X.out 0 x))
def lc_gatepostref04_Del_0 : C :=
  (.seq (.seq (.region [⟨(some 7), none, .mv (.t 6)⟩, ⟨(some 8), none, .mv (.t 0)⟩, ⟨(some 9), none, .len 1 (.t 8)⟩, ⟨(some 10), none, .bin .lss (.t 7) (.t 9)⟩])
  (.cond (.t 10)
    .skip
    (.exit 0)))
  (.seq (.block 1 (.seq (.region [⟨(some 13), none, .mv (.t 0)⟩, ⟨(some 14), none, .mv (.t 6)⟩, ⟨(some 15), none, .ixaSl 2 (.t 13) (.t 14)⟩, ⟨(some 16), none, .faddr 0 (.t 15)⟩, ⟨(some 17), none, .load false 1 (.t 16)⟩, ⟨(some 18), none, .mv (.t 1)⟩, ⟨(some 19), none, .call i_gatepostref01_Same [(.t 17), (.t 18)]⟩, ⟨(some 20), none, .un .not (.t 19)⟩])
  (.cond (.t 20)
    (.region [⟨(some 21), none, .mv (.t 5)⟩, ⟨(some 22), none, .mv (.t 0)⟩, ⟨(some 23), none, .mv (.t 6)⟩, ⟨(some 24), none, .ixaSl 2 (.t 22) (.t 23)⟩, ⟨(some 25), none, .load true 2 (.t 24)⟩, ⟨(some 26), none, .bsl 2 [(.t 25)]⟩, ⟨(some 27), none, .app 2 32 false (.t 21) (.t 26)⟩, ⟨(some 5), none, .mv (.t 27)⟩])
    .skip)))
  (.region [⟨(some 11), none, .mv (.t 6)⟩, ⟨(some 12), none, .bin .add (.t 11) (.c (.int .i64 1))⟩, ⟨(some 6), none, .mv (.t 12)⟩])))
def b_gatepostref04_Del_0 (L : FuncId → List V → V → Prop) (K : V → Heap → Prop) (N0 : Env → Heap → Prop) (e : Env) (h : Heap) : Prop :=
    (wi F L (.len 1 (.c (e 0))) E0 h fun v9 h =>
    (wi F L (.bin .lss (.c (e 6)) (.c v9)) E0 h fun v10 h =>
    (wb v10
    (k_gatepostref04_Del_1 L K N0 (upd (upd (upd (upd e 7 (e 6)) 8 (e 0)) 9 v9) 10 v10) (e 0) (e 1) (e 5) (e 6) h)
    (k_gatepostref04_Del_0 L K (e 5) h))))
theorem l_gatepostref04_Del_0 {L : FuncId → List V → V → Prop} {K : V → Heap → Prop} (I : Nat → Env → Heap → Prop) (hr : ∀ n e h, I n e h → b_gatepostref04_Del_0 L K (fun e' h' => ∃ m, m < n ∧ I m e' h') e h) {n : Nat} {e : Env} {h : Heap} (hi : I n e h) : Wl F L lc_gatepostref04_Del_0 (q_gatepostref04_Del_0 L K) e h :=
  wloopp (b := b_gatepostref04_Del_0 L K) I (fun _ _ _ => by kernel_rfl) hr hi
def p_gatepostref04_Del (L : FuncId → List V → V → Prop) (K : V → Heap → Prop) (a0 a1 : V) (h : Heap) : Prop :=
    (Wl F L lc_gatepostref04_Del_0 (q_gatepostref04_Del_0 L K) (upd (upd (upd (enterE [a0, a1]) 4 .nsl) 5 .nsl) 6 (.int .i64 0)) h)
theorem run_gatepostref04_Del {L : FuncId → List V → V → Prop} {K : V → Heap → Prop} {a0 a1 : V} {h : Heap} (hp : p_gatepostref04_Del L K a0 a1 h) : Cf F L i_gatepostref04_Del [a0, a1] h K :=
  wcallp F_gatepostref04_Del (show 2 ≤ 29 by decide) (p := p_gatepostref04_Del L K a0 a1 h) (by kernel_rfl) hp
def p_field_Set (L : FuncId → List V → V → Prop) (K : V → Heap → Prop) (a0 a1 a2 : V) (h : Heap) : Prop :=
    (wi F L (.bsl 1 [(.c a1)]) E0 h fun v9 h =>
    (wi F L (.call i_field_without [(.c a0), (.c v9)]) E0 h fun v10 h =>
    (wi F L (.build [(.str []), (.str [])] [(0, 1, (.c a1)), (1, 1, (.c a2))]) E0 h fun v13 h =>
    (wi F L (.bsl 2 [(.c v13)]) E0 h fun v14 h =>
    (wi F L (.app 2 32 false (.c v10) (.c v14)) E0 h fun v15 h =>
    (∃ v, some v15 = some v ∧ K v h))))))
theorem run_field_Set {L : FuncId → List V → V → Prop} {K : V → Heap → Prop} {a0 a1 a2 : V} {h : Heap} (hp : p_field_Set L K a0 a1 a2 h) : Cf F L i_field_Set [a0, a1, a2] h K :=
  wcallp F_field_Set (show 3 ≤ 16 by decide) (p := p_field_Set L K a0 a1 a2 h) (by kernel_rfl) hp
def p_gatepostref04_Set (L : FuncId → List V → V → Prop) (K : V → Heap → Prop) (a0 a1 a2 : V) (h : Heap) : Prop :=
    (wi F L (.call i_gatepostref04_Del [(.c a0), (.c a1)]) E0 h fun v9 h =>
    (wi F L (.build [(.str []), (.str [])] [(0, 1, (.c a1)), (1, 1, (.c a2))]) E0 h fun v12 h =>
    (wi F L (.bsl 2 [(.c v12)]) E0 h fun v13 h =>
    (wi F L (.app 2 32 false (.c v9) (.c v13)) E0 h fun v14 h =>
    (∃ v, some v14 = some v ∧ K v h)))))
theorem run_gatepostref04_Set {L : FuncId → List V → V → Prop} {K : V → Heap → Prop} {a0 a1 a2 : V} {h : Heap} (hp : p_gatepostref04_Set L K a0 a1 a2 h) : Cf F L i_gatepostref04_Set [a0, a1, a2] h K :=
  wcallp F_gatepostref04_Set (show 3 ≤ 15 by decide) (p := p_gatepostref04_Set L K a0 a1 a2 h) (by kernel_rfl) hp
def k_gatepostref04_Strip_0 (L : FuncId → List V → V → Prop) (K : V → Heap → Prop) (v6 : V) (h : Heap) : Prop :=
    (wi F L (.app 2 32 false (.c .nsl) (.c v6)) E0 h fun v32 h =>
    (∃ v, some v32 = some v ∧ K v h))
def k_gatepostref04_Strip_2 (L : FuncId → List V → V → Prop) (K : V → Heap → Prop) (N0 : Env → Heap → Prop) (e : Env) (v7 : V) (h : Heap) : Prop :=
    (wi F L (.bin .add (.c v7) (.c (.int .i64 1))) E0 h fun v23 h =>
    (N0 (upd (upd (upd e 22 v7) 23 v23) 7 v23) h))
def k_gatepostref04_Strip_1 (L : FuncId → List V → V → Prop) (K : V → Heap → Prop) (N0 : Env → Heap → Prop) (e : Env) (v5 v6 v7 : V) (h : Heap) : Prop :=
    (wi F L (.ixaSl 1 (.c v5) (.c v7)) E0 h fun v27 h =>
    (wi F L (.load false 1 (.c v27)) E0 h fun v28 h =>
    (wi F L (.call i_gatepostref04_Del [(.c v6), (.c v28)]) E0 h fun v29 h =>
    (k_gatepostref04_Strip_2 L K N0 (upd (upd (upd (upd (upd (upd (upd e 24 v6) 25 v5) 26 v7) 27 v27) 28 v28) 29 v29) 6 v29) v7 h))))
def q_gatepostref04_Strip_0 (L : FuncId → List V → V → Prop) (K : V → Heap → Prop) : X → Env → Heap → Prop := (fun x => (seqX (fun e h => k_gatepostref04_Strip_0 L K (e 6) h) (retX c_gatepostref04_Strip.results K)) (X.out 0 x))
def lc_gatepostref04_Strip_0 : C :=
  (.seq (.seq (.region [⟨(some 18), none, .mv (.t 7)⟩, ⟨(some 19), none, .mv (.t 5)⟩, ⟨(some 20), none, .len 1 (.t 19)⟩, ⟨(some 21), none, .bin .lss (.t 18) (.t 20)⟩])
  (.cond (.t 21)
    .skip
    (.exit 0)))
  (.seq (.block 1 (.region [⟨(some 24), none, .mv (.t 6)⟩, ⟨(some 25), none, .mv (.t 5)⟩, ⟨(some 26), none, .mv (.t 7)⟩, ⟨(some 27), none, .ixaSl 1 (.t 25) (.t 26)⟩, ⟨(some 28), none, .load false 1 (.t 27)⟩, ⟨(some 29), none, .call i_gatepostref04_Del [(.t 24), (.t 28)]⟩, ⟨(some 6), none, .mv (.t 29)⟩]))
  (.region [⟨(some 22), none, .mv (.t 7)⟩, ⟨(some 23), none, .bin .add (.t 22) (.c (.int .i64 1))⟩, ⟨(some 7), none, .mv (.t 23)⟩])))
def b_gatepostref04_Strip_0 (L : FuncId → List V → V → Prop) (K : V → Heap → Prop) (N0 : Env → Heap → Prop) (e : Env) (h : Heap) : Prop :=
    (wi F L (.len 1 (.c (e 5))) E0 h fun v20 h =>
    (wi F L (.bin .lss (.c (e 7)) (.c v20)) E0 h fun v21 h =>
    (wb v21
    (k_gatepostref04_Strip_1 L K N0 (upd (upd (upd (upd e 18 (e 7)) 19 (e 5)) 20 v20) 21 v21) (e 5) (e 6) (e 7) h)
    (k_gatepostref04_Strip_0 L K (e 6) h))))
theorem l_gatepostref04_Strip_0 {L : FuncId → List V → V → Prop} {K : V → Heap → Prop} (I : Nat → Env → Heap → Prop) (hr : ∀ n e h, I n e h → b_gatepostref04_Strip_0 L K (fun e' h' => ∃ m, m < n ∧ I m e' h') e h) {n : Nat} {e : Env} {h : Heap} (hi : I n e h) : Wl F L lc_gatepostref04_Strip_0 (q_gatepostref04_Strip_0 L K) e h :=
  wloopp (b := b_gatepostref04_Strip_0 L K) I (fun _ _ _ => by kernel_rfl) hr hi
def p_gatepostref04_Strip (L : FuncId → List V → V → Prop) (K : V → Heap → Prop) (a0 : V) (h : Heap) : Prop :=
    (wi F L (.call i_gatepostref04_Names [(.c a0), (.c (.str [99, 111, 110, 110, 101, 99, 116, 105, 111, 110]))]) E0 h fun v11 h =>
    (wi F L (.ext 0 (.c v11)) E0 h fun v12 h =>
    (wi F L (.ext 1 (.c v11)) E0 h fun v13 h =>
    (wi F L (.bsl 1 [(.c (.str [99, 111, 110, 110, 101, 99, 116, 105, 111, 110])), (.c (.str [107, 101, 101, 112, 45, 97, 108, 105, 118, 101])), (.c (.str [112, 114, 111, 120, 121, 45, 99, 111, 110, 110, 101, 99, 116, 105, 111, 110])), (.c (.str [116, 101])), (.c (.str [116, 114, 97, 105, 108, 101, 114])), (.c (.str [116, 114, 97, 110, 115, 102, 101, 114, 45, 101, 110, 99, 111, 100, 105, 110, 103])), (.c (.str [117, 112, 103, 114, 97, 100, 101]))]) E0 h fun v14 h =>
    (wi F L (.app 1 16 false (.c v14) (.c v12)) E0 h fun v16 h =>
    (Wl F L lc_gatepostref04_Strip_0 (q_gatepostref04_Strip_0 L K) (upd (upd (upd (upd (upd (upd (upd (upd (upd (upd (upd (upd (upd (upd (upd (enterE [a0]) 2 .nsl) 10 a0) 11 v11) 9 v11) 12 v12) 13 v13) 3 v12) 4 v13) 14 v14) 15 v12) 16 v16) 5 v16) 17 a0) 6 a0) 7 (.int .i64 0)) h))))))
theorem run_gatepostref04_Strip {L : FuncId → List V → V → Prop} {K : V → Heap → Prop} {a0 : V} {h : Heap} (hp : p_gatepostref04_Strip L K a0 h) : Cf F L i_gatepostref04_Strip [a0] h K :=
  wcallp F_gatepostref04_Strip (show 1 ≤ 33 by decide) (p := p_gatepostref04_Strip L K a0 h) (by kernel_rfl) hp
def p_strings_Cut (L : FuncId → List V → V → Prop) (K : V → Heap → Prop) (a0 a1 : V) (h : Heap) : Prop :=
    (wi F L (.call i_internal_stringslite_Cut [(.c a0), (.c a1)]) E0 h fun v9 h =>
    (wi F L (.ext 0 (.c v9)) E0 h fun v10 h =>
    (wi F L (.ext 1 (.c v9)) E0 h fun v11 h =>
    (wi F L (.ext 2 (.c v9)) E0 h fun v12 h =>
    (∃ v, resultsV h (enterE [v10, v11, v12]) [.tmp 0, .tmp 1, .tmp 2] = some v ∧ K v h)))))
theorem run_strings_Cut {L : FuncId → List V → V → Prop} {K : V → Heap → Prop} {a0 a1 : V} {h : Heap} (hp : p_strings_Cut L K a0 a1 h) : Cf F L i_strings_Cut [a0, a1] h K :=
  wcallp F_strings_Cut (show 2 ≤ 13 by decide) (p := p_strings_Cut L K a0 a1 h) (by kernel_rfl) hp
def p_token_Trim (L : FuncId → List V → V → Prop) (K : V → Heap → Prop) (a0 : V) (h : Heap) : Prop :=
    (wi F L (.call i_strings_Trim [(.c a0), (.c (.str [32, 9]))]) E0 h fun v4 h =>
    (∃ v, some v4 = some v ∧ K v h))
theorem run_token_Trim {L : FuncId → List V → V → Prop} {K : V → Heap → Prop} {a0 : V} {h : Heap} (hp : p_token_Trim L K a0 h) : Cf F L i_token_Trim [a0] h K :=
  wcallp F_token_Trim (show 1 ≤ 5 by decide) (p := p_token_Trim L K a0 h) (by kernel_rfl) hp
def p_field_fine (L : FuncId → List V → V → Prop) (K : V → Heap → Prop) (a0 : V) (h : Heap) : Prop :=
    (wi F L (.box (.c a0)) E0 h fun v1 h =>
    (wi F L (.faddr 0 (.c v1)) E0 h fun v3 h =>
    (wi F L (.load false 1 (.c v3)) E0 h fun v4 h =>
    (wi F L (.call i_token_Is [(.c v4)]) E0 h fun v5 h =>
    (wg v5 true (wi F L (.faddr 1 (.c v1)) E0 h) h fun v7 h =>
    (wg v5 true (wi F L (.load false 1 (.c v7)) E0 h) h fun v8 h =>
    (wg v5 true (wi F L (.call i_token_Value [(.c v8)]) E0 h) h fun v9 h =>
    (wi F L (.pick (.c v5) (.c v9) (.c (.bool false))) E0 h fun v10 h =>
    (∃ v, some v10 = some v ∧ K v h)))))))))
theorem run_field_fine {L : FuncId → List V → V → Prop} {K : V → Heap → Prop} {a0 : V} {h : Heap} (hp : p_field_fine L K a0 h) : Cf F L i_field_fine [a0] h K :=
  wcallp F_field_fine (show 1 ≤ 11 by decide) (p := p_field_fine L K a0 h) (by kernel_rfl) hp
def k_gatepostref01_Is_0 (L : FuncId → List V → V → Prop) (K : V → Heap → Prop) (v0 : V) (h : Heap) : Prop :=
    (wi F L (.len 0 (.c v0)) E0 h fun v16 h =>
    (wi F L (.bin .gtr (.c v16) (.c (.int .i64 0))) E0 h fun v17 h =>
    (∃ v, some v17 = some v ∧ K v h)))
def k_gatepostref01_Is_2 (L : FuncId → List V → V → Prop) (K : V → Heap → Prop) (N0 : Env → Heap → Prop) (e : Env) (v3 : V) (h : Heap) : Prop :=
    (wi F L (.bin .add (.c v3) (.c (.int .i64 1))) E0 h fun v9 h =>
    (N0 (upd (upd (upd e 8 v3) 9 v9) 3 v9) h))
def k_gatepostref01_Is_1 (L : FuncId → List V → V → Prop) (K : V → Heap → Prop) (N0 : Env → Heap → Prop) (e : Env) (v0 v3 : V) (h : Heap) : Prop :=
    (wi F L (.ixStr (.c v0) (.c v3)) E0 h fun v12 h =>
    (wi F L (.call i_gatepostref01_tchar [(.c v12)]) E0 h fun v13 h =>
    (wi F L (.un .not (.c v13)) E0 h fun v14 h =>
    (wb v14
    (∃ v, some (.bool false) = some v ∧ K v h)
    (k_gatepostref01_Is_2 L K N0 (upd (upd (upd (upd (upd e 10 v0) 11 v3) 12 v12) 13 v13) 14 v14) v3 h)))))
def q_gatepostref01_Is_0 (L : FuncId → List V → V → Prop) (K : V → Heap → Prop) : X → Env → Heap → Prop := (fun x => (seqX (fun e h => k_gatepostref01_Is_0 L K (e 0) h) (retX c_gatepostref01_Is.results K)) (X.out 0 x))
def lc_gatepostref01_Is_0 : C :=
  (.seq (.seq (.region [⟨(some 4), none, .mv (.t 3)⟩, ⟨(some 5), none, .mv (.t 0)⟩, ⟨(some 6), none, .len 0 (.t 5)⟩, ⟨(some 7), none, .bin .lss (.t 4) (.t 6)⟩])
  (.cond (.t 7)
    .skip
    (.exit 0)))
  (.seq (.block 1 (.seq (.region [⟨(some 10), none, .mv (.t 0)⟩, ⟨(some 11), none, .mv (.t 3)⟩, ⟨(some 12), none, .ixStr (.t 10) (.t 11)⟩, ⟨(some 13), none, .call i_gatepostref01_tchar [(.t 12)]⟩, ⟨(some 14), none, .un .not (.t 13)⟩])
  (.cond (.t 14)
    (.seq (.region [⟨(some 2), none, .mv (.c (.bool false))⟩])
    .ret)
    .skip)))
  (.region [⟨(some 8), none, .mv (.t 3)⟩, ⟨(some 9), none, .bin .add (.t 8) (.c (.int .i64 1))⟩, ⟨(some 3), none, .mv (.t 9)⟩])))
def b_gatepostref01_Is_0 (L : FuncId → List V → V → Prop) (K : V → Heap → Prop) (N0 : Env → Heap → Prop) (e : Env) (h : Heap) : Prop :=
    (wi F L (.len 0 (.c (e 0))) E0 h fun v6 h =>
    (wi F L (.bin .lss (.c (e 3)) (.c v6)) E0 h fun v7 h =>
    (wb v7
    (k_gatepostref01_Is_1 L K N0 (upd (upd (upd (upd e 4 (e 3)) 5 (e 0)) 6 v6) 7 v7) (e 0) (e 3) h)
    (k_gatepostref01_Is_0 L K (e 0) h))))
theorem l_gatepostref01_Is_0 {L : FuncId → List V → V → Prop} {K : V → Heap → Prop} (I : Nat → Env → Heap → Prop) (hr : ∀ n e h, I n e h → b_gatepostref01_Is_0 L K (fun e' h' => ∃ m, m < n ∧ I m e' h') e h) {n : Nat} {e : Env} {h : Heap} (hi : I n e h) : Wl F L lc_gatepostref01_Is_0 (q_gatepostref01_Is_0 L K) e h :=
  wloopp (b := b_gatepostref01_Is_0 L K) I (fun _ _ _ => by kernel_rfl) hr hi
def p_gatepostref01_Is (L : FuncId → List V → V → Prop) (K : V → Heap → Prop) (a0 : V) (h : Heap) : Prop :=
    (Wl F L lc_gatepostref01_Is_0 (q_gatepostref01_Is_0 L K) (upd (upd (enterE [a0]) 2 (.bool false)) 3 (.int .i64 0)) h)
theorem run_gatepostref01_Is {L : FuncId → List V → V → Prop} {K : V → Heap → Prop} {a0 : V} {h : Heap} (hp : p_gatepostref01_Is L K a0 h) : Cf F L i_gatepostref01_Is [a0] h K :=
  wcallp F_gatepostref01_Is (show 1 ≤ 18 by decide) (p := p_gatepostref01_Is L K a0 h) (by kernel_rfl) hp
def k_gatepostref01_Trim_1 (L : FuncId → List V → V → Prop) (K : V → Heap → Prop) (v0 : V) (h : Heap) : Prop :=
    (∃ v, some v0 = some v ∧ K v h)
def k_gatepostref01_Trim_2 (L : FuncId → List V → V → Prop) (K : V → Heap → Prop) (N0 : Env → Heap → Prop) (e : Env) (v0 : V) (h : Heap) : Prop :=
    (wi F L (.len 0 (.c v0)) E0 h fun v26 h =>
    (wi F L (.bin .sub (.c v26) (.c (.int .i64 1))) E0 h fun v27 h =>
    (wi F L (.slstr (.c v0) none (some (.c v27))) E0 h fun v28 h =>
    (N0 (upd (upd (upd (upd (upd (upd e 24 v0) 25 v0) 26 v26) 27 v27) 28 v28) 0 v28) h))))
def q_gatepostref01_Trim_0 (L : FuncId → List V → V → Prop) (K : V → Heap → Prop) : X → Env → Heap → Prop := (fun x => (seqX (fun e h => k_gatepostref01_Trim_1 L K (e 0) h) (retX c_gatepostref01_Trim.results K)) (X.out 2 x))
def lc_gatepostref01_Trim_0 : C :=
  (.seq (.seq (.region [⟨(some 13), none, .mv (.t 0)⟩, ⟨(some 14), none, .len 0 (.t 13)⟩, ⟨(some 15), none, .bin .gtr (.t 14) (.c (.int .i64 0))⟩, ⟨(some 16), none, .mv (.t 15)⟩, ⟨(some 17), (some (16, true)), .mv (.t 0)⟩, ⟨(some 18), (some (16, true)), .mv (.t 0)⟩, ⟨(some 19), (some (16, true)), .len 0 (.t 18)⟩, ⟨(some 20), (some (16, true)), .bin .sub (.t 19) (.c (.int .i64 1))⟩, ⟨(some 21), (some (16, true)), .ixStr (.t 17) (.t 20)⟩, ⟨(some 22), (some (16, true)), .call i_gatepostref01_blank [(.t 21)]⟩, ⟨(some 23), none, .pick (.t 16) (.t 22) (.c (.bool false))⟩])
  (.cond (.t 23)
    .skip
    (.exit 2)))
  (.block 3 (.region [⟨(some 24), none, .mv (.t 0)⟩, ⟨(some 25), none, .mv (.t 0)⟩, ⟨(some 26), none, .len 0 (.t 25)⟩, ⟨(some 27), none, .bin .sub (.t 26) (.c (.int .i64 1))⟩, ⟨(some 28), none, .slstr (.t 24) none (some (.t 27))⟩, ⟨(some 0), none, .mv (.t 28)⟩])))
def b_gatepostref01_Trim_0 (L : FuncId → List V → V → Prop) (K : V → Heap → Prop) (N0 : Env → Heap → Prop) (e : Env) (h : Heap) : Prop :=
    (wi F L (.len 0 (.c (e 0))) E0 h fun v14 h =>
    (wi F L (.bin .gtr (.c v14) (.c (.int .i64 0))) E0 h fun v15 h =>
    (wg v15 true (wi F L (.mv (.c (e 0))) E0 h) h fun v17 h =>
    (wg v15 true (wi F L (.mv (.c (e 0))) E0 h) h fun v18 h =>
    (wg v15 true (wi F L (.len 0 (.c v18)) E0 h) h fun v19 h =>
    (wg v15 true (wi F L (.bin .sub (.c v19) (.c (.int .i64 1))) E0 h) h fun v20 h =>
    (wg v15 true (wi F L (.ixStr (.c v17) (.c v20)) E0 h) h fun v21 h =>
    (wg v15 true (wi F L (.call i_gatepostref01_blank [(.c v21)]) E0 h) h fun v22 h =>
    (wi F L (.pick (.c v15) (.c v22) (.c (.bool false))) E0 h fun v23 h =>
    (wb v23
    (k_gatepostref01_Trim_2 L K N0 (upd (upd (upd (upd (upd (upd (upd (upd (upd (upd (upd e 13 (e 0)) 14 v14) 15 v15) 16 v15) 17 v17) 18 v18) 19 v19) 20 v20) 21 v21) 22 v22) 23 v23) (e 0) h)
    (k_gatepostref01_Trim_1 L K (e 0) h)))))))))))
theorem l_gatepostref01_Trim_0 {L : FuncId → List V → V → Prop} {K : V → Heap → Prop} (I : Nat → Env → Heap → Prop) (hr : ∀ n e h, I n e h → b_gatepostref01_Trim_0 L K (fun e' h' => ∃ m, m < n ∧ I m e' h') e h) {n : Nat} {e : Env} {h : Heap} (hi : I n e h) : Wl F L lc_gatepostref01_Trim_0 (q_gatepostref01_Trim_0 L K) e h :=
  wloopp (b := b_gatepostref01_Trim_0 L K) I (fun _ _ _ => by kernel_rfl) hr hi
def k_gatepostref01_Trim_0 (L : FuncId → List V → V → Prop) (K : V → Heap → Prop) (e : Env) (h : Heap) : Prop :=
    (Wl F L lc_gatepostref01_Trim_0 (q_gatepostref01_Trim_0 L K) e h)
def k_gatepostref01_Trim_3 (L : FuncId → List V → V → Prop) (K : V → Heap → Prop) (N0 : Env → Heap → Prop) (e : Env) (v0 : V) (h : Heap) : Prop :=
    (wi F L (.slstr (.c v0) (some (.c (.int .i64 1))) none) E0 h fun v12 h =>
    (N0 (upd (upd (upd e 11 v0) 12 v12) 0 v12) h))
def q_gatepostref01_Trim_1 (L : FuncId → List V → V → Prop) (K : V → Heap → Prop) : X → Env → Heap → Prop := (fun x => (seqX (fun e h => k_gatepostref01_Trim_0 L K e  h) (retX c_gatepostref01_Trim.results K)) (X.out 0 x))
def lc_gatepostref01_Trim_1 : C :=
  (.seq (.seq (.region [⟨(some 3), none, .mv (.t 0)⟩, ⟨(some 4), none, .len 0 (.t 3)⟩, ⟨(some 5), none, .bin .gtr (.t 4) (.c (.int .i64 0))⟩, ⟨(some 6), none, .mv (.t 5)⟩, ⟨(some 7), (some (6, true)), .mv (.t 0)⟩, ⟨(some 8), (some (6, true)), .ixStr (.t 7) (.c (.int .i64 0))⟩, ⟨(some 9), (some (6, true)), .call i_gatepostref01_blank [(.t 8)]⟩, ⟨(some 10), none, .pick (.t 6) (.t 9) (.c (.bool false))⟩])
  (.cond (.t 10)
    .skip
    (.exit 0)))
  (.block 1 (.region [⟨(some 11), none, .mv (.t 0)⟩, ⟨(some 12), none, .slstr (.t 11) (some (.c (.int .i64 1))) none⟩, ⟨(some 0), none, .mv (.t 12)⟩])))
def b_gatepostref01_Trim_1 (L : FuncId → List V → V → Prop) (K : V → Heap → Prop) (N0 : Env → Heap → Prop) (e : Env) (h : Heap) : Prop :=
    (wi F L (.len 0 (.c (e 0))) E0 h fun v4 h =>
    (wi F L (.bin .gtr (.c v4) (.c (.int .i64 0))) E0 h fun v5 h =>
    (wg v5 true (wi F L (.mv (.c (e 0))) E0 h) h fun v7 h =>
    (wg v5 true (wi F L (.ixStr (.c v7) (.c (.int .i64 0))) E0 h) h fun v8 h =>
    (wg v5 true (wi F L (.call i_gatepostref01_blank [(.c v8)]) E0 h) h fun v9 h =>
    (wi F L (.pick (.c v5) (.c v9) (.c (.bool false))) E0 h fun v10 h =>
    (wb v10
    (k_gatepostref01_Trim_3 L K N0 (upd (upd (upd (upd (upd (upd (upd (upd e 3 (e 0)) 4 v4) 5 v5) 6 v5) 7 v7) 8 v8) 9 v9) 10 v10) (e 0) h)
    (k_gatepostref01_Trim_0 L K (upd (upd (upd (upd (upd (upd (upd (upd e 3 (e 0)) 4 v4) 5 v5) 6 v5) 7 v7) 8 v8) 9 v9) 10 v10)  h))))))))
theorem l_gatepostref01_Trim_1 {L : FuncId → List V → V → Prop} {K : V → Heap → Prop} (I : Nat → Env → Heap → Prop) (hr : ∀ n e h, I n e h → b_gatepostref01_Trim_1 L K (fun e' h' => ∃ m, m < n ∧ I m e' h') e h) {n : Nat} {e : Env} {h : Heap} (hi : I n e h) : Wl F L lc_gatepostref01_Trim_1 (q_gatepostref01_Trim_1 L K) e h :=
  wloopp (b := b_gatepostref01_Trim_1 L K) I (fun _ _ _ => by kernel_rfl) hr hi
def p_gatepostref01_Trim (L : FuncId → List V → V → Prop) (K : V → Heap → Prop) (a0 : V) (h : Heap) : Prop :=
    (Wl F L lc_gatepostref01_Trim_1 (q_gatepostref01_Trim_1 L K) (upd (enterE [a0]) 2 (.str [])) h)
theorem run_gatepostref01_Trim {L : FuncId → List V → V → Prop} {K : V → Heap → Prop} {a0 : V} {h : Heap} (hp : p_gatepostref01_Trim L K a0 h) : Cf F L i_gatepostref01_Trim [a0] h K :=
  wcallp F_gatepostref01_Trim (show 1 ≤ 30 by decide) (p := p_gatepostref01_Trim L K a0 h) (by kernel_rfl) hp
def k_gatepostref01_Value_0 (L : FuncId → List V → V → Prop) (K : V → Heap → Prop) (v0 : V) (h : Heap) : Prop :=
    (wi F L (.bin .eql (.c v0) (.c (.str []))) E0 h fun v26 h =>
    (wg v26 false (wi F L (.mv (.c v0)) E0 h) h fun v28 h =>
    (wg v26 false (wi F L (.ixStr (.c v28) (.c (.int .i64 0))) E0 h) h fun v29 h =>
    (wg v26 false (wi F L (.call i_gatepostref01_blank [(.c v29)]) E0 h) h fun v30 h =>
    (wg v26 false (wi F L (.un .not (.c v30)) E0 h) h fun v31 h =>
    (wg v26 false (wi F L (.mv (.c v31)) E0 h) h fun v32 h =>
    (wg v32 true (wi F L (.mv (.c v0)) E0 h) h fun v33 h =>
    (wg v32 true (wi F L (.mv (.c v0)) E0 h) h fun v34 h =>
    (wg v32 true (wi F L (.len 0 (.c v34)) E0 h) h fun v35 h =>
    (wg v32 true (wi F L (.bin .sub (.c v35) (.c (.int .i64 1))) E0 h) h fun v36 h =>
    (wg v32 true (wi F L (.ixStr (.c v33) (.c v36)) E0 h) h fun v37 h =>
    (wg v32 true (wi F L (.call i_gatepostref01_blank [(.c v37)]) E0 h) h fun v38 h =>
    (wg v32 true (wi F L (.un .not (.c v38)) E0 h) h fun v39 h =>
    (wg v26 false (wi F L (.pick (.c v32) (.c v39) (.c (.bool false))) E0 h) h fun v40 h =>
    (wi F L (.pick (.c v26) (.c (.bool true)) (.c v40)) E0 h fun v41 h =>
    (∃ v, some v41 = some v ∧ K v h))))))))))))))))
def k_gatepostref01_Value_2 (L : FuncId → List V → V → Prop) (K : V → Heap → Prop) (N0 : Env → Heap → Prop) (e : Env) (v3 : V) (h : Heap) : Prop :=
    (wi F L (.bin .add (.c v3) (.c (.int .i64 1))) E0 h fun v10 h =>
    (N0 (upd (upd (upd e 9 v3) 10 v10) 3 v10) h))
def k_gatepostref01_Value_1 (L : FuncId → List V → V → Prop) (K : V → Heap → Prop) (N0 : Env → Heap → Prop) (e : Env) (v0 v3 : V) (h : Heap) : Prop :=
    (wi F L (.ixStr (.c v0) (.c v3)) E0 h fun v13 h =>
    (wi F L (.call i_gatepostref01_blank [(.c v13)]) E0 h fun v15 h =>
    (wi F L (.un .not (.c v15)) E0 h fun v16 h =>
    (wg v16 true (wi F L (.mv (.c v13)) E0 h) h fun v18 h =>
    (wg v16 true (wi F L (.bin .lss (.c v18) (.c (.int .u8 33))) E0 h) h fun v19 h =>
    (wg v16 true (wi F L (.mv (.c v19)) E0 h) h fun v20 h =>
    (wg v20 false (wi F L (.mv (.c v13)) E0 h) h fun v21 h =>
    (wg v20 false (wi F L (.bin .eql (.c v21) (.c (.int .u8 127))) E0 h) h fun v22 h =>
    (wg v16 true (wi F L (.pick (.c v20) (.c (.bool true)) (.c v22)) E0 h) h fun v23 h =>
    (wi F L (.pick (.c v16) (.c v23) (.c (.bool false))) E0 h fun v24 h =>
    (wb v24
    (∃ v, some (.bool false) = some v ∧ K v h)
    (k_gatepostref01_Value_2 L K N0 (upd (upd (upd (upd (upd (upd (upd (upd (upd (upd (upd (upd (upd (upd (upd e 11 v0) 12 v3) 13 v13) 4 v13) 14 v13) 15 v15) 16 v16) 17 v16) 18 v18) 19 v19) 20 v20) 21 v21) 22 v22) 23 v23) 24 v24) v3 h))))))))))))
def q_gatepostref01_Value_0 (L : FuncId → List V → V → Prop) (K : V → Heap → Prop) : X → Env → Heap → Prop := (fun x => (seqX (fun e h => k_gatepostref01_Value_0 L K (e 0) h) (retX c_gatepostref01_Value.results K)) (X.out 0 x))
def lc_gatepostref01_Value_0 : C :=
  (.seq (.seq (.region [⟨(some 5), none, .mv (.t 3)⟩, ⟨(some 6), none, .mv (.t 0)⟩, ⟨(some 7), none, .len 0 (.t 6)⟩, ⟨(some 8), none, .bin .lss (.t 5) (.t 7)⟩])
  (.cond (.t 8)
    .skip
    (.exit 0)))
  (.seq (.block 1 (.seq (.region [⟨(some 11), none, .mv (.t 0)⟩, ⟨(some 12), none, .mv (.t 3)⟩, ⟨(some 13), none, .ixStr (.t 11) (.t 12)⟩, ⟨(some 4), none, .mv (.t 13)⟩])
  (.seq (.region [⟨(some 14), none, .mv (.t 4)⟩, ⟨(some 15), none, .call i_gatepostref01_blank [(.t 14)]⟩, ⟨(some 16), none, .un .not (.t 15)⟩, ⟨(some 17), none, .mv (.t 16)⟩, ⟨(some 18), (some (17, true)), .mv (.t 4)⟩, ⟨(some 19), (some (17, true)), .bin .lss (.t 18) (.c (.int .u8 33))⟩, ⟨(some 20), (some (17, true)), .mv (.t 19)⟩, ⟨(some 21), (some (20, false)), .mv (.t 4)⟩, ⟨(some 22), (some (20, false)), .bin .eql (.t 21) (.c (.int .u8 127))⟩, ⟨(some 23), (some (17, true)), .pick (.t 20) (.c (.bool true)) (.t 22)⟩, ⟨(some 24), none, .pick (.t 17) (.t 23) (.c (.bool false))⟩])
  (.cond (.t 24)
    (.seq (.region [⟨(some 2), none, .mv (.c (.bool false))⟩])
    .ret)
    .skip))))
  (.region [⟨(some 9), none, .mv (.t 3)⟩, ⟨(some 10), none, .bin .add (.t 9) (.c (.int .i64 1))⟩, ⟨(some 3), none, .mv (.t 10)⟩])))
def b_gatepostref01_Value_0 (L : FuncId → List V → V → Prop) (K : V → Heap → Prop) (N0 : Env → Heap → Prop) (e : Env) (h : Heap) : Prop :=
    (wi F L (.len 0 (.c (e 0))) E0 h fun v7 h =>
    (wi F L (.bin .lss (.c (e 3)) (.c v7)) E0 h fun v8 h =>
    (wb v8
    (k_gatepostref01_Value_1 L K N0 (upd (upd (upd (upd e 5 (e 3)) 6 (e 0)) 7 v7) 8 v8) (e 0) (e 3) h)
    (k_gatepostref01_Value_0 L K (e 0) h))))
theorem l_gatepostref01_Value_0 {L : FuncId → List V → V → Prop} {K : V → Heap → Prop} (I : Nat → Env → Heap → Prop) (hr : ∀ n e h, I n e h → b_gatepostref01_Value_0 L K (fun e' h' => ∃ m, m < n ∧ I m e' h') e h) {n : Nat} {e : Env} {h : Heap} (hi : I n e h) : Wl F L lc_gatepostref01_Value_0 (q_gatepostref01_Value_0 L K) e h :=
  wloopp (b := b_gatepostref01_Value_0 L K) I (fun _ _ _ => by kernel_rfl) hr hi
def p_gatepostref01_Value (L : FuncId → List V → V → Prop) (K : V → Heap → Prop) (a0 : V) (h : Heap) : Prop :=
    (Wl F L lc_gatepostref01_Value_0 (q_gatepostref01_Value_0 L K) (upd (upd (enterE [a0]) 2 (.bool false)) 3 (.int .i64 0)) h)
theorem run_gatepostref01_Value {L : FuncId → List V → V → Prop} {K : V → Heap → Prop} {a0 : V} {h : Heap} (hp : p_gatepostref01_Value L K a0 h) : Cf F L i_gatepostref01_Value [a0] h K :=
  wcallp F_gatepostref01_Value (show 1 ≤ 42 by decide) (p := p_gatepostref01_Value L K a0 h) (by kernel_rfl) hp
def k_token_Split_1 (L : FuncId → List V → V → Prop) (K : V → Heap → Prop) (v1 v4 v6 : V) (h : Heap) : Prop :=
    (wi F L (.load false 1 (.c v1)) E0 h fun v45 h =>
    (wi F L (.len 0 (.c v45)) E0 h fun v46 h =>
    (wi F L (.callv (.c v6) [(.c v46)]) E0 h fun v47 h =>
    (wi F L (.load false 1 (.c v4)) E0 h fun v48 h =>
    (wi F L (.load false 1 (.c v4)) E0 h fun v49 h =>
    (wi F L (.len 1 (.c v49)) E0 h fun v50 h =>
    (wi F L (.load false 1 (.c v4)) E0 h fun v51 h =>
    (wi F L (.len 1 (.c v51)) E0 h fun v52 h =>
    (wi F L (.slsl 1 (.c v48) none (some (.c v50)) (some (.c v52))) E0 h fun v53 h =>
    (∃ v, resultsV h (enterE [v53, (.bool true)]) [.tmp 0, .tmp 1] = some v ∧ K v h))))))))))
def k_token_Split_0 (L : FuncId → List V → V → Prop) (K : V → Heap → Prop) (v1 v4 v6 v7 : V) (h : Heap) : Prop :=
    (wb v7
    (∃ v, resultsV h (enterE [.nsl, (.bool false)]) [.tmp 0, .tmp 1] = some v ∧ K v h)
    (k_token_Split_1 L K v1 v4 v6 h))
def k_token_Split_3 (L : FuncId → List V → V → Prop) (K : V → Heap → Prop) (N0 : Env → Heap → Prop) (e : Env) (v8 : V) (h : Heap) : Prop :=
    (wi F L (.bin .add (.c v8) (.c (.int .i64 1))) E0 h fun v16 h =>
    (N0 (upd (upd (upd e 15 v8) 16 v16) 8 v16) h))
def k_token_Split_2 (L : FuncId → List V → V → Prop) (K : V → Heap → Prop) (N0 : Env → Heap → Prop) (e : Env) (v1 v6 v7 v8 : V) (h : Heap) : Prop :=
    (wi F L (.load false 1 (.c v1)) E0 h fun v17 h =>
    (wi F L (.ixStr (.c v17) (.c v8)) E0 h fun v19 h =>
    (wi F L (.bin .eql (.c v19) (.c (.int .u8 34))) E0 h fun v22 h =>
    (wb v22
    (wi F L (.un .not (.c v7)) E0 h fun v24 h =>
    (k_token_Split_3 L K N0 (upd (upd (upd (upd (upd (upd (upd (upd (upd (upd e 17 v17) 18 v8) 19 v19) 9 v19) 21 v19) 22 v22) 20 v22) 23 v7) 24 v24) 7 v24) v8 h))
    (wg v7 true (wi F L (.mv (.c v19)) E0 h) h fun v28 h =>
    (wg v7 true (wi F L (.bin .eql (.c v28) (.c (.int .u8 92))) E0 h) h fun v29 h =>
    (wi F L (.pick (.c v7) (.c v29) (.c (.bool false))) E0 h fun v30 h =>
    (wb v30
    (wi F L (.bin .add (.c v8) (.c (.int .i64 1))) E0 h fun v32 h =>
    (k_token_Split_3 L K N0 (upd (upd (upd (upd (upd (upd (upd (upd (upd (upd (upd (upd (upd (upd (upd (upd e 17 v17) 18 v8) 19 v19) 9 v19) 21 v19) 22 v22) 20 v22) 26 v7) 27 v7) 28 v28) 29 v29) 30 v30) 25 v30) 31 v8) 32 v32) 8 v32) v32 h))
    (wi F L (.un .not (.c v7)) E0 h fun v35 h =>
    (wg v35 true (wi F L (.mv (.c v19)) E0 h) h fun v37 h =>
    (wg v35 true (wi F L (.bin .eql (.c v37) (.c (.int .u8 44))) E0 h) h fun v38 h =>
    (wi F L (.pick (.c v35) (.c v38) (.c (.bool false))) E0 h fun v39 h =>
    (wb v39
    (wi F L (.callv (.c v6) [(.c v8)]) E0 h fun v42 h =>
    (k_token_Split_3 L K N0 (upd (upd (upd (upd (upd (upd (upd (upd (upd (upd (upd (upd (upd (upd (upd (upd (upd (upd (upd (upd (upd (upd (upd e 17 v17) 18 v8) 19 v19) 9 v19) 21 v19) 22 v22) 20 v22) 26 v7) 27 v7) 28 v28) 29 v29) 30 v30) 25 v30) 34 v7) 35 v35) 36 v35) 37 v37) 38 v38) 39 v39) 33 v39) 40 v6) 41 v8) 42 v42) v8 h))
    (k_token_Split_3 L K N0 (upd (upd (upd (upd (upd (upd (upd (upd (upd (upd (upd (upd (upd (upd (upd (upd (upd (upd (upd (upd e 17 v17) 18 v8) 19 v19) 9 v19) 21 v19) 22 v22) 20 v22) 26 v7) 27 v7) 28 v28) 29 v29) 30 v30) 25 v30) 34 v7) 35 v35) 36 v35) 37 v37) 38 v38) 39 v39) 33 v39) v8 h))))))))))))))
def q_token_Split_0 (L : FuncId → List V → V → Prop) (K : V → Heap → Prop) : X → Env → Heap → Prop := (fun x => (seqX (fun e h => k_token_Split_0 L K (e 1) (e 4) (e 6) (e 7) h) (retX c_token_Split.results K)) (X.out 0 x))
def lc_token_Split_0 : C :=
  (.seq (.seq (.region [⟨(some 11), none, .mv (.t 8)⟩, ⟨(some 12), none, .load false 1 (.t 1)⟩, ⟨(some 13), none, .len 0 (.t 12)⟩, ⟨(some 14), none, .bin .lss (.t 11) (.t 13)⟩])
  (.cond (.t 14)
    .skip
    (.exit 0)))
  (.seq (.block 1 (.seq (.region [⟨(some 17), none, .load false 1 (.t 1)⟩, ⟨(some 18), none, .mv (.t 8)⟩, ⟨(some 19), none, .ixStr (.t 17) (.t 18)⟩, ⟨(some 9), none, .mv (.t 19)⟩])
  (.block 2 (.seq (.region [⟨(some 21), none, .mv (.t 9)⟩, ⟨(some 22), none, .bin .eql (.t 21) (.c (.int .u8 34))⟩, ⟨(some 20), none, .mv (.t 22)⟩])
  (.cond (.t 20)
    (.region [⟨(some 23), none, .mv (.t 7)⟩, ⟨(some 24), none, .un .not (.t 23)⟩, ⟨(some 7), none, .mv (.t 24)⟩])
    (.seq (.region [⟨(some 26), none, .mv (.t 7)⟩, ⟨(some 27), none, .mv (.t 26)⟩, ⟨(some 28), (some (27, true)), .mv (.t 9)⟩, ⟨(some 29), (some (27, true)), .bin .eql (.t 28) (.c (.int .u8 92))⟩, ⟨(some 30), none, .pick (.t 27) (.t 29) (.c (.bool false))⟩, ⟨(some 25), none, .mv (.t 30)⟩])
    (.cond (.t 25)
      (.region [⟨(some 31), none, .mv (.t 8)⟩, ⟨(some 32), none, .bin .add (.t 31) (.c (.int .i64 1))⟩, ⟨(some 8), none, .mv (.t 32)⟩])
      (.seq (.region [⟨(some 34), none, .mv (.t 7)⟩, ⟨(some 35), none, .un .not (.t 34)⟩, ⟨(some 36), none, .mv (.t 35)⟩, ⟨(some 37), (some (36, true)), .mv (.t 9)⟩, ⟨(some 38), (some (36, true)), .bin .eql (.t 37) (.c (.int .u8 44))⟩, ⟨(some 39), none, .pick (.t 36) (.t 38) (.c (.bool false))⟩, ⟨(some 33), none, .mv (.t 39)⟩])
      (.cond (.t 33)
        (.region [⟨(some 40), none, .mv (.t 6)⟩, ⟨(some 41), none, .mv (.t 8)⟩, ⟨(some 42), none, .callv (.t 40) [(.t 41)]⟩])
        .skip)))))))))
  (.region [⟨(some 15), none, .mv (.t 8)⟩, ⟨(some 16), none, .bin .add (.t 15) (.c (.int .i64 1))⟩, ⟨(some 8), none, .mv (.t 16)⟩])))
def b_token_Split_0 (L : FuncId → List V → V → Prop) (K : V → Heap → Prop) (N0 : Env → Heap → Prop) (e : Env) (h : Heap) : Prop :=
    (wi F L (.load false 1 (.c (e 1))) E0 h fun v12 h =>
    (wi F L (.len 0 (.c v12)) E0 h fun v13 h =>
    (wi F L (.bin .lss (.c (e 8)) (.c v13)) E0 h fun v14 h =>
    (wb v14
    (k_token_Split_2 L K N0 (upd (upd (upd (upd e 11 (e 8)) 12 v12) 13 v13) 14 v14) (e 1) (e 6) (e 7) (e 8) h)
    (k_token_Split_0 L K (e 1) (e 4) (e 6) (e 7) h)))))
theorem l_token_Split_0 {L : FuncId → List V → V → Prop} {K : V → Heap → Prop} (I : Nat → Env → Heap → Prop) (hr : ∀ n e h, I n e h → b_token_Split_0 L K (fun e' h' => ∃ m, m < n ∧ I m e' h') e h) {n : Nat} {e : Env} {h : Heap} (hi : I n e h) : Wl F L lc_token_Split_0 (q_token_Split_0 L K) e h :=
  wloopp (b := b_token_Split_0 L K) I (fun _ _ _ => by kernel_rfl) hr hi
def p_token_Split (L : FuncId → List V → V → Prop) (K : V → Heap → Prop) (a0 : V) (h : Heap) : Prop :=
    (wi F L (.box (.c a0)) E0 h fun v1 h =>
    (wi F L (.boxz [.nsl]) E0 h fun v4 h =>
    (wi F L (.boxz [(.int .i64 0)]) E0 h fun v5 h =>
    (wi F L (.store 1 (.c v5) (.c (.int .i64 0))) E0 h fun _ h =>
    (wi F L (.mkfn i_token_Split_1 [(.c v1), (.c v5), (.c v4)]) E0 h fun v10 h =>
    (Wl F L lc_token_Split_0 (q_token_Split_0 L K) (upd (upd (upd (upd (upd (upd (upd (upd (upd (enterE [a0]) 1 v1) 2 .nsl) 3 (.bool false)) 4 v4) 5 v5) 10 v10) 6 v10) 7 (.bool false)) 8 (.int .i64 0)) h))))))
theorem run_token_Split {L : FuncId → List V → V → Prop} {K : V → Heap → Prop} {a0 : V} {h : Heap} (hp : p_token_Split L K a0 h) : Cf F L i_token_Split [a0] h K :=
  wcallp F_token_Split (show 1 ≤ 54 by decide) (p := p_token_Split L K a0 h) (by kernel_rfl) hp
def k_token_all_0 (L : FuncId → List V → V → Prop) (K : V → Heap → Prop) (h : Heap) : Prop :=
    (∃ v, some (.bool true) = some v ∧ K v h)
def k_token_all_2 (L : FuncId → List V → V → Prop) (K : V → Heap → Prop) (N0 : Env → Heap → Prop) (e : Env) (v8 : V) (h : Heap) : Prop :=
    (wi F L (.bin .add (.c v8) (.c (.int .i64 1))) E0 h fun v17 h =>
    (N0 (upd (upd e 17 v17) 8 v17) h))
def k_token_all_1 (L : FuncId → List V → V → Prop) (K : V → Heap → Prop) (N0 : Env → Heap → Prop) (e : Env) (v0 v1 v8 : V) (h : Heap) : Prop :=
    (wi F L (.ixStr (.c v0) (.c v8)) E0 h fun v14 h =>
    (wi F L (.callv (.c v1) [(.c v14)]) E0 h fun v15 h =>
    (wi F L (.un .not (.c v15)) E0 h fun v16 h =>
    (wb v16
    (∃ v, some (.bool false) = some v ∧ K v h)
    (k_token_all_2 L K N0 (upd (upd (upd (upd (upd (upd (upd (upd e 10 v8) 5 v8) 11 v1) 12 v0) 13 v8) 14 v14) 15 v15) 16 v16) v8 h)))))
def q_token_all_0 (L : FuncId → List V → V → Prop) (K : V → Heap → Prop) : X → Env → Heap → Prop := (fun x => (seqX (fun e h => k_token_all_0 L K  h) (retX c_token_all.results K)) (X.out 0 x))
def lc_token_all_0 : C :=
  (.seq (.region [⟨(some 9), none, .bin .lss (.t 8) (.t 7)⟩])
  (.seq (.cond (.t 9)
    .skip
    (.exit 0))
  (.seq (.block 1 (.seq (.region [⟨(some 10), none, .mv (.t 8)⟩, ⟨(some 5), none, .mv (.t 10)⟩])
  (.seq (.region [⟨(some 11), none, .mv (.t 1)⟩, ⟨(some 12), none, .mv (.t 0)⟩, ⟨(some 13), none, .mv (.t 5)⟩, ⟨(some 14), none, .ixStr (.t 12) (.t 13)⟩, ⟨(some 15), none, .callv (.t 11) [(.t 14)]⟩, ⟨(some 16), none, .un .not (.t 15)⟩])
  (.cond (.t 16)
    (.seq (.region [⟨(some 4), none, .mv (.c (.bool false))⟩])
    .ret)
    .skip))))
  (.region [⟨(some 17), none, .bin .add (.t 8) (.c (.int .i64 1))⟩, ⟨(some 8), none, .mv (.t 17)⟩]))))
def b_token_all_0 (L : FuncId → List V → V → Prop) (K : V → Heap → Prop) (N0 : Env → Heap → Prop) (e : Env) (h : Heap) : Prop :=
    (wi F L (.bin .lss (.c (e 8)) (.c (e 7))) E0 h fun v9 h =>
    (wb v9
    (k_token_all_1 L K N0 (upd e 9 v9) (e 0) (e 1) (e 8) h)
    (k_token_all_0 L K  h)))
theorem l_token_all_0 {L : FuncId → List V → V → Prop} {K : V → Heap → Prop} (I : Nat → Env → Heap → Prop) (hr : ∀ n e h, I n e h → b_token_all_0 L K (fun e' h' => ∃ m, m < n ∧ I m e' h') e h) {n : Nat} {e : Env} {h : Heap} (hi : I n e h) : Wl F L lc_token_all_0 (q_token_all_0 L K) e h :=
  wloopp (b := b_token_all_0 L K) I (fun _ _ _ => by kernel_rfl) hr hi
def p_token_all (L : FuncId → List V → V → Prop) (K : V → Heap → Prop) (a0 a1 : V) (h : Heap) : Prop :=
    (wi F L (.len 0 (.c a0)) E0 h fun v7 h =>
    (Wl F L lc_token_all_0 (q_token_all_0 L K) (upd (upd (upd (upd (enterE [a0, a1]) 4 (.bool false)) 6 a0) 7 v7) 8 (.int .i64 0)) h))
theorem run_token_all {L : FuncId → List V → V → Prop} {K : V → Heap → Prop} {a0 a1 : V} {h : Heap} (hp : p_token_all L K a0 a1 h) : Cf F L i_token_all [a0, a1] h K :=
  wcallp F_token_all (show 2 ≤ 18 by decide) (p := p_token_all L K a0 a1 h) (by kernel_rfl) hp
def k_token_inToken_1 (L : FuncId → List V → V → Prop) (K : V → Heap → Prop) (h : Heap) : Prop :=
    (∃ v, some (.bool false) = some v ∧ K v h)
def k_token_inToken_3 (L : FuncId → List V → V → Prop) (K : V → Heap → Prop) (N0 : Env → Heap → Prop) (e : Env) (v23 : V) (h : Heap) : Prop :=
    (wi F L (.bin .add (.c v23) (.c (.int .i64 1))) E0 h fun v29 h =>
    (N0 (upd (upd e 29 v29) 23 v29) h))
def k_token_inToken_2 (L : FuncId → List V → V → Prop) (K : V → Heap → Prop) (N0 : Env → Heap → Prop) (e : Env) (v0 v22 v23 : V) (h : Heap) : Prop :=
    (wi F L (.ixArr 15 1 false (.c v22) (.c v23)) E0 h fun v25 h =>
    (wi F L (.bin .eql (.c v25) (.c v0)) E0 h fun v28 h =>
    (wb v28
    (∃ v, some (.bool true) = some v ∧ K v h)
    (k_token_inToken_3 L K N0 (upd (upd (upd (upd (upd e 25 v25) 5 v25) 26 v25) 27 v0) 28 v28) v23 h))))
def q_token_inToken_0 (L : FuncId → List V → V → Prop) (K : V → Heap → Prop) : X → Env → Heap → Prop := (fun x => (seqX (fun e h => k_token_inToken_1 L K  h) (retX c_token_inToken.results K)) (X.out 0 x))
def lc_token_inToken_0 : C :=
  (.seq (.region [⟨(some 24), none, .bin .lss (.t 23) (.c (.int .i64 15))⟩])
  (.seq (.cond (.t 24)
    .skip
    (.exit 0))
  (.seq (.block 1 (.seq (.region [⟨(some 25), none, .ixArr 15 1 false (.t 22) (.t 23)⟩, ⟨(some 5), none, .mv (.t 25)⟩])
  (.seq (.region [⟨(some 26), none, .mv (.t 5)⟩, ⟨(some 27), none, .mv (.t 0)⟩, ⟨(some 28), none, .bin .eql (.t 26) (.t 27)⟩])
  (.cond (.t 28)
    (.seq (.region [⟨(some 2), none, .mv (.c (.bool true))⟩])
    .ret)
    .skip))))
  (.region [⟨(some 29), none, .bin .add (.t 23) (.c (.int .i64 1))⟩, ⟨(some 23), none, .mv (.t 29)⟩]))))
def b_token_inToken_0 (L : FuncId → List V → V → Prop) (K : V → Heap → Prop) (N0 : Env → Heap → Prop) (e : Env) (h : Heap) : Prop :=
    (wi F L (.bin .lss (.c (e 23)) (.c (.int .i64 15))) E0 h fun v24 h =>
    (wb v24
    (k_token_inToken_2 L K N0 (upd e 24 v24) (e 0) (e 22) (e 23) h)
    (k_token_inToken_1 L K  h)))
theorem l_token_inToken_0 {L : FuncId → List V → V → Prop} {K : V → Heap → Prop} (I : Nat → Env → Heap → Prop) (hr : ∀ n e h, I n e h → b_token_inToken_0 L K (fun e' h' => ∃ m, m < n ∧ I m e' h') e h) {n : Nat} {e : Env} {h : Heap} (hi : I n e h) : Wl F L lc_token_inToken_0 (q_token_inToken_0 L K) e h :=
  wloopp (b := b_token_inToken_0 L K) I (fun _ _ _ => by kernel_rfl) hr hi
def k_token_inToken_0 (L : FuncId → List V → V → Prop) (K : V → Heap → Prop) (e : Env) (h : Heap) : Prop :=
    (wi F L (.call i_token_marks []) E0 h fun v22 h =>
    (Wl F L lc_token_inToken_0 (q_token_inToken_0 L K) (upd (upd e 22 v22) 23 (.int .i64 0)) h))
def p_token_inToken (L : FuncId → List V → V → Prop) (K : V → Heap → Prop) (a0 : V) (h : Heap) : Prop :=
    (wi F L (.bin .or (.c a0) (.c (.int .u8 32))) E0 h fun v7 h =>
    (wi F L (.bin .geq (.c v7) (.c (.int .u8 97))) E0 h fun v9 h =>
    (wg v9 true (wi F L (.mv (.c v7)) E0 h) h fun v11 h =>
    (wg v9 true (wi F L (.bin .leq (.c v11) (.c (.int .u8 122))) E0 h) h fun v12 h =>
    (wi F L (.pick (.c v9) (.c v12) (.c (.bool false))) E0 h fun v13 h =>
    (wg v13 false (wi F L (.mv (.c a0)) E0 h) h fun v15 h =>
    (wg v13 false (wi F L (.bin .geq (.c v15) (.c (.int .u8 48))) E0 h) h fun v16 h =>
    (wg v13 false (wi F L (.mv (.c v16)) E0 h) h fun v17 h =>
    (wg v17 true (wi F L (.mv (.c a0)) E0 h) h fun v18 h =>
    (wg v17 true (wi F L (.bin .leq (.c v18) (.c (.int .u8 57))) E0 h) h fun v19 h =>
    (wg v13 false (wi F L (.pick (.c v17) (.c v19) (.c (.bool false))) E0 h) h fun v20 h =>
    (wi F L (.pick (.c v13) (.c (.bool true)) (.c v20)) E0 h fun v21 h =>
    (wb v21
    (∃ v, some (.bool true) = some v ∧ K v h)
    (k_token_inToken_0 L K (upd (upd (upd (upd (upd (upd (upd (upd (upd (upd (upd (upd (upd (upd (upd (upd (upd (upd (enterE [a0]) 2 (.bool false)) 6 a0) 7 v7) 3 v7) 8 v7) 9 v9) 10 v9) 11 v11) 12 v12) 13 v13) 14 v13) 15 v15) 16 v16) 17 v17) 18 v18) 19 v19) 20 v20) 21 v21)  h))))))))))))))
theorem run_token_inToken {L : FuncId → List V → V → Prop} {K : V → Heap → Prop} {a0 : V} {h : Heap} (hp : p_token_inToken L K a0 h) : Cf F L i_token_inToken [a0] h K :=
  wcallp F_token_inToken (show 1 ≤ 30 by decide) (p := p_token_inToken L K a0 h) (by kernel_rfl) hp
def k_field_without_0 (L : FuncId → List V → V → Prop) (K : V → Heap → Prop) (v0 v5 : V) (h : Heap) : Prop :=
    (wi F L (.mkfn i_field_without_1 [(.c v5)]) E0 h fun v20 h =>
    (wi F L (.call i_field_keep [(.c v0), (.c v20)]) E0 h fun v21 h =>
    (∃ v, some v21 = some v ∧ K v h)))
def k_field_without_2 (L : FuncId → List V → V → Prop) (K : V → Heap → Prop) (N0 : Env → Heap → Prop) (e : Env) (v11 : V) (h : Heap) : Prop :=
    (wi F L (.bin .add (.c v11) (.c (.int .i64 1))) E0 h fun v18 h =>
    (N0 (upd (upd e 18 v18) 11 v18) h))
def k_field_without_1 (L : FuncId → List V → V → Prop) (K : V → Heap → Prop) (N0 : Env → Heap → Prop) (e : Env) (v5 v9 v11 : V) (h : Heap) : Prop :=
    (wi F L (.ixaSl 1 (.c v9) (.c v11)) E0 h fun v13 h =>
    (wi F L (.load false 1 (.c v13)) E0 h fun v14 h =>
    (wi F L (.load false 1 (.c v5)) E0 h fun v15 h' => Ext h h' ∧
    (wi F L (.call i_token_Lower [(.c v14)]) E0 h' fun v17 h => Ext h' h ∧
    (wi F L (.mapset .s (.c v15) (.c v17) (.c (.bool true))) E0 h fun _ h =>
    (k_field_without_2 L K N0 (upd (upd (upd (upd (upd (upd e 13 v13) 14 v14) 7 v14) 15 v15) 16 v14) 17 v17) v11 h))))))
def q_field_without_0 (L : FuncId → List V → V → Prop) (K : V → Heap → Prop) : X → Env → Heap → Prop := (fun x => (seqX (fun e h => k_field_without_0 L K (e 0) (e 5) h) (retX c_field_without.results K)) (X.out 0 x))
def lc_field_without_0 : C :=
  (.seq (.region [⟨(some 12), none, .bin .lss (.t 11) (.t 10)⟩])
  (.seq (.cond (.t 12)
    .skip
    (.exit 0))
  (.seq (.block 1 (.seq (.region [⟨(some 13), none, .ixaSl 1 (.t 9) (.t 11)⟩, ⟨(some 14), none, .load false 1 (.t 13)⟩, ⟨(some 7), none, .mv (.t 14)⟩])
  (.dregion [⟨(some 15), none, .load false 1 (.t 5)⟩, ⟨(some 16), none, .mv (.t 7)⟩, ⟨(some 17), none, .call i_token_Lower [(.t 16)]⟩] [⟨none, none, .mapset .s (.t 15) (.t 17) (.c (.bool true))⟩])))
  (.region [⟨(some 18), none, .bin .add (.t 11) (.c (.int .i64 1))⟩, ⟨(some 11), none, .mv (.t 18)⟩]))))
def b_field_without_0 (L : FuncId → List V → V → Prop) (K : V → Heap → Prop) (N0 : Env → Heap → Prop) (e : Env) (h : Heap) : Prop :=
    (wi F L (.bin .lss (.c (e 11)) (.c (e 10))) E0 h fun v12 h =>
    (wb v12
    (k_field_without_1 L K N0 (upd e 12 v12) (e 5) (e 9) (e 11) h)
    (k_field_without_0 L K (e 0) (e 5) h)))
theorem l_field_without_0 {L : FuncId → List V → V → Prop} {K : V → Heap → Prop} (I : Nat → Env → Heap → Prop) (hr : ∀ n e h, I n e h → b_field_without_0 L K (fun e' h' => ∃ m, m < n ∧ I m e' h') e h) {n : Nat} {e : Env} {h : Heap} (hi : I n e h) : Wl F L lc_field_without_0 (q_field_without_0 L K) e h :=
  wloopp (b := b_field_without_0 L K) I (fun _ _ _ => by kernel_rfl) hr hi
def p_field_without (L : FuncId → List V → V → Prop) (K : V → Heap → Prop) (a0 a1 : V) (h : Heap) : Prop :=
    (wi F L (.mkmap) E0 h fun v8 h =>
    (wi F L (.boxz [.nmap]) E0 h fun v5 h =>
    (wi F L (.store 1 (.c v5) (.c v8)) E0 h fun _ h =>
    (wi F L (.len 1 (.c a1)) E0 h fun v10 h =>
    (Wl F L lc_field_without_0 (q_field_without_0 L K) (upd (upd (upd (upd (upd (upd (enterE [a0, a1]) 4 .nsl) 8 v8) 5 v5) 9 a1) 10 v10) 11 (.int .i64 0)) h)))))
theorem run_field_without {L : FuncId → List V → V → Prop} {K : V → Heap → Prop} {a0 a1 : V} {h : Heap} (hp : p_field_without L K a0 a1 h) : Cf F L i_field_without [a0, a1] h K :=
  wcallp F_field_without (show 2 ≤ 22 by decide) (p := p_field_without L K a0 a1 h) (by kernel_rfl) hp
def p_token_Same (L : FuncId → List V → V → Prop) (K : V → Heap → Prop) (a0 a1 : V) (h : Heap) : Prop :=
    (wi F L (.len 0 (.c a0)) E0 h fun v6 h =>
    (wi F L (.len 0 (.c a1)) E0 h fun v8 h =>
    (wi F L (.bin .eql (.c v6) (.c v8)) E0 h fun v9 h =>
    (wg v9 true (wi F L (.mv (.c a0)) E0 h) h fun v11 h =>
    (wg v9 true (wi F L (.call i_token_Lower [(.c v11)]) E0 h) h fun v12 h =>
    (wg v9 true (wi F L (.mv (.c a1)) E0 h) h fun v13 h =>
    (wg v9 true (wi F L (.call i_token_Lower [(.c v13)]) E0 h) h fun v14 h =>
    (wg v9 true (wi F L (.bin .eql (.c v12) (.c v14)) E0 h) h fun v15 h =>
    (wi F L (.pick (.c v9) (.c v15) (.c (.bool false))) E0 h fun v16 h =>
    (∃ v, some v16 = some v ∧ K v h))))))))))
theorem run_token_Same {L : FuncId → List V → V → Prop} {K : V → Heap → Prop} {a0 a1 : V} {h : Heap} (hp : p_token_Same L K a0 a1 h) : Cf F L i_token_Same [a0, a1] h K :=
  wcallp F_token_Same (show 2 ≤ 17 by decide) (p := p_token_Same L K a0 a1 h) (by kernel_rfl) hp
def p_gatepostref01_Same (L : FuncId → List V → V → Prop) (K : V → Heap → Prop) (a0 a1 : V) (h : Heap) : Prop :=
    (wi F L (.call i_gatepostref01_Lower [(.c a0)]) E0 h fun v6 h =>
    (wi F L (.call i_gatepostref01_Lower [(.c a1)]) E0 h fun v8 h =>
    (wi F L (.bin .eql (.c v6) (.c v8)) E0 h fun v9 h =>
    (∃ v, some v9 = some v ∧ K v h))))
theorem run_gatepostref01_Same {L : FuncId → List V → V → Prop} {K : V → Heap → Prop} {a0 a1 : V} {h : Heap} (hp : p_gatepostref01_Same L K a0 a1 h) : Cf F L i_gatepostref01_Same [a0, a1] h K :=
  wcallp F_gatepostref01_Same (show 2 ≤ 10 by decide) (p := p_gatepostref01_Same L K a0 a1 h) (by kernel_rfl) hp
def k_gatepostref01_Split_2 (L : FuncId → List V → V → Prop) (K : V → Heap → Prop) (v4 : V) (h : Heap) : Prop :=
    (∃ v, resultsV h (enterE [v4, (.bool true)]) [.tmp 0, .tmp 1] = some v ∧ K v h)
def k_gatepostref01_Split_1 (L : FuncId → List V → V → Prop) (K : V → Heap → Prop) (v4 v5 : V) (h : Heap) : Prop :=
    (wi F L (.bin .neq (.c v5) (.c (.str []))) E0 h fun v68 h =>
    (wb v68
    (wi F L (.bsl 1 [(.c v5)]) E0 h fun v71 h =>
    (wi F L (.app 1 16 false (.c v4) (.c v71)) E0 h fun v72 h =>
    (k_gatepostref01_Split_2 L K v72 h)))
    (k_gatepostref01_Split_2 L K v4 h)))
def k_gatepostref01_Split_0 (L : FuncId → List V → V → Prop) (K : V → Heap → Prop) (v4 v5 v6 : V) (h : Heap) : Prop :=
    (wi F L (.call i_gatepostref01_Trim [(.c v5)]) E0 h fun v65 h =>
    (wb v6
    (∃ v, resultsV h (enterE [.nsl, (.bool false)]) [.tmp 0, .tmp 1] = some v ∧ K v h)
    (k_gatepostref01_Split_1 L K v4 v65 h)))
def k_gatepostref01_Split_4 (L : FuncId → List V → V → Prop) (K : V → Heap → Prop) (N0 : Env → Heap → Prop) (e : Env) (v7 : V) (h : Heap) : Prop :=
    (wi F L (.bin .add (.c v7) (.c (.int .i64 1))) E0 h fun v14 h =>
    (N0 (upd (upd (upd e 13 v7) 14 v14) 7 v14) h))
def k_gatepostref01_Split_6 (L : FuncId → List V → V → Prop) (K : V → Heap → Prop) (N0 : Env → Heap → Prop) (e : Env) (v0 v5 v6 v7 v8 : V) (h : Heap) : Prop :=
    (wg v6 true (wi F L (.mv (.c v8)) E0 h) h fun v45 h =>
    (wg v6 true (wi F L (.bin .eql (.c v45) (.c (.int .u8 92))) E0 h) h fun v46 h =>
    (wi F L (.pick (.c v6) (.c v46) (.c (.bool false))) E0 h fun v47 h =>
    (wg v47 true (wi F L (.mv (.c v7)) E0 h) h fun v49 h =>
    (wg v47 true (wi F L (.bin .add (.c v49) (.c (.int .i64 1))) E0 h) h fun v50 h =>
    (wg v47 true (wi F L (.mv (.c v0)) E0 h) h fun v51 h =>
    (wg v47 true (wi F L (.len 0 (.c v51)) E0 h) h fun v52 h =>
    (wg v47 true (wi F L (.bin .lss (.c v50) (.c v52)) E0 h) h fun v53 h =>
    (wi F L (.pick (.c v47) (.c v53) (.c (.bool false))) E0 h fun v54 h =>
    (wb v54
    (wi F L (.bin .add (.c v7) (.c (.int .i64 1))) E0 h fun v56 h =>
    (wi F L (.bin .add (.c v56) (.c (.int .i64 1))) E0 h fun v61 h =>
    (wi F L (.slstr (.c v0) (some (.c v56)) (some (.c v61))) E0 h fun v62 h =>
    (wi F L (.bin .add (.c v5) (.c v62)) E0 h fun v63 h =>
    (k_gatepostref01_Split_4 L K N0 (upd (upd (upd (upd (upd (upd (upd (upd (upd (upd (upd (upd (upd (upd (upd (upd (upd (upd (upd (upd (upd (upd (upd e 43 v6) 44 v6) 45 v45) 46 v46) 47 v47) 48 v47) 49 v49) 50 v50) 51 v51) 52 v52) 53 v53) 54 v54) 55 v7) 56 v56) 7 v56) 57 v5) 58 v0) 59 v56) 60 v56) 61 v61) 62 v62) 63 v63) 5 v63) v56 h)))))
    (k_gatepostref01_Split_4 L K N0 (upd (upd (upd (upd (upd (upd (upd (upd (upd (upd (upd (upd e 43 v6) 44 v6) 45 v45) 46 v46) 47 v47) 48 v47) 49 v49) 50 v50) 51 v51) 52 v52) 53 v53) 54 v54) v7 h)))))))))))
def k_gatepostref01_Split_5 (L : FuncId → List V → V → Prop) (K : V → Heap → Prop) (N0 : Env → Heap → Prop) (e : Env) (v0 v5 v6 v7 v8 : V) (h : Heap) : Prop :=
    (wi F L (.bin .add (.c v7) (.c (.int .i64 1))) E0 h fun v36 h =>
    (wi F L (.slstr (.c v0) (some (.c v7)) (some (.c v36))) E0 h fun v37 h =>
    (wi F L (.bin .add (.c v5) (.c v37)) E0 h fun v38 h =>
    (wi F L (.bin .eql (.c v8) (.c (.int .u8 34))) E0 h fun v40 h =>
    (wb v40
    (wi F L (.un .not (.c v6)) E0 h fun v42 h =>
    (k_gatepostref01_Split_6 L K N0 (upd (upd (upd (upd (upd (upd (upd (upd (upd (upd (upd (upd (upd e 32 v5) 33 v0) 34 v7) 35 v7) 36 v36) 37 v37) 38 v38) 5 v38) 39 v8) 40 v40) 41 v6) 42 v42) 6 v42) v0 v38 v42 v7 v8 h))
    (k_gatepostref01_Split_6 L K N0 (upd (upd (upd (upd (upd (upd (upd (upd (upd (upd e 32 v5) 33 v0) 34 v7) 35 v7) 36 v36) 37 v37) 38 v38) 5 v38) 39 v8) 40 v40) v0 v38 v6 v7 v8 h))))))
def k_gatepostref01_Split_7 (L : FuncId → List V → V → Prop) (K : V → Heap → Prop) (N0 : Env → Heap → Prop) (e : Env) (v7 : V) (h : Heap) : Prop :=
    (k_gatepostref01_Split_4 L K N0 (upd e 5 (.str [])) v7 h)
def k_gatepostref01_Split_3 (L : FuncId → List V → V → Prop) (K : V → Heap → Prop) (N0 : Env → Heap → Prop) (e : Env) (v0 v4 v5 v6 v7 : V) (h : Heap) : Prop :=
    (wi F L (.ixStr (.c v0) (.c v7)) E0 h fun v17 h =>
    (wi F L (.un .not (.c v6)) E0 h fun v19 h =>
    (wg v19 true (wi F L (.mv (.c v17)) E0 h) h fun v21 h =>
    (wg v19 true (wi F L (.bin .eql (.c v21) (.c (.int .u8 44))) E0 h) h fun v22 h =>
    (wi F L (.pick (.c v19) (.c v22) (.c (.bool false))) E0 h fun v23 h =>
    (wb v23
    (wi F L (.call i_gatepostref01_Trim [(.c v5)]) E0 h fun v25 h =>
    (wi F L (.bin .neq (.c v25) (.c (.str []))) E0 h fun v27 h =>
    (wb v27
    (wi F L (.bsl 1 [(.c v25)]) E0 h fun v30 h =>
    (wi F L (.app 1 16 false (.c v4) (.c v30)) E0 h fun v31 h =>
    (k_gatepostref01_Split_7 L K N0 (upd (upd (upd (upd (upd (upd (upd (upd (upd (upd (upd (upd (upd (upd (upd (upd (upd (upd (upd (upd e 15 v0) 16 v7) 17 v17) 8 v17) 18 v6) 19 v19) 20 v19) 21 v21) 22 v22) 23 v23) 24 v5) 25 v25) 5 v25) 26 v25) 27 v27) 28 v4) 29 v25) 30 v30) 31 v31) 4 v31) v7 h)))
    (k_gatepostref01_Split_7 L K N0 (upd (upd (upd (upd (upd (upd (upd (upd (upd (upd (upd (upd (upd (upd (upd e 15 v0) 16 v7) 17 v17) 8 v17) 18 v6) 19 v19) 20 v19) 21 v21) 22 v22) 23 v23) 24 v5) 25 v25) 5 v25) 26 v25) 27 v27) v7 h))))
    (k_gatepostref01_Split_5 L K N0 (upd (upd (upd (upd (upd (upd (upd (upd (upd (upd e 15 v0) 16 v7) 17 v17) 8 v17) 18 v6) 19 v19) 20 v19) 21 v21) 22 v22) 23 v23) v0 v5 v6 v7 v17 h)))))))
def q_gatepostref01_Split_0 (L : FuncId → List V → V → Prop) (K : V → Heap → Prop) : X → Env → Heap → Prop := (fun x => (seqX (fun e h => k_gatepostref01_Split_0 L K (e 4) (e 5) (e 6) h) (retX c_gatepostref01_Split.results K)) (X.out 0 x))
def lc_gatepostref01_Split_0 : C :=
  (.seq (.seq (.region [⟨(some 9), none, .mv (.t 7)⟩, ⟨(some 10), none, .mv (.t 0)⟩, ⟨(some 11), none, .len 0 (.t 10)⟩, ⟨(some 12), none, .bin .lss (.t 9) (.t 11)⟩])
  (.cond (.t 12)
    .skip
    (.exit 0)))
  (.seq (.block 1 (.seq (.region [⟨(some 15), none, .mv (.t 0)⟩, ⟨(some 16), none, .mv (.t 7)⟩, ⟨(some 17), none, .ixStr (.t 15) (.t 16)⟩, ⟨(some 8), none, .mv (.t 17)⟩])
  (.seq (.seq (.region [⟨(some 18), none, .mv (.t 6)⟩, ⟨(some 19), none, .un .not (.t 18)⟩, ⟨(some 20), none, .mv (.t 19)⟩, ⟨(some 21), (some (20, true)), .mv (.t 8)⟩, ⟨(some 22), (some (20, true)), .bin .eql (.t 21) (.c (.int .u8 44))⟩, ⟨(some 23), none, .pick (.t 20) (.t 22) (.c (.bool false))⟩])
  (.cond (.t 23)
    (.seq (.region [⟨(some 24), none, .mv (.t 5)⟩, ⟨(some 25), none, .call i_gatepostref01_Trim [(.t 24)]⟩, ⟨(some 5), none, .mv (.t 25)⟩])
    (.seq (.seq (.region [⟨(some 26), none, .mv (.t 5)⟩, ⟨(some 27), none, .bin .neq (.t 26) (.c (.str []))⟩])
    (.cond (.t 27)
      (.region [⟨(some 28), none, .mv (.t 4)⟩, ⟨(some 29), none, .mv (.t 5)⟩, ⟨(some 30), none, .bsl 1 [(.t 29)]⟩, ⟨(some 31), none, .app 1 16 false (.t 28) (.t 30)⟩, ⟨(some 4), none, .mv (.t 31)⟩])
      .skip))
    (.seq (.region [⟨(some 5), none, .mv (.c (.str []))⟩])
    (.exit 1))))
    .skip))
  (.seq (.region [⟨(some 32), none, .mv (.t 5)⟩, ⟨(some 33), none, .mv (.t 0)⟩, ⟨(some 34), none, .mv (.t 7)⟩, ⟨(some 35), none, .mv (.t 7)⟩, ⟨(some 36), none, .bin .add (.t 35) (.c (.int .i64 1))⟩, ⟨(some 37), none, .slstr (.t 33) (some (.t 34)) (some (.t 36))⟩, ⟨(some 38), none, .bin .add (.t 32) (.t 37)⟩, ⟨(some 5), none, .mv (.t 38)⟩])
  (.seq (.seq (.region [⟨(some 39), none, .mv (.t 8)⟩, ⟨(some 40), none, .bin .eql (.t 39) (.c (.int .u8 34))⟩])
  (.cond (.t 40)
    (.region [⟨(some 41), none, .mv (.t 6)⟩, ⟨(some 42), none, .un .not (.t 41)⟩, ⟨(some 6), none, .mv (.t 42)⟩])
    .skip))
  (.seq (.region [⟨(some 43), none, .mv (.t 6)⟩, ⟨(some 44), none, .mv (.t 43)⟩, ⟨(some 45), (some (44, true)), .mv (.t 8)⟩, ⟨(some 46), (some (44, true)), .bin .eql (.t 45) (.c (.int .u8 92))⟩, ⟨(some 47), none, .pick (.t 44) (.t 46) (.c (.bool false))⟩, ⟨(some 48), none, .mv (.t 47)⟩, ⟨(some 49), (some (48, true)), .mv (.t 7)⟩, ⟨(some 50), (some (48, true)), .bin .add (.t 49) (.c (.int .i64 1))⟩, ⟨(some 51), (some (48, true)), .mv (.t 0)⟩, ⟨(some 52), (some (48, true)), .len 0 (.t 51)⟩, ⟨(some 53), (some (48, true)), .bin .lss (.t 50) (.t 52)⟩, ⟨(some 54), none, .pick (.t 48) (.t 53) (.c (.bool false))⟩])
  (.cond (.t 54)
    (.seq (.region [⟨(some 55), none, .mv (.t 7)⟩, ⟨(some 56), none, .bin .add (.t 55) (.c (.int .i64 1))⟩, ⟨(some 7), none, .mv (.t 56)⟩])
    (.region [⟨(some 57), none, .mv (.t 5)⟩, ⟨(some 58), none, .mv (.t 0)⟩, ⟨(some 59), none, .mv (.t 7)⟩, ⟨(some 60), none, .mv (.t 7)⟩, ⟨(some 61), none, .bin .add (.t 60) (.c (.int .i64 1))⟩, ⟨(some 62), none, .slstr (.t 58) (some (.t 59)) (some (.t 61))⟩, ⟨(some 63), none, .bin .add (.t 57) (.t 62)⟩, ⟨(some 5), none, .mv (.t 63)⟩]))
    .skip)))))))
  (.region [⟨(some 13), none, .mv (.t 7)⟩, ⟨(some 14), none, .bin .add (.t 13) (.c (.int .i64 1))⟩, ⟨(some 7), none, .mv (.t 14)⟩])))
def b_gatepostref01_Split_0 (L : FuncId → List V → V → Prop) (K : V → Heap → Prop) (N0 : Env → Heap → Prop) (e : Env) (h : Heap) : Prop :=
    (wi F L (.len 0 (.c (e 0))) E0 h fun v11 h =>
    (wi F L (.bin .lss (.c (e 7)) (.c v11)) E0 h fun v12 h =>
    (wb v12
    (k_gatepostref01_Split_3 L K N0 (upd (upd (upd (upd e 9 (e 7)) 10 (e 0)) 11 v11) 12 v12) (e 0) (e 4) (e 5) (e 6) (e 7) h)
    (k_gatepostref01_Split_0 L K (e 4) (e 5) (e 6) h))))
theorem l_gatepostref01_Split_0 {L : FuncId → List V → V → Prop} {K : V → Heap → Prop} (I : Nat → Env → Heap → Prop) (hr : ∀ n e h, I n e h → b_gatepostref01_Split_0 L K (fun e' h' => ∃ m, m < n ∧ I m e' h') e h) {n : Nat} {e : Env} {h : Heap} (hi : I n e h) : Wl F L lc_gatepostref01_Split_0 (q_gatepostref01_Split_0 L K) e h :=
  wloopp (b := b_gatepostref01_Split_0 L K) I (fun _ _ _ => by kernel_rfl) hr hi
def p_gatepostref01_Split (L : FuncId → List V → V → Prop) (K : V → Heap → Prop) (a0 : V) (h : Heap) : Prop :=
    (Wl F L lc_gatepostref01_Split_0 (q_gatepostref01_Split_0 L K) (upd (upd (upd (upd (upd (upd (enterE [a0]) 2 .nsl) 3 (.bool false)) 4 .nsl) 5 (.str [])) 6 (.bool false)) 7 (.int .i64 0)) h)
theorem run_gatepostref01_Split {L : FuncId → List V → V → Prop} {K : V → Heap → Prop} {a0 : V} {h : Heap} (hp : p_gatepostref01_Split L K a0 h) : Cf F L i_gatepostref01_Split [a0] h K :=
  wcallp F_gatepostref01_Split (show 1 ≤ 74 by decide) (p := p_gatepostref01_Split L K a0 h) (by kernel_rfl) hp
def k_gatepostref01_Lower_0 (L : FuncId → List V → V → Prop) (K : V → Heap → Prop) (v3 : V) (h : Heap) : Prop :=
    (∃ v, some v3 = some v ∧ K v h)
def k_gatepostref01_Lower_2 (L : FuncId → List V → V → Prop) (K : V → Heap → Prop) (N0 : Env → Heap → Prop) (e : Env) (v4 : V) (h : Heap) : Prop :=
    (wi F L (.bin .add (.c v4) (.c (.int .i64 1))) E0 h fun v11 h =>
    (N0 (upd (upd (upd e 10 v4) 11 v11) 4 v11) h))
def k_gatepostref01_Lower_3 (L : FuncId → List V → V → Prop) (K : V → Heap → Prop) (N0 : Env → Heap → Prop) (e : Env) (v3 v4 v5 : V) (h : Heap) : Prop :=
    (wi F L (.bsl 1 [(.c v5)]) E0 h fun v25 h =>
    (wi F L (.toStr (.c v25)) E0 h fun v26 h =>
    (wi F L (.bin .add (.c v3) (.c v26)) E0 h fun v27 h =>
    (k_gatepostref01_Lower_2 L K N0 (upd (upd (upd (upd (upd (upd e 23 v3) 24 v5) 25 v25) 26 v26) 27 v27) 3 v27) v4 h))))
def k_gatepostref01_Lower_1 (L : FuncId → List V → V → Prop) (K : V → Heap → Prop) (N0 : Env → Heap → Prop) (e : Env) (v0 v3 v4 : V) (h : Heap) : Prop :=
    (wi F L (.ixStr (.c v0) (.c v4)) E0 h fun v14 h =>
    (wi F L (.bin .geq (.c v14) (.c (.int .u8 65))) E0 h fun v16 h =>
    (wg v16 true (wi F L (.mv (.c v14)) E0 h) h fun v18 h =>
    (wg v16 true (wi F L (.bin .leq (.c v18) (.c (.int .u8 90))) E0 h) h fun v19 h =>
    (wi F L (.pick (.c v16) (.c v19) (.c (.bool false))) E0 h fun v20 h =>
    (wb v20
    (wi F L (.bin .add (.c v14) (.c (.int .u8 32))) E0 h fun v22 h =>
    (k_gatepostref01_Lower_3 L K N0 (upd (upd (upd (upd (upd (upd (upd (upd (upd (upd (upd (upd (upd e 12 v0) 13 v4) 14 v14) 5 v14) 15 v14) 16 v16) 17 v16) 18 v18) 19 v19) 20 v20) 21 v14) 22 v22) 5 v22) v3 v4 v22 h))
    (k_gatepostref01_Lower_3 L K N0 (upd (upd (upd (upd (upd (upd (upd (upd (upd (upd e 12 v0) 13 v4) 14 v14) 5 v14) 15 v14) 16 v16) 17 v16) 18 v18) 19 v19) 20 v20) v3 v4 v14 h)))))))
def q_gatepostref01_Lower_0 (L : FuncId → List V → V → Prop) (K : V → Heap → Prop) : X → Env → Heap → Prop := (fun x => (seqX (fun e h => k_gatepostref01_Lower_0 L K (e 3) h) (retX c_gatepostref01_Lower.results K)) (X.out 0 x))
def lc_gatepostref01_Lower_0 : C :=
  (.seq (.seq (.region [⟨(some 6), none, .mv (.t 4)⟩, ⟨(some 7), none, .mv (.t 0)⟩, ⟨(some 8), none, .len 0 (.t 7)⟩, ⟨(some 9), none, .bin .lss (.t 6) (.t 8)⟩])
  (.cond (.t 9)
    .skip
    (.exit 0)))
  (.seq (.block 1 (.seq (.region [⟨(some 12), none, .mv (.t 0)⟩, ⟨(some 13), none, .mv (.t 4)⟩, ⟨(some 14), none, .ixStr (.t 12) (.t 13)⟩, ⟨(some 5), none, .mv (.t 14)⟩])
  (.seq (.seq (.region [⟨(some 15), none, .mv (.t 5)⟩, ⟨(some 16), none, .bin .geq (.t 15) (.c (.int .u8 65))⟩, ⟨(some 17), none, .mv (.t 16)⟩, ⟨(some 18), (some (17, true)), .mv (.t 5)⟩, ⟨(some 19), (some (17, true)), .bin .leq (.t 18) (.c (.int .u8 90))⟩, ⟨(some 20), none, .pick (.t 17) (.t 19) (.c (.bool false))⟩])
  (.cond (.t 20)
    (.region [⟨(some 21), none, .mv (.t 5)⟩, ⟨(some 22), none, .bin .add (.t 21) (.c (.int .u8 32))⟩, ⟨(some 5), none, .mv (.t 22)⟩])
    .skip))
  (.region [⟨(some 23), none, .mv (.t 3)⟩, ⟨(some 24), none, .mv (.t 5)⟩, ⟨(some 25), none, .bsl 1 [(.t 24)]⟩, ⟨(some 26), none, .toStr (.t 25)⟩, ⟨(some 27), none, .bin .add (.t 23) (.t 26)⟩, ⟨(some 3), none, .mv (.t 27)⟩]))))
  (.region [⟨(some 10), none, .mv (.t 4)⟩, ⟨(some 11), none, .bin .add (.t 10) (.c (.int .i64 1))⟩, ⟨(some 4), none, .mv (.t 11)⟩])))
def b_gatepostref01_Lower_0 (L : FuncId → List V → V → Prop) (K : V → Heap → Prop) (N0 : Env → Heap → Prop) (e : Env) (h : Heap) : Prop :=
    (wi F L (.len 0 (.c (e 0))) E0 h fun v8 h =>
    (wi F L (.bin .lss (.c (e 4)) (.c v8)) E0 h fun v9 h =>
    (wb v9
    (k_gatepostref01_Lower_1 L K N0 (upd (upd (upd (upd e 6 (e 4)) 7 (e 0)) 8 v8) 9 v9) (e 0) (e 3) (e 4) h)
    (k_gatepostref01_Lower_0 L K (e 3) h))))
theorem l_gatepostref01_Lower_0 {L : FuncId → List V → V → Prop} {K : V → Heap → Prop} (I : Nat → Env → Heap → Prop) (hr : ∀ n e h, I n e h → b_gatepostref01_Lower_0 L K (fun e' h' => ∃ m, m < n ∧ I m e' h') e h) {n : Nat} {e : Env} {h : Heap} (hi : I n e h) : Wl F L lc_gatepostref01_Lower_0 (q_gatepostref01_Lower_0 L K) e h :=
  wloopp (b := b_gatepostref01_Lower_0 L K) I (fun _ _ _ => by kernel_rfl) hr hi
def p_gatepostref01_Lower (L : FuncId → List V → V → Prop) (K : V → Heap → Prop) (a0 : V) (h : Heap) : Prop :=
    (Wl F L lc_gatepostref01_Lower_0 (q_gatepostref01_Lower_0 L K) (upd (upd (upd (enterE [a0]) 2 (.str [])) 3 (.str [])) 4 (.int .i64 0)) h)
theorem run_gatepostref01_Lower {L : FuncId → List V → V → Prop} {K : V → Heap → Prop} {a0 : V} {h : Heap} (hp : p_gatepostref01_Lower L K a0 h) : Cf F L i_gatepostref01_Lower [a0] h K :=
  wcallp F_gatepostref01_Lower (show 1 ≤ 29 by decide) (p := p_gatepostref01_Lower L K a0 h) (by kernel_rfl) hp
def k_internal_stringslite_Cut_0 (L : FuncId → List V → V → Prop) (K : V → Heap → Prop) (v0 : V) (h : Heap) : Prop :=
    (∃ v, resultsV h (enterE [v0, (.str []), (.bool false)]) [.tmp 0, .tmp 1, .tmp 2] = some v ∧ K v h)
def p_internal_stringslite_Cut (L : FuncId → List V → V → Prop) (K : V → Heap → Prop) (a0 a1 : V) (h : Heap) : Prop :=
    (wi F L (.call i_internal_stringslite_Index [(.c a0), (.c a1)]) E0 h fun v10 h =>
    (wi F L (.bin .geq (.c v10) (.c (.int .i64 0))) E0 h fun v12 h =>
    (wb v12
    (wi F L (.slstr (.c a0) none (some (.c v10))) E0 h fun v15 h' => Ext h h' ∧
    (wi F L (.len 0 (.c a1)) E0 h' fun v19 h => Ext h' h ∧
    (wi F L (.bin .add (.c v10) (.c v19)) E0 h fun v20 h' => Ext h h' ∧
    (wi F L (.slstr (.c a0) (some (.c v20)) none) E0 h' fun v21 h => Ext h' h ∧
    (∃ v, resultsV h (enterE [v15, v21, (.bool true)]) [.tmp 0, .tmp 1, .tmp 2] = some v ∧ K v h)))))
    (k_internal_stringslite_Cut_0 L K a0 h))))
theorem run_internal_stringslite_Cut {L : FuncId → List V → V → Prop} {K : V → Heap → Prop} {a0 a1 : V} {h : Heap} (hp : p_internal_stringslite_Cut L K a0 a1 h) : Cf F L i_internal_stringslite_Cut [a0, a1] h K :=
  wcallp F_internal_stringslite_Cut (show 2 ≤ 23 by decide) (p := p_internal_stringslite_Cut L K a0 a1 h) (by kernel_rfl) hp
def k_strings_Trim_2 (L : FuncId → List V → V → Prop) (K : V → Heap → Prop) (v0 v1 : V) (h : Heap) : Prop :=
    (wi F L (.call i_strings_trimRightUnicode [(.c v0), (.c v1)]) E0 h fun v40 h =>
    (wi F L (.call i_strings_trimLeftUnicode [(.c v40), (.c v1)]) E0 h fun v42 h =>
    (∃ v, some v42 = some v ∧ K v h)))
def k_strings_Trim_1 (L : FuncId → List V → V → Prop) (K : V → Heap → Prop) (v0 v1 : V) (h : Heap) : Prop :=
    (wi F L (.call i_strings_makeASCIISet [(.c v1)]) E0 h fun v31 h =>
    (wi F L (.ext 0 (.c v31)) E0 h fun v32 h =>
    (wi F L (.ext 1 (.c v31)) E0 h fun v33 h =>
    (wi F L (.boxz (List.replicate 256 (.bool false))) E0 h fun v5 h =>
    (wi F L (.store 256 (.c v5) (.c v32)) E0 h fun _ h =>
    (wb v33
    (wi F L (.call i_strings_trimRightASCII [(.c v0), (.c v5)]) E0 h fun v36 h =>
    (wi F L (.call i_strings_trimLeftASCII [(.c v36), (.c v5)]) E0 h fun v37 h =>
    (∃ v, some v37 = some v ∧ K v h)))
    (k_strings_Trim_2 L K v0 v1 h)))))))
def k_strings_Trim_0 (L : FuncId → List V → V → Prop) (K : V → Heap → Prop) (v0 v1 : V) (h : Heap) : Prop :=
    (wi F L (.len 0 (.c v1)) E0 h fun v15 h =>
    (wi F L (.bin .eql (.c v15) (.c (.int .i64 1))) E0 h fun v16 h =>
    (wg v16 true (wi F L (.mv (.c v1)) E0 h) h fun v18 h =>
    (wg v16 true (wi F L (.ixStr (.c v18) (.c (.int .i64 0))) E0 h) h fun v19 h =>
    (wg v16 true (wi F L (.bin .lss (.c v19) (.c (.int .u8 128))) E0 h) h fun v20 h =>
    (wi F L (.pick (.c v16) (.c v20) (.c (.bool false))) E0 h fun v21 h =>
    (wb v21
    (wi F L (.ixStr (.c v1) (.c (.int .i64 0))) E0 h fun v24 h' => Ext h h' ∧
    (wi F L (.call i_strings_trimRightByte [(.c v0), (.c v24)]) E0 h' fun v25 h => Ext h' h ∧
    (wi F L (.ixStr (.c v1) (.c (.int .i64 0))) E0 h fun v27 h' => Ext h h' ∧
    (wi F L (.call i_strings_trimLeftByte [(.c v25), (.c v27)]) E0 h' fun v28 h =>
    (∃ v, some v28 = some v ∧ K v h)))))
    (k_strings_Trim_1 L K v0 v1 h))))))))
def p_strings_Trim (L : FuncId → List V → V → Prop) (K : V → Heap → Prop) (a0 a1 : V) (h : Heap) : Prop :=
    (wi F L (.bin .eql (.c a0) (.c (.str []))) E0 h fun v8 h =>
    (wg v8 false (wi F L (.mv (.c a1)) E0 h) h fun v10 h =>
    (wg v8 false (wi F L (.bin .eql (.c v10) (.c (.str []))) E0 h) h fun v11 h =>
    (wi F L (.pick (.c v8) (.c (.bool true)) (.c v11)) E0 h fun v12 h =>
    (wb v12
    (∃ v, some a0 = some v ∧ K v h)
    (k_strings_Trim_0 L K a0 a1 h))))))
theorem run_strings_Trim {L : FuncId → List V → V → Prop} {K : V → Heap → Prop} {a0 a1 : V} {h : Heap} (hp : p_strings_Trim L K a0 a1 h) : Cf F L i_strings_Trim [a0, a1] h K :=
  wcallp F_strings_Trim (show 2 ≤ 43 by decide) (p := p_strings_Trim L K a0 a1 h) (by kernel_rfl) hp
def p_token_Value (L : FuncId → List V → V → Prop) (K : V → Heap → Prop) (a0 : V) (h : Heap) : Prop :=
    (wi F L (.call i_token_Trim [(.c a0)]) E0 h fun v4 h =>
    (wi F L (.bin .eql (.c v4) (.c a0)) E0 h fun v6 h =>
    (wg v6 true (wi F L (.mv (.c a0)) E0 h) h fun v8 h =>
    (wg v6 true (wi F L (.call i_token_all [(.c v8), (.c (.fn i_token_Value_1 []))]) E0 h) h fun v9 h =>
    (wi F L (.pick (.c v6) (.c v9) (.c (.bool false))) E0 h fun v10 h =>
    (∃ v, some v10 = some v ∧ K v h))))))
theorem run_token_Value {L : FuncId → List V → V → Prop} {K : V → Heap → Prop} {a0 : V} {h : Heap} (hp : p_token_Value L K a0 h) : Cf F L i_token_Value [a0] h K :=
  wcallp F_token_Value (show 1 ≤ 11 by decide) (p := p_token_Value L K a0 h) (by kernel_rfl) hp
def k_gatepostref01_tchar_1 (L : FuncId → List V → V → Prop) (K : V → Heap → Prop) (h : Heap) : Prop :=
    (∃ v, some (.bool false) = some v ∧ K v h)
def k_gatepostref01_tchar_2 (L : FuncId → List V → V → Prop) (K : V → Heap → Prop) (v26 : V) (h : Heap) : Prop :=
    (wb v26
    (∃ v, some (.bool true) = some v ∧ K v h)
    (k_gatepostref01_tchar_1 L K  h))
def k_gatepostref01_tchar_0 (L : FuncId → List V → V → Prop) (K : V → Heap → Prop) (v0 : V) (h : Heap) : Prop :=
    (wi F L (.bin .eql (.c v0) (.c (.int .u8 33))) E0 h fun v27 h =>
    (wb v27
    (k_gatepostref01_tchar_2 L K v27 h)
    (wi F L (.bin .eql (.c v0) (.c (.int .u8 35))) E0 h fun v28 h =>
    (wb v28
    (k_gatepostref01_tchar_2 L K v28 h)
    (wi F L (.bin .eql (.c v0) (.c (.int .u8 36))) E0 h fun v29 h =>
    (wb v29
    (k_gatepostref01_tchar_2 L K v29 h)
    (wi F L (.bin .eql (.c v0) (.c (.int .u8 37))) E0 h fun v30 h =>
    (wb v30
    (k_gatepostref01_tchar_2 L K v30 h)
    (wi F L (.bin .eql (.c v0) (.c (.int .u8 38))) E0 h fun v31 h =>
    (wb v31
    (k_gatepostref01_tchar_2 L K v31 h)
    (wi F L (.bin .eql (.c v0) (.c (.int .u8 39))) E0 h fun v32 h =>
    (wb v32
    (k_gatepostref01_tchar_2 L K v32 h)
    (wi F L (.bin .eql (.c v0) (.c (.int .u8 42))) E0 h fun v33 h =>
    (wb v33
    (k_gatepostref01_tchar_2 L K v33 h)
    (wi F L (.bin .eql (.c v0) (.c (.int .u8 43))) E0 h fun v34 h =>
    (wb v34
    (k_gatepostref01_tchar_2 L K v34 h)
    (wi F L (.bin .eql (.c v0) (.c (.int .u8 45))) E0 h fun v35 h =>
    (wb v35
    (k_gatepostref01_tchar_2 L K v35 h)
    (wi F L (.bin .eql (.c v0) (.c (.int .u8 46))) E0 h fun v36 h =>
    (wb v36
    (k_gatepostref01_tchar_2 L K v36 h)
    (wi F L (.bin .eql (.c v0) (.c (.int .u8 94))) E0 h fun v37 h =>
    (wb v37
    (k_gatepostref01_tchar_2 L K v37 h)
    (wi F L (.bin .eql (.c v0) (.c (.int .u8 95))) E0 h fun v38 h =>
    (wb v38
    (k_gatepostref01_tchar_2 L K v38 h)
    (wi F L (.bin .eql (.c v0) (.c (.int .u8 96))) E0 h fun v39 h =>
    (wb v39
    (k_gatepostref01_tchar_2 L K v39 h)
    (wi F L (.bin .eql (.c v0) (.c (.int .u8 124))) E0 h fun v40 h =>
    (wb v40
    (k_gatepostref01_tchar_2 L K v40 h)
    (wi F L (.bin .eql (.c v0) (.c (.int .u8 126))) E0 h fun v41 h =>
    (k_gatepostref01_tchar_2 L K v41 h))))))))))))))))))))))))))))))
def p_gatepostref01_tchar (L : FuncId → List V → V → Prop) (K : V → Heap → Prop) (a0 : V) (h : Heap) : Prop :=
    (wi F L (.bin .geq (.c a0) (.c (.int .u8 97))) E0 h fun v4 h =>
    (wg v4 true (wi F L (.mv (.c a0)) E0 h) h fun v6 h =>
    (wg v4 true (wi F L (.bin .leq (.c v6) (.c (.int .u8 122))) E0 h) h fun v7 h =>
    (wi F L (.pick (.c v4) (.c v7) (.c (.bool false))) E0 h fun v8 h =>
    (wg v8 false (wi F L (.mv (.c a0)) E0 h) h fun v10 h =>
    (wg v8 false (wi F L (.bin .geq (.c v10) (.c (.int .u8 65))) E0 h) h fun v11 h =>
    (wg v8 false (wi F L (.mv (.c v11)) E0 h) h fun v12 h =>
    (wg v12 true (wi F L (.mv (.c a0)) E0 h) h fun v13 h =>
    (wg v12 true (wi F L (.bin .leq (.c v13) (.c (.int .u8 90))) E0 h) h fun v14 h =>
    (wg v8 false (wi F L (.pick (.c v12) (.c v14) (.c (.bool false))) E0 h) h fun v15 h =>
    (wi F L (.pick (.c v8) (.c (.bool true)) (.c v15)) E0 h fun v16 h =>
    (wg v16 false (wi F L (.mv (.c a0)) E0 h) h fun v18 h =>
    (wg v16 false (wi F L (.bin .geq (.c v18) (.c (.int .u8 48))) E0 h) h fun v19 h =>
    (wg v16 false (wi F L (.mv (.c v19)) E0 h) h fun v20 h =>
    (wg v20 true (wi F L (.mv (.c a0)) E0 h) h fun v21 h =>
    (wg v20 true (wi F L (.bin .leq (.c v21) (.c (.int .u8 57))) E0 h) h fun v22 h =>
    (wg v16 false (wi F L (.pick (.c v20) (.c v22) (.c (.bool false))) E0 h) h fun v23 h =>
    (wi F L (.pick (.c v16) (.c (.bool true)) (.c v23)) E0 h fun v24 h =>
    (wb v24
    (∃ v, some (.bool true) = some v ∧ K v h)
    (k_gatepostref01_tchar_0 L K a0 h))))))))))))))))))))
theorem run_gatepostref01_tchar {L : FuncId → List V → V → Prop} {K : V → Heap → Prop} {a0 : V} {h : Heap} (hp : p_gatepostref01_tchar L K a0 h) : Cf F L i_gatepostref01_tchar [a0] h K :=
  wcallp F_gatepostref01_tchar (show 1 ≤ 42 by decide) (p := p_gatepostref01_tchar L K a0 h) (by kernel_rfl) hp
def p_gatepostref01_blank (L : FuncId → List V → V → Prop) (K : V → Heap → Prop) (a0 : V) (h : Heap) : Prop :=
    (wi F L (.bin .eql (.c a0) (.c (.int .u8 32))) E0 h fun v4 h =>
    (wg v4 false (wi F L (.mv (.c a0)) E0 h) h fun v6 h =>
    (wg v4 false (wi F L (.bin .eql (.c v6) (.c (.int .u8 9))) E0 h) h fun v7 h =>
    (wi F L (.pick (.c v4) (.c (.bool true)) (.c v7)) E0 h fun v8 h =>
    (∃ v, some v8 = some v ∧ K v h)))))
theorem run_gatepostref01_blank {L : FuncId → List V → V → Prop} {K : V → Heap → Prop} {a0 : V} {h : Heap} (hp : p_gatepostref01_blank L K a0 h) : Cf F L i_gatepostref01_blank [a0] h K :=
  wcallp F_gatepostref01_blank (show 1 ≤ 9 by decide) (p := p_gatepostref01_blank L K a0 h) (by kernel_rfl) hp
def k_token_Split_1_0 (L : FuncId → List V → V → Prop) (K : V → Heap → Prop) (v0 v2 : V) (h : Heap) : Prop :=
    (wi F L (.bin .add (.c v0) (.c (.int .i64 1))) E0 h fun v18 h =>
    (wi F L (.store 1 (.c v2) (.c v18)) E0 h fun _ h =>
    (∃ v, resultsV h (enterE []) [] = some v ∧ K v h)))
def p_token_Split_1 (L : FuncId → List V → V → Prop) (K : V → Heap → Prop) (a0 a1 a2 a3 : V) (h : Heap) : Prop :=
    (wi F L (.load false 1 (.c a1)) E0 h fun v6 h =>
    (wi F L (.load false 1 (.c a2)) E0 h fun v7 h =>
    (wi F L (.slstr (.c v6) (some (.c v7)) (some (.c a0))) E0 h fun v9 h =>
    (wi F L (.call i_token_Trim [(.c v9)]) E0 h fun v10 h =>
    (wi F L (.bin .neq (.c v10) (.c (.str []))) E0 h fun v12 h =>
    (wb v12
    (wi F L (.load false 1 (.c a3)) E0 h fun v13 h =>
    (wi F L (.bsl 1 [(.c v10)]) E0 h fun v15 h =>
    (wi F L (.app 1 16 false (.c v13) (.c v15)) E0 h fun v16 h =>
    (wi F L (.store 1 (.c a3) (.c v16)) E0 h fun _ h =>
    (k_token_Split_1_0 L K a0 a2 h)))))
    (k_token_Split_1_0 L K a0 a2 h)))))))
theorem run_token_Split_1 {L : FuncId → List V → V → Prop} {K : V → Heap → Prop} {a0 a1 a2 a3 : V} {h : Heap} (hp : p_token_Split_1 L K a0 a1 a2 a3 h) : Cf F L i_token_Split_1 [a0, a1, a2, a3] h K :=
  wcallp F_token_Split_1 (show 4 ≤ 19 by decide) (p := p_token_Split_1 L K a0 a1 a2 a3 h) (by kernel_rfl) hp
def p_token_marks (L : FuncId → List V → V → Prop) (K : V → Heap → Prop) (h : Heap) : Prop :=
    (wi F L (.boxz [(.int .u8 0), (.int .u8 0), (.int .u8 0), (.int .u8 0), (.int .u8 0), (.int .u8 0), (.int .u8 0), (.int .u8 0), (.int .u8 0), (.int .u8 0), (.int .u8 0), (.int .u8 0), (.int .u8 0), (.int .u8 0), (.int .u8 0)]) E0 h fun v0 h =>
    (wi F L (.build [(.int .u8 0), (.int .u8 0), (.int .u8 0), (.int .u8 0), (.int .u8 0), (.int .u8 0), (.int .u8 0), (.int .u8 0), (.int .u8 0), (.int .u8 0), (.int .u8 0), (.int .u8 0), (.int .u8 0), (.int .u8 0), (.int .u8 0)] [(0, 1, (.c (.int .u8 33))), (1, 1, (.c (.int .u8 35))), (2, 1, (.c (.int .u8 36))), (3, 1, (.c (.int .u8 37))), (4, 1, (.c (.int .u8 38))), (5, 1, (.c (.int .u8 39))), (6, 1, (.c (.int .u8 42))), (7, 1, (.c (.int .u8 43))), (8, 1, (.c (.int .u8 45))), (9, 1, (.c (.int .u8 46))), (10, 1, (.c (.int .u8 94))), (11, 1, (.c (.int .u8 95))), (12, 1, (.c (.int .u8 96))), (13, 1, (.c (.int .u8 124))), (14, 1, (.c (.int .u8 126)))]) E0 h fun v1 h =>
    (wi F L (.store 15 (.c v0) (.c v1)) E0 h fun _ h =>
    (∃ v, resultsV h (enterE [v0]) [.cell 0 true 15] = some v ∧ K v h))))
theorem run_token_marks {L : FuncId → List V → V → Prop} {K : V → Heap → Prop} {h : Heap} (hp : p_token_marks L K  h) : Cf F L i_token_marks [] h K :=
  wcallp F_token_marks (show 0 ≤ 2 by decide) (p := p_token_marks L K  h) (by kernel_rfl) hp
def k_field_keep_0 (L : FuncId → List V → V → Prop) (K : V → Heap → Prop) (v5 : V) (h : Heap) : Prop :=
    (∃ v, some v5 = some v ∧ K v h)
def k_field_keep_2 (L : FuncId → List V → V → Prop) (K : V → Heap → Prop) (N0 : Env → Heap → Prop) (e : Env) (v10 : V) (h : Heap) : Prop :=
    (wi F L (.bin .add (.c v10) (.c (.int .i64 1))) E0 h fun v21 h =>
    (N0 (upd (upd e 21 v21) 10 v21) h))
def k_field_keep_1 (L : FuncId → List V → V → Prop) (K : V → Heap → Prop) (N0 : Env → Heap → Prop) (e : Env) (v1 v5 v8 v10 : V) (h : Heap) : Prop :=
    (wi F L (.ixaSl 2 (.c v8) (.c v10)) E0 h fun v12 h =>
    (wi F L (.load true 2 (.c v12)) E0 h fun v13 h =>
    (wi F L (.boxz [(.str []), (.str [])]) E0 h fun v7 h =>
    (wi F L (.store 2 (.c v7) (.c v13)) E0 h fun _ h =>
    (wi F L (.load true 2 (.c v7)) E0 h fun v15 h =>
    (wi F L (.callv (.c v1) [(.c v15)]) E0 h fun v16 h =>
    (wb v16
    (wi F L (.load true 2 (.c v7)) E0 h fun v18 h =>
    (wi F L (.bsl 2 [(.c v18)]) E0 h fun v19 h =>
    (wi F L (.app 2 32 false (.c v5) (.c v19)) E0 h fun v20 h =>
    (k_field_keep_2 L K N0 (upd (upd (upd (upd (upd (upd (upd (upd (upd (upd (upd e 12 v12) 13 v13) 7 v7) 14 v1) 15 v15) 16 v16) 17 v5) 18 v18) 19 v19) 20 v20) 5 v20) v10 h))))
    (k_field_keep_2 L K N0 (upd (upd (upd (upd (upd (upd e 12 v12) 13 v13) 7 v7) 14 v1) 15 v15) 16 v16) v10 h))))))))
def q_field_keep_0 (L : FuncId → List V → V → Prop) (K : V → Heap → Prop) : X → Env → Heap → Prop := (fun x => (seqX (fun e h => k_field_keep_0 L K (e 5) h) (retX c_field_keep.results K)) (X.out 0 x))
def lc_field_keep_0 : C :=
  (.seq (.region [⟨(some 11), none, .bin .lss (.t 10) (.t 9)⟩])
  (.seq (.cond (.t 11)
    .skip
    (.exit 0))
  (.seq (.block 1 (.seq (.region [⟨(some 12), none, .ixaSl 2 (.t 8) (.t 10)⟩, ⟨(some 13), none, .load true 2 (.t 12)⟩, ⟨(some 7), none, .boxz [(.str []), (.str [])]⟩, ⟨none, none, .store 2 (.t 7) (.t 13)⟩])
  (.seq (.region [⟨(some 14), none, .mv (.t 1)⟩, ⟨(some 15), none, .load true 2 (.t 7)⟩, ⟨(some 16), none, .callv (.t 14) [(.t 15)]⟩])
  (.cond (.t 16)
    (.region [⟨(some 17), none, .mv (.t 5)⟩, ⟨(some 18), none, .load true 2 (.t 7)⟩, ⟨(some 19), none, .bsl 2 [(.t 18)]⟩, ⟨(some 20), none, .app 2 32 false (.t 17) (.t 19)⟩, ⟨(some 5), none, .mv (.t 20)⟩])
    .skip))))
  (.region [⟨(some 21), none, .bin .add (.t 10) (.c (.int .i64 1))⟩, ⟨(some 10), none, .mv (.t 21)⟩]))))
def b_field_keep_0 (L : FuncId → List V → V → Prop) (K : V → Heap → Prop) (N0 : Env → Heap → Prop) (e : Env) (h : Heap) : Prop :=
    (wi F L (.bin .lss (.c (e 10)) (.c (e 9))) E0 h fun v11 h =>
    (wb v11
    (k_field_keep_1 L K N0 (upd e 11 v11) (e 1) (e 5) (e 8) (e 10) h)
    (k_field_keep_0 L K (e 5) h)))
theorem l_field_keep_0 {L : FuncId → List V → V → Prop} {K : V → Heap → Prop} (I : Nat → Env → Heap → Prop) (hr : ∀ n e h, I n e h → b_field_keep_0 L K (fun e' h' => ∃ m, m < n ∧ I m e' h') e h) {n : Nat} {e : Env} {h : Heap} (hi : I n e h) : Wl F L lc_field_keep_0 (q_field_keep_0 L K) e h :=
  wloopp (b := b_field_keep_0 L K) I (fun _ _ _ => by kernel_rfl) hr hi
def p_field_keep (L : FuncId → List V → V → Prop) (K : V → Heap → Prop) (a0 a1 : V) (h : Heap) : Prop :=
    (wi F L (.len 1 (.c a0)) E0 h fun v9 h =>
    (Wl F L lc_field_keep_0 (q_field_keep_0 L K) (upd (upd (upd (upd (upd (enterE [a0, a1]) 4 .nsl) 5 .nsl) 8 a0) 9 v9) 10 (.int .i64 0)) h))
theorem run_field_keep {L : FuncId → List V → V → Prop} {K : V → Heap → Prop} {a0 a1 : V} {h : Heap} (hp : p_field_keep L K a0 a1 h) : Cf F L i_field_keep [a0, a1] h K :=
  wcallp F_field_keep (show 2 ≤ 23 by decide) (p := p_field_keep L K a0 a1 h) (by kernel_rfl) hp
def p_field_without_1 (L : FuncId → List V → V → Prop) (K : V → Heap → Prop) (a0 a1 : V) (h : Heap) : Prop :=
    (wi F L (.box (.c a0)) E0 h fun v2 h =>
    (wi F L (.load false 1 (.c a1)) E0 h fun v4 h' => Ext h h' ∧
    (wi F L (.faddr 0 (.c v2)) E0 h' fun v5 h => Ext h' h ∧
    (wi F L (.load false 1 (.c v5)) E0 h fun v6 h' => Ext h h' ∧
    (wi F L (.call i_token_Lower [(.c v6)]) E0 h' fun v7 h => Ext h' h ∧
    (wi F L (.lookup .s (.bool false) false (.c v4) (.c v7)) E0 h fun v8 h =>
    (wi F L (.un .not (.c v8)) E0 h fun v9 h =>
    (∃ v, some v9 = some v ∧ K v h))))))))
theorem run_field_without_1 {L : FuncId → List V → V → Prop} {K : V → Heap → Prop} {a0 a1 : V} {h : Heap} (hp : p_field_without_1 L K a0 a1 h) : Cf F L i_field_without_1 [a0, a1] h K :=
  wcallp F_field_without_1 (show 2 ≤ 10 by decide) (p := p_field_without_1 L K a0 a1 h) (by kernel_rfl) hp
def k_strings_makeASCIISet_0 (L : FuncId → List V → V → Prop) (K : V → Heap → Prop) (v2 : V) (h : Heap) : Prop :=
    (wi F L (.load true 256 (.c v2)) E0 h fun v20 h =>
    (wi F L (.store 256 (.c v2) (.c v20)) E0 h fun _ h =>
    (∃ v, resultsV h (enterE [v2, (.bool true)]) [.cell 0 true 256, .tmp 1] = some v ∧ K v h)))
def k_strings_makeASCIISet_2 (L : FuncId → List V → V → Prop) (K : V → Heap → Prop) (N0 : Env → Heap → Prop) (e : Env) (v4 : V) (h : Heap) : Prop :=
    (wi F L (.bin .add (.c v4) (.c (.int .i64 1))) E0 h fun v11 h =>
    (N0 (upd (upd (upd e 10 v4) 11 v11) 4 v11) h))
def k_strings_makeASCIISet_3 (L : FuncId → List V → V → Prop) (K : V → Heap → Prop) (N0 : Env → Heap → Prop) (e : Env) (v2 v4 v5 : V) (h : Heap) : Prop :=
    (wi F L (.ixaArr 256 1 (.c v2) (.c v5)) E0 h fun v19 h =>
    (wi F L (.store 1 (.c v19) (.c (.bool true))) E0 h fun _ h =>
    (k_strings_makeASCIISet_2 L K N0 (upd (upd e 18 v5) 19 v19) v4 h)))
def k_strings_makeASCIISet_1 (L : FuncId → List V → V → Prop) (K : V → Heap → Prop) (N0 : Env → Heap → Prop) (e : Env) (v0 v2 v4 : V) (h : Heap) : Prop :=
    (wi F L (.ixStr (.c v0) (.c v4)) E0 h fun v14 h =>
    (wi F L (.bin .geq (.c v14) (.c (.int .u8 128))) E0 h fun v16 h =>
    (wb v16
    (wi F L (.load true 256 (.c v2)) E0 h fun v17 h =>
    (wi F L (.store 256 (.c v2) (.c v17)) E0 h fun _ h =>
    (∃ v, resultsV h (enterE [v2, (.bool false)]) [.cell 0 true 256, .tmp 1] = some v ∧ K v h)))
    (k_strings_makeASCIISet_3 L K N0 (upd (upd (upd (upd (upd (upd e 12 v0) 13 v4) 14 v14) 5 v14) 15 v14) 16 v16) v2 v4 v14 h))))
def q_strings_makeASCIISet_0 (L : FuncId → List V → V → Prop) (K : V → Heap → Prop) : X → Env → Heap → Prop := (fun x => (seqX (fun e h => k_strings_makeASCIISet_0 L K (e 2) h) (retX c_strings_makeASCIISet.results K)) (X.out 0 x))
def lc_strings_makeASCIISet_0 : C :=
  (.seq (.seq (.region [⟨(some 6), none, .mv (.t 4)⟩, ⟨(some 7), none, .mv (.t 0)⟩, ⟨(some 8), none, .len 0 (.t 7)⟩, ⟨(some 9), none, .bin .lss (.t 6) (.t 8)⟩])
  (.cond (.t 9)
    .skip
    (.exit 0)))
  (.seq (.block 1 (.seq (.region [⟨(some 12), none, .mv (.t 0)⟩, ⟨(some 13), none, .mv (.t 4)⟩, ⟨(some 14), none, .ixStr (.t 12) (.t 13)⟩, ⟨(some 5), none, .mv (.t 14)⟩])
  (.seq (.seq (.region [⟨(some 15), none, .mv (.t 5)⟩, ⟨(some 16), none, .bin .geq (.t 15) (.c (.int .u8 128))⟩])
  (.cond (.t 16)
    (.seq (.region [⟨(some 17), none, .load true 256 (.t 2)⟩, ⟨none, none, .store 256 (.t 2) (.t 17)⟩, ⟨(some 3), none, .mv (.c (.bool false))⟩])
    .ret)
    .skip))
  (.region [⟨(some 18), none, .mv (.t 5)⟩, ⟨(some 19), none, .ixaArr 256 1 (.t 2) (.t 18)⟩, ⟨none, none, .store 1 (.t 19) (.c (.bool true))⟩]))))
  (.region [⟨(some 10), none, .mv (.t 4)⟩, ⟨(some 11), none, .bin .add (.t 10) (.c (.int .i64 1))⟩, ⟨(some 4), none, .mv (.t 11)⟩])))
def b_strings_makeASCIISet_0 (L : FuncId → List V → V → Prop) (K : V → Heap → Prop) (N0 : Env → Heap → Prop) (e : Env) (h : Heap) : Prop :=
    (wi F L (.len 0 (.c (e 0))) E0 h fun v8 h =>
    (wi F L (.bin .lss (.c (e 4)) (.c v8)) E0 h fun v9 h =>
    (wb v9
    (k_strings_makeASCIISet_1 L K N0 (upd (upd (upd (upd e 6 (e 4)) 7 (e 0)) 8 v8) 9 v9) (e 0) (e 2) (e 4) h)
    (k_strings_makeASCIISet_0 L K (e 2) h))))
theorem l_strings_makeASCIISet_0 {L : FuncId → List V → V → Prop} {K : V → Heap → Prop} (I : Nat → Env → Heap → Prop) (hr : ∀ n e h, I n e h → b_strings_makeASCIISet_0 L K (fun e' h' => ∃ m, m < n ∧ I m e' h') e h) {n : Nat} {e : Env} {h : Heap} (hi : I n e h) : Wl F L lc_strings_makeASCIISet_0 (q_strings_makeASCIISet_0 L K) e h :=
  wloopp (b := b_strings_makeASCIISet_0 L K) I (fun _ _ _ => by kernel_rfl) hr hi
def p_strings_makeASCIISet (L : FuncId → List V → V → Prop) (K : V → Heap → Prop) (a0 : V) (h : Heap) : Prop :=
    (wi F L (.boxz (List.replicate 256 (.bool false))) E0 h fun v2 h =>
    (Wl F L lc_strings_makeASCIISet_0 (q_strings_makeASCIISet_0 L K) (upd (upd (upd (enterE [a0]) 2 v2) 3 (.bool false)) 4 (.int .i64 0)) h))
theorem run_strings_makeASCIISet {L : FuncId → List V → V → Prop} {K : V → Heap → Prop} {a0 : V} {h : Heap} (hp : p_strings_makeASCIISet L K a0 h) : Cf F L i_strings_makeASCIISet [a0] h K :=
  wcallp F_strings_makeASCIISet (show 1 ≤ 21 by decide) (p := p_strings_makeASCIISet L K a0 h) (by kernel_rfl) hp
def k_strings_trimLeftASCII_0 (L : FuncId → List V → V → Prop) (K : V → Heap → Prop) (v0 : V) (h : Heap) : Prop :=
    (∃ v, some v0 = some v ∧ K v h)
def k_strings_trimLeftASCII_2 (L : FuncId → List V → V → Prop) (K : V → Heap → Prop) (N0 : Env → Heap → Prop) (e : Env) (v0 : V) (h : Heap) : Prop :=
    (wi F L (.slstr (.c v0) (some (.c (.int .i64 1))) none) E0 h fun v14 h =>
    (N0 (upd (upd (upd e 13 v0) 14 v14) 0 v14) h))
def k_strings_trimLeftASCII_1 (L : FuncId → List V → V → Prop) (K : V → Heap → Prop) (N0 : Env → Heap → Prop) (e : Env) (v0 v1 : V) (h : Heap) : Prop :=
    (wi F L (.ixStr (.c v0) (.c (.int .i64 0))) E0 h fun v10 h =>
    (wi F L (.call i___strings_asciiSet__contains [(.c v1), (.c v10)]) E0 h fun v11 h =>
    (wi F L (.un .not (.c v11)) E0 h fun v12 h =>
    (wb v12
    (k_strings_trimLeftASCII_0 L K v0 h)
    (k_strings_trimLeftASCII_2 L K N0 (upd (upd (upd (upd (upd e 8 v1) 9 v0) 10 v10) 11 v11) 12 v12) v0 h)))))
def q_strings_trimLeftASCII_0 (L : FuncId → List V → V → Prop) (K : V → Heap → Prop) : X → Env → Heap → Prop := (fun x => (seqX (fun e h => k_strings_trimLeftASCII_0 L K (e 0) h) (retX c_strings_trimLeftASCII.results K)) (X.out 0 x))
def lc_strings_trimLeftASCII_0 : C :=
  (.seq (.seq (.region [⟨(some 5), none, .mv (.t 0)⟩, ⟨(some 6), none, .len 0 (.t 5)⟩, ⟨(some 7), none, .bin .gtr (.t 6) (.c (.int .i64 0))⟩])
  (.cond (.t 7)
    .skip
    (.exit 0)))
  (.block 1 (.seq (.seq (.region [⟨(some 8), none, .mv (.t 1)⟩, ⟨(some 9), none, .mv (.t 0)⟩, ⟨(some 10), none, .ixStr (.t 9) (.c (.int .i64 0))⟩, ⟨(some 11), none, .call i___strings_asciiSet__contains [(.t 8), (.t 10)]⟩, ⟨(some 12), none, .un .not (.t 11)⟩])
  (.cond (.t 12)
    (.exit 0)
    .skip))
  (.region [⟨(some 13), none, .mv (.t 0)⟩, ⟨(some 14), none, .slstr (.t 13) (some (.c (.int .i64 1))) none⟩, ⟨(some 0), none, .mv (.t 14)⟩]))))
def b_strings_trimLeftASCII_0 (L : FuncId → List V → V → Prop) (K : V → Heap → Prop) (N0 : Env → Heap → Prop) (e : Env) (h : Heap) : Prop :=
    (wi F L (.len 0 (.c (e 0))) E0 h fun v6 h =>
    (wi F L (.bin .gtr (.c v6) (.c (.int .i64 0))) E0 h fun v7 h =>
    (wb v7
    (k_strings_trimLeftASCII_1 L K N0 (upd (upd (upd e 5 (e 0)) 6 v6) 7 v7) (e 0) (e 1) h)
    (k_strings_trimLeftASCII_0 L K (e 0) h))))
theorem l_strings_trimLeftASCII_0 {L : FuncId → List V → V → Prop} {K : V → Heap → Prop} (I : Nat → Env → Heap → Prop) (hr : ∀ n e h, I n e h → b_strings_trimLeftASCII_0 L K (fun e' h' => ∃ m, m < n ∧ I m e' h') e h) {n : Nat} {e : Env} {h : Heap} (hi : I n e h) : Wl F L lc_strings_trimLeftASCII_0 (q_strings_trimLeftASCII_0 L K) e h :=
  wloopp (b := b_strings_trimLeftASCII_0 L K) I (fun _ _ _ => by kernel_rfl) hr hi
def p_strings_trimLeftASCII (L : FuncId → List V → V → Prop) (K : V → Heap → Prop) (a0 a1 : V) (h : Heap) : Prop :=
    (Wl F L lc_strings_trimLeftASCII_0 (q_strings_trimLeftASCII_0 L K) (upd (enterE [a0, a1]) 4 (.str [])) h)
theorem run_strings_trimLeftASCII {L : FuncId → List V → V → Prop} {K : V → Heap → Prop} {a0 a1 : V} {h : Heap} (hp : p_strings_trimLeftASCII L K a0 a1 h) : Cf F L i_strings_trimLeftASCII [a0, a1] h K :=
  wcallp F_strings_trimLeftASCII (show 2 ≤ 16 by decide) (p := p_strings_trimLeftASCII L K a0 a1 h) (by kernel_rfl) hp
def k_strings_trimRightASCII_0 (L : FuncId → List V → V → Prop) (K : V → Heap → Prop) (v0 : V) (h : Heap) : Prop :=
    (∃ v, some v0 = some v ∧ K v h)
def k_strings_trimRightASCII_2 (L : FuncId → List V → V → Prop) (K : V → Heap → Prop) (N0 : Env → Heap → Prop) (e : Env) (v0 : V) (h : Heap) : Prop :=
    (wi F L (.len 0 (.c v0)) E0 h fun v18 h =>
    (wi F L (.bin .sub (.c v18) (.c (.int .i64 1))) E0 h fun v19 h =>
    (wi F L (.slstr (.c v0) none (some (.c v19))) E0 h fun v20 h =>
    (N0 (upd (upd (upd (upd (upd (upd e 16 v0) 17 v0) 18 v18) 19 v19) 20 v20) 0 v20) h))))
def k_strings_trimRightASCII_1 (L : FuncId → List V → V → Prop) (K : V → Heap → Prop) (N0 : Env → Heap → Prop) (e : Env) (v0 v1 : V) (h : Heap) : Prop :=
    (wi F L (.len 0 (.c v0)) E0 h fun v11 h =>
    (wi F L (.bin .sub (.c v11) (.c (.int .i64 1))) E0 h fun v12 h =>
    (wi F L (.ixStr (.c v0) (.c v12)) E0 h fun v13 h =>
    (wi F L (.call i___strings_asciiSet__contains [(.c v1), (.c v13)]) E0 h fun v14 h =>
    (wi F L (.un .not (.c v14)) E0 h fun v15 h =>
    (wb v15
    (k_strings_trimRightASCII_0 L K v0 h)
    (k_strings_trimRightASCII_2 L K N0 (upd (upd (upd (upd (upd (upd (upd (upd e 8 v1) 9 v0) 10 v0) 11 v11) 12 v12) 13 v13) 14 v14) 15 v15) v0 h)))))))
def q_strings_trimRightASCII_0 (L : FuncId → List V → V → Prop) (K : V → Heap → Prop) : X → Env → Heap → Prop := (fun x => (seqX (fun e h => k_strings_trimRightASCII_0 L K (e 0) h) (retX c_strings_trimRightASCII.results K)) (X.out 0 x))
def lc_strings_trimRightASCII_0 : C :=
  (.seq (.seq (.region [⟨(some 5), none, .mv (.t 0)⟩, ⟨(some 6), none, .len 0 (.t 5)⟩, ⟨(some 7), none, .bin .gtr (.t 6) (.c (.int .i64 0))⟩])
  (.cond (.t 7)
    .skip
    (.exit 0)))
  (.block 1 (.seq (.seq (.region [⟨(some 8), none, .mv (.t 1)⟩, ⟨(some 9), none, .mv (.t 0)⟩, ⟨(some 10), none, .mv (.t 0)⟩, ⟨(some 11), none, .len 0 (.t 10)⟩, ⟨(some 12), none, .bin .sub (.t 11) (.c (.int .i64 1))⟩, ⟨(some 13), none, .ixStr (.t 9) (.t 12)⟩, ⟨(some 14), none, .call i___strings_asciiSet__contains [(.t 8), (.t 13)]⟩, ⟨(some 15), none, .un .not (.t 14)⟩])
  (.cond (.t 15)
    (.exit 0)
    .skip))
  (.region [⟨(some 16), none, .mv (.t 0)⟩, ⟨(some 17), none, .mv (.t 0)⟩, ⟨(some 18), none, .len 0 (.t 17)⟩, ⟨(some 19), none, .bin .sub (.t 18) (.c (.int .i64 1))⟩, ⟨(some 20), none, .slstr (.t 16) none (some (.t 19))⟩, ⟨(some 0), none, .mv (.t 20)⟩]))))
def b_strings_trimRightASCII_0 (L : FuncId → List V → V → Prop) (K : V → Heap → Prop) (N0 : Env → Heap → Prop) (e : Env) (h : Heap) : Prop :=
    (wi F L (.len 0 (.c (e 0))) E0 h fun v6 h =>
    (wi F L (.bin .gtr (.c v6) (.c (.int .i64 0))) E0 h fun v7 h =>
    (wb v7
    (k_strings_trimRightASCII_1 L K N0 (upd (upd (upd e 5 (e 0)) 6 v6) 7 v7) (e 0) (e 1) h)
    (k_strings_trimRightASCII_0 L K (e 0) h))))
theorem l_strings_trimRightASCII_0 {L : FuncId → List V → V → Prop} {K : V → Heap → Prop} (I : Nat → Env → Heap → Prop) (hr : ∀ n e h, I n e h → b_strings_trimRightASCII_0 L K (fun e' h' => ∃ m, m < n ∧ I m e' h') e h) {n : Nat} {e : Env} {h : Heap} (hi : I n e h) : Wl F L lc_strings_trimRightASCII_0 (q_strings_trimRightASCII_0 L K) e h :=
  wloopp (b := b_strings_trimRightASCII_0 L K) I (fun _ _ _ => by kernel_rfl) hr hi
def p_strings_trimRightASCII (L : FuncId → List V → V → Prop) (K : V → Heap → Prop) (a0 a1 : V) (h : Heap) : Prop :=
    (Wl F L lc_strings_trimRightASCII_0 (q_strings_trimRightASCII_0 L K) (upd (enterE [a0, a1]) 4 (.str [])) h)
theorem run_strings_trimRightASCII {L : FuncId → List V → V → Prop} {K : V → Heap → Prop} {a0 a1 : V} {h : Heap} (hp : p_strings_trimRightASCII L K a0 a1 h) : Cf F L i_strings_trimRightASCII [a0, a1] h K :=
  wcallp F_strings_trimRightASCII (show 2 ≤ 22 by decide) (p := p_strings_trimRightASCII L K a0 a1 h) (by kernel_rfl) hp
def p_token_Value_1 (L : FuncId → List V → V → Prop) (K : V → Heap → Prop) (a0 : V) (h : Heap) : Prop :=
    (wi F L (.call i_token_isBlank [(.c a0)]) E0 h fun v4 h =>
    (wg v4 false (wi F L (.mv (.c a0)) E0 h) h fun v6 h =>
    (wg v4 false (wi F L (.bin .gtr (.c v6) (.c (.int .u8 32))) E0 h) h fun v7 h =>
    (wg v4 false (wi F L (.mv (.c v7)) E0 h) h fun v8 h =>
    (wg v8 true (wi F L (.mv (.c a0)) E0 h) h fun v9 h =>
    (wg v8 true (wi F L (.bin .neq (.c v9) (.c (.int .u8 127))) E0 h) h fun v10 h =>
    (wg v4 false (wi F L (.pick (.c v8) (.c v10) (.c (.bool false))) E0 h) h fun v11 h =>
    (wi F L (.pick (.c v4) (.c (.bool true)) (.c v11)) E0 h fun v12 h =>
    (∃ v, some v12 = some v ∧ K v h)))))))))
theorem run_token_Value_1 {L : FuncId → List V → V → Prop} {K : V → Heap → Prop} {a0 : V} {h : Heap} (hp : p_token_Value_1 L K a0 h) : Cf F L i_token_Value_1 [a0] h K :=
  wcallp F_token_Value_1 (show 1 ≤ 13 by decide) (p := p_token_Value_1 L K a0 h) (by kernel_rfl) hp
def p_token_isBlank (L : FuncId → List V → V → Prop) (K : V → Heap → Prop) (a0 : V) (h : Heap) : Prop :=
    (wi F L (.bin .eql (.c a0) (.c (.int .u8 32))) E0 h fun v4 h =>
    (wg v4 false (wi F L (.mv (.c a0)) E0 h) h fun v6 h =>
    (wg v4 false (wi F L (.bin .eql (.c v6) (.c (.int .u8 9))) E0 h) h fun v7 h =>
    (wi F L (.pick (.c v4) (.c (.bool true)) (.c v7)) E0 h fun v8 h =>
    (∃ v, some v8 = some v ∧ K v h)))))
theorem run_token_isBlank {L : FuncId → List V → V → Prop} {K : V → Heap → Prop} {a0 : V} {h : Heap} (hp : p_token_isBlank L K a0 h) : Cf F L i_token_isBlank [a0] h K :=
  wcallp F_token_isBlank (show 1 ≤ 9 by decide) (p := p_token_isBlank L K a0 h) (by kernel_rfl) hp
def p___strings_asciiSet__contains (L : FuncId → List V → V → Prop) (K : V → Heap → Prop) (a0 a1 : V) (h : Heap) : Prop :=
    (wi F L (.nilck (.c a0)) E0 h fun v7 h =>
    (wi F L (.ixaArr 256 1 (.c v7) (.c a1)) E0 h fun v8 h =>
    (wi F L (.load false 1 (.c v8)) E0 h fun v9 h =>
    (∃ v, some v9 = some v ∧ K v h))))
theorem run___strings_asciiSet__contains {L : FuncId → List V → V → Prop} {K : V → Heap → Prop} {a0 a1 : V} {h : Heap} (hp : p___strings_asciiSet__contains L K a0 a1 h) : Cf F L i___strings_asciiSet__contains [a0, a1] h K :=
  wcallp F___strings_asciiSet__contains (show 2 ≤ 10 by decide) (p := p___strings_asciiSet__contains L K a0 a1 h) (by kernel_rfl) hp
theorem hF : ∀ f fn, F f = some fn → compF Tryd.prog f = some fn := lookup_all ⟨kc_gatepostlaw04_FieldParses, kc_gatepostlaw04_FieldBack, kc_gatepostlaw04_FieldNames, kc_gatepostlaw04_FieldStrips, kc_gatepostlaw04_FieldGets, kc_gatepostlaw04_few, kc_field_Parse, kc_gatepostref04_Parse, kc_field_Line, kc_gatepostref04_Line, kc_field_Names, kc_token_Is, kc_token_Lower, kc_field_Strip, kc_field_Get, kc_gatepostref04_Same, kc_gatepostref04_Get, kc_gatepostref04_Names, kc_gatepostlaw04_texts, kc_field_Del, kc_gatepostref04_Del, kc_field_Set, kc_gatepostref04_Set, kc_gatepostref04_Strip, kc_strings_Cut, kc_token_Trim, kc_field_fine, kc_gatepostref01_Is, kc_gatepostref01_Trim, kc_gatepostref01_Value, kc_token_Split, kc_token_all, kc_token_inToken, kc_field_without, kc_token_Same, kc_gatepostref01_Same, kc_gatepostref01_Split, kc_gatepostref01_Lower, kc_internal_stringslite_Cut, kc_strings_Trim, kc_token_Value, kc_gatepostref01_tchar, kc_gatepostref01_blank, kc_token_Split_1, kc_token_marks, kc_field_keep, kc_field_without_1, kc_strings_makeASCIISet, kc_strings_trimLeftASCII, kc_strings_trimRightASCII, kc_token_Value_1, kc_token_isBlank, kc___strings_asciiSet__contains, trivial⟩
theorem hm : Tryd.prog.follows .mixedOrders = true := by kernel_rfl
end Go.Proofs.YtfnepflonoadkaaDoor.Vh
