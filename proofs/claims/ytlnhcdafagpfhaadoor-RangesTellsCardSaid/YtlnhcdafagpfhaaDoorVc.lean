/- The functions of a seat, compiled for the small machine. Printed by Print.lean. -/
import Derived.Test.YtlnhcdafagpfhaaDoorProg
import Derived.Test.YtlnhcdafagpfhaaDoorVmSet
import Derived.KernelRfl
set_option maxRecDepth 100000
set_option linter.unusedVariables false
namespace Go.Proofs.YtlnhcdafagpfhaaDoor.Vh
open Go.Vm
def i_main_main : FuncId := 0
def i_gosem_cut : FuncId := 1
def i_gosem_cut_init : FuncId := 2
def i_gatepostlaw14_RangesContent : FuncId := 3
def i_gatepostlaw14_RangesBack : FuncId := 4
def i_gatepostlaw14_RangesTells : FuncId := 5
def i_gatepostlaw14_RangesOne : FuncId := 6
def i_gatepostlaw14_RangesMany : FuncId := 7
def i_ranges_Content : FuncId := 8
def i_gatepostref14_Content : FuncId := 9
def i_ranges_Read : FuncId := 10
def i_gatepostref14_Read : FuncId := 11
def i_ranges_Resolve : FuncId := 12
def i_ranges_Parse : FuncId := 13
def i_gatepostref14_Parse : FuncId := 14
def i_gatepostref14_Resolve : FuncId := 15
def i_ranges_Pick : FuncId := 16
def i_gatepostref14_Pick : FuncId := 17
def i_gatepostlaw14_number : FuncId := 18
def i_ranges_may : FuncId := 19
def i_strconv_Itoa : FuncId := 20
def i_gatepostref14_right : FuncId := 21
def i_gatepostref14_digits : FuncId := 22
def i_strings_CutPrefix : FuncId := 23
def i_strings_Cut : FuncId := 24
def i_ranges_Read_1 : FuncId := 25
def i_token_Number : FuncId := 26
def i_gatepostref01_Number : FuncId := 27
def i_ranges_fine : FuncId := 28
def i_token_Same : FuncId := 29
def i_token_Split : FuncId := 30
def i_ranges_one : FuncId := 31
def i_gatepostref01_Lower : FuncId := 32
def i_gatepostref01_Split : FuncId := 33
def i_gatepostref14_one : FuncId := 34
def i_internal_strconv_Itoa : FuncId := 35
def i_internal_stringslite_CutPrefix : FuncId := 36
def i_internal_stringslite_Cut : FuncId := 37
def i_token_all : FuncId := 38
def i_token_Number_1 : FuncId := 39
def i_token_Lower : FuncId := 40
def i_token_Split_1 : FuncId := 41
def i_token_Trim : FuncId := 42
def i_ranges_one_1 : FuncId := 43
def i_gatepostref01_Trim : FuncId := 44
def i_internal_strconv_FormatInt : FuncId := 45
def i_internal_stringslite_HasPrefix : FuncId := 46
def i_internal_stringslite_Index : FuncId := 47
def i_strings_Trim : FuncId := 48
def i_gatepostref01_blank : FuncId := 49
def i_internal_strconv_small : FuncId := 50
def i_internal_strconv_numDigits : FuncId := 51
def i_internal_strconv_formatBase10 : FuncId := 52
def i_internal_strconv_formatBits : FuncId := 53
def i_internal_stringslite_IndexByte : FuncId := 54
def i_internal_bytealg_IndexString : FuncId := 55
def i_internal_bytealg_Cutover : FuncId := 56
def i_internal_bytealg_IndexRabinKarp_string_ : FuncId := 57
def i_strings_trimLeftByte : FuncId := 58
def i_strings_trimRightByte : FuncId := 59
def i_strings_makeASCIISet : FuncId := 60
def i_strings_trimLeftASCII : FuncId := 61
def i_strings_trimRightASCII : FuncId := 62
def i_strings_trimLeftUnicode : FuncId := 63
def i_strings_trimRightUnicode : FuncId := 64
def i_internal_strconv_log10Pow2 : FuncId := 65
def i_math_bits_Len64 : FuncId := 66
def i_internal_strconv_bool2_int_ : FuncId := 67
def i_internal_strconv_isPowerOfTwo : FuncId := 68
def i_math_bits_TrailingZeros : FuncId := 69
def i_internal_bytealg_IndexByteString : FuncId := 70
def i_internal_bytealg_hashStr_string_ : FuncId := 71
def i___strings_asciiSet__contains : FuncId := 72
def i_unicode_utf8_DecodeRuneInString : FuncId := 73
def i_strings_ContainsRune : FuncId := 74
def i_unicode_utf8_DecodeLastRuneInString : FuncId := 75
def i_math_bits_TrailingZeros32 : FuncId := 76
def i_math_bits_TrailingZeros64 : FuncId := 77
def i_unicode_utf8_decodeRuneInStringSlow : FuncId := 78
def i_strings_IndexRune : FuncId := 79
def i_unicode_utf8_RuneStart : FuncId := 80
def i_strings_IndexByte : FuncId := 81
def i_unicode_utf8_ValidRune : FuncId := 82
def i___runtime_TypeAssertionError__Error : FuncId := 91
def i___runtime_TypeAssertionError__RuntimeError : FuncId := 92
def i___runtime_PanicNilError__Error : FuncId := 93
def i___runtime_PanicNilError__RuntimeError : FuncId := 94
def i___internal_abi_Type__Align : FuncId := 95
def i__internal_runtime_maps_unhashableTypeError__Error : FuncId := 96
def i__internal_runtime_maps_unhashableTypeError__RuntimeError : FuncId := 97
def i__gatepost_api_Errno__Error : FuncId := 98
def i__internal_abi_Kind__String : FuncId := 99
def i_var_s_door__gosem_cut_vars_holds_initialisers_alone__see_the_manifest_s_row_cutvarsword__look_11__test_files_too_ : FuncId := 100
def i_var_s_door__internal_strconv_uint64pow10_is_laid_by_its_own_initialiser__plain_data__look_11_ : FuncId := 101
def i_var_s_door__math_bits_deBruijn32tab_is_laid_by_its_own_initialiser__plain_data__look_11_ : FuncId := 102
def i_var_s_door__math_bits_deBruijn64tab_is_laid_by_its_own_initialiser__plain_data__look_11_ : FuncId := 103
def i_var_s_door__the_look_of_gosem_cut_vars_went_over_the_folder_that_the_caller_named_as_the_repository_s_root__look_11_ : FuncId := 104
def i_var_s_door__unicode_utf8_acceptRanges_is_laid_by_its_own_initialiser__plain_data__look_11_ : FuncId := 105
def i_var_s_door__unicode_utf8_first_is_laid_by_its_text_alone__pinned_1_ : FuncId := 106
def i_gosem_cut_vars : FuncId := 107
/-- gatepost/gatepostlaw14.RangesContent -/
def c_gatepostlaw14_RangesContent : FnC := ⟨79, [.tmp 6],
  (.seq (.region [⟨(some 3), none, .box (.t 0)⟩, ⟨(some 6), none, .mv (.c (.bool false))⟩])
  (.seq (.region [⟨(some 20), none, .load true 2 (.t 3)⟩, ⟨(some 21), none, .mv (.t 1)⟩, ⟨(some 22), none, .call i_ranges_Content [(.t 20), (.t 21)]⟩, ⟨(some 19), none, .mv (.t 22)⟩, ⟨(some 23), none, .ext 0 (.t 19)⟩, ⟨(some 24), none, .ext 1 (.t 19)⟩, ⟨(some 7), none, .mv (.t 23)⟩, ⟨(some 8), none, .mv (.t 24)⟩])
  (.seq (.region [⟨(some 26), none, .load true 2 (.t 3)⟩, ⟨(some 27), none, .mv (.t 1)⟩, ⟨(some 28), none, .call i_gatepostref14_Content [(.t 26), (.t 27)]⟩, ⟨(some 25), none, .mv (.t 28)⟩, ⟨(some 29), none, .ext 0 (.t 25)⟩, ⟨(some 30), none, .ext 1 (.t 25)⟩, ⟨(some 9), none, .mv (.t 29)⟩, ⟨(some 10), none, .mv (.t 30)⟩])
  (.seq (.region [⟨(some 32), none, .mv (.t 2)⟩, ⟨(some 33), none, .call i_ranges_Read [(.t 32)]⟩, ⟨(some 31), none, .mv (.t 33)⟩, ⟨(some 34), none, .ext 0 (.t 31)⟩, ⟨(some 35), none, .ext 1 (.t 31)⟩, ⟨(some 36), none, .ext 2 (.t 31)⟩, ⟨(some 11), none, .boxz [(.int .i64 0), (.int .i64 0)]⟩, ⟨none, none, .store 2 (.t 11) (.t 34)⟩, ⟨(some 12), none, .mv (.t 35)⟩, ⟨(some 13), none, .mv (.t 36)⟩])
  (.seq (.region [⟨(some 38), none, .mv (.t 2)⟩, ⟨(some 39), none, .call i_gatepostref14_Read [(.t 38)]⟩, ⟨(some 37), none, .mv (.t 39)⟩, ⟨(some 40), none, .ext 0 (.t 37)⟩, ⟨(some 41), none, .ext 1 (.t 37)⟩, ⟨(some 42), none, .ext 2 (.t 37)⟩, ⟨(some 14), none, .boxz [(.int .i64 0), (.int .i64 0)]⟩, ⟨none, none, .store 2 (.t 14) (.t 40)⟩, ⟨(some 15), none, .mv (.t 41)⟩, ⟨(some 16), none, .mv (.t 42)⟩])
  (.seq (.region [⟨(some 44), none, .build [(.int .i64 0), (.int .i64 0)] []⟩, ⟨(some 45), none, .call i_ranges_Content [(.t 44), (.c (.int .i64 5))]⟩, ⟨(some 43), none, .mv (.t 45)⟩, ⟨(some 46), none, .ext 0 (.t 43)⟩, ⟨(some 47), none, .ext 1 (.t 43)⟩, ⟨(some 17), none, .mv (.t 46)⟩, ⟨(some 18), none, .mv (.t 47)⟩])
  (.seq (.region [⟨(some 48), none, .mv (.t 7)⟩, ⟨(some 49), none, .mv (.t 9)⟩, ⟨(some 50), none, .bin .eql (.t 48) (.t 49)⟩, ⟨(some 51), none, .mv (.t 50)⟩, ⟨(some 52), (some (51, true)), .mv (.t 8)⟩, ⟨(some 53), (some (51, true)), .mv (.t 10)⟩, ⟨(some 54), (some (51, true)), .bin .eql (.t 52) (.t 53)⟩, ⟨(some 55), none, .pick (.t 51) (.t 54) (.c (.bool false))⟩, ⟨(some 56), none, .mv (.t 55)⟩, ⟨(some 57), (some (56, true)), .load true 2 (.t 11)⟩, ⟨(some 58), (some (56, true)), .load true 2 (.t 14)⟩, ⟨(some 59), (some (56, true)), .eq (.agg [.i, .i]) false (.t 57) (.t 58)⟩, ⟨(some 60), none, .pick (.t 56) (.t 59) (.c (.bool false))⟩, ⟨(some 61), none, .mv (.t 60)⟩, ⟨(some 62), (some (61, true)), .mv (.t 12)⟩, ⟨(some 63), (some (61, true)), .mv (.t 15)⟩, ⟨(some 64), (some (61, true)), .bin .eql (.t 62) (.t 63)⟩, ⟨(some 65), none, .pick (.t 61) (.t 64) (.c (.bool false))⟩, ⟨(some 66), none, .mv (.t 65)⟩, ⟨(some 67), (some (66, true)), .mv (.t 13)⟩, ⟨(some 68), (some (66, true)), .mv (.t 16)⟩, ⟨(some 69), (some (66, true)), .eq .bool false (.t 67) (.t 68)⟩, ⟨(some 70), none, .pick (.t 66) (.t 69) (.c (.bool false))⟩, ⟨(some 71), none, .mv (.t 70)⟩, ⟨(some 72), (some (71, true)), .mv (.t 17)⟩, ⟨(some 73), (some (71, true)), .bin .eql (.t 72) (.c (.str [98, 121, 116, 101, 115, 32, 42, 47, 53]))⟩, ⟨(some 74), none, .pick (.t 71) (.t 73) (.c (.bool false))⟩, ⟨(some 75), none, .mv (.t 74)⟩, ⟨(some 76), (some (75, true)), .mv (.t 18)⟩, ⟨(some 77), (some (75, true)), .bin .eql (.t 76) (.c (.int .i64 0))⟩, ⟨(some 78), none, .pick (.t 75) (.t 77) (.c (.bool false))⟩, ⟨(some 6), none, .mv (.t 78)⟩])
  .ret)))))))⟩
/-- gatepost/gatepostlaw14.RangesBack -/
def c_gatepostlaw14_RangesBack : FnC := ⟨95, [.tmp 6],
  (.seq (.region [⟨(some 3), none, .box (.t 0)⟩, ⟨(some 5), none, .box (.t 2)⟩, ⟨(some 6), none, .mv (.c (.bool false))⟩])
  (.seq (.region [⟨(some 18), none, .call i_ranges_Read [(.c (.str [98, 121, 116, 101, 115, 32, 48, 45, 52, 47, 53]))]⟩, ⟨(some 17), none, .mv (.t 18)⟩, ⟨(some 19), none, .ext 0 (.t 17)⟩, ⟨(some 20), none, .ext 1 (.t 17)⟩, ⟨(some 21), none, .ext 2 (.t 17)⟩, ⟨(some 7), none, .boxz [(.int .i64 0), (.int .i64 0)]⟩, ⟨none, none, .store 2 (.t 7) (.t 19)⟩, ⟨(some 8), none, .mv (.t 20)⟩, ⟨(some 9), none, .mv (.t 21)⟩])
  (.seq (.seq (.region [⟨(some 22), none, .faddr 1 (.t 7)⟩, ⟨(some 23), none, .load false 1 (.t 22)⟩, ⟨(some 24), none, .bin .neq (.t 23) (.c (.int .i64 5))⟩, ⟨(some 25), none, .mv (.t 24)⟩, ⟨(some 26), (some (25, false)), .mv (.t 9)⟩, ⟨(some 27), (some (25, false)), .un .not (.t 26)⟩, ⟨(some 28), none, .pick (.t 25) (.c (.bool true)) (.t 27)⟩])
  (.cond (.t 28)
    (.seq (.region [⟨(some 6), none, .mv (.c (.bool false))⟩])
    .ret)
    .skip))
  (.seq (.seq (.region [⟨(some 30), none, .load true 2 (.t 3)⟩, ⟨(some 31), none, .mv (.t 1)⟩, ⟨(some 32), none, .call i_ranges_Content [(.t 30), (.t 31)]⟩, ⟨(some 29), none, .mv (.t 32)⟩, ⟨(some 33), none, .ext 0 (.t 29)⟩, ⟨(some 34), none, .ext 1 (.t 29)⟩, ⟨(some 10), none, .mv (.t 33)⟩, ⟨(some 11), none, .mv (.t 34)⟩])
  (.seq (.region [⟨(some 35), none, .mv (.t 11)⟩, ⟨(some 36), none, .bin .eql (.t 35) (.c (.int .i64 0))⟩])
  (.cond (.t 36)
    (.seq (.region [⟨(some 38), none, .mv (.t 10)⟩, ⟨(some 39), none, .call i_ranges_Read [(.t 38)]⟩, ⟨(some 37), none, .mv (.t 39)⟩, ⟨(some 40), none, .ext 0 (.t 37)⟩, ⟨(some 41), none, .ext 1 (.t 37)⟩, ⟨(some 42), none, .ext 2 (.t 37)⟩, ⟨(some 12), none, .boxz [(.int .i64 0), (.int .i64 0)]⟩, ⟨none, none, .store 2 (.t 12) (.t 40)⟩, ⟨(some 13), none, .mv (.t 41)⟩, ⟨(some 14), none, .mv (.t 42)⟩])
    (.seq (.seq (.region [⟨(some 43), none, .faddr 0 (.t 3)⟩, ⟨(some 44), none, .load false 1 (.t 43)⟩, ⟨(some 45), none, .faddr 1 (.t 3)⟩, ⟨(some 46), none, .load false 1 (.t 45)⟩, ⟨(some 47), none, .bin .eql (.t 44) (.t 46)⟩])
    (.cond (.t 47)
      (.region [⟨(some 48), none, .build [(.int .i64 0), (.int .i64 0)] []⟩, ⟨none, none, .store 2 (.t 3) (.t 48)⟩])
      .skip))
    (.seq (.region [⟨(some 49), none, .load true 2 (.t 12)⟩, ⟨(some 50), none, .load true 2 (.t 3)⟩, ⟨(some 51), none, .eq (.agg [.i, .i]) true (.t 49) (.t 50)⟩, ⟨(some 52), none, .mv (.t 51)⟩, ⟨(some 53), (some (52, false)), .mv (.t 13)⟩, ⟨(some 54), (some (52, false)), .mv (.t 1)⟩, ⟨(some 55), (some (52, false)), .bin .neq (.t 53) (.t 54)⟩, ⟨(some 56), none, .pick (.t 52) (.c (.bool true)) (.t 55)⟩, ⟨(some 57), none, .mv (.t 56)⟩, ⟨(some 58), (some (57, false)), .mv (.t 14)⟩, ⟨(some 59), (some (57, false)), .un .not (.t 58)⟩, ⟨(some 60), none, .pick (.t 57) (.c (.bool true)) (.t 59)⟩])
    (.cond (.t 60)
      (.seq (.region [⟨(some 6), none, .mv (.c (.bool false))⟩])
      .ret)
      .skip))))
    .skip)))
  (.seq (.region [⟨(some 62), none, .load true 2 (.t 5)⟩, ⟨(some 63), none, .mv (.t 1)⟩, ⟨(some 64), none, .call i_ranges_Resolve [(.t 62), (.t 63)]⟩, ⟨(some 61), none, .mv (.t 64)⟩, ⟨(some 65), none, .ext 0 (.t 61)⟩, ⟨(some 66), none, .ext 1 (.t 61)⟩, ⟨(some 15), none, .boxz [(.int .i64 0), (.int .i64 0)]⟩, ⟨none, none, .store 2 (.t 15) (.t 65)⟩, ⟨(some 16), none, .mv (.t 66)⟩])
  (.seq (.region [⟨(some 67), none, .mv (.t 16)⟩, ⟨(some 68), none, .un .not (.t 67)⟩, ⟨(some 69), none, .mv (.t 68)⟩, ⟨(some 70), (some (69, true)), .load true 2 (.t 15)⟩, ⟨(some 71), (some (69, true)), .build [(.int .i64 0), (.int .i64 0)] []⟩, ⟨(some 72), (some (69, true)), .eq (.agg [.i, .i]) false (.t 70) (.t 71)⟩, ⟨(some 73), none, .pick (.t 69) (.t 72) (.c (.bool false))⟩, ⟨(some 74), none, .mv (.t 73)⟩, ⟨(some 75), (some (74, false)), .mv (.t 16)⟩, ⟨(some 76), (some (74, false)), .mv (.t 75)⟩, ⟨(some 77), (some (76, true)), .faddr 0 (.t 15)⟩, ⟨(some 78), (some (76, true)), .load false 1 (.t 77)⟩, ⟨(some 79), (some (76, true)), .bin .geq (.t 78) (.c (.int .i64 0))⟩, ⟨(some 80), (some (74, false)), .pick (.t 76) (.t 79) (.c (.bool false))⟩, ⟨(some 81), (some (74, false)), .mv (.t 80)⟩, ⟨(some 82), (some (81, true)), .faddr 0 (.t 15)⟩, ⟨(some 83), (some (81, true)), .load false 1 (.t 82)⟩, ⟨(some 84), (some (81, true)), .faddr 1 (.t 15)⟩, ⟨(some 85), (some (81, true)), .load false 1 (.t 84)⟩, ⟨(some 86), (some (81, true)), .bin .lss (.t 83) (.t 85)⟩, ⟨(some 87), (some (74, false)), .pick (.t 81) (.t 86) (.c (.bool false))⟩, ⟨(some 88), (some (74, false)), .mv (.t 87)⟩, ⟨(some 89), (some (88, true)), .faddr 1 (.t 15)⟩, ⟨(some 90), (some (88, true)), .load false 1 (.t 89)⟩, ⟨(some 91), (some (88, true)), .mv (.t 1)⟩, ⟨(some 92), (some (88, true)), .bin .leq (.t 90) (.t 91)⟩, ⟨(some 93), (some (74, false)), .pick (.t 88) (.t 92) (.c (.bool false))⟩, ⟨(some 94), none, .pick (.t 74) (.c (.bool true)) (.t 93)⟩, ⟨(some 6), none, .mv (.t 94)⟩])
  .ret))))))⟩
/-- gatepost/gatepostlaw14.RangesTells -/
def c_gatepostlaw14_RangesTells : FnC := ⟨115, [.tmp 6],
  (.seq (.region [⟨(some 4), none, .box (.t 1)⟩, ⟨(some 6), none, .mv (.c (.bool false))⟩])
  (.seq (.seq (.region [⟨(some 22), none, .mv (.t 0)⟩, ⟨(some 23), none, .len 0 (.t 22)⟩, ⟨(some 24), none, .bin .gtr (.t 23) (.c (.int .i64 1000))⟩])
  (.cond (.t 24)
    (.seq (.region [⟨(some 6), none, .mv (.c (.bool true))⟩])
    .ret)
    .skip))
  (.seq (.region [⟨(some 26), none, .mv (.t 0)⟩, ⟨(some 27), none, .call i_ranges_Parse [(.t 26)]⟩, ⟨(some 25), none, .mv (.t 27)⟩, ⟨(some 28), none, .ext 0 (.t 25)⟩, ⟨(some 29), none, .ext 1 (.t 25)⟩, ⟨(some 7), none, .mv (.t 28)⟩, ⟨(some 8), none, .mv (.t 29)⟩])
  (.seq (.region [⟨(some 31), none, .mv (.t 0)⟩, ⟨(some 32), none, .call i_gatepostref14_Parse [(.t 31)]⟩, ⟨(some 30), none, .mv (.t 32)⟩, ⟨(some 33), none, .ext 0 (.t 30)⟩, ⟨(some 34), none, .ext 1 (.t 30)⟩, ⟨(some 9), none, .mv (.t 33)⟩, ⟨(some 10), none, .mv (.t 34)⟩])
  (.seq (.seq (.region [⟨(some 35), none, .mv (.t 8)⟩, ⟨(some 36), none, .mv (.t 10)⟩, ⟨(some 37), none, .eq .bool true (.t 35) (.t 36)⟩, ⟨(some 38), none, .mv (.t 37)⟩, ⟨(some 39), (some (38, false)), .mv (.t 7)⟩, ⟨(some 40), (some (38, false)), .len 1 (.t 39)⟩, ⟨(some 41), (some (38, false)), .mv (.t 9)⟩, ⟨(some 42), (some (38, false)), .len 1 (.t 41)⟩, ⟨(some 43), (some (38, false)), .bin .neq (.t 40) (.t 42)⟩, ⟨(some 44), none, .pick (.t 38) (.c (.bool true)) (.t 43)⟩])
  (.cond (.t 44)
    (.seq (.region [⟨(some 6), none, .mv (.c (.bool false))⟩])
    .ret)
    .skip))
  (.seq (.seq (.region [⟨(some 11), none, .mv (.c (.int .i64 0))⟩])
  (.block 0 (.loop
    (.seq (.seq (.region [⟨(some 45), none, .mv (.t 11)⟩, ⟨(some 46), none, .mv (.t 9)⟩, ⟨(some 47), none, .len 1 (.t 46)⟩, ⟨(some 48), none, .bin .lss (.t 45) (.t 47)⟩])
    (.cond (.t 48)
      .skip
      (.exit 0)))
    (.seq (.block 1 (.seq (.dregion [⟨(some 51), none, .mv (.t 7)⟩, ⟨(some 52), none, .mv (.t 11)⟩, ⟨(some 53), none, .ixaSl 2 (.t 51) (.t 52)⟩, ⟨(some 54), none, .load true 2 (.t 53)⟩, ⟨(some 55), none, .mv (.t 9)⟩, ⟨(some 56), none, .mv (.t 11)⟩, ⟨(some 57), none, .ixaSl 2 (.t 55) (.t 56)⟩, ⟨(some 58), none, .load true 2 (.t 57)⟩] [⟨(some 59), none, .eq (.agg [.i, .i]) true (.t 54) (.t 58)⟩])
    (.cond (.t 59)
      (.seq (.region [⟨(some 6), none, .mv (.c (.bool false))⟩])
      .ret)
      .skip)))
    (.region [⟨(some 49), none, .mv (.t 11)⟩, ⟨(some 50), none, .bin .add (.t 49) (.c (.int .i64 1))⟩, ⟨(some 11), none, .mv (.t 50)⟩]))))))
  (.seq (.region [⟨(some 61), none, .load true 2 (.t 4)⟩, ⟨(some 62), none, .mv (.t 2)⟩, ⟨(some 63), none, .call i_ranges_Resolve [(.t 61), (.t 62)]⟩, ⟨(some 60), none, .mv (.t 63)⟩, ⟨(some 64), none, .ext 0 (.t 60)⟩, ⟨(some 65), none, .ext 1 (.t 60)⟩, ⟨(some 12), none, .boxz [(.int .i64 0), (.int .i64 0)]⟩, ⟨none, none, .store 2 (.t 12) (.t 64)⟩, ⟨(some 13), none, .mv (.t 65)⟩])
  (.seq (.region [⟨(some 67), none, .load true 2 (.t 4)⟩, ⟨(some 68), none, .mv (.t 2)⟩, ⟨(some 69), none, .call i_gatepostref14_Resolve [(.t 67), (.t 68)]⟩, ⟨(some 66), none, .mv (.t 69)⟩, ⟨(some 70), none, .ext 0 (.t 66)⟩, ⟨(some 71), none, .ext 1 (.t 66)⟩, ⟨(some 14), none, .boxz [(.int .i64 0), (.int .i64 0)]⟩, ⟨none, none, .store 2 (.t 14) (.t 70)⟩, ⟨(some 15), none, .mv (.t 71)⟩])
  (.seq (.region [⟨(some 73), none, .mv (.t 0)⟩, ⟨(some 74), none, .mv (.t 2)⟩, ⟨(some 75), none, .call i_ranges_Pick [(.t 73), (.t 74)]⟩, ⟨(some 72), none, .mv (.t 75)⟩, ⟨(some 76), none, .ext 0 (.t 72)⟩, ⟨(some 77), none, .ext 1 (.t 72)⟩, ⟨(some 16), none, .boxz [(.int .i64 0), (.int .i64 0)]⟩, ⟨none, none, .store 2 (.t 16) (.t 76)⟩, ⟨(some 17), none, .mv (.t 77)⟩])
  (.seq (.region [⟨(some 79), none, .mv (.t 0)⟩, ⟨(some 80), none, .mv (.t 2)⟩, ⟨(some 81), none, .call i_gatepostref14_Pick [(.t 79), (.t 80)]⟩, ⟨(some 78), none, .mv (.t 81)⟩, ⟨(some 82), none, .ext 0 (.t 78)⟩, ⟨(some 83), none, .ext 1 (.t 78)⟩, ⟨(some 18), none, .boxz [(.int .i64 0), (.int .i64 0)]⟩, ⟨none, none, .store 2 (.t 18) (.t 82)⟩, ⟨(some 19), none, .mv (.t 83)⟩])
  (.seq (.region [⟨(some 85), none, .call i_ranges_Pick [(.c (.str [98, 121, 116, 101, 115, 61, 48, 45, 49])), (.c (.int .i64 10))]⟩, ⟨(some 84), none, .mv (.t 85)⟩, ⟨(some 86), none, .ext 0 (.t 84)⟩, ⟨(some 87), none, .ext 1 (.t 84)⟩, ⟨(some 20), none, .boxz [(.int .i64 0), (.int .i64 0)]⟩, ⟨none, none, .store 2 (.t 20) (.t 86)⟩, ⟨(some 21), none, .mv (.t 87)⟩])
  (.seq (.region [⟨(some 88), none, .load true 2 (.t 12)⟩, ⟨(some 89), none, .load true 2 (.t 14)⟩, ⟨(some 90), none, .eq (.agg [.i, .i]) false (.t 88) (.t 89)⟩, ⟨(some 91), none, .mv (.t 90)⟩, ⟨(some 92), (some (91, true)), .mv (.t 13)⟩, ⟨(some 93), (some (91, true)), .mv (.t 15)⟩, ⟨(some 94), (some (91, true)), .eq .bool false (.t 92) (.t 93)⟩, ⟨(some 95), none, .pick (.t 91) (.t 94) (.c (.bool false))⟩, ⟨(some 96), none, .mv (.t 95)⟩, ⟨(some 97), (some (96, true)), .load true 2 (.t 16)⟩, ⟨(some 98), (some (96, true)), .load true 2 (.t 18)⟩, ⟨(some 99), (some (96, true)), .eq (.agg [.i, .i]) false (.t 97) (.t 98)⟩, ⟨(some 100), none, .pick (.t 96) (.t 99) (.c (.bool false))⟩, ⟨(some 101), none, .mv (.t 100)⟩, ⟨(some 102), (some (101, true)), .mv (.t 17)⟩, ⟨(some 103), (some (101, true)), .mv (.t 19)⟩, ⟨(some 104), (some (101, true)), .bin .eql (.t 102) (.t 103)⟩, ⟨(some 105), none, .pick (.t 101) (.t 104) (.c (.bool false))⟩, ⟨(some 106), none, .mv (.t 105)⟩, ⟨(some 107), (some (106, true)), .load true 2 (.t 20)⟩, ⟨(some 108), (some (106, true)), .build [(.int .i64 0), (.int .i64 0)] [(0, 1, (.c (.int .i64 0))), (1, 1, (.c (.int .i64 2)))]⟩, ⟨(some 109), (some (106, true)), .eq (.agg [.i, .i]) false (.t 107) (.t 108)⟩, ⟨(some 110), none, .pick (.t 106) (.t 109) (.c (.bool false))⟩, ⟨(some 111), none, .mv (.t 110)⟩, ⟨(some 112), (some (111, true)), .mv (.t 21)⟩, ⟨(some 113), (some (111, true)), .bin .eql (.t 112) (.c (.int .i64 1))⟩, ⟨(some 114), none, .pick (.t 111) (.t 113) (.c (.bool false))⟩, ⟨(some 6), none, .mv (.t 114)⟩])
  .ret))))))))))))⟩
/-- gatepost/gatepostlaw14.RangesOne -/
def c_gatepostlaw14_RangesOne : FnC := ⟨110, [.tmp 6],
  (.seq (.region [⟨(some 6), none, .mv (.c (.bool false))⟩])
  (.seq (.region [⟨(some 14), none, .mv (.t 0)⟩, ⟨(some 15), none, .bin .and (.t 14) (.c (.int .i64 31))⟩, ⟨(some 16), none, .mv (.t 1)⟩, ⟨(some 17), none, .bin .and (.t 16) (.c (.int .i64 31))⟩, ⟨(some 18), none, .mv (.t 2)⟩, ⟨(some 19), none, .bin .and (.t 18) (.c (.int .i64 31))⟩, ⟨(some 0), none, .mv (.t 15)⟩, ⟨(some 1), none, .mv (.t 17)⟩, ⟨(some 2), none, .mv (.t 19)⟩])
  (.seq (.seq (.region [⟨(some 20), none, .mv (.t 0)⟩, ⟨(some 21), none, .mv (.t 1)⟩, ⟨(some 22), none, .bin .gtr (.t 20) (.t 21)⟩])
  (.cond (.t 22)
    (.region [⟨(some 23), none, .mv (.t 1)⟩, ⟨(some 24), none, .mv (.t 0)⟩, ⟨(some 0), none, .mv (.t 23)⟩, ⟨(some 1), none, .mv (.t 24)⟩])
    .skip))
  (.seq (.region [⟨(some 25), none, .mv (.t 0)⟩, ⟨(some 26), none, .call i_gatepostlaw14_number [(.t 25)]⟩, ⟨(some 27), none, .bin .add (.t 26) (.c (.str [45]))⟩, ⟨(some 28), none, .mv (.t 1)⟩, ⟨(some 29), none, .call i_gatepostlaw14_number [(.t 28)]⟩, ⟨(some 30), none, .bin .add (.t 27) (.t 29)⟩, ⟨(some 7), none, .mv (.t 30)⟩])
  (.seq (.region [⟨(some 32), none, .mv (.t 7)⟩, ⟨(some 33), none, .bin .add (.c (.str [98, 121, 116, 101, 115, 61])) (.t 32)⟩, ⟨(some 34), none, .mv (.t 2)⟩, ⟨(some 35), none, .call i_ranges_Pick [(.t 33), (.t 34)]⟩, ⟨(some 31), none, .mv (.t 35)⟩, ⟨(some 36), none, .ext 0 (.t 31)⟩, ⟨(some 37), none, .ext 1 (.t 31)⟩, ⟨(some 8), none, .boxz [(.int .i64 0), (.int .i64 0)]⟩, ⟨none, none, .store 2 (.t 8) (.t 36)⟩, ⟨(some 9), none, .mv (.t 37)⟩])
  (.seq (.region [⟨(some 39), none, .mv (.t 7)⟩, ⟨(some 40), none, .bin .add (.c (.str [66, 89, 84, 69, 83, 61])) (.t 39)⟩, ⟨(some 41), none, .bin .add (.t 40) (.c (.str [44, 32, 48, 45, 48]))⟩, ⟨(some 42), none, .mv (.t 2)⟩, ⟨(some 43), none, .call i_ranges_Pick [(.t 41), (.t 42)]⟩, ⟨(some 38), none, .mv (.t 43)⟩, ⟨(some 44), none, .ext 0 (.t 38)⟩, ⟨(some 45), none, .ext 1 (.t 38)⟩, ⟨(some 10), none, .boxz [(.int .i64 0), (.int .i64 0)]⟩, ⟨none, none, .store 2 (.t 10) (.t 44)⟩, ⟨(some 11), none, .mv (.t 45)⟩])
  (.seq (.region [⟨(some 47), none, .mv (.t 0)⟩, ⟨(some 48), none, .call i_gatepostlaw14_number [(.t 47)]⟩, ⟨(some 49), none, .bin .add (.c (.str [98, 121, 116, 101, 115, 61, 45])) (.t 48)⟩, ⟨(some 50), none, .mv (.t 2)⟩, ⟨(some 51), none, .call i_ranges_Pick [(.t 49), (.t 50)]⟩, ⟨(some 46), none, .mv (.t 51)⟩, ⟨(some 52), none, .ext 0 (.t 46)⟩, ⟨(some 53), none, .ext 1 (.t 46)⟩, ⟨(some 12), none, .boxz [(.int .i64 0), (.int .i64 0)]⟩, ⟨none, none, .store 2 (.t 12) (.t 52)⟩, ⟨(some 13), none, .mv (.t 53)⟩])
  (.seq (.seq (.region [⟨(some 54), none, .mv (.t 0)⟩, ⟨(some 55), none, .mv (.t 2)⟩, ⟨(some 56), none, .bin .geq (.t 54) (.t 55)⟩])
  (.cond (.t 56)
    (.seq (.region [⟨(some 57), none, .mv (.t 9)⟩, ⟨(some 58), none, .bin .neq (.t 57) (.c (.int .i64 2))⟩, ⟨(some 59), none, .mv (.t 58)⟩, ⟨(some 60), (some (59, false)), .load true 2 (.t 8)⟩, ⟨(some 61), (some (59, false)), .build [(.int .i64 0), (.int .i64 0)] []⟩, ⟨(some 62), (some (59, false)), .eq (.agg [.i, .i]) true (.t 60) (.t 61)⟩, ⟨(some 63), none, .pick (.t 59) (.c (.bool true)) (.t 62)⟩])
    (.cond (.t 63)
      (.seq (.region [⟨(some 6), none, .mv (.c (.bool false))⟩])
      .ret)
      .skip))
    (.seq (.region [⟨(some 64), none, .mv (.t 9)⟩, ⟨(some 65), none, .bin .neq (.t 64) (.c (.int .i64 1))⟩, ⟨(some 66), none, .mv (.t 65)⟩, ⟨(some 67), (some (66, false)), .faddr 0 (.t 8)⟩, ⟨(some 68), (some (66, false)), .load false 1 (.t 67)⟩, ⟨(some 69), (some (66, false)), .mv (.t 0)⟩, ⟨(some 70), (some (66, false)), .bin .neq (.t 68) (.t 69)⟩, ⟨(some 71), none, .pick (.t 66) (.c (.bool true)) (.t 70)⟩, ⟨(some 72), none, .mv (.t 71)⟩, ⟨(some 73), (some (72, false)), .faddr 1 (.t 8)⟩, ⟨(some 74), (some (72, false)), .load false 1 (.t 73)⟩, ⟨(some 75), (some (72, false)), .mv (.t 1)⟩, ⟨(some 76), (some (72, false)), .bin .add (.t 75) (.c (.int .i64 1))⟩, ⟨(some 77), (some (72, false)), .mv (.t 2)⟩, ⟨(some 78), (some (72, false)), .mn [(.t 76), (.t 77)]⟩, ⟨(some 79), (some (72, false)), .bin .neq (.t 74) (.t 78)⟩, ⟨(some 80), none, .pick (.t 72) (.c (.bool true)) (.t 79)⟩, ⟨(some 81), none, .mv (.t 80)⟩, ⟨(some 82), (some (81, false)), .mv (.t 11)⟩, ⟨(some 83), (some (81, false)), .bin .neq (.t 82) (.c (.int .i64 0))⟩, ⟨(some 84), none, .pick (.t 81) (.c (.bool true)) (.t 83)⟩, ⟨(some 85), none, .mv (.t 84)⟩, ⟨(some 86), (some (85, false)), .load true 2 (.t 10)⟩, ⟨(some 87), (some (85, false)), .build [(.int .i64 0), (.int .i64 0)] []⟩, ⟨(some 88), (some (85, false)), .eq (.agg [.i, .i]) true (.t 86) (.t 87)⟩, ⟨(some 89), none, .pick (.t 85) (.c (.bool true)) (.t 88)⟩])
    (.cond (.t 89)
      (.seq (.region [⟨(some 6), none, .mv (.c (.bool false))⟩])
      .ret)
      .skip))))
  (.seq (.seq (.region [⟨(some 90), none, .mv (.t 0)⟩, ⟨(some 91), none, .bin .eql (.t 90) (.c (.int .i64 0))⟩, ⟨(some 92), none, .mv (.t 91)⟩, ⟨(some 93), (some (92, false)), .mv (.t 2)⟩, ⟨(some 94), (some (92, false)), .bin .eql (.t 93) (.c (.int .i64 0))⟩, ⟨(some 95), none, .pick (.t 92) (.c (.bool true)) (.t 94)⟩])
  (.cond (.t 95)
    (.seq (.region [⟨(some 96), none, .mv (.t 13)⟩, ⟨(some 97), none, .bin .eql (.t 96) (.c (.int .i64 2))⟩, ⟨(some 6), none, .mv (.t 97)⟩])
    .ret)
    .skip))
  (.seq (.region [⟨(some 98), none, .mv (.t 13)⟩, ⟨(some 99), none, .bin .eql (.t 98) (.c (.int .i64 1))⟩, ⟨(some 100), none, .mv (.t 99)⟩, ⟨(some 101), (some (100, true)), .load true 2 (.t 12)⟩, ⟨(some 102), (some (100, true)), .mv (.t 2)⟩, ⟨(some 103), (some (100, true)), .mv (.t 0)⟩, ⟨(some 104), (some (100, true)), .bin .sub (.t 102) (.t 103)⟩, ⟨(some 105), (some (100, true)), .mx [(.c (.int .i64 0)), (.t 104)]⟩, ⟨(some 106), (some (100, true)), .mv (.t 2)⟩, ⟨(some 107), (some (100, true)), .build [(.int .i64 0), (.int .i64 0)] [(0, 1, (.t 105)), (1, 1, (.t 106))]⟩, ⟨(some 108), (some (100, true)), .eq (.agg [.i, .i]) false (.t 101) (.t 107)⟩, ⟨(some 109), none, .pick (.t 100) (.t 108) (.c (.bool false))⟩, ⟨(some 6), none, .mv (.t 109)⟩])
  .ret))))))))))⟩
/-- gatepost/gatepostlaw14.RangesMany -/
def c_gatepostlaw14_RangesMany : FnC := ⟨84, [.tmp 4],
  (.seq (.region [⟨(some 4), none, .mv (.c (.bool false))⟩])
  (.seq (.region [⟨(some 11), none, .mv (.t 0)⟩, ⟨(some 12), none, .bin .and (.t 11) (.c (.int .i64 7))⟩, ⟨(some 13), none, .bin .add (.c (.int .i64 28)) (.t 12)⟩, ⟨(some 0), none, .mv (.t 13)⟩])
  (.seq (.region [⟨(some 14), none, .mv (.t 1)⟩, ⟨(some 15), none, .bin .and (.t 14) (.c (.int .i64 63))⟩, ⟨(some 1), none, .mv (.t 15)⟩])
  (.seq (.region [⟨(some 5), none, .mv (.c (.str [98, 121, 116, 101, 115, 61]))⟩])
  (.seq (.seq (.region [⟨(some 6), none, .mv (.c (.int .i64 0))⟩])
  (.block 0 (.loop
    (.seq (.seq (.region [⟨(some 16), none, .mv (.t 6)⟩, ⟨(some 17), none, .mv (.t 0)⟩, ⟨(some 18), none, .bin .lss (.t 16) (.t 17)⟩])
    (.cond (.t 18)
      .skip
      (.exit 0)))
    (.seq (.block 1 (.region [⟨(some 21), none, .mv (.t 5)⟩, ⟨(some 22), none, .mv (.t 6)⟩, ⟨(some 23), none, .call i_gatepostlaw14_number [(.t 22)]⟩, ⟨(some 24), none, .bin .add (.t 21) (.t 23)⟩, ⟨(some 25), none, .bin .add (.t 24) (.c (.str [45]))⟩, ⟨(some 26), none, .mv (.t 6)⟩, ⟨(some 27), none, .call i_gatepostlaw14_number [(.t 26)]⟩, ⟨(some 28), none, .bin .add (.t 25) (.t 27)⟩, ⟨(some 29), none, .bin .add (.t 28) (.c (.str [44]))⟩, ⟨(some 5), none, .mv (.t 29)⟩]))
    (.region [⟨(some 19), none, .mv (.t 6)⟩, ⟨(some 20), none, .bin .add (.t 19) (.c (.int .i64 1))⟩, ⟨(some 6), none, .mv (.t 20)⟩]))))))
  (.seq (.region [⟨(some 31), none, .mv (.t 5)⟩, ⟨(some 32), none, .call i_ranges_Parse [(.t 31)]⟩, ⟨(some 30), none, .mv (.t 32)⟩, ⟨(some 33), none, .ext 0 (.t 30)⟩, ⟨(some 34), none, .ext 1 (.t 30)⟩, ⟨(some 7), none, .mv (.t 33)⟩, ⟨(some 8), none, .mv (.t 34)⟩])
  (.seq (.region [⟨(some 36), none, .mv (.t 5)⟩, ⟨(some 37), none, .mv (.t 1)⟩, ⟨(some 38), none, .call i_ranges_Pick [(.t 36), (.t 37)]⟩, ⟨(some 35), none, .mv (.t 38)⟩, ⟨(some 39), none, .ext 0 (.t 35)⟩, ⟨(some 40), none, .ext 1 (.t 35)⟩, ⟨(some 9), none, .boxz [(.int .i64 0), (.int .i64 0)]⟩, ⟨none, none, .store 2 (.t 9) (.t 39)⟩, ⟨(some 10), none, .mv (.t 40)⟩])
  (.seq (.seq (.region [⟨(some 41), none, .mv (.t 8)⟩, ⟨(some 42), none, .mv (.t 0)⟩, ⟨(some 43), none, .bin .leq (.t 42) (.c (.int .i64 32))⟩, ⟨(some 44), none, .eq .bool true (.t 41) (.t 43)⟩, ⟨(some 45), none, .mv (.t 44)⟩, ⟨(some 46), (some (45, false)), .mv (.t 8)⟩, ⟨(some 47), (some (45, false)), .mv (.t 46)⟩, ⟨(some 48), (some (47, true)), .mv (.t 7)⟩, ⟨(some 49), (some (47, true)), .len 1 (.t 48)⟩, ⟨(some 50), (some (47, true)), .mv (.t 0)⟩, ⟨(some 51), (some (47, true)), .bin .neq (.t 49) (.t 50)⟩, ⟨(some 52), (some (45, false)), .pick (.t 47) (.t 51) (.c (.bool false))⟩, ⟨(some 53), none, .pick (.t 45) (.c (.bool true)) (.t 52)⟩, ⟨(some 54), none, .mv (.t 53)⟩, ⟨(some 55), (some (54, false)), .mv (.t 8)⟩, ⟨(some 56), (some (54, false)), .un .not (.t 55)⟩, ⟨(some 57), (some (54, false)), .mv (.t 56)⟩, ⟨(some 58), (some (57, true)), .mv (.t 10)⟩, ⟨(some 59), (some (57, true)), .bin .neq (.t 58) (.c (.int .i64 0))⟩, ⟨(some 60), (some (54, false)), .pick (.t 57) (.t 59) (.c (.bool false))⟩, ⟨(some 61), none, .pick (.t 54) (.c (.bool true)) (.t 60)⟩])
  (.cond (.t 61)
    (.seq (.region [⟨(some 4), none, .mv (.c (.bool false))⟩])
    .ret)
    .skip))
  (.seq (.seq (.region [⟨(some 62), none, .mv (.t 8)⟩, ⟨(some 63), none, .un .not (.t 62)⟩])
  (.cond (.t 63)
    (.seq (.region [⟨(some 4), none, .mv (.c (.bool true))⟩])
    .ret)
    .skip))
  (.seq (.seq (.region [⟨(some 64), none, .mv (.t 1)⟩, ⟨(some 65), none, .bin .eql (.t 64) (.c (.int .i64 0))⟩])
  (.cond (.t 65)
    (.seq (.region [⟨(some 66), none, .mv (.t 10)⟩, ⟨(some 67), none, .bin .eql (.t 66) (.c (.int .i64 2))⟩, ⟨(some 4), none, .mv (.t 67)⟩])
    .ret)
    .skip))
  (.seq (.seq (.region [⟨(some 68), none, .mv (.t 1)⟩, ⟨(some 69), none, .bin .eql (.t 68) (.c (.int .i64 1))⟩])
  (.cond (.t 69)
    (.seq (.region [⟨(some 70), none, .mv (.t 10)⟩, ⟨(some 71), none, .bin .eql (.t 70) (.c (.int .i64 1))⟩, ⟨(some 72), none, .mv (.t 71)⟩, ⟨(some 73), (some (72, true)), .load true 2 (.t 9)⟩, ⟨(some 74), (some (72, true)), .build [(.int .i64 0), (.int .i64 0)] [(0, 1, (.c (.int .i64 0))), (1, 1, (.c (.int .i64 1)))]⟩, ⟨(some 75), (some (72, true)), .eq (.agg [.i, .i]) false (.t 73) (.t 74)⟩, ⟨(some 76), none, .pick (.t 72) (.t 75) (.c (.bool false))⟩, ⟨(some 4), none, .mv (.t 76)⟩])
    .ret)
    .skip))
  (.seq (.region [⟨(some 77), none, .mv (.t 10)⟩, ⟨(some 78), none, .bin .eql (.t 77) (.c (.int .i64 0))⟩, ⟨(some 79), none, .mv (.t 78)⟩, ⟨(some 80), (some (79, true)), .load true 2 (.t 9)⟩, ⟨(some 81), (some (79, true)), .build [(.int .i64 0), (.int .i64 0)] []⟩, ⟨(some 82), (some (79, true)), .eq (.agg [.i, .i]) false (.t 80) (.t 81)⟩, ⟨(some 83), none, .pick (.t 79) (.t 82) (.c (.bool false))⟩, ⟨(some 4), none, .mv (.t 83)⟩])
  .ret))))))))))))⟩
/-- gatepost/ranges.Content -/
def c_ranges_Content : FnC := ⟨35, [.tmp 4, .tmp 5],
  (.seq (.region [⟨(some 2), none, .box (.t 0)⟩, ⟨(some 4), none, .mv (.c (.str []))⟩, ⟨(some 5), none, .mv (.c (.int .i64 0))⟩])
  (.seq (.seq (.region [⟨(some 8), none, .load true 2 (.t 2)⟩, ⟨(some 9), none, .mv (.t 1)⟩, ⟨(some 10), none, .call i_ranges_may [(.t 8), (.t 9)]⟩, ⟨(some 11), none, .un .not (.t 10)⟩])
  (.cond (.t 11)
    (.seq (.region [⟨(some 4), none, .mv (.c (.str []))⟩, ⟨(some 5), none, .mv (.c (.int .i64 2))⟩])
    .ret)
    .skip))
  (.seq (.region [⟨(some 6), none, .mv (.c (.str [42]))⟩, ⟨(some 7), none, .mv (.c (.str [42]))⟩])
  (.seq (.seq (.region [⟨(some 12), none, .faddr 0 (.t 2)⟩, ⟨(some 13), none, .load false 1 (.t 12)⟩, ⟨(some 14), none, .faddr 1 (.t 2)⟩, ⟨(some 15), none, .load false 1 (.t 14)⟩, ⟨(some 16), none, .bin .lss (.t 13) (.t 15)⟩])
  (.cond (.t 16)
    (.dregion [⟨(some 17), none, .faddr 0 (.t 2)⟩, ⟨(some 18), none, .load false 1 (.t 17)⟩, ⟨(some 19), none, .call i_strconv_Itoa [(.t 18)]⟩, ⟨(some 20), none, .bin .add (.t 19) (.c (.str [45]))⟩, ⟨(some 21), none, .faddr 1 (.t 2)⟩, ⟨(some 22), none, .load false 1 (.t 21)⟩, ⟨(some 23), none, .bin .sub (.t 22) (.c (.int .i64 1))⟩, ⟨(some 24), none, .call i_strconv_Itoa [(.t 23)]⟩] [⟨(some 25), none, .bin .add (.t 20) (.t 24)⟩, ⟨(some 6), none, .mv (.t 25)⟩])
    .skip))
  (.seq (.seq (.region [⟨(some 26), none, .mv (.t 1)⟩, ⟨(some 27), none, .bin .neq (.t 26) (.c (.int .i64 (-1)))⟩])
  (.cond (.t 27)
    (.region [⟨(some 28), none, .mv (.t 1)⟩, ⟨(some 29), none, .call i_strconv_Itoa [(.t 28)]⟩, ⟨(some 7), none, .mv (.t 29)⟩])
    .skip))
  (.seq (.region [⟨(some 30), none, .mv (.t 6)⟩, ⟨(some 31), none, .bin .add (.c (.str [98, 121, 116, 101, 115, 32])) (.t 30)⟩, ⟨(some 32), none, .bin .add (.t 31) (.c (.str [47]))⟩, ⟨(some 33), none, .mv (.t 7)⟩, ⟨(some 34), none, .bin .add (.t 32) (.t 33)⟩, ⟨(some 4), none, .mv (.t 34)⟩, ⟨(some 5), none, .mv (.c (.int .i64 0))⟩])
  .ret))))))⟩
/-- gatepost/gatepostref14.Content -/
def c_gatepostref14_Content : FnC := ⟨35, [.tmp 4, .tmp 5],
  (.seq (.region [⟨(some 2), none, .box (.t 0)⟩, ⟨(some 4), none, .mv (.c (.str []))⟩, ⟨(some 5), none, .mv (.c (.int .i64 0))⟩])
  (.seq (.seq (.region [⟨(some 7), none, .load true 2 (.t 2)⟩, ⟨(some 8), none, .mv (.t 1)⟩, ⟨(some 9), none, .call i_gatepostref14_right [(.t 7), (.t 8)]⟩, ⟨(some 10), none, .un .not (.t 9)⟩])
  (.cond (.t 10)
    (.seq (.region [⟨(some 4), none, .mv (.c (.str []))⟩, ⟨(some 5), none, .mv (.c (.int .i64 2))⟩])
    .ret)
    .skip))
  (.seq (.region [⟨(some 6), none, .mv (.c (.str [42]))⟩])
  (.seq (.seq (.region [⟨(some 11), none, .mv (.t 1)⟩, ⟨(some 12), none, .bin .geq (.t 11) (.c (.int .i64 0))⟩])
  (.cond (.t 12)
    (.region [⟨(some 13), none, .mv (.t 1)⟩, ⟨(some 14), none, .call i_gatepostref14_digits [(.t 13)]⟩, ⟨(some 6), none, .mv (.t 14)⟩])
    .skip))
  (.seq (.seq (.region [⟨(some 15), none, .faddr 0 (.t 2)⟩, ⟨(some 16), none, .load false 1 (.t 15)⟩, ⟨(some 17), none, .faddr 1 (.t 2)⟩, ⟨(some 18), none, .load false 1 (.t 17)⟩, ⟨(some 19), none, .bin .eql (.t 16) (.t 18)⟩])
  (.cond (.t 19)
    (.seq (.region [⟨(some 20), none, .mv (.t 6)⟩, ⟨(some 21), none, .bin .add (.c (.str [98, 121, 116, 101, 115, 32, 42, 47])) (.t 20)⟩, ⟨(some 4), none, .mv (.t 21)⟩, ⟨(some 5), none, .mv (.c (.int .i64 0))⟩])
    .ret)
    .skip))
  (.seq (.dregion [⟨(some 22), none, .faddr 0 (.t 2)⟩, ⟨(some 23), none, .load false 1 (.t 22)⟩, ⟨(some 24), none, .call i_gatepostref14_digits [(.t 23)]⟩, ⟨(some 25), none, .bin .add (.c (.str [98, 121, 116, 101, 115, 32])) (.t 24)⟩, ⟨(some 26), none, .bin .add (.t 25) (.c (.str [45]))⟩, ⟨(some 27), none, .faddr 1 (.t 2)⟩, ⟨(some 28), none, .load false 1 (.t 27)⟩, ⟨(some 29), none, .bin .sub (.t 28) (.c (.int .i64 1))⟩, ⟨(some 30), none, .call i_gatepostref14_digits [(.t 29)]⟩, ⟨(some 31), none, .bin .add (.t 26) (.t 30)⟩, ⟨(some 32), none, .bin .add (.t 31) (.c (.str [47]))⟩, ⟨(some 33), none, .mv (.t 6)⟩] [⟨(some 34), none, .bin .add (.t 32) (.t 33)⟩, ⟨(some 4), none, .mv (.t 34)⟩, ⟨(some 5), none, .mv (.c (.int .i64 0))⟩])
  .ret))))))⟩
/-- gatepost/ranges.Read -/
def c_ranges_Read : FnC := ⟨78, [.cell 2 true 2, .tmp 3, .tmp 4],
  (.seq (.region [⟨(some 2), none, .boxz [(.int .i64 0), (.int .i64 0)]⟩, ⟨(some 3), none, .mv (.c (.int .i64 0))⟩, ⟨(some 4), none, .mv (.c (.bool false))⟩])
  (.seq (.region [⟨(some 18), none, .mv (.t 0)⟩, ⟨(some 19), none, .call i_strings_CutPrefix [(.t 18), (.c (.str [98, 121, 116, 101, 115, 32]))]⟩, ⟨(some 17), none, .mv (.t 19)⟩, ⟨(some 20), none, .ext 0 (.t 17)⟩, ⟨(some 21), none, .ext 1 (.t 17)⟩, ⟨(some 5), none, .mv (.t 20)⟩, ⟨(some 6), none, .mv (.t 21)⟩])
  (.seq (.region [⟨(some 23), none, .mv (.t 5)⟩, ⟨(some 24), none, .call i_strings_Cut [(.t 23), (.c (.str [47]))]⟩, ⟨(some 22), none, .mv (.t 24)⟩, ⟨(some 25), none, .ext 0 (.t 22)⟩, ⟨(some 26), none, .ext 1 (.t 22)⟩, ⟨(some 27), none, .ext 2 (.t 22)⟩, ⟨(some 7), none, .mv (.t 25)⟩, ⟨(some 8), none, .mv (.t 26)⟩, ⟨(some 9), none, .mv (.t 27)⟩])
  (.seq (.region [⟨(some 28), none, .mv (.t 6)⟩, ⟨(some 29), none, .mv (.t 28)⟩, ⟨(some 30), (some (29, true)), .mv (.t 9)⟩, ⟨(some 31), none, .pick (.t 29) (.t 30) (.c (.bool false))⟩, ⟨(some 10), none, .boxz [(.bool false)]⟩, ⟨none, none, .store 1 (.t 10) (.t 31)⟩])
  (.seq (.region [⟨(some 32), none, .mkfn i_ranges_Read_1 [(.t 10)]⟩, ⟨(some 11), none, .mv (.t 32)⟩])
  (.seq (.region [⟨(some 12), none, .mv (.c (.int .i64 (-1)))⟩])
  (.seq (.seq (.region [⟨(some 33), none, .mv (.t 8)⟩, ⟨(some 34), none, .bin .neq (.t 33) (.c (.str [42]))⟩])
  (.cond (.t 34)
    (.region [⟨(some 35), none, .mv (.t 11)⟩, ⟨(some 36), none, .mv (.t 8)⟩, ⟨(some 37), none, .callv (.t 35) [(.t 36)]⟩, ⟨(some 12), none, .mv (.t 37)⟩])
    .skip))
  (.seq (.region [⟨(some 38), none, .build [(.int .i64 0), (.int .i64 0)] []⟩, ⟨(some 13), none, .boxz [(.int .i64 0), (.int .i64 0)]⟩, ⟨none, none, .store 2 (.t 13) (.t 38)⟩])
  (.seq (.seq (.region [⟨(some 39), none, .mv (.t 7)⟩, ⟨(some 40), none, .bin .neq (.t 39) (.c (.str [42]))⟩])
  (.cond (.t 40)
    (.seq (.region [⟨(some 42), none, .mv (.t 7)⟩, ⟨(some 43), none, .call i_strings_Cut [(.t 42), (.c (.str [45]))]⟩, ⟨(some 41), none, .mv (.t 43)⟩, ⟨(some 44), none, .ext 0 (.t 41)⟩, ⟨(some 45), none, .ext 1 (.t 41)⟩, ⟨(some 46), none, .ext 2 (.t 41)⟩, ⟨(some 14), none, .mv (.t 44)⟩, ⟨(some 15), none, .mv (.t 45)⟩, ⟨(some 16), none, .mv (.t 46)⟩])
    (.seq (.region [⟨(some 47), none, .mv (.t 11)⟩, ⟨(some 48), none, .mv (.t 14)⟩, ⟨(some 49), none, .callv (.t 47) [(.t 48)]⟩, ⟨(some 50), none, .faddr 0 (.t 13)⟩, ⟨none, none, .store 1 (.t 50) (.t 49)⟩])
    (.seq (.region [⟨(some 51), none, .mv (.t 11)⟩, ⟨(some 52), none, .mv (.t 15)⟩, ⟨(some 53), none, .callv (.t 51) [(.t 52)]⟩, ⟨(some 54), none, .bin .add (.t 53) (.c (.int .i64 1))⟩, ⟨(some 55), none, .faddr 1 (.t 13)⟩, ⟨none, none, .store 1 (.t 55) (.t 54)⟩])
    (.region [⟨(some 56), none, .load false 1 (.t 10)⟩, ⟨(some 57), none, .mv (.t 56)⟩, ⟨(some 58), (some (57, true)), .mv (.t 16)⟩, ⟨(some 59), none, .pick (.t 57) (.t 58) (.c (.bool false))⟩, ⟨(some 60), none, .mv (.t 59)⟩, ⟨(some 61), (some (60, true)), .faddr 0 (.t 13)⟩, ⟨(some 62), (some (60, true)), .load false 1 (.t 61)⟩, ⟨(some 63), (some (60, true)), .faddr 1 (.t 13)⟩, ⟨(some 64), (some (60, true)), .load false 1 (.t 63)⟩, ⟨(some 65), (some (60, true)), .bin .lss (.t 62) (.t 64)⟩, ⟨(some 66), none, .pick (.t 60) (.t 65) (.c (.bool false))⟩, ⟨none, none, .store 1 (.t 10) (.t 66)⟩]))))
    .skip))
  (.seq (.seq (.region [⟨(some 67), none, .load false 1 (.t 10)⟩, ⟨(some 68), none, .un .not (.t 67)⟩, ⟨(some 69), none, .mv (.t 68)⟩, ⟨(some 70), (some (69, false)), .load true 2 (.t 13)⟩, ⟨(some 71), (some (69, false)), .mv (.t 12)⟩, ⟨(some 72), (some (69, false)), .call i_ranges_may [(.t 70), (.t 71)]⟩, ⟨(some 73), (some (69, false)), .un .not (.t 72)⟩, ⟨(some 74), none, .pick (.t 69) (.c (.bool true)) (.t 73)⟩])
  (.cond (.t 74)
    (.seq (.region [⟨(some 75), none, .build [(.int .i64 0), (.int .i64 0)] []⟩, ⟨none, none, .store 2 (.t 2) (.t 75)⟩, ⟨(some 3), none, .mv (.c (.int .i64 0))⟩, ⟨(some 4), none, .mv (.c (.bool false))⟩])
    .ret)
    .skip))
  (.seq (.region [⟨(some 76), none, .load true 2 (.t 13)⟩, ⟨(some 77), none, .mv (.t 12)⟩, ⟨none, none, .store 2 (.t 2) (.t 76)⟩, ⟨(some 3), none, .mv (.t 77)⟩, ⟨(some 4), none, .mv (.c (.bool true))⟩])
  .ret)))))))))))⟩
/-- gatepost/gatepostref14.Read -/
def c_gatepostref14_Read : FnC := ⟨119, [.cell 2 true 2, .tmp 3, .tmp 4],
  (.seq (.region [⟨(some 2), none, .boxz [(.int .i64 0), (.int .i64 0)]⟩, ⟨(some 3), none, .mv (.c (.int .i64 0))⟩, ⟨(some 4), none, .mv (.c (.bool false))⟩])
  (.seq (.seq (.region [⟨(some 15), none, .mv (.t 0)⟩, ⟨(some 16), none, .len 0 (.t 15)⟩, ⟨(some 17), none, .bin .lss (.t 16) (.c (.int .i64 6))⟩, ⟨(some 18), none, .mv (.t 17)⟩, ⟨(some 19), (some (18, false)), .mv (.t 0)⟩, ⟨(some 20), (some (18, false)), .slstr (.t 19) none (some (.c (.int .i64 6)))⟩, ⟨(some 21), (some (18, false)), .bin .neq (.t 20) (.c (.str [98, 121, 116, 101, 115, 32]))⟩, ⟨(some 22), none, .pick (.t 18) (.c (.bool true)) (.t 21)⟩])
  (.cond (.t 22)
    (.seq (.region [⟨(some 23), none, .build [(.int .i64 0), (.int .i64 0)] []⟩, ⟨none, none, .store 2 (.t 2) (.t 23)⟩, ⟨(some 3), none, .mv (.c (.int .i64 0))⟩, ⟨(some 4), none, .mv (.c (.bool false))⟩])
    .ret)
    .skip))
  (.seq (.region [⟨(some 24), none, .mv (.t 0)⟩, ⟨(some 25), none, .slstr (.t 24) (some (.c (.int .i64 6))) none⟩, ⟨(some 0), none, .mv (.t 25)⟩])
  (.seq (.region [⟨(some 5), none, .mv (.c (.int .i64 0))⟩])
  (.seq (.block 0 (.loop
    (.seq (.seq (.region [⟨(some 26), none, .mv (.t 5)⟩, ⟨(some 27), none, .mv (.t 0)⟩, ⟨(some 28), none, .len 0 (.t 27)⟩, ⟨(some 29), none, .bin .lss (.t 26) (.t 28)⟩, ⟨(some 30), none, .mv (.t 29)⟩, ⟨(some 31), (some (30, true)), .mv (.t 0)⟩, ⟨(some 32), (some (30, true)), .mv (.t 5)⟩, ⟨(some 33), (some (30, true)), .ixStr (.t 31) (.t 32)⟩, ⟨(some 34), (some (30, true)), .bin .neq (.t 33) (.c (.int .u8 47))⟩, ⟨(some 35), none, .pick (.t 30) (.t 34) (.c (.bool false))⟩])
    (.cond (.t 35)
      .skip
      (.exit 0)))
    (.block 1 (.region [⟨(some 36), none, .mv (.t 5)⟩, ⟨(some 37), none, .bin .add (.t 36) (.c (.int .i64 1))⟩, ⟨(some 5), none, .mv (.t 37)⟩])))))
  (.seq (.seq (.region [⟨(some 38), none, .mv (.t 5)⟩, ⟨(some 39), none, .mv (.t 0)⟩, ⟨(some 40), none, .len 0 (.t 39)⟩, ⟨(some 41), none, .bin .eql (.t 38) (.t 40)⟩])
  (.cond (.t 41)
    (.seq (.region [⟨(some 42), none, .build [(.int .i64 0), (.int .i64 0)] []⟩, ⟨none, none, .store 2 (.t 2) (.t 42)⟩, ⟨(some 3), none, .mv (.c (.int .i64 0))⟩, ⟨(some 4), none, .mv (.c (.bool false))⟩])
    .ret)
    .skip))
  (.seq (.region [⟨(some 6), none, .mv (.c (.int .i64 (-1)))⟩])
  (.seq (.seq (.region [⟨(some 43), none, .mv (.t 0)⟩, ⟨(some 44), none, .mv (.t 5)⟩, ⟨(some 45), none, .bin .add (.t 44) (.c (.int .i64 1))⟩, ⟨(some 46), none, .slstr (.t 43) (some (.t 45)) none⟩, ⟨(some 47), none, .bin .neq (.t 46) (.c (.str [42]))⟩])
  (.cond (.t 47)
    (.seq (.region [⟨(some 49), none, .mv (.t 0)⟩, ⟨(some 50), none, .mv (.t 5)⟩, ⟨(some 51), none, .bin .add (.t 50) (.c (.int .i64 1))⟩, ⟨(some 52), none, .slstr (.t 49) (some (.t 51)) none⟩, ⟨(some 53), none, .call i_gatepostref01_Number [(.t 52), (.c (.int .i64 1048577))]⟩, ⟨(some 48), none, .mv (.t 53)⟩, ⟨(some 54), none, .ext 0 (.t 48)⟩, ⟨(some 55), none, .ext 1 (.t 48)⟩, ⟨(some 7), none, .mv (.t 54)⟩, ⟨(some 8), none, .mv (.t 55)⟩])
    (.seq (.seq (.region [⟨(some 56), none, .mv (.t 8)⟩, ⟨(some 57), none, .un .not (.t 56)⟩])
    (.cond (.t 57)
      (.seq (.region [⟨(some 58), none, .build [(.int .i64 0), (.int .i64 0)] []⟩, ⟨none, none, .store 2 (.t 2) (.t 58)⟩, ⟨(some 3), none, .mv (.c (.int .i64 0))⟩, ⟨(some 4), none, .mv (.c (.bool false))⟩])
      .ret)
      .skip))
    (.region [⟨(some 59), none, .mv (.t 7)⟩, ⟨(some 6), none, .mv (.t 59)⟩])))
    .skip))
  (.seq (.region [⟨(some 60), none, .build [(.int .i64 0), (.int .i64 0)] []⟩, ⟨(some 9), none, .boxz [(.int .i64 0), (.int .i64 0)]⟩, ⟨none, none, .store 2 (.t 9) (.t 60)⟩])
  (.seq (.seq (.region [⟨(some 61), none, .mv (.t 0)⟩, ⟨(some 62), none, .mv (.t 5)⟩, ⟨(some 63), none, .slstr (.t 61) none (some (.t 62))⟩, ⟨(some 64), none, .bin .neq (.t 63) (.c (.str [42]))⟩])
  (.cond (.t 64)
    (.seq (.region [⟨(some 10), none, .mv (.c (.int .i64 0))⟩])
    (.seq (.block 2 (.loop
      (.seq (.seq (.region [⟨(some 65), none, .mv (.t 10)⟩, ⟨(some 66), none, .mv (.t 5)⟩, ⟨(some 67), none, .bin .lss (.t 65) (.t 66)⟩, ⟨(some 68), none, .mv (.t 67)⟩, ⟨(some 69), (some (68, true)), .mv (.t 0)⟩, ⟨(some 70), (some (68, true)), .mv (.t 10)⟩, ⟨(some 71), (some (68, true)), .ixStr (.t 69) (.t 70)⟩, ⟨(some 72), (some (68, true)), .bin .neq (.t 71) (.c (.int .u8 45))⟩, ⟨(some 73), none, .pick (.t 68) (.t 72) (.c (.bool false))⟩])
      (.cond (.t 73)
        .skip
        (.exit 2)))
      (.block 3 (.region [⟨(some 74), none, .mv (.t 10)⟩, ⟨(some 75), none, .bin .add (.t 74) (.c (.int .i64 1))⟩, ⟨(some 10), none, .mv (.t 75)⟩])))))
    (.seq (.seq (.region [⟨(some 76), none, .mv (.t 10)⟩, ⟨(some 77), none, .mv (.t 5)⟩, ⟨(some 78), none, .bin .eql (.t 76) (.t 77)⟩])
    (.cond (.t 78)
      (.seq (.region [⟨(some 79), none, .build [(.int .i64 0), (.int .i64 0)] []⟩, ⟨none, none, .store 2 (.t 2) (.t 79)⟩, ⟨(some 3), none, .mv (.c (.int .i64 0))⟩, ⟨(some 4), none, .mv (.c (.bool false))⟩])
      .ret)
      .skip))
    (.seq (.region [⟨(some 81), none, .mv (.t 0)⟩, ⟨(some 82), none, .mv (.t 10)⟩, ⟨(some 83), none, .slstr (.t 81) none (some (.t 82))⟩, ⟨(some 84), none, .call i_gatepostref01_Number [(.t 83), (.c (.int .i64 1048577))]⟩, ⟨(some 80), none, .mv (.t 84)⟩, ⟨(some 85), none, .ext 0 (.t 80)⟩, ⟨(some 86), none, .ext 1 (.t 80)⟩, ⟨(some 11), none, .mv (.t 85)⟩, ⟨(some 12), none, .mv (.t 86)⟩])
    (.seq (.region [⟨(some 88), none, .mv (.t 0)⟩, ⟨(some 89), none, .mv (.t 10)⟩, ⟨(some 90), none, .bin .add (.t 89) (.c (.int .i64 1))⟩, ⟨(some 91), none, .mv (.t 5)⟩, ⟨(some 92), none, .slstr (.t 88) (some (.t 90)) (some (.t 91))⟩, ⟨(some 93), none, .call i_gatepostref01_Number [(.t 92), (.c (.int .i64 1048577))]⟩, ⟨(some 87), none, .mv (.t 93)⟩, ⟨(some 94), none, .ext 0 (.t 87)⟩, ⟨(some 95), none, .ext 1 (.t 87)⟩, ⟨(some 13), none, .mv (.t 94)⟩, ⟨(some 14), none, .mv (.t 95)⟩])
    (.seq (.region [⟨(some 96), none, .mv (.t 11)⟩, ⟨(some 97), none, .mv (.t 13)⟩, ⟨(some 98), none, .bin .add (.t 97) (.c (.int .i64 1))⟩, ⟨(some 99), none, .build [(.int .i64 0), (.int .i64 0)] [(0, 1, (.t 96)), (1, 1, (.t 98))]⟩, ⟨none, none, .store 2 (.t 9) (.t 99)⟩])
    (.seq (.region [⟨(some 100), none, .mv (.t 12)⟩, ⟨(some 101), none, .un .not (.t 100)⟩, ⟨(some 102), none, .mv (.t 101)⟩, ⟨(some 103), (some (102, false)), .mv (.t 14)⟩, ⟨(some 104), (some (102, false)), .un .not (.t 103)⟩, ⟨(some 105), none, .pick (.t 102) (.c (.bool true)) (.t 104)⟩, ⟨(some 106), none, .mv (.t 105)⟩, ⟨(some 107), (some (106, false)), .mv (.t 11)⟩, ⟨(some 108), (some (106, false)), .mv (.t 13)⟩, ⟨(some 109), (some (106, false)), .bin .gtr (.t 107) (.t 108)⟩, ⟨(some 110), none, .pick (.t 106) (.c (.bool true)) (.t 109)⟩])
    (.cond (.t 110)
      (.seq (.region [⟨(some 111), none, .build [(.int .i64 0), (.int .i64 0)] []⟩, ⟨none, none, .store 2 (.t 2) (.t 111)⟩, ⟨(some 3), none, .mv (.c (.int .i64 0))⟩, ⟨(some 4), none, .mv (.c (.bool false))⟩])
      .ret)
      .skip))))))))
    .skip))
  (.seq (.seq (.region [⟨(some 112), none, .load true 2 (.t 9)⟩, ⟨(some 113), none, .mv (.t 6)⟩, ⟨(some 114), none, .call i_gatepostref14_right [(.t 112), (.t 113)]⟩, ⟨(some 115), none, .un .not (.t 114)⟩])
  (.cond (.t 115)
    (.seq (.region [⟨(some 116), none, .build [(.int .i64 0), (.int .i64 0)] []⟩, ⟨none, none, .store 2 (.t 2) (.t 116)⟩, ⟨(some 3), none, .mv (.c (.int .i64 0))⟩, ⟨(some 4), none, .mv (.c (.bool false))⟩])
    .ret)
    .skip))
  (.seq (.region [⟨(some 117), none, .load true 2 (.t 9)⟩, ⟨(some 118), none, .mv (.t 6)⟩, ⟨none, none, .store 2 (.t 2) (.t 117)⟩, ⟨(some 3), none, .mv (.t 118)⟩, ⟨(some 4), none, .mv (.c (.bool true))⟩])
  .ret))))))))))))⟩
/-- gatepost/ranges.Resolve -/
def c_ranges_Resolve : FnC := ⟨55, [.cell 4 true 2, .tmp 5],
  (.seq (.region [⟨(some 2), none, .box (.t 0)⟩, ⟨(some 4), none, .boxz [(.int .i64 0), (.int .i64 0)]⟩, ⟨(some 5), none, .mv (.c (.bool false))⟩])
  (.seq (.region [⟨(some 7), none, .faddr 0 (.t 2)⟩, ⟨(some 8), none, .load false 1 (.t 7)⟩, ⟨(some 9), none, .mv (.t 1)⟩, ⟨(some 10), none, .build [(.int .i64 0), (.int .i64 0)] [(0, 1, (.t 8)), (1, 1, (.t 9))]⟩, ⟨(some 6), none, .boxz [(.int .i64 0), (.int .i64 0)]⟩, ⟨none, none, .store 2 (.t 6) (.t 10)⟩])
  (.seq (.block 0 (.seq (.region [⟨(some 12), none, .mv (.t 1)⟩, ⟨(some 13), none, .bin .lss (.t 12) (.c (.int .i64 0))⟩, ⟨(some 14), none, .mv (.t 13)⟩, ⟨(some 15), (some (14, false)), .mv (.t 1)⟩, ⟨(some 16), (some (14, false)), .bin .gtr (.t 15) (.c (.int .i64 1048576))⟩, ⟨(some 17), none, .pick (.t 14) (.c (.bool true)) (.t 16)⟩, ⟨(some 18), none, .mv (.t 17)⟩, ⟨(some 19), (some (18, false)), .load true 2 (.t 2)⟩, ⟨(some 20), (some (18, false)), .call i_ranges_fine [(.t 19)]⟩, ⟨(some 21), (some (18, false)), .un .not (.t 20)⟩, ⟨(some 22), none, .pick (.t 18) (.c (.bool true)) (.t 21)⟩, ⟨(some 11), none, .mv (.t 22)⟩])
  (.cond (.t 11)
    (.seq (.region [⟨(some 23), none, .build [(.int .i64 0), (.int .i64 0)] []⟩, ⟨none, none, .store 2 (.t 4) (.t 23)⟩, ⟨(some 5), none, .mv (.c (.bool false))⟩])
    .ret)
    (.seq (.region [⟨(some 25), none, .faddr 0 (.t 2)⟩, ⟨(some 26), none, .load false 1 (.t 25)⟩, ⟨(some 27), none, .bin .eql (.t 26) (.c (.int .i64 (-1)))⟩, ⟨(some 24), none, .mv (.t 27)⟩])
    (.cond (.t 24)
      (.region [⟨(some 28), none, .mv (.t 1)⟩, ⟨(some 29), none, .faddr 1 (.t 2)⟩, ⟨(some 30), none, .load false 1 (.t 29)⟩, ⟨(some 31), none, .bin .sub (.t 28) (.t 30)⟩, ⟨(some 32), none, .mx [(.c (.int .i64 0)), (.t 31)]⟩, ⟨(some 33), none, .faddr 0 (.t 6)⟩, ⟨none, none, .store 1 (.t 33) (.t 32)⟩])
      (.seq (.region [⟨(some 35), none, .faddr 1 (.t 2)⟩, ⟨(some 36), none, .load false 1 (.t 35)⟩, ⟨(some 37), none, .bin .neq (.t 36) (.c (.int .i64 (-1)))⟩, ⟨(some 38), none, .mv (.t 37)⟩, ⟨(some 39), (some (38, true)), .faddr 1 (.t 2)⟩, ⟨(some 40), (some (38, true)), .load false 1 (.t 39)⟩, ⟨(some 41), (some (38, true)), .mv (.t 1)⟩, ⟨(some 42), (some (38, true)), .bin .lss (.t 40) (.t 41)⟩, ⟨(some 43), none, .pick (.t 38) (.t 42) (.c (.bool false))⟩, ⟨(some 34), none, .mv (.t 43)⟩])
      (.cond (.t 34)
        (.region [⟨(some 44), none, .faddr 1 (.t 2)⟩, ⟨(some 45), none, .load false 1 (.t 44)⟩, ⟨(some 46), none, .bin .add (.t 45) (.c (.int .i64 1))⟩, ⟨(some 47), none, .faddr 1 (.t 6)⟩, ⟨none, none, .store 1 (.t 47) (.t 46)⟩])
        .skip)))))))
  (.seq (.seq (.region [⟨(some 48), none, .faddr 0 (.t 6)⟩, ⟨(some 49), none, .load false 1 (.t 48)⟩, ⟨(some 50), none, .faddr 1 (.t 6)⟩, ⟨(some 51), none, .load false 1 (.t 50)⟩, ⟨(some 52), none, .bin .geq (.t 49) (.t 51)⟩])
  (.cond (.t 52)
    (.seq (.region [⟨(some 53), none, .build [(.int .i64 0), (.int .i64 0)] []⟩, ⟨none, none, .store 2 (.t 4) (.t 53)⟩, ⟨(some 5), none, .mv (.c (.bool false))⟩])
    .ret)
    .skip))
  (.seq (.region [⟨(some 54), none, .load true 2 (.t 6)⟩, ⟨none, none, .store 2 (.t 4) (.t 54)⟩, ⟨(some 5), none, .mv (.c (.bool true))⟩])
  .ret)))))⟩
/-- gatepost/ranges.Parse -/
def c_ranges_Parse : FnC := ⟨57, [.tmp 2, .tmp 3],
  (.seq (.region [⟨(some 2), none, .mv (.c .nsl)⟩, ⟨(some 3), none, .mv (.c (.bool false))⟩])
  (.seq (.seq (.region [⟨(some 11), none, .mv (.t 0)⟩, ⟨(some 12), none, .len 0 (.t 11)⟩, ⟨(some 13), none, .bin .lss (.t 12) (.c (.int .i64 6))⟩, ⟨(some 14), none, .mv (.t 13)⟩, ⟨(some 15), (some (14, false)), .mv (.t 0)⟩, ⟨(some 16), (some (14, false)), .slstr (.t 15) none (some (.c (.int .i64 6)))⟩, ⟨(some 17), (some (14, false)), .call i_token_Same [(.t 16), (.c (.str [98, 121, 116, 101, 115, 61]))]⟩, ⟨(some 18), (some (14, false)), .un .not (.t 17)⟩, ⟨(some 19), none, .pick (.t 14) (.c (.bool true)) (.t 18)⟩])
  (.cond (.t 19)
    (.seq (.region [⟨(some 2), none, .mv (.c .nsl)⟩, ⟨(some 3), none, .mv (.c (.bool false))⟩])
    .ret)
    .skip))
  (.seq (.region [⟨(some 21), none, .mv (.t 0)⟩, ⟨(some 22), none, .slstr (.t 21) (some (.c (.int .i64 6))) none⟩, ⟨(some 23), none, .call i_token_Split [(.t 22)]⟩, ⟨(some 20), none, .mv (.t 23)⟩, ⟨(some 24), none, .ext 0 (.t 20)⟩, ⟨(some 25), none, .ext 1 (.t 20)⟩, ⟨(some 4), none, .mv (.t 24)⟩, ⟨(some 5), none, .mv (.t 25)⟩])
  (.seq (.seq (.region [⟨(some 26), none, .mv (.t 5)⟩, ⟨(some 27), none, .un .not (.t 26)⟩, ⟨(some 28), none, .mv (.t 27)⟩, ⟨(some 29), (some (28, false)), .mv (.t 4)⟩, ⟨(some 30), (some (28, false)), .len 1 (.t 29)⟩, ⟨(some 31), (some (28, false)), .bin .eql (.t 30) (.c (.int .i64 0))⟩, ⟨(some 32), none, .pick (.t 28) (.c (.bool true)) (.t 31)⟩, ⟨(some 33), none, .mv (.t 32)⟩, ⟨(some 34), (some (33, false)), .mv (.t 4)⟩, ⟨(some 35), (some (33, false)), .len 1 (.t 34)⟩, ⟨(some 36), (some (33, false)), .bin .gtr (.t 35) (.c (.int .i64 32))⟩, ⟨(some 37), none, .pick (.t 33) (.c (.bool true)) (.t 36)⟩])
  (.cond (.t 37)
    (.seq (.region [⟨(some 2), none, .mv (.c .nsl)⟩, ⟨(some 3), none, .mv (.c (.bool false))⟩])
    .ret)
    .skip))
  (.seq (.region [⟨(some 6), none, .mv (.c .nsl)⟩])
  (.seq (.seq (.region [⟨(some 38), none, .mv (.t 4)⟩, ⟨(some 39), none, .len 1 (.t 38)⟩, ⟨(some 40), none, .mv (.c (.int .i64 0))⟩])
  (.block 0 (.loop
    (.seq (.region [⟨(some 41), none, .bin .lss (.t 40) (.t 39)⟩])
    (.seq (.cond (.t 41)
      .skip
      (.exit 0))
    (.seq (.block 1 (.seq (.region [⟨(some 42), none, .ixaSl 1 (.t 38) (.t 40)⟩, ⟨(some 43), none, .load false 1 (.t 42)⟩, ⟨(some 8), none, .mv (.t 43)⟩])
    (.seq (.region [⟨(some 45), none, .mv (.t 8)⟩, ⟨(some 46), none, .call i_ranges_one [(.t 45)]⟩, ⟨(some 44), none, .mv (.t 46)⟩, ⟨(some 47), none, .ext 0 (.t 44)⟩, ⟨(some 48), none, .ext 1 (.t 44)⟩, ⟨(some 9), none, .boxz [(.int .i64 0), (.int .i64 0)]⟩, ⟨none, none, .store 2 (.t 9) (.t 47)⟩, ⟨(some 10), none, .mv (.t 48)⟩])
    (.seq (.seq (.region [⟨(some 49), none, .mv (.t 10)⟩, ⟨(some 50), none, .un .not (.t 49)⟩])
    (.cond (.t 50)
      (.seq (.region [⟨(some 2), none, .mv (.c .nsl)⟩, ⟨(some 3), none, .mv (.c (.bool false))⟩])
      .ret)
      .skip))
    (.region [⟨(some 51), none, .mv (.t 6)⟩, ⟨(some 52), none, .load true 2 (.t 9)⟩, ⟨(some 53), none, .bsl 2 [(.t 52)]⟩, ⟨(some 54), none, .app 2 16 false (.t 51) (.t 53)⟩, ⟨(some 6), none, .mv (.t 54)⟩])))))
    (.region [⟨(some 55), none, .bin .add (.t 40) (.c (.int .i64 1))⟩, ⟨(some 40), none, .mv (.t 55)⟩])))))))
  (.seq (.region [⟨(some 56), none, .mv (.t 6)⟩, ⟨(some 2), none, .mv (.t 56)⟩, ⟨(some 3), none, .mv (.c (.bool true))⟩])
  .ret)))))))⟩
/-- gatepost/gatepostref14.Parse -/
def c_gatepostref14_Parse : FnC := ⟨58, [.tmp 2, .tmp 3],
  (.seq (.region [⟨(some 2), none, .mv (.c .nsl)⟩, ⟨(some 3), none, .mv (.c (.bool false))⟩])
  (.seq (.seq (.region [⟨(some 10), none, .mv (.t 0)⟩, ⟨(some 11), none, .len 0 (.t 10)⟩, ⟨(some 12), none, .bin .lss (.t 11) (.c (.int .i64 6))⟩, ⟨(some 13), none, .mv (.t 12)⟩, ⟨(some 14), (some (13, false)), .mv (.t 0)⟩, ⟨(some 15), (some (13, false)), .slstr (.t 14) none (some (.c (.int .i64 6)))⟩, ⟨(some 16), (some (13, false)), .call i_gatepostref01_Lower [(.t 15)]⟩, ⟨(some 17), (some (13, false)), .bin .neq (.t 16) (.c (.str [98, 121, 116, 101, 115, 61]))⟩, ⟨(some 18), none, .pick (.t 13) (.c (.bool true)) (.t 17)⟩])
  (.cond (.t 18)
    (.seq (.region [⟨(some 2), none, .mv (.c .nsl)⟩, ⟨(some 3), none, .mv (.c (.bool false))⟩])
    .ret)
    .skip))
  (.seq (.region [⟨(some 20), none, .mv (.t 0)⟩, ⟨(some 21), none, .slstr (.t 20) (some (.c (.int .i64 6))) none⟩, ⟨(some 22), none, .call i_gatepostref01_Split [(.t 21)]⟩, ⟨(some 19), none, .mv (.t 22)⟩, ⟨(some 23), none, .ext 0 (.t 19)⟩, ⟨(some 24), none, .ext 1 (.t 19)⟩, ⟨(some 4), none, .mv (.t 23)⟩, ⟨(some 5), none, .mv (.t 24)⟩])
  (.seq (.seq (.region [⟨(some 25), none, .mv (.t 5)⟩, ⟨(some 26), none, .un .not (.t 25)⟩, ⟨(some 27), none, .mv (.t 26)⟩, ⟨(some 28), (some (27, false)), .mv (.t 4)⟩, ⟨(some 29), (some (27, false)), .len 1 (.t 28)⟩, ⟨(some 30), (some (27, false)), .bin .lss (.t 29) (.c (.int .i64 1))⟩, ⟨(some 31), none, .pick (.t 27) (.c (.bool true)) (.t 30)⟩, ⟨(some 32), none, .mv (.t 31)⟩, ⟨(some 33), (some (32, false)), .mv (.t 4)⟩, ⟨(some 34), (some (32, false)), .len 1 (.t 33)⟩, ⟨(some 35), (some (32, false)), .bin .gtr (.t 34) (.c (.int .i64 32))⟩, ⟨(some 36), none, .pick (.t 32) (.c (.bool true)) (.t 35)⟩])
  (.cond (.t 36)
    (.seq (.region [⟨(some 2), none, .mv (.c .nsl)⟩, ⟨(some 3), none, .mv (.c (.bool false))⟩])
    .ret)
    .skip))
  (.seq (.region [⟨(some 6), none, .mv (.c .nsl)⟩])
  (.seq (.seq (.region [⟨(some 7), none, .mv (.c (.int .i64 0))⟩])
  (.block 0 (.loop
    (.seq (.seq (.region [⟨(some 37), none, .mv (.t 7)⟩, ⟨(some 38), none, .mv (.t 4)⟩, ⟨(some 39), none, .len 1 (.t 38)⟩, ⟨(some 40), none, .bin .lss (.t 37) (.t 39)⟩])
    (.cond (.t 40)
      .skip
      (.exit 0)))
    (.seq (.block 1 (.seq (.region [⟨(some 44), none, .mv (.t 4)⟩, ⟨(some 45), none, .mv (.t 7)⟩, ⟨(some 46), none, .ixaSl 1 (.t 44) (.t 45)⟩, ⟨(some 47), none, .load false 1 (.t 46)⟩, ⟨(some 48), none, .call i_gatepostref14_one [(.t 47)]⟩, ⟨(some 43), none, .mv (.t 48)⟩, ⟨(some 49), none, .ext 0 (.t 43)⟩, ⟨(some 50), none, .ext 1 (.t 43)⟩, ⟨(some 8), none, .boxz [(.int .i64 0), (.int .i64 0)]⟩, ⟨none, none, .store 2 (.t 8) (.t 49)⟩, ⟨(some 9), none, .mv (.t 50)⟩])
    (.seq (.seq (.region [⟨(some 51), none, .mv (.t 9)⟩, ⟨(some 52), none, .un .not (.t 51)⟩])
    (.cond (.t 52)
      (.seq (.region [⟨(some 2), none, .mv (.c .nsl)⟩, ⟨(some 3), none, .mv (.c (.bool false))⟩])
      .ret)
      .skip))
    (.region [⟨(some 53), none, .mv (.t 6)⟩, ⟨(some 54), none, .load true 2 (.t 8)⟩, ⟨(some 55), none, .bsl 2 [(.t 54)]⟩, ⟨(some 56), none, .app 2 16 false (.t 53) (.t 55)⟩, ⟨(some 6), none, .mv (.t 56)⟩]))))
    (.region [⟨(some 41), none, .mv (.t 7)⟩, ⟨(some 42), none, .bin .add (.t 41) (.c (.int .i64 1))⟩, ⟨(some 7), none, .mv (.t 42)⟩]))))))
  (.seq (.region [⟨(some 57), none, .mv (.t 6)⟩, ⟨(some 2), none, .mv (.t 57)⟩, ⟨(some 3), none, .mv (.c (.bool true))⟩])
  .ret)))))))⟩
/-- gatepost/gatepostref14.Resolve -/
def c_gatepostref14_Resolve : FnC := ⟨107, [.cell 4 true 2, .tmp 5],
  (.seq (.region [⟨(some 2), none, .box (.t 0)⟩, ⟨(some 4), none, .boxz [(.int .i64 0), (.int .i64 0)]⟩, ⟨(some 5), none, .mv (.c (.bool false))⟩])
  (.seq (.seq (.region [⟨(some 7), none, .mv (.t 1)⟩, ⟨(some 8), none, .bin .lss (.t 7) (.c (.int .i64 0))⟩, ⟨(some 9), none, .mv (.t 8)⟩, ⟨(some 10), (some (9, false)), .mv (.t 1)⟩, ⟨(some 11), (some (9, false)), .bin .gtr (.t 10) (.c (.int .i64 1048576))⟩, ⟨(some 12), none, .pick (.t 9) (.c (.bool true)) (.t 11)⟩, ⟨(some 13), none, .mv (.t 12)⟩, ⟨(some 14), (some (13, false)), .faddr 0 (.t 2)⟩, ⟨(some 15), (some (13, false)), .load false 1 (.t 14)⟩, ⟨(some 16), (some (13, false)), .bin .lss (.t 15) (.c (.int .i64 (-1)))⟩, ⟨(some 17), none, .pick (.t 13) (.c (.bool true)) (.t 16)⟩, ⟨(some 18), none, .mv (.t 17)⟩, ⟨(some 19), (some (18, false)), .faddr 1 (.t 2)⟩, ⟨(some 20), (some (18, false)), .load false 1 (.t 19)⟩, ⟨(some 21), (some (18, false)), .bin .lss (.t 20) (.c (.int .i64 (-1)))⟩, ⟨(some 22), none, .pick (.t 18) (.c (.bool true)) (.t 21)⟩, ⟨(some 23), none, .mv (.t 22)⟩, ⟨(some 24), (some (23, false)), .faddr 0 (.t 2)⟩, ⟨(some 25), (some (23, false)), .load false 1 (.t 24)⟩, ⟨(some 26), (some (23, false)), .bin .gtr (.t 25) (.c (.int .i64 1099511627776))⟩, ⟨(some 27), none, .pick (.t 23) (.c (.bool true)) (.t 26)⟩, ⟨(some 28), none, .mv (.t 27)⟩, ⟨(some 29), (some (28, false)), .faddr 1 (.t 2)⟩, ⟨(some 30), (some (28, false)), .load false 1 (.t 29)⟩, ⟨(some 31), (some (28, false)), .bin .gtr (.t 30) (.c (.int .i64 1099511627776))⟩, ⟨(some 32), none, .pick (.t 28) (.c (.bool true)) (.t 31)⟩, ⟨(some 33), none, .mv (.t 32)⟩, ⟨(some 34), (some (33, false)), .faddr 0 (.t 2)⟩, ⟨(some 35), (some (33, false)), .load false 1 (.t 34)⟩, ⟨(some 36), (some (33, false)), .bin .eql (.t 35) (.c (.int .i64 (-1)))⟩, ⟨(some 37), (some (33, false)), .mv (.t 36)⟩, ⟨(some 38), (some (37, true)), .faddr 1 (.t 2)⟩, ⟨(some 39), (some (37, true)), .load false 1 (.t 38)⟩, ⟨(some 40), (some (37, true)), .bin .eql (.t 39) (.c (.int .i64 (-1)))⟩, ⟨(some 41), (some (33, false)), .pick (.t 37) (.t 40) (.c (.bool false))⟩, ⟨(some 42), none, .pick (.t 33) (.c (.bool true)) (.t 41)⟩, ⟨(some 43), none, .mv (.t 42)⟩, ⟨(some 44), (some (43, false)), .faddr 0 (.t 2)⟩, ⟨(some 45), (some (43, false)), .load false 1 (.t 44)⟩, ⟨(some 46), (some (43, false)), .bin .geq (.t 45) (.c (.int .i64 0))⟩, ⟨(some 47), (some (43, false)), .mv (.t 46)⟩, ⟨(some 48), (some (47, true)), .faddr 1 (.t 2)⟩, ⟨(some 49), (some (47, true)), .load false 1 (.t 48)⟩, ⟨(some 50), (some (47, true)), .bin .geq (.t 49) (.c (.int .i64 0))⟩, ⟨(some 51), (some (43, false)), .pick (.t 47) (.t 50) (.c (.bool false))⟩, ⟨(some 52), (some (43, false)), .mv (.t 51)⟩, ⟨(some 53), (some (52, true)), .faddr 0 (.t 2)⟩, ⟨(some 54), (some (52, true)), .load false 1 (.t 53)⟩, ⟨(some 55), (some (52, true)), .faddr 1 (.t 2)⟩, ⟨(some 56), (some (52, true)), .load false 1 (.t 55)⟩, ⟨(some 57), (some (52, true)), .bin .gtr (.t 54) (.t 56)⟩, ⟨(some 58), (some (43, false)), .pick (.t 52) (.t 57) (.c (.bool false))⟩, ⟨(some 59), none, .pick (.t 43) (.c (.bool true)) (.t 58)⟩])
  (.cond (.t 59)
    (.seq (.region [⟨(some 60), none, .build [(.int .i64 0), (.int .i64 0)] []⟩, ⟨none, none, .store 2 (.t 4) (.t 60)⟩, ⟨(some 5), none, .mv (.c (.bool false))⟩])
    .ret)
    .skip))
  (.seq (.seq (.region [⟨(some 61), none, .faddr 0 (.t 2)⟩, ⟨(some 62), none, .load false 1 (.t 61)⟩, ⟨(some 63), none, .bin .eql (.t 62) (.c (.int .i64 (-1)))⟩])
  (.cond (.t 63)
    (.seq (.seq (.region [⟨(some 64), none, .faddr 1 (.t 2)⟩, ⟨(some 65), none, .load false 1 (.t 64)⟩, ⟨(some 66), none, .bin .eql (.t 65) (.c (.int .i64 0))⟩, ⟨(some 67), none, .mv (.t 66)⟩, ⟨(some 68), (some (67, false)), .mv (.t 1)⟩, ⟨(some 69), (some (67, false)), .bin .eql (.t 68) (.c (.int .i64 0))⟩, ⟨(some 70), none, .pick (.t 67) (.c (.bool true)) (.t 69)⟩])
    (.cond (.t 70)
      (.seq (.region [⟨(some 71), none, .build [(.int .i64 0), (.int .i64 0)] []⟩, ⟨none, none, .store 2 (.t 4) (.t 71)⟩, ⟨(some 5), none, .mv (.c (.bool false))⟩])
      .ret)
      .skip))
    (.seq (.region [⟨(some 6), none, .mv (.c (.int .i64 0))⟩])
    (.seq (.seq (.region [⟨(some 72), none, .faddr 1 (.t 2)⟩, ⟨(some 73), none, .load false 1 (.t 72)⟩, ⟨(some 74), none, .mv (.t 1)⟩, ⟨(some 75), none, .bin .lss (.t 73) (.t 74)⟩])
    (.cond (.t 75)
      (.region [⟨(some 76), none, .mv (.t 1)⟩, ⟨(some 77), none, .faddr 1 (.t 2)⟩, ⟨(some 78), none, .load false 1 (.t 77)⟩, ⟨(some 79), none, .bin .sub (.t 76) (.t 78)⟩, ⟨(some 6), none, .mv (.t 79)⟩])
      .skip))
    (.seq (.region [⟨(some 80), none, .mv (.t 6)⟩, ⟨(some 81), none, .mv (.t 1)⟩, ⟨(some 82), none, .build [(.int .i64 0), (.int .i64 0)] [(0, 1, (.t 80)), (1, 1, (.t 81))]⟩, ⟨none, none, .store 2 (.t 4) (.t 82)⟩, ⟨(some 5), none, .mv (.c (.bool true))⟩])
    .ret))))
    .skip))
  (.seq (.seq (.region [⟨(some 83), none, .faddr 0 (.t 2)⟩, ⟨(some 84), none, .load false 1 (.t 83)⟩, ⟨(some 85), none, .mv (.t 1)⟩, ⟨(some 86), none, .bin .geq (.t 84) (.t 85)⟩])
  (.cond (.t 86)
    (.seq (.region [⟨(some 87), none, .build [(.int .i64 0), (.int .i64 0)] []⟩, ⟨none, none, .store 2 (.t 4) (.t 87)⟩, ⟨(some 5), none, .mv (.c (.bool false))⟩])
    .ret)
    .skip))
  (.seq (.seq (.region [⟨(some 88), none, .faddr 1 (.t 2)⟩, ⟨(some 89), none, .load false 1 (.t 88)⟩, ⟨(some 90), none, .bin .eql (.t 89) (.c (.int .i64 (-1)))⟩, ⟨(some 91), none, .mv (.t 90)⟩, ⟨(some 92), (some (91, false)), .faddr 1 (.t 2)⟩, ⟨(some 93), (some (91, false)), .load false 1 (.t 92)⟩, ⟨(some 94), (some (91, false)), .mv (.t 1)⟩, ⟨(some 95), (some (91, false)), .bin .geq (.t 93) (.t 94)⟩, ⟨(some 96), none, .pick (.t 91) (.c (.bool true)) (.t 95)⟩])
  (.cond (.t 96)
    (.seq (.region [⟨(some 97), none, .faddr 0 (.t 2)⟩, ⟨(some 98), none, .load false 1 (.t 97)⟩, ⟨(some 99), none, .mv (.t 1)⟩, ⟨(some 100), none, .build [(.int .i64 0), (.int .i64 0)] [(0, 1, (.t 98)), (1, 1, (.t 99))]⟩, ⟨none, none, .store 2 (.t 4) (.t 100)⟩, ⟨(some 5), none, .mv (.c (.bool true))⟩])
    .ret)
    .skip))
  (.seq (.region [⟨(some 101), none, .faddr 0 (.t 2)⟩, ⟨(some 102), none, .load false 1 (.t 101)⟩, ⟨(some 103), none, .faddr 1 (.t 2)⟩, ⟨(some 104), none, .load false 1 (.t 103)⟩, ⟨(some 105), none, .bin .add (.t 104) (.c (.int .i64 1))⟩, ⟨(some 106), none, .build [(.int .i64 0), (.int .i64 0)] [(0, 1, (.t 102)), (1, 1, (.t 105))]⟩, ⟨none, none, .store 2 (.t 4) (.t 106)⟩, ⟨(some 5), none, .mv (.c (.bool true))⟩])
  .ret))))))⟩
/-- gatepost/ranges.Pick -/
def c_ranges_Pick : FnC := ⟨58, [.cell 4 true 2, .tmp 5],
  (.seq (.region [⟨(some 4), none, .boxz [(.int .i64 0), (.int .i64 0)]⟩, ⟨(some 5), none, .mv (.c (.int .i64 0))⟩])
  (.seq (.region [⟨(some 14), none, .mv (.t 0)⟩, ⟨(some 15), none, .call i_ranges_Parse [(.t 14)]⟩, ⟨(some 13), none, .mv (.t 15)⟩, ⟨(some 16), none, .ext 0 (.t 13)⟩, ⟨(some 17), none, .ext 1 (.t 13)⟩, ⟨(some 6), none, .mv (.t 16)⟩, ⟨(some 7), none, .mv (.t 17)⟩])
  (.seq (.seq (.region [⟨(some 18), none, .mv (.t 7)⟩, ⟨(some 19), none, .un .not (.t 18)⟩, ⟨(some 20), none, .mv (.t 19)⟩, ⟨(some 21), (some (20, false)), .mv (.t 1)⟩, ⟨(some 22), (some (20, false)), .bin .lss (.t 21) (.c (.int .i64 0))⟩, ⟨(some 23), none, .pick (.t 20) (.c (.bool true)) (.t 22)⟩, ⟨(some 24), none, .mv (.t 23)⟩, ⟨(some 25), (some (24, false)), .mv (.t 1)⟩, ⟨(some 26), (some (24, false)), .bin .gtr (.t 25) (.c (.int .i64 1048576))⟩, ⟨(some 27), none, .pick (.t 24) (.c (.bool true)) (.t 26)⟩])
  (.cond (.t 27)
    (.seq (.region [⟨(some 28), none, .build [(.int .i64 0), (.int .i64 0)] []⟩, ⟨none, none, .store 2 (.t 4) (.t 28)⟩, ⟨(some 5), none, .mv (.c (.int .i64 0))⟩])
    .ret)
    .skip))
  (.seq (.region [⟨(some 8), none, .mv (.c .nsl)⟩])
  (.seq (.seq (.region [⟨(some 29), none, .mv (.t 6)⟩, ⟨(some 30), none, .len 1 (.t 29)⟩, ⟨(some 31), none, .mv (.c (.int .i64 0))⟩])
  (.block 0 (.loop
    (.seq (.region [⟨(some 32), none, .bin .lss (.t 31) (.t 30)⟩])
    (.seq (.cond (.t 32)
      .skip
      (.exit 0))
    (.seq (.block 1 (.seq (.region [⟨(some 33), none, .ixaSl 2 (.t 29) (.t 31)⟩, ⟨(some 34), none, .load true 2 (.t 33)⟩, ⟨(some 10), none, .boxz [(.int .i64 0), (.int .i64 0)]⟩, ⟨none, none, .store 2 (.t 10) (.t 34)⟩])
    (.seq (.region [⟨(some 36), none, .load true 2 (.t 10)⟩, ⟨(some 37), none, .mv (.t 1)⟩, ⟨(some 38), none, .call i_ranges_Resolve [(.t 36), (.t 37)]⟩, ⟨(some 35), none, .mv (.t 38)⟩, ⟨(some 39), none, .ext 0 (.t 35)⟩, ⟨(some 40), none, .ext 1 (.t 35)⟩, ⟨(some 11), none, .boxz [(.int .i64 0), (.int .i64 0)]⟩, ⟨none, none, .store 2 (.t 11) (.t 39)⟩, ⟨(some 12), none, .mv (.t 40)⟩])
    (.seq (.region [⟨(some 41), none, .mv (.t 12)⟩])
    (.cond (.t 41)
      (.region [⟨(some 42), none, .mv (.t 8)⟩, ⟨(some 43), none, .load true 2 (.t 11)⟩, ⟨(some 44), none, .bsl 2 [(.t 43)]⟩, ⟨(some 45), none, .app 2 16 false (.t 42) (.t 44)⟩, ⟨(some 8), none, .mv (.t 45)⟩])
      .skip)))))
    (.region [⟨(some 46), none, .bin .add (.t 31) (.c (.int .i64 1))⟩, ⟨(some 31), none, .mv (.t 46)⟩])))))))
  (.seq (.seq (.region [⟨(some 47), none, .mv (.t 8)⟩, ⟨(some 48), none, .len 1 (.t 47)⟩])
  (.block 2 (.seq (.region [⟨(some 50), none, .bin .eql (.t 48) (.c (.int .i64 0))⟩, ⟨(some 49), none, .mv (.t 50)⟩])
  (.cond (.t 49)
    (.seq (.region [⟨(some 51), none, .build [(.int .i64 0), (.int .i64 0)] []⟩, ⟨none, none, .store 2 (.t 4) (.t 51)⟩, ⟨(some 5), none, .mv (.c (.int .i64 2))⟩])
    .ret)
    (.seq (.region [⟨(some 53), none, .bin .eql (.t 48) (.c (.int .i64 1))⟩, ⟨(some 52), none, .mv (.t 53)⟩])
    (.cond (.t 52)
      (.seq (.region [⟨(some 54), none, .mv (.t 8)⟩, ⟨(some 55), none, .ixaSl 2 (.t 54) (.c (.int .i64 0))⟩, ⟨(some 56), none, .load true 2 (.t 55)⟩, ⟨none, none, .store 2 (.t 4) (.t 56)⟩, ⟨(some 5), none, .mv (.c (.int .i64 1))⟩])
      .ret)
      .skip))))))
  (.seq (.region [⟨(some 57), none, .build [(.int .i64 0), (.int .i64 0)] []⟩, ⟨none, none, .store 2 (.t 4) (.t 57)⟩, ⟨(some 5), none, .mv (.c (.int .i64 0))⟩])
  .ret)))))))⟩
/-- gatepost/gatepostref14.Pick -/
def c_gatepostref14_Pick : FnC := ⟨56, [.cell 4 true 2, .tmp 5],
  (.seq (.region [⟨(some 4), none, .boxz [(.int .i64 0), (.int .i64 0)]⟩, ⟨(some 5), none, .mv (.c (.int .i64 0))⟩])
  (.seq (.region [⟨(some 14), none, .mv (.t 0)⟩, ⟨(some 15), none, .call i_gatepostref14_Parse [(.t 14)]⟩, ⟨(some 13), none, .mv (.t 15)⟩, ⟨(some 16), none, .ext 0 (.t 13)⟩, ⟨(some 17), none, .ext 1 (.t 13)⟩, ⟨(some 6), none, .mv (.t 16)⟩, ⟨(some 7), none, .mv (.t 17)⟩])
  (.seq (.seq (.region [⟨(some 18), none, .mv (.t 7)⟩, ⟨(some 19), none, .un .not (.t 18)⟩, ⟨(some 20), none, .mv (.t 19)⟩, ⟨(some 21), (some (20, false)), .mv (.t 1)⟩, ⟨(some 22), (some (20, false)), .bin .lss (.t 21) (.c (.int .i64 0))⟩, ⟨(some 23), none, .pick (.t 20) (.c (.bool true)) (.t 22)⟩, ⟨(some 24), none, .mv (.t 23)⟩, ⟨(some 25), (some (24, false)), .mv (.t 1)⟩, ⟨(some 26), (some (24, false)), .bin .gtr (.t 25) (.c (.int .i64 1048576))⟩, ⟨(some 27), none, .pick (.t 24) (.c (.bool true)) (.t 26)⟩])
  (.cond (.t 27)
    (.seq (.region [⟨(some 28), none, .build [(.int .i64 0), (.int .i64 0)] []⟩, ⟨none, none, .store 2 (.t 4) (.t 28)⟩, ⟨(some 5), none, .mv (.c (.int .i64 0))⟩])
    .ret)
    .skip))
  (.seq (.region [⟨(some 8), none, .mv (.c (.int .i64 0))⟩])
  (.seq (.region [⟨(some 29), none, .build [(.int .i64 0), (.int .i64 0)] []⟩, ⟨(some 9), none, .boxz [(.int .i64 0), (.int .i64 0)]⟩, ⟨none, none, .store 2 (.t 9) (.t 29)⟩])
  (.seq (.seq (.region [⟨(some 10), none, .mv (.c (.int .i64 0))⟩])
  (.block 0 (.loop
    (.seq (.seq (.region [⟨(some 30), none, .mv (.t 10)⟩, ⟨(some 31), none, .mv (.t 6)⟩, ⟨(some 32), none, .len 1 (.t 31)⟩, ⟨(some 33), none, .bin .lss (.t 30) (.t 32)⟩])
    (.cond (.t 33)
      .skip
      (.exit 0)))
    (.seq (.block 1 (.seq (.region [⟨(some 37), none, .mv (.t 6)⟩, ⟨(some 38), none, .mv (.t 10)⟩, ⟨(some 39), none, .ixaSl 2 (.t 37) (.t 38)⟩, ⟨(some 40), none, .load true 2 (.t 39)⟩, ⟨(some 41), none, .mv (.t 1)⟩, ⟨(some 42), none, .call i_gatepostref14_Resolve [(.t 40), (.t 41)]⟩, ⟨(some 36), none, .mv (.t 42)⟩, ⟨(some 43), none, .ext 0 (.t 36)⟩, ⟨(some 44), none, .ext 1 (.t 36)⟩, ⟨(some 11), none, .boxz [(.int .i64 0), (.int .i64 0)]⟩, ⟨none, none, .store 2 (.t 11) (.t 43)⟩, ⟨(some 12), none, .mv (.t 44)⟩])
    (.seq (.region [⟨(some 45), none, .mv (.t 12)⟩])
    (.cond (.t 45)
      (.seq (.region [⟨(some 46), none, .mv (.t 8)⟩, ⟨(some 47), none, .bin .add (.t 46) (.c (.int .i64 1))⟩, ⟨(some 8), none, .mv (.t 47)⟩])
      (.region [⟨(some 48), none, .load true 2 (.t 11)⟩, ⟨none, none, .store 2 (.t 9) (.t 48)⟩]))
      .skip))))
    (.region [⟨(some 34), none, .mv (.t 10)⟩, ⟨(some 35), none, .bin .add (.t 34) (.c (.int .i64 1))⟩, ⟨(some 10), none, .mv (.t 35)⟩]))))))
  (.seq (.seq (.region [⟨(some 49), none, .mv (.t 8)⟩, ⟨(some 50), none, .bin .eql (.t 49) (.c (.int .i64 0))⟩])
  (.cond (.t 50)
    (.seq (.region [⟨(some 51), none, .build [(.int .i64 0), (.int .i64 0)] []⟩, ⟨none, none, .store 2 (.t 4) (.t 51)⟩, ⟨(some 5), none, .mv (.c (.int .i64 2))⟩])
    .ret)
    .skip))
  (.seq (.seq (.region [⟨(some 52), none, .mv (.t 8)⟩, ⟨(some 53), none, .bin .gtr (.t 52) (.c (.int .i64 1))⟩])
  (.cond (.t 53)
    (.seq (.region [⟨(some 54), none, .build [(.int .i64 0), (.int .i64 0)] []⟩, ⟨none, none, .store 2 (.t 4) (.t 54)⟩, ⟨(some 5), none, .mv (.c (.int .i64 0))⟩])
    .ret)
    .skip))
  (.seq (.region [⟨(some 55), none, .load true 2 (.t 9)⟩, ⟨none, none, .store 2 (.t 4) (.t 55)⟩, ⟨(some 5), none, .mv (.c (.int .i64 1))⟩])
  .ret)))))))))⟩
/-- gatepost/gatepostlaw14.number -/
def c_gatepostlaw14_number : FnC := ⟨16, [.tmp 2],
  (.seq (.region [⟨(some 2), none, .mv (.c (.str []))⟩])
  (.seq (.seq (.region [⟨(some 3), none, .mv (.t 0)⟩, ⟨(some 4), none, .bin .lss (.t 3) (.c (.int .i64 10))⟩])
  (.cond (.t 4)
    (.seq (.region [⟨(some 5), none, .mv (.t 0)⟩, ⟨(some 6), none, .mv (.t 0)⟩, ⟨(some 7), none, .bin .add (.t 6) (.c (.int .i64 1))⟩, ⟨(some 8), none, .slstr (.c (.str [48, 49, 50, 51, 52, 53, 54, 55, 56, 57])) (some (.t 5)) (some (.t 7))⟩, ⟨(some 2), none, .mv (.t 8)⟩])
    .ret)
    .skip))
  (.seq (.region [⟨(some 9), none, .mv (.t 0)⟩, ⟨(some 10), none, .bin .quo (.t 9) (.c (.int .i64 10))⟩, ⟨(some 11), none, .call i_gatepostlaw14_number [(.t 10)]⟩, ⟨(some 12), none, .mv (.t 0)⟩, ⟨(some 13), none, .bin .rem (.t 12) (.c (.int .i64 10))⟩, ⟨(some 14), none, .call i_gatepostlaw14_number [(.t 13)]⟩, ⟨(some 15), none, .bin .add (.t 11) (.t 14)⟩, ⟨(some 2), none, .mv (.t 15)⟩])
  .ret)))⟩
/-- gatepost/ranges.may -/
def c_ranges_may : FnC := ⟨47, [.tmp 4],
  (.seq (.region [⟨(some 2), none, .box (.t 0)⟩, ⟨(some 4), none, .mv (.c (.bool false))⟩])
  (.seq (.seq (.region [⟨(some 5), none, .mv (.t 1)⟩, ⟨(some 6), none, .bin .lss (.t 5) (.c (.int .i64 (-1)))⟩, ⟨(some 7), none, .mv (.t 6)⟩, ⟨(some 8), (some (7, false)), .mv (.t 1)⟩, ⟨(some 9), (some (7, false)), .bin .gtr (.t 8) (.c (.int .i64 1048576))⟩, ⟨(some 10), none, .pick (.t 7) (.c (.bool true)) (.t 9)⟩, ⟨(some 11), none, .mv (.t 10)⟩, ⟨(some 12), (some (11, false)), .faddr 0 (.t 2)⟩, ⟨(some 13), (some (11, false)), .load false 1 (.t 12)⟩, ⟨(some 14), (some (11, false)), .bin .lss (.t 13) (.c (.int .i64 0))⟩, ⟨(some 15), none, .pick (.t 11) (.c (.bool true)) (.t 14)⟩, ⟨(some 16), none, .mv (.t 15)⟩, ⟨(some 17), (some (16, false)), .faddr 0 (.t 2)⟩, ⟨(some 18), (some (16, false)), .load false 1 (.t 17)⟩, ⟨(some 19), (some (16, false)), .faddr 1 (.t 2)⟩, ⟨(some 20), (some (16, false)), .load false 1 (.t 19)⟩, ⟨(some 21), (some (16, false)), .bin .gtr (.t 18) (.t 20)⟩, ⟨(some 22), none, .pick (.t 16) (.c (.bool true)) (.t 21)⟩, ⟨(some 23), none, .mv (.t 22)⟩, ⟨(some 24), (some (23, false)), .faddr 1 (.t 2)⟩, ⟨(some 25), (some (23, false)), .load false 1 (.t 24)⟩, ⟨(some 26), (some (23, false)), .bin .gtr (.t 25) (.c (.int .i64 1048576))⟩, ⟨(some 27), none, .pick (.t 23) (.c (.bool true)) (.t 26)⟩])
  (.cond (.t 27)
    (.seq (.region [⟨(some 4), none, .mv (.c (.bool false))⟩])
    .ret)
    .skip))
  (.seq (.region [⟨(some 28), none, .mv (.t 1)⟩, ⟨(some 29), none, .bin .eql (.t 28) (.c (.int .i64 (-1)))⟩, ⟨(some 30), none, .mv (.t 29)⟩, ⟨(some 31), (some (30, true)), .faddr 0 (.t 2)⟩, ⟨(some 32), (some (30, true)), .load false 1 (.t 31)⟩, ⟨(some 33), (some (30, true)), .faddr 1 (.t 2)⟩, ⟨(some 34), (some (30, true)), .load false 1 (.t 33)⟩, ⟨(some 35), (some (30, true)), .bin .lss (.t 32) (.t 34)⟩, ⟨(some 36), none, .pick (.t 30) (.t 35) (.c (.bool false))⟩, ⟨(some 37), none, .mv (.t 36)⟩, ⟨(some 38), (some (37, false)), .mv (.t 1)⟩, ⟨(some 39), (some (37, false)), .bin .neq (.t 38) (.c (.int .i64 (-1)))⟩, ⟨(some 40), (some (37, false)), .mv (.t 39)⟩, ⟨(some 41), (some (40, true)), .faddr 1 (.t 2)⟩, ⟨(some 42), (some (40, true)), .load false 1 (.t 41)⟩, ⟨(some 43), (some (40, true)), .mv (.t 1)⟩, ⟨(some 44), (some (40, true)), .bin .leq (.t 42) (.t 43)⟩, ⟨(some 45), (some (37, false)), .pick (.t 40) (.t 44) (.c (.bool false))⟩, ⟨(some 46), none, .pick (.t 37) (.c (.bool true)) (.t 45)⟩, ⟨(some 4), none, .mv (.t 46)⟩])
  .ret)))⟩
/-- gatepost/gatepostref14.right -/
def c_gatepostref14_right : FnC := ⟨47, [.tmp 4],
  (.seq (.region [⟨(some 2), none, .box (.t 0)⟩, ⟨(some 4), none, .mv (.c (.bool false))⟩])
  (.seq (.seq (.region [⟨(some 5), none, .mv (.t 1)⟩, ⟨(some 6), none, .bin .lss (.t 5) (.c (.int .i64 (-1)))⟩, ⟨(some 7), none, .mv (.t 6)⟩, ⟨(some 8), (some (7, false)), .mv (.t 1)⟩, ⟨(some 9), (some (7, false)), .bin .gtr (.t 8) (.c (.int .i64 1048576))⟩, ⟨(some 10), none, .pick (.t 7) (.c (.bool true)) (.t 9)⟩, ⟨(some 11), none, .mv (.t 10)⟩, ⟨(some 12), (some (11, false)), .faddr 0 (.t 2)⟩, ⟨(some 13), (some (11, false)), .load false 1 (.t 12)⟩, ⟨(some 14), (some (11, false)), .bin .lss (.t 13) (.c (.int .i64 0))⟩, ⟨(some 15), none, .pick (.t 11) (.c (.bool true)) (.t 14)⟩, ⟨(some 16), none, .mv (.t 15)⟩, ⟨(some 17), (some (16, false)), .faddr 0 (.t 2)⟩, ⟨(some 18), (some (16, false)), .load false 1 (.t 17)⟩, ⟨(some 19), (some (16, false)), .faddr 1 (.t 2)⟩, ⟨(some 20), (some (16, false)), .load false 1 (.t 19)⟩, ⟨(some 21), (some (16, false)), .bin .gtr (.t 18) (.t 20)⟩, ⟨(some 22), none, .pick (.t 16) (.c (.bool true)) (.t 21)⟩, ⟨(some 23), none, .mv (.t 22)⟩, ⟨(some 24), (some (23, false)), .faddr 1 (.t 2)⟩, ⟨(some 25), (some (23, false)), .load false 1 (.t 24)⟩, ⟨(some 26), (some (23, false)), .bin .gtr (.t 25) (.c (.int .i64 1048576))⟩, ⟨(some 27), none, .pick (.t 23) (.c (.bool true)) (.t 26)⟩, ⟨(some 28), none, .mv (.t 27)⟩, ⟨(some 29), (some (28, false)), .mv (.t 1)⟩, ⟨(some 30), (some (28, false)), .bin .geq (.t 29) (.c (.int .i64 0))⟩, ⟨(some 31), (some (28, false)), .mv (.t 30)⟩, ⟨(some 32), (some (31, true)), .faddr 1 (.t 2)⟩, ⟨(some 33), (some (31, true)), .load false 1 (.t 32)⟩, ⟨(some 34), (some (31, true)), .mv (.t 1)⟩, ⟨(some 35), (some (31, true)), .bin .gtr (.t 33) (.t 34)⟩, ⟨(some 36), (some (28, false)), .pick (.t 31) (.t 35) (.c (.bool false))⟩, ⟨(some 37), none, .pick (.t 28) (.c (.bool true)) (.t 36)⟩])
  (.cond (.t 37)
    (.seq (.region [⟨(some 4), none, .mv (.c (.bool false))⟩])
    .ret)
    .skip))
  (.seq (.region [⟨(some 38), none, .faddr 0 (.t 2)⟩, ⟨(some 39), none, .load false 1 (.t 38)⟩, ⟨(some 40), none, .faddr 1 (.t 2)⟩, ⟨(some 41), none, .load false 1 (.t 40)⟩, ⟨(some 42), none, .bin .lss (.t 39) (.t 41)⟩, ⟨(some 43), none, .mv (.t 42)⟩, ⟨(some 44), (some (43, false)), .mv (.t 1)⟩, ⟨(some 45), (some (43, false)), .bin .geq (.t 44) (.c (.int .i64 0))⟩, ⟨(some 46), none, .pick (.t 43) (.c (.bool true)) (.t 45)⟩, ⟨(some 4), none, .mv (.t 46)⟩])
  .ret)))⟩
/-- gatepost/gatepostref14.digits -/
def c_gatepostref14_digits : FnC := ⟨16, [.tmp 2],
  (.seq (.region [⟨(some 2), none, .mv (.c (.str []))⟩])
  (.seq (.seq (.region [⟨(some 3), none, .mv (.t 0)⟩, ⟨(some 4), none, .bin .lss (.t 3) (.c (.int .i64 10))⟩])
  (.cond (.t 4)
    (.seq (.region [⟨(some 5), none, .mv (.t 0)⟩, ⟨(some 6), none, .mv (.t 0)⟩, ⟨(some 7), none, .bin .add (.t 6) (.c (.int .i64 1))⟩, ⟨(some 8), none, .slstr (.c (.str [48, 49, 50, 51, 52, 53, 54, 55, 56, 57])) (some (.t 5)) (some (.t 7))⟩, ⟨(some 2), none, .mv (.t 8)⟩])
    .ret)
    .skip))
  (.seq (.region [⟨(some 9), none, .mv (.t 0)⟩, ⟨(some 10), none, .bin .quo (.t 9) (.c (.int .i64 10))⟩, ⟨(some 11), none, .call i_gatepostref14_digits [(.t 10)]⟩, ⟨(some 12), none, .mv (.t 0)⟩, ⟨(some 13), none, .bin .rem (.t 12) (.c (.int .i64 10))⟩, ⟨(some 14), none, .call i_gatepostref14_digits [(.t 13)]⟩, ⟨(some 15), none, .bin .add (.t 11) (.t 14)⟩, ⟨(some 2), none, .mv (.t 15)⟩])
  .ret)))⟩
/-- strings.CutPrefix -/
def c_strings_CutPrefix : FnC := ⟨11, [.tmp 4, .tmp 5],
  (.seq (.region [⟨(some 4), none, .mv (.c (.str []))⟩, ⟨(some 5), none, .mv (.c (.bool false))⟩])
  (.seq (.region [⟨(some 6), none, .mv (.t 0)⟩, ⟨(some 7), none, .mv (.t 1)⟩, ⟨(some 8), none, .call i_internal_stringslite_CutPrefix [(.t 6), (.t 7)]⟩, ⟨(some 9), none, .ext 0 (.t 8)⟩, ⟨(some 10), none, .ext 1 (.t 8)⟩, ⟨(some 4), none, .mv (.t 9)⟩, ⟨(some 5), none, .mv (.t 10)⟩])
  .ret))⟩
/-- strings.Cut -/
def c_strings_Cut : FnC := ⟨13, [.tmp 4, .tmp 5, .tmp 6],
  (.seq (.region [⟨(some 4), none, .mv (.c (.str []))⟩, ⟨(some 5), none, .mv (.c (.str []))⟩, ⟨(some 6), none, .mv (.c (.bool false))⟩])
  (.seq (.region [⟨(some 7), none, .mv (.t 0)⟩, ⟨(some 8), none, .mv (.t 1)⟩, ⟨(some 9), none, .call i_internal_stringslite_Cut [(.t 7), (.t 8)]⟩, ⟨(some 10), none, .ext 0 (.t 9)⟩, ⟨(some 11), none, .ext 1 (.t 9)⟩, ⟨(some 12), none, .ext 2 (.t 9)⟩, ⟨(some 4), none, .mv (.t 10)⟩, ⟨(some 5), none, .mv (.t 11)⟩, ⟨(some 6), none, .mv (.t 12)⟩])
  .ret))⟩
/-- gatepost/ranges.Read$1 -/
def c_ranges_Read_1 : FnC := ⟨16, [.tmp 3],
  (.seq (.region [⟨(some 3), none, .mv (.c (.int .i64 0))⟩])
  (.seq (.region [⟨(some 7), none, .mv (.t 0)⟩, ⟨(some 8), none, .call i_token_Number [(.t 7), (.c (.int .i64 1048577))]⟩, ⟨(some 6), none, .mv (.t 8)⟩, ⟨(some 9), none, .ext 0 (.t 6)⟩, ⟨(some 10), none, .ext 1 (.t 6)⟩, ⟨(some 4), none, .mv (.t 9)⟩, ⟨(some 5), none, .mv (.t 10)⟩])
  (.seq (.region [⟨(some 11), none, .load false 1 (.t 1)⟩, ⟨(some 12), none, .mv (.t 11)⟩, ⟨(some 13), (some (12, true)), .mv (.t 5)⟩, ⟨(some 14), none, .pick (.t 12) (.t 13) (.c (.bool false))⟩, ⟨none, none, .store 1 (.t 1) (.t 14)⟩])
  (.seq (.region [⟨(some 15), none, .mv (.t 4)⟩, ⟨(some 3), none, .mv (.t 15)⟩])
  .ret))))⟩
/-- gatepost/token.Number -/
def c_token_Number : FnC := ⟨48, [.tmp 4, .tmp 5],
  (.seq (.region [⟨(some 4), none, .mv (.c (.int .i64 0))⟩, ⟨(some 5), none, .mv (.c (.bool false))⟩])
  (.seq (.seq (.region [⟨(some 9), none, .mv (.t 0)⟩, ⟨(some 10), none, .bin .eql (.t 9) (.c (.str []))⟩, ⟨(some 11), none, .mv (.t 10)⟩, ⟨(some 12), (some (11, false)), .mv (.t 1)⟩, ⟨(some 13), (some (11, false)), .bin .lss (.t 12) (.c (.int .i64 0))⟩, ⟨(some 14), none, .pick (.t 11) (.c (.bool true)) (.t 13)⟩, ⟨(some 15), none, .mv (.t 14)⟩, ⟨(some 16), (some (15, false)), .mv (.t 0)⟩, ⟨(some 17), (some (15, false)), .call i_token_all [(.t 16), (.c (.fn i_token_Number_1 []))]⟩, ⟨(some 18), (some (15, false)), .un .not (.t 17)⟩, ⟨(some 19), none, .pick (.t 15) (.c (.bool true)) (.t 18)⟩])
  (.cond (.t 19)
    (.seq (.region [⟨(some 4), none, .mv (.c (.int .i64 0))⟩, ⟨(some 5), none, .mv (.c (.bool false))⟩])
    .ret)
    .skip))
  (.seq (.region [⟨(some 6), none, .mv (.c (.int .i64 0))⟩])
  (.seq (.seq (.region [⟨(some 20), none, .mv (.t 0)⟩, ⟨(some 21), none, .len 0 (.t 20)⟩, ⟨(some 22), none, .mv (.c (.int .i64 0))⟩])
  (.block 0 (.loop
    (.seq (.region [⟨(some 23), none, .bin .lss (.t 22) (.t 21)⟩])
    (.seq (.cond (.t 23)
      .skip
      (.exit 0))
    (.seq (.block 1 (.seq (.region [⟨(some 24), none, .mv (.t 22)⟩, ⟨(some 7), none, .mv (.t 24)⟩])
    (.seq (.region [⟨(some 25), none, .mv (.t 0)⟩, ⟨(some 26), none, .mv (.t 7)⟩, ⟨(some 27), none, .ixStr (.t 25) (.t 26)⟩, ⟨(some 28), none, .bin .sub (.t 27) (.c (.int .u8 48))⟩, ⟨(some 29), none, .toInt .i64 (.t 28)⟩, ⟨(some 8), none, .mv (.t 29)⟩])
    (.seq (.seq (.region [⟨(some 30), none, .mv (.t 8)⟩, ⟨(some 31), none, .mv (.t 1)⟩, ⟨(some 32), none, .bin .gtr (.t 30) (.t 31)⟩, ⟨(some 33), none, .mv (.t 32)⟩, ⟨(some 34), (some (33, false)), .mv (.t 6)⟩, ⟨(some 35), (some (33, false)), .mv (.t 1)⟩, ⟨(some 36), (some (33, false)), .mv (.t 8)⟩, ⟨(some 37), (some (33, false)), .bin .sub (.t 35) (.t 36)⟩, ⟨(some 38), (some (33, false)), .bin .quo (.t 37) (.c (.int .i64 10))⟩, ⟨(some 39), (some (33, false)), .bin .gtr (.t 34) (.t 38)⟩, ⟨(some 40), none, .pick (.t 33) (.c (.bool true)) (.t 39)⟩])
    (.cond (.t 40)
      (.seq (.region [⟨(some 41), none, .mv (.t 1)⟩, ⟨(some 4), none, .mv (.t 41)⟩, ⟨(some 5), none, .mv (.c (.bool true))⟩])
      .ret)
      .skip))
    (.region [⟨(some 42), none, .mv (.t 6)⟩, ⟨(some 43), none, .bin .mul (.c (.int .i64 10)) (.t 42)⟩, ⟨(some 44), none, .mv (.t 8)⟩, ⟨(some 45), none, .bin .add (.t 43) (.t 44)⟩, ⟨(some 6), none, .mv (.t 45)⟩])))))
    (.region [⟨(some 46), none, .bin .add (.t 22) (.c (.int .i64 1))⟩, ⟨(some 22), none, .mv (.t 46)⟩])))))))
  (.seq (.region [⟨(some 47), none, .mv (.t 6)⟩, ⟨(some 4), none, .mv (.t 47)⟩, ⟨(some 5), none, .mv (.c (.bool true))⟩])
  .ret)))))⟩
/-- gatepost/gatepostref01.Number -/
def c_gatepostref01_Number : FnC := ⟨61, [.tmp 4, .tmp 5],
  (.seq (.region [⟨(some 4), none, .mv (.c (.int .i64 0))⟩, ⟨(some 5), none, .mv (.c (.bool false))⟩])
  (.seq (.seq (.region [⟨(some 10), none, .mv (.t 1)⟩, ⟨(some 11), none, .bin .lss (.t 10) (.c (.int .i64 0))⟩, ⟨(some 12), none, .mv (.t 11)⟩, ⟨(some 13), (some (12, false)), .mv (.t 0)⟩, ⟨(some 14), (some (12, false)), .len 0 (.t 13)⟩, ⟨(some 15), (some (12, false)), .bin .eql (.t 14) (.c (.int .i64 0))⟩, ⟨(some 16), none, .pick (.t 12) (.c (.bool true)) (.t 15)⟩])
  (.cond (.t 16)
    (.seq (.region [⟨(some 4), none, .mv (.c (.int .i64 0))⟩, ⟨(some 5), none, .mv (.c (.bool false))⟩])
    .ret)
    .skip))
  (.seq (.region [⟨(some 6), none, .mv (.c (.int .i64 0))⟩])
  (.seq (.seq (.region [⟨(some 7), none, .mv (.c (.int .i64 0))⟩])
  (.block 0 (.loop
    (.seq (.seq (.region [⟨(some 17), none, .mv (.t 7)⟩, ⟨(some 18), none, .mv (.t 0)⟩, ⟨(some 19), none, .len 0 (.t 18)⟩, ⟨(some 20), none, .bin .lss (.t 17) (.t 19)⟩])
    (.cond (.t 20)
      .skip
      (.exit 0)))
    (.seq (.block 1 (.seq (.region [⟨(some 23), none, .mv (.t 0)⟩, ⟨(some 24), none, .mv (.t 7)⟩, ⟨(some 25), none, .ixStr (.t 23) (.t 24)⟩, ⟨(some 26), none, .bin .lss (.t 25) (.c (.int .u8 48))⟩, ⟨(some 27), none, .mv (.t 26)⟩, ⟨(some 28), (some (27, false)), .mv (.t 0)⟩, ⟨(some 29), (some (27, false)), .mv (.t 7)⟩, ⟨(some 30), (some (27, false)), .ixStr (.t 28) (.t 29)⟩, ⟨(some 31), (some (27, false)), .bin .gtr (.t 30) (.c (.int .u8 57))⟩, ⟨(some 32), none, .pick (.t 27) (.c (.bool true)) (.t 31)⟩])
    (.cond (.t 32)
      (.seq (.region [⟨(some 4), none, .mv (.c (.int .i64 0))⟩, ⟨(some 5), none, .mv (.c (.bool false))⟩])
      .ret)
      .skip)))
    (.region [⟨(some 21), none, .mv (.t 7)⟩, ⟨(some 22), none, .bin .add (.t 21) (.c (.int .i64 1))⟩, ⟨(some 7), none, .mv (.t 22)⟩]))))))
  (.seq (.seq (.region [⟨(some 8), none, .mv (.c (.int .i64 0))⟩])
  (.block 2 (.loop
    (.seq (.seq (.region [⟨(some 33), none, .mv (.t 8)⟩, ⟨(some 34), none, .mv (.t 0)⟩, ⟨(some 35), none, .len 0 (.t 34)⟩, ⟨(some 36), none, .bin .lss (.t 33) (.t 35)⟩])
    (.cond (.t 36)
      .skip
      (.exit 2)))
    (.seq (.block 3 (.seq (.region [⟨(some 39), none, .mv (.t 0)⟩, ⟨(some 40), none, .mv (.t 8)⟩, ⟨(some 41), none, .ixStr (.t 39) (.t 40)⟩, ⟨(some 42), none, .bin .sub (.t 41) (.c (.int .u8 48))⟩, ⟨(some 43), none, .toInt .i64 (.t 42)⟩, ⟨(some 9), none, .mv (.t 43)⟩])
    (.seq (.seq (.region [⟨(some 44), none, .mv (.t 6)⟩, ⟨(some 45), none, .mv (.t 1)⟩, ⟨(some 46), none, .mv (.t 9)⟩, ⟨(some 47), none, .bin .sub (.t 45) (.t 46)⟩, ⟨(some 48), none, .bin .quo (.t 47) (.c (.int .i64 10))⟩, ⟨(some 49), none, .bin .gtr (.t 44) (.t 48)⟩, ⟨(some 50), none, .mv (.t 49)⟩, ⟨(some 51), (some (50, false)), .mv (.t 1)⟩, ⟨(some 52), (some (50, false)), .mv (.t 9)⟩, ⟨(some 53), (some (50, false)), .bin .lss (.t 51) (.t 52)⟩, ⟨(some 54), none, .pick (.t 50) (.c (.bool true)) (.t 53)⟩])
    (.cond (.t 54)
      (.seq (.region [⟨(some 55), none, .mv (.t 1)⟩, ⟨(some 4), none, .mv (.t 55)⟩, ⟨(some 5), none, .mv (.c (.bool true))⟩])
      .ret)
      .skip))
    (.region [⟨(some 56), none, .mv (.t 6)⟩, ⟨(some 57), none, .bin .mul (.t 56) (.c (.int .i64 10))⟩, ⟨(some 58), none, .mv (.t 9)⟩, ⟨(some 59), none, .bin .add (.t 57) (.t 58)⟩, ⟨(some 6), none, .mv (.t 59)⟩]))))
    (.region [⟨(some 37), none, .mv (.t 8)⟩, ⟨(some 38), none, .bin .add (.t 37) (.c (.int .i64 1))⟩, ⟨(some 8), none, .mv (.t 38)⟩]))))))
  (.seq (.region [⟨(some 60), none, .mv (.t 6)⟩, ⟨(some 4), none, .mv (.t 60)⟩, ⟨(some 5), none, .mv (.c (.bool true))⟩])
  .ret))))))⟩
/-- gatepost/ranges.fine -/
def c_ranges_fine : FnC := ⟨45, [.tmp 2],
  (.seq (.region [⟨(some 1), none, .box (.t 0)⟩, ⟨(some 2), none, .mv (.c (.bool false))⟩])
  (.seq (.region [⟨(some 4), none, .faddr 0 (.t 1)⟩, ⟨(some 5), none, .load false 1 (.t 4)⟩, ⟨(some 6), none, .bin .geq (.t 5) (.c (.int .i64 (-1)))⟩, ⟨(some 7), none, .mv (.t 6)⟩, ⟨(some 8), (some (7, true)), .faddr 1 (.t 1)⟩, ⟨(some 9), (some (7, true)), .load false 1 (.t 8)⟩, ⟨(some 10), (some (7, true)), .bin .geq (.t 9) (.c (.int .i64 (-1)))⟩, ⟨(some 11), none, .pick (.t 7) (.t 10) (.c (.bool false))⟩, ⟨(some 12), none, .mv (.t 11)⟩, ⟨(some 13), (some (12, true)), .faddr 0 (.t 1)⟩, ⟨(some 14), (some (12, true)), .load false 1 (.t 13)⟩, ⟨(some 15), (some (12, true)), .bin .leq (.t 14) (.c (.int .i64 1099511627776))⟩, ⟨(some 16), none, .pick (.t 12) (.t 15) (.c (.bool false))⟩, ⟨(some 17), none, .mv (.t 16)⟩, ⟨(some 18), (some (17, true)), .faddr 1 (.t 1)⟩, ⟨(some 19), (some (17, true)), .load false 1 (.t 18)⟩, ⟨(some 20), (some (17, true)), .bin .leq (.t 19) (.c (.int .i64 1099511627776))⟩, ⟨(some 21), none, .pick (.t 17) (.t 20) (.c (.bool false))⟩, ⟨(some 3), none, .mv (.t 21)⟩])
  (.seq (.region [⟨(some 22), none, .mv (.t 3)⟩, ⟨(some 23), none, .mv (.t 22)⟩, ⟨(some 24), (some (23, true)), .load true 2 (.t 1)⟩, ⟨(some 25), (some (23, true)), .build [(.int .i64 0), (.int .i64 0)] [(0, 1, (.c (.int .i64 (-1)))), (1, 1, (.c (.int .i64 (-1))))]⟩, ⟨(some 26), (some (23, true)), .eq (.agg [.i, .i]) true (.t 24) (.t 25)⟩, ⟨(some 27), none, .pick (.t 23) (.t 26) (.c (.bool false))⟩, ⟨(some 28), none, .mv (.t 27)⟩, ⟨(some 29), (some (28, true)), .faddr 0 (.t 1)⟩, ⟨(some 30), (some (28, true)), .load false 1 (.t 29)⟩, ⟨(some 31), (some (28, true)), .bin .eql (.t 30) (.c (.int .i64 (-1)))⟩, ⟨(some 32), (some (28, true)), .mv (.t 31)⟩, ⟨(some 33), (some (32, false)), .faddr 1 (.t 1)⟩, ⟨(some 34), (some (32, false)), .load false 1 (.t 33)⟩, ⟨(some 35), (some (32, false)), .bin .eql (.t 34) (.c (.int .i64 (-1)))⟩, ⟨(some 36), (some (28, true)), .pick (.t 32) (.c (.bool true)) (.t 35)⟩, ⟨(some 37), (some (28, true)), .mv (.t 36)⟩, ⟨(some 38), (some (37, false)), .faddr 0 (.t 1)⟩, ⟨(some 39), (some (37, false)), .load false 1 (.t 38)⟩, ⟨(some 40), (some (37, false)), .faddr 1 (.t 1)⟩, ⟨(some 41), (some (37, false)), .load false 1 (.t 40)⟩, ⟨(some 42), (some (37, false)), .bin .leq (.t 39) (.t 41)⟩, ⟨(some 43), (some (28, true)), .pick (.t 37) (.c (.bool true)) (.t 42)⟩, ⟨(some 44), none, .pick (.t 28) (.t 43) (.c (.bool false))⟩, ⟨(some 2), none, .mv (.t 44)⟩])
  .ret)))⟩
/-- gatepost/token.Same -/
def c_token_Same : FnC := ⟨17, [.tmp 4],
  (.seq (.region [⟨(some 4), none, .mv (.c (.bool false))⟩])
  (.seq (.region [⟨(some 5), none, .mv (.t 0)⟩, ⟨(some 6), none, .len 0 (.t 5)⟩, ⟨(some 7), none, .mv (.t 1)⟩, ⟨(some 8), none, .len 0 (.t 7)⟩, ⟨(some 9), none, .bin .eql (.t 6) (.t 8)⟩, ⟨(some 10), none, .mv (.t 9)⟩, ⟨(some 11), (some (10, true)), .mv (.t 0)⟩, ⟨(some 12), (some (10, true)), .call i_token_Lower [(.t 11)]⟩, ⟨(some 13), (some (10, true)), .mv (.t 1)⟩, ⟨(some 14), (some (10, true)), .call i_token_Lower [(.t 13)]⟩, ⟨(some 15), (some (10, true)), .bin .eql (.t 12) (.t 14)⟩, ⟨(some 16), none, .pick (.t 10) (.t 15) (.c (.bool false))⟩, ⟨(some 4), none, .mv (.t 16)⟩])
  .ret))⟩
/-- gatepost/token.Split -/
def c_token_Split : FnC := ⟨54, [.tmp 2, .tmp 3],
  (.seq (.region [⟨(some 1), none, .box (.t 0)⟩, ⟨(some 2), none, .mv (.c .nsl)⟩, ⟨(some 3), none, .mv (.c (.bool false))⟩])
  (.seq (.region [⟨(some 4), none, .boxz [.nsl]⟩])
  (.seq (.region [⟨(some 5), none, .boxz [(.int .i64 0)]⟩, ⟨none, none, .store 1 (.t 5) (.c (.int .i64 0))⟩])
  (.seq (.region [⟨(some 10), none, .mkfn i_token_Split_1 [(.t 1), (.t 5), (.t 4)]⟩, ⟨(some 6), none, .mv (.t 10)⟩])
  (.seq (.region [⟨(some 7), none, .mv (.c (.bool false))⟩])
  (.seq (.seq (.region [⟨(some 8), none, .mv (.c (.int .i64 0))⟩])
  (.block 0 (.loop
    (.seq (.seq (.region [⟨(some 11), none, .mv (.t 8)⟩, ⟨(some 12), none, .load false 1 (.t 1)⟩, ⟨(some 13), none, .len 0 (.t 12)⟩, ⟨(some 14), none, .bin .lss (.t 11) (.t 13)⟩])
    (.cond (.t 14)
      .skip
      (.exit 0)))
    (.seq (.block 1 (.seq (.region [⟨(some 17), none, .load false 1 (.t 1)⟩, ⟨(some 18), none, .mv (.t 8)⟩, ⟨(some 19), none, .ixStr (.t 17) (.t 18)⟩, ⟨(some 9), none, .mv (.t 19)⟩])
    (.block 2 (.seq (.region [⟨(some 21), none, .mv (.t 9)⟩, ⟨(some 22), none, .bin .eql (.t 21) (.c (.int .u8 34))⟩, ⟨(some 20), none, .mv (.t 22)⟩])
    (.cond (.t 20)
      (.region [⟨(some 23), none, .mv (.t 7)⟩, ⟨(some 24), none, .un .not (.t 23)⟩, ⟨(some 7), none, .mv (.t 24)⟩])
      (.seq (.region [⟨(some 26), none, .mv (.t 7)⟩, ⟨(some 27), none, .mv (.t 26)⟩, ⟨(some 28), (some (27, true)), .mv (.t 9)⟩, ⟨(some 29), (some (27, true)), .bin .eql (.t 28) (.c (.int .u8 92))⟩, ⟨(some 30), none, .pick (.t 27) (.t 29) (.c (.bool false))⟩, ⟨(some 25), none, .mv (.t 30)⟩])
      (.cond (.t 25)
        (.region [⟨(some 31), none, .mv (.t 8)⟩, ⟨(some 32), none, .bin .add (.t 31) (.c (.int .i64 1))⟩, ⟨(some 8), none, .mv (.t 32)⟩])
        (.seq (.region [⟨(some 34), none, .mv (.t 7)⟩, ⟨(some 35), none, .un .not (.t 34)⟩, ⟨(some 36), none, .mv (.t 35)⟩, ⟨(some 37), (some (36, true)), .mv (.t 9)⟩, ⟨(some 38), (some (36, true)), .bin .eql (.t 37) (.c (.int .u8 44))⟩, ⟨(some 39), none, .pick (.t 36) (.t 38) (.c (.bool false))⟩, ⟨(some 33), none, .mv (.t 39)⟩])
        (.cond (.t 33)
          (.region [⟨(some 40), none, .mv (.t 6)⟩, ⟨(some 41), none, .mv (.t 8)⟩, ⟨(some 42), none, .callv (.t 40) [(.t 41)]⟩])
          .skip)))))))))
    (.region [⟨(some 15), none, .mv (.t 8)⟩, ⟨(some 16), none, .bin .add (.t 15) (.c (.int .i64 1))⟩, ⟨(some 8), none, .mv (.t 16)⟩]))))))
  (.seq (.seq (.region [⟨(some 43), none, .mv (.t 7)⟩])
  (.cond (.t 43)
    (.seq (.region [⟨(some 2), none, .mv (.c .nsl)⟩, ⟨(some 3), none, .mv (.c (.bool false))⟩])
    .ret)
    .skip))
  (.seq (.region [⟨(some 44), none, .mv (.t 6)⟩, ⟨(some 45), none, .load false 1 (.t 1)⟩, ⟨(some 46), none, .len 0 (.t 45)⟩, ⟨(some 47), none, .callv (.t 44) [(.t 46)]⟩])
  (.seq (.region [⟨(some 48), none, .load false 1 (.t 4)⟩, ⟨(some 49), none, .load false 1 (.t 4)⟩, ⟨(some 50), none, .len 1 (.t 49)⟩, ⟨(some 51), none, .load false 1 (.t 4)⟩, ⟨(some 52), none, .len 1 (.t 51)⟩, ⟨(some 53), none, .slsl 1 (.t 48) none (some (.t 50)) (some (.t 52))⟩, ⟨(some 2), none, .mv (.t 53)⟩, ⟨(some 3), none, .mv (.c (.bool true))⟩])
  .ret)))))))))⟩
/-- gatepost/ranges.one -/
def c_ranges_one : FnC := ⟨51, [.cell 2 true 2, .tmp 3],
  (.seq (.region [⟨(some 2), none, .boxz [(.int .i64 0), (.int .i64 0)]⟩, ⟨(some 3), none, .mv (.c (.bool false))⟩])
  (.seq (.region [⟨(some 10), none, .mv (.t 0)⟩, ⟨(some 11), none, .call i_strings_Cut [(.t 10), (.c (.str [45]))]⟩, ⟨(some 9), none, .mv (.t 11)⟩, ⟨(some 12), none, .ext 0 (.t 9)⟩, ⟨(some 13), none, .ext 1 (.t 9)⟩, ⟨(some 14), none, .ext 2 (.t 9)⟩, ⟨(some 4), none, .mv (.t 12)⟩, ⟨(some 5), none, .mv (.t 13)⟩, ⟨(some 6), none, .mv (.t 14)⟩])
  (.seq (.region [⟨(some 7), none, .mv (.c (.fn i_ranges_one_1 []))⟩])
  (.seq (.region [⟨(some 15), none, .mv (.t 7)⟩, ⟨(some 16), none, .mv (.t 4)⟩, ⟨(some 17), none, .callv (.t 15) [(.t 16)]⟩, ⟨(some 18), none, .mv (.t 7)⟩, ⟨(some 19), none, .mv (.t 5)⟩, ⟨(some 20), none, .callv (.t 18) [(.t 19)]⟩, ⟨(some 21), none, .build [(.int .i64 0), (.int .i64 0)] [(0, 1, (.t 17)), (1, 1, (.t 20))]⟩, ⟨(some 8), none, .boxz [(.int .i64 0), (.int .i64 0)]⟩, ⟨none, none, .store 2 (.t 8) (.t 21)⟩])
  (.seq (.seq (.region [⟨(some 22), none, .mv (.t 6)⟩, ⟨(some 23), none, .un .not (.t 22)⟩, ⟨(some 24), none, .mv (.t 23)⟩, ⟨(some 25), (some (24, false)), .mv (.t 4)⟩, ⟨(some 26), (some (24, false)), .bin .neq (.t 25) (.c (.str []))⟩, ⟨(some 27), (some (24, false)), .mv (.t 26)⟩, ⟨(some 28), (some (27, true)), .faddr 0 (.t 8)⟩, ⟨(some 29), (some (27, true)), .load false 1 (.t 28)⟩, ⟨(some 30), (some (27, true)), .bin .eql (.t 29) (.c (.int .i64 (-1)))⟩, ⟨(some 31), (some (24, false)), .pick (.t 27) (.t 30) (.c (.bool false))⟩, ⟨(some 32), none, .pick (.t 24) (.c (.bool true)) (.t 31)⟩, ⟨(some 33), none, .mv (.t 32)⟩, ⟨(some 34), (some (33, false)), .mv (.t 5)⟩, ⟨(some 35), (some (33, false)), .bin .neq (.t 34) (.c (.str []))⟩, ⟨(some 36), (some (33, false)), .mv (.t 35)⟩, ⟨(some 37), (some (36, true)), .faddr 1 (.t 8)⟩, ⟨(some 38), (some (36, true)), .load false 1 (.t 37)⟩, ⟨(some 39), (some (36, true)), .bin .eql (.t 38) (.c (.int .i64 (-1)))⟩, ⟨(some 40), (some (33, false)), .pick (.t 36) (.t 39) (.c (.bool false))⟩, ⟨(some 41), none, .pick (.t 33) (.c (.bool true)) (.t 40)⟩, ⟨(some 42), none, .mv (.t 41)⟩, ⟨(some 43), (some (42, false)), .load true 2 (.t 8)⟩, ⟨(some 44), (some (42, false)), .build [(.int .i64 0), (.int .i64 0)] [(0, 1, (.c (.int .i64 (-1)))), (1, 1, (.c (.int .i64 (-1))))]⟩, ⟨(some 45), (some (42, false)), .eq (.agg [.i, .i]) false (.t 43) (.t 44)⟩, ⟨(some 46), none, .pick (.t 42) (.c (.bool true)) (.t 45)⟩])
  (.cond (.t 46)
    (.seq (.region [⟨(some 47), none, .build [(.int .i64 0), (.int .i64 0)] []⟩, ⟨none, none, .store 2 (.t 2) (.t 47)⟩, ⟨(some 3), none, .mv (.c (.bool false))⟩])
    .ret)
    .skip))
  (.seq (.dregion [⟨(some 48), none, .load true 2 (.t 8)⟩, ⟨(some 49), none, .load true 2 (.t 8)⟩, ⟨(some 50), none, .call i_ranges_fine [(.t 49)]⟩] [⟨none, none, .store 2 (.t 2) (.t 48)⟩, ⟨(some 3), none, .mv (.t 50)⟩])
  .ret))))))⟩
/-- gatepost/gatepostref01.Lower -/
def c_gatepostref01_Lower : FnC := ⟨29, [.tmp 2],
  (.seq (.region [⟨(some 2), none, .mv (.c (.str []))⟩])
  (.seq (.region [⟨(some 3), none, .mv (.c (.str []))⟩])
  (.seq (.seq (.region [⟨(some 4), none, .mv (.c (.int .i64 0))⟩])
  (.block 0 (.loop
    (.seq (.seq (.region [⟨(some 6), none, .mv (.t 4)⟩, ⟨(some 7), none, .mv (.t 0)⟩, ⟨(some 8), none, .len 0 (.t 7)⟩, ⟨(some 9), none, .bin .lss (.t 6) (.t 8)⟩])
    (.cond (.t 9)
      .skip
      (.exit 0)))
    (.seq (.block 1 (.seq (.region [⟨(some 12), none, .mv (.t 0)⟩, ⟨(some 13), none, .mv (.t 4)⟩, ⟨(some 14), none, .ixStr (.t 12) (.t 13)⟩, ⟨(some 5), none, .mv (.t 14)⟩])
    (.seq (.seq (.region [⟨(some 15), none, .mv (.t 5)⟩, ⟨(some 16), none, .bin .geq (.t 15) (.c (.int .u8 65))⟩, ⟨(some 17), none, .mv (.t 16)⟩, ⟨(some 18), (some (17, true)), .mv (.t 5)⟩, ⟨(some 19), (some (17, true)), .bin .leq (.t 18) (.c (.int .u8 90))⟩, ⟨(some 20), none, .pick (.t 17) (.t 19) (.c (.bool false))⟩])
    (.cond (.t 20)
      (.region [⟨(some 21), none, .mv (.t 5)⟩, ⟨(some 22), none, .bin .add (.t 21) (.c (.int .u8 32))⟩, ⟨(some 5), none, .mv (.t 22)⟩])
      .skip))
    (.region [⟨(some 23), none, .mv (.t 3)⟩, ⟨(some 24), none, .mv (.t 5)⟩, ⟨(some 25), none, .bsl 1 [(.t 24)]⟩, ⟨(some 26), none, .toStr (.t 25)⟩, ⟨(some 27), none, .bin .add (.t 23) (.t 26)⟩, ⟨(some 3), none, .mv (.t 27)⟩]))))
    (.region [⟨(some 10), none, .mv (.t 4)⟩, ⟨(some 11), none, .bin .add (.t 10) (.c (.int .i64 1))⟩, ⟨(some 4), none, .mv (.t 11)⟩]))))))
  (.seq (.region [⟨(some 28), none, .mv (.t 3)⟩, ⟨(some 2), none, .mv (.t 28)⟩])
  .ret))))⟩
/-- gatepost/gatepostref01.Split -/
def c_gatepostref01_Split : FnC := ⟨74, [.tmp 2, .tmp 3],
  (.seq (.region [⟨(some 2), none, .mv (.c .nsl)⟩, ⟨(some 3), none, .mv (.c (.bool false))⟩])
  (.seq (.region [⟨(some 4), none, .mv (.c .nsl)⟩])
  (.seq (.region [⟨(some 5), none, .mv (.c (.str []))⟩])
  (.seq (.region [⟨(some 6), none, .mv (.c (.bool false))⟩])
  (.seq (.seq (.region [⟨(some 7), none, .mv (.c (.int .i64 0))⟩])
  (.block 0 (.loop
    (.seq (.seq (.region [⟨(some 9), none, .mv (.t 7)⟩, ⟨(some 10), none, .mv (.t 0)⟩, ⟨(some 11), none, .len 0 (.t 10)⟩, ⟨(some 12), none, .bin .lss (.t 9) (.t 11)⟩])
    (.cond (.t 12)
      .skip
      (.exit 0)))
    (.seq (.block 1 (.seq (.region [⟨(some 15), none, .mv (.t 0)⟩, ⟨(some 16), none, .mv (.t 7)⟩, ⟨(some 17), none, .ixStr (.t 15) (.t 16)⟩, ⟨(some 8), none, .mv (.t 17)⟩])
    (.seq (.seq (.region [⟨(some 18), none, .mv (.t 6)⟩, ⟨(some 19), none, .un .not (.t 18)⟩, ⟨(some 20), none, .mv (.t 19)⟩, ⟨(some 21), (some (20, true)), .mv (.t 8)⟩, ⟨(some 22), (some (20, true)), .bin .eql (.t 21) (.c (.int .u8 44))⟩, ⟨(some 23), none, .pick (.t 20) (.t 22) (.c (.bool false))⟩])
    (.cond (.t 23)
      (.seq (.region [⟨(some 24), none, .mv (.t 5)⟩, ⟨(some 25), none, .call i_gatepostref01_Trim [(.t 24)]⟩, ⟨(some 5), none, .mv (.t 25)⟩])
      (.seq (.seq (.region [⟨(some 26), none, .mv (.t 5)⟩, ⟨(some 27), none, .bin .neq (.t 26) (.c (.str []))⟩])
      (.cond (.t 27)
        (.region [⟨(some 28), none, .mv (.t 4)⟩, ⟨(some 29), none, .mv (.t 5)⟩, ⟨(some 30), none, .bsl 1 [(.t 29)]⟩, ⟨(some 31), none, .app 1 16 false (.t 28) (.t 30)⟩, ⟨(some 4), none, .mv (.t 31)⟩])
        .skip))
      (.seq (.region [⟨(some 5), none, .mv (.c (.str []))⟩])
      (.exit 1))))
      .skip))
    (.seq (.region [⟨(some 32), none, .mv (.t 5)⟩, ⟨(some 33), none, .mv (.t 0)⟩, ⟨(some 34), none, .mv (.t 7)⟩, ⟨(some 35), none, .mv (.t 7)⟩, ⟨(some 36), none, .bin .add (.t 35) (.c (.int .i64 1))⟩, ⟨(some 37), none, .slstr (.t 33) (some (.t 34)) (some (.t 36))⟩, ⟨(some 38), none, .bin .add (.t 32) (.t 37)⟩, ⟨(some 5), none, .mv (.t 38)⟩])
    (.seq (.seq (.region [⟨(some 39), none, .mv (.t 8)⟩, ⟨(some 40), none, .bin .eql (.t 39) (.c (.int .u8 34))⟩])
    (.cond (.t 40)
      (.region [⟨(some 41), none, .mv (.t 6)⟩, ⟨(some 42), none, .un .not (.t 41)⟩, ⟨(some 6), none, .mv (.t 42)⟩])
      .skip))
    (.seq (.region [⟨(some 43), none, .mv (.t 6)⟩, ⟨(some 44), none, .mv (.t 43)⟩, ⟨(some 45), (some (44, true)), .mv (.t 8)⟩, ⟨(some 46), (some (44, true)), .bin .eql (.t 45) (.c (.int .u8 92))⟩, ⟨(some 47), none, .pick (.t 44) (.t 46) (.c (.bool false))⟩, ⟨(some 48), none, .mv (.t 47)⟩, ⟨(some 49), (some (48, true)), .mv (.t 7)⟩, ⟨(some 50), (some (48, true)), .bin .add (.t 49) (.c (.int .i64 1))⟩, ⟨(some 51), (some (48, true)), .mv (.t 0)⟩, ⟨(some 52), (some (48, true)), .len 0 (.t 51)⟩, ⟨(some 53), (some (48, true)), .bin .lss (.t 50) (.t 52)⟩, ⟨(some 54), none, .pick (.t 48) (.t 53) (.c (.bool false))⟩])
    (.cond (.t 54)
      (.seq (.region [⟨(some 55), none, .mv (.t 7)⟩, ⟨(some 56), none, .bin .add (.t 55) (.c (.int .i64 1))⟩, ⟨(some 7), none, .mv (.t 56)⟩])
      (.region [⟨(some 57), none, .mv (.t 5)⟩, ⟨(some 58), none, .mv (.t 0)⟩, ⟨(some 59), none, .mv (.t 7)⟩, ⟨(some 60), none, .mv (.t 7)⟩, ⟨(some 61), none, .bin .add (.t 60) (.c (.int .i64 1))⟩, ⟨(some 62), none, .slstr (.t 58) (some (.t 59)) (some (.t 61))⟩, ⟨(some 63), none, .bin .add (.t 57) (.t 62)⟩, ⟨(some 5), none, .mv (.t 63)⟩]))
      .skip)))))))
    (.region [⟨(some 13), none, .mv (.t 7)⟩, ⟨(some 14), none, .bin .add (.t 13) (.c (.int .i64 1))⟩, ⟨(some 7), none, .mv (.t 14)⟩]))))))
  (.seq (.region [⟨(some 64), none, .mv (.t 5)⟩, ⟨(some 65), none, .call i_gatepostref01_Trim [(.t 64)]⟩, ⟨(some 5), none, .mv (.t 65)⟩])
  (.seq (.seq (.region [⟨(some 66), none, .mv (.t 6)⟩])
  (.cond (.t 66)
    (.seq (.region [⟨(some 2), none, .mv (.c .nsl)⟩, ⟨(some 3), none, .mv (.c (.bool false))⟩])
    .ret)
    .skip))
  (.seq (.seq (.region [⟨(some 67), none, .mv (.t 5)⟩, ⟨(some 68), none, .bin .neq (.t 67) (.c (.str []))⟩])
  (.cond (.t 68)
    (.region [⟨(some 69), none, .mv (.t 4)⟩, ⟨(some 70), none, .mv (.t 5)⟩, ⟨(some 71), none, .bsl 1 [(.t 70)]⟩, ⟨(some 72), none, .app 1 16 false (.t 69) (.t 71)⟩, ⟨(some 4), none, .mv (.t 72)⟩])
    .skip))
  (.seq (.region [⟨(some 73), none, .mv (.t 4)⟩, ⟨(some 2), none, .mv (.t 73)⟩, ⟨(some 3), none, .mv (.c (.bool true))⟩])
  .ret)))))))))⟩
/-- gatepost/gatepostref14.one -/
def c_gatepostref14_one : FnC := ⟨66, [.cell 2 true 2, .tmp 3],
  (.seq (.region [⟨(some 2), none, .boxz [(.int .i64 0), (.int .i64 0)]⟩, ⟨(some 3), none, .mv (.c (.bool false))⟩])
  (.seq (.region [⟨(some 4), none, .mv (.c (.int .i64 0))⟩])
  (.seq (.block 0 (.loop
    (.seq (.seq (.region [⟨(some 9), none, .mv (.t 4)⟩, ⟨(some 10), none, .mv (.t 0)⟩, ⟨(some 11), none, .len 0 (.t 10)⟩, ⟨(some 12), none, .bin .lss (.t 9) (.t 11)⟩, ⟨(some 13), none, .mv (.t 12)⟩, ⟨(some 14), (some (13, true)), .mv (.t 0)⟩, ⟨(some 15), (some (13, true)), .mv (.t 4)⟩, ⟨(some 16), (some (13, true)), .ixStr (.t 14) (.t 15)⟩, ⟨(some 17), (some (13, true)), .bin .neq (.t 16) (.c (.int .u8 45))⟩, ⟨(some 18), none, .pick (.t 13) (.t 17) (.c (.bool false))⟩])
    (.cond (.t 18)
      .skip
      (.exit 0)))
    (.block 1 (.region [⟨(some 19), none, .mv (.t 4)⟩, ⟨(some 20), none, .bin .add (.t 19) (.c (.int .i64 1))⟩, ⟨(some 4), none, .mv (.t 20)⟩])))))
  (.seq (.seq (.region [⟨(some 21), none, .mv (.t 4)⟩, ⟨(some 22), none, .mv (.t 0)⟩, ⟨(some 23), none, .len 0 (.t 22)⟩, ⟨(some 24), none, .bin .eql (.t 21) (.t 23)⟩])
  (.cond (.t 24)
    (.seq (.region [⟨(some 25), none, .build [(.int .i64 0), (.int .i64 0)] []⟩, ⟨none, none, .store 2 (.t 2) (.t 25)⟩, ⟨(some 3), none, .mv (.c (.bool false))⟩])
    .ret)
    .skip))
  (.seq (.region [⟨(some 27), none, .mv (.t 0)⟩, ⟨(some 28), none, .mv (.t 4)⟩, ⟨(some 29), none, .slstr (.t 27) none (some (.t 28))⟩, ⟨(some 30), none, .call i_gatepostref01_Number [(.t 29), (.c (.int .i64 1099511627776))]⟩, ⟨(some 26), none, .mv (.t 30)⟩, ⟨(some 31), none, .ext 0 (.t 26)⟩, ⟨(some 32), none, .ext 1 (.t 26)⟩, ⟨(some 5), none, .mv (.t 31)⟩, ⟨(some 6), none, .mv (.t 32)⟩])
  (.seq (.region [⟨(some 34), none, .mv (.t 0)⟩, ⟨(some 35), none, .mv (.t 4)⟩, ⟨(some 36), none, .bin .add (.t 35) (.c (.int .i64 1))⟩, ⟨(some 37), none, .slstr (.t 34) (some (.t 36)) none⟩, ⟨(some 38), none, .call i_gatepostref01_Number [(.t 37), (.c (.int .i64 1099511627776))]⟩, ⟨(some 33), none, .mv (.t 38)⟩, ⟨(some 39), none, .ext 0 (.t 33)⟩, ⟨(some 40), none, .ext 1 (.t 33)⟩, ⟨(some 7), none, .mv (.t 39)⟩, ⟨(some 8), none, .mv (.t 40)⟩])
  (.seq (.seq (.region [⟨(some 41), none, .mv (.t 4)⟩, ⟨(some 42), none, .bin .eql (.t 41) (.c (.int .i64 0))⟩])
  (.cond (.t 42)
    (.seq (.region [⟨(some 43), none, .mv (.t 7)⟩, ⟨(some 44), none, .build [(.int .i64 0), (.int .i64 0)] [(0, 1, (.c (.int .i64 (-1)))), (1, 1, (.t 43))]⟩, ⟨(some 45), none, .mv (.t 8)⟩, ⟨none, none, .store 2 (.t 2) (.t 44)⟩, ⟨(some 3), none, .mv (.t 45)⟩])
    .ret)
    .skip))
  (.seq (.seq (.region [⟨(some 46), none, .mv (.t 4)⟩, ⟨(some 47), none, .bin .add (.t 46) (.c (.int .i64 1))⟩, ⟨(some 48), none, .mv (.t 0)⟩, ⟨(some 49), none, .len 0 (.t 48)⟩, ⟨(some 50), none, .bin .eql (.t 47) (.t 49)⟩])
  (.cond (.t 50)
    (.seq (.region [⟨(some 51), none, .mv (.t 5)⟩, ⟨(some 52), none, .build [(.int .i64 0), (.int .i64 0)] [(0, 1, (.t 51)), (1, 1, (.c (.int .i64 (-1))))]⟩, ⟨(some 53), none, .mv (.t 6)⟩, ⟨none, none, .store 2 (.t 2) (.t 52)⟩, ⟨(some 3), none, .mv (.t 53)⟩])
    .ret)
    .skip))
  (.seq (.region [⟨(some 54), none, .mv (.t 5)⟩, ⟨(some 55), none, .mv (.t 7)⟩, ⟨(some 56), none, .build [(.int .i64 0), (.int .i64 0)] [(0, 1, (.t 54)), (1, 1, (.t 55))]⟩, ⟨(some 57), none, .mv (.t 6)⟩, ⟨(some 58), none, .mv (.t 57)⟩, ⟨(some 59), (some (58, true)), .mv (.t 8)⟩, ⟨(some 60), none, .pick (.t 58) (.t 59) (.c (.bool false))⟩, ⟨(some 61), none, .mv (.t 60)⟩, ⟨(some 62), (some (61, true)), .mv (.t 5)⟩, ⟨(some 63), (some (61, true)), .mv (.t 7)⟩, ⟨(some 64), (some (61, true)), .bin .leq (.t 62) (.t 63)⟩, ⟨(some 65), none, .pick (.t 61) (.t 64) (.c (.bool false))⟩, ⟨none, none, .store 2 (.t 2) (.t 56)⟩, ⟨(some 3), none, .mv (.t 65)⟩])
  .ret)))))))))⟩
/-- internal/stringslite.CutPrefix -/
def c_internal_stringslite_CutPrefix : FnC := ⟨15, [.tmp 4, .tmp 5],
  (.seq (.region [⟨(some 4), none, .mv (.c (.str []))⟩, ⟨(some 5), none, .mv (.c (.bool false))⟩])
  (.seq (.seq (.region [⟨(some 6), none, .mv (.t 0)⟩, ⟨(some 7), none, .mv (.t 1)⟩, ⟨(some 8), none, .call i_internal_stringslite_HasPrefix [(.t 6), (.t 7)]⟩, ⟨(some 9), none, .un .not (.t 8)⟩])
  (.cond (.t 9)
    (.seq (.region [⟨(some 10), none, .mv (.t 0)⟩, ⟨(some 4), none, .mv (.t 10)⟩, ⟨(some 5), none, .mv (.c (.bool false))⟩])
    .ret)
    .skip))
  (.seq (.region [⟨(some 11), none, .mv (.t 0)⟩, ⟨(some 12), none, .mv (.t 1)⟩, ⟨(some 13), none, .len 0 (.t 12)⟩, ⟨(some 14), none, .slstr (.t 11) (some (.t 13)) none⟩, ⟨(some 4), none, .mv (.t 14)⟩, ⟨(some 5), none, .mv (.c (.bool true))⟩])
  .ret)))⟩
/-- internal/stringslite.Cut -/
def c_internal_stringslite_Cut : FnC := ⟨23, [.tmp 4, .tmp 5, .tmp 6],
  (.seq (.region [⟨(some 4), none, .mv (.c (.str []))⟩, ⟨(some 5), none, .mv (.c (.str []))⟩, ⟨(some 6), none, .mv (.c (.bool false))⟩])
  (.seq (.seq (.region [⟨(some 8), none, .mv (.t 0)⟩, ⟨(some 9), none, .mv (.t 1)⟩, ⟨(some 10), none, .call i_internal_stringslite_Index [(.t 8), (.t 9)]⟩, ⟨(some 7), none, .mv (.t 10)⟩])
  (.seq (.region [⟨(some 11), none, .mv (.t 7)⟩, ⟨(some 12), none, .bin .geq (.t 11) (.c (.int .i64 0))⟩])
  (.cond (.t 12)
    (.seq (.dregion [⟨(some 13), none, .mv (.t 0)⟩, ⟨(some 14), none, .mv (.t 7)⟩, ⟨(some 15), none, .slstr (.t 13) none (some (.t 14))⟩, ⟨(some 16), none, .mv (.t 0)⟩, ⟨(some 17), none, .mv (.t 7)⟩, ⟨(some 18), none, .mv (.t 1)⟩, ⟨(some 19), none, .len 0 (.t 18)⟩, ⟨(some 20), none, .bin .add (.t 17) (.t 19)⟩, ⟨(some 21), none, .slstr (.t 16) (some (.t 20)) none⟩, ⟨(some 4), none, .mv (.t 15)⟩] [⟨(some 5), none, .mv (.t 21)⟩, ⟨(some 6), none, .mv (.c (.bool true))⟩])
    .ret)
    .skip)))
  (.seq (.region [⟨(some 22), none, .mv (.t 0)⟩, ⟨(some 4), none, .mv (.t 22)⟩, ⟨(some 5), none, .mv (.c (.str []))⟩, ⟨(some 6), none, .mv (.c (.bool false))⟩])
  .ret)))⟩
/-- gatepost/token.all -/
def c_token_all : FnC := ⟨18, [.tmp 4],
  (.seq (.region [⟨(some 4), none, .mv (.c (.bool false))⟩])
  (.seq (.seq (.region [⟨(some 6), none, .mv (.t 0)⟩, ⟨(some 7), none, .len 0 (.t 6)⟩, ⟨(some 8), none, .mv (.c (.int .i64 0))⟩])
  (.block 0 (.loop
    (.seq (.region [⟨(some 9), none, .bin .lss (.t 8) (.t 7)⟩])
    (.seq (.cond (.t 9)
      .skip
      (.exit 0))
    (.seq (.block 1 (.seq (.region [⟨(some 10), none, .mv (.t 8)⟩, ⟨(some 5), none, .mv (.t 10)⟩])
    (.seq (.region [⟨(some 11), none, .mv (.t 1)⟩, ⟨(some 12), none, .mv (.t 0)⟩, ⟨(some 13), none, .mv (.t 5)⟩, ⟨(some 14), none, .ixStr (.t 12) (.t 13)⟩, ⟨(some 15), none, .callv (.t 11) [(.t 14)]⟩, ⟨(some 16), none, .un .not (.t 15)⟩])
    (.cond (.t 16)
      (.seq (.region [⟨(some 4), none, .mv (.c (.bool false))⟩])
      .ret)
      .skip))))
    (.region [⟨(some 17), none, .bin .add (.t 8) (.c (.int .i64 1))⟩, ⟨(some 8), none, .mv (.t 17)⟩])))))))
  (.seq (.region [⟨(some 4), none, .mv (.c (.bool true))⟩])
  .ret)))⟩
/-- gatepost/token.Number$1 -/
def c_token_Number_1 : FnC := ⟨9, [.tmp 2],
  (.seq (.region [⟨(some 2), none, .mv (.c (.bool false))⟩])
  (.seq (.region [⟨(some 3), none, .mv (.t 0)⟩, ⟨(some 4), none, .bin .geq (.t 3) (.c (.int .u8 48))⟩, ⟨(some 5), none, .mv (.t 4)⟩, ⟨(some 6), (some (5, true)), .mv (.t 0)⟩, ⟨(some 7), (some (5, true)), .bin .leq (.t 6) (.c (.int .u8 57))⟩, ⟨(some 8), none, .pick (.t 5) (.t 7) (.c (.bool false))⟩, ⟨(some 2), none, .mv (.t 8)⟩])
  .ret))⟩
/-- gatepost/token.Lower -/
def c_token_Lower : FnC := ⟨29, [.tmp 2],
  (.seq (.region [⟨(some 2), none, .mv (.c (.str []))⟩])
  (.seq (.region [⟨(some 6), none, .mv (.t 0)⟩, ⟨(some 7), none, .toBytes (.t 6)⟩, ⟨(some 3), none, .mv (.t 7)⟩])
  (.seq (.seq (.region [⟨(some 8), none, .mv (.t 3)⟩, ⟨(some 9), none, .len 1 (.t 8)⟩, ⟨(some 10), none, .mv (.c (.int .i64 0))⟩])
  (.block 0 (.loop
    (.seq (.region [⟨(some 11), none, .bin .lss (.t 10) (.t 9)⟩])
    (.seq (.cond (.t 11)
      .skip
      (.exit 0))
    (.seq (.block 1 (.seq (.region [⟨(some 12), none, .mv (.t 10)⟩, ⟨(some 13), none, .ixaSl 1 (.t 8) (.t 10)⟩, ⟨(some 14), none, .load false 1 (.t 13)⟩, ⟨(some 4), none, .mv (.t 12)⟩, ⟨(some 5), none, .mv (.t 14)⟩])
    (.seq (.region [⟨(some 15), none, .mv (.t 5)⟩, ⟨(some 16), none, .bin .geq (.t 15) (.c (.int .u8 65))⟩, ⟨(some 17), none, .mv (.t 16)⟩, ⟨(some 18), (some (17, true)), .mv (.t 5)⟩, ⟨(some 19), (some (17, true)), .bin .leq (.t 18) (.c (.int .u8 90))⟩, ⟨(some 20), none, .pick (.t 17) (.t 19) (.c (.bool false))⟩])
    (.cond (.t 20)
      (.region [⟨(some 21), none, .mv (.t 3)⟩, ⟨(some 22), none, .mv (.t 4)⟩, ⟨(some 23), none, .mv (.t 5)⟩, ⟨(some 24), none, .bin .or (.t 23) (.c (.int .u8 32))⟩, ⟨(some 25), none, .ixaSl 1 (.t 21) (.t 22)⟩, ⟨none, none, .store 1 (.t 25) (.t 24)⟩])
      .skip))))
    (.region [⟨(some 26), none, .bin .add (.t 10) (.c (.int .i64 1))⟩, ⟨(some 10), none, .mv (.t 26)⟩])))))))
  (.seq (.region [⟨(some 27), none, .mv (.t 3)⟩, ⟨(some 28), none, .toStr (.t 27)⟩, ⟨(some 2), none, .mv (.t 28)⟩])
  .ret))))⟩
/-- gatepost/token.Split$1 -/
def c_token_Split_1 : FnC := ⟨19, [],
  (.seq (.seq (.region [⟨(some 6), none, .load false 1 (.t 1)⟩, ⟨(some 7), none, .load false 1 (.t 2)⟩, ⟨(some 8), none, .mv (.t 0)⟩, ⟨(some 9), none, .slstr (.t 6) (some (.t 7)) (some (.t 8))⟩, ⟨(some 10), none, .call i_token_Trim [(.t 9)]⟩, ⟨(some 5), none, .mv (.t 10)⟩])
  (.seq (.region [⟨(some 11), none, .mv (.t 5)⟩, ⟨(some 12), none, .bin .neq (.t 11) (.c (.str []))⟩])
  (.cond (.t 12)
    (.region [⟨(some 13), none, .load false 1 (.t 3)⟩, ⟨(some 14), none, .mv (.t 5)⟩, ⟨(some 15), none, .bsl 1 [(.t 14)]⟩, ⟨(some 16), none, .app 1 16 false (.t 13) (.t 15)⟩, ⟨none, none, .store 1 (.t 3) (.t 16)⟩])
    .skip)))
  (.region [⟨(some 17), none, .mv (.t 0)⟩, ⟨(some 18), none, .bin .add (.t 17) (.c (.int .i64 1))⟩, ⟨none, none, .store 1 (.t 2) (.t 18)⟩]))⟩
/-- gatepost/token.Trim -/
def c_token_Trim : FnC := ⟨5, [.tmp 2],
  (.seq (.region [⟨(some 2), none, .mv (.c (.str []))⟩])
  (.seq (.region [⟨(some 3), none, .mv (.t 0)⟩, ⟨(some 4), none, .call i_strings_Trim [(.t 3), (.c (.str [32, 9]))]⟩, ⟨(some 2), none, .mv (.t 4)⟩])
  .ret))⟩
/-- gatepost/ranges.one$1 -/
def c_ranges_one_1 : FnC := ⟨12, [.tmp 2],
  (.seq (.region [⟨(some 2), none, .mv (.c (.int .i64 0))⟩])
  (.seq (.seq (.region [⟨(some 6), none, .mv (.t 0)⟩, ⟨(some 7), none, .call i_token_Number [(.t 6), (.c (.int .i64 1099511627776))]⟩, ⟨(some 5), none, .mv (.t 7)⟩, ⟨(some 8), none, .ext 0 (.t 5)⟩, ⟨(some 9), none, .ext 1 (.t 5)⟩, ⟨(some 3), none, .mv (.t 8)⟩, ⟨(some 4), none, .mv (.t 9)⟩])
  (.seq (.region [⟨(some 10), none, .mv (.t 4)⟩])
  (.cond (.t 10)
    (.seq (.region [⟨(some 11), none, .mv (.t 3)⟩, ⟨(some 2), none, .mv (.t 11)⟩])
    .ret)
    .skip)))
  (.seq (.region [⟨(some 2), none, .mv (.c (.int .i64 (-1)))⟩])
  .ret)))⟩
/-- gatepost/gatepostref01.Trim -/
def c_gatepostref01_Trim : FnC := ⟨30, [.tmp 2],
  (.seq (.region [⟨(some 2), none, .mv (.c (.str []))⟩])
  (.seq (.block 0 (.loop
    (.seq (.seq (.region [⟨(some 3), none, .mv (.t 0)⟩, ⟨(some 4), none, .len 0 (.t 3)⟩, ⟨(some 5), none, .bin .gtr (.t 4) (.c (.int .i64 0))⟩, ⟨(some 6), none, .mv (.t 5)⟩, ⟨(some 7), (some (6, true)), .mv (.t 0)⟩, ⟨(some 8), (some (6, true)), .ixStr (.t 7) (.c (.int .i64 0))⟩, ⟨(some 9), (some (6, true)), .call i_gatepostref01_blank [(.t 8)]⟩, ⟨(some 10), none, .pick (.t 6) (.t 9) (.c (.bool false))⟩])
    (.cond (.t 10)
      .skip
      (.exit 0)))
    (.block 1 (.region [⟨(some 11), none, .mv (.t 0)⟩, ⟨(some 12), none, .slstr (.t 11) (some (.c (.int .i64 1))) none⟩, ⟨(some 0), none, .mv (.t 12)⟩])))))
  (.seq (.block 2 (.loop
    (.seq (.seq (.region [⟨(some 13), none, .mv (.t 0)⟩, ⟨(some 14), none, .len 0 (.t 13)⟩, ⟨(some 15), none, .bin .gtr (.t 14) (.c (.int .i64 0))⟩, ⟨(some 16), none, .mv (.t 15)⟩, ⟨(some 17), (some (16, true)), .mv (.t 0)⟩, ⟨(some 18), (some (16, true)), .mv (.t 0)⟩, ⟨(some 19), (some (16, true)), .len 0 (.t 18)⟩, ⟨(some 20), (some (16, true)), .bin .sub (.t 19) (.c (.int .i64 1))⟩, ⟨(some 21), (some (16, true)), .ixStr (.t 17) (.t 20)⟩, ⟨(some 22), (some (16, true)), .call i_gatepostref01_blank [(.t 21)]⟩, ⟨(some 23), none, .pick (.t 16) (.t 22) (.c (.bool false))⟩])
    (.cond (.t 23)
      .skip
      (.exit 2)))
    (.block 3 (.region [⟨(some 24), none, .mv (.t 0)⟩, ⟨(some 25), none, .mv (.t 0)⟩, ⟨(some 26), none, .len 0 (.t 25)⟩, ⟨(some 27), none, .bin .sub (.t 26) (.c (.int .i64 1))⟩, ⟨(some 28), none, .slstr (.t 24) none (some (.t 27))⟩, ⟨(some 0), none, .mv (.t 28)⟩])))))
  (.seq (.region [⟨(some 29), none, .mv (.t 0)⟩, ⟨(some 2), none, .mv (.t 29)⟩])
  .ret))))⟩
/-- internal/stringslite.HasPrefix -/
def c_internal_stringslite_HasPrefix : FnC := ⟨18, [.tmp 4],
  (.seq (.region [⟨(some 4), none, .mv (.c (.bool false))⟩])
  (.seq (.region [⟨(some 5), none, .mv (.t 0)⟩, ⟨(some 6), none, .len 0 (.t 5)⟩, ⟨(some 7), none, .mv (.t 1)⟩, ⟨(some 8), none, .len 0 (.t 7)⟩, ⟨(some 9), none, .bin .geq (.t 6) (.t 8)⟩, ⟨(some 10), none, .mv (.t 9)⟩, ⟨(some 11), (some (10, true)), .mv (.t 0)⟩, ⟨(some 12), (some (10, true)), .mv (.t 1)⟩, ⟨(some 13), (some (10, true)), .len 0 (.t 12)⟩, ⟨(some 14), (some (10, true)), .slstr (.t 11) none (some (.t 13))⟩, ⟨(some 15), (some (10, true)), .mv (.t 1)⟩, ⟨(some 16), (some (10, true)), .bin .eql (.t 14) (.t 15)⟩, ⟨(some 17), none, .pick (.t 10) (.t 16) (.c (.bool false))⟩, ⟨(some 4), none, .mv (.t 17)⟩])
  .ret))⟩
/-- strings.Trim -/
def c_strings_Trim : FnC := ⟨43, [.tmp 4],
  (.seq (.region [⟨(some 4), none, .mv (.c (.str []))⟩])
  (.seq (.seq (.region [⟨(some 7), none, .mv (.t 0)⟩, ⟨(some 8), none, .bin .eql (.t 7) (.c (.str []))⟩, ⟨(some 9), none, .mv (.t 8)⟩, ⟨(some 10), (some (9, false)), .mv (.t 1)⟩, ⟨(some 11), (some (9, false)), .bin .eql (.t 10) (.c (.str []))⟩, ⟨(some 12), none, .pick (.t 9) (.c (.bool true)) (.t 11)⟩])
  (.cond (.t 12)
    (.seq (.region [⟨(some 13), none, .mv (.t 0)⟩, ⟨(some 4), none, .mv (.t 13)⟩])
    .ret)
    .skip))
  (.seq (.seq (.region [⟨(some 14), none, .mv (.t 1)⟩, ⟨(some 15), none, .len 0 (.t 14)⟩, ⟨(some 16), none, .bin .eql (.t 15) (.c (.int .i64 1))⟩, ⟨(some 17), none, .mv (.t 16)⟩, ⟨(some 18), (some (17, true)), .mv (.t 1)⟩, ⟨(some 19), (some (17, true)), .ixStr (.t 18) (.c (.int .i64 0))⟩, ⟨(some 20), (some (17, true)), .bin .lss (.t 19) (.c (.int .u8 128))⟩, ⟨(some 21), none, .pick (.t 17) (.t 20) (.c (.bool false))⟩])
  (.cond (.t 21)
    (.seq (.dregion [⟨(some 22), none, .mv (.t 0)⟩, ⟨(some 23), none, .mv (.t 1)⟩, ⟨(some 24), none, .ixStr (.t 23) (.c (.int .i64 0))⟩, ⟨(some 25), none, .call i_strings_trimRightByte [(.t 22), (.t 24)]⟩, ⟨(some 26), none, .mv (.t 1)⟩, ⟨(some 27), none, .ixStr (.t 26) (.c (.int .i64 0))⟩] [⟨(some 28), none, .call i_strings_trimLeftByte [(.t 25), (.t 27)]⟩, ⟨(some 4), none, .mv (.t 28)⟩])
    .ret)
    .skip))
  (.seq (.seq (.region [⟨(some 30), none, .mv (.t 1)⟩, ⟨(some 31), none, .call i_strings_makeASCIISet [(.t 30)]⟩, ⟨(some 29), none, .mv (.t 31)⟩, ⟨(some 32), none, .ext 0 (.t 29)⟩, ⟨(some 33), none, .ext 1 (.t 29)⟩, ⟨(some 5), none, .boxz (List.replicate 256 (.bool false))⟩, ⟨none, none, .store 256 (.t 5) (.t 32)⟩, ⟨(some 6), none, .mv (.t 33)⟩])
  (.seq (.region [⟨(some 34), none, .mv (.t 6)⟩])
  (.cond (.t 34)
    (.seq (.region [⟨(some 35), none, .mv (.t 0)⟩, ⟨(some 36), none, .call i_strings_trimRightASCII [(.t 35), (.t 5)]⟩, ⟨(some 37), none, .call i_strings_trimLeftASCII [(.t 36), (.t 5)]⟩, ⟨(some 4), none, .mv (.t 37)⟩])
    .ret)
    .skip)))
  (.seq (.region [⟨(some 38), none, .mv (.t 0)⟩, ⟨(some 39), none, .mv (.t 1)⟩, ⟨(some 40), none, .call i_strings_trimRightUnicode [(.t 38), (.t 39)]⟩, ⟨(some 41), none, .mv (.t 1)⟩, ⟨(some 42), none, .call i_strings_trimLeftUnicode [(.t 40), (.t 41)]⟩, ⟨(some 4), none, .mv (.t 42)⟩])
  .ret)))))⟩
/-- gatepost/gatepostref01.blank -/
def c_gatepostref01_blank : FnC := ⟨9, [.tmp 2],
  (.seq (.region [⟨(some 2), none, .mv (.c (.bool false))⟩])
  (.seq (.region [⟨(some 3), none, .mv (.t 0)⟩, ⟨(some 4), none, .bin .eql (.t 3) (.c (.int .u8 32))⟩, ⟨(some 5), none, .mv (.t 4)⟩, ⟨(some 6), (some (5, false)), .mv (.t 0)⟩, ⟨(some 7), (some (5, false)), .bin .eql (.t 6) (.c (.int .u8 9))⟩, ⟨(some 8), none, .pick (.t 5) (.c (.bool true)) (.t 7)⟩, ⟨(some 2), none, .mv (.t 8)⟩])
  .ret))⟩
/-- strings.makeASCIISet -/
def c_strings_makeASCIISet : FnC := ⟨21, [.cell 2 true 256, .tmp 3],
  (.seq (.region [⟨(some 2), none, .boxz (List.replicate 256 (.bool false))⟩, ⟨(some 3), none, .mv (.c (.bool false))⟩])
  (.seq (.seq (.region [⟨(some 4), none, .mv (.c (.int .i64 0))⟩])
  (.block 0 (.loop
    (.seq (.seq (.region [⟨(some 6), none, .mv (.t 4)⟩, ⟨(some 7), none, .mv (.t 0)⟩, ⟨(some 8), none, .len 0 (.t 7)⟩, ⟨(some 9), none, .bin .lss (.t 6) (.t 8)⟩])
    (.cond (.t 9)
      .skip
      (.exit 0)))
    (.seq (.block 1 (.seq (.region [⟨(some 12), none, .mv (.t 0)⟩, ⟨(some 13), none, .mv (.t 4)⟩, ⟨(some 14), none, .ixStr (.t 12) (.t 13)⟩, ⟨(some 5), none, .mv (.t 14)⟩])
    (.seq (.seq (.region [⟨(some 15), none, .mv (.t 5)⟩, ⟨(some 16), none, .bin .geq (.t 15) (.c (.int .u8 128))⟩])
    (.cond (.t 16)
      (.seq (.region [⟨(some 17), none, .load true 256 (.t 2)⟩, ⟨none, none, .store 256 (.t 2) (.t 17)⟩, ⟨(some 3), none, .mv (.c (.bool false))⟩])
      .ret)
      .skip))
    (.region [⟨(some 18), none, .mv (.t 5)⟩, ⟨(some 19), none, .ixaArr 256 1 (.t 2) (.t 18)⟩, ⟨none, none, .store 1 (.t 19) (.c (.bool true))⟩]))))
    (.region [⟨(some 10), none, .mv (.t 4)⟩, ⟨(some 11), none, .bin .add (.t 10) (.c (.int .i64 1))⟩, ⟨(some 4), none, .mv (.t 11)⟩]))))))
  (.seq (.region [⟨(some 20), none, .load true 256 (.t 2)⟩, ⟨none, none, .store 256 (.t 2) (.t 20)⟩, ⟨(some 3), none, .mv (.c (.bool true))⟩])
  .ret)))⟩
/-- strings.trimLeftASCII -/
def c_strings_trimLeftASCII : FnC := ⟨16, [.tmp 4],
  (.seq (.region [⟨(some 4), none, .mv (.c (.str []))⟩])
  (.seq (.block 0 (.loop
    (.seq (.seq (.region [⟨(some 5), none, .mv (.t 0)⟩, ⟨(some 6), none, .len 0 (.t 5)⟩, ⟨(some 7), none, .bin .gtr (.t 6) (.c (.int .i64 0))⟩])
    (.cond (.t 7)
      .skip
      (.exit 0)))
    (.block 1 (.seq (.seq (.region [⟨(some 8), none, .mv (.t 1)⟩, ⟨(some 9), none, .mv (.t 0)⟩, ⟨(some 10), none, .ixStr (.t 9) (.c (.int .i64 0))⟩, ⟨(some 11), none, .call i___strings_asciiSet__contains [(.t 8), (.t 10)]⟩, ⟨(some 12), none, .un .not (.t 11)⟩])
    (.cond (.t 12)
      (.exit 0)
      .skip))
    (.region [⟨(some 13), none, .mv (.t 0)⟩, ⟨(some 14), none, .slstr (.t 13) (some (.c (.int .i64 1))) none⟩, ⟨(some 0), none, .mv (.t 14)⟩]))))))
  (.seq (.region [⟨(some 15), none, .mv (.t 0)⟩, ⟨(some 4), none, .mv (.t 15)⟩])
  .ret)))⟩
/-- strings.trimRightASCII -/
def c_strings_trimRightASCII : FnC := ⟨22, [.tmp 4],
  (.seq (.region [⟨(some 4), none, .mv (.c (.str []))⟩])
  (.seq (.block 0 (.loop
    (.seq (.seq (.region [⟨(some 5), none, .mv (.t 0)⟩, ⟨(some 6), none, .len 0 (.t 5)⟩, ⟨(some 7), none, .bin .gtr (.t 6) (.c (.int .i64 0))⟩])
    (.cond (.t 7)
      .skip
      (.exit 0)))
    (.block 1 (.seq (.seq (.region [⟨(some 8), none, .mv (.t 1)⟩, ⟨(some 9), none, .mv (.t 0)⟩, ⟨(some 10), none, .mv (.t 0)⟩, ⟨(some 11), none, .len 0 (.t 10)⟩, ⟨(some 12), none, .bin .sub (.t 11) (.c (.int .i64 1))⟩, ⟨(some 13), none, .ixStr (.t 9) (.t 12)⟩, ⟨(some 14), none, .call i___strings_asciiSet__contains [(.t 8), (.t 13)]⟩, ⟨(some 15), none, .un .not (.t 14)⟩])
    (.cond (.t 15)
      (.exit 0)
      .skip))
    (.region [⟨(some 16), none, .mv (.t 0)⟩, ⟨(some 17), none, .mv (.t 0)⟩, ⟨(some 18), none, .len 0 (.t 17)⟩, ⟨(some 19), none, .bin .sub (.t 18) (.c (.int .i64 1))⟩, ⟨(some 20), none, .slstr (.t 16) none (some (.t 19))⟩, ⟨(some 0), none, .mv (.t 20)⟩]))))))
  (.seq (.region [⟨(some 21), none, .mv (.t 0)⟩, ⟨(some 4), none, .mv (.t 21)⟩])
  .ret)))⟩
/-- (*strings.asciiSet).contains -/
def c___strings_asciiSet__contains : FnC := ⟨10, [.tmp 4],
  (.seq (.region [⟨(some 4), none, .mv (.c (.bool false))⟩])
  (.seq (.region [⟨(some 5), none, .mv (.t 0)⟩, ⟨(some 6), none, .mv (.t 1)⟩, ⟨(some 7), none, .nilck (.t 5)⟩, ⟨(some 8), none, .ixaArr 256 1 (.t 7) (.t 6)⟩, ⟨(some 9), none, .load false 1 (.t 8)⟩, ⟨(some 4), none, .mv (.t 9)⟩])
  .ret))⟩
def tab : List (FuncId × FnC) := [(i_gatepostlaw14_RangesContent, c_gatepostlaw14_RangesContent), (i_gatepostlaw14_RangesBack, c_gatepostlaw14_RangesBack), (i_gatepostlaw14_RangesTells, c_gatepostlaw14_RangesTells), (i_gatepostlaw14_RangesOne, c_gatepostlaw14_RangesOne), (i_gatepostlaw14_RangesMany, c_gatepostlaw14_RangesMany), (i_ranges_Content, c_ranges_Content), (i_gatepostref14_Content, c_gatepostref14_Content), (i_ranges_Read, c_ranges_Read), (i_gatepostref14_Read, c_gatepostref14_Read), (i_ranges_Resolve, c_ranges_Resolve), (i_ranges_Parse, c_ranges_Parse), (i_gatepostref14_Parse, c_gatepostref14_Parse), (i_gatepostref14_Resolve, c_gatepostref14_Resolve), (i_ranges_Pick, c_ranges_Pick), (i_gatepostref14_Pick, c_gatepostref14_Pick), (i_gatepostlaw14_number, c_gatepostlaw14_number), (i_ranges_may, c_ranges_may), (i_gatepostref14_right, c_gatepostref14_right), (i_gatepostref14_digits, c_gatepostref14_digits), (i_strings_CutPrefix, c_strings_CutPrefix), (i_strings_Cut, c_strings_Cut), (i_ranges_Read_1, c_ranges_Read_1), (i_token_Number, c_token_Number), (i_gatepostref01_Number, c_gatepostref01_Number), (i_ranges_fine, c_ranges_fine), (i_token_Same, c_token_Same), (i_token_Split, c_token_Split), (i_ranges_one, c_ranges_one), (i_gatepostref01_Lower, c_gatepostref01_Lower), (i_gatepostref01_Split, c_gatepostref01_Split), (i_gatepostref14_one, c_gatepostref14_one), (i_internal_stringslite_CutPrefix, c_internal_stringslite_CutPrefix), (i_internal_stringslite_Cut, c_internal_stringslite_Cut), (i_token_all, c_token_all), (i_token_Number_1, c_token_Number_1), (i_token_Lower, c_token_Lower), (i_token_Split_1, c_token_Split_1), (i_token_Trim, c_token_Trim), (i_ranges_one_1, c_ranges_one_1), (i_gatepostref01_Trim, c_gatepostref01_Trim), (i_internal_stringslite_HasPrefix, c_internal_stringslite_HasPrefix), (i_strings_Trim, c_strings_Trim), (i_gatepostref01_blank, c_gatepostref01_blank), (i_strings_makeASCIISet, c_strings_makeASCIISet), (i_strings_trimLeftASCII, c_strings_trimLeftASCII), (i_strings_trimRightASCII, c_strings_trimRightASCII), (i___strings_asciiSet__contains, c___strings_asciiSet__contains)]
def F (f : FuncId) : Option FnC := tab.lookup f
theorem F_gatepostlaw14_RangesContent : F i_gatepostlaw14_RangesContent = some c_gatepostlaw14_RangesContent := rfl
end Go.Proofs.YtlnhcdafagpfhaaDoor.Vh
