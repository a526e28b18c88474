/- The functions of a seat, compiled for the small machine. Printed by Print.lean. -/
import Derived.Test.YtbcnhkgiabobiaaDoorProg
import Derived.Test.YtbcnhkgiabobiaaDoorVmSet
import Derived.KernelRfl
set_option maxRecDepth 100000
set_option linter.unusedVariables false
namespace Go.Proofs.YtbcnhkgiabobiaaDoor.Vh
open Go.Vm
def i_main_main : FuncId := 0
def i_gosem_cut : FuncId := 1
def i_gosem_cut_init : FuncId := 2
def i_gatepostlaw03_LineWrites : FuncId := 3
def i_gatepostlaw03_LineReads : FuncId := 4
def i_gatepostlaw03_LineWords : FuncId := 5
def i_gatepostlaw03_LineBack : FuncId := 6
def i_line_RequestLine : FuncId := 7
def i_gatepostref03_RequestLine : FuncId := 8
def i_line_StatusLine : FuncId := 9
def i_gatepostref03_StatusLine : FuncId := 10
def i_line_Request : FuncId := 11
def i_gatepostref03_Request : FuncId := 12
def i_line_Status : FuncId := 13
def i_gatepostref03_Status : FuncId := 14
def i_gatepostlaw03_names : FuncId := 15
def i_token_Is : FuncId := 16
def i_line_isTarget : FuncId := 17
def i_line_isMinor : FuncId := 18
def i_line_fits : FuncId := 19
def i_strconv_Itoa : FuncId := 20
def i_gatepostref01_Is : FuncId := 21
def i_gatepostref03_target : FuncId := 22
def i_line_isReason : FuncId := 23
def i_gatepostref03_reason : FuncId := 24
def i_line_words : FuncId := 25
def i_line_version : FuncId := 26
def i_gatepostref03_version : FuncId := 27
def i_line_Status_1 : FuncId := 28
def i_strings_Cut : FuncId := 29
def i_token_Number : FuncId := 30
def i_gatepostref01_Number : FuncId := 31
def i_token_all : FuncId := 32
def i_token_inToken : FuncId := 33
def i_internal_strconv_Itoa : FuncId := 34
def i_gatepostref01_tchar : FuncId := 35
def i_strings_Split : FuncId := 36
def i_internal_stringslite_Cut : FuncId := 37
def i_token_Number_1 : FuncId := 38
def i_token_marks : FuncId := 39
def i_internal_strconv_FormatInt : FuncId := 40
def i_strings_genSplit : FuncId := 41
def i_internal_stringslite_Index : FuncId := 42
def i_internal_strconv_small : FuncId := 43
def i_internal_strconv_numDigits : FuncId := 44
def i_internal_strconv_formatBase10 : FuncId := 45
def i_internal_strconv_formatBits : FuncId := 46
def i_strings_explode : FuncId := 47
def i_strings_Count : FuncId := 48
def i_strings_Index : FuncId := 49
def i_internal_stringslite_IndexByte : FuncId := 50
def i_internal_bytealg_IndexString : FuncId := 51
def i_internal_bytealg_Cutover : FuncId := 52
def i_internal_bytealg_IndexRabinKarp_string_ : FuncId := 53
def i_internal_strconv_log10Pow2 : FuncId := 54
def i_math_bits_Len64 : FuncId := 55
def i_internal_strconv_bool2_int_ : FuncId := 56
def i_internal_strconv_isPowerOfTwo : FuncId := 57
def i_math_bits_TrailingZeros : FuncId := 58
def i_unicode_utf8_RuneCountInString : FuncId := 59
def i_unicode_utf8_DecodeRuneInString : FuncId := 60
def i_internal_bytealg_CountString : FuncId := 61
def i_internal_bytealg_IndexByteString : FuncId := 62
def i_internal_bytealg_hashStr_string_ : FuncId := 63
def i_math_bits_TrailingZeros32 : FuncId := 64
def i_math_bits_TrailingZeros64 : FuncId := 65
def i_unicode_utf8_decodeRuneInStringSlow : FuncId := 66
def i___runtime_TypeAssertionError__Error : FuncId := 75
def i___runtime_TypeAssertionError__RuntimeError : FuncId := 76
def i___runtime_PanicNilError__Error : FuncId := 77
def i___runtime_PanicNilError__RuntimeError : FuncId := 78
def i___internal_abi_Type__Align : FuncId := 79
def i__internal_runtime_maps_unhashableTypeError__Error : FuncId := 80
def i__internal_runtime_maps_unhashableTypeError__RuntimeError : FuncId := 81
def i__gatepost_api_Errno__Error : FuncId := 82
def i__internal_abi_Kind__String : FuncId := 83
def i_var_s_door__gosem_cut_vars_holds_initialisers_alone__see_the_manifest_s_row_cutvarsword__look_11__test_files_too_ : FuncId := 84
def i_var_s_door__internal_strconv_uint64pow10_is_laid_by_its_own_initialiser__plain_data__look_11_ : FuncId := 85
def i_var_s_door__math_bits_deBruijn32tab_is_laid_by_its_own_initialiser__plain_data__look_11_ : FuncId := 86
def i_var_s_door__math_bits_deBruijn64tab_is_laid_by_its_own_initialiser__plain_data__look_11_ : FuncId := 87
def i_var_s_door__the_look_of_gosem_cut_vars_went_over_the_folder_that_the_caller_named_as_the_repository_s_root__look_11_ : FuncId := 88
def i_var_s_door__unicode_utf8_acceptRanges_is_laid_by_its_own_initialiser__plain_data__look_11_ : FuncId := 89
def i_var_s_door__unicode_utf8_first_is_laid_by_its_text_alone__pinned_1_ : FuncId := 90
def i_gosem_cut_vars : FuncId := 91
/-- gatepost/gatepostlaw03.LineWrites -/
def c_gatepostlaw03_LineWrites : FnC := ⟨81, [.tmp 6],
  (.seq (.region [⟨(some 5), none, .box (.t 2)⟩, ⟨(some 6), none, .mv (.c (.bool false))⟩])
  (.seq (.region [⟨(some 18), none, .mv (.t 0)⟩, ⟨(some 19), none, .mv (.t 1)⟩, ⟨(some 20), none, .ixaArr 2 1 (.t 5) (.c (.int .i64 0))⟩, ⟨(some 21), none, .load false 1 (.t 20)⟩, ⟨(some 22), none, .call i_line_RequestLine [(.t 18), (.t 19), (.t 21)]⟩, ⟨(some 17), none, .mv (.t 22)⟩, ⟨(some 23), none, .ext 0 (.t 17)⟩, ⟨(some 24), none, .ext 1 (.t 17)⟩, ⟨(some 7), none, .mv (.t 23)⟩, ⟨(some 8), none, .mv (.t 24)⟩])
  (.seq (.region [⟨(some 26), none, .mv (.t 0)⟩, ⟨(some 27), none, .mv (.t 1)⟩, ⟨(some 28), none, .ixaArr 2 1 (.t 5) (.c (.int .i64 0))⟩, ⟨(some 29), none, .load false 1 (.t 28)⟩, ⟨(some 30), none, .call i_gatepostref03_RequestLine [(.t 26), (.t 27), (.t 29)]⟩, ⟨(some 25), none, .mv (.t 30)⟩, ⟨(some 31), none, .ext 0 (.t 25)⟩, ⟨(some 32), none, .ext 1 (.t 25)⟩, ⟨(some 9), none, .mv (.t 31)⟩, ⟨(some 10), none, .mv (.t 32)⟩])
  (.seq (.region [⟨(some 34), none, .ixaArr 2 1 (.t 5) (.c (.int .i64 0))⟩, ⟨(some 35), none, .load false 1 (.t 34)⟩, ⟨(some 36), none, .ixaArr 2 1 (.t 5) (.c (.int .i64 1))⟩, ⟨(some 37), none, .load false 1 (.t 36)⟩, ⟨(some 38), none, .mv (.t 0)⟩, ⟨(some 39), none, .call i_line_StatusLine [(.t 35), (.t 37), (.t 38)]⟩, ⟨(some 33), none, .mv (.t 39)⟩, ⟨(some 40), none, .ext 0 (.t 33)⟩, ⟨(some 41), none, .ext 1 (.t 33)⟩, ⟨(some 11), none, .mv (.t 40)⟩, ⟨(some 12), none, .mv (.t 41)⟩])
  (.seq (.region [⟨(some 43), none, .ixaArr 2 1 (.t 5) (.c (.int .i64 0))⟩, ⟨(some 44), none, .load false 1 (.t 43)⟩, ⟨(some 45), none, .ixaArr 2 1 (.t 5) (.c (.int .i64 1))⟩, ⟨(some 46), none, .load false 1 (.t 45)⟩, ⟨(some 47), none, .mv (.t 0)⟩, ⟨(some 48), none, .call i_gatepostref03_StatusLine [(.t 44), (.t 46), (.t 47)]⟩, ⟨(some 42), none, .mv (.t 48)⟩, ⟨(some 49), none, .ext 0 (.t 42)⟩, ⟨(some 50), none, .ext 1 (.t 42)⟩, ⟨(some 13), none, .mv (.t 49)⟩, ⟨(some 14), none, .mv (.t 50)⟩])
  (.seq (.region [⟨(some 52), none, .call i_line_StatusLine [(.c (.int .i64 1)), (.c (.int .i64 204)), (.c (.str []))]⟩, ⟨(some 51), none, .mv (.t 52)⟩, ⟨(some 53), none, .ext 0 (.t 51)⟩, ⟨(some 54), none, .ext 1 (.t 51)⟩, ⟨(some 15), none, .mv (.t 53)⟩, ⟨(some 16), none, .mv (.t 54)⟩])
  (.seq (.region [⟨(some 55), none, .mv (.t 7)⟩, ⟨(some 56), none, .mv (.t 9)⟩, ⟨(some 57), none, .bin .eql (.t 55) (.t 56)⟩, ⟨(some 58), none, .mv (.t 57)⟩, ⟨(some 59), (some (58, true)), .mv (.t 8)⟩, ⟨(some 60), (some (58, true)), .mv (.t 10)⟩, ⟨(some 61), (some (58, true)), .bin .eql (.t 59) (.t 60)⟩, ⟨(some 62), none, .pick (.t 58) (.t 61) (.c (.bool false))⟩, ⟨(some 63), none, .mv (.t 62)⟩, ⟨(some 64), (some (63, true)), .mv (.t 11)⟩, ⟨(some 65), (some (63, true)), .mv (.t 13)⟩, ⟨(some 66), (some (63, true)), .bin .eql (.t 64) (.t 65)⟩, ⟨(some 67), none, .pick (.t 63) (.t 66) (.c (.bool false))⟩, ⟨(some 68), none, .mv (.t 67)⟩, ⟨(some 69), (some (68, true)), .mv (.t 12)⟩, ⟨(some 70), (some (68, true)), .mv (.t 14)⟩, ⟨(some 71), (some (68, true)), .bin .eql (.t 69) (.t 70)⟩, ⟨(some 72), none, .pick (.t 68) (.t 71) (.c (.bool false))⟩, ⟨(some 73), none, .mv (.t 72)⟩, ⟨(some 74), (some (73, true)), .mv (.t 15)⟩, ⟨(some 75), (some (73, true)), .bin .eql (.t 74) (.c (.str [72, 84, 84, 80, 47, 49, 46, 49, 32, 50, 48, 52, 32]))⟩, ⟨(some 76), none, .pick (.t 73) (.t 75) (.c (.bool false))⟩, ⟨(some 77), none, .mv (.t 76)⟩, ⟨(some 78), (some (77, true)), .mv (.t 16)⟩, ⟨(some 79), (some (77, true)), .bin .eql (.t 78) (.c (.int .i64 0))⟩, ⟨(some 80), none, .pick (.t 77) (.t 79) (.c (.bool false))⟩, ⟨(some 6), none, .mv (.t 80)⟩])
  .ret)))))))⟩
/-- gatepost/gatepostlaw03.LineReads -/
def c_gatepostlaw03_LineReads : FnC := ⟨88, [.tmp 2],
  (.seq (.region [⟨(some 2), none, .mv (.c (.bool false))⟩])
  (.seq (.region [⟨(some 20), none, .mv (.t 0)⟩, ⟨(some 21), none, .call i_line_Request [(.t 20)]⟩, ⟨(some 19), none, .mv (.t 21)⟩, ⟨(some 22), none, .ext 0 (.t 19)⟩, ⟨(some 23), none, .ext 1 (.t 19)⟩, ⟨(some 24), none, .ext 2 (.t 19)⟩, ⟨(some 25), none, .ext 3 (.t 19)⟩, ⟨(some 3), none, .mv (.t 22)⟩, ⟨(some 4), none, .mv (.t 23)⟩, ⟨(some 5), none, .mv (.t 24)⟩, ⟨(some 6), none, .mv (.t 25)⟩])
  (.seq (.region [⟨(some 27), none, .mv (.t 0)⟩, ⟨(some 28), none, .call i_gatepostref03_Request [(.t 27)]⟩, ⟨(some 26), none, .mv (.t 28)⟩, ⟨(some 29), none, .ext 0 (.t 26)⟩, ⟨(some 30), none, .ext 1 (.t 26)⟩, ⟨(some 31), none, .ext 2 (.t 26)⟩, ⟨(some 32), none, .ext 3 (.t 26)⟩, ⟨(some 7), none, .mv (.t 29)⟩, ⟨(some 8), none, .mv (.t 30)⟩, ⟨(some 9), none, .mv (.t 31)⟩, ⟨(some 10), none, .mv (.t 32)⟩])
  (.seq (.region [⟨(some 34), none, .mv (.t 0)⟩, ⟨(some 35), none, .call i_line_Status [(.t 34)]⟩, ⟨(some 33), none, .mv (.t 35)⟩, ⟨(some 36), none, .ext 0 (.t 33)⟩, ⟨(some 37), none, .ext 1 (.t 33)⟩, ⟨(some 38), none, .ext 2 (.t 33)⟩, ⟨(some 39), none, .ext 3 (.t 33)⟩, ⟨(some 11), none, .mv (.t 36)⟩, ⟨(some 12), none, .mv (.t 37)⟩, ⟨(some 13), none, .mv (.t 38)⟩, ⟨(some 14), none, .mv (.t 39)⟩])
  (.seq (.region [⟨(some 41), none, .mv (.t 0)⟩, ⟨(some 42), none, .call i_gatepostref03_Status [(.t 41)]⟩, ⟨(some 40), none, .mv (.t 42)⟩, ⟨(some 43), none, .ext 0 (.t 40)⟩, ⟨(some 44), none, .ext 1 (.t 40)⟩, ⟨(some 45), none, .ext 2 (.t 40)⟩, ⟨(some 46), none, .ext 3 (.t 40)⟩, ⟨(some 15), none, .mv (.t 43)⟩, ⟨(some 16), none, .mv (.t 44)⟩, ⟨(some 17), none, .mv (.t 45)⟩, ⟨(some 18), none, .mv (.t 46)⟩])
  (.seq (.region [⟨(some 47), none, .mv (.t 3)⟩, ⟨(some 48), none, .mv (.t 7)⟩, ⟨(some 49), none, .bin .eql (.t 47) (.t 48)⟩, ⟨(some 50), none, .mv (.t 49)⟩, ⟨(some 51), (some (50, true)), .mv (.t 4)⟩, ⟨(some 52), (some (50, true)), .mv (.t 8)⟩, ⟨(some 53), (some (50, true)), .bin .eql (.t 51) (.t 52)⟩, ⟨(some 54), none, .pick (.t 50) (.t 53) (.c (.bool false))⟩, ⟨(some 55), none, .mv (.t 54)⟩, ⟨(some 56), (some (55, true)), .mv (.t 5)⟩, ⟨(some 57), (some (55, true)), .mv (.t 9)⟩, ⟨(some 58), (some (55, true)), .bin .eql (.t 56) (.t 57)⟩, ⟨(some 59), none, .pick (.t 55) (.t 58) (.c (.bool false))⟩, ⟨(some 60), none, .mv (.t 59)⟩, ⟨(some 61), (some (60, true)), .mv (.t 6)⟩, ⟨(some 62), (some (60, true)), .mv (.t 10)⟩, ⟨(some 63), (some (60, true)), .bin .eql (.t 61) (.t 62)⟩, ⟨(some 64), none, .pick (.t 60) (.t 63) (.c (.bool false))⟩, ⟨(some 65), none, .mv (.t 64)⟩, ⟨(some 66), (some (65, true)), .mv (.t 11)⟩, ⟨(some 67), (some (65, true)), .mv (.t 15)⟩, ⟨(some 68), (some (65, true)), .bin .eql (.t 66) (.t 67)⟩, ⟨(some 69), none, .pick (.t 65) (.t 68) (.c (.bool false))⟩, ⟨(some 70), none, .mv (.t 69)⟩, ⟨(some 71), (some (70, true)), .mv (.t 12)⟩, ⟨(some 72), (some (70, true)), .mv (.t 16)⟩, ⟨(some 73), (some (70, true)), .bin .eql (.t 71) (.t 72)⟩, ⟨(some 74), none, .pick (.t 70) (.t 73) (.c (.bool false))⟩, ⟨(some 75), none, .mv (.t 74)⟩, ⟨(some 76), (some (75, true)), .mv (.t 13)⟩, ⟨(some 77), (some (75, true)), .mv (.t 17)⟩, ⟨(some 78), (some (75, true)), .bin .eql (.t 76) (.t 77)⟩, ⟨(some 79), none, .pick (.t 75) (.t 78) (.c (.bool false))⟩, ⟨(some 80), none, .mv (.t 79)⟩, ⟨(some 81), (some (80, true)), .mv (.t 14)⟩, ⟨(some 82), (some (80, true)), .mv (.t 18)⟩, ⟨(some 83), (some (80, true)), .bin .eql (.t 81) (.t 82)⟩, ⟨(some 84), none, .pick (.t 80) (.t 83) (.c (.bool false))⟩, ⟨(some 85), none, .mv (.t 84)⟩, ⟨(some 86), (some (85, true)), .call i_gatepostlaw03_names []⟩, ⟨(some 87), none, .pick (.t 85) (.t 86) (.c (.bool false))⟩, ⟨(some 2), none, .mv (.t 87)⟩])
  .ret))))))⟩
/-- gatepost/gatepostlaw03.LineWords -/
def c_gatepostlaw03_LineWords : FnC := ⟨118, [.tmp 4],
  (.seq (.region [⟨(some 4), none, .mv (.c (.bool false))⟩])
  (.seq (.region [⟨(some 19), none, .mv (.t 0)⟩, ⟨(some 20), none, .bin .and (.t 19) (.c (.int .i64 7))⟩, ⟨(some 0), none, .mv (.t 20)⟩])
  (.seq (.region [⟨(some 21), none, .mv (.t 1)⟩, ⟨(some 22), none, .bin .and (.t 21) (.c (.int .i64 511))⟩, ⟨(some 23), none, .bin .rem (.t 22) (.c (.int .i64 500))⟩, ⟨(some 24), none, .bin .add (.c (.int .i64 100)) (.t 23)⟩, ⟨(some 1), none, .mv (.t 24)⟩])
  (.seq (.region [⟨(some 5), none, .mv (.c (.str [71, 69, 84]))⟩])
  (.seq (.seq (.region [⟨(some 6), none, .mv (.c (.int .i64 1))⟩])
  (.block 0 (.loop
    (.seq (.seq (.region [⟨(some 25), none, .mv (.t 6)⟩, ⟨(some 26), none, .mv (.t 0)⟩, ⟨(some 27), none, .bin .sub (.t 26) (.c (.int .i64 1))⟩, ⟨(some 28), none, .bin .lss (.t 25) (.t 27)⟩])
    (.cond (.t 28)
      .skip
      (.exit 0)))
    (.seq (.block 1 (.region [⟨(some 31), none, .mv (.t 5)⟩, ⟨(some 32), none, .bin .add (.t 31) (.c (.str [32, 47]))⟩, ⟨(some 5), none, .mv (.t 32)⟩]))
    (.region [⟨(some 29), none, .mv (.t 6)⟩, ⟨(some 30), none, .bin .add (.t 29) (.c (.int .i64 1))⟩, ⟨(some 6), none, .mv (.t 30)⟩]))))))
  (.seq (.region [⟨(some 33), none, .mv (.t 5)⟩, ⟨(some 34), none, .bin .add (.t 33) (.c (.str [32, 72, 84, 84, 80, 47, 49, 46, 49]))⟩, ⟨(some 5), none, .mv (.t 34)⟩])
  (.seq (.region [⟨(some 36), none, .mv (.t 5)⟩, ⟨(some 37), none, .call i_line_Request [(.t 36)]⟩, ⟨(some 35), none, .mv (.t 37)⟩, ⟨(some 38), none, .ext 0 (.t 35)⟩, ⟨(some 39), none, .ext 1 (.t 35)⟩, ⟨(some 40), none, .ext 2 (.t 35)⟩, ⟨(some 41), none, .ext 3 (.t 35)⟩, ⟨(some 7), none, .mv (.t 38)⟩, ⟨(some 8), none, .mv (.t 39)⟩, ⟨(some 9), none, .mv (.t 40)⟩, ⟨(some 10), none, .mv (.t 41)⟩])
  (.seq (.seq (.region [⟨(some 42), none, .mv (.t 10)⟩, ⟨(some 43), none, .bin .eql (.t 42) (.c (.int .i64 0))⟩, ⟨(some 44), none, .mv (.t 0)⟩, ⟨(some 45), none, .bin .eql (.t 44) (.c (.int .i64 3))⟩, ⟨(some 46), none, .eq .bool true (.t 43) (.t 45)⟩, ⟨(some 47), none, .mv (.t 46)⟩, ⟨(some 48), (some (47, false)), .mv (.t 10)⟩, ⟨(some 49), (some (47, false)), .bin .neq (.t 48) (.c (.int .i64 0))⟩, ⟨(some 50), (some (47, false)), .mv (.t 49)⟩, ⟨(some 51), (some (50, true)), .mv (.t 10)⟩, ⟨(some 52), (some (50, true)), .bin .neq (.t 51) (.c (.int .i64 30))⟩, ⟨(some 53), (some (47, false)), .pick (.t 50) (.t 52) (.c (.bool false))⟩, ⟨(some 54), none, .pick (.t 47) (.c (.bool true)) (.t 53)⟩])
  (.cond (.t 54)
    (.seq (.region [⟨(some 4), none, .mv (.c (.bool false))⟩])
    .ret)
    .skip))
  (.seq (.region [⟨(some 55), none, .mv (.t 1)⟩, ⟨(some 56), none, .bin .quo (.t 55) (.c (.int .i64 100))⟩, ⟨(some 57), none, .bin .add (.c (.int .i64 48)) (.t 56)⟩, ⟨(some 58), none, .toInt .u8 (.t 57)⟩, ⟨(some 59), none, .mv (.t 1)⟩, ⟨(some 60), none, .bin .quo (.t 59) (.c (.int .i64 10))⟩, ⟨(some 61), none, .bin .rem (.t 60) (.c (.int .i64 10))⟩, ⟨(some 62), none, .bin .add (.c (.int .i64 48)) (.t 61)⟩, ⟨(some 63), none, .toInt .u8 (.t 62)⟩, ⟨(some 64), none, .mv (.t 1)⟩, ⟨(some 65), none, .bin .rem (.t 64) (.c (.int .i64 10))⟩, ⟨(some 66), none, .bin .add (.c (.int .i64 48)) (.t 65)⟩, ⟨(some 67), none, .toInt .u8 (.t 66)⟩, ⟨(some 68), none, .bsl 1 [(.t 58), (.t 63), (.t 67)]⟩, ⟨(some 69), none, .toStr (.t 68)⟩, ⟨(some 70), none, .bin .add (.c (.str [72, 84, 84, 80, 47, 49, 46, 48, 32])) (.t 69)⟩, ⟨(some 11), none, .mv (.t 70)⟩])
  (.seq (.region [⟨(some 72), none, .mv (.t 11)⟩, ⟨(some 73), none, .call i_line_Status [(.t 72)]⟩, ⟨(some 71), none, .mv (.t 73)⟩, ⟨(some 74), none, .ext 0 (.t 71)⟩, ⟨(some 75), none, .ext 1 (.t 71)⟩, ⟨(some 76), none, .ext 2 (.t 71)⟩, ⟨(some 77), none, .ext 3 (.t 71)⟩, ⟨(some 12), none, .mv (.t 74)⟩, ⟨(some 13), none, .mv (.t 75)⟩, ⟨(some 14), none, .mv (.t 76)⟩, ⟨(some 10), none, .mv (.t 77)⟩])
  (.seq (.region [⟨(some 79), none, .mv (.t 11)⟩, ⟨(some 80), none, .bin .add (.t 79) (.c (.str [32, 97, 32, 98, 32, 99]))⟩, ⟨(some 81), none, .call i_line_Status [(.t 80)]⟩, ⟨(some 78), none, .mv (.t 81)⟩, ⟨(some 82), none, .ext 0 (.t 78)⟩, ⟨(some 83), none, .ext 1 (.t 78)⟩, ⟨(some 84), none, .ext 2 (.t 78)⟩, ⟨(some 85), none, .ext 3 (.t 78)⟩, ⟨(some 15), none, .mv (.t 82)⟩, ⟨(some 16), none, .mv (.t 83)⟩, ⟨(some 17), none, .mv (.t 84)⟩, ⟨(some 18), none, .mv (.t 85)⟩])
  (.seq (.region [⟨(some 86), none, .mv (.t 10)⟩, ⟨(some 87), none, .bin .eql (.t 86) (.c (.int .i64 0))⟩, ⟨(some 88), none, .mv (.t 87)⟩, ⟨(some 89), (some (88, true)), .mv (.t 18)⟩, ⟨(some 90), (some (88, true)), .bin .eql (.t 89) (.c (.int .i64 0))⟩, ⟨(some 91), none, .pick (.t 88) (.t 90) (.c (.bool false))⟩, ⟨(some 92), none, .mv (.t 91)⟩, ⟨(some 93), (some (92, true)), .mv (.t 12)⟩, ⟨(some 94), (some (92, true)), .bin .eql (.t 93) (.c (.int .i64 0))⟩, ⟨(some 95), none, .pick (.t 92) (.t 94) (.c (.bool false))⟩, ⟨(some 96), none, .mv (.t 95)⟩, ⟨(some 97), (some (96, true)), .mv (.t 13)⟩, ⟨(some 98), (some (96, true)), .mv (.t 1)⟩, ⟨(some 99), (some (96, true)), .bin .eql (.t 97) (.t 98)⟩, ⟨(some 100), none, .pick (.t 96) (.t 99) (.c (.bool false))⟩, ⟨(some 101), none, .mv (.t 100)⟩, ⟨(some 102), (some (101, true)), .mv (.t 14)⟩, ⟨(some 103), (some (101, true)), .bin .eql (.t 102) (.c (.str []))⟩, ⟨(some 104), none, .pick (.t 101) (.t 103) (.c (.bool false))⟩, ⟨(some 105), none, .mv (.t 104)⟩, ⟨(some 106), (some (105, true)), .mv (.t 15)⟩, ⟨(some 107), (some (105, true)), .bin .eql (.t 106) (.c (.int .i64 0))⟩, ⟨(some 108), none, .pick (.t 105) (.t 107) (.c (.bool false))⟩, ⟨(some 109), none, .mv (.t 108)⟩, ⟨(some 110), (some (109, true)), .mv (.t 16)⟩, ⟨(some 111), (some (109, true)), .mv (.t 1)⟩, ⟨(some 112), (some (109, true)), .bin .eql (.t 110) (.t 111)⟩, ⟨(some 113), none, .pick (.t 109) (.t 112) (.c (.bool false))⟩, ⟨(some 114), none, .mv (.t 113)⟩, ⟨(some 115), (some (114, true)), .mv (.t 17)⟩, ⟨(some 116), (some (114, true)), .bin .eql (.t 115) (.c (.str [97, 32, 98, 32, 99]))⟩, ⟨(some 117), none, .pick (.t 114) (.t 116) (.c (.bool false))⟩, ⟨(some 4), none, .mv (.t 117)⟩])
  .ret))))))))))))⟩
/-- gatepost/gatepostlaw03.LineBack -/
def c_gatepostlaw03_LineBack : FnC := ⟨136, [.tmp 6],
  (.seq (.region [⟨(some 5), none, .box (.t 2)⟩, ⟨(some 6), none, .mv (.c (.bool false))⟩])
  (.seq (.seq (.region [⟨(some 30), none, .mv (.t 0)⟩, ⟨(some 31), none, .mv (.t 1)⟩, ⟨(some 32), none, .ixaArr 2 1 (.t 5) (.c (.int .i64 0))⟩, ⟨(some 33), none, .load false 1 (.t 32)⟩, ⟨(some 34), none, .call i_line_RequestLine [(.t 30), (.t 31), (.t 33)]⟩, ⟨(some 29), none, .mv (.t 34)⟩, ⟨(some 35), none, .ext 0 (.t 29)⟩, ⟨(some 36), none, .ext 1 (.t 29)⟩, ⟨(some 7), none, .mv (.t 35)⟩, ⟨(some 8), none, .mv (.t 36)⟩])
  (.seq (.region [⟨(some 37), none, .mv (.t 8)⟩, ⟨(some 38), none, .bin .eql (.t 37) (.c (.int .i64 0))⟩])
  (.cond (.t 38)
    (.seq (.region [⟨(some 40), none, .mv (.t 7)⟩, ⟨(some 41), none, .call i_line_Request [(.t 40)]⟩, ⟨(some 39), none, .mv (.t 41)⟩, ⟨(some 42), none, .ext 0 (.t 39)⟩, ⟨(some 43), none, .ext 1 (.t 39)⟩, ⟨(some 44), none, .ext 2 (.t 39)⟩, ⟨(some 45), none, .ext 3 (.t 39)⟩, ⟨(some 9), none, .mv (.t 42)⟩, ⟨(some 10), none, .mv (.t 43)⟩, ⟨(some 11), none, .mv (.t 44)⟩, ⟨(some 12), none, .mv (.t 45)⟩])
    (.seq (.region [⟨(some 46), none, .mv (.t 12)⟩, ⟨(some 47), none, .bin .neq (.t 46) (.c (.int .i64 0))⟩, ⟨(some 48), none, .mv (.t 47)⟩, ⟨(some 49), (some (48, false)), .mv (.t 9)⟩, ⟨(some 50), (some (48, false)), .mv (.t 0)⟩, ⟨(some 51), (some (48, false)), .bin .neq (.t 49) (.t 50)⟩, ⟨(some 52), none, .pick (.t 48) (.c (.bool true)) (.t 51)⟩, ⟨(some 53), none, .mv (.t 52)⟩, ⟨(some 54), (some (53, false)), .mv (.t 10)⟩, ⟨(some 55), (some (53, false)), .mv (.t 1)⟩, ⟨(some 56), (some (53, false)), .bin .neq (.t 54) (.t 55)⟩, ⟨(some 57), none, .pick (.t 53) (.c (.bool true)) (.t 56)⟩, ⟨(some 58), none, .mv (.t 57)⟩, ⟨(some 59), (some (58, false)), .mv (.t 11)⟩, ⟨(some 60), (some (58, false)), .ixaArr 2 1 (.t 5) (.c (.int .i64 0))⟩, ⟨(some 61), (some (58, false)), .load false 1 (.t 60)⟩, ⟨(some 62), (some (58, false)), .bin .neq (.t 59) (.t 61)⟩, ⟨(some 63), none, .pick (.t 58) (.c (.bool true)) (.t 62)⟩])
    (.cond (.t 63)
      (.seq (.region [⟨(some 6), none, .mv (.c (.bool false))⟩])
      .ret)
      .skip)))
    .skip)))
  (.seq (.seq (.region [⟨(some 65), none, .ixaArr 2 1 (.t 5) (.c (.int .i64 0))⟩, ⟨(some 66), none, .load false 1 (.t 65)⟩, ⟨(some 67), none, .ixaArr 2 1 (.t 5) (.c (.int .i64 1))⟩, ⟨(some 68), none, .load false 1 (.t 67)⟩, ⟨(some 69), none, .mv (.t 1)⟩, ⟨(some 70), none, .call i_line_StatusLine [(.t 66), (.t 68), (.t 69)]⟩, ⟨(some 64), none, .mv (.t 70)⟩, ⟨(some 71), none, .ext 0 (.t 64)⟩, ⟨(some 72), none, .ext 1 (.t 64)⟩, ⟨(some 13), none, .mv (.t 71)⟩, ⟨(some 14), none, .mv (.t 72)⟩])
  (.seq (.region [⟨(some 73), none, .mv (.t 14)⟩, ⟨(some 74), none, .bin .eql (.t 73) (.c (.int .i64 0))⟩])
  (.cond (.t 74)
    (.seq (.region [⟨(some 76), none, .mv (.t 13)⟩, ⟨(some 77), none, .call i_line_Status [(.t 76)]⟩, ⟨(some 75), none, .mv (.t 77)⟩, ⟨(some 78), none, .ext 0 (.t 75)⟩, ⟨(some 79), none, .ext 1 (.t 75)⟩, ⟨(some 80), none, .ext 2 (.t 75)⟩, ⟨(some 81), none, .ext 3 (.t 75)⟩, ⟨(some 15), none, .mv (.t 78)⟩, ⟨(some 16), none, .mv (.t 79)⟩, ⟨(some 17), none, .mv (.t 80)⟩, ⟨(some 18), none, .mv (.t 81)⟩])
    (.seq (.region [⟨(some 82), none, .mv (.t 18)⟩, ⟨(some 83), none, .bin .neq (.t 82) (.c (.int .i64 0))⟩, ⟨(some 84), none, .mv (.t 83)⟩, ⟨(some 85), (some (84, false)), .mv (.t 15)⟩, ⟨(some 86), (some (84, false)), .ixaArr 2 1 (.t 5) (.c (.int .i64 0))⟩, ⟨(some 87), (some (84, false)), .load false 1 (.t 86)⟩, ⟨(some 88), (some (84, false)), .bin .neq (.t 85) (.t 87)⟩, ⟨(some 89), none, .pick (.t 84) (.c (.bool true)) (.t 88)⟩, ⟨(some 90), none, .mv (.t 89)⟩, ⟨(some 91), (some (90, false)), .mv (.t 16)⟩, ⟨(some 92), (some (90, false)), .ixaArr 2 1 (.t 5) (.c (.int .i64 1))⟩, ⟨(some 93), (some (90, false)), .load false 1 (.t 92)⟩, ⟨(some 94), (some (90, false)), .bin .neq (.t 91) (.t 93)⟩, ⟨(some 95), none, .pick (.t 90) (.c (.bool true)) (.t 94)⟩, ⟨(some 96), none, .mv (.t 95)⟩, ⟨(some 97), (some (96, false)), .mv (.t 17)⟩, ⟨(some 98), (some (96, false)), .mv (.t 1)⟩, ⟨(some 99), (some (96, false)), .bin .neq (.t 97) (.t 98)⟩, ⟨(some 100), none, .pick (.t 96) (.c (.bool true)) (.t 99)⟩])
    (.cond (.t 100)
      (.seq (.region [⟨(some 6), none, .mv (.c (.bool false))⟩])
      .ret)
      .skip)))
    .skip)))
  (.seq (.region [⟨(some 102), none, .mv (.t 0)⟩, ⟨(some 103), none, .call i_line_Request [(.t 102)]⟩, ⟨(some 101), none, .mv (.t 103)⟩, ⟨(some 104), none, .ext 0 (.t 101)⟩, ⟨(some 105), none, .ext 1 (.t 101)⟩, ⟨(some 106), none, .ext 2 (.t 101)⟩, ⟨(some 107), none, .ext 3 (.t 101)⟩, ⟨(some 19), none, .mv (.t 104)⟩, ⟨(some 20), none, .mv (.t 105)⟩, ⟨(some 21), none, .mv (.t 106)⟩, ⟨(some 22), none, .mv (.t 107)⟩])
  (.seq (.seq (.region [⟨(some 108), none, .mv (.t 22)⟩, ⟨(some 109), none, .bin .eql (.t 108) (.c (.int .i64 0))⟩])
  (.cond (.t 109)
    (.seq (.region [⟨(some 111), none, .mv (.t 19)⟩, ⟨(some 112), none, .mv (.t 20)⟩, ⟨(some 113), none, .mv (.t 21)⟩, ⟨(some 114), none, .call i_line_RequestLine [(.t 111), (.t 112), (.t 113)]⟩, ⟨(some 110), none, .mv (.t 114)⟩, ⟨(some 115), none, .ext 0 (.t 110)⟩, ⟨(some 116), none, .ext 1 (.t 110)⟩, ⟨(some 23), none, .mv (.t 115)⟩, ⟨(some 24), none, .mv (.t 116)⟩])
    (.seq (.region [⟨(some 117), none, .mv (.t 24)⟩, ⟨(some 118), none, .bin .eql (.t 117) (.c (.int .i64 0))⟩, ⟨(some 119), none, .mv (.t 118)⟩, ⟨(some 120), (some (119, true)), .mv (.t 23)⟩, ⟨(some 121), (some (119, true)), .mv (.t 0)⟩, ⟨(some 122), (some (119, true)), .bin .eql (.t 120) (.t 121)⟩, ⟨(some 123), none, .pick (.t 119) (.t 122) (.c (.bool false))⟩, ⟨(some 6), none, .mv (.t 123)⟩])
    .ret))
    .skip))
  (.seq (.region [⟨(some 125), none, .call i_line_Request [(.c (.str [71, 69, 84, 32, 47, 32, 72, 84, 84, 80, 47, 49, 46, 48]))]⟩, ⟨(some 124), none, .mv (.t 125)⟩, ⟨(some 126), none, .ext 0 (.t 124)⟩, ⟨(some 127), none, .ext 1 (.t 124)⟩, ⟨(some 128), none, .ext 2 (.t 124)⟩, ⟨(some 129), none, .ext 3 (.t 124)⟩, ⟨(some 25), none, .mv (.t 126)⟩, ⟨(some 26), none, .mv (.t 127)⟩, ⟨(some 27), none, .mv (.t 128)⟩, ⟨(some 28), none, .mv (.t 129)⟩])
  (.seq (.region [⟨(some 130), none, .mv (.t 25)⟩, ⟨(some 131), none, .bin .eql (.t 130) (.c (.str [71, 69, 84]))⟩, ⟨(some 132), none, .mv (.t 131)⟩, ⟨(some 133), (some (132, true)), .mv (.t 28)⟩, ⟨(some 134), (some (132, true)), .bin .eql (.t 133) (.c (.int .i64 0))⟩, ⟨(some 135), none, .pick (.t 132) (.t 134) (.c (.bool false))⟩, ⟨(some 6), none, .mv (.t 135)⟩])
  .ret)))))))⟩
/-- gatepost/line.RequestLine -/
def c_line_RequestLine : FnC := ⟨33, [.tmp 6, .tmp 7],
  (.seq (.region [⟨(some 6), none, .mv (.c (.str []))⟩, ⟨(some 7), none, .mv (.c (.int .i64 0))⟩])
  (.seq (.seq (.region [⟨(some 8), none, .mv (.t 0)⟩, ⟨(some 9), none, .call i_token_Is [(.t 8)]⟩, ⟨(some 10), none, .un .not (.t 9)⟩, ⟨(some 11), none, .mv (.t 10)⟩, ⟨(some 12), (some (11, false)), .mv (.t 1)⟩, ⟨(some 13), (some (11, false)), .call i_line_isTarget [(.t 12)]⟩, ⟨(some 14), (some (11, false)), .un .not (.t 13)⟩, ⟨(some 15), none, .pick (.t 11) (.c (.bool true)) (.t 14)⟩, ⟨(some 16), none, .mv (.t 15)⟩, ⟨(some 17), (some (16, false)), .mv (.t 2)⟩, ⟨(some 18), (some (16, false)), .call i_line_isMinor [(.t 17)]⟩, ⟨(some 19), (some (16, false)), .un .not (.t 18)⟩, ⟨(some 20), none, .pick (.t 16) (.c (.bool true)) (.t 19)⟩])
  (.cond (.t 20)
    (.seq (.region [⟨(some 6), none, .mv (.c (.str []))⟩, ⟨(some 7), none, .mv (.c (.int .i64 2))⟩])
    .ret)
    .skip))
  (.seq (.region [⟨(some 21), none, .mv (.t 0)⟩, ⟨(some 22), none, .bin .add (.t 21) (.c (.str [32]))⟩, ⟨(some 23), none, .mv (.t 1)⟩, ⟨(some 24), none, .bin .add (.t 22) (.t 23)⟩, ⟨(some 25), none, .bin .add (.t 24) (.c (.str [32]))⟩, ⟨(some 26), none, .bin .add (.t 25) (.c (.str [72, 84, 84, 80, 47, 49, 46]))⟩, ⟨(some 27), none, .mv (.t 2)⟩, ⟨(some 28), none, .call i_strconv_Itoa [(.t 27)]⟩, ⟨(some 29), none, .bin .add (.t 26) (.t 28)⟩, ⟨(some 30), none, .call i_line_fits [(.t 29)]⟩, ⟨(some 31), none, .ext 0 (.t 30)⟩, ⟨(some 32), none, .ext 1 (.t 30)⟩, ⟨(some 6), none, .mv (.t 31)⟩, ⟨(some 7), none, .mv (.t 32)⟩])
  .ret)))⟩
/-- gatepost/gatepostref03.RequestLine -/
def c_gatepostref03_RequestLine : FnC := ⟨39, [.tmp 6, .tmp 7],
  (.seq (.region [⟨(some 6), none, .mv (.c (.str []))⟩, ⟨(some 7), none, .mv (.c (.int .i64 0))⟩])
  (.seq (.seq (.region [⟨(some 9), none, .mv (.t 0)⟩, ⟨(some 10), none, .call i_gatepostref01_Is [(.t 9)]⟩, ⟨(some 11), none, .un .not (.t 10)⟩, ⟨(some 12), none, .mv (.t 11)⟩, ⟨(some 13), (some (12, false)), .mv (.t 1)⟩, ⟨(some 14), (some (12, false)), .call i_gatepostref03_target [(.t 13)]⟩, ⟨(some 15), (some (12, false)), .un .not (.t 14)⟩, ⟨(some 16), none, .pick (.t 12) (.c (.bool true)) (.t 15)⟩, ⟨(some 17), none, .mv (.t 16)⟩, ⟨(some 18), (some (17, false)), .mv (.t 2)⟩, ⟨(some 19), (some (17, false)), .bin .lss (.t 18) (.c (.int .i64 0))⟩, ⟨(some 20), none, .pick (.t 17) (.c (.bool true)) (.t 19)⟩, ⟨(some 21), none, .mv (.t 20)⟩, ⟨(some 22), (some (21, false)), .mv (.t 2)⟩, ⟨(some 23), (some (21, false)), .bin .gtr (.t 22) (.c (.int .i64 1))⟩, ⟨(some 24), none, .pick (.t 21) (.c (.bool true)) (.t 23)⟩])
  (.cond (.t 24)
    (.seq (.region [⟨(some 6), none, .mv (.c (.str []))⟩, ⟨(some 7), none, .mv (.c (.int .i64 2))⟩])
    .ret)
    .skip))
  (.seq (.region [⟨(some 25), none, .mv (.t 0)⟩, ⟨(some 26), none, .bin .add (.t 25) (.c (.str [32]))⟩, ⟨(some 27), none, .mv (.t 1)⟩, ⟨(some 28), none, .bin .add (.t 26) (.t 27)⟩, ⟨(some 29), none, .bin .add (.t 28) (.c (.str [32, 72, 84, 84, 80, 47, 49, 46]))⟩, ⟨(some 30), none, .mv (.t 2)⟩, ⟨(some 31), none, .mv (.t 2)⟩, ⟨(some 32), none, .bin .add (.t 31) (.c (.int .i64 1))⟩, ⟨(some 33), none, .slstr (.c (.str [48, 49])) (some (.t 30)) (some (.t 32))⟩, ⟨(some 34), none, .bin .add (.t 29) (.t 33)⟩, ⟨(some 8), none, .mv (.t 34)⟩])
  (.seq (.seq (.region [⟨(some 35), none, .mv (.t 8)⟩, ⟨(some 36), none, .len 0 (.t 35)⟩, ⟨(some 37), none, .bin .gtr (.t 36) (.c (.int .i64 1024))⟩])
  (.cond (.t 37)
    (.seq (.region [⟨(some 6), none, .mv (.c (.str []))⟩, ⟨(some 7), none, .mv (.c (.int .i64 3))⟩])
    .ret)
    .skip))
  (.seq (.region [⟨(some 38), none, .mv (.t 8)⟩, ⟨(some 6), none, .mv (.t 38)⟩, ⟨(some 7), none, .mv (.c (.int .i64 0))⟩])
  .ret)))))⟩
/-- gatepost/line.StatusLine -/
def c_line_StatusLine : FnC := ⟨37, [.tmp 6, .tmp 7],
  (.seq (.region [⟨(some 6), none, .mv (.c (.str []))⟩, ⟨(some 7), none, .mv (.c (.int .i64 0))⟩])
  (.seq (.seq (.region [⟨(some 8), none, .mv (.t 0)⟩, ⟨(some 9), none, .call i_line_isMinor [(.t 8)]⟩, ⟨(some 10), none, .un .not (.t 9)⟩, ⟨(some 11), none, .mv (.t 10)⟩, ⟨(some 12), (some (11, false)), .mv (.t 1)⟩, ⟨(some 13), (some (11, false)), .bin .lss (.t 12) (.c (.int .i64 100))⟩, ⟨(some 14), none, .pick (.t 11) (.c (.bool true)) (.t 13)⟩, ⟨(some 15), none, .mv (.t 14)⟩, ⟨(some 16), (some (15, false)), .mv (.t 1)⟩, ⟨(some 17), (some (15, false)), .bin .gtr (.t 16) (.c (.int .i64 599))⟩, ⟨(some 18), none, .pick (.t 15) (.c (.bool true)) (.t 17)⟩, ⟨(some 19), none, .mv (.t 18)⟩, ⟨(some 20), (some (19, false)), .mv (.t 2)⟩, ⟨(some 21), (some (19, false)), .call i_line_isReason [(.t 20)]⟩, ⟨(some 22), (some (19, false)), .un .not (.t 21)⟩, ⟨(some 23), none, .pick (.t 19) (.c (.bool true)) (.t 22)⟩])
  (.cond (.t 23)
    (.seq (.region [⟨(some 6), none, .mv (.c (.str []))⟩, ⟨(some 7), none, .mv (.c (.int .i64 2))⟩])
    .ret)
    .skip))
  (.seq (.region [⟨(some 24), none, .mv (.t 0)⟩, ⟨(some 25), none, .call i_strconv_Itoa [(.t 24)]⟩, ⟨(some 26), none, .bin .add (.c (.str [72, 84, 84, 80, 47, 49, 46])) (.t 25)⟩, ⟨(some 27), none, .bin .add (.t 26) (.c (.str [32]))⟩, ⟨(some 28), none, .mv (.t 1)⟩, ⟨(some 29), none, .call i_strconv_Itoa [(.t 28)]⟩, ⟨(some 30), none, .bin .add (.t 27) (.t 29)⟩, ⟨(some 31), none, .bin .add (.t 30) (.c (.str [32]))⟩, ⟨(some 32), none, .mv (.t 2)⟩, ⟨(some 33), none, .bin .add (.t 31) (.t 32)⟩, ⟨(some 34), none, .call i_line_fits [(.t 33)]⟩, ⟨(some 35), none, .ext 0 (.t 34)⟩, ⟨(some 36), none, .ext 1 (.t 34)⟩, ⟨(some 6), none, .mv (.t 35)⟩, ⟨(some 7), none, .mv (.t 36)⟩])
  .ret)))⟩
/-- gatepost/gatepostref03.StatusLine -/
def c_gatepostref03_StatusLine : FnC := ⟨68, [.tmp 6, .tmp 7],
  (.seq (.region [⟨(some 6), none, .mv (.c (.str []))⟩, ⟨(some 7), none, .mv (.c (.int .i64 0))⟩])
  (.seq (.seq (.region [⟨(some 10), none, .mv (.t 0)⟩, ⟨(some 11), none, .bin .lss (.t 10) (.c (.int .i64 0))⟩, ⟨(some 12), none, .mv (.t 11)⟩, ⟨(some 13), (some (12, false)), .mv (.t 0)⟩, ⟨(some 14), (some (12, false)), .bin .gtr (.t 13) (.c (.int .i64 1))⟩, ⟨(some 15), none, .pick (.t 12) (.c (.bool true)) (.t 14)⟩, ⟨(some 16), none, .mv (.t 15)⟩, ⟨(some 17), (some (16, false)), .mv (.t 1)⟩, ⟨(some 18), (some (16, false)), .bin .lss (.t 17) (.c (.int .i64 100))⟩, ⟨(some 19), none, .pick (.t 16) (.c (.bool true)) (.t 18)⟩, ⟨(some 20), none, .mv (.t 19)⟩, ⟨(some 21), (some (20, false)), .mv (.t 1)⟩, ⟨(some 22), (some (20, false)), .bin .gtr (.t 21) (.c (.int .i64 599))⟩, ⟨(some 23), none, .pick (.t 20) (.c (.bool true)) (.t 22)⟩, ⟨(some 24), none, .mv (.t 23)⟩, ⟨(some 25), (some (24, false)), .mv (.t 2)⟩, ⟨(some 26), (some (24, false)), .call i_gatepostref03_reason [(.t 25)]⟩, ⟨(some 27), (some (24, false)), .un .not (.t 26)⟩, ⟨(some 28), none, .pick (.t 24) (.c (.bool true)) (.t 27)⟩])
  (.cond (.t 28)
    (.seq (.region [⟨(some 6), none, .mv (.c (.str []))⟩, ⟨(some 7), none, .mv (.c (.int .i64 2))⟩])
    .ret)
    .skip))
  (.seq (.region [⟨(some 8), none, .mv (.c (.str [48, 49, 50, 51, 52, 53, 54, 55, 56, 57]))⟩])
  (.seq (.dregion [⟨(some 29), none, .mv (.t 0)⟩, ⟨(some 30), none, .mv (.t 0)⟩, ⟨(some 31), none, .bin .add (.t 30) (.c (.int .i64 1))⟩, ⟨(some 32), none, .slstr (.c (.str [48, 49])) (some (.t 29)) (some (.t 31))⟩, ⟨(some 33), none, .bin .add (.c (.str [72, 84, 84, 80, 47, 49, 46])) (.t 32)⟩, ⟨(some 34), none, .bin .add (.t 33) (.c (.str [32]))⟩, ⟨(some 35), none, .mv (.t 8)⟩, ⟨(some 36), none, .mv (.t 1)⟩, ⟨(some 37), none, .bin .quo (.t 36) (.c (.int .i64 100))⟩, ⟨(some 38), none, .mv (.t 1)⟩, ⟨(some 39), none, .bin .quo (.t 38) (.c (.int .i64 100))⟩, ⟨(some 40), none, .bin .add (.t 39) (.c (.int .i64 1))⟩, ⟨(some 41), none, .slstr (.t 35) (some (.t 37)) (some (.t 40))⟩, ⟨(some 42), none, .bin .add (.t 34) (.t 41)⟩, ⟨(some 43), none, .mv (.t 8)⟩, ⟨(some 44), none, .mv (.t 1)⟩, ⟨(some 45), none, .bin .quo (.t 44) (.c (.int .i64 10))⟩, ⟨(some 46), none, .bin .rem (.t 45) (.c (.int .i64 10))⟩, ⟨(some 47), none, .mv (.t 1)⟩, ⟨(some 48), none, .bin .quo (.t 47) (.c (.int .i64 10))⟩, ⟨(some 49), none, .bin .rem (.t 48) (.c (.int .i64 10))⟩, ⟨(some 50), none, .bin .add (.t 49) (.c (.int .i64 1))⟩, ⟨(some 51), none, .slstr (.t 43) (some (.t 46)) (some (.t 50))⟩, ⟨(some 52), none, .bin .add (.t 42) (.t 51)⟩, ⟨(some 53), none, .mv (.t 8)⟩, ⟨(some 54), none, .mv (.t 1)⟩, ⟨(some 55), none, .bin .rem (.t 54) (.c (.int .i64 10))⟩, ⟨(some 56), none, .mv (.t 1)⟩, ⟨(some 57), none, .bin .rem (.t 56) (.c (.int .i64 10))⟩, ⟨(some 58), none, .bin .add (.t 57) (.c (.int .i64 1))⟩, ⟨(some 59), none, .slstr (.t 53) (some (.t 55)) (some (.t 58))⟩, ⟨(some 60), none, .bin .add (.t 52) (.t 59)⟩, ⟨(some 61), none, .bin .add (.t 60) (.c (.str [32]))⟩, ⟨(some 62), none, .mv (.t 2)⟩] [⟨(some 63), none, .bin .add (.t 61) (.t 62)⟩, ⟨(some 9), none, .mv (.t 63)⟩])
  (.seq (.seq (.region [⟨(some 64), none, .mv (.t 9)⟩, ⟨(some 65), none, .len 0 (.t 64)⟩, ⟨(some 66), none, .bin .gtr (.t 65) (.c (.int .i64 1024))⟩])
  (.cond (.t 66)
    (.seq (.region [⟨(some 6), none, .mv (.c (.str []))⟩, ⟨(some 7), none, .mv (.c (.int .i64 3))⟩])
    .ret)
    .skip))
  (.seq (.region [⟨(some 67), none, .mv (.t 9)⟩, ⟨(some 6), none, .mv (.t 67)⟩, ⟨(some 7), none, .mv (.c (.int .i64 0))⟩])
  .ret))))))⟩
/-- gatepost/line.Request -/
def c_line_Request : FnC := ⟨46, [.tmp 2, .tmp 3, .tmp 4, .tmp 5],
  (.seq (.region [⟨(some 2), none, .mv (.c (.str []))⟩, ⟨(some 3), none, .mv (.c (.str []))⟩, ⟨(some 4), none, .mv (.c (.int .i64 0))⟩, ⟨(some 5), none, .mv (.c (.int .i64 0))⟩])
  (.seq (.seq (.region [⟨(some 7), none, .mv (.t 0)⟩, ⟨(some 8), none, .len 0 (.t 7)⟩, ⟨(some 9), none, .bin .gtr (.t 8) (.c (.int .i64 1024))⟩])
  (.cond (.t 9)
    (.seq (.region [⟨(some 2), none, .mv (.c (.str []))⟩, ⟨(some 3), none, .mv (.c (.str []))⟩, ⟨(some 4), none, .mv (.c (.int .i64 0))⟩, ⟨(some 5), none, .mv (.c (.int .i64 3))⟩])
    .ret)
    .skip))
  (.seq (.region [⟨(some 10), none, .mv (.t 0)⟩, ⟨(some 11), none, .call i_line_words [(.t 10)]⟩, ⟨(some 6), none, .mv (.t 11)⟩])
  (.seq (.seq (.region [⟨(some 12), none, .mv (.t 6)⟩, ⟨(some 13), none, .len 1 (.t 12)⟩, ⟨(some 14), none, .bin .neq (.t 13) (.c (.int .i64 3))⟩, ⟨(some 15), none, .mv (.t 14)⟩, ⟨(some 16), (some (15, false)), .mv (.t 6)⟩, ⟨(some 17), (some (15, false)), .ixaSl 1 (.t 16) (.c (.int .i64 0))⟩, ⟨(some 18), (some (15, false)), .load false 1 (.t 17)⟩, ⟨(some 19), (some (15, false)), .call i_token_Is [(.t 18)]⟩, ⟨(some 20), (some (15, false)), .un .not (.t 19)⟩, ⟨(some 21), none, .pick (.t 15) (.c (.bool true)) (.t 20)⟩, ⟨(some 22), none, .mv (.t 21)⟩, ⟨(some 23), (some (22, false)), .mv (.t 6)⟩, ⟨(some 24), (some (22, false)), .ixaSl 1 (.t 23) (.c (.int .i64 1))⟩, ⟨(some 25), (some (22, false)), .load false 1 (.t 24)⟩, ⟨(some 26), (some (22, false)), .call i_line_isTarget [(.t 25)]⟩, ⟨(some 27), (some (22, false)), .un .not (.t 26)⟩, ⟨(some 28), none, .pick (.t 22) (.c (.bool true)) (.t 27)⟩, ⟨(some 29), none, .mv (.t 28)⟩, ⟨(some 30), (some (29, false)), .mv (.t 6)⟩, ⟨(some 31), (some (29, false)), .ixaSl 1 (.t 30) (.c (.int .i64 2))⟩, ⟨(some 32), (some (29, false)), .load false 1 (.t 31)⟩, ⟨(some 33), (some (29, false)), .call i_line_version [(.t 32)]⟩, ⟨(some 34), (some (29, false)), .bin .lss (.t 33) (.c (.int .i64 0))⟩, ⟨(some 35), none, .pick (.t 29) (.c (.bool true)) (.t 34)⟩])
  (.cond (.t 35)
    (.seq (.region [⟨(some 2), none, .mv (.c (.str []))⟩, ⟨(some 3), none, .mv (.c (.str []))⟩, ⟨(some 4), none, .mv (.c (.int .i64 0))⟩, ⟨(some 5), none, .mv (.c (.int .i64 30))⟩])
    .ret)
    .skip))
  (.seq (.dregion [⟨(some 36), none, .mv (.t 6)⟩, ⟨(some 37), none, .ixaSl 1 (.t 36) (.c (.int .i64 0))⟩, ⟨(some 38), none, .load false 1 (.t 37)⟩, ⟨(some 39), none, .mv (.t 6)⟩, ⟨(some 40), none, .ixaSl 1 (.t 39) (.c (.int .i64 1))⟩, ⟨(some 41), none, .load false 1 (.t 40)⟩, ⟨(some 42), none, .mv (.t 6)⟩, ⟨(some 43), none, .ixaSl 1 (.t 42) (.c (.int .i64 2))⟩, ⟨(some 44), none, .load false 1 (.t 43)⟩, ⟨(some 45), none, .call i_line_version [(.t 44)]⟩, ⟨(some 2), none, .mv (.t 38)⟩] [⟨(some 3), none, .mv (.t 41)⟩, ⟨(some 4), none, .mv (.t 45)⟩, ⟨(some 5), none, .mv (.c (.int .i64 0))⟩])
  .ret)))))⟩
/-- gatepost/gatepostref03.Request -/
def c_gatepostref03_Request : FnC := ⟨68, [.tmp 2, .tmp 3, .tmp 4, .tmp 5],
  (.seq (.region [⟨(some 2), none, .mv (.c (.str []))⟩, ⟨(some 3), none, .mv (.c (.str []))⟩, ⟨(some 4), none, .mv (.c (.int .i64 0))⟩, ⟨(some 5), none, .mv (.c (.int .i64 0))⟩])
  (.seq (.seq (.region [⟨(some 8), none, .mv (.t 0)⟩, ⟨(some 9), none, .len 0 (.t 8)⟩, ⟨(some 10), none, .bin .gtr (.t 9) (.c (.int .i64 1024))⟩])
  (.cond (.t 10)
    (.seq (.region [⟨(some 2), none, .mv (.c (.str []))⟩, ⟨(some 3), none, .mv (.c (.str []))⟩, ⟨(some 4), none, .mv (.c (.int .i64 0))⟩, ⟨(some 5), none, .mv (.c (.int .i64 3))⟩])
    .ret)
    .skip))
  (.seq (.seq (.region [⟨(some 6), none, .mv (.c (.int .i64 0))⟩])
  (.block 0 (.loop
    (.seq (.seq (.region [⟨(some 11), none, .mv (.t 6)⟩, ⟨(some 12), none, .mv (.t 0)⟩, ⟨(some 13), none, .len 0 (.t 12)⟩, ⟨(some 14), none, .bin .lss (.t 11) (.t 13)⟩])
    (.cond (.t 14)
      .skip
      (.exit 0)))
    (.seq (.block 1 (.seq (.seq (.region [⟨(some 17), none, .mv (.t 0)⟩, ⟨(some 18), none, .mv (.t 6)⟩, ⟨(some 19), none, .ixStr (.t 17) (.t 18)⟩, ⟨(some 20), none, .bin .neq (.t 19) (.c (.int .u8 32))⟩])
    (.cond (.t 20)
      (.exit 1)
      .skip))
    (.seq (.region [⟨(some 21), none, .mv (.t 6)⟩, ⟨(some 22), none, .bin .add (.t 21) (.c (.int .i64 1))⟩, ⟨(some 7), none, .mv (.t 22)⟩])
    (.block 2 (.loop
      (.seq (.seq (.region [⟨(some 23), none, .mv (.t 7)⟩, ⟨(some 24), none, .mv (.t 0)⟩, ⟨(some 25), none, .len 0 (.t 24)⟩, ⟨(some 26), none, .bin .lss (.t 23) (.t 25)⟩])
      (.cond (.t 26)
        .skip
        (.exit 2)))
      (.seq (.block 3 (.seq (.region [⟨(some 29), none, .mv (.t 0)⟩, ⟨(some 30), none, .mv (.t 7)⟩, ⟨(some 31), none, .ixStr (.t 29) (.t 30)⟩, ⟨(some 32), none, .bin .eql (.t 31) (.c (.int .u8 32))⟩, ⟨(some 33), none, .mv (.t 32)⟩, ⟨(some 34), (some (33, true)), .mv (.t 0)⟩, ⟨(some 35), (some (33, true)), .mv (.t 6)⟩, ⟨(some 36), (some (33, true)), .slstr (.t 34) none (some (.t 35))⟩, ⟨(some 37), (some (33, true)), .call i_gatepostref01_Is [(.t 36)]⟩, ⟨(some 38), none, .pick (.t 33) (.t 37) (.c (.bool false))⟩, ⟨(some 39), none, .mv (.t 38)⟩, ⟨(some 40), (some (39, true)), .mv (.t 0)⟩, ⟨(some 41), (some (39, true)), .mv (.t 6)⟩, ⟨(some 42), (some (39, true)), .bin .add (.t 41) (.c (.int .i64 1))⟩, ⟨(some 43), (some (39, true)), .mv (.t 7)⟩, ⟨(some 44), (some (39, true)), .slstr (.t 40) (some (.t 42)) (some (.t 43))⟩, ⟨(some 45), (some (39, true)), .call i_gatepostref03_target [(.t 44)]⟩, ⟨(some 46), none, .pick (.t 39) (.t 45) (.c (.bool false))⟩, ⟨(some 47), none, .mv (.t 46)⟩, ⟨(some 48), (some (47, true)), .mv (.t 0)⟩, ⟨(some 49), (some (47, true)), .mv (.t 7)⟩, ⟨(some 50), (some (47, true)), .bin .add (.t 49) (.c (.int .i64 1))⟩, ⟨(some 51), (some (47, true)), .slstr (.t 48) (some (.t 50)) none⟩, ⟨(some 52), (some (47, true)), .call i_gatepostref03_version [(.t 51)]⟩, ⟨(some 53), (some (47, true)), .bin .geq (.t 52) (.c (.int .i64 0))⟩, ⟨(some 54), none, .pick (.t 47) (.t 53) (.c (.bool false))⟩])
      (.cond (.t 54)
        (.seq (.dregion [⟨(some 55), none, .mv (.t 0)⟩, ⟨(some 56), none, .mv (.t 6)⟩, ⟨(some 57), none, .slstr (.t 55) none (some (.t 56))⟩, ⟨(some 58), none, .mv (.t 0)⟩, ⟨(some 59), none, .mv (.t 6)⟩, ⟨(some 60), none, .bin .add (.t 59) (.c (.int .i64 1))⟩, ⟨(some 61), none, .mv (.t 7)⟩, ⟨(some 62), none, .slstr (.t 58) (some (.t 60)) (some (.t 61))⟩, ⟨(some 63), none, .mv (.t 0)⟩, ⟨(some 64), none, .mv (.t 7)⟩, ⟨(some 65), none, .bin .add (.t 64) (.c (.int .i64 1))⟩, ⟨(some 66), none, .slstr (.t 63) (some (.t 65)) none⟩, ⟨(some 67), none, .call i_gatepostref03_version [(.t 66)]⟩, ⟨(some 2), none, .mv (.t 57)⟩] [⟨(some 3), none, .mv (.t 62)⟩, ⟨(some 4), none, .mv (.t 67)⟩, ⟨(some 5), none, .mv (.c (.int .i64 0))⟩])
        .ret)
        .skip)))
      (.region [⟨(some 27), none, .mv (.t 7)⟩, ⟨(some 28), none, .bin .add (.t 27) (.c (.int .i64 1))⟩, ⟨(some 7), none, .mv (.t 28)⟩]))))))))
    (.region [⟨(some 15), none, .mv (.t 6)⟩, ⟨(some 16), none, .bin .add (.t 15) (.c (.int .i64 1))⟩, ⟨(some 6), none, .mv (.t 16)⟩]))))))
  (.seq (.region [⟨(some 2), none, .mv (.c (.str []))⟩, ⟨(some 3), none, .mv (.c (.str []))⟩, ⟨(some 4), none, .mv (.c (.int .i64 0))⟩, ⟨(some 5), none, .mv (.c (.int .i64 30))⟩])
  .ret))))⟩
/-- gatepost/line.Status -/
def c_line_Status : FnC := ⟨74, [.tmp 2, .tmp 3, .tmp 4, .tmp 5],
  (.seq (.region [⟨(some 2), none, .mv (.c (.int .i64 0))⟩, ⟨(some 3), none, .mv (.c (.int .i64 0))⟩, ⟨(some 4), none, .mv (.c (.str []))⟩, ⟨(some 5), none, .mv (.c (.int .i64 0))⟩])
  (.seq (.region [⟨(some 6), none, .mv (.c (.fn i_line_Status_1 []))⟩])
  (.seq (.seq (.region [⟨(some 13), none, .mv (.t 0)⟩, ⟨(some 14), none, .len 0 (.t 13)⟩, ⟨(some 15), none, .bin .gtr (.t 14) (.c (.int .i64 1024))⟩])
  (.cond (.t 15)
    (.seq (.region [⟨(some 16), none, .mv (.t 6)⟩, ⟨(some 17), none, .callv (.t 16) [(.c (.int .i64 3))]⟩, ⟨(some 18), none, .ext 0 (.t 17)⟩, ⟨(some 19), none, .ext 1 (.t 17)⟩, ⟨(some 20), none, .ext 2 (.t 17)⟩, ⟨(some 21), none, .ext 3 (.t 17)⟩, ⟨(some 2), none, .mv (.t 18)⟩, ⟨(some 3), none, .mv (.t 19)⟩, ⟨(some 4), none, .mv (.t 20)⟩, ⟨(some 5), none, .mv (.t 21)⟩])
    .ret)
    .skip))
  (.seq (.region [⟨(some 23), none, .mv (.t 0)⟩, ⟨(some 24), none, .call i_strings_Cut [(.t 23), (.c (.str [32]))]⟩, ⟨(some 22), none, .mv (.t 24)⟩, ⟨(some 25), none, .ext 0 (.t 22)⟩, ⟨(some 26), none, .ext 1 (.t 22)⟩, ⟨(some 27), none, .ext 2 (.t 22)⟩, ⟨(some 7), none, .mv (.t 25)⟩, ⟨(some 8), none, .mv (.t 26)⟩, ⟨(some 9), none, .mv (.t 27)⟩])
  (.seq (.region [⟨(some 29), none, .mv (.t 8)⟩, ⟨(some 30), none, .call i_strings_Cut [(.t 29), (.c (.str [32]))]⟩, ⟨(some 28), none, .mv (.t 30)⟩, ⟨(some 31), none, .ext 0 (.t 28)⟩, ⟨(some 32), none, .ext 1 (.t 28)⟩, ⟨(some 33), none, .ext 2 (.t 28)⟩, ⟨(some 10), none, .mv (.t 31)⟩, ⟨(some 4), none, .mv (.t 32)⟩, ⟨(some 11), none, .mv (.t 33)⟩])
  (.seq (.region [⟨(some 35), none, .mv (.t 10)⟩, ⟨(some 36), none, .call i_token_Number [(.t 35), (.c (.int .i64 1024))]⟩, ⟨(some 34), none, .mv (.t 36)⟩, ⟨(some 37), none, .ext 0 (.t 34)⟩, ⟨(some 38), none, .ext 1 (.t 34)⟩, ⟨(some 3), none, .mv (.t 37)⟩, ⟨(some 12), none, .mv (.t 38)⟩])
  (.seq (.region [⟨(some 39), none, .mv (.t 7)⟩, ⟨(some 40), none, .call i_line_version [(.t 39)]⟩, ⟨(some 2), none, .mv (.t 40)⟩])
  (.seq (.seq (.region [⟨(some 41), none, .mv (.t 2)⟩, ⟨(some 42), none, .bin .lss (.t 41) (.c (.int .i64 0))⟩, ⟨(some 43), none, .mv (.t 42)⟩, ⟨(some 44), (some (43, false)), .mv (.t 12)⟩, ⟨(some 45), (some (43, false)), .un .not (.t 44)⟩, ⟨(some 46), none, .pick (.t 43) (.c (.bool true)) (.t 45)⟩, ⟨(some 47), none, .mv (.t 46)⟩, ⟨(some 48), (some (47, false)), .mv (.t 10)⟩, ⟨(some 49), (some (47, false)), .len 0 (.t 48)⟩, ⟨(some 50), (some (47, false)), .bin .neq (.t 49) (.c (.int .i64 3))⟩, ⟨(some 51), none, .pick (.t 47) (.c (.bool true)) (.t 50)⟩, ⟨(some 52), none, .mv (.t 51)⟩, ⟨(some 53), (some (52, false)), .mv (.t 3)⟩, ⟨(some 54), (some (52, false)), .bin .lss (.t 53) (.c (.int .i64 100))⟩, ⟨(some 55), none, .pick (.t 52) (.c (.bool true)) (.t 54)⟩, ⟨(some 56), none, .mv (.t 55)⟩, ⟨(some 57), (some (56, false)), .mv (.t 3)⟩, ⟨(some 58), (some (56, false)), .bin .gtr (.t 57) (.c (.int .i64 599))⟩, ⟨(some 59), none, .pick (.t 56) (.c (.bool true)) (.t 58)⟩, ⟨(some 60), none, .mv (.t 59)⟩, ⟨(some 61), (some (60, false)), .mv (.t 4)⟩, ⟨(some 62), (some (60, false)), .call i_line_isReason [(.t 61)]⟩, ⟨(some 63), (some (60, false)), .un .not (.t 62)⟩, ⟨(some 64), none, .pick (.t 60) (.c (.bool true)) (.t 63)⟩])
  (.cond (.t 64)
    (.seq (.region [⟨(some 65), none, .mv (.t 6)⟩, ⟨(some 66), none, .callv (.t 65) [(.c (.int .i64 30))]⟩, ⟨(some 67), none, .ext 0 (.t 66)⟩, ⟨(some 68), none, .ext 1 (.t 66)⟩, ⟨(some 69), none, .ext 2 (.t 66)⟩, ⟨(some 70), none, .ext 3 (.t 66)⟩, ⟨(some 2), none, .mv (.t 67)⟩, ⟨(some 3), none, .mv (.t 68)⟩, ⟨(some 4), none, .mv (.t 69)⟩, ⟨(some 5), none, .mv (.t 70)⟩])
    .ret)
    .skip))
  (.seq (.region [⟨(some 71), none, .mv (.t 2)⟩, ⟨(some 72), none, .mv (.t 3)⟩, ⟨(some 73), none, .mv (.t 4)⟩, ⟨(some 2), none, .mv (.t 71)⟩, ⟨(some 3), none, .mv (.t 72)⟩, ⟨(some 4), none, .mv (.t 73)⟩, ⟨(some 5), none, .mv (.c (.int .i64 0))⟩])
  .ret)))))))))⟩
/-- gatepost/gatepostref03.Status -/
def c_gatepostref03_Status : FnC := ⟨63, [.tmp 2, .tmp 3, .tmp 4, .tmp 5],
  (.seq (.region [⟨(some 2), none, .mv (.c (.int .i64 0))⟩, ⟨(some 3), none, .mv (.c (.int .i64 0))⟩, ⟨(some 4), none, .mv (.c (.str []))⟩, ⟨(some 5), none, .mv (.c (.int .i64 0))⟩])
  (.seq (.seq (.region [⟨(some 8), none, .mv (.t 0)⟩, ⟨(some 9), none, .len 0 (.t 8)⟩, ⟨(some 10), none, .bin .gtr (.t 9) (.c (.int .i64 1024))⟩])
  (.cond (.t 10)
    (.seq (.region [⟨(some 2), none, .mv (.c (.int .i64 0))⟩, ⟨(some 3), none, .mv (.c (.int .i64 0))⟩, ⟨(some 4), none, .mv (.c (.str []))⟩, ⟨(some 5), none, .mv (.c (.int .i64 3))⟩])
    .ret)
    .skip))
  (.seq (.seq (.region [⟨(some 11), none, .mv (.t 0)⟩, ⟨(some 12), none, .len 0 (.t 11)⟩, ⟨(some 13), none, .bin .lss (.t 12) (.c (.int .i64 12))⟩, ⟨(some 14), none, .mv (.t 13)⟩, ⟨(some 15), (some (14, false)), .mv (.t 0)⟩, ⟨(some 16), (some (14, false)), .slstr (.t 15) none (some (.c (.int .i64 8)))⟩, ⟨(some 17), (some (14, false)), .call i_gatepostref03_version [(.t 16)]⟩, ⟨(some 18), (some (14, false)), .bin .lss (.t 17) (.c (.int .i64 0))⟩, ⟨(some 19), none, .pick (.t 14) (.c (.bool true)) (.t 18)⟩, ⟨(some 20), none, .mv (.t 19)⟩, ⟨(some 21), (some (20, false)), .mv (.t 0)⟩, ⟨(some 22), (some (20, false)), .ixStr (.t 21) (.c (.int .i64 8))⟩, ⟨(some 23), (some (20, false)), .bin .neq (.t 22) (.c (.int .u8 32))⟩, ⟨(some 24), none, .pick (.t 20) (.c (.bool true)) (.t 23)⟩])
  (.cond (.t 24)
    (.seq (.region [⟨(some 2), none, .mv (.c (.int .i64 0))⟩, ⟨(some 3), none, .mv (.c (.int .i64 0))⟩, ⟨(some 4), none, .mv (.c (.str []))⟩, ⟨(some 5), none, .mv (.c (.int .i64 30))⟩])
    .ret)
    .skip))
  (.seq (.region [⟨(some 26), none, .mv (.t 0)⟩, ⟨(some 27), none, .slstr (.t 26) (some (.c (.int .i64 9))) (some (.c (.int .i64 12)))⟩, ⟨(some 28), none, .call i_gatepostref01_Number [(.t 27), (.c (.int .i64 1000))]⟩, ⟨(some 25), none, .mv (.t 28)⟩, ⟨(some 29), none, .ext 0 (.t 25)⟩, ⟨(some 30), none, .ext 1 (.t 25)⟩, ⟨(some 6), none, .mv (.t 29)⟩, ⟨(some 7), none, .mv (.t 30)⟩])
  (.seq (.seq (.region [⟨(some 31), none, .mv (.t 7)⟩, ⟨(some 32), none, .un .not (.t 31)⟩, ⟨(some 33), none, .mv (.t 32)⟩, ⟨(some 34), (some (33, false)), .mv (.t 6)⟩, ⟨(some 35), (some (33, false)), .bin .lss (.t 34) (.c (.int .i64 100))⟩, ⟨(some 36), none, .pick (.t 33) (.c (.bool true)) (.t 35)⟩, ⟨(some 37), none, .mv (.t 36)⟩, ⟨(some 38), (some (37, false)), .mv (.t 6)⟩, ⟨(some 39), (some (37, false)), .bin .gtr (.t 38) (.c (.int .i64 599))⟩, ⟨(some 40), none, .pick (.t 37) (.c (.bool true)) (.t 39)⟩])
  (.cond (.t 40)
    (.seq (.region [⟨(some 2), none, .mv (.c (.int .i64 0))⟩, ⟨(some 3), none, .mv (.c (.int .i64 0))⟩, ⟨(some 4), none, .mv (.c (.str []))⟩, ⟨(some 5), none, .mv (.c (.int .i64 30))⟩])
    .ret)
    .skip))
  (.seq (.seq (.region [⟨(some 41), none, .mv (.t 0)⟩, ⟨(some 42), none, .len 0 (.t 41)⟩, ⟨(some 43), none, .bin .eql (.t 42) (.c (.int .i64 12))⟩])
  (.cond (.t 43)
    (.seq (.region [⟨(some 44), none, .mv (.t 0)⟩, ⟨(some 45), none, .slstr (.t 44) none (some (.c (.int .i64 8)))⟩, ⟨(some 46), none, .call i_gatepostref03_version [(.t 45)]⟩, ⟨(some 47), none, .mv (.t 6)⟩, ⟨(some 2), none, .mv (.t 46)⟩, ⟨(some 3), none, .mv (.t 47)⟩, ⟨(some 4), none, .mv (.c (.str []))⟩, ⟨(some 5), none, .mv (.c (.int .i64 0))⟩])
    .ret)
    .skip))
  (.seq (.seq (.region [⟨(some 48), none, .mv (.t 0)⟩, ⟨(some 49), none, .ixStr (.t 48) (.c (.int .i64 12))⟩, ⟨(some 50), none, .bin .neq (.t 49) (.c (.int .u8 32))⟩, ⟨(some 51), none, .mv (.t 50)⟩, ⟨(some 52), (some (51, false)), .mv (.t 0)⟩, ⟨(some 53), (some (51, false)), .slstr (.t 52) (some (.c (.int .i64 13))) none⟩, ⟨(some 54), (some (51, false)), .call i_gatepostref03_reason [(.t 53)]⟩, ⟨(some 55), (some (51, false)), .un .not (.t 54)⟩, ⟨(some 56), none, .pick (.t 51) (.c (.bool true)) (.t 55)⟩])
  (.cond (.t 56)
    (.seq (.region [⟨(some 2), none, .mv (.c (.int .i64 0))⟩, ⟨(some 3), none, .mv (.c (.int .i64 0))⟩, ⟨(some 4), none, .mv (.c (.str []))⟩, ⟨(some 5), none, .mv (.c (.int .i64 30))⟩])
    .ret)
    .skip))
  (.seq (.dregion [⟨(some 57), none, .mv (.t 0)⟩, ⟨(some 58), none, .slstr (.t 57) none (some (.c (.int .i64 8)))⟩, ⟨(some 59), none, .call i_gatepostref03_version [(.t 58)]⟩, ⟨(some 60), none, .mv (.t 6)⟩, ⟨(some 61), none, .mv (.t 0)⟩, ⟨(some 62), none, .slstr (.t 61) (some (.c (.int .i64 13))) none⟩, ⟨(some 2), none, .mv (.t 59)⟩, ⟨(some 3), none, .mv (.t 60)⟩] [⟨(some 4), none, .mv (.t 62)⟩, ⟨(some 5), none, .mv (.c (.int .i64 0))⟩])
  .ret))))))))⟩
/-- gatepost/gatepostlaw03.names -/
def c_gatepostlaw03_names : FnC := ⟨1, [.tmp 0],
  (.seq (.region [⟨(some 0), none, .mv (.c (.bool false))⟩])
  (.seq (.region [⟨(some 0), none, .mv (.c (.bool true))⟩])
  .ret))⟩
/-- gatepost/token.Is -/
def c_token_Is : FnC := ⟨9, [.tmp 2],
  (.seq (.region [⟨(some 2), none, .mv (.c (.bool false))⟩])
  (.seq (.region [⟨(some 3), none, .mv (.t 0)⟩, ⟨(some 4), none, .bin .neq (.t 3) (.c (.str []))⟩, ⟨(some 5), none, .mv (.t 4)⟩, ⟨(some 6), (some (5, true)), .mv (.t 0)⟩, ⟨(some 7), (some (5, true)), .call i_token_all [(.t 6), (.c (.fn i_token_inToken []))]⟩, ⟨(some 8), none, .pick (.t 5) (.t 7) (.c (.bool false))⟩, ⟨(some 2), none, .mv (.t 8)⟩])
  .ret))⟩
/-- gatepost/line.isTarget -/
def c_line_isTarget : FnC := ⟨22, [.tmp 2],
  (.seq (.region [⟨(some 2), none, .mv (.c (.bool false))⟩])
  (.seq (.seq (.region [⟨(some 4), none, .mv (.t 0)⟩, ⟨(some 5), none, .len 0 (.t 4)⟩, ⟨(some 6), none, .mv (.c (.int .i64 0))⟩])
  (.block 0 (.loop
    (.seq (.region [⟨(some 7), none, .bin .lss (.t 6) (.t 5)⟩])
    (.seq (.cond (.t 7)
      .skip
      (.exit 0))
    (.seq (.block 1 (.seq (.region [⟨(some 8), none, .mv (.t 6)⟩, ⟨(some 3), none, .mv (.t 8)⟩])
    (.seq (.region [⟨(some 9), none, .mv (.t 0)⟩, ⟨(some 10), none, .mv (.t 3)⟩, ⟨(some 11), none, .ixStr (.t 9) (.t 10)⟩, ⟨(some 12), none, .bin .leq (.t 11) (.c (.int .u8 32))⟩, ⟨(some 13), none, .mv (.t 12)⟩, ⟨(some 14), (some (13, false)), .mv (.t 0)⟩, ⟨(some 15), (some (13, false)), .mv (.t 3)⟩, ⟨(some 16), (some (13, false)), .ixStr (.t 14) (.t 15)⟩, ⟨(some 17), (some (13, false)), .bin .gtr (.t 16) (.c (.int .u8 126))⟩, ⟨(some 18), none, .pick (.t 13) (.c (.bool true)) (.t 17)⟩])
    (.cond (.t 18)
      (.seq (.region [⟨(some 2), none, .mv (.c (.bool false))⟩])
      .ret)
      .skip))))
    (.region [⟨(some 19), none, .bin .add (.t 6) (.c (.int .i64 1))⟩, ⟨(some 6), none, .mv (.t 19)⟩])))))))
  (.seq (.region [⟨(some 20), none, .mv (.t 0)⟩, ⟨(some 21), none, .bin .neq (.t 20) (.c (.str []))⟩, ⟨(some 2), none, .mv (.t 21)⟩])
  .ret)))⟩
/-- gatepost/line.isMinor -/
def c_line_isMinor : FnC := ⟨9, [.tmp 2],
  (.seq (.region [⟨(some 2), none, .mv (.c (.bool false))⟩])
  (.seq (.region [⟨(some 3), none, .mv (.t 0)⟩, ⟨(some 4), none, .bin .eql (.t 3) (.c (.int .i64 0))⟩, ⟨(some 5), none, .mv (.t 4)⟩, ⟨(some 6), (some (5, false)), .mv (.t 0)⟩, ⟨(some 7), (some (5, false)), .bin .eql (.t 6) (.c (.int .i64 1))⟩, ⟨(some 8), none, .pick (.t 5) (.c (.bool true)) (.t 7)⟩, ⟨(some 2), none, .mv (.t 8)⟩])
  .ret))⟩
/-- gatepost/line.fits -/
def c_line_fits : FnC := ⟨8, [.tmp 2, .tmp 3],
  (.seq (.region [⟨(some 2), none, .mv (.c (.str []))⟩, ⟨(some 3), none, .mv (.c (.int .i64 0))⟩])
  (.seq (.seq (.region [⟨(some 4), none, .mv (.t 0)⟩, ⟨(some 5), none, .len 0 (.t 4)⟩, ⟨(some 6), none, .bin .gtr (.t 5) (.c (.int .i64 1024))⟩])
  (.cond (.t 6)
    (.seq (.region [⟨(some 2), none, .mv (.c (.str []))⟩, ⟨(some 3), none, .mv (.c (.int .i64 3))⟩])
    .ret)
    .skip))
  (.seq (.region [⟨(some 7), none, .mv (.t 0)⟩, ⟨(some 2), none, .mv (.t 7)⟩, ⟨(some 3), none, .mv (.c (.int .i64 0))⟩])
  .ret)))⟩
/-- gatepost/gatepostref01.Is -/
def c_gatepostref01_Is : FnC := ⟨18, [.tmp 2],
  (.seq (.region [⟨(some 2), none, .mv (.c (.bool false))⟩])
  (.seq (.seq (.region [⟨(some 3), none, .mv (.c (.int .i64 0))⟩])
  (.block 0 (.loop
    (.seq (.seq (.region [⟨(some 4), none, .mv (.t 3)⟩, ⟨(some 5), none, .mv (.t 0)⟩, ⟨(some 6), none, .len 0 (.t 5)⟩, ⟨(some 7), none, .bin .lss (.t 4) (.t 6)⟩])
    (.cond (.t 7)
      .skip
      (.exit 0)))
    (.seq (.block 1 (.seq (.region [⟨(some 10), none, .mv (.t 0)⟩, ⟨(some 11), none, .mv (.t 3)⟩, ⟨(some 12), none, .ixStr (.t 10) (.t 11)⟩, ⟨(some 13), none, .call i_gatepostref01_tchar [(.t 12)]⟩, ⟨(some 14), none, .un .not (.t 13)⟩])
    (.cond (.t 14)
      (.seq (.region [⟨(some 2), none, .mv (.c (.bool false))⟩])
      .ret)
      .skip)))
    (.region [⟨(some 8), none, .mv (.t 3)⟩, ⟨(some 9), none, .bin .add (.t 8) (.c (.int .i64 1))⟩, ⟨(some 3), none, .mv (.t 9)⟩]))))))
  (.seq (.region [⟨(some 15), none, .mv (.t 0)⟩, ⟨(some 16), none, .len 0 (.t 15)⟩, ⟨(some 17), none, .bin .gtr (.t 16) (.c (.int .i64 0))⟩, ⟨(some 2), none, .mv (.t 17)⟩])
  .ret)))⟩
/-- gatepost/gatepostref03.target -/
def c_gatepostref03_target : FnC := ⟨23, [.tmp 2],
  (.seq (.region [⟨(some 2), none, .mv (.c (.bool false))⟩])
  (.seq (.seq (.region [⟨(some 3), none, .mv (.c (.int .i64 0))⟩])
  (.block 0 (.loop
    (.seq (.seq (.region [⟨(some 4), none, .mv (.t 3)⟩, ⟨(some 5), none, .mv (.t 0)⟩, ⟨(some 6), none, .len 0 (.t 5)⟩, ⟨(some 7), none, .bin .lss (.t 4) (.t 6)⟩])
    (.cond (.t 7)
      .skip
      (.exit 0)))
    (.seq (.block 1 (.seq (.region [⟨(some 10), none, .mv (.t 0)⟩, ⟨(some 11), none, .mv (.t 3)⟩, ⟨(some 12), none, .ixStr (.t 10) (.t 11)⟩, ⟨(some 13), none, .bin .lss (.t 12) (.c (.int .u8 33))⟩, ⟨(some 14), none, .mv (.t 13)⟩, ⟨(some 15), (some (14, false)), .mv (.t 0)⟩, ⟨(some 16), (some (14, false)), .mv (.t 3)⟩, ⟨(some 17), (some (14, false)), .ixStr (.t 15) (.t 16)⟩, ⟨(some 18), (some (14, false)), .bin .gtr (.t 17) (.c (.int .u8 126))⟩, ⟨(some 19), none, .pick (.t 14) (.c (.bool true)) (.t 18)⟩])
    (.cond (.t 19)
      (.seq (.region [⟨(some 2), none, .mv (.c (.bool false))⟩])
      .ret)
      .skip)))
    (.region [⟨(some 8), none, .mv (.t 3)⟩, ⟨(some 9), none, .bin .add (.t 8) (.c (.int .i64 1))⟩, ⟨(some 3), none, .mv (.t 9)⟩]))))))
  (.seq (.region [⟨(some 20), none, .mv (.t 0)⟩, ⟨(some 21), none, .len 0 (.t 20)⟩, ⟨(some 22), none, .bin .gtr (.t 21) (.c (.int .i64 0))⟩, ⟨(some 2), none, .mv (.t 22)⟩])
  .ret)))⟩
/-- gatepost/line.isReason -/
def c_line_isReason : FnC := ⟨24, [.tmp 2],
  (.seq (.region [⟨(some 2), none, .mv (.c (.bool false))⟩])
  (.seq (.seq (.region [⟨(some 5), none, .mv (.t 0)⟩, ⟨(some 6), none, .len 0 (.t 5)⟩, ⟨(some 7), none, .mv (.c (.int .i64 0))⟩])
  (.block 0 (.loop
    (.seq (.region [⟨(some 8), none, .bin .lss (.t 7) (.t 6)⟩])
    (.seq (.cond (.t 8)
      .skip
      (.exit 0))
    (.seq (.block 1 (.seq (.region [⟨(some 9), none, .mv (.t 7)⟩, ⟨(some 3), none, .mv (.t 9)⟩])
    (.seq (.region [⟨(some 10), none, .mv (.t 0)⟩, ⟨(some 11), none, .mv (.t 3)⟩, ⟨(some 12), none, .ixStr (.t 10) (.t 11)⟩, ⟨(some 4), none, .mv (.t 12)⟩])
    (.seq (.region [⟨(some 13), none, .mv (.t 4)⟩, ⟨(some 14), none, .bin .lss (.t 13) (.c (.int .u8 32))⟩, ⟨(some 15), none, .mv (.t 14)⟩, ⟨(some 16), (some (15, true)), .mv (.t 4)⟩, ⟨(some 17), (some (15, true)), .bin .neq (.t 16) (.c (.int .u8 9))⟩, ⟨(some 18), none, .pick (.t 15) (.t 17) (.c (.bool false))⟩, ⟨(some 19), none, .mv (.t 18)⟩, ⟨(some 20), (some (19, false)), .mv (.t 4)⟩, ⟨(some 21), (some (19, false)), .bin .eql (.t 20) (.c (.int .u8 127))⟩, ⟨(some 22), none, .pick (.t 19) (.c (.bool true)) (.t 21)⟩])
    (.cond (.t 22)
      (.seq (.region [⟨(some 2), none, .mv (.c (.bool false))⟩])
      .ret)
      .skip)))))
    (.region [⟨(some 23), none, .bin .add (.t 7) (.c (.int .i64 1))⟩, ⟨(some 7), none, .mv (.t 23)⟩])))))))
  (.seq (.region [⟨(some 2), none, .mv (.c (.bool true))⟩])
  .ret)))⟩
/-- gatepost/gatepostref03.reason -/
def c_gatepostref03_reason : FnC := ⟨26, [.tmp 2],
  (.seq (.region [⟨(some 2), none, .mv (.c (.bool false))⟩])
  (.seq (.seq (.region [⟨(some 3), none, .mv (.c (.int .i64 0))⟩])
  (.block 0 (.loop
    (.seq (.seq (.region [⟨(some 4), none, .mv (.t 3)⟩, ⟨(some 5), none, .mv (.t 0)⟩, ⟨(some 6), none, .len 0 (.t 5)⟩, ⟨(some 7), none, .bin .lss (.t 4) (.t 6)⟩])
    (.cond (.t 7)
      .skip
      (.exit 0)))
    (.seq (.block 1 (.seq (.region [⟨(some 10), none, .mv (.t 0)⟩, ⟨(some 11), none, .mv (.t 3)⟩, ⟨(some 12), none, .ixStr (.t 10) (.t 11)⟩, ⟨(some 13), none, .bin .neq (.t 12) (.c (.int .u8 9))⟩, ⟨(some 14), none, .mv (.t 13)⟩, ⟨(some 15), (some (14, true)), .mv (.t 0)⟩, ⟨(some 16), (some (14, true)), .mv (.t 3)⟩, ⟨(some 17), (some (14, true)), .ixStr (.t 15) (.t 16)⟩, ⟨(some 18), (some (14, true)), .bin .lss (.t 17) (.c (.int .u8 32))⟩, ⟨(some 19), none, .pick (.t 14) (.t 18) (.c (.bool false))⟩, ⟨(some 20), none, .mv (.t 19)⟩, ⟨(some 21), (some (20, false)), .mv (.t 0)⟩, ⟨(some 22), (some (20, false)), .mv (.t 3)⟩, ⟨(some 23), (some (20, false)), .ixStr (.t 21) (.t 22)⟩, ⟨(some 24), (some (20, false)), .bin .eql (.t 23) (.c (.int .u8 127))⟩, ⟨(some 25), none, .pick (.t 20) (.c (.bool true)) (.t 24)⟩])
    (.cond (.t 25)
      (.seq (.region [⟨(some 2), none, .mv (.c (.bool false))⟩])
      .ret)
      .skip)))
    (.region [⟨(some 8), none, .mv (.t 3)⟩, ⟨(some 9), none, .bin .add (.t 8) (.c (.int .i64 1))⟩, ⟨(some 3), none, .mv (.t 9)⟩]))))))
  (.seq (.region [⟨(some 2), none, .mv (.c (.bool true))⟩])
  .ret)))⟩
/-- gatepost/line.words -/
def c_line_words : FnC := ⟨12, [.tmp 2],
  (.seq (.region [⟨(some 2), none, .mv (.c .nsl)⟩])
  (.seq (.region [⟨(some 4), none, .mv (.t 0)⟩, ⟨(some 5), none, .call i_strings_Split [(.t 4), (.c (.str [32]))]⟩, ⟨(some 3), none, .mv (.t 5)⟩])
  (.seq (.region [⟨(some 6), none, .mv (.t 3)⟩, ⟨(some 7), none, .mv (.t 3)⟩, ⟨(some 8), none, .len 1 (.t 7)⟩, ⟨(some 9), none, .mv (.t 3)⟩, ⟨(some 10), none, .len 1 (.t 9)⟩, ⟨(some 11), none, .slsl 1 (.t 6) none (some (.t 8)) (some (.t 10))⟩, ⟨(some 2), none, .mv (.t 11)⟩])
  .ret)))⟩
/-- gatepost/line.version -/
def c_line_version : FnC := ⟨8, [.tmp 2],
  (.seq (.region [⟨(some 2), none, .mv (.c (.int .i64 0))⟩])
  (.seq (.seq (.region [⟨(some 3), none, .mv (.t 0)⟩])
  (.block 0 (.seq (.region [⟨(some 5), none, .bin .eql (.t 3) (.c (.str [72, 84, 84, 80, 47, 49, 46, 48]))⟩, ⟨(some 4), none, .mv (.t 5)⟩])
  (.cond (.t 4)
    (.seq (.region [⟨(some 2), none, .mv (.c (.int .i64 0))⟩])
    .ret)
    (.seq (.region [⟨(some 7), none, .bin .eql (.t 3) (.c (.str [72, 84, 84, 80, 47, 49, 46, 49]))⟩, ⟨(some 6), none, .mv (.t 7)⟩])
    (.cond (.t 6)
      (.seq (.region [⟨(some 2), none, .mv (.c (.int .i64 1))⟩])
      .ret)
      .skip))))))
  (.seq (.region [⟨(some 2), none, .mv (.c (.int .i64 (-1)))⟩])
  .ret)))⟩
/-- gatepost/gatepostref03.version -/
def c_gatepostref03_version : FnC := ⟨7, [.tmp 2],
  (.seq (.region [⟨(some 2), none, .mv (.c (.int .i64 0))⟩])
  (.seq (.seq (.region [⟨(some 3), none, .mv (.t 0)⟩, ⟨(some 4), none, .bin .eql (.t 3) (.c (.str [72, 84, 84, 80, 47, 49, 46, 48]))⟩])
  (.cond (.t 4)
    (.seq (.region [⟨(some 2), none, .mv (.c (.int .i64 0))⟩])
    .ret)
    .skip))
  (.seq (.seq (.region [⟨(some 5), none, .mv (.t 0)⟩, ⟨(some 6), none, .bin .eql (.t 5) (.c (.str [72, 84, 84, 80, 47, 49, 46, 49]))⟩])
  (.cond (.t 6)
    (.seq (.region [⟨(some 2), none, .mv (.c (.int .i64 1))⟩])
    .ret)
    .skip))
  (.seq (.region [⟨(some 2), none, .mv (.c (.int .i64 (-1)))⟩])
  .ret))))⟩
/-- gatepost/line.Status$1 -/
def c_line_Status_1 : FnC := ⟨7, [.tmp 2, .tmp 3, .tmp 4, .tmp 5],
  (.seq (.region [⟨(some 2), none, .mv (.c (.int .i64 0))⟩, ⟨(some 3), none, .mv (.c (.int .i64 0))⟩, ⟨(some 4), none, .mv (.c (.str []))⟩, ⟨(some 5), none, .mv (.c (.int .i64 0))⟩])
  (.seq (.region [⟨(some 6), none, .mv (.t 0)⟩, ⟨(some 2), none, .mv (.c (.int .i64 0))⟩, ⟨(some 3), none, .mv (.c (.int .i64 0))⟩, ⟨(some 4), none, .mv (.c (.str []))⟩, ⟨(some 5), none, .mv (.t 6)⟩])
  .ret))⟩
/-- strings.Cut -/
def c_strings_Cut : FnC := ⟨13, [.tmp 4, .tmp 5, .tmp 6],
  (.seq (.region [⟨(some 4), none, .mv (.c (.str []))⟩, ⟨(some 5), none, .mv (.c (.str []))⟩, ⟨(some 6), none, .mv (.c (.bool false))⟩])
  (.seq (.region [⟨(some 7), none, .mv (.t 0)⟩, ⟨(some 8), none, .mv (.t 1)⟩, ⟨(some 9), none, .call i_internal_stringslite_Cut [(.t 7), (.t 8)]⟩, ⟨(some 10), none, .ext 0 (.t 9)⟩, ⟨(some 11), none, .ext 1 (.t 9)⟩, ⟨(some 12), none, .ext 2 (.t 9)⟩, ⟨(some 4), none, .mv (.t 10)⟩, ⟨(some 5), none, .mv (.t 11)⟩, ⟨(some 6), none, .mv (.t 12)⟩])
  .ret))⟩
/-- gatepost/token.Number -/
def c_token_Number : FnC := ⟨48, [.tmp 4, .tmp 5],
  (.seq (.region [⟨(some 4), none, .mv (.c (.int .i64 0))⟩, ⟨(some 5), none, .mv (.c (.bool false))⟩])
  (.seq (.seq (.region [⟨(some 9), none, .mv (.t 0)⟩, ⟨(some 10), none, .bin .eql (.t 9) (.c (.str []))⟩, ⟨(some 11), none, .mv (.t 10)⟩, ⟨(some 12), (some (11, false)), .mv (.t 1)⟩, ⟨(some 13), (some (11, false)), .bin .lss (.t 12) (.c (.int .i64 0))⟩, ⟨(some 14), none, .pick (.t 11) (.c (.bool true)) (.t 13)⟩, ⟨(some 15), none, .mv (.t 14)⟩, ⟨(some 16), (some (15, false)), .mv (.t 0)⟩, ⟨(some 17), (some (15, false)), .call i_token_all [(.t 16), (.c (.fn i_token_Number_1 []))]⟩, ⟨(some 18), (some (15, false)), .un .not (.t 17)⟩, ⟨(some 19), none, .pick (.t 15) (.c (.bool true)) (.t 18)⟩])
  (.cond (.t 19)
    (.seq (.region [⟨(some 4), none, .mv (.c (.int .i64 0))⟩, ⟨(some 5), none, .mv (.c (.bool false))⟩])
    .ret)
    .skip))
  (.seq (.region [⟨(some 6), none, .mv (.c (.int .i64 0))⟩])
  (.seq (.seq (.region [⟨(some 20), none, .mv (.t 0)⟩, ⟨(some 21), none, .len 0 (.t 20)⟩, ⟨(some 22), none, .mv (.c (.int .i64 0))⟩])
  (.block 0 (.loop
    (.seq (.region [⟨(some 23), none, .bin .lss (.t 22) (.t 21)⟩])
    (.seq (.cond (.t 23)
      .skip
      (.exit 0))
    (.seq (.block 1 (.seq (.region [⟨(some 24), none, .mv (.t 22)⟩, ⟨(some 7), none, .mv (.t 24)⟩])
    (.seq (.region [⟨(some 25), none, .mv (.t 0)⟩, ⟨(some 26), none, .mv (.t 7)⟩, ⟨(some 27), none, .ixStr (.t 25) (.t 26)⟩, ⟨(some 28), none, .bin .sub (.t 27) (.c (.int .u8 48))⟩, ⟨(some 29), none, .toInt .i64 (.t 28)⟩, ⟨(some 8), none, .mv (.t 29)⟩])
    (.seq (.seq (.region [⟨(some 30), none, .mv (.t 8)⟩, ⟨(some 31), none, .mv (.t 1)⟩, ⟨(some 32), none, .bin .gtr (.t 30) (.t 31)⟩, ⟨(some 33), none, .mv (.t 32)⟩, ⟨(some 34), (some (33, false)), .mv (.t 6)⟩, ⟨(some 35), (some (33, false)), .mv (.t 1)⟩, ⟨(some 36), (some (33, false)), .mv (.t 8)⟩, ⟨(some 37), (some (33, false)), .bin .sub (.t 35) (.t 36)⟩, ⟨(some 38), (some (33, false)), .bin .quo (.t 37) (.c (.int .i64 10))⟩, ⟨(some 39), (some (33, false)), .bin .gtr (.t 34) (.t 38)⟩, ⟨(some 40), none, .pick (.t 33) (.c (.bool true)) (.t 39)⟩])
    (.cond (.t 40)
      (.seq (.region [⟨(some 41), none, .mv (.t 1)⟩, ⟨(some 4), none, .mv (.t 41)⟩, ⟨(some 5), none, .mv (.c (.bool true))⟩])
      .ret)
      .skip))
    (.region [⟨(some 42), none, .mv (.t 6)⟩, ⟨(some 43), none, .bin .mul (.c (.int .i64 10)) (.t 42)⟩, ⟨(some 44), none, .mv (.t 8)⟩, ⟨(some 45), none, .bin .add (.t 43) (.t 44)⟩, ⟨(some 6), none, .mv (.t 45)⟩])))))
    (.region [⟨(some 46), none, .bin .add (.t 22) (.c (.int .i64 1))⟩, ⟨(some 22), none, .mv (.t 46)⟩])))))))
  (.seq (.region [⟨(some 47), none, .mv (.t 6)⟩, ⟨(some 4), none, .mv (.t 47)⟩, ⟨(some 5), none, .mv (.c (.bool true))⟩])
  .ret)))))⟩
/-- gatepost/gatepostref01.Number -/
def c_gatepostref01_Number : FnC := ⟨61, [.tmp 4, .tmp 5],
  (.seq (.region [⟨(some 4), none, .mv (.c (.int .i64 0))⟩, ⟨(some 5), none, .mv (.c (.bool false))⟩])
  (.seq (.seq (.region [⟨(some 10), none, .mv (.t 1)⟩, ⟨(some 11), none, .bin .lss (.t 10) (.c (.int .i64 0))⟩, ⟨(some 12), none, .mv (.t 11)⟩, ⟨(some 13), (some (12, false)), .mv (.t 0)⟩, ⟨(some 14), (some (12, false)), .len 0 (.t 13)⟩, ⟨(some 15), (some (12, false)), .bin .eql (.t 14) (.c (.int .i64 0))⟩, ⟨(some 16), none, .pick (.t 12) (.c (.bool true)) (.t 15)⟩])
  (.cond (.t 16)
    (.seq (.region [⟨(some 4), none, .mv (.c (.int .i64 0))⟩, ⟨(some 5), none, .mv (.c (.bool false))⟩])
    .ret)
    .skip))
  (.seq (.region [⟨(some 6), none, .mv (.c (.int .i64 0))⟩])
  (.seq (.seq (.region [⟨(some 7), none, .mv (.c (.int .i64 0))⟩])
  (.block 0 (.loop
    (.seq (.seq (.region [⟨(some 17), none, .mv (.t 7)⟩, ⟨(some 18), none, .mv (.t 0)⟩, ⟨(some 19), none, .len 0 (.t 18)⟩, ⟨(some 20), none, .bin .lss (.t 17) (.t 19)⟩])
    (.cond (.t 20)
      .skip
      (.exit 0)))
    (.seq (.block 1 (.seq (.region [⟨(some 23), none, .mv (.t 0)⟩, ⟨(some 24), none, .mv (.t 7)⟩, ⟨(some 25), none, .ixStr (.t 23) (.t 24)⟩, ⟨(some 26), none, .bin .lss (.t 25) (.c (.int .u8 48))⟩, ⟨(some 27), none, .mv (.t 26)⟩, ⟨(some 28), (some (27, false)), .mv (.t 0)⟩, ⟨(some 29), (some (27, false)), .mv (.t 7)⟩, ⟨(some 30), (some (27, false)), .ixStr (.t 28) (.t 29)⟩, ⟨(some 31), (some (27, false)), .bin .gtr (.t 30) (.c (.int .u8 57))⟩, ⟨(some 32), none, .pick (.t 27) (.c (.bool true)) (.t 31)⟩])
    (.cond (.t 32)
      (.seq (.region [⟨(some 4), none, .mv (.c (.int .i64 0))⟩, ⟨(some 5), none, .mv (.c (.bool false))⟩])
      .ret)
      .skip)))
    (.region [⟨(some 21), none, .mv (.t 7)⟩, ⟨(some 22), none, .bin .add (.t 21) (.c (.int .i64 1))⟩, ⟨(some 7), none, .mv (.t 22)⟩]))))))
  (.seq (.seq (.region [⟨(some 8), none, .mv (.c (.int .i64 0))⟩])
  (.block 2 (.loop
    (.seq (.seq (.region [⟨(some 33), none, .mv (.t 8)⟩, ⟨(some 34), none, .mv (.t 0)⟩, ⟨(some 35), none, .len 0 (.t 34)⟩, ⟨(some 36), none, .bin .lss (.t 33) (.t 35)⟩])
    (.cond (.t 36)
      .skip
      (.exit 2)))
    (.seq (.block 3 (.seq (.region [⟨(some 39), none, .mv (.t 0)⟩, ⟨(some 40), none, .mv (.t 8)⟩, ⟨(some 41), none, .ixStr (.t 39) (.t 40)⟩, ⟨(some 42), none, .bin .sub (.t 41) (.c (.int .u8 48))⟩, ⟨(some 43), none, .toInt .i64 (.t 42)⟩, ⟨(some 9), none, .mv (.t 43)⟩])
    (.seq (.seq (.region [⟨(some 44), none, .mv (.t 6)⟩, ⟨(some 45), none, .mv (.t 1)⟩, ⟨(some 46), none, .mv (.t 9)⟩, ⟨(some 47), none, .bin .sub (.t 45) (.t 46)⟩, ⟨(some 48), none, .bin .quo (.t 47) (.c (.int .i64 10))⟩, ⟨(some 49), none, .bin .gtr (.t 44) (.t 48)⟩, ⟨(some 50), none, .mv (.t 49)⟩, ⟨(some 51), (some (50, false)), .mv (.t 1)⟩, ⟨(some 52), (some (50, false)), .mv (.t 9)⟩, ⟨(some 53), (some (50, false)), .bin .lss (.t 51) (.t 52)⟩, ⟨(some 54), none, .pick (.t 50) (.c (.bool true)) (.t 53)⟩])
    (.cond (.t 54)
      (.seq (.region [⟨(some 55), none, .mv (.t 1)⟩, ⟨(some 4), none, .mv (.t 55)⟩, ⟨(some 5), none, .mv (.c (.bool true))⟩])
      .ret)
      .skip))
    (.region [⟨(some 56), none, .mv (.t 6)⟩, ⟨(some 57), none, .bin .mul (.t 56) (.c (.int .i64 10))⟩, ⟨(some 58), none, .mv (.t 9)⟩, ⟨(some 59), none, .bin .add (.t 57) (.t 58)⟩, ⟨(some 6), none, .mv (.t 59)⟩]))))
    (.region [⟨(some 37), none, .mv (.t 8)⟩, ⟨(some 38), none, .bin .add (.t 37) (.c (.int .i64 1))⟩, ⟨(some 8), none, .mv (.t 38)⟩]))))))
  (.seq (.region [⟨(some 60), none, .mv (.t 6)⟩, ⟨(some 4), none, .mv (.t 60)⟩, ⟨(some 5), none, .mv (.c (.bool true))⟩])
  .ret))))))⟩
/-- gatepost/token.all -/
def c_token_all : FnC := ⟨18, [.tmp 4],
  (.seq (.region [⟨(some 4), none, .mv (.c (.bool false))⟩])
  (.seq (.seq (.region [⟨(some 6), none, .mv (.t 0)⟩, ⟨(some 7), none, .len 0 (.t 6)⟩, ⟨(some 8), none, .mv (.c (.int .i64 0))⟩])
  (.block 0 (.loop
    (.seq (.region [⟨(some 9), none, .bin .lss (.t 8) (.t 7)⟩])
    (.seq (.cond (.t 9)
      .skip
      (.exit 0))
    (.seq (.block 1 (.seq (.region [⟨(some 10), none, .mv (.t 8)⟩, ⟨(some 5), none, .mv (.t 10)⟩])
    (.seq (.region [⟨(some 11), none, .mv (.t 1)⟩, ⟨(some 12), none, .mv (.t 0)⟩, ⟨(some 13), none, .mv (.t 5)⟩, ⟨(some 14), none, .ixStr (.t 12) (.t 13)⟩, ⟨(some 15), none, .callv (.t 11) [(.t 14)]⟩, ⟨(some 16), none, .un .not (.t 15)⟩])
    (.cond (.t 16)
      (.seq (.region [⟨(some 4), none, .mv (.c (.bool false))⟩])
      .ret)
      .skip))))
    (.region [⟨(some 17), none, .bin .add (.t 8) (.c (.int .i64 1))⟩, ⟨(some 8), none, .mv (.t 17)⟩])))))))
  (.seq (.region [⟨(some 4), none, .mv (.c (.bool true))⟩])
  .ret)))⟩
/-- gatepost/token.inToken -/
def c_token_inToken : FnC := ⟨30, [.tmp 2],
  (.seq (.region [⟨(some 2), none, .mv (.c (.bool false))⟩])
  (.seq (.seq (.region [⟨(some 6), none, .mv (.t 0)⟩, ⟨(some 7), none, .bin .or (.t 6) (.c (.int .u8 32))⟩, ⟨(some 3), none, .mv (.t 7)⟩])
  (.seq (.region [⟨(some 8), none, .mv (.t 3)⟩, ⟨(some 9), none, .bin .geq (.t 8) (.c (.int .u8 97))⟩, ⟨(some 10), none, .mv (.t 9)⟩, ⟨(some 11), (some (10, true)), .mv (.t 3)⟩, ⟨(some 12), (some (10, true)), .bin .leq (.t 11) (.c (.int .u8 122))⟩, ⟨(some 13), none, .pick (.t 10) (.t 12) (.c (.bool false))⟩, ⟨(some 14), none, .mv (.t 13)⟩, ⟨(some 15), (some (14, false)), .mv (.t 0)⟩, ⟨(some 16), (some (14, false)), .bin .geq (.t 15) (.c (.int .u8 48))⟩, ⟨(some 17), (some (14, false)), .mv (.t 16)⟩, ⟨(some 18), (some (17, true)), .mv (.t 0)⟩, ⟨(some 19), (some (17, true)), .bin .leq (.t 18) (.c (.int .u8 57))⟩, ⟨(some 20), (some (14, false)), .pick (.t 17) (.t 19) (.c (.bool false))⟩, ⟨(some 21), none, .pick (.t 14) (.c (.bool true)) (.t 20)⟩])
  (.cond (.t 21)
    (.seq (.region [⟨(some 2), none, .mv (.c (.bool true))⟩])
    .ret)
    .skip)))
  (.seq (.seq (.region [⟨(some 22), none, .call i_token_marks []⟩, ⟨(some 23), none, .mv (.c (.int .i64 0))⟩])
  (.block 0 (.loop
    (.seq (.region [⟨(some 24), none, .bin .lss (.t 23) (.c (.int .i64 15))⟩])
    (.seq (.cond (.t 24)
      .skip
      (.exit 0))
    (.seq (.block 1 (.seq (.region [⟨(some 25), none, .ixArr 15 1 false (.t 22) (.t 23)⟩, ⟨(some 5), none, .mv (.t 25)⟩])
    (.seq (.region [⟨(some 26), none, .mv (.t 5)⟩, ⟨(some 27), none, .mv (.t 0)⟩, ⟨(some 28), none, .bin .eql (.t 26) (.t 27)⟩])
    (.cond (.t 28)
      (.seq (.region [⟨(some 2), none, .mv (.c (.bool true))⟩])
      .ret)
      .skip))))
    (.region [⟨(some 29), none, .bin .add (.t 23) (.c (.int .i64 1))⟩, ⟨(some 23), none, .mv (.t 29)⟩])))))))
  (.seq (.region [⟨(some 2), none, .mv (.c (.bool false))⟩])
  .ret))))⟩
/-- gatepost/gatepostref01.tchar -/
def c_gatepostref01_tchar : FnC := ⟨42, [.tmp 2],
  (.seq (.region [⟨(some 2), none, .mv (.c (.bool false))⟩])
  (.seq (.seq (.region [⟨(some 3), none, .mv (.t 0)⟩, ⟨(some 4), none, .bin .geq (.t 3) (.c (.int .u8 97))⟩, ⟨(some 5), none, .mv (.t 4)⟩, ⟨(some 6), (some (5, true)), .mv (.t 0)⟩, ⟨(some 7), (some (5, true)), .bin .leq (.t 6) (.c (.int .u8 122))⟩, ⟨(some 8), none, .pick (.t 5) (.t 7) (.c (.bool false))⟩, ⟨(some 9), none, .mv (.t 8)⟩, ⟨(some 10), (some (9, false)), .mv (.t 0)⟩, ⟨(some 11), (some (9, false)), .bin .geq (.t 10) (.c (.int .u8 65))⟩, ⟨(some 12), (some (9, false)), .mv (.t 11)⟩, ⟨(some 13), (some (12, true)), .mv (.t 0)⟩, ⟨(some 14), (some (12, true)), .bin .leq (.t 13) (.c (.int .u8 90))⟩, ⟨(some 15), (some (9, false)), .pick (.t 12) (.t 14) (.c (.bool false))⟩, ⟨(some 16), none, .pick (.t 9) (.c (.bool true)) (.t 15)⟩, ⟨(some 17), none, .mv (.t 16)⟩, ⟨(some 18), (some (17, false)), .mv (.t 0)⟩, ⟨(some 19), (some (17, false)), .bin .geq (.t 18) (.c (.int .u8 48))⟩, ⟨(some 20), (some (17, false)), .mv (.t 19)⟩, ⟨(some 21), (some (20, true)), .mv (.t 0)⟩, ⟨(some 22), (some (20, true)), .bin .leq (.t 21) (.c (.int .u8 57))⟩, ⟨(some 23), (some (17, false)), .pick (.t 20) (.t 22) (.c (.bool false))⟩, ⟨(some 24), none, .pick (.t 17) (.c (.bool true)) (.t 23)⟩])
  (.cond (.t 24)
    (.seq (.region [⟨(some 2), none, .mv (.c (.bool true))⟩])
    .ret)
    .skip))
  (.seq (.seq (.region [⟨(some 25), none, .mv (.t 0)⟩])
  (.block 0 (.seq (.seq (.region [⟨(some 27), none, .bin .eql (.t 25) (.c (.int .u8 33))⟩, ⟨(some 26), none, .mv (.t 27)⟩])
  (.cond (.t 26)
    .skip
    (.seq (.region [⟨(some 28), none, .bin .eql (.t 25) (.c (.int .u8 35))⟩, ⟨(some 26), none, .mv (.t 28)⟩])
    (.cond (.t 26)
      .skip
      (.seq (.region [⟨(some 29), none, .bin .eql (.t 25) (.c (.int .u8 36))⟩, ⟨(some 26), none, .mv (.t 29)⟩])
      (.cond (.t 26)
        .skip
        (.seq (.region [⟨(some 30), none, .bin .eql (.t 25) (.c (.int .u8 37))⟩, ⟨(some 26), none, .mv (.t 30)⟩])
        (.cond (.t 26)
          .skip
          (.seq (.region [⟨(some 31), none, .bin .eql (.t 25) (.c (.int .u8 38))⟩, ⟨(some 26), none, .mv (.t 31)⟩])
          (.cond (.t 26)
            .skip
            (.seq (.region [⟨(some 32), none, .bin .eql (.t 25) (.c (.int .u8 39))⟩, ⟨(some 26), none, .mv (.t 32)⟩])
            (.cond (.t 26)
              .skip
              (.seq (.region [⟨(some 33), none, .bin .eql (.t 25) (.c (.int .u8 42))⟩, ⟨(some 26), none, .mv (.t 33)⟩])
              (.cond (.t 26)
                .skip
                (.seq (.region [⟨(some 34), none, .bin .eql (.t 25) (.c (.int .u8 43))⟩, ⟨(some 26), none, .mv (.t 34)⟩])
                (.cond (.t 26)
                  .skip
                  (.seq (.region [⟨(some 35), none, .bin .eql (.t 25) (.c (.int .u8 45))⟩, ⟨(some 26), none, .mv (.t 35)⟩])
                  (.cond (.t 26)
                    .skip
                    (.seq (.region [⟨(some 36), none, .bin .eql (.t 25) (.c (.int .u8 46))⟩, ⟨(some 26), none, .mv (.t 36)⟩])
                    (.cond (.t 26)
                      .skip
                      (.seq (.region [⟨(some 37), none, .bin .eql (.t 25) (.c (.int .u8 94))⟩, ⟨(some 26), none, .mv (.t 37)⟩])
                      (.cond (.t 26)
                        .skip
                        (.seq (.region [⟨(some 38), none, .bin .eql (.t 25) (.c (.int .u8 95))⟩, ⟨(some 26), none, .mv (.t 38)⟩])
                        (.cond (.t 26)
                          .skip
                          (.seq (.region [⟨(some 39), none, .bin .eql (.t 25) (.c (.int .u8 96))⟩, ⟨(some 26), none, .mv (.t 39)⟩])
                          (.cond (.t 26)
                            .skip
                            (.seq (.region [⟨(some 40), none, .bin .eql (.t 25) (.c (.int .u8 124))⟩, ⟨(some 26), none, .mv (.t 40)⟩])
                            (.cond (.t 26)
                              .skip
                              (.region [⟨(some 41), none, .bin .eql (.t 25) (.c (.int .u8 126))⟩, ⟨(some 26), none, .mv (.t 41)⟩])))))))))))))))))))))))))))))
  (.cond (.t 26)
    (.seq (.region [⟨(some 2), none, .mv (.c (.bool true))⟩])
    .ret)
    .skip))))
  (.seq (.region [⟨(some 2), none, .mv (.c (.bool false))⟩])
  .ret))))⟩
/-- strings.Split -/
def c_strings_Split : FnC := ⟨8, [.tmp 4],
  (.seq (.region [⟨(some 4), none, .mv (.c .nsl)⟩])
  (.seq (.region [⟨(some 5), none, .mv (.t 0)⟩, ⟨(some 6), none, .mv (.t 1)⟩, ⟨(some 7), none, .call i_strings_genSplit [(.t 5), (.t 6), (.c (.int .i64 0)), (.c (.int .i64 (-1)))]⟩, ⟨(some 4), none, .mv (.t 7)⟩])
  .ret))⟩
/-- internal/stringslite.Cut -/
def c_internal_stringslite_Cut : FnC := ⟨23, [.tmp 4, .tmp 5, .tmp 6],
  (.seq (.region [⟨(some 4), none, .mv (.c (.str []))⟩, ⟨(some 5), none, .mv (.c (.str []))⟩, ⟨(some 6), none, .mv (.c (.bool false))⟩])
  (.seq (.seq (.region [⟨(some 8), none, .mv (.t 0)⟩, ⟨(some 9), none, .mv (.t 1)⟩, ⟨(some 10), none, .call i_internal_stringslite_Index [(.t 8), (.t 9)]⟩, ⟨(some 7), none, .mv (.t 10)⟩])
  (.seq (.region [⟨(some 11), none, .mv (.t 7)⟩, ⟨(some 12), none, .bin .geq (.t 11) (.c (.int .i64 0))⟩])
  (.cond (.t 12)
    (.seq (.dregion [⟨(some 13), none, .mv (.t 0)⟩, ⟨(some 14), none, .mv (.t 7)⟩, ⟨(some 15), none, .slstr (.t 13) none (some (.t 14))⟩, ⟨(some 16), none, .mv (.t 0)⟩, ⟨(some 17), none, .mv (.t 7)⟩, ⟨(some 18), none, .mv (.t 1)⟩, ⟨(some 19), none, .len 0 (.t 18)⟩, ⟨(some 20), none, .bin .add (.t 17) (.t 19)⟩, ⟨(some 21), none, .slstr (.t 16) (some (.t 20)) none⟩, ⟨(some 4), none, .mv (.t 15)⟩] [⟨(some 5), none, .mv (.t 21)⟩, ⟨(some 6), none, .mv (.c (.bool true))⟩])
    .ret)
    .skip)))
  (.seq (.region [⟨(some 22), none, .mv (.t 0)⟩, ⟨(some 4), none, .mv (.t 22)⟩, ⟨(some 5), none, .mv (.c (.str []))⟩, ⟨(some 6), none, .mv (.c (.bool false))⟩])
  .ret)))⟩
/-- gatepost/token.Number$1 -/
def c_token_Number_1 : FnC := ⟨9, [.tmp 2],
  (.seq (.region [⟨(some 2), none, .mv (.c (.bool false))⟩])
  (.seq (.region [⟨(some 3), none, .mv (.t 0)⟩, ⟨(some 4), none, .bin .geq (.t 3) (.c (.int .u8 48))⟩, ⟨(some 5), none, .mv (.t 4)⟩, ⟨(some 6), (some (5, true)), .mv (.t 0)⟩, ⟨(some 7), (some (5, true)), .bin .leq (.t 6) (.c (.int .u8 57))⟩, ⟨(some 8), none, .pick (.t 5) (.t 7) (.c (.bool false))⟩, ⟨(some 2), none, .mv (.t 8)⟩])
  .ret))⟩
/-- gatepost/token.marks -/
def c_token_marks : FnC := ⟨2, [.cell 0 true 15],
  (.seq (.region [⟨(some 0), none, .boxz [(.int .u8 0), (.int .u8 0), (.int .u8 0), (.int .u8 0), (.int .u8 0), (.int .u8 0), (.int .u8 0), (.int .u8 0), (.int .u8 0), (.int .u8 0), (.int .u8 0), (.int .u8 0), (.int .u8 0), (.int .u8 0), (.int .u8 0)]⟩])
  (.seq (.region [⟨(some 1), none, .build [(.int .u8 0), (.int .u8 0), (.int .u8 0), (.int .u8 0), (.int .u8 0), (.int .u8 0), (.int .u8 0), (.int .u8 0), (.int .u8 0), (.int .u8 0), (.int .u8 0), (.int .u8 0), (.int .u8 0), (.int .u8 0), (.int .u8 0)] [(0, 1, (.c (.int .u8 33))), (1, 1, (.c (.int .u8 35))), (2, 1, (.c (.int .u8 36))), (3, 1, (.c (.int .u8 37))), (4, 1, (.c (.int .u8 38))), (5, 1, (.c (.int .u8 39))), (6, 1, (.c (.int .u8 42))), (7, 1, (.c (.int .u8 43))), (8, 1, (.c (.int .u8 45))), (9, 1, (.c (.int .u8 46))), (10, 1, (.c (.int .u8 94))), (11, 1, (.c (.int .u8 95))), (12, 1, (.c (.int .u8 96))), (13, 1, (.c (.int .u8 124))), (14, 1, (.c (.int .u8 126)))]⟩, ⟨none, none, .store 15 (.t 0) (.t 1)⟩])
  .ret))⟩
/-- strings.genSplit -/
def c_strings_genSplit : FnC := ⟨66, [.tmp 8],
  (.seq (.region [⟨(some 8), none, .mv (.c .nsl)⟩])
  (.seq (.seq (.region [⟨(some 12), none, .mv (.t 3)⟩, ⟨(some 13), none, .bin .eql (.t 12) (.c (.int .i64 0))⟩])
  (.cond (.t 13)
    (.seq (.region [⟨(some 8), none, .mv (.c .nsl)⟩])
    .ret)
    .skip))
  (.seq (.seq (.region [⟨(some 14), none, .mv (.t 1)⟩, ⟨(some 15), none, .bin .eql (.t 14) (.c (.str []))⟩])
  (.cond (.t 15)
    (.seq (.region [⟨(some 16), none, .mv (.t 0)⟩, ⟨(some 17), none, .mv (.t 3)⟩, ⟨(some 18), none, .call i_strings_explode [(.t 16), (.t 17)]⟩, ⟨(some 8), none, .mv (.t 18)⟩])
    .ret)
    .skip))
  (.seq (.seq (.region [⟨(some 19), none, .mv (.t 3)⟩, ⟨(some 20), none, .bin .lss (.t 19) (.c (.int .i64 0))⟩])
  (.cond (.t 20)
    (.region [⟨(some 21), none, .mv (.t 0)⟩, ⟨(some 22), none, .mv (.t 1)⟩, ⟨(some 23), none, .call i_strings_Count [(.t 21), (.t 22)]⟩, ⟨(some 24), none, .bin .add (.t 23) (.c (.int .i64 1))⟩, ⟨(some 3), none, .mv (.t 24)⟩])
    .skip))
  (.seq (.region [⟨(some 25), none, .mv (.t 3)⟩, ⟨(some 26), none, .mv (.t 0)⟩, ⟨(some 27), none, .len 0 (.t 26)⟩, ⟨(some 28), none, .bin .add (.t 27) (.c (.int .i64 1))⟩, ⟨(some 29), none, .mn [(.t 25), (.t 28)]⟩, ⟨(some 3), none, .mv (.t 29)⟩])
  (.seq (.region [⟨(some 30), none, .mv (.t 3)⟩, ⟨(some 31), none, .mksl 1 16 [(.str [])] (.t 30) (.t 30)⟩, ⟨(some 9), none, .mv (.t 31)⟩])
  (.seq (.region [⟨(some 32), none, .mv (.t 3)⟩, ⟨(some 33), none, .bin .sub (.t 32) (.c (.int .i64 1))⟩, ⟨(some 3), none, .mv (.t 33)⟩])
  (.seq (.region [⟨(some 10), none, .mv (.c (.int .i64 0))⟩])
  (.seq (.block 0 (.loop
    (.seq (.seq (.region [⟨(some 34), none, .mv (.t 10)⟩, ⟨(some 35), none, .mv (.t 3)⟩, ⟨(some 36), none, .bin .lss (.t 34) (.t 35)⟩])
    (.cond (.t 36)
      .skip
      (.exit 0)))
    (.block 1 (.seq (.region [⟨(some 37), none, .mv (.t 0)⟩, ⟨(some 38), none, .mv (.t 1)⟩, ⟨(some 39), none, .call i_strings_Index [(.t 37), (.t 38)]⟩, ⟨(some 11), none, .mv (.t 39)⟩])
    (.seq (.seq (.region [⟨(some 40), none, .mv (.t 11)⟩, ⟨(some 41), none, .bin .lss (.t 40) (.c (.int .i64 0))⟩])
    (.cond (.t 41)
      (.exit 0)
      .skip))
    (.seq (.region [⟨(some 42), none, .mv (.t 9)⟩, ⟨(some 43), none, .mv (.t 10)⟩, ⟨(some 44), none, .mv (.t 0)⟩, ⟨(some 45), none, .mv (.t 11)⟩, ⟨(some 46), none, .mv (.t 2)⟩, ⟨(some 47), none, .bin .add (.t 45) (.t 46)⟩, ⟨(some 48), none, .slstr (.t 44) none (some (.t 47))⟩, ⟨(some 49), none, .ixaSl 1 (.t 42) (.t 43)⟩, ⟨none, none, .store 1 (.t 49) (.t 48)⟩])
    (.seq (.region [⟨(some 50), none, .mv (.t 0)⟩, ⟨(some 51), none, .mv (.t 11)⟩, ⟨(some 52), none, .mv (.t 1)⟩, ⟨(some 53), none, .len 0 (.t 52)⟩, ⟨(some 54), none, .bin .add (.t 51) (.t 53)⟩, ⟨(some 55), none, .slstr (.t 50) (some (.t 54)) none⟩, ⟨(some 0), none, .mv (.t 55)⟩])
    (.region [⟨(some 56), none, .mv (.t 10)⟩, ⟨(some 57), none, .bin .add (.t 56) (.c (.int .i64 1))⟩, ⟨(some 10), none, .mv (.t 57)⟩])))))))))
  (.seq (.region [⟨(some 58), none, .mv (.t 9)⟩, ⟨(some 59), none, .mv (.t 10)⟩, ⟨(some 60), none, .mv (.t 0)⟩, ⟨(some 61), none, .ixaSl 1 (.t 58) (.t 59)⟩, ⟨none, none, .store 1 (.t 61) (.t 60)⟩])
  (.seq (.region [⟨(some 62), none, .mv (.t 9)⟩, ⟨(some 63), none, .mv (.t 10)⟩, ⟨(some 64), none, .bin .add (.t 63) (.c (.int .i64 1))⟩, ⟨(some 65), none, .slsl 1 (.t 62) none (some (.t 64)) none⟩, ⟨(some 8), none, .mv (.t 65)⟩])
  .ret)))))))))))⟩
/-- strings.Index -/
def c_strings_Index : FnC := ⟨8, [.tmp 4],
  (.seq (.region [⟨(some 4), none, .mv (.c (.int .i64 0))⟩])
  (.seq (.region [⟨(some 5), none, .mv (.t 0)⟩, ⟨(some 6), none, .mv (.t 1)⟩, ⟨(some 7), none, .call i_internal_stringslite_Index [(.t 5), (.t 6)]⟩, ⟨(some 4), none, .mv (.t 7)⟩])
  .ret))⟩
def tab : List (FuncId × FnC) := [(i_gatepostlaw03_LineWrites, c_gatepostlaw03_LineWrites), (i_gatepostlaw03_LineReads, c_gatepostlaw03_LineReads), (i_gatepostlaw03_LineWords, c_gatepostlaw03_LineWords), (i_gatepostlaw03_LineBack, c_gatepostlaw03_LineBack), (i_line_RequestLine, c_line_RequestLine), (i_gatepostref03_RequestLine, c_gatepostref03_RequestLine), (i_line_StatusLine, c_line_StatusLine), (i_gatepostref03_StatusLine, c_gatepostref03_StatusLine), (i_line_Request, c_line_Request), (i_gatepostref03_Request, c_gatepostref03_Request), (i_line_Status, c_line_Status), (i_gatepostref03_Status, c_gatepostref03_Status), (i_gatepostlaw03_names, c_gatepostlaw03_names), (i_token_Is, c_token_Is), (i_line_isTarget, c_line_isTarget), (i_line_isMinor, c_line_isMinor), (i_line_fits, c_line_fits), (i_gatepostref01_Is, c_gatepostref01_Is), (i_gatepostref03_target, c_gatepostref03_target), (i_line_isReason, c_line_isReason), (i_gatepostref03_reason, c_gatepostref03_reason), (i_line_words, c_line_words), (i_line_version, c_line_version), (i_gatepostref03_version, c_gatepostref03_version), (i_line_Status_1, c_line_Status_1), (i_strings_Cut, c_strings_Cut), (i_token_Number, c_token_Number), (i_gatepostref01_Number, c_gatepostref01_Number), (i_token_all, c_token_all), (i_token_inToken, c_token_inToken), (i_gatepostref01_tchar, c_gatepostref01_tchar), (i_strings_Split, c_strings_Split), (i_internal_stringslite_Cut, c_internal_stringslite_Cut), (i_token_Number_1, c_token_Number_1), (i_token_marks, c_token_marks), (i_strings_genSplit, c_strings_genSplit), (i_strings_Index, c_strings_Index)]
def F (f : FuncId) : Option FnC := tab.lookup f
theorem F_gatepostlaw03_LineWrites : F i_gatepostlaw03_LineWrites = some c_gatepostlaw03_LineWrites := rfl
theorem kc_gatepostlaw03_LineWrites : compF Tryd.prog i_gatepostlaw03_LineWrites = some c_gatepostlaw03_LineWrites := by kernel_rfl
theorem F_gatepostlaw03_LineReads : F i_gatepostlaw03_LineReads = some c_gatepostlaw03_LineReads := rfl
theorem kc_gatepostlaw03_LineReads : compF Tryd.prog i_gatepostlaw03_LineReads = some c_gatepostlaw03_LineReads := by kernel_rfl
theorem F_gatepostlaw03_LineWords : F i_gatepostlaw03_LineWords = some c_gatepostlaw03_LineWords := rfl
theorem kc_gatepostlaw03_LineWords : compF Tryd.prog i_gatepostlaw03_LineWords = some c_gatepostlaw03_LineWords := by kernel_rfl
theorem F_gatepostlaw03_LineBack : F i_gatepostlaw03_LineBack = some c_gatepostlaw03_LineBack := rfl
theorem kc_gatepostlaw03_LineBack : compF Tryd.prog i_gatepostlaw03_LineBack = some c_gatepostlaw03_LineBack := by kernel_rfl
theorem F_line_RequestLine : F i_line_RequestLine = some c_line_RequestLine := rfl
theorem kc_line_RequestLine : compF Tryd.prog i_line_RequestLine = some c_line_RequestLine := by kernel_rfl
theorem F_gatepostref03_RequestLine : F i_gatepostref03_RequestLine = some c_gatepostref03_RequestLine := rfl
theorem kc_gatepostref03_RequestLine : compF Tryd.prog i_gatepostref03_RequestLine = some c_gatepostref03_RequestLine := by kernel_rfl
theorem F_line_StatusLine : F i_line_StatusLine = some c_line_StatusLine := rfl
theorem kc_line_StatusLine : compF Tryd.prog i_line_StatusLine = some c_line_StatusLine := by kernel_rfl
theorem F_gatepostref03_StatusLine : F i_gatepostref03_StatusLine = some c_gatepostref03_StatusLine := rfl
theorem kc_gatepostref03_StatusLine : compF Tryd.prog i_gatepostref03_StatusLine = some c_gatepostref03_StatusLine := by kernel_rfl
theorem F_line_Request : F i_line_Request = some c_line_Request := rfl
theorem kc_line_Request : compF Tryd.prog i_line_Request = some c_line_Request := by kernel_rfl
theorem F_gatepostref03_Request : F i_gatepostref03_Request = some c_gatepostref03_Request := rfl
theorem kc_gatepostref03_Request : compF Tryd.prog i_gatepostref03_Request = some c_gatepostref03_Request := by kernel_rfl
theorem F_line_Status : F i_line_Status = some c_line_Status := rfl
theorem kc_line_Status : compF Tryd.prog i_line_Status = some c_line_Status := by kernel_rfl
theorem F_gatepostref03_Status : F i_gatepostref03_Status = some c_gatepostref03_Status := rfl
theorem kc_gatepostref03_Status : compF Tryd.prog i_gatepostref03_Status = some c_gatepostref03_Status := by kernel_rfl
theorem F_gatepostlaw03_names : F i_gatepostlaw03_names = some c_gatepostlaw03_names := rfl
theorem kc_gatepostlaw03_names : compF Tryd.prog i_gatepostlaw03_names = some c_gatepostlaw03_names := by kernel_rfl
theorem F_token_Is : F i_token_Is = some c_token_Is := rfl
theorem kc_token_Is : compF Tryd.prog i_token_Is = some c_token_Is := by kernel_rfl
theorem F_line_isTarget : F i_line_isTarget = some c_line_isTarget := rfl
theorem kc_line_isTarget : compF Tryd.prog i_line_isTarget = some c_line_isTarget := by kernel_rfl
theorem F_line_isMinor : F i_line_isMinor = some c_line_isMinor := rfl
theorem kc_line_isMinor : compF Tryd.prog i_line_isMinor = some c_line_isMinor := by kernel_rfl
theorem F_line_fits : F i_line_fits = some c_line_fits := rfl
theorem kc_line_fits : compF Tryd.prog i_line_fits = some c_line_fits := by kernel_rfl
theorem F_gatepostref01_Is : F i_gatepostref01_Is = some c_gatepostref01_Is := rfl
theorem kc_gatepostref01_Is : compF Tryd.prog i_gatepostref01_Is = some c_gatepostref01_Is := by kernel_rfl
theorem F_gatepostref03_target : F i_gatepostref03_target = some c_gatepostref03_target := rfl
theorem kc_gatepostref03_target : compF Tryd.prog i_gatepostref03_target = some c_gatepostref03_target := by kernel_rfl
theorem F_line_isReason : F i_line_isReason = some c_line_isReason := rfl
theorem kc_line_isReason : compF Tryd.prog i_line_isReason = some c_line_isReason := by kernel_rfl
theorem F_gatepostref03_reason : F i_gatepostref03_reason = some c_gatepostref03_reason := rfl
theorem kc_gatepostref03_reason : compF Tryd.prog i_gatepostref03_reason = some c_gatepostref03_reason := by kernel_rfl
theorem F_line_words : F i_line_words = some c_line_words := rfl
theorem kc_line_words : compF Tryd.prog i_line_words = some c_line_words := by kernel_rfl
theorem F_line_version : F i_line_version = some c_line_version := rfl
theorem kc_line_version : compF Tryd.prog i_line_version = some c_line_version := by kernel_rfl
theorem F_gatepostref03_version : F i_gatepostref03_version = some c_gatepostref03_version := rfl
theorem kc_gatepostref03_version : compF Tryd.prog i_gatepostref03_version = some c_gatepostref03_version := by kernel_rfl
theorem F_line_Status_1 : F i_line_Status_1 = some c_line_Status_1 := rfl
theorem kc_line_Status_1 : compF Tryd.prog i_line_Status_1 = some c_line_Status_1 := by kernel_rfl
theorem F_strings_Cut : F i_strings_Cut = some c_strings_Cut := rfl
theorem kc_strings_Cut : compF Tryd.prog i_strings_Cut = some c_strings_Cut := by kernel_rfl
theorem F_token_Number : F i_token_Number = some c_token_Number := rfl
theorem kc_token_Number : compF Tryd.prog i_token_Number = some c_token_Number := by kernel_rfl
theorem F_gatepostref01_Number : F i_gatepostref01_Number = some c_gatepostref01_Number := rfl
theorem kc_gatepostref01_Number : compF Tryd.prog i_gatepostref01_Number = some c_gatepostref01_Number := by kernel_rfl
theorem F_token_all : F i_token_all = some c_token_all := rfl
theorem kc_token_all : compF Tryd.prog i_token_all = some c_token_all := by kernel_rfl
theorem F_token_inToken : F i_token_inToken = some c_token_inToken := rfl
theorem kc_token_inToken : compF Tryd.prog i_token_inToken = some c_token_inToken := by kernel_rfl
theorem F_gatepostref01_tchar : F i_gatepostref01_tchar = some c_gatepostref01_tchar := rfl
theorem kc_gatepostref01_tchar : compF Tryd.prog i_gatepostref01_tchar = some c_gatepostref01_tchar := by kernel_rfl
theorem F_strings_Split : F i_strings_Split = some c_strings_Split := rfl
theorem kc_strings_Split : compF Tryd.prog i_strings_Split = some c_strings_Split := by kernel_rfl
theorem F_internal_stringslite_Cut : F i_internal_stringslite_Cut = some c_internal_stringslite_Cut := rfl
theorem kc_internal_stringslite_Cut : compF Tryd.prog i_internal_stringslite_Cut = some c_internal_stringslite_Cut := by kernel_rfl
theorem F_token_Number_1 : F i_token_Number_1 = some c_token_Number_1 := rfl
theorem kc_token_Number_1 : compF Tryd.prog i_token_Number_1 = some c_token_Number_1 := by kernel_rfl
theorem F_token_marks : F i_token_marks = some c_token_marks := rfl
theorem kc_token_marks : compF Tryd.prog i_token_marks = some c_token_marks := by kernel_rfl
theorem F_strings_genSplit : F i_strings_genSplit = some c_strings_genSplit := rfl
theorem kc_strings_genSplit : compF Tryd.prog i_strings_genSplit = some c_strings_genSplit := by kernel_rfl
theorem F_strings_Index : F i_strings_Index = some c_strings_Index := rfl
theorem kc_strings_Index : compF Tryd.prog i_strings_Index = some c_strings_Index := by kernel_rfl
def p_gatepostlaw03_LineWrites (L : FuncId → List V → V → Prop) (K : V → Heap → Prop) (a0 a1 a2 : V) (h : Heap) : Prop :=
    (wi F L (.box (.c a2)) E0 h fun v5 h =>
    (wi F L (.ixaArr 2 1 (.c v5) (.c (.int .i64 0))) E0 h fun v20 h =>
    (wi F L (.load false 1 (.c v20)) E0 h fun v21 h =>
    (wi F L (.call i_line_RequestLine [(.c a0), (.c a1), (.c v21)]) E0 h fun v22 h =>
    (wi F L (.ext 0 (.c v22)) E0 h fun v23 h =>
    (wi F L (.ext 1 (.c v22)) E0 h fun v24 h =>
    (wi F L (.ixaArr 2 1 (.c v5) (.c (.int .i64 0))) E0 h fun v28 h =>
    (wi F L (.load false 1 (.c v28)) E0 h fun v29 h =>
    (wi F L (.call i_gatepostref03_RequestLine [(.c a0), (.c a1), (.c v29)]) E0 h fun v30 h =>
    (wi F L (.ext 0 (.c v30)) E0 h fun v31 h =>
    (wi F L (.ext 1 (.c v30)) E0 h fun v32 h =>
    (wi F L (.ixaArr 2 1 (.c v5) (.c (.int .i64 0))) E0 h fun v34 h =>
    (wi F L (.load false 1 (.c v34)) E0 h fun v35 h =>
    (wi F L (.ixaArr 2 1 (.c v5) (.c (.int .i64 1))) E0 h fun v36 h =>
    (wi F L (.load false 1 (.c v36)) E0 h fun v37 h =>
    (wi F L (.call i_line_StatusLine [(.c v35), (.c v37), (.c a0)]) E0 h fun v39 h =>
    (wi F L (.ext 0 (.c v39)) E0 h fun v40 h =>
    (wi F L (.ext 1 (.c v39)) E0 h fun v41 h =>
    (wi F L (.ixaArr 2 1 (.c v5) (.c (.int .i64 0))) E0 h fun v43 h =>
    (wi F L (.load false 1 (.c v43)) E0 h fun v44 h =>
    (wi F L (.ixaArr 2 1 (.c v5) (.c (.int .i64 1))) E0 h fun v45 h =>
    (wi F L (.load false 1 (.c v45)) E0 h fun v46 h =>
    (wi F L (.call i_gatepostref03_StatusLine [(.c v44), (.c v46), (.c a0)]) E0 h fun v48 h =>
    (wi F L (.ext 0 (.c v48)) E0 h fun v49 h =>
    (wi F L (.ext 1 (.c v48)) E0 h fun v50 h =>
    (wi F L (.call i_line_StatusLine [(.c (.int .i64 1)), (.c (.int .i64 204)), (.c (.str []))]) E0 h fun v52 h =>
    (wi F L (.ext 0 (.c v52)) E0 h fun v53 h =>
    (wi F L (.ext 1 (.c v52)) E0 h fun v54 h =>
    (wi F L (.bin .eql (.c v23) (.c v31)) E0 h fun v57 h =>
    (wg v57 true (wi F L (.mv (.c v24)) E0 h) h fun v59 h =>
    (wg v57 true (wi F L (.mv (.c v32)) E0 h) h fun v60 h =>
    (wg v57 true (wi F L (.bin .eql (.c v59) (.c v60)) E0 h) h fun v61 h =>
    (wi F L (.pick (.c v57) (.c v61) (.c (.bool false))) E0 h fun v62 h =>
    (wg v62 true (wi F L (.mv (.c v40)) E0 h) h fun v64 h =>
    (wg v62 true (wi F L (.mv (.c v49)) E0 h) h fun v65 h =>
    (wg v62 true (wi F L (.bin .eql (.c v64) (.c v65)) E0 h) h fun v66 h =>
    (wi F L (.pick (.c v62) (.c v66) (.c (.bool false))) E0 h fun v67 h =>
    (wg v67 true (wi F L (.mv (.c v41)) E0 h) h fun v69 h =>
    (wg v67 true (wi F L (.mv (.c v50)) E0 h) h fun v70 h =>
    (wg v67 true (wi F L (.bin .eql (.c v69) (.c v70)) E0 h) h fun v71 h =>
    (wi F L (.pick (.c v67) (.c v71) (.c (.bool false))) E0 h fun v72 h =>
    (wg v72 true (wi F L (.mv (.c v53)) E0 h) h fun v74 h =>
    (wg v72 true (wi F L (.bin .eql (.c v74) (.c (.str [72, 84, 84, 80, 47, 49, 46, 49, 32, 50, 48, 52, 32]))) E0 h) h fun v75 h =>
    (wi F L (.pick (.c v72) (.c v75) (.c (.bool false))) E0 h fun v76 h =>
    (wg v76 true (wi F L (.mv (.c v54)) E0 h) h fun v78 h =>
    (wg v76 true (wi F L (.bin .eql (.c v78) (.c (.int .i64 0))) E0 h) h fun v79 h =>
    (wi F L (.pick (.c v76) (.c v79) (.c (.bool false))) E0 h fun v80 h =>
    (∃ v, some v80 = some v ∧ K v h))))))))))))))))))))))))))))))))))))))))))))))))
theorem run_gatepostlaw03_LineWrites {L : FuncId → List V → V → Prop} {K : V → Heap → Prop} {a0 a1 a2 : V} {h : Heap} (hp : p_gatepostlaw03_LineWrites L K a0 a1 a2 h) : Cf F L i_gatepostlaw03_LineWrites [a0, a1, a2] h K :=
  wcallp F_gatepostlaw03_LineWrites (show 3 ≤ 81 by decide) (p := p_gatepostlaw03_LineWrites L K a0 a1 a2 h) (by kernel_rfl) hp
def p_gatepostlaw03_LineReads (L : FuncId → List V → V → Prop) (K : V → Heap → Prop) (a0 : V) (h : Heap) : Prop :=
    (wi F L (.call i_line_Request [(.c a0)]) E0 h fun v21 h =>
    (wi F L (.ext 0 (.c v21)) E0 h fun v22 h =>
    (wi F L (.ext 1 (.c v21)) E0 h fun v23 h =>
    (wi F L (.ext 2 (.c v21)) E0 h fun v24 h =>
    (wi F L (.ext 3 (.c v21)) E0 h fun v25 h =>
    (wi F L (.call i_gatepostref03_Request [(.c a0)]) E0 h fun v28 h =>
    (wi F L (.ext 0 (.c v28)) E0 h fun v29 h =>
    (wi F L (.ext 1 (.c v28)) E0 h fun v30 h =>
    (wi F L (.ext 2 (.c v28)) E0 h fun v31 h =>
    (wi F L (.ext 3 (.c v28)) E0 h fun v32 h =>
    (wi F L (.call i_line_Status [(.c a0)]) E0 h fun v35 h =>
    (wi F L (.ext 0 (.c v35)) E0 h fun v36 h =>
    (wi F L (.ext 1 (.c v35)) E0 h fun v37 h =>
    (wi F L (.ext 2 (.c v35)) E0 h fun v38 h =>
    (wi F L (.ext 3 (.c v35)) E0 h fun v39 h =>
    (wi F L (.call i_gatepostref03_Status [(.c a0)]) E0 h fun v42 h =>
    (wi F L (.ext 0 (.c v42)) E0 h fun v43 h =>
    (wi F L (.ext 1 (.c v42)) E0 h fun v44 h =>
    (wi F L (.ext 2 (.c v42)) E0 h fun v45 h =>
    (wi F L (.ext 3 (.c v42)) E0 h fun v46 h =>
    (wi F L (.bin .eql (.c v22) (.c v29)) E0 h fun v49 h =>
    (wg v49 true (wi F L (.mv (.c v23)) E0 h) h fun v51 h =>
    (wg v49 true (wi F L (.mv (.c v30)) E0 h) h fun v52 h =>
    (wg v49 true (wi F L (.bin .eql (.c v51) (.c v52)) E0 h) h fun v53 h =>
    (wi F L (.pick (.c v49) (.c v53) (.c (.bool false))) E0 h fun v54 h =>
    (wg v54 true (wi F L (.mv (.c v24)) E0 h) h fun v56 h =>
    (wg v54 true (wi F L (.mv (.c v31)) E0 h) h fun v57 h =>
    (wg v54 true (wi F L (.bin .eql (.c v56) (.c v57)) E0 h) h fun v58 h =>
    (wi F L (.pick (.c v54) (.c v58) (.c (.bool false))) E0 h fun v59 h =>
    (wg v59 true (wi F L (.mv (.c v25)) E0 h) h fun v61 h =>
    (wg v59 true (wi F L (.mv (.c v32)) E0 h) h fun v62 h =>
    (wg v59 true (wi F L (.bin .eql (.c v61) (.c v62)) E0 h) h fun v63 h =>
    (wi F L (.pick (.c v59) (.c v63) (.c (.bool false))) E0 h fun v64 h =>
    (wg v64 true (wi F L (.mv (.c v36)) E0 h) h fun v66 h =>
    (wg v64 true (wi F L (.mv (.c v43)) E0 h) h fun v67 h =>
    (wg v64 true (wi F L (.bin .eql (.c v66) (.c v67)) E0 h) h fun v68 h =>
    (wi F L (.pick (.c v64) (.c v68) (.c (.bool false))) E0 h fun v69 h =>
    (wg v69 true (wi F L (.mv (.c v37)) E0 h) h fun v71 h =>
    (wg v69 true (wi F L (.mv (.c v44)) E0 h) h fun v72 h =>
    (wg v69 true (wi F L (.bin .eql (.c v71) (.c v72)) E0 h) h fun v73 h =>
    (wi F L (.pick (.c v69) (.c v73) (.c (.bool false))) E0 h fun v74 h =>
    (wg v74 true (wi F L (.mv (.c v38)) E0 h) h fun v76 h =>
    (wg v74 true (wi F L (.mv (.c v45)) E0 h) h fun v77 h =>
    (wg v74 true (wi F L (.bin .eql (.c v76) (.c v77)) E0 h) h fun v78 h =>
    (wi F L (.pick (.c v74) (.c v78) (.c (.bool false))) E0 h fun v79 h =>
    (wg v79 true (wi F L (.mv (.c v39)) E0 h) h fun v81 h =>
    (wg v79 true (wi F L (.mv (.c v46)) E0 h) h fun v82 h =>
    (wg v79 true (wi F L (.bin .eql (.c v81) (.c v82)) E0 h) h fun v83 h =>
    (wi F L (.pick (.c v79) (.c v83) (.c (.bool false))) E0 h fun v84 h =>
    (wg v84 true (wi F L (.call i_gatepostlaw03_names []) E0 h) h fun v86 h =>
    (wi F L (.pick (.c v84) (.c v86) (.c (.bool false))) E0 h fun v87 h =>
    (∃ v, some v87 = some v ∧ K v h))))))))))))))))))))))))))))))))))))))))))))))))))))
theorem run_gatepostlaw03_LineReads {L : FuncId → List V → V → Prop} {K : V → Heap → Prop} {a0 : V} {h : Heap} (hp : p_gatepostlaw03_LineReads L K a0 h) : Cf F L i_gatepostlaw03_LineReads [a0] h K :=
  wcallp F_gatepostlaw03_LineReads (show 1 ≤ 88 by decide) (p := p_gatepostlaw03_LineReads L K a0 h) (by kernel_rfl) hp
def k_gatepostlaw03_LineWords_1 (L : FuncId → List V → V → Prop) (K : V → Heap → Prop) (v1 : V) (h : Heap) : Prop :=
    (wi F L (.bin .quo (.c v1) (.c (.int .i64 100))) E0 h fun v56 h =>
    (wi F L (.bin .add (.c (.int .i64 48)) (.c v56)) E0 h fun v57 h =>
    (wi F L (.toInt .u8 (.c v57)) E0 h fun v58 h =>
    (wi F L (.bin .quo (.c v1) (.c (.int .i64 10))) E0 h fun v60 h =>
    (wi F L (.bin .rem (.c v60) (.c (.int .i64 10))) E0 h fun v61 h =>
    (wi F L (.bin .add (.c (.int .i64 48)) (.c v61)) E0 h fun v62 h =>
    (wi F L (.toInt .u8 (.c v62)) E0 h fun v63 h =>
    (wi F L (.bin .rem (.c v1) (.c (.int .i64 10))) E0 h fun v65 h =>
    (wi F L (.bin .add (.c (.int .i64 48)) (.c v65)) E0 h fun v66 h =>
    (wi F L (.toInt .u8 (.c v66)) E0 h fun v67 h =>
    (wi F L (.bsl 1 [(.c v58), (.c v63), (.c v67)]) E0 h fun v68 h =>
    (wi F L (.toStr (.c v68)) E0 h fun v69 h =>
    (wi F L (.bin .add (.c (.str [72, 84, 84, 80, 47, 49, 46, 48, 32])) (.c v69)) E0 h fun v70 h =>
    (wi F L (.call i_line_Status [(.c v70)]) E0 h fun v73 h =>
    (wi F L (.ext 0 (.c v73)) E0 h fun v74 h =>
    (wi F L (.ext 1 (.c v73)) E0 h fun v75 h =>
    (wi F L (.ext 2 (.c v73)) E0 h fun v76 h =>
    (wi F L (.ext 3 (.c v73)) E0 h fun v77 h =>
    (wi F L (.bin .add (.c v70) (.c (.str [32, 97, 32, 98, 32, 99]))) E0 h fun v80 h =>
    (wi F L (.call i_line_Status [(.c v80)]) E0 h fun v81 h =>
    (wi F L (.ext 0 (.c v81)) E0 h fun v82 h =>
    (wi F L (.ext 1 (.c v81)) E0 h fun v83 h =>
    (wi F L (.ext 2 (.c v81)) E0 h fun v84 h =>
    (wi F L (.ext 3 (.c v81)) E0 h fun v85 h =>
    (wi F L (.bin .eql (.c v77) (.c (.int .i64 0))) E0 h fun v87 h =>
    (wg v87 true (wi F L (.mv (.c v85)) E0 h) h fun v89 h =>
    (wg v87 true (wi F L (.bin .eql (.c v89) (.c (.int .i64 0))) E0 h) h fun v90 h =>
    (wi F L (.pick (.c v87) (.c v90) (.c (.bool false))) E0 h fun v91 h =>
    (wg v91 true (wi F L (.mv (.c v74)) E0 h) h fun v93 h =>
    (wg v91 true (wi F L (.bin .eql (.c v93) (.c (.int .i64 0))) E0 h) h fun v94 h =>
    (wi F L (.pick (.c v91) (.c v94) (.c (.bool false))) E0 h fun v95 h =>
    (wg v95 true (wi F L (.mv (.c v75)) E0 h) h fun v97 h =>
    (wg v95 true (wi F L (.mv (.c v1)) E0 h) h fun v98 h =>
    (wg v95 true (wi F L (.bin .eql (.c v97) (.c v98)) E0 h) h fun v99 h =>
    (wi F L (.pick (.c v95) (.c v99) (.c (.bool false))) E0 h fun v100 h =>
    (wg v100 true (wi F L (.mv (.c v76)) E0 h) h fun v102 h =>
    (wg v100 true (wi F L (.bin .eql (.c v102) (.c (.str []))) E0 h) h fun v103 h =>
    (wi F L (.pick (.c v100) (.c v103) (.c (.bool false))) E0 h fun v104 h =>
    (wg v104 true (wi F L (.mv (.c v82)) E0 h) h fun v106 h =>
    (wg v104 true (wi F L (.bin .eql (.c v106) (.c (.int .i64 0))) E0 h) h fun v107 h =>
    (wi F L (.pick (.c v104) (.c v107) (.c (.bool false))) E0 h fun v108 h =>
    (wg v108 true (wi F L (.mv (.c v83)) E0 h) h fun v110 h =>
    (wg v108 true (wi F L (.mv (.c v1)) E0 h) h fun v111 h =>
    (wg v108 true (wi F L (.bin .eql (.c v110) (.c v111)) E0 h) h fun v112 h =>
    (wi F L (.pick (.c v108) (.c v112) (.c (.bool false))) E0 h fun v113 h =>
    (wg v113 true (wi F L (.mv (.c v84)) E0 h) h fun v115 h =>
    (wg v113 true (wi F L (.bin .eql (.c v115) (.c (.str [97, 32, 98, 32, 99]))) E0 h) h fun v116 h =>
    (wi F L (.pick (.c v113) (.c v116) (.c (.bool false))) E0 h fun v117 h =>
    (∃ v, some v117 = some v ∧ K v h)))))))))))))))))))))))))))))))))))))))))))))))))
def k_gatepostlaw03_LineWords_0 (L : FuncId → List V → V → Prop) (K : V → Heap → Prop) (v0 v1 v5 : V) (h : Heap) : Prop :=
    (wi F L (.bin .add (.c v5) (.c (.str [32, 72, 84, 84, 80, 47, 49, 46, 49]))) E0 h fun v34 h =>
    (wi F L (.call i_line_Request [(.c v34)]) E0 h fun v37 h =>
    (wi F L (.ext 0 (.c v37)) E0 h fun v38 h =>
    (wi F L (.ext 1 (.c v37)) E0 h fun v39 h =>
    (wi F L (.ext 2 (.c v37)) E0 h fun v40 h =>
    (wi F L (.ext 3 (.c v37)) E0 h fun v41 h =>
    (wi F L (.bin .eql (.c v41) (.c (.int .i64 0))) E0 h fun v43 h =>
    (wi F L (.bin .eql (.c v0) (.c (.int .i64 3))) E0 h fun v45 h =>
    (wi F L (.eq .bool true (.c v43) (.c v45)) E0 h fun v46 h =>
    (wg v46 false (wi F L (.mv (.c v41)) E0 h) h fun v48 h =>
    (wg v46 false (wi F L (.bin .neq (.c v48) (.c (.int .i64 0))) E0 h) h fun v49 h =>
    (wg v46 false (wi F L (.mv (.c v49)) E0 h) h fun v50 h =>
    (wg v50 true (wi F L (.mv (.c v41)) E0 h) h fun v51 h =>
    (wg v50 true (wi F L (.bin .neq (.c v51) (.c (.int .i64 30))) E0 h) h fun v52 h =>
    (wg v46 false (wi F L (.pick (.c v50) (.c v52) (.c (.bool false))) E0 h) h fun v53 h =>
    (wi F L (.pick (.c v46) (.c (.bool true)) (.c v53)) E0 h fun v54 h =>
    (wb v54
    (∃ v, some (.bool false) = some v ∧ K v h)
    (k_gatepostlaw03_LineWords_1 L K v1 h))))))))))))))))))
def k_gatepostlaw03_LineWords_3 (L : FuncId → List V → V → Prop) (K : V → Heap → Prop) (N0 : Env → Heap → Prop) (e : Env) (v6 : V) (h : Heap) : Prop :=
    (wi F L (.bin .add (.c v6) (.c (.int .i64 1))) E0 h fun v30 h =>
    (N0 (upd (upd (upd e 29 v6) 30 v30) 6 v30) h))
def k_gatepostlaw03_LineWords_2 (L : FuncId → List V → V → Prop) (K : V → Heap → Prop) (N0 : Env → Heap → Prop) (e : Env) (v5 v6 : V) (h : Heap) : Prop :=
    (wi F L (.bin .add (.c v5) (.c (.str [32, 47]))) E0 h fun v32 h =>
    (k_gatepostlaw03_LineWords_3 L K N0 (upd (upd (upd e 31 v5) 32 v32) 5 v32) v6 h))
def q_gatepostlaw03_LineWords_0 (L : FuncId → List V → V → Prop) (K : V → Heap → Prop) : X → Env → Heap → Prop := (fun x => (seqX (fun e h => k_gatepostlaw03_LineWords_0 L K (e 0) (e 1) (e 5) h) (retX c_gatepostlaw03_LineWords.results K)) (X.out 0 x))
def lc_gatepostlaw03_LineWords_0 : C :=
  (.seq (.seq (.region [⟨(some 25), none, .mv (.t 6)⟩, ⟨(some 26), none, .mv (.t 0)⟩, ⟨(some 27), none, .bin .sub (.t 26) (.c (.int .i64 1))⟩, ⟨(some 28), none, .bin .lss (.t 25) (.t 27)⟩])
  (.cond (.t 28)
    .skip
    (.exit 0)))
  (.seq (.block 1 (.region [⟨(some 31), none, .mv (.t 5)⟩, ⟨(some 32), none, .bin .add (.t 31) (.c (.str [32, 47]))⟩, ⟨(some 5), none, .mv (.t 32)⟩]))
  (.region [⟨(some 29), none, .mv (.t 6)⟩, ⟨(some 30), none, .bin .add (.t 29) (.c (.int .i64 1))⟩, ⟨(some 6), none, .mv (.t 30)⟩])))
def b_gatepostlaw03_LineWords_0 (L : FuncId → List V → V → Prop) (K : V → Heap → Prop) (N0 : Env → Heap → Prop) (e : Env) (h : Heap) : Prop :=
    (wi F L (.bin .sub (.c (e 0)) (.c (.int .i64 1))) E0 h fun v27 h =>
    (wi F L (.bin .lss (.c (e 6)) (.c v27)) E0 h fun v28 h =>
    (wb v28
    (k_gatepostlaw03_LineWords_2 L K N0 (upd (upd (upd (upd e 25 (e 6)) 26 (e 0)) 27 v27) 28 v28) (e 5) (e 6) h)
    (k_gatepostlaw03_LineWords_0 L K (e 0) (e 1) (e 5) h))))
theorem l_gatepostlaw03_LineWords_0 {L : FuncId → List V → V → Prop} {K : V → Heap → Prop} (I : Nat → Env → Heap → Prop) (hr : ∀ n e h, I n e h → b_gatepostlaw03_LineWords_0 L K (fun e' h' => ∃ m, m < n ∧ I m e' h') e h) {n : Nat} {e : Env} {h : Heap} (hi : I n e h) : Wl F L lc_gatepostlaw03_LineWords_0 (q_gatepostlaw03_LineWords_0 L K) e h :=
  wloopp (b := b_gatepostlaw03_LineWords_0 L K) I (fun _ _ _ => by kernel_rfl) hr hi
def p_gatepostlaw03_LineWords (L : FuncId → List V → V → Prop) (K : V → Heap → Prop) (a0 a1 : V) (h : Heap) : Prop :=
    (wi F L (.bin .and (.c a0) (.c (.int .i64 7))) E0 h fun v20 h =>
    (wi F L (.bin .and (.c a1) (.c (.int .i64 511))) E0 h fun v22 h =>
    (wi F L (.bin .rem (.c v22) (.c (.int .i64 500))) E0 h fun v23 h =>
    (wi F L (.bin .add (.c (.int .i64 100)) (.c v23)) E0 h fun v24 h =>
    (Wl F L lc_gatepostlaw03_LineWords_0 (q_gatepostlaw03_LineWords_0 L K) (upd (upd (upd (upd (upd (upd (upd (upd (upd (upd (upd (enterE [a0, a1]) 4 (.bool false)) 19 a0) 20 v20) 0 v20) 21 a1) 22 v22) 23 v23) 24 v24) 1 v24) 5 (.str [71, 69, 84])) 6 (.int .i64 1)) h)))))
theorem run_gatepostlaw03_LineWords {L : FuncId → List V → V → Prop} {K : V → Heap → Prop} {a0 a1 : V} {h : Heap} (hp : p_gatepostlaw03_LineWords L K a0 a1 h) : Cf F L i_gatepostlaw03_LineWords [a0, a1] h K :=
  wcallp F_gatepostlaw03_LineWords (show 2 ≤ 118 by decide) (p := p_gatepostlaw03_LineWords L K a0 a1 h) (by kernel_rfl) hp
def k_gatepostlaw03_LineBack_2 (L : FuncId → List V → V → Prop) (K : V → Heap → Prop) (h : Heap) : Prop :=
    (wi F L (.call i_line_Request [(.c (.str [71, 69, 84, 32, 47, 32, 72, 84, 84, 80, 47, 49, 46, 48]))]) E0 h fun v125 h =>
    (wi F L (.ext 0 (.c v125)) E0 h fun v126 h =>
    (wi F L (.ext 1 (.c v125)) E0 h fun v127 h =>
    (wi F L (.ext 2 (.c v125)) E0 h fun v128 h =>
    (wi F L (.ext 3 (.c v125)) E0 h fun v129 h =>
    (wi F L (.bin .eql (.c v126) (.c (.str [71, 69, 84]))) E0 h fun v131 h =>
    (wg v131 true (wi F L (.mv (.c v129)) E0 h) h fun v133 h =>
    (wg v131 true (wi F L (.bin .eql (.c v133) (.c (.int .i64 0))) E0 h) h fun v134 h =>
    (wi F L (.pick (.c v131) (.c v134) (.c (.bool false))) E0 h fun v135 h =>
    (∃ v, some v135 = some v ∧ K v h))))))))))
def k_gatepostlaw03_LineBack_1 (L : FuncId → List V → V → Prop) (K : V → Heap → Prop) (v0 : V) (h : Heap) : Prop :=
    (wi F L (.call i_line_Request [(.c v0)]) E0 h fun v103 h =>
    (wi F L (.ext 0 (.c v103)) E0 h fun v104 h =>
    (wi F L (.ext 1 (.c v103)) E0 h fun v105 h =>
    (wi F L (.ext 2 (.c v103)) E0 h fun v106 h =>
    (wi F L (.ext 3 (.c v103)) E0 h fun v107 h =>
    (wi F L (.bin .eql (.c v107) (.c (.int .i64 0))) E0 h fun v109 h =>
    (wb v109
    (wi F L (.call i_line_RequestLine [(.c v104), (.c v105), (.c v106)]) E0 h fun v114 h =>
    (wi F L (.ext 0 (.c v114)) E0 h fun v115 h =>
    (wi F L (.ext 1 (.c v114)) E0 h fun v116 h =>
    (wi F L (.bin .eql (.c v116) (.c (.int .i64 0))) E0 h fun v118 h =>
    (wg v118 true (wi F L (.mv (.c v115)) E0 h) h fun v120 h =>
    (wg v118 true (wi F L (.mv (.c v0)) E0 h) h fun v121 h =>
    (wg v118 true (wi F L (.bin .eql (.c v120) (.c v121)) E0 h) h fun v122 h =>
    (wi F L (.pick (.c v118) (.c v122) (.c (.bool false))) E0 h fun v123 h =>
    (∃ v, some v123 = some v ∧ K v h)))))))))
    (k_gatepostlaw03_LineBack_2 L K  h))))))))
def k_gatepostlaw03_LineBack_0 (L : FuncId → List V → V → Prop) (K : V → Heap → Prop) (v0 v1 v5 : V) (h : Heap) : Prop :=
    (wi F L (.ixaArr 2 1 (.c v5) (.c (.int .i64 0))) E0 h fun v65 h =>
    (wi F L (.load false 1 (.c v65)) E0 h fun v66 h =>
    (wi F L (.ixaArr 2 1 (.c v5) (.c (.int .i64 1))) E0 h fun v67 h =>
    (wi F L (.load false 1 (.c v67)) E0 h fun v68 h =>
    (wi F L (.call i_line_StatusLine [(.c v66), (.c v68), (.c v1)]) E0 h fun v70 h =>
    (wi F L (.ext 0 (.c v70)) E0 h fun v71 h =>
    (wi F L (.ext 1 (.c v70)) E0 h fun v72 h =>
    (wi F L (.bin .eql (.c v72) (.c (.int .i64 0))) E0 h fun v74 h =>
    (wb v74
    (wi F L (.call i_line_Status [(.c v71)]) E0 h fun v77 h =>
    (wi F L (.ext 0 (.c v77)) E0 h fun v78 h =>
    (wi F L (.ext 1 (.c v77)) E0 h fun v79 h =>
    (wi F L (.ext 2 (.c v77)) E0 h fun v80 h =>
    (wi F L (.ext 3 (.c v77)) E0 h fun v81 h =>
    (wi F L (.bin .neq (.c v81) (.c (.int .i64 0))) E0 h fun v83 h =>
    (wg v83 false (wi F L (.mv (.c v78)) E0 h) h fun v85 h =>
    (wg v83 false (wi F L (.ixaArr 2 1 (.c v5) (.c (.int .i64 0))) E0 h) h fun v86 h =>
    (wg v83 false (wi F L (.load false 1 (.c v86)) E0 h) h fun v87 h =>
    (wg v83 false (wi F L (.bin .neq (.c v85) (.c v87)) E0 h) h fun v88 h =>
    (wi F L (.pick (.c v83) (.c (.bool true)) (.c v88)) E0 h fun v89 h =>
    (wg v89 false (wi F L (.mv (.c v79)) E0 h) h fun v91 h =>
    (wg v89 false (wi F L (.ixaArr 2 1 (.c v5) (.c (.int .i64 1))) E0 h) h fun v92 h =>
    (wg v89 false (wi F L (.load false 1 (.c v92)) E0 h) h fun v93 h =>
    (wg v89 false (wi F L (.bin .neq (.c v91) (.c v93)) E0 h) h fun v94 h =>
    (wi F L (.pick (.c v89) (.c (.bool true)) (.c v94)) E0 h fun v95 h =>
    (wg v95 false (wi F L (.mv (.c v80)) E0 h) h fun v97 h =>
    (wg v95 false (wi F L (.mv (.c v1)) E0 h) h fun v98 h =>
    (wg v95 false (wi F L (.bin .neq (.c v97) (.c v98)) E0 h) h fun v99 h =>
    (wi F L (.pick (.c v95) (.c (.bool true)) (.c v99)) E0 h fun v100 h =>
    (wb v100
    (∃ v, some (.bool false) = some v ∧ K v h)
    (k_gatepostlaw03_LineBack_1 L K v0 h))))))))))))))))))))))
    (k_gatepostlaw03_LineBack_1 L K v0 h))))))))))
def p_gatepostlaw03_LineBack (L : FuncId → List V → V → Prop) (K : V → Heap → Prop) (a0 a1 a2 : V) (h : Heap) : Prop :=
    (wi F L (.box (.c a2)) E0 h fun v5 h =>
    (wi F L (.ixaArr 2 1 (.c v5) (.c (.int .i64 0))) E0 h fun v32 h =>
    (wi F L (.load false 1 (.c v32)) E0 h fun v33 h =>
    (wi F L (.call i_line_RequestLine [(.c a0), (.c a1), (.c v33)]) E0 h fun v34 h =>
    (wi F L (.ext 0 (.c v34)) E0 h fun v35 h =>
    (wi F L (.ext 1 (.c v34)) E0 h fun v36 h =>
    (wi F L (.bin .eql (.c v36) (.c (.int .i64 0))) E0 h fun v38 h =>
    (wb v38
    (wi F L (.call i_line_Request [(.c v35)]) E0 h fun v41 h =>
    (wi F L (.ext 0 (.c v41)) E0 h fun v42 h =>
    (wi F L (.ext 1 (.c v41)) E0 h fun v43 h =>
    (wi F L (.ext 2 (.c v41)) E0 h fun v44 h =>
    (wi F L (.ext 3 (.c v41)) E0 h fun v45 h =>
    (wi F L (.bin .neq (.c v45) (.c (.int .i64 0))) E0 h fun v47 h =>
    (wg v47 false (wi F L (.mv (.c v42)) E0 h) h fun v49 h =>
    (wg v47 false (wi F L (.mv (.c a0)) E0 h) h fun v50 h =>
    (wg v47 false (wi F L (.bin .neq (.c v49) (.c v50)) E0 h) h fun v51 h =>
    (wi F L (.pick (.c v47) (.c (.bool true)) (.c v51)) E0 h fun v52 h =>
    (wg v52 false (wi F L (.mv (.c v43)) E0 h) h fun v54 h =>
    (wg v52 false (wi F L (.mv (.c a1)) E0 h) h fun v55 h =>
    (wg v52 false (wi F L (.bin .neq (.c v54) (.c v55)) E0 h) h fun v56 h =>
    (wi F L (.pick (.c v52) (.c (.bool true)) (.c v56)) E0 h fun v57 h =>
    (wg v57 false (wi F L (.mv (.c v44)) E0 h) h fun v59 h =>
    (wg v57 false (wi F L (.ixaArr 2 1 (.c v5) (.c (.int .i64 0))) E0 h) h fun v60 h =>
    (wg v57 false (wi F L (.load false 1 (.c v60)) E0 h) h fun v61 h =>
    (wg v57 false (wi F L (.bin .neq (.c v59) (.c v61)) E0 h) h fun v62 h =>
    (wi F L (.pick (.c v57) (.c (.bool true)) (.c v62)) E0 h fun v63 h =>
    (wb v63
    (∃ v, some (.bool false) = some v ∧ K v h)
    (k_gatepostlaw03_LineBack_0 L K a0 a1 v5 h)))))))))))))))))))))
    (k_gatepostlaw03_LineBack_0 L K a0 a1 v5 h)))))))))
theorem run_gatepostlaw03_LineBack {L : FuncId → List V → V → Prop} {K : V → Heap → Prop} {a0 a1 a2 : V} {h : Heap} (hp : p_gatepostlaw03_LineBack L K a0 a1 a2 h) : Cf F L i_gatepostlaw03_LineBack [a0, a1, a2] h K :=
  wcallp F_gatepostlaw03_LineBack (show 3 ≤ 136 by decide) (p := p_gatepostlaw03_LineBack L K a0 a1 a2 h) (by kernel_rfl) hp
def k_line_RequestLine_0 (L : FuncId → List V → V → Prop) (K : V → Heap → Prop) (v0 v1 v2 : V) (h : Heap) : Prop :=
    (wi F L (.bin .add (.c v0) (.c (.str [32]))) E0 h fun v22 h =>
    (wi F L (.bin .add (.c v22) (.c v1)) E0 h fun v24 h =>
    (wi F L (.bin .add (.c v24) (.c (.str [32]))) E0 h fun v25 h =>
    (wi F L (.bin .add (.c v25) (.c (.str [72, 84, 84, 80, 47, 49, 46]))) E0 h fun v26 h =>
    (wi F L (.call i_strconv_Itoa [(.c v2)]) E0 h fun v28 h =>
    (wi F L (.bin .add (.c v26) (.c v28)) E0 h fun v29 h =>
    (wi F L (.call i_line_fits [(.c v29)]) E0 h fun v30 h =>
    (wi F L (.ext 0 (.c v30)) E0 h fun v31 h =>
    (wi F L (.ext 1 (.c v30)) E0 h fun v32 h =>
    (∃ v, resultsV h (enterE [v31, v32]) [.tmp 0, .tmp 1] = some v ∧ K v h))))))))))
def p_line_RequestLine (L : FuncId → List V → V → Prop) (K : V → Heap → Prop) (a0 a1 a2 : V) (h : Heap) : Prop :=
    (wi F L (.call i_token_Is [(.c a0)]) E0 h fun v9 h =>
    (wi F L (.un .not (.c v9)) E0 h fun v10 h =>
    (wg v10 false (wi F L (.mv (.c a1)) E0 h) h fun v12 h =>
    (wg v10 false (wi F L (.call i_line_isTarget [(.c v12)]) E0 h) h fun v13 h =>
    (wg v10 false (wi F L (.un .not (.c v13)) E0 h) h fun v14 h =>
    (wi F L (.pick (.c v10) (.c (.bool true)) (.c v14)) E0 h fun v15 h =>
    (wg v15 false (wi F L (.mv (.c a2)) E0 h) h fun v17 h =>
    (wg v15 false (wi F L (.call i_line_isMinor [(.c v17)]) E0 h) h fun v18 h =>
    (wg v15 false (wi F L (.un .not (.c v18)) E0 h) h fun v19 h =>
    (wi F L (.pick (.c v15) (.c (.bool true)) (.c v19)) E0 h fun v20 h =>
    (wb v20
    (∃ v, resultsV h (enterE [(.str []), (.int .i64 2)]) [.tmp 0, .tmp 1] = some v ∧ K v h)
    (k_line_RequestLine_0 L K a0 a1 a2 h))))))))))))
theorem run_line_RequestLine {L : FuncId → List V → V → Prop} {K : V → Heap → Prop} {a0 a1 a2 : V} {h : Heap} (hp : p_line_RequestLine L K a0 a1 a2 h) : Cf F L i_line_RequestLine [a0, a1, a2] h K :=
  wcallp F_line_RequestLine (show 3 ≤ 33 by decide) (p := p_line_RequestLine L K a0 a1 a2 h) (by kernel_rfl) hp
def k_gatepostref03_RequestLine_1 (L : FuncId → List V → V → Prop) (K : V → Heap → Prop) (v8 : V) (h : Heap) : Prop :=
    (∃ v, resultsV h (enterE [v8, (.int .i64 0)]) [.tmp 0, .tmp 1] = some v ∧ K v h)
def k_gatepostref03_RequestLine_0 (L : FuncId → List V → V → Prop) (K : V → Heap → Prop) (v0 v1 v2 : V) (h : Heap) : Prop :=
    (wi F L (.bin .add (.c v0) (.c (.str [32]))) E0 h fun v26 h =>
    (wi F L (.bin .add (.c v26) (.c v1)) E0 h fun v28 h =>
    (wi F L (.bin .add (.c v28) (.c (.str [32, 72, 84, 84, 80, 47, 49, 46]))) E0 h fun v29 h =>
    (wi F L (.bin .add (.c v2) (.c (.int .i64 1))) E0 h fun v32 h =>
    (wi F L (.slstr (.c (.str [48, 49])) (some (.c v2)) (some (.c v32))) E0 h fun v33 h =>
    (wi F L (.bin .add (.c v29) (.c v33)) E0 h fun v34 h =>
    (wi F L (.len 0 (.c v34)) E0 h fun v36 h =>
    (wi F L (.bin .gtr (.c v36) (.c (.int .i64 1024))) E0 h fun v37 h =>
    (wb v37
    (∃ v, resultsV h (enterE [(.str []), (.int .i64 3)]) [.tmp 0, .tmp 1] = some v ∧ K v h)
    (k_gatepostref03_RequestLine_1 L K v34 h))))))))))
def p_gatepostref03_RequestLine (L : FuncId → List V → V → Prop) (K : V → Heap → Prop) (a0 a1 a2 : V) (h : Heap) : Prop :=
    (wi F L (.call i_gatepostref01_Is [(.c a0)]) E0 h fun v10 h =>
    (wi F L (.un .not (.c v10)) E0 h fun v11 h =>
    (wg v11 false (wi F L (.mv (.c a1)) E0 h) h fun v13 h =>
    (wg v11 false (wi F L (.call i_gatepostref03_target [(.c v13)]) E0 h) h fun v14 h =>
    (wg v11 false (wi F L (.un .not (.c v14)) E0 h) h fun v15 h =>
    (wi F L (.pick (.c v11) (.c (.bool true)) (.c v15)) E0 h fun v16 h =>
    (wg v16 false (wi F L (.mv (.c a2)) E0 h) h fun v18 h =>
    (wg v16 false (wi F L (.bin .lss (.c v18) (.c (.int .i64 0))) E0 h) h fun v19 h =>
    (wi F L (.pick (.c v16) (.c (.bool true)) (.c v19)) E0 h fun v20 h =>
    (wg v20 false (wi F L (.mv (.c a2)) E0 h) h fun v22 h =>
    (wg v20 false (wi F L (.bin .gtr (.c v22) (.c (.int .i64 1))) E0 h) h fun v23 h =>
    (wi F L (.pick (.c v20) (.c (.bool true)) (.c v23)) E0 h fun v24 h =>
    (wb v24
    (∃ v, resultsV h (enterE [(.str []), (.int .i64 2)]) [.tmp 0, .tmp 1] = some v ∧ K v h)
    (k_gatepostref03_RequestLine_0 L K a0 a1 a2 h))))))))))))))
theorem run_gatepostref03_RequestLine {L : FuncId → List V → V → Prop} {K : V → Heap → Prop} {a0 a1 a2 : V} {h : Heap} (hp : p_gatepostref03_RequestLine L K a0 a1 a2 h) : Cf F L i_gatepostref03_RequestLine [a0, a1, a2] h K :=
  wcallp F_gatepostref03_RequestLine (show 3 ≤ 39 by decide) (p := p_gatepostref03_RequestLine L K a0 a1 a2 h) (by kernel_rfl) hp
def k_line_StatusLine_0 (L : FuncId → List V → V → Prop) (K : V → Heap → Prop) (v0 v1 v2 : V) (h : Heap) : Prop :=
    (wi F L (.call i_strconv_Itoa [(.c v0)]) E0 h fun v25 h =>
    (wi F L (.bin .add (.c (.str [72, 84, 84, 80, 47, 49, 46])) (.c v25)) E0 h fun v26 h =>
    (wi F L (.bin .add (.c v26) (.c (.str [32]))) E0 h fun v27 h =>
    (wi F L (.call i_strconv_Itoa [(.c v1)]) E0 h fun v29 h =>
    (wi F L (.bin .add (.c v27) (.c v29)) E0 h fun v30 h =>
    (wi F L (.bin .add (.c v30) (.c (.str [32]))) E0 h fun v31 h =>
    (wi F L (.bin .add (.c v31) (.c v2)) E0 h fun v33 h =>
    (wi F L (.call i_line_fits [(.c v33)]) E0 h fun v34 h =>
    (wi F L (.ext 0 (.c v34)) E0 h fun v35 h =>
    (wi F L (.ext 1 (.c v34)) E0 h fun v36 h =>
    (∃ v, resultsV h (enterE [v35, v36]) [.tmp 0, .tmp 1] = some v ∧ K v h)))))))))))
def p_line_StatusLine (L : FuncId → List V → V → Prop) (K : V → Heap → Prop) (a0 a1 a2 : V) (h : Heap) : Prop :=
    (wi F L (.call i_line_isMinor [(.c a0)]) E0 h fun v9 h =>
    (wi F L (.un .not (.c v9)) E0 h fun v10 h =>
    (wg v10 false (wi F L (.mv (.c a1)) E0 h) h fun v12 h =>
    (wg v10 false (wi F L (.bin .lss (.c v12) (.c (.int .i64 100))) E0 h) h fun v13 h =>
    (wi F L (.pick (.c v10) (.c (.bool true)) (.c v13)) E0 h fun v14 h =>
    (wg v14 false (wi F L (.mv (.c a1)) E0 h) h fun v16 h =>
    (wg v14 false (wi F L (.bin .gtr (.c v16) (.c (.int .i64 599))) E0 h) h fun v17 h =>
    (wi F L (.pick (.c v14) (.c (.bool true)) (.c v17)) E0 h fun v18 h =>
    (wg v18 false (wi F L (.mv (.c a2)) E0 h) h fun v20 h =>
    (wg v18 false (wi F L (.call i_line_isReason [(.c v20)]) E0 h) h fun v21 h =>
    (wg v18 false (wi F L (.un .not (.c v21)) E0 h) h fun v22 h =>
    (wi F L (.pick (.c v18) (.c (.bool true)) (.c v22)) E0 h fun v23 h =>
    (wb v23
    (∃ v, resultsV h (enterE [(.str []), (.int .i64 2)]) [.tmp 0, .tmp 1] = some v ∧ K v h)
    (k_line_StatusLine_0 L K a0 a1 a2 h))))))))))))))
theorem run_line_StatusLine {L : FuncId → List V → V → Prop} {K : V → Heap → Prop} {a0 a1 a2 : V} {h : Heap} (hp : p_line_StatusLine L K a0 a1 a2 h) : Cf F L i_line_StatusLine [a0, a1, a2] h K :=
  wcallp F_line_StatusLine (show 3 ≤ 37 by decide) (p := p_line_StatusLine L K a0 a1 a2 h) (by kernel_rfl) hp
def k_gatepostref03_StatusLine_1 (L : FuncId → List V → V → Prop) (K : V → Heap → Prop) (v9 : V) (h : Heap) : Prop :=
    (∃ v, resultsV h (enterE [v9, (.int .i64 0)]) [.tmp 0, .tmp 1] = some v ∧ K v h)
def k_gatepostref03_StatusLine_0 (L : FuncId → List V → V → Prop) (K : V → Heap → Prop) (v0 v1 v2 : V) (h : Heap) : Prop :=
    (wi F L (.bin .add (.c v0) (.c (.int .i64 1))) E0 h fun v31 h' => Ext h h' ∧
    (wi F L (.slstr (.c (.str [48, 49])) (some (.c v0)) (some (.c v31))) E0 h' fun v32 h => Ext h' h ∧
    (wi F L (.bin .add (.c (.str [72, 84, 84, 80, 47, 49, 46])) (.c v32)) E0 h fun v33 h' => Ext h h' ∧
    (wi F L (.bin .add (.c v33) (.c (.str [32]))) E0 h' fun v34 h => Ext h' h ∧
    (wi F L (.bin .quo (.c v1) (.c (.int .i64 100))) E0 h fun v37 h' => Ext h h' ∧
    (wi F L (.bin .quo (.c v1) (.c (.int .i64 100))) E0 h' fun v39 h => Ext h' h ∧
    (wi F L (.bin .add (.c v39) (.c (.int .i64 1))) E0 h fun v40 h' => Ext h h' ∧
    (wi F L (.slstr (.c (.str [48, 49, 50, 51, 52, 53, 54, 55, 56, 57])) (some (.c v37)) (some (.c v40))) E0 h' fun v41 h => Ext h' h ∧
    (wi F L (.bin .add (.c v34) (.c v41)) E0 h fun v42 h' => Ext h h' ∧
    (wi F L (.bin .quo (.c v1) (.c (.int .i64 10))) E0 h' fun v45 h => Ext h' h ∧
    (wi F L (.bin .rem (.c v45) (.c (.int .i64 10))) E0 h fun v46 h' => Ext h h' ∧
    (wi F L (.bin .quo (.c v1) (.c (.int .i64 10))) E0 h' fun v48 h => Ext h' h ∧
    (wi F L (.bin .rem (.c v48) (.c (.int .i64 10))) E0 h fun v49 h' => Ext h h' ∧
    (wi F L (.bin .add (.c v49) (.c (.int .i64 1))) E0 h' fun v50 h => Ext h' h ∧
    (wi F L (.slstr (.c (.str [48, 49, 50, 51, 52, 53, 54, 55, 56, 57])) (some (.c v46)) (some (.c v50))) E0 h fun v51 h' => Ext h h' ∧
    (wi F L (.bin .add (.c v42) (.c v51)) E0 h' fun v52 h => Ext h' h ∧
    (wi F L (.bin .rem (.c v1) (.c (.int .i64 10))) E0 h fun v55 h' => Ext h h' ∧
    (wi F L (.bin .rem (.c v1) (.c (.int .i64 10))) E0 h' fun v57 h => Ext h' h ∧
    (wi F L (.bin .add (.c v57) (.c (.int .i64 1))) E0 h fun v58 h' => Ext h h' ∧
    (wi F L (.slstr (.c (.str [48, 49, 50, 51, 52, 53, 54, 55, 56, 57])) (some (.c v55)) (some (.c v58))) E0 h' fun v59 h => Ext h' h ∧
    (wi F L (.bin .add (.c v52) (.c v59)) E0 h fun v60 h' => Ext h h' ∧
    (wi F L (.bin .add (.c v60) (.c (.str [32]))) E0 h' fun v61 h => Ext h' h ∧
    (wi F L (.bin .add (.c v61) (.c v2)) E0 h fun v63 h =>
    (wi F L (.len 0 (.c v63)) E0 h fun v65 h =>
    (wi F L (.bin .gtr (.c v65) (.c (.int .i64 1024))) E0 h fun v66 h =>
    (wb v66
    (∃ v, resultsV h (enterE [(.str []), (.int .i64 3)]) [.tmp 0, .tmp 1] = some v ∧ K v h)
    (k_gatepostref03_StatusLine_1 L K v63 h)))))))))))))))))))))))))))
def p_gatepostref03_StatusLine (L : FuncId → List V → V → Prop) (K : V → Heap → Prop) (a0 a1 a2 : V) (h : Heap) : Prop :=
    (wi F L (.bin .lss (.c a0) (.c (.int .i64 0))) E0 h fun v11 h =>
    (wg v11 false (wi F L (.mv (.c a0)) E0 h) h fun v13 h =>
    (wg v11 false (wi F L (.bin .gtr (.c v13) (.c (.int .i64 1))) E0 h) h fun v14 h =>
    (wi F L (.pick (.c v11) (.c (.bool true)) (.c v14)) E0 h fun v15 h =>
    (wg v15 false (wi F L (.mv (.c a1)) E0 h) h fun v17 h =>
    (wg v15 false (wi F L (.bin .lss (.c v17) (.c (.int .i64 100))) E0 h) h fun v18 h =>
    (wi F L (.pick (.c v15) (.c (.bool true)) (.c v18)) E0 h fun v19 h =>
    (wg v19 false (wi F L (.mv (.c a1)) E0 h) h fun v21 h =>
    (wg v19 false (wi F L (.bin .gtr (.c v21) (.c (.int .i64 599))) E0 h) h fun v22 h =>
    (wi F L (.pick (.c v19) (.c (.bool true)) (.c v22)) E0 h fun v23 h =>
    (wg v23 false (wi F L (.mv (.c a2)) E0 h) h fun v25 h =>
    (wg v23 false (wi F L (.call i_gatepostref03_reason [(.c v25)]) E0 h) h fun v26 h =>
    (wg v23 false (wi F L (.un .not (.c v26)) E0 h) h fun v27 h =>
    (wi F L (.pick (.c v23) (.c (.bool true)) (.c v27)) E0 h fun v28 h =>
    (wb v28
    (∃ v, resultsV h (enterE [(.str []), (.int .i64 2)]) [.tmp 0, .tmp 1] = some v ∧ K v h)
    (k_gatepostref03_StatusLine_0 L K a0 a1 a2 h))))))))))))))))
theorem run_gatepostref03_StatusLine {L : FuncId → List V → V → Prop} {K : V → Heap → Prop} {a0 a1 a2 : V} {h : Heap} (hp : p_gatepostref03_StatusLine L K a0 a1 a2 h) : Cf F L i_gatepostref03_StatusLine [a0, a1, a2] h K :=
  wcallp F_gatepostref03_StatusLine (show 3 ≤ 68 by decide) (p := p_gatepostref03_StatusLine L K a0 a1 a2 h) (by kernel_rfl) hp
def k_line_Request_1 (L : FuncId → List V → V → Prop) (K : V → Heap → Prop) (v6 : V) (h : Heap) : Prop :=
    (wi F L (.ixaSl 1 (.c v6) (.c (.int .i64 0))) E0 h fun v37 h' => Ext h h' ∧
    (wi F L (.load false 1 (.c v37)) E0 h' fun v38 h => Ext h' h ∧
    (wi F L (.ixaSl 1 (.c v6) (.c (.int .i64 1))) E0 h fun v40 h' => Ext h h' ∧
    (wi F L (.load false 1 (.c v40)) E0 h' fun v41 h => Ext h' h ∧
    (wi F L (.ixaSl 1 (.c v6) (.c (.int .i64 2))) E0 h fun v43 h' => Ext h h' ∧
    (wi F L (.load false 1 (.c v43)) E0 h' fun v44 h => Ext h' h ∧
    (wi F L (.call i_line_version [(.c v44)]) E0 h fun v45 h' => Ext h h' ∧
    (∃ v, resultsV h' (enterE [v38, v41, v45, (.int .i64 0)]) [.tmp 0, .tmp 1, .tmp 2, .tmp 3] = some v ∧ K v h'))))))))
def k_line_Request_0 (L : FuncId → List V → V → Prop) (K : V → Heap → Prop) (v0 : V) (h : Heap) : Prop :=
    (wi F L (.call i_line_words [(.c v0)]) E0 h fun v11 h =>
    (wi F L (.len 1 (.c v11)) E0 h fun v13 h =>
    (wi F L (.bin .neq (.c v13) (.c (.int .i64 3))) E0 h fun v14 h =>
    (wg v14 false (wi F L (.mv (.c v11)) E0 h) h fun v16 h =>
    (wg v14 false (wi F L (.ixaSl 1 (.c v16) (.c (.int .i64 0))) E0 h) h fun v17 h =>
    (wg v14 false (wi F L (.load false 1 (.c v17)) E0 h) h fun v18 h =>
    (wg v14 false (wi F L (.call i_token_Is [(.c v18)]) E0 h) h fun v19 h =>
    (wg v14 false (wi F L (.un .not (.c v19)) E0 h) h fun v20 h =>
    (wi F L (.pick (.c v14) (.c (.bool true)) (.c v20)) E0 h fun v21 h =>
    (wg v21 false (wi F L (.mv (.c v11)) E0 h) h fun v23 h =>
    (wg v21 false (wi F L (.ixaSl 1 (.c v23) (.c (.int .i64 1))) E0 h) h fun v24 h =>
    (wg v21 false (wi F L (.load false 1 (.c v24)) E0 h) h fun v25 h =>
    (wg v21 false (wi F L (.call i_line_isTarget [(.c v25)]) E0 h) h fun v26 h =>
    (wg v21 false (wi F L (.un .not (.c v26)) E0 h) h fun v27 h =>
    (wi F L (.pick (.c v21) (.c (.bool true)) (.c v27)) E0 h fun v28 h =>
    (wg v28 false (wi F L (.mv (.c v11)) E0 h) h fun v30 h =>
    (wg v28 false (wi F L (.ixaSl 1 (.c v30) (.c (.int .i64 2))) E0 h) h fun v31 h =>
    (wg v28 false (wi F L (.load false 1 (.c v31)) E0 h) h fun v32 h =>
    (wg v28 false (wi F L (.call i_line_version [(.c v32)]) E0 h) h fun v33 h =>
    (wg v28 false (wi F L (.bin .lss (.c v33) (.c (.int .i64 0))) E0 h) h fun v34 h =>
    (wi F L (.pick (.c v28) (.c (.bool true)) (.c v34)) E0 h fun v35 h =>
    (wb v35
    (∃ v, resultsV h (enterE [(.str []), (.str []), (.int .i64 0), (.int .i64 30)]) [.tmp 0, .tmp 1, .tmp 2, .tmp 3] = some v ∧ K v h)
    (k_line_Request_1 L K v11 h)))))))))))))))))))))))
def p_line_Request (L : FuncId → List V → V → Prop) (K : V → Heap → Prop) (a0 : V) (h : Heap) : Prop :=
    (wi F L (.len 0 (.c a0)) E0 h fun v8 h =>
    (wi F L (.bin .gtr (.c v8) (.c (.int .i64 1024))) E0 h fun v9 h =>
    (wb v9
    (∃ v, resultsV h (enterE [(.str []), (.str []), (.int .i64 0), (.int .i64 3)]) [.tmp 0, .tmp 1, .tmp 2, .tmp 3] = some v ∧ K v h)
    (k_line_Request_0 L K a0 h))))
theorem run_line_Request {L : FuncId → List V → V → Prop} {K : V → Heap → Prop} {a0 : V} {h : Heap} (hp : p_line_Request L K a0 h) : Cf F L i_line_Request [a0] h K :=
  wcallp F_line_Request (show 1 ≤ 46 by decide) (p := p_line_Request L K a0 h) (by kernel_rfl) hp
def k_gatepostref03_Request_1 (L : FuncId → List V → V → Prop) (K : V → Heap → Prop) (h : Heap) : Prop :=
    (∃ v, resultsV h (enterE [(.str []), (.str []), (.int .i64 0), (.int .i64 30)]) [.tmp 0, .tmp 1, .tmp 2, .tmp 3] = some v ∧ K v h)
def k_gatepostref03_Request_3 (L : FuncId → List V → V → Prop) (K : V → Heap → Prop) (N0 : Env → Heap → Prop) (e : Env) (v6 : V) (h : Heap) : Prop :=
    (wi F L (.bin .add (.c v6) (.c (.int .i64 1))) E0 h fun v16 h =>
    (N0 (upd (upd (upd e 15 v6) 16 v16) 6 v16) h))
def k_gatepostref03_Request_6 (L : FuncId → List V → V → Prop) (K : V → Heap → Prop) (N0 N1 : Env → Heap → Prop) (e : Env) (v7 : V) (h : Heap) : Prop :=
    (wi F L (.bin .add (.c v7) (.c (.int .i64 1))) E0 h fun v28 h =>
    (N1 (upd (upd (upd e 27 v7) 28 v28) 7 v28) h))
def k_gatepostref03_Request_5 (L : FuncId → List V → V → Prop) (K : V → Heap → Prop) (N0 N1 : Env → Heap → Prop) (e : Env) (v0 v6 v7 : V) (h : Heap) : Prop :=
    (wi F L (.ixStr (.c v0) (.c v7)) E0 h fun v31 h =>
    (wi F L (.bin .eql (.c v31) (.c (.int .u8 32))) E0 h fun v32 h =>
    (wg v32 true (wi F L (.mv (.c v0)) E0 h) h fun v34 h =>
    (wg v32 true (wi F L (.mv (.c v6)) E0 h) h fun v35 h =>
    (wg v32 true (wi F L (.slstr (.c v34) none (some (.c v35))) E0 h) h fun v36 h =>
    (wg v32 true (wi F L (.call i_gatepostref01_Is [(.c v36)]) E0 h) h fun v37 h =>
    (wi F L (.pick (.c v32) (.c v37) (.c (.bool false))) E0 h fun v38 h =>
    (wg v38 true (wi F L (.mv (.c v0)) E0 h) h fun v40 h =>
    (wg v38 true (wi F L (.mv (.c v6)) E0 h) h fun v41 h =>
    (wg v38 true (wi F L (.bin .add (.c v41) (.c (.int .i64 1))) E0 h) h fun v42 h =>
    (wg v38 true (wi F L (.mv (.c v7)) E0 h) h fun v43 h =>
    (wg v38 true (wi F L (.slstr (.c v40) (some (.c v42)) (some (.c v43))) E0 h) h fun v44 h =>
    (wg v38 true (wi F L (.call i_gatepostref03_target [(.c v44)]) E0 h) h fun v45 h =>
    (wi F L (.pick (.c v38) (.c v45) (.c (.bool false))) E0 h fun v46 h =>
    (wg v46 true (wi F L (.mv (.c v0)) E0 h) h fun v48 h =>
    (wg v46 true (wi F L (.mv (.c v7)) E0 h) h fun v49 h =>
    (wg v46 true (wi F L (.bin .add (.c v49) (.c (.int .i64 1))) E0 h) h fun v50 h =>
    (wg v46 true (wi F L (.slstr (.c v48) (some (.c v50)) none) E0 h) h fun v51 h =>
    (wg v46 true (wi F L (.call i_gatepostref03_version [(.c v51)]) E0 h) h fun v52 h =>
    (wg v46 true (wi F L (.bin .geq (.c v52) (.c (.int .i64 0))) E0 h) h fun v53 h =>
    (wi F L (.pick (.c v46) (.c v53) (.c (.bool false))) E0 h fun v54 h =>
    (wb v54
    (wi F L (.slstr (.c v0) none (some (.c v6))) E0 h fun v57 h' => Ext h h' ∧
    (wi F L (.bin .add (.c v6) (.c (.int .i64 1))) E0 h' fun v60 h => Ext h' h ∧
    (wi F L (.slstr (.c v0) (some (.c v60)) (some (.c v7))) E0 h fun v62 h' => Ext h h' ∧
    (wi F L (.bin .add (.c v7) (.c (.int .i64 1))) E0 h' fun v65 h => Ext h' h ∧
    (wi F L (.slstr (.c v0) (some (.c v65)) none) E0 h fun v66 h' => Ext h h' ∧
    (wi F L (.call i_gatepostref03_version [(.c v66)]) E0 h' fun v67 h => Ext h' h ∧
    (∃ v, resultsV h (enterE [v57, v62, v67, (.int .i64 0)]) [.tmp 0, .tmp 1, .tmp 2, .tmp 3] = some v ∧ K v h)))))))
    (k_gatepostref03_Request_6 L K N0 N1 (upd (upd (upd (upd (upd (upd (upd (upd (upd (upd (upd (upd (upd (upd (upd (upd (upd (upd (upd (upd (upd (upd (upd (upd (upd (upd e 29 v0) 30 v7) 31 v31) 32 v32) 33 v32) 34 v34) 35 v35) 36 v36) 37 v37) 38 v38) 39 v38) 40 v40) 41 v41) 42 v42) 43 v43) 44 v44) 45 v45) 46 v46) 47 v46) 48 v48) 49 v49) 50 v50) 51 v51) 52 v52) 53 v53) 54 v54) v7 h)))))))))))))))))))))))
def q_gatepostref03_Request_1 (L : FuncId → List V → V → Prop) (K : V → Heap → Prop) (N0 : Env → Heap → Prop) : X → Env → Heap → Prop := (fun x => (fun x => (seqX (fun e h => k_gatepostref03_Request_3 L K N0 e (e 6) h) (seqX N0 (fun x => (seqX (fun e h => k_gatepostref03_Request_1 L K  h) (retX c_gatepostref03_Request.results K)) (X.out 0 x)))) (X.out 1 x)) (X.out 2 x))
def lc_gatepostref03_Request_1 : C :=
  (.seq (.seq (.region [⟨(some 23), none, .mv (.t 7)⟩, ⟨(some 24), none, .mv (.t 0)⟩, ⟨(some 25), none, .len 0 (.t 24)⟩, ⟨(some 26), none, .bin .lss (.t 23) (.t 25)⟩])
  (.cond (.t 26)
    .skip
    (.exit 2)))
  (.seq (.block 3 (.seq (.region [⟨(some 29), none, .mv (.t 0)⟩, ⟨(some 30), none, .mv (.t 7)⟩, ⟨(some 31), none, .ixStr (.t 29) (.t 30)⟩, ⟨(some 32), none, .bin .eql (.t 31) (.c (.int .u8 32))⟩, ⟨(some 33), none, .mv (.t 32)⟩, ⟨(some 34), (some (33, true)), .mv (.t 0)⟩, ⟨(some 35), (some (33, true)), .mv (.t 6)⟩, ⟨(some 36), (some (33, true)), .slstr (.t 34) none (some (.t 35))⟩, ⟨(some 37), (some (33, true)), .call i_gatepostref01_Is [(.t 36)]⟩, ⟨(some 38), none, .pick (.t 33) (.t 37) (.c (.bool false))⟩, ⟨(some 39), none, .mv (.t 38)⟩, ⟨(some 40), (some (39, true)), .mv (.t 0)⟩, ⟨(some 41), (some (39, true)), .mv (.t 6)⟩, ⟨(some 42), (some (39, true)), .bin .add (.t 41) (.c (.int .i64 1))⟩, ⟨(some 43), (some (39, true)), .mv (.t 7)⟩, ⟨(some 44), (some (39, true)), .slstr (.t 40) (some (.t 42)) (some (.t 43))⟩, ⟨(some 45), (some (39, true)), .call i_gatepostref03_target [(.t 44)]⟩, ⟨(some 46), none, .pick (.t 39) (.t 45) (.c (.bool false))⟩, ⟨(some 47), none, .mv (.t 46)⟩, ⟨(some 48), (some (47, true)), .mv (.t 0)⟩, ⟨(some 49), (some (47, true)), .mv (.t 7)⟩, ⟨(some 50), (some (47, true)), .bin .add (.t 49) (.c (.int .i64 1))⟩, ⟨(some 51), (some (47, true)), .slstr (.t 48) (some (.t 50)) none⟩, ⟨(some 52), (some (47, true)), .call i_gatepostref03_version [(.t 51)]⟩, ⟨(some 53), (some (47, true)), .bin .geq (.t 52) (.c (.int .i64 0))⟩, ⟨(some 54), none, .pick (.t 47) (.t 53) (.c (.bool false))⟩])
  (.cond (.t 54)
    (.seq (.dregion [⟨(some 55), none, .mv (.t 0)⟩, ⟨(some 56), none, .mv (.t 6)⟩, ⟨(some 57), none, .slstr (.t 55) none (some (.t 56))⟩, ⟨(some 58), none, .mv (.t 0)⟩, ⟨(some 59), none, .mv (.t 6)⟩, ⟨(some 60), none, .bin .add (.t 59) (.c (.int .i64 1))⟩, ⟨(some 61), none, .mv (.t 7)⟩, ⟨(some 62), none, .slstr (.t 58) (some (.t 60)) (some (.t 61))⟩, ⟨(some 63), none, .mv (.t 0)⟩, ⟨(some 64), none, .mv (.t 7)⟩, ⟨(some 65), none, .bin .add (.t 64) (.c (.int .i64 1))⟩, ⟨(some 66), none, .slstr (.t 63) (some (.t 65)) none⟩, ⟨(some 67), none, .call i_gatepostref03_version [(.t 66)]⟩, ⟨(some 2), none, .mv (.t 57)⟩] [⟨(some 3), none, .mv (.t 62)⟩, ⟨(some 4), none, .mv (.t 67)⟩, ⟨(some 5), none, .mv (.c (.int .i64 0))⟩])
    .ret)
    .skip)))
  (.region [⟨(some 27), none, .mv (.t 7)⟩, ⟨(some 28), none, .bin .add (.t 27) (.c (.int .i64 1))⟩, ⟨(some 7), none, .mv (.t 28)⟩])))
def b_gatepostref03_Request_1 (L : FuncId → List V → V → Prop) (K : V → Heap → Prop) (N0 : Env → Heap → Prop) (N1 : Env → Heap → Prop) (e : Env) (h : Heap) : Prop :=
    (wi F L (.len 0 (.c (e 0))) E0 h fun v25 h =>
    (wi F L (.bin .lss (.c (e 7)) (.c v25)) E0 h fun v26 h =>
    (wb v26
    (k_gatepostref03_Request_5 L K N0 N1 (upd (upd (upd (upd e 23 (e 7)) 24 (e 0)) 25 v25) 26 v26) (e 0) (e 6) (e 7) h)
    (k_gatepostref03_Request_3 L K N0 (upd (upd (upd (upd e 23 (e 7)) 24 (e 0)) 25 v25) 26 v26) (e 6) h))))
theorem l_gatepostref03_Request_1 {L : FuncId → List V → V → Prop} {K : V → Heap → Prop} {N0 : Env → Heap → Prop} (I : Nat → Env → Heap → Prop) (hr : ∀ n e h, I n e h → b_gatepostref03_Request_1 L K N0 (fun e' h' => ∃ m, m < n ∧ I m e' h') e h) {n : Nat} {e : Env} {h : Heap} (hi : I n e h) : Wl F L lc_gatepostref03_Request_1 (q_gatepostref03_Request_1 L K N0) e h :=
  wloopp (b := b_gatepostref03_Request_1 L K N0) I (fun _ _ _ => by kernel_rfl) hr hi
def k_gatepostref03_Request_4 (L : FuncId → List V → V → Prop) (K : V → Heap → Prop) (N0 : Env → Heap → Prop) (e : Env) (v6 : V) (h : Heap) : Prop :=
    (wi F L (.bin .add (.c v6) (.c (.int .i64 1))) E0 h fun v22 h =>
    (Wl F L lc_gatepostref03_Request_1 (q_gatepostref03_Request_1 L K N0) (upd (upd (upd e 21 v6) 22 v22) 7 v22) h))
def k_gatepostref03_Request_2 (L : FuncId → List V → V → Prop) (K : V → Heap → Prop) (N0 : Env → Heap → Prop) (e : Env) (v0 v6 : V) (h : Heap) : Prop :=
    (wi F L (.ixStr (.c v0) (.c v6)) E0 h fun v19 h =>
    (wi F L (.bin .neq (.c v19) (.c (.int .u8 32))) E0 h fun v20 h =>
    (wb v20
    (k_gatepostref03_Request_3 L K N0 (upd (upd (upd (upd e 17 v0) 18 v6) 19 v19) 20 v20) v6 h)
    (k_gatepostref03_Request_4 L K N0 (upd (upd (upd (upd e 17 v0) 18 v6) 19 v19) 20 v20) v6 h))))
def q_gatepostref03_Request_0 (L : FuncId → List V → V → Prop) (K : V → Heap → Prop) : X → Env → Heap → Prop := (fun x => (seqX (fun e h => k_gatepostref03_Request_1 L K  h) (retX c_gatepostref03_Request.results K)) (X.out 0 x))
def lc_gatepostref03_Request_0 : C :=
  (.seq (.seq (.region [⟨(some 11), none, .mv (.t 6)⟩, ⟨(some 12), none, .mv (.t 0)⟩, ⟨(some 13), none, .len 0 (.t 12)⟩, ⟨(some 14), none, .bin .lss (.t 11) (.t 13)⟩])
  (.cond (.t 14)
    .skip
    (.exit 0)))
  (.seq (.block 1 (.seq (.seq (.region [⟨(some 17), none, .mv (.t 0)⟩, ⟨(some 18), none, .mv (.t 6)⟩, ⟨(some 19), none, .ixStr (.t 17) (.t 18)⟩, ⟨(some 20), none, .bin .neq (.t 19) (.c (.int .u8 32))⟩])
  (.cond (.t 20)
    (.exit 1)
    .skip))
  (.seq (.region [⟨(some 21), none, .mv (.t 6)⟩, ⟨(some 22), none, .bin .add (.t 21) (.c (.int .i64 1))⟩, ⟨(some 7), none, .mv (.t 22)⟩])
  (.block 2 (.loop
    (.seq (.seq (.region [⟨(some 23), none, .mv (.t 7)⟩, ⟨(some 24), none, .mv (.t 0)⟩, ⟨(some 25), none, .len 0 (.t 24)⟩, ⟨(some 26), none, .bin .lss (.t 23) (.t 25)⟩])
    (.cond (.t 26)
      .skip
      (.exit 2)))
    (.seq (.block 3 (.seq (.region [⟨(some 29), none, .mv (.t 0)⟩, ⟨(some 30), none, .mv (.t 7)⟩, ⟨(some 31), none, .ixStr (.t 29) (.t 30)⟩, ⟨(some 32), none, .bin .eql (.t 31) (.c (.int .u8 32))⟩, ⟨(some 33), none, .mv (.t 32)⟩, ⟨(some 34), (some (33, true)), .mv (.t 0)⟩, ⟨(some 35), (some (33, true)), .mv (.t 6)⟩, ⟨(some 36), (some (33, true)), .slstr (.t 34) none (some (.t 35))⟩, ⟨(some 37), (some (33, true)), .call i_gatepostref01_Is [(.t 36)]⟩, ⟨(some 38), none, .pick (.t 33) (.t 37) (.c (.bool false))⟩, ⟨(some 39), none, .mv (.t 38)⟩, ⟨(some 40), (some (39, true)), .mv (.t 0)⟩, ⟨(some 41), (some (39, true)), .mv (.t 6)⟩, ⟨(some 42), (some (39, true)), .bin .add (.t 41) (.c (.int .i64 1))⟩, ⟨(some 43), (some (39, true)), .mv (.t 7)⟩, ⟨(some 44), (some (39, true)), .slstr (.t 40) (some (.t 42)) (some (.t 43))⟩, ⟨(some 45), (some (39, true)), .call i_gatepostref03_target [(.t 44)]⟩, ⟨(some 46), none, .pick (.t 39) (.t 45) (.c (.bool false))⟩, ⟨(some 47), none, .mv (.t 46)⟩, ⟨(some 48), (some (47, true)), .mv (.t 0)⟩, ⟨(some 49), (some (47, true)), .mv (.t 7)⟩, ⟨(some 50), (some (47, true)), .bin .add (.t 49) (.c (.int .i64 1))⟩, ⟨(some 51), (some (47, true)), .slstr (.t 48) (some (.t 50)) none⟩, ⟨(some 52), (some (47, true)), .call i_gatepostref03_version [(.t 51)]⟩, ⟨(some 53), (some (47, true)), .bin .geq (.t 52) (.c (.int .i64 0))⟩, ⟨(some 54), none, .pick (.t 47) (.t 53) (.c (.bool false))⟩])
    (.cond (.t 54)
      (.seq (.dregion [⟨(some 55), none, .mv (.t 0)⟩, ⟨(some 56), none, .mv (.t 6)⟩, ⟨(some 57), none, .slstr (.t 55) none (some (.t 56))⟩, ⟨(some 58), none, .mv (.t 0)⟩, ⟨(some 59), none, .mv (.t 6)⟩, ⟨(some 60), none, .bin .add (.t 59) (.c (.int .i64 1))⟩, ⟨(some 61), none, .mv (.t 7)⟩, ⟨(some 62), none, .slstr (.t 58) (some (.t 60)) (some (.t 61))⟩, ⟨(some 63), none, .mv (.t 0)⟩, ⟨(some 64), none, .mv (.t 7)⟩, ⟨(some 65), none, .bin .add (.t 64) (.c (.int .i64 1))⟩, ⟨(some 66), none, .slstr (.t 63) (some (.t 65)) none⟩, ⟨(some 67), none, .call i_gatepostref03_version [(.t 66)]⟩, ⟨(some 2), none, .mv (.t 57)⟩] [⟨(some 3), none, .mv (.t 62)⟩, ⟨(some 4), none, .mv (.t 67)⟩, ⟨(some 5), none, .mv (.c (.int .i64 0))⟩])
      .ret)
      .skip)))
    (.region [⟨(some 27), none, .mv (.t 7)⟩, ⟨(some 28), none, .bin .add (.t 27) (.c (.int .i64 1))⟩, ⟨(some 7), none, .mv (.t 28)⟩]))))))))
  (.region [⟨(some 15), none, .mv (.t 6)⟩, ⟨(some 16), none, .bin .add (.t 15) (.c (.int .i64 1))⟩, ⟨(some 6), none, .mv (.t 16)⟩])))
def b_gatepostref03_Request_0 (L : FuncId → List V → V → Prop) (K : V → Heap → Prop) (N0 : Env → Heap → Prop) (e : Env) (h : Heap) : Prop :=
    (wi F L (.len 0 (.c (e 0))) E0 h fun v13 h =>
    (wi F L (.bin .lss (.c (e 6)) (.c v13)) E0 h fun v14 h =>
    (wb v14
    (k_gatepostref03_Request_2 L K N0 (upd (upd (upd (upd e 11 (e 6)) 12 (e 0)) 13 v13) 14 v14) (e 0) (e 6) h)
    (k_gatepostref03_Request_1 L K  h))))
theorem l_gatepostref03_Request_0 {L : FuncId → List V → V → Prop} {K : V → Heap → Prop} (I : Nat → Env → Heap → Prop) (hr : ∀ n e h, I n e h → b_gatepostref03_Request_0 L K (fun e' h' => ∃ m, m < n ∧ I m e' h') e h) {n : Nat} {e : Env} {h : Heap} (hi : I n e h) : Wl F L lc_gatepostref03_Request_0 (q_gatepostref03_Request_0 L K) e h :=
  wloopp (b := b_gatepostref03_Request_0 L K) I (fun _ _ _ => by kernel_rfl) hr hi
def k_gatepostref03_Request_0 (L : FuncId → List V → V → Prop) (K : V → Heap → Prop) (e : Env) (h : Heap) : Prop :=
    (Wl F L lc_gatepostref03_Request_0 (q_gatepostref03_Request_0 L K) (upd e 6 (.int .i64 0)) h)
def p_gatepostref03_Request (L : FuncId → List V → V → Prop) (K : V → Heap → Prop) (a0 : V) (h : Heap) : Prop :=
    (wi F L (.len 0 (.c a0)) E0 h fun v9 h =>
    (wi F L (.bin .gtr (.c v9) (.c (.int .i64 1024))) E0 h fun v10 h =>
    (wb v10
    (∃ v, resultsV h (enterE [(.str []), (.str []), (.int .i64 0), (.int .i64 3)]) [.tmp 0, .tmp 1, .tmp 2, .tmp 3] = some v ∧ K v h)
    (k_gatepostref03_Request_0 L K (upd (upd (upd (upd (upd (upd (upd (enterE [a0]) 2 (.str [])) 3 (.str [])) 4 (.int .i64 0)) 5 (.int .i64 0)) 8 a0) 9 v9) 10 v10)  h))))
theorem run_gatepostref03_Request {L : FuncId → List V → V → Prop} {K : V → Heap → Prop} {a0 : V} {h : Heap} (hp : p_gatepostref03_Request L K a0 h) : Cf F L i_gatepostref03_Request [a0] h K :=
  wcallp F_gatepostref03_Request (show 1 ≤ 68 by decide) (p := p_gatepostref03_Request L K a0 h) (by kernel_rfl) hp
def k_line_Status_1 (L : FuncId → List V → V → Prop) (K : V → Heap → Prop) (v2 v3 v4 : V) (h : Heap) : Prop :=
    (∃ v, resultsV h (enterE [v2, v3, v4, (.int .i64 0)]) [.tmp 0, .tmp 1, .tmp 2, .tmp 3] = some v ∧ K v h)
def k_line_Status_0 (L : FuncId → List V → V → Prop) (K : V → Heap → Prop) (v0 v6 : V) (h : Heap) : Prop :=
    (wi F L (.call i_strings_Cut [(.c v0), (.c (.str [32]))]) E0 h fun v24 h =>
    (wi F L (.ext 0 (.c v24)) E0 h fun v25 h =>
    (wi F L (.ext 1 (.c v24)) E0 h fun v26 h =>
    (wi F L (.ext 2 (.c v24)) E0 h fun v27 h =>
    (wi F L (.call i_strings_Cut [(.c v26), (.c (.str [32]))]) E0 h fun v30 h =>
    (wi F L (.ext 0 (.c v30)) E0 h fun v31 h =>
    (wi F L (.ext 1 (.c v30)) E0 h fun v32 h =>
    (wi F L (.ext 2 (.c v30)) E0 h fun v33 h =>
    (wi F L (.call i_token_Number [(.c v31), (.c (.int .i64 1024))]) E0 h fun v36 h =>
    (wi F L (.ext 0 (.c v36)) E0 h fun v37 h =>
    (wi F L (.ext 1 (.c v36)) E0 h fun v38 h =>
    (wi F L (.call i_line_version [(.c v25)]) E0 h fun v40 h =>
    (wi F L (.bin .lss (.c v40) (.c (.int .i64 0))) E0 h fun v42 h =>
    (wg v42 false (wi F L (.mv (.c v38)) E0 h) h fun v44 h =>
    (wg v42 false (wi F L (.un .not (.c v44)) E0 h) h fun v45 h =>
    (wi F L (.pick (.c v42) (.c (.bool true)) (.c v45)) E0 h fun v46 h =>
    (wg v46 false (wi F L (.mv (.c v31)) E0 h) h fun v48 h =>
    (wg v46 false (wi F L (.len 0 (.c v48)) E0 h) h fun v49 h =>
    (wg v46 false (wi F L (.bin .neq (.c v49) (.c (.int .i64 3))) E0 h) h fun v50 h =>
    (wi F L (.pick (.c v46) (.c (.bool true)) (.c v50)) E0 h fun v51 h =>
    (wg v51 false (wi F L (.mv (.c v37)) E0 h) h fun v53 h =>
    (wg v51 false (wi F L (.bin .lss (.c v53) (.c (.int .i64 100))) E0 h) h fun v54 h =>
    (wi F L (.pick (.c v51) (.c (.bool true)) (.c v54)) E0 h fun v55 h =>
    (wg v55 false (wi F L (.mv (.c v37)) E0 h) h fun v57 h =>
    (wg v55 false (wi F L (.bin .gtr (.c v57) (.c (.int .i64 599))) E0 h) h fun v58 h =>
    (wi F L (.pick (.c v55) (.c (.bool true)) (.c v58)) E0 h fun v59 h =>
    (wg v59 false (wi F L (.mv (.c v32)) E0 h) h fun v61 h =>
    (wg v59 false (wi F L (.call i_line_isReason [(.c v61)]) E0 h) h fun v62 h =>
    (wg v59 false (wi F L (.un .not (.c v62)) E0 h) h fun v63 h =>
    (wi F L (.pick (.c v59) (.c (.bool true)) (.c v63)) E0 h fun v64 h =>
    (wb v64
    (wi F L (.callv (.c v6) [(.c (.int .i64 30))]) E0 h fun v66 h =>
    (wi F L (.ext 0 (.c v66)) E0 h fun v67 h =>
    (wi F L (.ext 1 (.c v66)) E0 h fun v68 h =>
    (wi F L (.ext 2 (.c v66)) E0 h fun v69 h =>
    (wi F L (.ext 3 (.c v66)) E0 h fun v70 h =>
    (∃ v, resultsV h (enterE [v67, v68, v69, v70]) [.tmp 0, .tmp 1, .tmp 2, .tmp 3] = some v ∧ K v h))))))
    (k_line_Status_1 L K v40 v37 v32 h))))))))))))))))))))))))))))))))
def p_line_Status (L : FuncId → List V → V → Prop) (K : V → Heap → Prop) (a0 : V) (h : Heap) : Prop :=
    (wi F L (.len 0 (.c a0)) E0 h fun v14 h =>
    (wi F L (.bin .gtr (.c v14) (.c (.int .i64 1024))) E0 h fun v15 h =>
    (wb v15
    (wi F L (.callv (.c (.fn i_line_Status_1 [])) [(.c (.int .i64 3))]) E0 h fun v17 h =>
    (wi F L (.ext 0 (.c v17)) E0 h fun v18 h =>
    (wi F L (.ext 1 (.c v17)) E0 h fun v19 h =>
    (wi F L (.ext 2 (.c v17)) E0 h fun v20 h =>
    (wi F L (.ext 3 (.c v17)) E0 h fun v21 h =>
    (∃ v, resultsV h (enterE [v18, v19, v20, v21]) [.tmp 0, .tmp 1, .tmp 2, .tmp 3] = some v ∧ K v h))))))
    (k_line_Status_0 L K a0 (.fn i_line_Status_1 []) h))))
theorem run_line_Status {L : FuncId → List V → V → Prop} {K : V → Heap → Prop} {a0 : V} {h : Heap} (hp : p_line_Status L K a0 h) : Cf F L i_line_Status [a0] h K :=
  wcallp F_line_Status (show 1 ≤ 74 by decide) (p := p_line_Status L K a0 h) (by kernel_rfl) hp
def k_gatepostref03_Status_4 (L : FuncId → List V → V → Prop) (K : V → Heap → Prop) (v0 v6 : V) (h : Heap) : Prop :=
    (wi F L (.slstr (.c v0) none (some (.c (.int .i64 8)))) E0 h fun v58 h' => Ext h h' ∧
    (wi F L (.call i_gatepostref03_version [(.c v58)]) E0 h' fun v59 h => Ext h' h ∧
    (wi F L (.slstr (.c v0) (some (.c (.int .i64 13))) none) E0 h fun v62 h' => Ext h h' ∧
    (∃ v, resultsV h' (enterE [v59, v6, v62, (.int .i64 0)]) [.tmp 0, .tmp 1, .tmp 2, .tmp 3] = some v ∧ K v h'))))
def k_gatepostref03_Status_3 (L : FuncId → List V → V → Prop) (K : V → Heap → Prop) (v0 v6 : V) (h : Heap) : Prop :=
    (wi F L (.ixStr (.c v0) (.c (.int .i64 12))) E0 h fun v49 h =>
    (wi F L (.bin .neq (.c v49) (.c (.int .u8 32))) E0 h fun v50 h =>
    (wg v50 false (wi F L (.mv (.c v0)) E0 h) h fun v52 h =>
    (wg v50 false (wi F L (.slstr (.c v52) (some (.c (.int .i64 13))) none) E0 h) h fun v53 h =>
    (wg v50 false (wi F L (.call i_gatepostref03_reason [(.c v53)]) E0 h) h fun v54 h =>
    (wg v50 false (wi F L (.un .not (.c v54)) E0 h) h fun v55 h =>
    (wi F L (.pick (.c v50) (.c (.bool true)) (.c v55)) E0 h fun v56 h =>
    (wb v56
    (∃ v, resultsV h (enterE [(.int .i64 0), (.int .i64 0), (.str []), (.int .i64 30)]) [.tmp 0, .tmp 1, .tmp 2, .tmp 3] = some v ∧ K v h)
    (k_gatepostref03_Status_4 L K v0 v6 h)))))))))
def k_gatepostref03_Status_2 (L : FuncId → List V → V → Prop) (K : V → Heap → Prop) (v0 v6 : V) (h : Heap) : Prop :=
    (wi F L (.len 0 (.c v0)) E0 h fun v42 h =>
    (wi F L (.bin .eql (.c v42) (.c (.int .i64 12))) E0 h fun v43 h =>
    (wb v43
    (wi F L (.slstr (.c v0) none (some (.c (.int .i64 8)))) E0 h fun v45 h =>
    (wi F L (.call i_gatepostref03_version [(.c v45)]) E0 h fun v46 h =>
    (∃ v, resultsV h (enterE [v46, v6, (.str []), (.int .i64 0)]) [.tmp 0, .tmp 1, .tmp 2, .tmp 3] = some v ∧ K v h)))
    (k_gatepostref03_Status_3 L K v0 v6 h))))
def k_gatepostref03_Status_1 (L : FuncId → List V → V → Prop) (K : V → Heap → Prop) (v0 : V) (h : Heap) : Prop :=
    (wi F L (.slstr (.c v0) (some (.c (.int .i64 9))) (some (.c (.int .i64 12)))) E0 h fun v27 h =>
    (wi F L (.call i_gatepostref01_Number [(.c v27), (.c (.int .i64 1000))]) E0 h fun v28 h =>
    (wi F L (.ext 0 (.c v28)) E0 h fun v29 h =>
    (wi F L (.ext 1 (.c v28)) E0 h fun v30 h =>
    (wi F L (.un .not (.c v30)) E0 h fun v32 h =>
    (wg v32 false (wi F L (.mv (.c v29)) E0 h) h fun v34 h =>
    (wg v32 false (wi F L (.bin .lss (.c v34) (.c (.int .i64 100))) E0 h) h fun v35 h =>
    (wi F L (.pick (.c v32) (.c (.bool true)) (.c v35)) E0 h fun v36 h =>
    (wg v36 false (wi F L (.mv (.c v29)) E0 h) h fun v38 h =>
    (wg v36 false (wi F L (.bin .gtr (.c v38) (.c (.int .i64 599))) E0 h) h fun v39 h =>
    (wi F L (.pick (.c v36) (.c (.bool true)) (.c v39)) E0 h fun v40 h =>
    (wb v40
    (∃ v, resultsV h (enterE [(.int .i64 0), (.int .i64 0), (.str []), (.int .i64 30)]) [.tmp 0, .tmp 1, .tmp 2, .tmp 3] = some v ∧ K v h)
    (k_gatepostref03_Status_2 L K v0 v29 h)))))))))))))
def k_gatepostref03_Status_0 (L : FuncId → List V → V → Prop) (K : V → Heap → Prop) (v0 : V) (h : Heap) : Prop :=
    (wi F L (.len 0 (.c v0)) E0 h fun v12 h =>
    (wi F L (.bin .lss (.c v12) (.c (.int .i64 12))) E0 h fun v13 h =>
    (wg v13 false (wi F L (.mv (.c v0)) E0 h) h fun v15 h =>
    (wg v13 false (wi F L (.slstr (.c v15) none (some (.c (.int .i64 8)))) E0 h) h fun v16 h =>
    (wg v13 false (wi F L (.call i_gatepostref03_version [(.c v16)]) E0 h) h fun v17 h =>
    (wg v13 false (wi F L (.bin .lss (.c v17) (.c (.int .i64 0))) E0 h) h fun v18 h =>
    (wi F L (.pick (.c v13) (.c (.bool true)) (.c v18)) E0 h fun v19 h =>
    (wg v19 false (wi F L (.mv (.c v0)) E0 h) h fun v21 h =>
    (wg v19 false (wi F L (.ixStr (.c v21) (.c (.int .i64 8))) E0 h) h fun v22 h =>
    (wg v19 false (wi F L (.bin .neq (.c v22) (.c (.int .u8 32))) E0 h) h fun v23 h =>
    (wi F L (.pick (.c v19) (.c (.bool true)) (.c v23)) E0 h fun v24 h =>
    (wb v24
    (∃ v, resultsV h (enterE [(.int .i64 0), (.int .i64 0), (.str []), (.int .i64 30)]) [.tmp 0, .tmp 1, .tmp 2, .tmp 3] = some v ∧ K v h)
    (k_gatepostref03_Status_1 L K v0 h)))))))))))))
def p_gatepostref03_Status (L : FuncId → List V → V → Prop) (K : V → Heap → Prop) (a0 : V) (h : Heap) : Prop :=
    (wi F L (.len 0 (.c a0)) E0 h fun v9 h =>
    (wi F L (.bin .gtr (.c v9) (.c (.int .i64 1024))) E0 h fun v10 h =>
    (wb v10
    (∃ v, resultsV h (enterE [(.int .i64 0), (.int .i64 0), (.str []), (.int .i64 3)]) [.tmp 0, .tmp 1, .tmp 2, .tmp 3] = some v ∧ K v h)
    (k_gatepostref03_Status_0 L K a0 h))))
theorem run_gatepostref03_Status {L : FuncId → List V → V → Prop} {K : V → Heap → Prop} {a0 : V} {h : Heap} (hp : p_gatepostref03_Status L K a0 h) : Cf F L i_gatepostref03_Status [a0] h K :=
  wcallp F_gatepostref03_Status (show 1 ≤ 63 by decide) (p := p_gatepostref03_Status L K a0 h) (by kernel_rfl) hp
def p_gatepostlaw03_names (L : FuncId → List V → V → Prop) (K : V → Heap → Prop) (h : Heap) : Prop :=
    (∃ v, some (.bool true) = some v ∧ K v h)
theorem run_gatepostlaw03_names {L : FuncId → List V → V → Prop} {K : V → Heap → Prop} {h : Heap} (hp : p_gatepostlaw03_names L K  h) : Cf F L i_gatepostlaw03_names [] h K :=
  wcallp F_gatepostlaw03_names (show 0 ≤ 1 by decide) (p := p_gatepostlaw03_names L K  h) (by kernel_rfl) hp
def p_token_Is (L : FuncId → List V → V → Prop) (K : V → Heap → Prop) (a0 : V) (h : Heap) : Prop :=
    (wi F L (.bin .neq (.c a0) (.c (.str []))) E0 h fun v4 h =>
    (wg v4 true (wi F L (.mv (.c a0)) E0 h) h fun v6 h =>
    (wg v4 true (wi F L (.call i_token_all [(.c v6), (.c (.fn i_token_inToken []))]) E0 h) h fun v7 h =>
    (wi F L (.pick (.c v4) (.c v7) (.c (.bool false))) E0 h fun v8 h =>
    (∃ v, some v8 = some v ∧ K v h)))))
theorem run_token_Is {L : FuncId → List V → V → Prop} {K : V → Heap → Prop} {a0 : V} {h : Heap} (hp : p_token_Is L K a0 h) : Cf F L i_token_Is [a0] h K :=
  wcallp F_token_Is (show 1 ≤ 9 by decide) (p := p_token_Is L K a0 h) (by kernel_rfl) hp
def k_line_isTarget_0 (L : FuncId → List V → V → Prop) (K : V → Heap → Prop) (v0 : V) (h : Heap) : Prop :=
    (wi F L (.bin .neq (.c v0) (.c (.str []))) E0 h fun v21 h =>
    (∃ v, some v21 = some v ∧ K v h))
def k_line_isTarget_2 (L : FuncId → List V → V → Prop) (K : V → Heap → Prop) (N0 : Env → Heap → Prop) (e : Env) (v6 : V) (h : Heap) : Prop :=
    (wi F L (.bin .add (.c v6) (.c (.int .i64 1))) E0 h fun v19 h =>
    (N0 (upd (upd e 19 v19) 6 v19) h))
def k_line_isTarget_1 (L : FuncId → List V → V → Prop) (K : V → Heap → Prop) (N0 : Env → Heap → Prop) (e : Env) (v0 v6 : V) (h : Heap) : Prop :=
    (wi F L (.ixStr (.c v0) (.c v6)) E0 h fun v11 h =>
    (wi F L (.bin .leq (.c v11) (.c (.int .u8 32))) E0 h fun v12 h =>
    (wg v12 false (wi F L (.mv (.c v0)) E0 h) h fun v14 h =>
    (wg v12 false (wi F L (.mv (.c v6)) E0 h) h fun v15 h =>
    (wg v12 false (wi F L (.ixStr (.c v14) (.c v15)) E0 h) h fun v16 h =>
    (wg v12 false (wi F L (.bin .gtr (.c v16) (.c (.int .u8 126))) E0 h) h fun v17 h =>
    (wi F L (.pick (.c v12) (.c (.bool true)) (.c v17)) E0 h fun v18 h =>
    (wb v18
    (∃ v, some (.bool false) = some v ∧ K v h)
    (k_line_isTarget_2 L K N0 (upd (upd (upd (upd (upd (upd (upd (upd (upd (upd (upd (upd e 8 v6) 3 v6) 9 v0) 10 v6) 11 v11) 12 v12) 13 v12) 14 v14) 15 v15) 16 v16) 17 v17) 18 v18) v6 h)))))))))
def q_line_isTarget_0 (L : FuncId → List V → V → Prop) (K : V → Heap → Prop) : X → Env → Heap → Prop := (fun x => (seqX (fun e h => k_line_isTarget_0 L K (e 0) h) (retX c_line_isTarget.results K)) (X.out 0 x))
def lc_line_isTarget_0 : C :=
  (.seq (.region [⟨(some 7), none, .bin .lss (.t 6) (.t 5)⟩])
  (.seq (.cond (.t 7)
    .skip
    (.exit 0))
  (.seq (.block 1 (.seq (.region [⟨(some 8), none, .mv (.t 6)⟩, ⟨(some 3), none, .mv (.t 8)⟩])
  (.seq (.region [⟨(some 9), none, .mv (.t 0)⟩, ⟨(some 10), none, .mv (.t 3)⟩, ⟨(some 11), none, .ixStr (.t 9) (.t 10)⟩, ⟨(some 12), none, .bin .leq (.t 11) (.c (.int .u8 32))⟩, ⟨(some 13), none, .mv (.t 12)⟩, ⟨(some 14), (some (13, false)), .mv (.t 0)⟩, ⟨(some 15), (some (13, false)), .mv (.t 3)⟩, ⟨(some 16), (some (13, false)), .ixStr (.t 14) (.t 15)⟩, ⟨(some 17), (some (13, false)), .bin .gtr (.t 16) (.c (.int .u8 126))⟩, ⟨(some 18), none, .pick (.t 13) (.c (.bool true)) (.t 17)⟩])
  (.cond (.t 18)
    (.seq (.region [⟨(some 2), none, .mv (.c (.bool false))⟩])
    .ret)
    .skip))))
  (.region [⟨(some 19), none, .bin .add (.t 6) (.c (.int .i64 1))⟩, ⟨(some 6), none, .mv (.t 19)⟩]))))
def b_line_isTarget_0 (L : FuncId → List V → V → Prop) (K : V → Heap → Prop) (N0 : Env → Heap → Prop) (e : Env) (h : Heap) : Prop :=
    (wi F L (.bin .lss (.c (e 6)) (.c (e 5))) E0 h fun v7 h =>
    (wb v7
    (k_line_isTarget_1 L K N0 (upd e 7 v7) (e 0) (e 6) h)
    (k_line_isTarget_0 L K (e 0) h)))
theorem l_line_isTarget_0 {L : FuncId → List V → V → Prop} {K : V → Heap → Prop} (I : Nat → Env → Heap → Prop) (hr : ∀ n e h, I n e h → b_line_isTarget_0 L K (fun e' h' => ∃ m, m < n ∧ I m e' h') e h) {n : Nat} {e : Env} {h : Heap} (hi : I n e h) : Wl F L lc_line_isTarget_0 (q_line_isTarget_0 L K) e h :=
  wloopp (b := b_line_isTarget_0 L K) I (fun _ _ _ => by kernel_rfl) hr hi
def p_line_isTarget (L : FuncId → List V → V → Prop) (K : V → Heap → Prop) (a0 : V) (h : Heap) : Prop :=
    (wi F L (.len 0 (.c a0)) E0 h fun v5 h =>
    (Wl F L lc_line_isTarget_0 (q_line_isTarget_0 L K) (upd (upd (upd (upd (enterE [a0]) 2 (.bool false)) 4 a0) 5 v5) 6 (.int .i64 0)) h))
theorem run_line_isTarget {L : FuncId → List V → V → Prop} {K : V → Heap → Prop} {a0 : V} {h : Heap} (hp : p_line_isTarget L K a0 h) : Cf F L i_line_isTarget [a0] h K :=
  wcallp F_line_isTarget (show 1 ≤ 22 by decide) (p := p_line_isTarget L K a0 h) (by kernel_rfl) hp
def p_line_isMinor (L : FuncId → List V → V → Prop) (K : V → Heap → Prop) (a0 : V) (h : Heap) : Prop :=
    (wi F L (.bin .eql (.c a0) (.c (.int .i64 0))) E0 h fun v4 h =>
    (wg v4 false (wi F L (.mv (.c a0)) E0 h) h fun v6 h =>
    (wg v4 false (wi F L (.bin .eql (.c v6) (.c (.int .i64 1))) E0 h) h fun v7 h =>
    (wi F L (.pick (.c v4) (.c (.bool true)) (.c v7)) E0 h fun v8 h =>
    (∃ v, some v8 = some v ∧ K v h)))))
theorem run_line_isMinor {L : FuncId → List V → V → Prop} {K : V → Heap → Prop} {a0 : V} {h : Heap} (hp : p_line_isMinor L K a0 h) : Cf F L i_line_isMinor [a0] h K :=
  wcallp F_line_isMinor (show 1 ≤ 9 by decide) (p := p_line_isMinor L K a0 h) (by kernel_rfl) hp
def k_line_fits_0 (L : FuncId → List V → V → Prop) (K : V → Heap → Prop) (v0 : V) (h : Heap) : Prop :=
    (∃ v, resultsV h (enterE [v0, (.int .i64 0)]) [.tmp 0, .tmp 1] = some v ∧ K v h)
def p_line_fits (L : FuncId → List V → V → Prop) (K : V → Heap → Prop) (a0 : V) (h : Heap) : Prop :=
    (wi F L (.len 0 (.c a0)) E0 h fun v5 h =>
    (wi F L (.bin .gtr (.c v5) (.c (.int .i64 1024))) E0 h fun v6 h =>
    (wb v6
    (∃ v, resultsV h (enterE [(.str []), (.int .i64 3)]) [.tmp 0, .tmp 1] = some v ∧ K v h)
    (k_line_fits_0 L K a0 h))))
theorem run_line_fits {L : FuncId → List V → V → Prop} {K : V → Heap → Prop} {a0 : V} {h : Heap} (hp : p_line_fits L K a0 h) : Cf F L i_line_fits [a0] h K :=
  wcallp F_line_fits (show 1 ≤ 8 by decide) (p := p_line_fits L K a0 h) (by kernel_rfl) hp
def k_gatepostref01_Is_0 (L : FuncId → List V → V → Prop) (K : V → Heap → Prop) (v0 : V) (h : Heap) : Prop :=
    (wi F L (.len 0 (.c v0)) E0 h fun v16 h =>
    (wi F L (.bin .gtr (.c v16) (.c (.int .i64 0))) E0 h fun v17 h =>
    (∃ v, some v17 = some v ∧ K v h)))
def k_gatepostref01_Is_2 (L : FuncId → List V → V → Prop) (K : V → Heap → Prop) (N0 : Env → Heap → Prop) (e : Env) (v3 : V) (h : Heap) : Prop :=
    (wi F L (.bin .add (.c v3) (.c (.int .i64 1))) E0 h fun v9 h =>
    (N0 (upd (upd (upd e 8 v3) 9 v9) 3 v9) h))
def k_gatepostref01_Is_1 (L : FuncId → List V → V → Prop) (K : V → Heap → Prop) (N0 : Env → Heap → Prop) (e : Env) (v0 v3 : V) (h : Heap) : Prop :=
    (wi F L (.ixStr (.c v0) (.c v3)) E0 h fun v12 h =>
    (wi F L (.call i_gatepostref01_tchar [(.c v12)]) E0 h fun v13 h =>
    (wi F L (.un .not (.c v13)) E0 h fun v14 h =>
    (wb v14
    (∃ v, some (.bool false) = some v ∧ K v h)
    (k_gatepostref01_Is_2 L K N0 (upd (upd (upd (upd (upd e 10 v0) 11 v3) 12 v12) 13 v13) 14 v14) v3 h)))))
def q_gatepostref01_Is_0 (L : FuncId → List V → V → Prop) (K : V → Heap → Prop) : X → Env → Heap → Prop := (fun x => (seqX (fun e h => k_gatepostref01_Is_0 L K (e 0) h) (retX c_gatepostref01_Is.results K)) (X.out 0 x))
def lc_gatepostref01_Is_0 : C :=
  (.seq (.seq (.region [⟨(some 4), none, .mv (.t 3)⟩, ⟨(some 5), none, .mv (.t 0)⟩, ⟨(some 6), none, .len 0 (.t 5)⟩, ⟨(some 7), none, .bin .lss (.t 4) (.t 6)⟩])
  (.cond (.t 7)
    .skip
    (.exit 0)))
  (.seq (.block 1 (.seq (.region [⟨(some 10), none, .mv (.t 0)⟩, ⟨(some 11), none, .mv (.t 3)⟩, ⟨(some 12), none, .ixStr (.t 10) (.t 11)⟩, ⟨(some 13), none, .call i_gatepostref01_tchar [(.t 12)]⟩, ⟨(some 14), none, .un .not (.t 13)⟩])
  (.cond (.t 14)
    (.seq (.region [⟨(some 2), none, .mv (.c (.bool false))⟩])
    .ret)
    .skip)))
  (.region [⟨(some 8), none, .mv (.t 3)⟩, ⟨(some 9), none, .bin .add (.t 8) (.c (.int .i64 1))⟩, ⟨(some 3), none, .mv (.t 9)⟩])))
def b_gatepostref01_Is_0 (L : FuncId → List V → V → Prop) (K : V → Heap → Prop) (N0 : Env → Heap → Prop) (e : Env) (h : Heap) : Prop :=
    (wi F L (.len 0 (.c (e 0))) E0 h fun v6 h =>
    (wi F L (.bin .lss (.c (e 3)) (.c v6)) E0 h fun v7 h =>
    (wb v7
    (k_gatepostref01_Is_1 L K N0 (upd (upd (upd (upd e 4 (e 3)) 5 (e 0)) 6 v6) 7 v7) (e 0) (e 3) h)
    (k_gatepostref01_Is_0 L K (e 0) h))))
theorem l_gatepostref01_Is_0 {L : FuncId → List V → V → Prop} {K : V → Heap → Prop} (I : Nat → Env → Heap → Prop) (hr : ∀ n e h, I n e h → b_gatepostref01_Is_0 L K (fun e' h' => ∃ m, m < n ∧ I m e' h') e h) {n : Nat} {e : Env} {h : Heap} (hi : I n e h) : Wl F L lc_gatepostref01_Is_0 (q_gatepostref01_Is_0 L K) e h :=
  wloopp (b := b_gatepostref01_Is_0 L K) I (fun _ _ _ => by kernel_rfl) hr hi
def p_gatepostref01_Is (L : FuncId → List V → V → Prop) (K : V → Heap → Prop) (a0 : V) (h : Heap) : Prop :=
    (Wl F L lc_gatepostref01_Is_0 (q_gatepostref01_Is_0 L K) (upd (upd (enterE [a0]) 2 (.bool false)) 3 (.int .i64 0)) h)
theorem run_gatepostref01_Is {L : FuncId → List V → V → Prop} {K : V → Heap → Prop} {a0 : V} {h : Heap} (hp : p_gatepostref01_Is L K a0 h) : Cf F L i_gatepostref01_Is [a0] h K :=
  wcallp F_gatepostref01_Is (show 1 ≤ 18 by decide) (p := p_gatepostref01_Is L K a0 h) (by kernel_rfl) hp
def k_gatepostref03_target_0 (L : FuncId → List V → V → Prop) (K : V → Heap → Prop) (v0 : V) (h : Heap) : Prop :=
    (wi F L (.len 0 (.c v0)) E0 h fun v21 h =>
    (wi F L (.bin .gtr (.c v21) (.c (.int .i64 0))) E0 h fun v22 h =>
    (∃ v, some v22 = some v ∧ K v h)))
def k_gatepostref03_target_2 (L : FuncId → List V → V → Prop) (K : V → Heap → Prop) (N0 : Env → Heap → Prop) (e : Env) (v3 : V) (h : Heap) : Prop :=
    (wi F L (.bin .add (.c v3) (.c (.int .i64 1))) E0 h fun v9 h =>
    (N0 (upd (upd (upd e 8 v3) 9 v9) 3 v9) h))
def k_gatepostref03_target_1 (L : FuncId → List V → V → Prop) (K : V → Heap → Prop) (N0 : Env → Heap → Prop) (e : Env) (v0 v3 : V) (h : Heap) : Prop :=
    (wi F L (.ixStr (.c v0) (.c v3)) E0 h fun v12 h =>
    (wi F L (.bin .lss (.c v12) (.c (.int .u8 33))) E0 h fun v13 h =>
    (wg v13 false (wi F L (.mv (.c v0)) E0 h) h fun v15 h =>
    (wg v13 false (wi F L (.mv (.c v3)) E0 h) h fun v16 h =>
    (wg v13 false (wi F L (.ixStr (.c v15) (.c v16)) E0 h) h fun v17 h =>
    (wg v13 false (wi F L (.bin .gtr (.c v17) (.c (.int .u8 126))) E0 h) h fun v18 h =>
    (wi F L (.pick (.c v13) (.c (.bool true)) (.c v18)) E0 h fun v19 h =>
    (wb v19
    (∃ v, some (.bool false) = some v ∧ K v h)
    (k_gatepostref03_target_2 L K N0 (upd (upd (upd (upd (upd (upd (upd (upd (upd (upd e 10 v0) 11 v3) 12 v12) 13 v13) 14 v13) 15 v15) 16 v16) 17 v17) 18 v18) 19 v19) v3 h)))))))))
def q_gatepostref03_target_0 (L : FuncId → List V → V → Prop) (K : V → Heap → Prop) : X → Env → Heap → Prop := (fun x => (seqX (fun e h => k_gatepostref03_target_0 L K (e 0) h) (retX c_gatepostref03_target.results K)) (X.out 0 x))
def lc_gatepostref03_target_0 : C :=
  (.seq (.seq (.region [⟨(some 4), none, .mv (.t 3)⟩, ⟨(some 5), none, .mv (.t 0)⟩, ⟨(some 6), none, .len 0 (.t 5)⟩, ⟨(some 7), none, .bin .lss (.t 4) (.t 6)⟩])
  (.cond (.t 7)
    .skip
    (.exit 0)))
  (.seq (.block 1 (.seq (.region [⟨(some 10), none, .mv (.t 0)⟩, ⟨(some 11), none, .mv (.t 3)⟩, ⟨(some 12), none, .ixStr (.t 10) (.t 11)⟩, ⟨(some 13), none, .bin .lss (.t 12) (.c (.int .u8 33))⟩, ⟨(some 14), none, .mv (.t 13)⟩, ⟨(some 15), (some (14, false)), .mv (.t 0)⟩, ⟨(some 16), (some (14, false)), .mv (.t 3)⟩, ⟨(some 17), (some (14, false)), .ixStr (.t 15) (.t 16)⟩, ⟨(some 18), (some (14, false)), .bin .gtr (.t 17) (.c (.int .u8 126))⟩, ⟨(some 19), none, .pick (.t 14) (.c (.bool true)) (.t 18)⟩])
  (.cond (.t 19)
    (.seq (.region [⟨(some 2), none, .mv (.c (.bool false))⟩])
    .ret)
    .skip)))
  (.region [⟨(some 8), none, .mv (.t 3)⟩, ⟨(some 9), none, .bin .add (.t 8) (.c (.int .i64 1))⟩, ⟨(some 3), none, .mv (.t 9)⟩])))
def b_gatepostref03_target_0 (L : FuncId → List V → V → Prop) (K : V → Heap → Prop) (N0 : Env → Heap → Prop) (e : Env) (h : Heap) : Prop :=
    (wi F L (.len 0 (.c (e 0))) E0 h fun v6 h =>
    (wi F L (.bin .lss (.c (e 3)) (.c v6)) E0 h fun v7 h =>
    (wb v7
    (k_gatepostref03_target_1 L K N0 (upd (upd (upd (upd e 4 (e 3)) 5 (e 0)) 6 v6) 7 v7) (e 0) (e 3) h)
    (k_gatepostref03_target_0 L K (e 0) h))))
theorem l_gatepostref03_target_0 {L : FuncId → List V → V → Prop} {K : V → Heap → Prop} (I : Nat → Env → Heap → Prop) (hr : ∀ n e h, I n e h → b_gatepostref03_target_0 L K (fun e' h' => ∃ m, m < n ∧ I m e' h') e h) {n : Nat} {e : Env} {h : Heap} (hi : I n e h) : Wl F L lc_gatepostref03_target_0 (q_gatepostref03_target_0 L K) e h :=
  wloopp (b := b_gatepostref03_target_0 L K) I (fun _ _ _ => by kernel_rfl) hr hi
def p_gatepostref03_target (L : FuncId → List V → V → Prop) (K : V → Heap → Prop) (a0 : V) (h : Heap) : Prop :=
    (Wl F L lc_gatepostref03_target_0 (q_gatepostref03_target_0 L K) (upd (upd (enterE [a0]) 2 (.bool false)) 3 (.int .i64 0)) h)
theorem run_gatepostref03_target {L : FuncId → List V → V → Prop} {K : V → Heap → Prop} {a0 : V} {h : Heap} (hp : p_gatepostref03_target L K a0 h) : Cf F L i_gatepostref03_target [a0] h K :=
  wcallp F_gatepostref03_target (show 1 ≤ 23 by decide) (p := p_gatepostref03_target L K a0 h) (by kernel_rfl) hp
def k_line_isReason_0 (L : FuncId → List V → V → Prop) (K : V → Heap → Prop) (h : Heap) : Prop :=
    (∃ v, some (.bool true) = some v ∧ K v h)
def k_line_isReason_2 (L : FuncId → List V → V → Prop) (K : V → Heap → Prop) (N0 : Env → Heap → Prop) (e : Env) (v7 : V) (h : Heap) : Prop :=
    (wi F L (.bin .add (.c v7) (.c (.int .i64 1))) E0 h fun v23 h =>
    (N0 (upd (upd e 23 v23) 7 v23) h))
def k_line_isReason_1 (L : FuncId → List V → V → Prop) (K : V → Heap → Prop) (N0 : Env → Heap → Prop) (e : Env) (v0 v7 : V) (h : Heap) : Prop :=
    (wi F L (.ixStr (.c v0) (.c v7)) E0 h fun v12 h =>
    (wi F L (.bin .lss (.c v12) (.c (.int .u8 32))) E0 h fun v14 h =>
    (wg v14 true (wi F L (.mv (.c v12)) E0 h) h fun v16 h =>
    (wg v14 true (wi F L (.bin .neq (.c v16) (.c (.int .u8 9))) E0 h) h fun v17 h =>
    (wi F L (.pick (.c v14) (.c v17) (.c (.bool false))) E0 h fun v18 h =>
    (wg v18 false (wi F L (.mv (.c v12)) E0 h) h fun v20 h =>
    (wg v18 false (wi F L (.bin .eql (.c v20) (.c (.int .u8 127))) E0 h) h fun v21 h =>
    (wi F L (.pick (.c v18) (.c (.bool true)) (.c v21)) E0 h fun v22 h =>
    (wb v22
    (∃ v, some (.bool false) = some v ∧ K v h)
    (k_line_isReason_2 L K N0 (upd (upd (upd (upd (upd (upd (upd (upd (upd (upd (upd (upd (upd (upd (upd (upd e 9 v7) 3 v7) 10 v0) 11 v7) 12 v12) 4 v12) 13 v12) 14 v14) 15 v14) 16 v16) 17 v17) 18 v18) 19 v18) 20 v20) 21 v21) 22 v22) v7 h))))))))))
def q_line_isReason_0 (L : FuncId → List V → V → Prop) (K : V → Heap → Prop) : X → Env → Heap → Prop := (fun x => (seqX (fun e h => k_line_isReason_0 L K  h) (retX c_line_isReason.results K)) (X.out 0 x))
def lc_line_isReason_0 : C :=
  (.seq (.region [⟨(some 8), none, .bin .lss (.t 7) (.t 6)⟩])
  (.seq (.cond (.t 8)
    .skip
    (.exit 0))
  (.seq (.block 1 (.seq (.region [⟨(some 9), none, .mv (.t 7)⟩, ⟨(some 3), none, .mv (.t 9)⟩])
  (.seq (.region [⟨(some 10), none, .mv (.t 0)⟩, ⟨(some 11), none, .mv (.t 3)⟩, ⟨(some 12), none, .ixStr (.t 10) (.t 11)⟩, ⟨(some 4), none, .mv (.t 12)⟩])
  (.seq (.region [⟨(some 13), none, .mv (.t 4)⟩, ⟨(some 14), none, .bin .lss (.t 13) (.c (.int .u8 32))⟩, ⟨(some 15), none, .mv (.t 14)⟩, ⟨(some 16), (some (15, true)), .mv (.t 4)⟩, ⟨(some 17), (some (15, true)), .bin .neq (.t 16) (.c (.int .u8 9))⟩, ⟨(some 18), none, .pick (.t 15) (.t 17) (.c (.bool false))⟩, ⟨(some 19), none, .mv (.t 18)⟩, ⟨(some 20), (some (19, false)), .mv (.t 4)⟩, ⟨(some 21), (some (19, false)), .bin .eql (.t 20) (.c (.int .u8 127))⟩, ⟨(some 22), none, .pick (.t 19) (.c (.bool true)) (.t 21)⟩])
  (.cond (.t 22)
    (.seq (.region [⟨(some 2), none, .mv (.c (.bool false))⟩])
    .ret)
    .skip)))))
  (.region [⟨(some 23), none, .bin .add (.t 7) (.c (.int .i64 1))⟩, ⟨(some 7), none, .mv (.t 23)⟩]))))
def b_line_isReason_0 (L : FuncId → List V → V → Prop) (K : V → Heap → Prop) (N0 : Env → Heap → Prop) (e : Env) (h : Heap) : Prop :=
    (wi F L (.bin .lss (.c (e 7)) (.c (e 6))) E0 h fun v8 h =>
    (wb v8
    (k_line_isReason_1 L K N0 (upd e 8 v8) (e 0) (e 7) h)
    (k_line_isReason_0 L K  h)))
theorem l_line_isReason_0 {L : FuncId → List V → V → Prop} {K : V → Heap → Prop} (I : Nat → Env → Heap → Prop) (hr : ∀ n e h, I n e h → b_line_isReason_0 L K (fun e' h' => ∃ m, m < n ∧ I m e' h') e h) {n : Nat} {e : Env} {h : Heap} (hi : I n e h) : Wl F L lc_line_isReason_0 (q_line_isReason_0 L K) e h :=
  wloopp (b := b_line_isReason_0 L K) I (fun _ _ _ => by kernel_rfl) hr hi
def p_line_isReason (L : FuncId → List V → V → Prop) (K : V → Heap → Prop) (a0 : V) (h : Heap) : Prop :=
    (wi F L (.len 0 (.c a0)) E0 h fun v6 h =>
    (Wl F L lc_line_isReason_0 (q_line_isReason_0 L K) (upd (upd (upd (upd (enterE [a0]) 2 (.bool false)) 5 a0) 6 v6) 7 (.int .i64 0)) h))
theorem run_line_isReason {L : FuncId → List V → V → Prop} {K : V → Heap → Prop} {a0 : V} {h : Heap} (hp : p_line_isReason L K a0 h) : Cf F L i_line_isReason [a0] h K :=
  wcallp F_line_isReason (show 1 ≤ 24 by decide) (p := p_line_isReason L K a0 h) (by kernel_rfl) hp
def k_gatepostref03_reason_0 (L : FuncId → List V → V → Prop) (K : V → Heap → Prop) (h : Heap) : Prop :=
    (∃ v, some (.bool true) = some v ∧ K v h)
def k_gatepostref03_reason_2 (L : FuncId → List V → V → Prop) (K : V → Heap → Prop) (N0 : Env → Heap → Prop) (e : Env) (v3 : V) (h : Heap) : Prop :=
    (wi F L (.bin .add (.c v3) (.c (.int .i64 1))) E0 h fun v9 h =>
    (N0 (upd (upd (upd e 8 v3) 9 v9) 3 v9) h))
def k_gatepostref03_reason_1 (L : FuncId → List V → V → Prop) (K : V → Heap → Prop) (N0 : Env → Heap → Prop) (e : Env) (v0 v3 : V) (h : Heap) : Prop :=
    (wi F L (.ixStr (.c v0) (.c v3)) E0 h fun v12 h =>
    (wi F L (.bin .neq (.c v12) (.c (.int .u8 9))) E0 h fun v13 h =>
    (wg v13 true (wi F L (.mv (.c v0)) E0 h) h fun v15 h =>
    (wg v13 true (wi F L (.mv (.c v3)) E0 h) h fun v16 h =>
    (wg v13 true (wi F L (.ixStr (.c v15) (.c v16)) E0 h) h fun v17 h =>
    (wg v13 true (wi F L (.bin .lss (.c v17) (.c (.int .u8 32))) E0 h) h fun v18 h =>
    (wi F L (.pick (.c v13) (.c v18) (.c (.bool false))) E0 h fun v19 h =>
    (wg v19 false (wi F L (.mv (.c v0)) E0 h) h fun v21 h =>
    (wg v19 false (wi F L (.mv (.c v3)) E0 h) h fun v22 h =>
    (wg v19 false (wi F L (.ixStr (.c v21) (.c v22)) E0 h) h fun v23 h =>
    (wg v19 false (wi F L (.bin .eql (.c v23) (.c (.int .u8 127))) E0 h) h fun v24 h =>
    (wi F L (.pick (.c v19) (.c (.bool true)) (.c v24)) E0 h fun v25 h =>
    (wb v25
    (∃ v, some (.bool false) = some v ∧ K v h)
    (k_gatepostref03_reason_2 L K N0 (upd (upd (upd (upd (upd (upd (upd (upd (upd (upd (upd (upd (upd (upd (upd (upd e 10 v0) 11 v3) 12 v12) 13 v13) 14 v13) 15 v15) 16 v16) 17 v17) 18 v18) 19 v19) 20 v19) 21 v21) 22 v22) 23 v23) 24 v24) 25 v25) v3 h))))))))))))))
def q_gatepostref03_reason_0 (L : FuncId → List V → V → Prop) (K : V → Heap → Prop) : X → Env → Heap → Prop := (fun x => (seqX (fun e h => k_gatepostref03_reason_0 L K  h) (retX c_gatepostref03_reason.results K)) (X.out 0 x))
def lc_gatepostref03_reason_0 : C :=
  (.seq (.seq (.region [⟨(some 4), none, .mv (.t 3)⟩, ⟨(some 5), none, .mv (.t 0)⟩, ⟨(some 6), none, .len 0 (.t 5)⟩, ⟨(some 7), none, .bin .lss (.t 4) (.t 6)⟩])
  (.cond (.t 7)
    .skip
    (.exit 0)))
  (.seq (.block 1 (.seq (.region [⟨(some 10), none, .mv (.t 0)⟩, ⟨(some 11), none, .mv (.t 3)⟩, ⟨(some 12), none, .ixStr (.t 10) (.t 11)⟩, ⟨(some 13), none, .bin .neq (.t 12) (.c (.int .u8 9))⟩, ⟨(some 14), none, .mv (.t 13)⟩, ⟨(some 15), (some (14, true)), .mv (.t 0)⟩, ⟨(some 16), (some (14, true)), .mv (.t 3)⟩, ⟨(some 17), (some (14, true)), .ixStr (.t 15) (.t 16)⟩, ⟨(some 18), (some (14, true)), .bin .lss (.t 17) (.c (.int .u8 32))⟩, ⟨(some 19), none, .pick (.t 14) (.t 18) (.c (.bool false))⟩, ⟨(some 20), none, .mv (.t 19)⟩, ⟨(some 21), (some (20, false)), .mv (.t 0)⟩, ⟨(some 22), (some (20, false)), .mv (.t 3)⟩, ⟨(some 23), (some (20, false)), .ixStr (.t 21) (.t 22)⟩, ⟨(some 24), (some (20, false)), .bin .eql (.t 23) (.c (.int .u8 127))⟩, ⟨(some 25), none, .pick (.t 20) (.c (.bool true)) (.t 24)⟩])
  (.cond (.t 25)
    (.seq (.region [⟨(some 2), none, .mv (.c (.bool false))⟩])
    .ret)
    .skip)))
  (.region [⟨(some 8), none, .mv (.t 3)⟩, ⟨(some 9), none, .bin .add (.t 8) (.c (.int .i64 1))⟩, ⟨(some 3), none, .mv (.t 9)⟩])))
def b_gatepostref03_reason_0 (L : FuncId → List V → V → Prop) (K : V → Heap → Prop) (N0 : Env → Heap → Prop) (e : Env) (h : Heap) : Prop :=
    (wi F L (.len 0 (.c (e 0))) E0 h fun v6 h =>
    (wi F L (.bin .lss (.c (e 3)) (.c v6)) E0 h fun v7 h =>
    (wb v7
    (k_gatepostref03_reason_1 L K N0 (upd (upd (upd (upd e 4 (e 3)) 5 (e 0)) 6 v6) 7 v7) (e 0) (e 3) h)
    (k_gatepostref03_reason_0 L K  h))))
theorem l_gatepostref03_reason_0 {L : FuncId → List V → V → Prop} {K : V → Heap → Prop} (I : Nat → Env → Heap → Prop) (hr : ∀ n e h, I n e h → b_gatepostref03_reason_0 L K (fun e' h' => ∃ m, m < n ∧ I m e' h') e h) {n : Nat} {e : Env} {h : Heap} (hi : I n e h) : Wl F L lc_gatepostref03_reason_0 (q_gatepostref03_reason_0 L K) e h :=
  wloopp (b := b_gatepostref03_reason_0 L K) I (fun _ _ _ => by kernel_rfl) hr hi
def p_gatepostref03_reason (L : FuncId → List V → V → Prop) (K : V → Heap → Prop) (a0 : V) (h : Heap) : Prop :=
    (Wl F L lc_gatepostref03_reason_0 (q_gatepostref03_reason_0 L K) (upd (upd (enterE [a0]) 2 (.bool false)) 3 (.int .i64 0)) h)
theorem run_gatepostref03_reason {L : FuncId → List V → V → Prop} {K : V → Heap → Prop} {a0 : V} {h : Heap} (hp : p_gatepostref03_reason L K a0 h) : Cf F L i_gatepostref03_reason [a0] h K :=
  wcallp F_gatepostref03_reason (show 1 ≤ 26 by decide) (p := p_gatepostref03_reason L K a0 h) (by kernel_rfl) hp
def p_line_words (L : FuncId → List V → V → Prop) (K : V → Heap → Prop) (a0 : V) (h : Heap) : Prop :=
    (wi F L (.call i_strings_Split [(.c a0), (.c (.str [32]))]) E0 h fun v5 h =>
    (wi F L (.len 1 (.c v5)) E0 h fun v8 h =>
    (wi F L (.len 1 (.c v5)) E0 h fun v10 h =>
    (wi F L (.slsl 1 (.c v5) none (some (.c v8)) (some (.c v10))) E0 h fun v11 h =>
    (∃ v, some v11 = some v ∧ K v h)))))
theorem run_line_words {L : FuncId → List V → V → Prop} {K : V → Heap → Prop} {a0 : V} {h : Heap} (hp : p_line_words L K a0 h) : Cf F L i_line_words [a0] h K :=
  wcallp F_line_words (show 1 ≤ 12 by decide) (p := p_line_words L K a0 h) (by kernel_rfl) hp
def k_line_version_0 (L : FuncId → List V → V → Prop) (K : V → Heap → Prop) (h : Heap) : Prop :=
    (∃ v, some (.int .i64 (-1)) = some v ∧ K v h)
def p_line_version (L : FuncId → List V → V → Prop) (K : V → Heap → Prop) (a0 : V) (h : Heap) : Prop :=
    (wi F L (.bin .eql (.c a0) (.c (.str [72, 84, 84, 80, 47, 49, 46, 48]))) E0 h fun v5 h =>
    (wb v5
    (∃ v, some (.int .i64 0) = some v ∧ K v h)
    (wi F L (.bin .eql (.c a0) (.c (.str [72, 84, 84, 80, 47, 49, 46, 49]))) E0 h fun v7 h =>
    (wb v7
    (∃ v, some (.int .i64 1) = some v ∧ K v h)
    (k_line_version_0 L K  h)))))
theorem run_line_version {L : FuncId → List V → V → Prop} {K : V → Heap → Prop} {a0 : V} {h : Heap} (hp : p_line_version L K a0 h) : Cf F L i_line_version [a0] h K :=
  wcallp F_line_version (show 1 ≤ 8 by decide) (p := p_line_version L K a0 h) (by kernel_rfl) hp
def k_gatepostref03_version_1 (L : FuncId → List V → V → Prop) (K : V → Heap → Prop) (h : Heap) : Prop :=
    (∃ v, some (.int .i64 (-1)) = some v ∧ K v h)
def k_gatepostref03_version_0 (L : FuncId → List V → V → Prop) (K : V → Heap → Prop) (v0 : V) (h : Heap) : Prop :=
    (wi F L (.bin .eql (.c v0) (.c (.str [72, 84, 84, 80, 47, 49, 46, 49]))) E0 h fun v6 h =>
    (wb v6
    (∃ v, some (.int .i64 1) = some v ∧ K v h)
    (k_gatepostref03_version_1 L K  h)))
def p_gatepostref03_version (L : FuncId → List V → V → Prop) (K : V → Heap → Prop) (a0 : V) (h : Heap) : Prop :=
    (wi F L (.bin .eql (.c a0) (.c (.str [72, 84, 84, 80, 47, 49, 46, 48]))) E0 h fun v4 h =>
    (wb v4
    (∃ v, some (.int .i64 0) = some v ∧ K v h)
    (k_gatepostref03_version_0 L K a0 h)))
theorem run_gatepostref03_version {L : FuncId → List V → V → Prop} {K : V → Heap → Prop} {a0 : V} {h : Heap} (hp : p_gatepostref03_version L K a0 h) : Cf F L i_gatepostref03_version [a0] h K :=
  wcallp F_gatepostref03_version (show 1 ≤ 7 by decide) (p := p_gatepostref03_version L K a0 h) (by kernel_rfl) hp
def p_line_Status_1 (L : FuncId → List V → V → Prop) (K : V → Heap → Prop) (a0 : V) (h : Heap) : Prop :=
    (∃ v, resultsV h (enterE [(.int .i64 0), (.int .i64 0), (.str []), a0]) [.tmp 0, .tmp 1, .tmp 2, .tmp 3] = some v ∧ K v h)
theorem run_line_Status_1 {L : FuncId → List V → V → Prop} {K : V → Heap → Prop} {a0 : V} {h : Heap} (hp : p_line_Status_1 L K a0 h) : Cf F L i_line_Status_1 [a0] h K :=
  wcallp F_line_Status_1 (show 1 ≤ 7 by decide) (p := p_line_Status_1 L K a0 h) (by kernel_rfl) hp
def p_strings_Cut (L : FuncId → List V → V → Prop) (K : V → Heap → Prop) (a0 a1 : V) (h : Heap) : Prop :=
    (wi F L (.call i_internal_stringslite_Cut [(.c a0), (.c a1)]) E0 h fun v9 h =>
    (wi F L (.ext 0 (.c v9)) E0 h fun v10 h =>
    (wi F L (.ext 1 (.c v9)) E0 h fun v11 h =>
    (wi F L (.ext 2 (.c v9)) E0 h fun v12 h =>
    (∃ v, resultsV h (enterE [v10, v11, v12]) [.tmp 0, .tmp 1, .tmp 2] = some v ∧ K v h)))))
theorem run_strings_Cut {L : FuncId → List V → V → Prop} {K : V → Heap → Prop} {a0 a1 : V} {h : Heap} (hp : p_strings_Cut L K a0 a1 h) : Cf F L i_strings_Cut [a0, a1] h K :=
  wcallp F_strings_Cut (show 2 ≤ 13 by decide) (p := p_strings_Cut L K a0 a1 h) (by kernel_rfl) hp
def k_token_Number_1 (L : FuncId → List V → V → Prop) (K : V → Heap → Prop) (v6 : V) (h : Heap) : Prop :=
    (∃ v, resultsV h (enterE [v6, (.bool true)]) [.tmp 0, .tmp 1] = some v ∧ K v h)
def k_token_Number_3 (L : FuncId → List V → V → Prop) (K : V → Heap → Prop) (N0 : Env → Heap → Prop) (e : Env) (v22 : V) (h : Heap) : Prop :=
    (wi F L (.bin .add (.c v22) (.c (.int .i64 1))) E0 h fun v46 h =>
    (N0 (upd (upd e 46 v46) 22 v46) h))
def k_token_Number_4 (L : FuncId → List V → V → Prop) (K : V → Heap → Prop) (N0 : Env → Heap → Prop) (e : Env) (v6 v8 v22 : V) (h : Heap) : Prop :=
    (wi F L (.bin .mul (.c (.int .i64 10)) (.c v6)) E0 h fun v43 h =>
    (wi F L (.bin .add (.c v43) (.c v8)) E0 h fun v45 h =>
    (k_token_Number_3 L K N0 (upd (upd (upd (upd (upd e 42 v6) 43 v43) 44 v8) 45 v45) 6 v45) v22 h)))
def k_token_Number_2 (L : FuncId → List V → V → Prop) (K : V → Heap → Prop) (N0 : Env → Heap → Prop) (e : Env) (v0 v1 v6 v22 : V) (h : Heap) : Prop :=
    (wi F L (.ixStr (.c v0) (.c v22)) E0 h fun v27 h =>
    (wi F L (.bin .sub (.c v27) (.c (.int .u8 48))) E0 h fun v28 h =>
    (wi F L (.toInt .i64 (.c v28)) E0 h fun v29 h =>
    (wi F L (.bin .gtr (.c v29) (.c v1)) E0 h fun v32 h =>
    (wg v32 false (wi F L (.mv (.c v6)) E0 h) h fun v34 h =>
    (wg v32 false (wi F L (.mv (.c v1)) E0 h) h fun v35 h =>
    (wg v32 false (wi F L (.mv (.c v29)) E0 h) h fun v36 h =>
    (wg v32 false (wi F L (.bin .sub (.c v35) (.c v36)) E0 h) h fun v37 h =>
    (wg v32 false (wi F L (.bin .quo (.c v37) (.c (.int .i64 10))) E0 h) h fun v38 h =>
    (wg v32 false (wi F L (.bin .gtr (.c v34) (.c v38)) E0 h) h fun v39 h =>
    (wi F L (.pick (.c v32) (.c (.bool true)) (.c v39)) E0 h fun v40 h =>
    (wb v40
    (∃ v, resultsV h (enterE [v1, (.bool true)]) [.tmp 0, .tmp 1] = some v ∧ K v h)
    (k_token_Number_4 L K N0 (upd (upd (upd (upd (upd (upd (upd (upd (upd (upd (upd (upd (upd (upd (upd (upd (upd (upd (upd e 24 v22) 7 v22) 25 v0) 26 v22) 27 v27) 28 v28) 29 v29) 8 v29) 30 v29) 31 v1) 32 v32) 33 v32) 34 v34) 35 v35) 36 v36) 37 v37) 38 v38) 39 v39) 40 v40) v6 v29 v22 h)))))))))))))
def q_token_Number_0 (L : FuncId → List V → V → Prop) (K : V → Heap → Prop) : X → Env → Heap → Prop := (fun x => (seqX (fun e h => k_token_Number_1 L K (e 6) h) (retX c_token_Number.results K)) (X.out 0 x))
def lc_token_Number_0 : C :=
  (.seq (.region [⟨(some 23), none, .bin .lss (.t 22) (.t 21)⟩])
  (.seq (.cond (.t 23)
    .skip
    (.exit 0))
  (.seq (.block 1 (.seq (.region [⟨(some 24), none, .mv (.t 22)⟩, ⟨(some 7), none, .mv (.t 24)⟩])
  (.seq (.region [⟨(some 25), none, .mv (.t 0)⟩, ⟨(some 26), none, .mv (.t 7)⟩, ⟨(some 27), none, .ixStr (.t 25) (.t 26)⟩, ⟨(some 28), none, .bin .sub (.t 27) (.c (.int .u8 48))⟩, ⟨(some 29), none, .toInt .i64 (.t 28)⟩, ⟨(some 8), none, .mv (.t 29)⟩])
  (.seq (.seq (.region [⟨(some 30), none, .mv (.t 8)⟩, ⟨(some 31), none, .mv (.t 1)⟩, ⟨(some 32), none, .bin .gtr (.t 30) (.t 31)⟩, ⟨(some 33), none, .mv (.t 32)⟩, ⟨(some 34), (some (33, false)), .mv (.t 6)⟩, ⟨(some 35), (some (33, false)), .mv (.t 1)⟩, ⟨(some 36), (some (33, false)), .mv (.t 8)⟩, ⟨(some 37), (some (33, false)), .bin .sub (.t 35) (.t 36)⟩, ⟨(some 38), (some (33, false)), .bin .quo (.t 37) (.c (.int .i64 10))⟩, ⟨(some 39), (some (33, false)), .bin .gtr (.t 34) (.t 38)⟩, ⟨(some 40), none, .pick (.t 33) (.c (.bool true)) (.t 39)⟩])
  (.cond (.t 40)
    (.seq (.region [⟨(some 41), none, .mv (.t 1)⟩, ⟨(some 4), none, .mv (.t 41)⟩, ⟨(some 5), none, .mv (.c (.bool true))⟩])
    .ret)
    .skip))
  (.region [⟨(some 42), none, .mv (.t 6)⟩, ⟨(some 43), none, .bin .mul (.c (.int .i64 10)) (.t 42)⟩, ⟨(some 44), none, .mv (.t 8)⟩, ⟨(some 45), none, .bin .add (.t 43) (.t 44)⟩, ⟨(some 6), none, .mv (.t 45)⟩])))))
  (.region [⟨(some 46), none, .bin .add (.t 22) (.c (.int .i64 1))⟩, ⟨(some 22), none, .mv (.t 46)⟩]))))
def b_token_Number_0 (L : FuncId → List V → V → Prop) (K : V → Heap → Prop) (N0 : Env → Heap → Prop) (e : Env) (h : Heap) : Prop :=
    (wi F L (.bin .lss (.c (e 22)) (.c (e 21))) E0 h fun v23 h =>
    (wb v23
    (k_token_Number_2 L K N0 (upd e 23 v23) (e 0) (e 1) (e 6) (e 22) h)
    (k_token_Number_1 L K (e 6) h)))
theorem l_token_Number_0 {L : FuncId → List V → V → Prop} {K : V → Heap → Prop} (I : Nat → Env → Heap → Prop) (hr : ∀ n e h, I n e h → b_token_Number_0 L K (fun e' h' => ∃ m, m < n ∧ I m e' h') e h) {n : Nat} {e : Env} {h : Heap} (hi : I n e h) : Wl F L lc_token_Number_0 (q_token_Number_0 L K) e h :=
  wloopp (b := b_token_Number_0 L K) I (fun _ _ _ => by kernel_rfl) hr hi
def k_token_Number_0 (L : FuncId → List V → V → Prop) (K : V → Heap → Prop) (e : Env) (v0 : V) (h : Heap) : Prop :=
    (wi F L (.len 0 (.c v0)) E0 h fun v21 h =>
    (Wl F L lc_token_Number_0 (q_token_Number_0 L K) (upd (upd (upd (upd e 6 (.int .i64 0)) 20 v0) 21 v21) 22 (.int .i64 0)) h))
def p_token_Number (L : FuncId → List V → V → Prop) (K : V → Heap → Prop) (a0 a1 : V) (h : Heap) : Prop :=
    (wi F L (.bin .eql (.c a0) (.c (.str []))) E0 h fun v10 h =>
    (wg v10 false (wi F L (.mv (.c a1)) E0 h) h fun v12 h =>
    (wg v10 false (wi F L (.bin .lss (.c v12) (.c (.int .i64 0))) E0 h) h fun v13 h =>
    (wi F L (.pick (.c v10) (.c (.bool true)) (.c v13)) E0 h fun v14 h =>
    (wg v14 false (wi F L (.mv (.c a0)) E0 h) h fun v16 h =>
    (wg v14 false (wi F L (.call i_token_all [(.c v16), (.c (.fn i_token_Number_1 []))]) E0 h) h fun v17 h =>
    (wg v14 false (wi F L (.un .not (.c v17)) E0 h) h fun v18 h =>
    (wi F L (.pick (.c v14) (.c (.bool true)) (.c v18)) E0 h fun v19 h =>
    (wb v19
    (∃ v, resultsV h (enterE [(.int .i64 0), (.bool false)]) [.tmp 0, .tmp 1] = some v ∧ K v h)
    (k_token_Number_0 L K (upd (upd (upd (upd (upd (upd (upd (upd (upd (upd (upd (upd (upd (enterE [a0, a1]) 4 (.int .i64 0)) 5 (.bool false)) 9 a0) 10 v10) 11 v10) 12 v12) 13 v13) 14 v14) 15 v14) 16 v16) 17 v17) 18 v18) 19 v19) a0 h))))))))))
theorem run_token_Number {L : FuncId → List V → V → Prop} {K : V → Heap → Prop} {a0 a1 : V} {h : Heap} (hp : p_token_Number L K a0 a1 h) : Cf F L i_token_Number [a0, a1] h K :=
  wcallp F_token_Number (show 2 ≤ 48 by decide) (p := p_token_Number L K a0 a1 h) (by kernel_rfl) hp
def k_gatepostref01_Number_2 (L : FuncId → List V → V → Prop) (K : V → Heap → Prop) (v6 : V) (h : Heap) : Prop :=
    (∃ v, resultsV h (enterE [v6, (.bool true)]) [.tmp 0, .tmp 1] = some v ∧ K v h)
def k_gatepostref01_Number_4 (L : FuncId → List V → V → Prop) (K : V → Heap → Prop) (N0 : Env → Heap → Prop) (e : Env) (v8 : V) (h : Heap) : Prop :=
    (wi F L (.bin .add (.c v8) (.c (.int .i64 1))) E0 h fun v38 h =>
    (N0 (upd (upd (upd e 37 v8) 38 v38) 8 v38) h))
def k_gatepostref01_Number_5 (L : FuncId → List V → V → Prop) (K : V → Heap → Prop) (N0 : Env → Heap → Prop) (e : Env) (v6 v8 v9 : V) (h : Heap) : Prop :=
    (wi F L (.bin .mul (.c v6) (.c (.int .i64 10))) E0 h fun v57 h =>
    (wi F L (.bin .add (.c v57) (.c v9)) E0 h fun v59 h =>
    (k_gatepostref01_Number_4 L K N0 (upd (upd (upd (upd (upd e 56 v6) 57 v57) 58 v9) 59 v59) 6 v59) v8 h)))
def k_gatepostref01_Number_3 (L : FuncId → List V → V → Prop) (K : V → Heap → Prop) (N0 : Env → Heap → Prop) (e : Env) (v0 v1 v6 v8 : V) (h : Heap) : Prop :=
    (wi F L (.ixStr (.c v0) (.c v8)) E0 h fun v41 h =>
    (wi F L (.bin .sub (.c v41) (.c (.int .u8 48))) E0 h fun v42 h =>
    (wi F L (.toInt .i64 (.c v42)) E0 h fun v43 h =>
    (wi F L (.bin .sub (.c v1) (.c v43)) E0 h fun v47 h =>
    (wi F L (.bin .quo (.c v47) (.c (.int .i64 10))) E0 h fun v48 h =>
    (wi F L (.bin .gtr (.c v6) (.c v48)) E0 h fun v49 h =>
    (wg v49 false (wi F L (.mv (.c v1)) E0 h) h fun v51 h =>
    (wg v49 false (wi F L (.mv (.c v43)) E0 h) h fun v52 h =>
    (wg v49 false (wi F L (.bin .lss (.c v51) (.c v52)) E0 h) h fun v53 h =>
    (wi F L (.pick (.c v49) (.c (.bool true)) (.c v53)) E0 h fun v54 h =>
    (wb v54
    (∃ v, resultsV h (enterE [v1, (.bool true)]) [.tmp 0, .tmp 1] = some v ∧ K v h)
    (k_gatepostref01_Number_5 L K N0 (upd (upd (upd (upd (upd (upd (upd (upd (upd (upd (upd (upd (upd (upd (upd (upd (upd e 39 v0) 40 v8) 41 v41) 42 v42) 43 v43) 9 v43) 44 v6) 45 v1) 46 v43) 47 v47) 48 v48) 49 v49) 50 v49) 51 v51) 52 v52) 53 v53) 54 v54) v6 v8 v43 h))))))))))))
def q_gatepostref01_Number_0 (L : FuncId → List V → V → Prop) (K : V → Heap → Prop) : X → Env → Heap → Prop := (fun x => (seqX (fun e h => k_gatepostref01_Number_2 L K (e 6) h) (retX c_gatepostref01_Number.results K)) (X.out 2 x))
def lc_gatepostref01_Number_0 : C :=
  (.seq (.seq (.region [⟨(some 33), none, .mv (.t 8)⟩, ⟨(some 34), none, .mv (.t 0)⟩, ⟨(some 35), none, .len 0 (.t 34)⟩, ⟨(some 36), none, .bin .lss (.t 33) (.t 35)⟩])
  (.cond (.t 36)
    .skip
    (.exit 2)))
  (.seq (.block 3 (.seq (.region [⟨(some 39), none, .mv (.t 0)⟩, ⟨(some 40), none, .mv (.t 8)⟩, ⟨(some 41), none, .ixStr (.t 39) (.t 40)⟩, ⟨(some 42), none, .bin .sub (.t 41) (.c (.int .u8 48))⟩, ⟨(some 43), none, .toInt .i64 (.t 42)⟩, ⟨(some 9), none, .mv (.t 43)⟩])
  (.seq (.seq (.region [⟨(some 44), none, .mv (.t 6)⟩, ⟨(some 45), none, .mv (.t 1)⟩, ⟨(some 46), none, .mv (.t 9)⟩, ⟨(some 47), none, .bin .sub (.t 45) (.t 46)⟩, ⟨(some 48), none, .bin .quo (.t 47) (.c (.int .i64 10))⟩, ⟨(some 49), none, .bin .gtr (.t 44) (.t 48)⟩, ⟨(some 50), none, .mv (.t 49)⟩, ⟨(some 51), (some (50, false)), .mv (.t 1)⟩, ⟨(some 52), (some (50, false)), .mv (.t 9)⟩, ⟨(some 53), (some (50, false)), .bin .lss (.t 51) (.t 52)⟩, ⟨(some 54), none, .pick (.t 50) (.c (.bool true)) (.t 53)⟩])
  (.cond (.t 54)
    (.seq (.region [⟨(some 55), none, .mv (.t 1)⟩, ⟨(some 4), none, .mv (.t 55)⟩, ⟨(some 5), none, .mv (.c (.bool true))⟩])
    .ret)
    .skip))
  (.region [⟨(some 56), none, .mv (.t 6)⟩, ⟨(some 57), none, .bin .mul (.t 56) (.c (.int .i64 10))⟩, ⟨(some 58), none, .mv (.t 9)⟩, ⟨(some 59), none, .bin .add (.t 57) (.t 58)⟩, ⟨(some 6), none, .mv (.t 59)⟩]))))
  (.region [⟨(some 37), none, .mv (.t 8)⟩, ⟨(some 38), none, .bin .add (.t 37) (.c (.int .i64 1))⟩, ⟨(some 8), none, .mv (.t 38)⟩])))
def b_gatepostref01_Number_0 (L : FuncId → List V → V → Prop) (K : V → Heap → Prop) (N0 : Env → Heap → Prop) (e : Env) (h : Heap) : Prop :=
    (wi F L (.len 0 (.c (e 0))) E0 h fun v35 h =>
    (wi F L (.bin .lss (.c (e 8)) (.c v35)) E0 h fun v36 h =>
    (wb v36
    (k_gatepostref01_Number_3 L K N0 (upd (upd (upd (upd e 33 (e 8)) 34 (e 0)) 35 v35) 36 v36) (e 0) (e 1) (e 6) (e 8) h)
    (k_gatepostref01_Number_2 L K (e 6) h))))
theorem l_gatepostref01_Number_0 {L : FuncId → List V → V → Prop} {K : V → Heap → Prop} (I : Nat → Env → Heap → Prop) (hr : ∀ n e h, I n e h → b_gatepostref01_Number_0 L K (fun e' h' => ∃ m, m < n ∧ I m e' h') e h) {n : Nat} {e : Env} {h : Heap} (hi : I n e h) : Wl F L lc_gatepostref01_Number_0 (q_gatepostref01_Number_0 L K) e h :=
  wloopp (b := b_gatepostref01_Number_0 L K) I (fun _ _ _ => by kernel_rfl) hr hi
def k_gatepostref01_Number_1 (L : FuncId → List V → V → Prop) (K : V → Heap → Prop) (e : Env) (h : Heap) : Prop :=
    (Wl F L lc_gatepostref01_Number_0 (q_gatepostref01_Number_0 L K) (upd e 8 (.int .i64 0)) h)
def k_gatepostref01_Number_7 (L : FuncId → List V → V → Prop) (K : V → Heap → Prop) (N0 : Env → Heap → Prop) (e : Env) (v7 : V) (h : Heap) : Prop :=
    (wi F L (.bin .add (.c v7) (.c (.int .i64 1))) E0 h fun v22 h =>
    (N0 (upd (upd (upd e 21 v7) 22 v22) 7 v22) h))
def k_gatepostref01_Number_6 (L : FuncId → List V → V → Prop) (K : V → Heap → Prop) (N0 : Env → Heap → Prop) (e : Env) (v0 v7 : V) (h : Heap) : Prop :=
    (wi F L (.ixStr (.c v0) (.c v7)) E0 h fun v25 h =>
    (wi F L (.bin .lss (.c v25) (.c (.int .u8 48))) E0 h fun v26 h =>
    (wg v26 false (wi F L (.mv (.c v0)) E0 h) h fun v28 h =>
    (wg v26 false (wi F L (.mv (.c v7)) E0 h) h fun v29 h =>
    (wg v26 false (wi F L (.ixStr (.c v28) (.c v29)) E0 h) h fun v30 h =>
    (wg v26 false (wi F L (.bin .gtr (.c v30) (.c (.int .u8 57))) E0 h) h fun v31 h =>
    (wi F L (.pick (.c v26) (.c (.bool true)) (.c v31)) E0 h fun v32 h =>
    (wb v32
    (∃ v, resultsV h (enterE [(.int .i64 0), (.bool false)]) [.tmp 0, .tmp 1] = some v ∧ K v h)
    (k_gatepostref01_Number_7 L K N0 (upd (upd (upd (upd (upd (upd (upd (upd (upd (upd e 23 v0) 24 v7) 25 v25) 26 v26) 27 v26) 28 v28) 29 v29) 30 v30) 31 v31) 32 v32) v7 h)))))))))
def q_gatepostref01_Number_1 (L : FuncId → List V → V → Prop) (K : V → Heap → Prop) : X → Env → Heap → Prop := (fun x => (seqX (fun e h => k_gatepostref01_Number_1 L K e  h) (retX c_gatepostref01_Number.results K)) (X.out 0 x))
def lc_gatepostref01_Number_1 : C :=
  (.seq (.seq (.region [⟨(some 17), none, .mv (.t 7)⟩, ⟨(some 18), none, .mv (.t 0)⟩, ⟨(some 19), none, .len 0 (.t 18)⟩, ⟨(some 20), none, .bin .lss (.t 17) (.t 19)⟩])
  (.cond (.t 20)
    .skip
    (.exit 0)))
  (.seq (.block 1 (.seq (.region [⟨(some 23), none, .mv (.t 0)⟩, ⟨(some 24), none, .mv (.t 7)⟩, ⟨(some 25), none, .ixStr (.t 23) (.t 24)⟩, ⟨(some 26), none, .bin .lss (.t 25) (.c (.int .u8 48))⟩, ⟨(some 27), none, .mv (.t 26)⟩, ⟨(some 28), (some (27, false)), .mv (.t 0)⟩, ⟨(some 29), (some (27, false)), .mv (.t 7)⟩, ⟨(some 30), (some (27, false)), .ixStr (.t 28) (.t 29)⟩, ⟨(some 31), (some (27, false)), .bin .gtr (.t 30) (.c (.int .u8 57))⟩, ⟨(some 32), none, .pick (.t 27) (.c (.bool true)) (.t 31)⟩])
  (.cond (.t 32)
    (.seq (.region [⟨(some 4), none, .mv (.c (.int .i64 0))⟩, ⟨(some 5), none, .mv (.c (.bool false))⟩])
    .ret)
    .skip)))
  (.region [⟨(some 21), none, .mv (.t 7)⟩, ⟨(some 22), none, .bin .add (.t 21) (.c (.int .i64 1))⟩, ⟨(some 7), none, .mv (.t 22)⟩])))
def b_gatepostref01_Number_1 (L : FuncId → List V → V → Prop) (K : V → Heap → Prop) (N0 : Env → Heap → Prop) (e : Env) (h : Heap) : Prop :=
    (wi F L (.len 0 (.c (e 0))) E0 h fun v19 h =>
    (wi F L (.bin .lss (.c (e 7)) (.c v19)) E0 h fun v20 h =>
    (wb v20
    (k_gatepostref01_Number_6 L K N0 (upd (upd (upd (upd e 17 (e 7)) 18 (e 0)) 19 v19) 20 v20) (e 0) (e 7) h)
    (k_gatepostref01_Number_1 L K (upd (upd (upd (upd e 17 (e 7)) 18 (e 0)) 19 v19) 20 v20)  h))))
theorem l_gatepostref01_Number_1 {L : FuncId → List V → V → Prop} {K : V → Heap → Prop} (I : Nat → Env → Heap → Prop) (hr : ∀ n e h, I n e h → b_gatepostref01_Number_1 L K (fun e' h' => ∃ m, m < n ∧ I m e' h') e h) {n : Nat} {e : Env} {h : Heap} (hi : I n e h) : Wl F L lc_gatepostref01_Number_1 (q_gatepostref01_Number_1 L K) e h :=
  wloopp (b := b_gatepostref01_Number_1 L K) I (fun _ _ _ => by kernel_rfl) hr hi
def k_gatepostref01_Number_0 (L : FuncId → List V → V → Prop) (K : V → Heap → Prop) (e : Env) (h : Heap) : Prop :=
    (Wl F L lc_gatepostref01_Number_1 (q_gatepostref01_Number_1 L K) (upd (upd e 6 (.int .i64 0)) 7 (.int .i64 0)) h)
def p_gatepostref01_Number (L : FuncId → List V → V → Prop) (K : V → Heap → Prop) (a0 a1 : V) (h : Heap) : Prop :=
    (wi F L (.bin .lss (.c a1) (.c (.int .i64 0))) E0 h fun v11 h =>
    (wg v11 false (wi F L (.mv (.c a0)) E0 h) h fun v13 h =>
    (wg v11 false (wi F L (.len 0 (.c v13)) E0 h) h fun v14 h =>
    (wg v11 false (wi F L (.bin .eql (.c v14) (.c (.int .i64 0))) E0 h) h fun v15 h =>
    (wi F L (.pick (.c v11) (.c (.bool true)) (.c v15)) E0 h fun v16 h =>
    (wb v16
    (∃ v, resultsV h (enterE [(.int .i64 0), (.bool false)]) [.tmp 0, .tmp 1] = some v ∧ K v h)
    (k_gatepostref01_Number_0 L K (upd (upd (upd (upd (upd (upd (upd (upd (upd (enterE [a0, a1]) 4 (.int .i64 0)) 5 (.bool false)) 10 a1) 11 v11) 12 v11) 13 v13) 14 v14) 15 v15) 16 v16)  h)))))))
theorem run_gatepostref01_Number {L : FuncId → List V → V → Prop} {K : V → Heap → Prop} {a0 a1 : V} {h : Heap} (hp : p_gatepostref01_Number L K a0 a1 h) : Cf F L i_gatepostref01_Number [a0, a1] h K :=
  wcallp F_gatepostref01_Number (show 2 ≤ 61 by decide) (p := p_gatepostref01_Number L K a0 a1 h) (by kernel_rfl) hp
def k_token_all_0 (L : FuncId → List V → V → Prop) (K : V → Heap → Prop) (h : Heap) : Prop :=
    (∃ v, some (.bool true) = some v ∧ K v h)
def k_token_all_2 (L : FuncId → List V → V → Prop) (K : V → Heap → Prop) (N0 : Env → Heap → Prop) (e : Env) (v8 : V) (h : Heap) : Prop :=
    (wi F L (.bin .add (.c v8) (.c (.int .i64 1))) E0 h fun v17 h =>
    (N0 (upd (upd e 17 v17) 8 v17) h))
def k_token_all_1 (L : FuncId → List V → V → Prop) (K : V → Heap → Prop) (N0 : Env → Heap → Prop) (e : Env) (v0 v1 v8 : V) (h : Heap) : Prop :=
    (wi F L (.ixStr (.c v0) (.c v8)) E0 h fun v14 h =>
    (wi F L (.callv (.c v1) [(.c v14)]) E0 h fun v15 h =>
    (wi F L (.un .not (.c v15)) E0 h fun v16 h =>
    (wb v16
    (∃ v, some (.bool false) = some v ∧ K v h)
    (k_token_all_2 L K N0 (upd (upd (upd (upd (upd (upd (upd (upd e 10 v8) 5 v8) 11 v1) 12 v0) 13 v8) 14 v14) 15 v15) 16 v16) v8 h)))))
def q_token_all_0 (L : FuncId → List V → V → Prop) (K : V → Heap → Prop) : X → Env → Heap → Prop := (fun x => (seqX (fun e h => k_token_all_0 L K  h) (retX c_token_all.results K)) (X.out 0 x))
def lc_token_all_0 : C :=
  (.seq (.region [⟨(some 9), none, .bin .lss (.t 8) (.t 7)⟩])
  (.seq (.cond (.t 9)
    .skip
    (.exit 0))
  (.seq (.block 1 (.seq (.region [⟨(some 10), none, .mv (.t 8)⟩, ⟨(some 5), none, .mv (.t 10)⟩])
  (.seq (.region [⟨(some 11), none, .mv (.t 1)⟩, ⟨(some 12), none, .mv (.t 0)⟩, ⟨(some 13), none, .mv (.t 5)⟩, ⟨(some 14), none, .ixStr (.t 12) (.t 13)⟩, ⟨(some 15), none, .callv (.t 11) [(.t 14)]⟩, ⟨(some 16), none, .un .not (.t 15)⟩])
  (.cond (.t 16)
    (.seq (.region [⟨(some 4), none, .mv (.c (.bool false))⟩])
    .ret)
    .skip))))
  (.region [⟨(some 17), none, .bin .add (.t 8) (.c (.int .i64 1))⟩, ⟨(some 8), none, .mv (.t 17)⟩]))))
def b_token_all_0 (L : FuncId → List V → V → Prop) (K : V → Heap → Prop) (N0 : Env → Heap → Prop) (e : Env) (h : Heap) : Prop :=
    (wi F L (.bin .lss (.c (e 8)) (.c (e 7))) E0 h fun v9 h =>
    (wb v9
    (k_token_all_1 L K N0 (upd e 9 v9) (e 0) (e 1) (e 8) h)
    (k_token_all_0 L K  h)))
theorem l_token_all_0 {L : FuncId → List V → V → Prop} {K : V → Heap → Prop} (I : Nat → Env → Heap → Prop) (hr : ∀ n e h, I n e h → b_token_all_0 L K (fun e' h' => ∃ m, m < n ∧ I m e' h') e h) {n : Nat} {e : Env} {h : Heap} (hi : I n e h) : Wl F L lc_token_all_0 (q_token_all_0 L K) e h :=
  wloopp (b := b_token_all_0 L K) I (fun _ _ _ => by kernel_rfl) hr hi
def p_token_all (L : FuncId → List V → V → Prop) (K : V → Heap → Prop) (a0 a1 : V) (h : Heap) : Prop :=
    (wi F L (.len 0 (.c a0)) E0 h fun v7 h =>
    (Wl F L lc_token_all_0 (q_token_all_0 L K) (upd (upd (upd (upd (enterE [a0, a1]) 4 (.bool false)) 6 a0) 7 v7) 8 (.int .i64 0)) h))
theorem run_token_all {L : FuncId → List V → V → Prop} {K : V → Heap → Prop} {a0 a1 : V} {h : Heap} (hp : p_token_all L K a0 a1 h) : Cf F L i_token_all [a0, a1] h K :=
  wcallp F_token_all (show 2 ≤ 18 by decide) (p := p_token_all L K a0 a1 h) (by kernel_rfl) hp
def k_token_inToken_1 (L : FuncId → List V → V → Prop) (K : V → Heap → Prop) (h : Heap) : Prop :=
    (∃ v, some (.bool false) = some v ∧ K v h)
def k_token_inToken_3 (L : FuncId → List V → V → Prop) (K : V → Heap → Prop) (N0 : Env → Heap → Prop) (e : Env) (v23 : V) (h : Heap) : Prop :=
    (wi F L (.bin .add (.c v23) (.c (.int .i64 1))) E0 h fun v29 h =>
    (N0 (upd (upd e 29 v29) 23 v29) h))
def k_token_inToken_2 (L : FuncId → List V → V → Prop) (K : V → Heap → Prop) (N0 : Env → Heap → Prop) (e : Env) (v0 v22 v23 : V) (h : Heap) : Prop :=
    (wi F L (.ixArr 15 1 false (.c v22) (.c v23)) E0 h fun v25 h =>
    (wi F L (.bin .eql (.c v25) (.c v0)) E0 h fun v28 h =>
    (wb v28
    (∃ v, some (.bool true) = some v ∧ K v h)
    (k_token_inToken_3 L K N0 (upd (upd (upd (upd (upd e 25 v25) 5 v25) 26 v25) 27 v0) 28 v28) v23 h))))
def q_token_inToken_0 (L : FuncId → List V → V → Prop) (K : V → Heap → Prop) : X → Env → Heap → Prop := (fun x => (seqX (fun e h => k_token_inToken_1 L K  h) (retX c_token_inToken.results K)) (X.out 0 x))
def lc_token_inToken_0 : C :=
  (.seq (.region [⟨(some 24), none, .bin .lss (.t 23) (.c (.int .i64 15))⟩])
  (.seq (.cond (.t 24)
    .skip
    (.exit 0))
  (.seq (.block 1 (.seq (.region [⟨(some 25), none, .ixArr 15 1 false (.t 22) (.t 23)⟩, ⟨(some 5), none, .mv (.t 25)⟩])
  (.seq (.region [⟨(some 26), none, .mv (.t 5)⟩, ⟨(some 27), none, .mv (.t 0)⟩, ⟨(some 28), none, .bin .eql (.t 26) (.t 27)⟩])
  (.cond (.t 28)
    (.seq (.region [⟨(some 2), none, .mv (.c (.bool true))⟩])
    .ret)
    .skip))))
  (.region [⟨(some 29), none, .bin .add (.t 23) (.c (.int .i64 1))⟩, ⟨(some 23), none, .mv (.t 29)⟩]))))
def b_token_inToken_0 (L : FuncId → List V → V → Prop) (K : V → Heap → Prop) (N0 : Env → Heap → Prop) (e : Env) (h : Heap) : Prop :=
    (wi F L (.bin .lss (.c (e 23)) (.c (.int .i64 15))) E0 h fun v24 h =>
    (wb v24
    (k_token_inToken_2 L K N0 (upd e 24 v24) (e 0) (e 22) (e 23) h)
    (k_token_inToken_1 L K  h)))
theorem l_token_inToken_0 {L : FuncId → List V → V → Prop} {K : V → Heap → Prop} (I : Nat → Env → Heap → Prop) (hr : ∀ n e h, I n e h → b_token_inToken_0 L K (fun e' h' => ∃ m, m < n ∧ I m e' h') e h) {n : Nat} {e : Env} {h : Heap} (hi : I n e h) : Wl F L lc_token_inToken_0 (q_token_inToken_0 L K) e h :=
  wloopp (b := b_token_inToken_0 L K) I (fun _ _ _ => by kernel_rfl) hr hi
def k_token_inToken_0 (L : FuncId → List V → V → Prop) (K : V → Heap → Prop) (e : Env) (h : Heap) : Prop :=
    (wi F L (.call i_token_marks []) E0 h fun v22 h =>
    (Wl F L lc_token_inToken_0 (q_token_inToken_0 L K) (upd (upd e 22 v22) 23 (.int .i64 0)) h))
def p_token_inToken (L : FuncId → List V → V → Prop) (K : V → Heap → Prop) (a0 : V) (h : Heap) : Prop :=
    (wi F L (.bin .or (.c a0) (.c (.int .u8 32))) E0 h fun v7 h =>
    (wi F L (.bin .geq (.c v7) (.c (.int .u8 97))) E0 h fun v9 h =>
    (wg v9 true (wi F L (.mv (.c v7)) E0 h) h fun v11 h =>
    (wg v9 true (wi F L (.bin .leq (.c v11) (.c (.int .u8 122))) E0 h) h fun v12 h =>
    (wi F L (.pick (.c v9) (.c v12) (.c (.bool false))) E0 h fun v13 h =>
    (wg v13 false (wi F L (.mv (.c a0)) E0 h) h fun v15 h =>
    (wg v13 false (wi F L (.bin .geq (.c v15) (.c (.int .u8 48))) E0 h) h fun v16 h =>
    (wg v13 false (wi F L (.mv (.c v16)) E0 h) h fun v17 h =>
    (wg v17 true (wi F L (.mv (.c a0)) E0 h) h fun v18 h =>
    (wg v17 true (wi F L (.bin .leq (.c v18) (.c (.int .u8 57))) E0 h) h fun v19 h =>
    (wg v13 false (wi F L (.pick (.c v17) (.c v19) (.c (.bool false))) E0 h) h fun v20 h =>
    (wi F L (.pick (.c v13) (.c (.bool true)) (.c v20)) E0 h fun v21 h =>
    (wb v21
    (∃ v, some (.bool true) = some v ∧ K v h)
    (k_token_inToken_0 L K (upd (upd (upd (upd (upd (upd (upd (upd (upd (upd (upd (upd (upd (upd (upd (upd (upd (upd (enterE [a0]) 2 (.bool false)) 6 a0) 7 v7) 3 v7) 8 v7) 9 v9) 10 v9) 11 v11) 12 v12) 13 v13) 14 v13) 15 v15) 16 v16) 17 v17) 18 v18) 19 v19) 20 v20) 21 v21)  h))))))))))))))
theorem run_token_inToken {L : FuncId → List V → V → Prop} {K : V → Heap → Prop} {a0 : V} {h : Heap} (hp : p_token_inToken L K a0 h) : Cf F L i_token_inToken [a0] h K :=
  wcallp F_token_inToken (show 1 ≤ 30 by decide) (p := p_token_inToken L K a0 h) (by kernel_rfl) hp
def k_gatepostref01_tchar_1 (L : FuncId → List V → V → Prop) (K : V → Heap → Prop) (h : Heap) : Prop :=
    (∃ v, some (.bool false) = some v ∧ K v h)
def k_gatepostref01_tchar_2 (L : FuncId → List V → V → Prop) (K : V → Heap → Prop) (v26 : V) (h : Heap) : Prop :=
    (wb v26
    (∃ v, some (.bool true) = some v ∧ K v h)
    (k_gatepostref01_tchar_1 L K  h))
def k_gatepostref01_tchar_0 (L : FuncId → List V → V → Prop) (K : V → Heap → Prop) (v0 : V) (h : Heap) : Prop :=
    (wi F L (.bin .eql (.c v0) (.c (.int .u8 33))) E0 h fun v27 h =>
    (wb v27
    (k_gatepostref01_tchar_2 L K v27 h)
    (wi F L (.bin .eql (.c v0) (.c (.int .u8 35))) E0 h fun v28 h =>
    (wb v28
    (k_gatepostref01_tchar_2 L K v28 h)
    (wi F L (.bin .eql (.c v0) (.c (.int .u8 36))) E0 h fun v29 h =>
    (wb v29
    (k_gatepostref01_tchar_2 L K v29 h)
    (wi F L (.bin .eql (.c v0) (.c (.int .u8 37))) E0 h fun v30 h =>
    (wb v30
    (k_gatepostref01_tchar_2 L K v30 h)
    (wi F L (.bin .eql (.c v0) (.c (.int .u8 38))) E0 h fun v31 h =>
    (wb v31
    (k_gatepostref01_tchar_2 L K v31 h)
    (wi F L (.bin .eql (.c v0) (.c (.int .u8 39))) E0 h fun v32 h =>
    (wb v32
    (k_gatepostref01_tchar_2 L K v32 h)
    (wi F L (.bin .eql (.c v0) (.c (.int .u8 42))) E0 h fun v33 h =>
    (wb v33
    (k_gatepostref01_tchar_2 L K v33 h)
    (wi F L (.bin .eql (.c v0) (.c (.int .u8 43))) E0 h fun v34 h =>
    (wb v34
    (k_gatepostref01_tchar_2 L K v34 h)
    (wi F L (.bin .eql (.c v0) (.c (.int .u8 45))) E0 h fun v35 h =>
    (wb v35
    (k_gatepostref01_tchar_2 L K v35 h)
    (wi F L (.bin .eql (.c v0) (.c (.int .u8 46))) E0 h fun v36 h =>
    (wb v36
    (k_gatepostref01_tchar_2 L K v36 h)
    (wi F L (.bin .eql (.c v0) (.c (.int .u8 94))) E0 h fun v37 h =>
    (wb v37
    (k_gatepostref01_tchar_2 L K v37 h)
    (wi F L (.bin .eql (.c v0) (.c (.int .u8 95))) E0 h fun v38 h =>
    (wb v38
    (k_gatepostref01_tchar_2 L K v38 h)
    (wi F L (.bin .eql (.c v0) (.c (.int .u8 96))) E0 h fun v39 h =>
    (wb v39
    (k_gatepostref01_tchar_2 L K v39 h)
    (wi F L (.bin .eql (.c v0) (.c (.int .u8 124))) E0 h fun v40 h =>
    (wb v40
    (k_gatepostref01_tchar_2 L K v40 h)
    (wi F L (.bin .eql (.c v0) (.c (.int .u8 126))) E0 h fun v41 h =>
    (k_gatepostref01_tchar_2 L K v41 h))))))))))))))))))))))))))))))
def p_gatepostref01_tchar (L : FuncId → List V → V → Prop) (K : V → Heap → Prop) (a0 : V) (h : Heap) : Prop :=
    (wi F L (.bin .geq (.c a0) (.c (.int .u8 97))) E0 h fun v4 h =>
    (wg v4 true (wi F L (.mv (.c a0)) E0 h) h fun v6 h =>
    (wg v4 true (wi F L (.bin .leq (.c v6) (.c (.int .u8 122))) E0 h) h fun v7 h =>
    (wi F L (.pick (.c v4) (.c v7) (.c (.bool false))) E0 h fun v8 h =>
    (wg v8 false (wi F L (.mv (.c a0)) E0 h) h fun v10 h =>
    (wg v8 false (wi F L (.bin .geq (.c v10) (.c (.int .u8 65))) E0 h) h fun v11 h =>
    (wg v8 false (wi F L (.mv (.c v11)) E0 h) h fun v12 h =>
    (wg v12 true (wi F L (.mv (.c a0)) E0 h) h fun v13 h =>
    (wg v12 true (wi F L (.bin .leq (.c v13) (.c (.int .u8 90))) E0 h) h fun v14 h =>
    (wg v8 false (wi F L (.pick (.c v12) (.c v14) (.c (.bool false))) E0 h) h fun v15 h =>
    (wi F L (.pick (.c v8) (.c (.bool true)) (.c v15)) E0 h fun v16 h =>
    (wg v16 false (wi F L (.mv (.c a0)) E0 h) h fun v18 h =>
    (wg v16 false (wi F L (.bin .geq (.c v18) (.c (.int .u8 48))) E0 h) h fun v19 h =>
    (wg v16 false (wi F L (.mv (.c v19)) E0 h) h fun v20 h =>
    (wg v20 true (wi F L (.mv (.c a0)) E0 h) h fun v21 h =>
    (wg v20 true (wi F L (.bin .leq (.c v21) (.c (.int .u8 57))) E0 h) h fun v22 h =>
    (wg v16 false (wi F L (.pick (.c v20) (.c v22) (.c (.bool false))) E0 h) h fun v23 h =>
    (wi F L (.pick (.c v16) (.c (.bool true)) (.c v23)) E0 h fun v24 h =>
    (wb v24
    (∃ v, some (.bool true) = some v ∧ K v h)
    (k_gatepostref01_tchar_0 L K a0 h))))))))))))))))))))
theorem run_gatepostref01_tchar {L : FuncId → List V → V → Prop} {K : V → Heap → Prop} {a0 : V} {h : Heap} (hp : p_gatepostref01_tchar L K a0 h) : Cf F L i_gatepostref01_tchar [a0] h K :=
  wcallp F_gatepostref01_tchar (show 1 ≤ 42 by decide) (p := p_gatepostref01_tchar L K a0 h) (by kernel_rfl) hp
def p_strings_Split (L : FuncId → List V → V → Prop) (K : V → Heap → Prop) (a0 a1 : V) (h : Heap) : Prop :=
    (wi F L (.call i_strings_genSplit [(.c a0), (.c a1), (.c (.int .i64 0)), (.c (.int .i64 (-1)))]) E0 h fun v7 h =>
    (∃ v, some v7 = some v ∧ K v h))
theorem run_strings_Split {L : FuncId → List V → V → Prop} {K : V → Heap → Prop} {a0 a1 : V} {h : Heap} (hp : p_strings_Split L K a0 a1 h) : Cf F L i_strings_Split [a0, a1] h K :=
  wcallp F_strings_Split (show 2 ≤ 8 by decide) (p := p_strings_Split L K a0 a1 h) (by kernel_rfl) hp
def k_internal_stringslite_Cut_0 (L : FuncId → List V → V → Prop) (K : V → Heap → Prop) (v0 : V) (h : Heap) : Prop :=
    (∃ v, resultsV h (enterE [v0, (.str []), (.bool false)]) [.tmp 0, .tmp 1, .tmp 2] = some v ∧ K v h)
def p_internal_stringslite_Cut (L : FuncId → List V → V → Prop) (K : V → Heap → Prop) (a0 a1 : V) (h : Heap) : Prop :=
    (wi F L (.call i_internal_stringslite_Index [(.c a0), (.c a1)]) E0 h fun v10 h =>
    (wi F L (.bin .geq (.c v10) (.c (.int .i64 0))) E0 h fun v12 h =>
    (wb v12
    (wi F L (.slstr (.c a0) none (some (.c v10))) E0 h fun v15 h' => Ext h h' ∧
    (wi F L (.len 0 (.c a1)) E0 h' fun v19 h => Ext h' h ∧
    (wi F L (.bin .add (.c v10) (.c v19)) E0 h fun v20 h' => Ext h h' ∧
    (wi F L (.slstr (.c a0) (some (.c v20)) none) E0 h' fun v21 h => Ext h' h ∧
    (∃ v, resultsV h (enterE [v15, v21, (.bool true)]) [.tmp 0, .tmp 1, .tmp 2] = some v ∧ K v h)))))
    (k_internal_stringslite_Cut_0 L K a0 h))))
theorem run_internal_stringslite_Cut {L : FuncId → List V → V → Prop} {K : V → Heap → Prop} {a0 a1 : V} {h : Heap} (hp : p_internal_stringslite_Cut L K a0 a1 h) : Cf F L i_internal_stringslite_Cut [a0, a1] h K :=
  wcallp F_internal_stringslite_Cut (show 2 ≤ 23 by decide) (p := p_internal_stringslite_Cut L K a0 a1 h) (by kernel_rfl) hp
def p_token_Number_1 (L : FuncId → List V → V → Prop) (K : V → Heap → Prop) (a0 : V) (h : Heap) : Prop :=
    (wi F L (.bin .geq (.c a0) (.c (.int .u8 48))) E0 h fun v4 h =>
    (wg v4 true (wi F L (.mv (.c a0)) E0 h) h fun v6 h =>
    (wg v4 true (wi F L (.bin .leq (.c v6) (.c (.int .u8 57))) E0 h) h fun v7 h =>
    (wi F L (.pick (.c v4) (.c v7) (.c (.bool false))) E0 h fun v8 h =>
    (∃ v, some v8 = some v ∧ K v h)))))
theorem run_token_Number_1 {L : FuncId → List V → V → Prop} {K : V → Heap → Prop} {a0 : V} {h : Heap} (hp : p_token_Number_1 L K a0 h) : Cf F L i_token_Number_1 [a0] h K :=
  wcallp F_token_Number_1 (show 1 ≤ 9 by decide) (p := p_token_Number_1 L K a0 h) (by kernel_rfl) hp
def p_token_marks (L : FuncId → List V → V → Prop) (K : V → Heap → Prop) (h : Heap) : Prop :=
    (wi F L (.boxz [(.int .u8 0), (.int .u8 0), (.int .u8 0), (.int .u8 0), (.int .u8 0), (.int .u8 0), (.int .u8 0), (.int .u8 0), (.int .u8 0), (.int .u8 0), (.int .u8 0), (.int .u8 0), (.int .u8 0), (.int .u8 0), (.int .u8 0)]) E0 h fun v0 h =>
    (wi F L (.build [(.int .u8 0), (.int .u8 0), (.int .u8 0), (.int .u8 0), (.int .u8 0), (.int .u8 0), (.int .u8 0), (.int .u8 0), (.int .u8 0), (.int .u8 0), (.int .u8 0), (.int .u8 0), (.int .u8 0), (.int .u8 0), (.int .u8 0)] [(0, 1, (.c (.int .u8 33))), (1, 1, (.c (.int .u8 35))), (2, 1, (.c (.int .u8 36))), (3, 1, (.c (.int .u8 37))), (4, 1, (.c (.int .u8 38))), (5, 1, (.c (.int .u8 39))), (6, 1, (.c (.int .u8 42))), (7, 1, (.c (.int .u8 43))), (8, 1, (.c (.int .u8 45))), (9, 1, (.c (.int .u8 46))), (10, 1, (.c (.int .u8 94))), (11, 1, (.c (.int .u8 95))), (12, 1, (.c (.int .u8 96))), (13, 1, (.c (.int .u8 124))), (14, 1, (.c (.int .u8 126)))]) E0 h fun v1 h =>
    (wi F L (.store 15 (.c v0) (.c v1)) E0 h fun _ h =>
    (∃ v, resultsV h (enterE [v0]) [.cell 0 true 15] = some v ∧ K v h))))
theorem run_token_marks {L : FuncId → List V → V → Prop} {K : V → Heap → Prop} {h : Heap} (hp : p_token_marks L K  h) : Cf F L i_token_marks [] h K :=
  wcallp F_token_marks (show 0 ≤ 2 by decide) (p := p_token_marks L K  h) (by kernel_rfl) hp
def k_strings_genSplit_3 (L : FuncId → List V → V → Prop) (K : V → Heap → Prop) (v0 v9 v10 : V) (h : Heap) : Prop :=
    (wi F L (.ixaSl 1 (.c v9) (.c v10)) E0 h fun v61 h =>
    (wi F L (.store 1 (.c v61) (.c v0)) E0 h fun _ h =>
    (wi F L (.bin .add (.c v10) (.c (.int .i64 1))) E0 h fun v64 h =>
    (wi F L (.slsl 1 (.c v9) none (some (.c v64)) none) E0 h fun v65 h =>
    (∃ v, some v65 = some v ∧ K v h)))))
def k_strings_genSplit_5 (L : FuncId → List V → V → Prop) (K : V → Heap → Prop) (N0 : Env → Heap → Prop) (e : Env) (v0 v1 v2 v9 v10 v11 : V) (h : Heap) : Prop :=
    (wi F L (.bin .add (.c v11) (.c v2)) E0 h fun v47 h =>
    (wi F L (.slstr (.c v0) none (some (.c v47))) E0 h fun v48 h =>
    (wi F L (.ixaSl 1 (.c v9) (.c v10)) E0 h fun v49 h =>
    (wi F L (.store 1 (.c v49) (.c v48)) E0 h fun _ h =>
    (wi F L (.len 0 (.c v1)) E0 h fun v53 h =>
    (wi F L (.bin .add (.c v11) (.c v53)) E0 h fun v54 h =>
    (wi F L (.slstr (.c v0) (some (.c v54)) none) E0 h fun v55 h =>
    (wi F L (.bin .add (.c v10) (.c (.int .i64 1))) E0 h fun v57 h =>
    (N0 (upd (upd (upd (upd (upd (upd (upd (upd (upd (upd (upd (upd (upd (upd (upd (upd (upd (upd e 42 v9) 43 v10) 44 v0) 45 v11) 46 v2) 47 v47) 48 v48) 49 v49) 50 v0) 51 v11) 52 v1) 53 v53) 54 v54) 55 v55) 0 v55) 56 v10) 57 v57) 10 v57) h)))))))))
def k_strings_genSplit_4 (L : FuncId → List V → V → Prop) (K : V → Heap → Prop) (N0 : Env → Heap → Prop) (e : Env) (v0 v1 v2 v9 v10 : V) (h : Heap) : Prop :=
    (wi F L (.call i_strings_Index [(.c v0), (.c v1)]) E0 h fun v39 h =>
    (wi F L (.bin .lss (.c v39) (.c (.int .i64 0))) E0 h fun v41 h =>
    (wb v41
    (k_strings_genSplit_3 L K v0 v9 v10 h)
    (k_strings_genSplit_5 L K N0 (upd (upd (upd (upd (upd (upd e 37 v0) 38 v1) 39 v39) 11 v39) 40 v39) 41 v41) v0 v1 v2 v9 v10 v39 h))))
def q_strings_genSplit_0 (L : FuncId → List V → V → Prop) (K : V → Heap → Prop) : X → Env → Heap → Prop := (fun x => (seqX (fun e h => k_strings_genSplit_3 L K (e 0) (e 9) (e 10) h) (retX c_strings_genSplit.results K)) (X.out 0 x))
def lc_strings_genSplit_0 : C :=
  (.seq (.seq (.region [⟨(some 34), none, .mv (.t 10)⟩, ⟨(some 35), none, .mv (.t 3)⟩, ⟨(some 36), none, .bin .lss (.t 34) (.t 35)⟩])
  (.cond (.t 36)
    .skip
    (.exit 0)))
  (.block 1 (.seq (.region [⟨(some 37), none, .mv (.t 0)⟩, ⟨(some 38), none, .mv (.t 1)⟩, ⟨(some 39), none, .call i_strings_Index [(.t 37), (.t 38)]⟩, ⟨(some 11), none, .mv (.t 39)⟩])
  (.seq (.seq (.region [⟨(some 40), none, .mv (.t 11)⟩, ⟨(some 41), none, .bin .lss (.t 40) (.c (.int .i64 0))⟩])
  (.cond (.t 41)
    (.exit 0)
    .skip))
  (.seq (.region [⟨(some 42), none, .mv (.t 9)⟩, ⟨(some 43), none, .mv (.t 10)⟩, ⟨(some 44), none, .mv (.t 0)⟩, ⟨(some 45), none, .mv (.t 11)⟩, ⟨(some 46), none, .mv (.t 2)⟩, ⟨(some 47), none, .bin .add (.t 45) (.t 46)⟩, ⟨(some 48), none, .slstr (.t 44) none (some (.t 47))⟩, ⟨(some 49), none, .ixaSl 1 (.t 42) (.t 43)⟩, ⟨none, none, .store 1 (.t 49) (.t 48)⟩])
  (.seq (.region [⟨(some 50), none, .mv (.t 0)⟩, ⟨(some 51), none, .mv (.t 11)⟩, ⟨(some 52), none, .mv (.t 1)⟩, ⟨(some 53), none, .len 0 (.t 52)⟩, ⟨(some 54), none, .bin .add (.t 51) (.t 53)⟩, ⟨(some 55), none, .slstr (.t 50) (some (.t 54)) none⟩, ⟨(some 0), none, .mv (.t 55)⟩])
  (.region [⟨(some 56), none, .mv (.t 10)⟩, ⟨(some 57), none, .bin .add (.t 56) (.c (.int .i64 1))⟩, ⟨(some 10), none, .mv (.t 57)⟩])))))))
def b_strings_genSplit_0 (L : FuncId → List V → V → Prop) (K : V → Heap → Prop) (N0 : Env → Heap → Prop) (e : Env) (h : Heap) : Prop :=
    (wi F L (.bin .lss (.c (e 10)) (.c (e 3))) E0 h fun v36 h =>
    (wb v36
    (k_strings_genSplit_4 L K N0 (upd (upd (upd e 34 (e 10)) 35 (e 3)) 36 v36) (e 0) (e 1) (e 2) (e 9) (e 10) h)
    (k_strings_genSplit_3 L K (e 0) (e 9) (e 10) h)))
theorem l_strings_genSplit_0 {L : FuncId → List V → V → Prop} {K : V → Heap → Prop} (I : Nat → Env → Heap → Prop) (hr : ∀ n e h, I n e h → b_strings_genSplit_0 L K (fun e' h' => ∃ m, m < n ∧ I m e' h') e h) {n : Nat} {e : Env} {h : Heap} (hi : I n e h) : Wl F L lc_strings_genSplit_0 (q_strings_genSplit_0 L K) e h :=
  wloopp (b := b_strings_genSplit_0 L K) I (fun _ _ _ => by kernel_rfl) hr hi
def k_strings_genSplit_2 (L : FuncId → List V → V → Prop) (K : V → Heap → Prop) (e : Env) (v0 v3 : V) (h : Heap) : Prop :=
    (wi F L (.len 0 (.c v0)) E0 h fun v27 h =>
    (wi F L (.bin .add (.c v27) (.c (.int .i64 1))) E0 h fun v28 h =>
    (wi F L (.mn [(.c v3), (.c v28)]) E0 h fun v29 h =>
    (wi F L (.mksl 1 16 [(.str [])] (.c v29) (.c v29)) E0 h fun v31 h =>
    (wi F L (.bin .sub (.c v29) (.c (.int .i64 1))) E0 h fun v33 h =>
    (Wl F L lc_strings_genSplit_0 (q_strings_genSplit_0 L K) (upd (upd (upd (upd (upd (upd (upd (upd (upd (upd (upd (upd (upd e 25 v3) 26 v0) 27 v27) 28 v28) 29 v29) 3 v29) 30 v29) 31 v31) 9 v31) 32 v29) 33 v33) 3 v33) 10 (.int .i64 0)) h))))))
def k_strings_genSplit_1 (L : FuncId → List V → V → Prop) (K : V → Heap → Prop) (e : Env) (v0 v1 v3 : V) (h : Heap) : Prop :=
    (wi F L (.bin .lss (.c v3) (.c (.int .i64 0))) E0 h fun v20 h =>
    (wb v20
    (wi F L (.call i_strings_Count [(.c v0), (.c v1)]) E0 h fun v23 h =>
    (wi F L (.bin .add (.c v23) (.c (.int .i64 1))) E0 h fun v24 h =>
    (k_strings_genSplit_2 L K (upd (upd (upd (upd (upd (upd (upd e 19 v3) 20 v20) 21 v0) 22 v1) 23 v23) 24 v24) 3 v24) v0 v24 h)))
    (k_strings_genSplit_2 L K (upd (upd e 19 v3) 20 v20) v0 v3 h)))
def k_strings_genSplit_0 (L : FuncId → List V → V → Prop) (K : V → Heap → Prop) (e : Env) (v0 v1 v3 : V) (h : Heap) : Prop :=
    (wi F L (.bin .eql (.c v1) (.c (.str []))) E0 h fun v15 h =>
    (wb v15
    (wi F L (.call i_strings_explode [(.c v0), (.c v3)]) E0 h fun v18 h =>
    (∃ v, some v18 = some v ∧ K v h))
    (k_strings_genSplit_1 L K (upd (upd e 14 v1) 15 v15) v0 v1 v3 h)))
def p_strings_genSplit (L : FuncId → List V → V → Prop) (K : V → Heap → Prop) (a0 a1 a2 a3 : V) (h : Heap) : Prop :=
    (wi F L (.bin .eql (.c a3) (.c (.int .i64 0))) E0 h fun v13 h =>
    (wb v13
    (∃ v, some .nsl = some v ∧ K v h)
    (k_strings_genSplit_0 L K (upd (upd (upd (enterE [a0, a1, a2, a3]) 8 .nsl) 12 a3) 13 v13) a0 a1 a3 h)))
theorem run_strings_genSplit {L : FuncId → List V → V → Prop} {K : V → Heap → Prop} {a0 a1 a2 a3 : V} {h : Heap} (hp : p_strings_genSplit L K a0 a1 a2 a3 h) : Cf F L i_strings_genSplit [a0, a1, a2, a3] h K :=
  wcallp F_strings_genSplit (show 4 ≤ 66 by decide) (p := p_strings_genSplit L K a0 a1 a2 a3 h) (by kernel_rfl) hp
def p_strings_Index (L : FuncId → List V → V → Prop) (K : V → Heap → Prop) (a0 a1 : V) (h : Heap) : Prop :=
    (wi F L (.call i_internal_stringslite_Index [(.c a0), (.c a1)]) E0 h fun v7 h =>
    (∃ v, some v7 = some v ∧ K v h))
theorem run_strings_Index {L : FuncId → List V → V → Prop} {K : V → Heap → Prop} {a0 a1 : V} {h : Heap} (hp : p_strings_Index L K a0 a1 h) : Cf F L i_strings_Index [a0, a1] h K :=
  wcallp F_strings_Index (show 2 ≤ 8 by decide) (p := p_strings_Index L K a0 a1 h) (by kernel_rfl) hp
theorem hF : ∀ f fn, F f = some fn → compF Tryd.prog f = some fn := lookup_all ⟨kc_gatepostlaw03_LineWrites, kc_gatepostlaw03_LineReads, kc_gatepostlaw03_LineWords, kc_gatepostlaw03_LineBack, kc_line_RequestLine, kc_gatepostref03_RequestLine, kc_line_StatusLine, kc_gatepostref03_StatusLine, kc_line_Request, kc_gatepostref03_Request, kc_line_Status, kc_gatepostref03_Status, kc_gatepostlaw03_names, kc_token_Is, kc_line_isTarget, kc_line_isMinor, kc_line_fits, kc_gatepostref01_Is, kc_gatepostref03_target, kc_line_isReason, kc_gatepostref03_reason, kc_line_words, kc_line_version, kc_gatepostref03_version, kc_line_Status_1, kc_strings_Cut, kc_token_Number, kc_gatepostref01_Number, kc_token_all, kc_token_inToken, kc_gatepostref01_tchar, kc_strings_Split, kc_internal_stringslite_Cut, kc_token_Number_1, kc_token_marks, kc_strings_genSplit, kc_strings_Index, trivial⟩
theorem hm : Tryd.prog.follows .mixedOrders = true := by kernel_rfl
end Go.Proofs.YtbcnhkgiabobiaaDoor.Vh
