/- The functions of a seat, compiled for the small machine. Printed by Print.lean. -/
import Derived.Test.YtmfpmnfbcgchjaaDoorProg
import Derived.Test.YtmfpmnfbcgchjaaDoorVmSet
import Derived.KernelRfl
set_option maxRecDepth 100000
set_option linter.unusedVariables false
namespace Go.Proofs.YtmfpmnfbcgchjaaDoor.Vh
open Go.Vm
def i_main_main : FuncId := 0
def i_gosem_cut : FuncId := 1
def i_gosem_cut_init : FuncId := 2
def i_gatepostlaw01_TokenTrims : FuncId := 3
def i_gatepostlaw01_TokenSplits : FuncId := 4
def i_gatepostlaw01_TokenTells : FuncId := 5
def i_gatepostlaw01_TokenPairs : FuncId := 6
def i_gatepostlaw01_TokenJoins : FuncId := 7
def i_gatepostlaw01_TokenQuotes : FuncId := 8
def i_token_Trim : FuncId := 9
def i_token_Split : FuncId := 10
def i_gatepostref01_Split : FuncId := 11
def i_gatepostlaw01_texts : FuncId := 12
def i_token_Is : FuncId := 13
def i_gatepostref01_Is : FuncId := 14
def i_token_Value : FuncId := 15
def i_gatepostref01_Value : FuncId := 16
def i_token_Lower : FuncId := 17
def i_gatepostref01_Lower : FuncId := 18
def i_gatepostref01_Trim : FuncId := 19
def i_token_Same : FuncId := 20
def i_gatepostref01_Same : FuncId := 21
def i_token_Pair : FuncId := 22
def i_gatepostref01_Pair : FuncId := 23
def i_token_Quote : FuncId := 24
def i_gatepostref01_Quote : FuncId := 25
def i_strings_Trim : FuncId := 26
def i_token_Split_1 : FuncId := 27
def i_token_all : FuncId := 28
def i_token_inToken : FuncId := 29
def i_gatepostref01_tchar : FuncId := 30
def i_token_Value_1 : FuncId := 31
def i_token_isBlank : FuncId := 32
def i_gatepostref01_blank : FuncId := 33
def i_strings_Cut : FuncId := 34
def i_token_unquote : FuncId := 35
def i_gatepostref01_unquote : FuncId := 36
def i_token_inQuotes : FuncId := 37
def i_strings_ReplaceAll : FuncId := 38
def i_gatepostref01_text : FuncId := 39
def i_strings_trimLeftByte : FuncId := 40
def i_strings_trimRightByte : FuncId := 41
def i_strings_makeASCIISet : FuncId := 42
def i_strings_trimLeftASCII : FuncId := 43
def i_strings_trimRightASCII : FuncId := 44
def i_strings_trimLeftUnicode : FuncId := 45
def i_strings_trimRightUnicode : FuncId := 46
def i_token_marks : FuncId := 47
def i_internal_stringslite_Cut : FuncId := 48
def i_strings_CutPrefix : FuncId := 49
def i___strings_Builder__String : FuncId := 50
def i___strings_Builder__WriteByte : FuncId := 51
def i_strings_Replace : FuncId := 52
def i___strings_asciiSet__contains : FuncId := 53
def i_unicode_utf8_DecodeRuneInString : FuncId := 54
def i_strings_ContainsRune : FuncId := 55
def i_unicode_utf8_DecodeLastRuneInString : FuncId := 56
def i_internal_stringslite_Index : FuncId := 57
def i_internal_stringslite_CutPrefix : FuncId := 58
def i___strings_Builder__copyCheck : FuncId := 59
def i_strings_Count : FuncId := 60
def i___strings_Builder__Grow : FuncId := 61
def i_strings_Index : FuncId := 62
def i___strings_Builder__WriteString : FuncId := 63
def i_unicode_utf8_decodeRuneInStringSlow : FuncId := 64
def i_strings_IndexRune : FuncId := 65
def i_unicode_utf8_RuneStart : FuncId := 66
def i_internal_stringslite_IndexByte : FuncId := 67
def i_internal_bytealg_IndexString : FuncId := 68
def i_internal_bytealg_Cutover : FuncId := 69
def i_internal_bytealg_IndexRabinKarp_string_ : FuncId := 70
def i_internal_stringslite_HasPrefix : FuncId := 71
def i_internal_abi_NoEscape : FuncId := 72
def i_unicode_utf8_RuneCountInString : FuncId := 73
def i_internal_bytealg_CountString : FuncId := 74
def i___strings_Builder__grow : FuncId := 75
def i_strings_IndexByte : FuncId := 76
def i_unicode_utf8_ValidRune : FuncId := 77
def i_internal_bytealg_IndexByteString : FuncId := 78
def i_internal_bytealg_hashStr_string_ : FuncId := 79
def i_internal_bytealg_MakeNoZero : FuncId := 80
def i___runtime_TypeAssertionError__Error : FuncId := 89
def i___runtime_TypeAssertionError__RuntimeError : FuncId := 90
def i___runtime_PanicNilError__Error : FuncId := 91
def i___runtime_PanicNilError__RuntimeError : FuncId := 92
def i___internal_abi_Type__Align : FuncId := 93
def i__internal_runtime_maps_unhashableTypeError__Error : FuncId := 94
def i__internal_runtime_maps_unhashableTypeError__RuntimeError : FuncId := 95
def i___strings_Builder__Reset : FuncId := 96
def i__internal_abi_Kind__String : FuncId := 97
def i_var_s_door__gosem_cut_vars_holds_initialisers_alone__see_the_manifest_s_row_cutvarsword__look_11__test_files_too_ : FuncId := 98
def i_var_s_door__the_look_of_gosem_cut_vars_went_over_the_folder_that_the_caller_named_as_the_repository_s_root__look_11_ : FuncId := 99
def i_var_s_door__unicode_utf8_acceptRanges_is_laid_by_its_own_initialiser__plain_data__look_11_ : FuncId := 100
def i_var_s_door__unicode_utf8_first_is_laid_by_its_text_alone__pinned_1_ : FuncId := 101
def i_gosem_cut_vars : FuncId := 102
/-- gatepost/gatepostlaw01.TokenTrims -/
def c_gatepostlaw01_TokenTrims : FnC := ⟨77, [.tmp 6],
  (.seq (.region [⟨(some 6), none, .mv (.c (.bool false))⟩])
  (.seq (.seq (.region [⟨(some 11), none, .mv (.t 0)⟩, ⟨(some 12), none, .len 0 (.t 11)⟩, ⟨(some 13), none, .bin .gtr (.t 12) (.c (.int .i64 2000))⟩])
  (.cond (.t 13)
    (.region [⟨(some 14), none, .mv (.t 0)⟩, ⟨(some 15), none, .slstr (.t 14) none (some (.c (.int .i64 2000)))⟩, ⟨(some 0), none, .mv (.t 15)⟩])
    .skip))
  (.seq (.region [⟨(some 16), none, .mv (.t 0)⟩, ⟨(some 7), none, .mv (.t 16)⟩])
  (.seq (.seq (.region [⟨(some 8), none, .mv (.c (.int .i64 0))⟩])
  (.block 0 (.loop
    (.seq (.seq (.region [⟨(some 17), none, .mv (.t 8)⟩, ⟨(some 18), none, .mv (.t 1)⟩, ⟨(some 19), none, .bin .and (.t 18) (.c (.int .i64 7))⟩, ⟨(some 20), none, .bin .lss (.t 17) (.t 19)⟩])
    (.cond (.t 20)
      .skip
      (.exit 0)))
    (.seq (.block 1 (.region [⟨(some 23), none, .mv (.t 7)⟩, ⟨(some 24), none, .bin .add (.c (.str [32])) (.t 23)⟩, ⟨(some 7), none, .mv (.t 24)⟩]))
    (.region [⟨(some 21), none, .mv (.t 8)⟩, ⟨(some 22), none, .bin .add (.t 21) (.c (.int .i64 1))⟩, ⟨(some 8), none, .mv (.t 22)⟩]))))))
  (.seq (.seq (.region [⟨(some 9), none, .mv (.c (.int .i64 0))⟩])
  (.block 2 (.loop
    (.seq (.seq (.region [⟨(some 25), none, .mv (.t 9)⟩, ⟨(some 26), none, .mv (.t 2)⟩, ⟨(some 27), none, .bin .and (.t 26) (.c (.int .i64 7))⟩, ⟨(some 28), none, .bin .lss (.t 25) (.t 27)⟩])
    (.cond (.t 28)
      .skip
      (.exit 2)))
    (.seq (.block 3 (.region [⟨(some 31), none, .mv (.t 7)⟩, ⟨(some 32), none, .bin .add (.t 31) (.c (.str [9]))⟩, ⟨(some 7), none, .mv (.t 32)⟩]))
    (.region [⟨(some 29), none, .mv (.t 9)⟩, ⟨(some 30), none, .bin .add (.t 29) (.c (.int .i64 1))⟩, ⟨(some 9), none, .mv (.t 30)⟩]))))))
  (.seq (.region [⟨(some 33), none, .mv (.t 7)⟩, ⟨(some 34), none, .call i_token_Trim [(.t 33)]⟩, ⟨(some 10), none, .mv (.t 34)⟩])
  (.seq (.seq (.region [⟨(some 35), none, .mv (.t 10)⟩, ⟨(some 36), none, .mv (.t 0)⟩, ⟨(some 37), none, .call i_token_Trim [(.t 36)]⟩, ⟨(some 38), none, .bin .neq (.t 35) (.t 37)⟩, ⟨(some 39), none, .mv (.t 38)⟩, ⟨(some 40), (some (39, false)), .mv (.t 10)⟩, ⟨(some 41), (some (39, false)), .call i_token_Trim [(.t 40)]⟩, ⟨(some 42), (some (39, false)), .mv (.t 10)⟩, ⟨(some 43), (some (39, false)), .bin .neq (.t 41) (.t 42)⟩, ⟨(some 44), none, .pick (.t 39) (.c (.bool true)) (.t 43)⟩, ⟨(some 45), none, .mv (.t 44)⟩, ⟨(some 46), (some (45, false)), .call i_token_Trim [(.c (.str [32, 97, 32, 98, 9]))]⟩, ⟨(some 47), (some (45, false)), .bin .neq (.t 46) (.c (.str [97, 32, 98]))⟩, ⟨(some 48), none, .pick (.t 45) (.c (.bool true)) (.t 47)⟩])
  (.cond (.t 48)
    (.seq (.region [⟨(some 6), none, .mv (.c (.bool false))⟩])
    .ret)
    .skip))
  (.seq (.region [⟨(some 49), none, .mv (.t 10)⟩, ⟨(some 50), none, .bin .eql (.t 49) (.c (.str []))⟩, ⟨(some 51), none, .mv (.t 50)⟩, ⟨(some 52), (some (51, false)), .mv (.t 10)⟩, ⟨(some 53), (some (51, false)), .ixStr (.t 52) (.c (.int .i64 0))⟩, ⟨(some 54), (some (51, false)), .bin .neq (.t 53) (.c (.int .u8 32))⟩, ⟨(some 55), (some (51, false)), .mv (.t 54)⟩, ⟨(some 56), (some (55, true)), .mv (.t 10)⟩, ⟨(some 57), (some (55, true)), .ixStr (.t 56) (.c (.int .i64 0))⟩, ⟨(some 58), (some (55, true)), .bin .neq (.t 57) (.c (.int .u8 9))⟩, ⟨(some 59), (some (51, false)), .pick (.t 55) (.t 58) (.c (.bool false))⟩, ⟨(some 60), (some (51, false)), .mv (.t 59)⟩, ⟨(some 61), (some (60, true)), .mv (.t 10)⟩, ⟨(some 62), (some (60, true)), .mv (.t 10)⟩, ⟨(some 63), (some (60, true)), .len 0 (.t 62)⟩, ⟨(some 64), (some (60, true)), .bin .sub (.t 63) (.c (.int .i64 1))⟩, ⟨(some 65), (some (60, true)), .ixStr (.t 61) (.t 64)⟩, ⟨(some 66), (some (60, true)), .bin .neq (.t 65) (.c (.int .u8 32))⟩, ⟨(some 67), (some (51, false)), .pick (.t 60) (.t 66) (.c (.bool false))⟩, ⟨(some 68), (some (51, false)), .mv (.t 67)⟩, ⟨(some 69), (some (68, true)), .mv (.t 10)⟩, ⟨(some 70), (some (68, true)), .mv (.t 10)⟩, ⟨(some 71), (some (68, true)), .len 0 (.t 70)⟩, ⟨(some 72), (some (68, true)), .bin .sub (.t 71) (.c (.int .i64 1))⟩, ⟨(some 73), (some (68, true)), .ixStr (.t 69) (.t 72)⟩, ⟨(some 74), (some (68, true)), .bin .neq (.t 73) (.c (.int .u8 9))⟩, ⟨(some 75), (some (51, false)), .pick (.t 68) (.t 74) (.c (.bool false))⟩, ⟨(some 76), none, .pick (.t 51) (.c (.bool true)) (.t 75)⟩, ⟨(some 6), none, .mv (.t 76)⟩])
  .ret))))))))⟩
/-- gatepost/gatepostlaw01.TokenSplits -/
def c_gatepostlaw01_TokenSplits : FnC := ⟨30, [.tmp 2],
  (.seq (.region [⟨(some 2), none, .mv (.c (.bool false))⟩])
  (.seq (.seq (.region [⟨(some 7), none, .mv (.t 0)⟩, ⟨(some 8), none, .len 0 (.t 7)⟩, ⟨(some 9), none, .bin .gtr (.t 8) (.c (.int .i64 3000))⟩])
  (.cond (.t 9)
    (.region [⟨(some 10), none, .mv (.t 0)⟩, ⟨(some 11), none, .slstr (.t 10) none (some (.c (.int .i64 3000)))⟩, ⟨(some 0), none, .mv (.t 11)⟩])
    .skip))
  (.seq (.region [⟨(some 13), none, .mv (.t 0)⟩, ⟨(some 14), none, .call i_token_Split [(.t 13)]⟩, ⟨(some 12), none, .mv (.t 14)⟩, ⟨(some 15), none, .ext 0 (.t 12)⟩, ⟨(some 16), none, .ext 1 (.t 12)⟩, ⟨(some 3), none, .mv (.t 15)⟩, ⟨(some 4), none, .mv (.t 16)⟩])
  (.seq (.region [⟨(some 18), none, .mv (.t 0)⟩, ⟨(some 19), none, .call i_gatepostref01_Split [(.t 18)]⟩, ⟨(some 17), none, .mv (.t 19)⟩, ⟨(some 20), none, .ext 0 (.t 17)⟩, ⟨(some 21), none, .ext 1 (.t 17)⟩, ⟨(some 5), none, .mv (.t 20)⟩, ⟨(some 6), none, .mv (.t 21)⟩])
  (.seq (.region [⟨(some 22), none, .mv (.t 3)⟩, ⟨(some 23), none, .mv (.t 5)⟩, ⟨(some 24), none, .call i_gatepostlaw01_texts [(.t 22), (.t 23)]⟩, ⟨(some 25), none, .mv (.t 24)⟩, ⟨(some 26), (some (25, true)), .mv (.t 4)⟩, ⟨(some 27), (some (25, true)), .mv (.t 6)⟩, ⟨(some 28), (some (25, true)), .eq .bool false (.t 26) (.t 27)⟩, ⟨(some 29), none, .pick (.t 25) (.t 28) (.c (.bool false))⟩, ⟨(some 2), none, .mv (.t 29)⟩])
  .ret)))))⟩
/-- gatepost/gatepostlaw01.TokenTells -/
def c_gatepostlaw01_TokenTells : FnC := ⟨48, [.tmp 4],
  (.seq (.region [⟨(some 4), none, .mv (.c (.bool false))⟩])
  (.seq (.seq (.region [⟨(some 5), none, .mv (.t 0)⟩, ⟨(some 6), none, .len 0 (.t 5)⟩, ⟨(some 7), none, .bin .gtr (.t 6) (.c (.int .i64 3000))⟩, ⟨(some 8), none, .mv (.t 7)⟩, ⟨(some 9), (some (8, false)), .mv (.t 1)⟩, ⟨(some 10), (some (8, false)), .len 0 (.t 9)⟩, ⟨(some 11), (some (8, false)), .bin .gtr (.t 10) (.c (.int .i64 3000))⟩, ⟨(some 12), none, .pick (.t 8) (.c (.bool true)) (.t 11)⟩])
  (.cond (.t 12)
    (.seq (.region [⟨(some 4), none, .mv (.c (.bool true))⟩])
    .ret)
    .skip))
  (.seq (.region [⟨(some 13), none, .mv (.t 0)⟩, ⟨(some 14), none, .call i_token_Is [(.t 13)]⟩, ⟨(some 15), none, .mv (.t 0)⟩, ⟨(some 16), none, .call i_gatepostref01_Is [(.t 15)]⟩, ⟨(some 17), none, .eq .bool false (.t 14) (.t 16)⟩, ⟨(some 18), none, .mv (.t 17)⟩, ⟨(some 19), (some (18, true)), .mv (.t 0)⟩, ⟨(some 20), (some (18, true)), .call i_token_Value [(.t 19)]⟩, ⟨(some 21), (some (18, true)), .mv (.t 0)⟩, ⟨(some 22), (some (18, true)), .call i_gatepostref01_Value [(.t 21)]⟩, ⟨(some 23), (some (18, true)), .eq .bool false (.t 20) (.t 22)⟩, ⟨(some 24), none, .pick (.t 18) (.t 23) (.c (.bool false))⟩, ⟨(some 25), none, .mv (.t 24)⟩, ⟨(some 26), (some (25, true)), .mv (.t 0)⟩, ⟨(some 27), (some (25, true)), .call i_token_Lower [(.t 26)]⟩, ⟨(some 28), (some (25, true)), .mv (.t 0)⟩, ⟨(some 29), (some (25, true)), .call i_gatepostref01_Lower [(.t 28)]⟩, ⟨(some 30), (some (25, true)), .bin .eql (.t 27) (.t 29)⟩, ⟨(some 31), none, .pick (.t 25) (.t 30) (.c (.bool false))⟩, ⟨(some 32), none, .mv (.t 31)⟩, ⟨(some 33), (some (32, true)), .mv (.t 0)⟩, ⟨(some 34), (some (32, true)), .call i_token_Trim [(.t 33)]⟩, ⟨(some 35), (some (32, true)), .mv (.t 0)⟩, ⟨(some 36), (some (32, true)), .call i_gatepostref01_Trim [(.t 35)]⟩, ⟨(some 37), (some (32, true)), .bin .eql (.t 34) (.t 36)⟩, ⟨(some 38), none, .pick (.t 32) (.t 37) (.c (.bool false))⟩, ⟨(some 39), none, .mv (.t 38)⟩, ⟨(some 40), (some (39, true)), .mv (.t 0)⟩, ⟨(some 41), (some (39, true)), .mv (.t 1)⟩, ⟨(some 42), (some (39, true)), .call i_token_Same [(.t 40), (.t 41)]⟩, ⟨(some 43), (some (39, true)), .mv (.t 0)⟩, ⟨(some 44), (some (39, true)), .mv (.t 1)⟩, ⟨(some 45), (some (39, true)), .call i_gatepostref01_Same [(.t 43), (.t 44)]⟩, ⟨(some 46), (some (39, true)), .eq .bool false (.t 42) (.t 45)⟩, ⟨(some 47), none, .pick (.t 39) (.t 46) (.c (.bool false))⟩, ⟨(some 4), none, .mv (.t 47)⟩])
  .ret)))⟩
/-- gatepost/gatepostlaw01.TokenPairs -/
def c_gatepostlaw01_TokenPairs : FnC := ⟨72, [.tmp 2],
  (.seq (.region [⟨(some 2), none, .mv (.c (.bool false))⟩])
  (.seq (.seq (.region [⟨(some 15), none, .mv (.t 0)⟩, ⟨(some 16), none, .len 0 (.t 15)⟩, ⟨(some 17), none, .bin .gtr (.t 16) (.c (.int .i64 3000))⟩])
  (.cond (.t 17)
    (.region [⟨(some 18), none, .mv (.t 0)⟩, ⟨(some 19), none, .slstr (.t 18) none (some (.c (.int .i64 3000)))⟩, ⟨(some 0), none, .mv (.t 19)⟩])
    .skip))
  (.seq (.region [⟨(some 21), none, .mv (.t 0)⟩, ⟨(some 22), none, .call i_token_Pair [(.t 21)]⟩, ⟨(some 20), none, .mv (.t 22)⟩, ⟨(some 23), none, .ext 0 (.t 20)⟩, ⟨(some 24), none, .ext 1 (.t 20)⟩, ⟨(some 25), none, .ext 2 (.t 20)⟩, ⟨(some 26), none, .ext 3 (.t 20)⟩, ⟨(some 3), none, .mv (.t 23)⟩, ⟨(some 4), none, .mv (.t 24)⟩, ⟨(some 5), none, .mv (.t 25)⟩, ⟨(some 6), none, .mv (.t 26)⟩])
  (.seq (.region [⟨(some 28), none, .mv (.t 0)⟩, ⟨(some 29), none, .call i_gatepostref01_Pair [(.t 28)]⟩, ⟨(some 27), none, .mv (.t 29)⟩, ⟨(some 30), none, .ext 0 (.t 27)⟩, ⟨(some 31), none, .ext 1 (.t 27)⟩, ⟨(some 32), none, .ext 2 (.t 27)⟩, ⟨(some 33), none, .ext 3 (.t 27)⟩, ⟨(some 7), none, .mv (.t 30)⟩, ⟨(some 8), none, .mv (.t 31)⟩, ⟨(some 9), none, .mv (.t 32)⟩, ⟨(some 10), none, .mv (.t 33)⟩])
  (.seq (.region [⟨(some 35), none, .mv (.t 0)⟩, ⟨(some 36), none, .call i_token_Quote [(.t 35)]⟩, ⟨(some 34), none, .mv (.t 36)⟩, ⟨(some 37), none, .ext 0 (.t 34)⟩, ⟨(some 38), none, .ext 1 (.t 34)⟩, ⟨(some 11), none, .mv (.t 37)⟩, ⟨(some 12), none, .mv (.t 38)⟩])
  (.seq (.region [⟨(some 40), none, .mv (.t 0)⟩, ⟨(some 41), none, .call i_gatepostref01_Quote [(.t 40)]⟩, ⟨(some 39), none, .mv (.t 41)⟩, ⟨(some 42), none, .ext 0 (.t 39)⟩, ⟨(some 43), none, .ext 1 (.t 39)⟩, ⟨(some 13), none, .mv (.t 42)⟩, ⟨(some 14), none, .mv (.t 43)⟩])
  (.seq (.region [⟨(some 44), none, .mv (.t 3)⟩, ⟨(some 45), none, .mv (.t 7)⟩, ⟨(some 46), none, .bin .eql (.t 44) (.t 45)⟩, ⟨(some 47), none, .mv (.t 46)⟩, ⟨(some 48), (some (47, true)), .mv (.t 4)⟩, ⟨(some 49), (some (47, true)), .mv (.t 8)⟩, ⟨(some 50), (some (47, true)), .bin .eql (.t 48) (.t 49)⟩, ⟨(some 51), none, .pick (.t 47) (.t 50) (.c (.bool false))⟩, ⟨(some 52), none, .mv (.t 51)⟩, ⟨(some 53), (some (52, true)), .mv (.t 5)⟩, ⟨(some 54), (some (52, true)), .mv (.t 9)⟩, ⟨(some 55), (some (52, true)), .eq .bool false (.t 53) (.t 54)⟩, ⟨(some 56), none, .pick (.t 52) (.t 55) (.c (.bool false))⟩, ⟨(some 57), none, .mv (.t 56)⟩, ⟨(some 58), (some (57, true)), .mv (.t 6)⟩, ⟨(some 59), (some (57, true)), .mv (.t 10)⟩, ⟨(some 60), (some (57, true)), .eq .bool false (.t 58) (.t 59)⟩, ⟨(some 61), none, .pick (.t 57) (.t 60) (.c (.bool false))⟩, ⟨(some 62), none, .mv (.t 61)⟩, ⟨(some 63), (some (62, true)), .mv (.t 11)⟩, ⟨(some 64), (some (62, true)), .mv (.t 13)⟩, ⟨(some 65), (some (62, true)), .bin .eql (.t 63) (.t 64)⟩, ⟨(some 66), none, .pick (.t 62) (.t 65) (.c (.bool false))⟩, ⟨(some 67), none, .mv (.t 66)⟩, ⟨(some 68), (some (67, true)), .mv (.t 12)⟩, ⟨(some 69), (some (67, true)), .mv (.t 14)⟩, ⟨(some 70), (some (67, true)), .eq .bool false (.t 68) (.t 69)⟩, ⟨(some 71), none, .pick (.t 67) (.t 70) (.c (.bool false))⟩, ⟨(some 2), none, .mv (.t 71)⟩])
  .ret)))))))⟩
/-- gatepost/gatepostlaw01.TokenJoins -/
def c_gatepostlaw01_TokenJoins : FnC := ⟨82, [.tmp 2],
  (.seq (.region [⟨(some 2), none, .mv (.c (.bool false))⟩])
  (.seq (.region [⟨(some 14), none, .call i_token_Split [(.c (.str [97, 44, 32, 98]))]⟩, ⟨(some 13), none, .mv (.t 14)⟩, ⟨(some 15), none, .ext 0 (.t 13)⟩, ⟨(some 16), none, .ext 1 (.t 13)⟩, ⟨(some 3), none, .mv (.t 15)⟩, ⟨(some 4), none, .mv (.t 16)⟩])
  (.seq (.seq (.region [⟨(some 17), none, .mv (.t 4)⟩, ⟨(some 18), none, .un .not (.t 17)⟩, ⟨(some 19), none, .mv (.t 18)⟩, ⟨(some 20), (some (19, false)), .mv (.t 3)⟩, ⟨(some 21), (some (19, false)), .len 1 (.t 20)⟩, ⟨(some 22), (some (19, false)), .bin .neq (.t 21) (.c (.int .i64 2))⟩, ⟨(some 23), none, .pick (.t 19) (.c (.bool true)) (.t 22)⟩])
  (.cond (.t 23)
    (.seq (.region [⟨(some 2), none, .mv (.c (.bool false))⟩])
    .ret)
    .skip))
  (.seq (.region [⟨(some 5), none, .mv (.c (.str []))⟩])
  (.seq (.region [⟨(some 6), none, .mv (.c .nsl)⟩])
  (.seq (.seq (.region [⟨(some 7), none, .mv (.c (.int .i64 0))⟩])
  (.block 0 (.loop
    (.seq (.seq (.region [⟨(some 24), none, .mv (.t 7)⟩, ⟨(some 25), none, .mv (.t 0)⟩, ⟨(some 26), none, .len 1 (.t 25)⟩, ⟨(some 27), none, .bin .lss (.t 24) (.t 26)⟩, ⟨(some 28), none, .mv (.t 27)⟩, ⟨(some 29), (some (28, true)), .mv (.t 7)⟩, ⟨(some 30), (some (28, true)), .bin .lss (.t 29) (.c (.int .i64 20))⟩, ⟨(some 31), none, .pick (.t 28) (.t 30) (.c (.bool false))⟩])
    (.cond (.t 31)
      .skip
      (.exit 0)))
    (.seq (.block 1 (.seq (.region [⟨(some 35), none, .mv (.t 0)⟩, ⟨(some 36), none, .mv (.t 7)⟩, ⟨(some 37), none, .ixaSl 1 (.t 35) (.t 36)⟩, ⟨(some 38), none, .load false 1 (.t 37)⟩, ⟨(some 39), none, .call i_token_Pair [(.t 38)]⟩, ⟨(some 34), none, .mv (.t 39)⟩, ⟨(some 40), none, .ext 0 (.t 34)⟩, ⟨(some 41), none, .ext 1 (.t 34)⟩, ⟨(some 42), none, .ext 2 (.t 34)⟩, ⟨(some 43), none, .ext 3 (.t 34)⟩, ⟨(some 8), none, .mv (.t 40)⟩, ⟨(some 9), none, .mv (.t 41)⟩, ⟨(some 10), none, .mv (.t 42)⟩, ⟨(some 11), none, .mv (.t 43)⟩])
    (.seq (.seq (.region [⟨(some 44), none, .mv (.t 11)⟩, ⟨(some 45), none, .un .not (.t 44)⟩, ⟨(some 46), none, .mv (.t 45)⟩, ⟨(some 47), (some (46, false)), .mv (.t 0)⟩, ⟨(some 48), (some (46, false)), .mv (.t 7)⟩, ⟨(some 49), (some (46, false)), .ixaSl 1 (.t 47) (.t 48)⟩, ⟨(some 50), (some (46, false)), .load false 1 (.t 49)⟩, ⟨(some 51), (some (46, false)), .len 0 (.t 50)⟩, ⟨(some 52), (some (46, false)), .bin .gtr (.t 51) (.c (.int .i64 500))⟩, ⟨(some 53), none, .pick (.t 46) (.c (.bool true)) (.t 52)⟩])
    (.cond (.t 53)
      (.exit 1)
      .skip))
    (.seq (.seq (.region [⟨(some 54), none, .mv (.t 5)⟩, ⟨(some 55), none, .bin .neq (.t 54) (.c (.str []))⟩])
    (.cond (.t 55)
      (.region [⟨(some 56), none, .mv (.t 5)⟩, ⟨(some 57), none, .bin .add (.t 56) (.c (.str [32, 44, 9]))⟩, ⟨(some 5), none, .mv (.t 57)⟩])
      .skip))
    (.seq (.region [⟨(some 58), none, .mv (.t 5)⟩, ⟨(some 59), none, .mv (.t 0)⟩, ⟨(some 60), none, .mv (.t 7)⟩, ⟨(some 61), none, .ixaSl 1 (.t 59) (.t 60)⟩, ⟨(some 62), none, .load false 1 (.t 61)⟩, ⟨(some 63), none, .bin .add (.t 58) (.t 62)⟩, ⟨(some 5), none, .mv (.t 63)⟩])
    (.region [⟨(some 64), none, .mv (.t 6)⟩, ⟨(some 65), none, .mv (.t 0)⟩, ⟨(some 66), none, .mv (.t 7)⟩, ⟨(some 67), none, .ixaSl 1 (.t 65) (.t 66)⟩, ⟨(some 68), none, .load false 1 (.t 67)⟩, ⟨(some 69), none, .bsl 1 [(.t 68)]⟩, ⟨(some 70), none, .app 1 16 false (.t 64) (.t 69)⟩, ⟨(some 6), none, .mv (.t 70)⟩]))))))
    (.region [⟨(some 32), none, .mv (.t 7)⟩, ⟨(some 33), none, .bin .add (.t 32) (.c (.int .i64 1))⟩, ⟨(some 7), none, .mv (.t 33)⟩]))))))
  (.seq (.region [⟨(some 72), none, .mv (.t 5)⟩, ⟨(some 73), none, .call i_token_Split [(.t 72)]⟩, ⟨(some 71), none, .mv (.t 73)⟩, ⟨(some 74), none, .ext 0 (.t 71)⟩, ⟨(some 75), none, .ext 1 (.t 71)⟩, ⟨(some 12), none, .mv (.t 74)⟩, ⟨(some 4), none, .mv (.t 75)⟩])
  (.seq (.region [⟨(some 76), none, .mv (.t 4)⟩, ⟨(some 77), none, .mv (.t 76)⟩, ⟨(some 78), (some (77, true)), .mv (.t 12)⟩, ⟨(some 79), (some (77, true)), .mv (.t 6)⟩, ⟨(some 80), (some (77, true)), .call i_gatepostlaw01_texts [(.t 78), (.t 79)]⟩, ⟨(some 81), none, .pick (.t 77) (.t 80) (.c (.bool false))⟩, ⟨(some 2), none, .mv (.t 81)⟩])
  .ret))))))))⟩
/-- gatepost/gatepostlaw01.TokenQuotes -/
def c_gatepostlaw01_TokenQuotes : FnC := ⟨82, [.tmp 2],
  (.seq (.region [⟨(some 2), none, .mv (.c (.bool false))⟩])
  (.seq (.seq (.region [⟨(some 13), none, .mv (.t 0)⟩, ⟨(some 14), none, .len 0 (.t 13)⟩, ⟨(some 15), none, .bin .gtr (.t 14) (.c (.int .i64 3000))⟩])
  (.cond (.t 15)
    (.region [⟨(some 16), none, .mv (.t 0)⟩, ⟨(some 17), none, .slstr (.t 16) none (some (.c (.int .i64 3000)))⟩, ⟨(some 0), none, .mv (.t 17)⟩])
    .skip))
  (.seq (.region [⟨(some 19), none, .mv (.t 0)⟩, ⟨(some 20), none, .call i_token_Quote [(.t 19)]⟩, ⟨(some 18), none, .mv (.t 20)⟩, ⟨(some 21), none, .ext 0 (.t 18)⟩, ⟨(some 22), none, .ext 1 (.t 18)⟩, ⟨(some 3), none, .mv (.t 21)⟩, ⟨(some 4), none, .mv (.t 22)⟩])
  (.seq (.seq (.region [⟨(some 23), none, .mv (.t 4)⟩, ⟨(some 24), none, .un .not (.t 23)⟩])
  (.cond (.t 24)
    (.seq (.region [⟨(some 26), none, .call i_token_Quote [(.c (.str [97, 44, 98]))]⟩, ⟨(some 25), none, .mv (.t 26)⟩, ⟨(some 27), none, .ext 0 (.t 25)⟩, ⟨(some 28), none, .ext 1 (.t 25)⟩, ⟨(some 5), none, .mv (.t 27)⟩, ⟨(some 6), none, .mv (.t 28)⟩])
    (.seq (.region [⟨(some 29), none, .mv (.t 3)⟩, ⟨(some 30), none, .bin .eql (.t 29) (.c (.str []))⟩, ⟨(some 31), none, .mv (.t 30)⟩, ⟨(some 32), (some (31, true)), .mv (.t 5)⟩, ⟨(some 33), (some (31, true)), .bin .eql (.t 32) (.c (.str [34, 97, 44, 98, 34]))⟩, ⟨(some 34), none, .pick (.t 31) (.t 33) (.c (.bool false))⟩, ⟨(some 35), none, .mv (.t 34)⟩, ⟨(some 36), (some (35, true)), .mv (.t 6)⟩, ⟨(some 37), none, .pick (.t 35) (.t 36) (.c (.bool false))⟩, ⟨(some 2), none, .mv (.t 37)⟩])
    .ret))
    .skip))
  (.seq (.region [⟨(some 39), none, .mv (.t 3)⟩, ⟨(some 40), none, .bin .add (.c (.str [120, 61])) (.t 39)⟩, ⟨(some 41), none, .call i_token_Pair [(.t 40)]⟩, ⟨(some 38), none, .mv (.t 41)⟩, ⟨(some 42), none, .ext 0 (.t 38)⟩, ⟨(some 43), none, .ext 1 (.t 38)⟩, ⟨(some 44), none, .ext 2 (.t 38)⟩, ⟨(some 45), none, .ext 3 (.t 38)⟩, ⟨(some 7), none, .mv (.t 42)⟩, ⟨(some 8), none, .mv (.t 43)⟩, ⟨(some 9), none, .mv (.t 44)⟩, ⟨(some 10), none, .mv (.t 45)⟩])
  (.seq (.region [⟨(some 47), none, .mv (.t 3)⟩, ⟨(some 48), none, .bin .add (.c (.str [121, 44, 32, 120, 61])) (.t 47)⟩, ⟨(some 49), none, .bin .add (.t 48) (.c (.str [44, 32, 122]))⟩, ⟨(some 50), none, .call i_token_Split [(.t 49)]⟩, ⟨(some 46), none, .mv (.t 50)⟩, ⟨(some 51), none, .ext 0 (.t 46)⟩, ⟨(some 52), none, .ext 1 (.t 46)⟩, ⟨(some 11), none, .mv (.t 51)⟩, ⟨(some 12), none, .mv (.t 52)⟩])
  (.seq (.region [⟨(some 53), none, .mv (.t 10)⟩, ⟨(some 54), none, .mv (.t 53)⟩, ⟨(some 55), (some (54, true)), .mv (.t 9)⟩, ⟨(some 56), none, .pick (.t 54) (.t 55) (.c (.bool false))⟩, ⟨(some 57), none, .mv (.t 56)⟩, ⟨(some 58), (some (57, true)), .mv (.t 7)⟩, ⟨(some 59), (some (57, true)), .bin .eql (.t 58) (.c (.str [120]))⟩, ⟨(some 60), none, .pick (.t 57) (.t 59) (.c (.bool false))⟩, ⟨(some 61), none, .mv (.t 60)⟩, ⟨(some 62), (some (61, true)), .mv (.t 8)⟩, ⟨(some 63), (some (61, true)), .mv (.t 0)⟩, ⟨(some 64), (some (61, true)), .bin .eql (.t 62) (.t 63)⟩, ⟨(some 65), none, .pick (.t 61) (.t 64) (.c (.bool false))⟩, ⟨(some 66), none, .mv (.t 65)⟩, ⟨(some 67), (some (66, true)), .mv (.t 12)⟩, ⟨(some 68), none, .pick (.t 66) (.t 67) (.c (.bool false))⟩, ⟨(some 69), none, .mv (.t 68)⟩, ⟨(some 70), (some (69, true)), .mv (.t 11)⟩, ⟨(some 71), (some (69, true)), .len 1 (.t 70)⟩, ⟨(some 72), (some (69, true)), .bin .eql (.t 71) (.c (.int .i64 3))⟩, ⟨(some 73), none, .pick (.t 69) (.t 72) (.c (.bool false))⟩, ⟨(some 74), none, .mv (.t 73)⟩, ⟨(some 75), (some (74, true)), .mv (.t 11)⟩, ⟨(some 76), (some (74, true)), .ixaSl 1 (.t 75) (.c (.int .i64 1))⟩, ⟨(some 77), (some (74, true)), .load false 1 (.t 76)⟩, ⟨(some 78), (some (74, true)), .mv (.t 3)⟩, ⟨(some 79), (some (74, true)), .bin .add (.c (.str [120, 61])) (.t 78)⟩, ⟨(some 80), (some (74, true)), .bin .eql (.t 77) (.t 79)⟩, ⟨(some 81), none, .pick (.t 74) (.t 80) (.c (.bool false))⟩, ⟨(some 2), none, .mv (.t 81)⟩])
  .ret)))))))⟩
/-- gatepost/token.Trim -/
def c_token_Trim : FnC := ⟨5, [.tmp 2],
  (.seq (.region [⟨(some 2), none, .mv (.c (.str []))⟩])
  (.seq (.region [⟨(some 3), none, .mv (.t 0)⟩, ⟨(some 4), none, .call i_strings_Trim [(.t 3), (.c (.str [32, 9]))]⟩, ⟨(some 2), none, .mv (.t 4)⟩])
  .ret))⟩
/-- gatepost/token.Split -/
def c_token_Split : FnC := ⟨54, [.tmp 2, .tmp 3],
  (.seq (.region [⟨(some 1), none, .box (.t 0)⟩, ⟨(some 2), none, .mv (.c .nsl)⟩, ⟨(some 3), none, .mv (.c (.bool false))⟩])
  (.seq (.region [⟨(some 4), none, .boxz [.nsl]⟩])
  (.seq (.region [⟨(some 5), none, .boxz [(.int .i64 0)]⟩, ⟨none, none, .store 1 (.t 5) (.c (.int .i64 0))⟩])
  (.seq (.region [⟨(some 10), none, .mkfn i_token_Split_1 [(.t 1), (.t 5), (.t 4)]⟩, ⟨(some 6), none, .mv (.t 10)⟩])
  (.seq (.region [⟨(some 7), none, .mv (.c (.bool false))⟩])
  (.seq (.seq (.region [⟨(some 8), none, .mv (.c (.int .i64 0))⟩])
  (.block 0 (.loop
    (.seq (.seq (.region [⟨(some 11), none, .mv (.t 8)⟩, ⟨(some 12), none, .load false 1 (.t 1)⟩, ⟨(some 13), none, .len 0 (.t 12)⟩, ⟨(some 14), none, .bin .lss (.t 11) (.t 13)⟩])
    (.cond (.t 14)
      .skip
      (.exit 0)))
    (.seq (.block 1 (.seq (.region [⟨(some 17), none, .load false 1 (.t 1)⟩, ⟨(some 18), none, .mv (.t 8)⟩, ⟨(some 19), none, .ixStr (.t 17) (.t 18)⟩, ⟨(some 9), none, .mv (.t 19)⟩])
    (.block 2 (.seq (.region [⟨(some 21), none, .mv (.t 9)⟩, ⟨(some 22), none, .bin .eql (.t 21) (.c (.int .u8 34))⟩, ⟨(some 20), none, .mv (.t 22)⟩])
    (.cond (.t 20)
      (.region [⟨(some 23), none, .mv (.t 7)⟩, ⟨(some 24), none, .un .not (.t 23)⟩, ⟨(some 7), none, .mv (.t 24)⟩])
      (.seq (.region [⟨(some 26), none, .mv (.t 7)⟩, ⟨(some 27), none, .mv (.t 26)⟩, ⟨(some 28), (some (27, true)), .mv (.t 9)⟩, ⟨(some 29), (some (27, true)), .bin .eql (.t 28) (.c (.int .u8 92))⟩, ⟨(some 30), none, .pick (.t 27) (.t 29) (.c (.bool false))⟩, ⟨(some 25), none, .mv (.t 30)⟩])
      (.cond (.t 25)
        (.region [⟨(some 31), none, .mv (.t 8)⟩, ⟨(some 32), none, .bin .add (.t 31) (.c (.int .i64 1))⟩, ⟨(some 8), none, .mv (.t 32)⟩])
        (.seq (.region [⟨(some 34), none, .mv (.t 7)⟩, ⟨(some 35), none, .un .not (.t 34)⟩, ⟨(some 36), none, .mv (.t 35)⟩, ⟨(some 37), (some (36, true)), .mv (.t 9)⟩, ⟨(some 38), (some (36, true)), .bin .eql (.t 37) (.c (.int .u8 44))⟩, ⟨(some 39), none, .pick (.t 36) (.t 38) (.c (.bool false))⟩, ⟨(some 33), none, .mv (.t 39)⟩])
        (.cond (.t 33)
          (.region [⟨(some 40), none, .mv (.t 6)⟩, ⟨(some 41), none, .mv (.t 8)⟩, ⟨(some 42), none, .callv (.t 40) [(.t 41)]⟩])
          .skip)))))))))
    (.region [⟨(some 15), none, .mv (.t 8)⟩, ⟨(some 16), none, .bin .add (.t 15) (.c (.int .i64 1))⟩, ⟨(some 8), none, .mv (.t 16)⟩]))))))
  (.seq (.seq (.region [⟨(some 43), none, .mv (.t 7)⟩])
  (.cond (.t 43)
    (.seq (.region [⟨(some 2), none, .mv (.c .nsl)⟩, ⟨(some 3), none, .mv (.c (.bool false))⟩])
    .ret)
    .skip))
  (.seq (.region [⟨(some 44), none, .mv (.t 6)⟩, ⟨(some 45), none, .load false 1 (.t 1)⟩, ⟨(some 46), none, .len 0 (.t 45)⟩, ⟨(some 47), none, .callv (.t 44) [(.t 46)]⟩])
  (.seq (.region [⟨(some 48), none, .load false 1 (.t 4)⟩, ⟨(some 49), none, .load false 1 (.t 4)⟩, ⟨(some 50), none, .len 1 (.t 49)⟩, ⟨(some 51), none, .load false 1 (.t 4)⟩, ⟨(some 52), none, .len 1 (.t 51)⟩, ⟨(some 53), none, .slsl 1 (.t 48) none (some (.t 50)) (some (.t 52))⟩, ⟨(some 2), none, .mv (.t 53)⟩, ⟨(some 3), none, .mv (.c (.bool true))⟩])
  .ret)))))))))⟩
/-- gatepost/gatepostref01.Split -/
def c_gatepostref01_Split : FnC := ⟨74, [.tmp 2, .tmp 3],
  (.seq (.region [⟨(some 2), none, .mv (.c .nsl)⟩, ⟨(some 3), none, .mv (.c (.bool false))⟩])
  (.seq (.region [⟨(some 4), none, .mv (.c .nsl)⟩])
  (.seq (.region [⟨(some 5), none, .mv (.c (.str []))⟩])
  (.seq (.region [⟨(some 6), none, .mv (.c (.bool false))⟩])
  (.seq (.seq (.region [⟨(some 7), none, .mv (.c (.int .i64 0))⟩])
  (.block 0 (.loop
    (.seq (.seq (.region [⟨(some 9), none, .mv (.t 7)⟩, ⟨(some 10), none, .mv (.t 0)⟩, ⟨(some 11), none, .len 0 (.t 10)⟩, ⟨(some 12), none, .bin .lss (.t 9) (.t 11)⟩])
    (.cond (.t 12)
      .skip
      (.exit 0)))
    (.seq (.block 1 (.seq (.region [⟨(some 15), none, .mv (.t 0)⟩, ⟨(some 16), none, .mv (.t 7)⟩, ⟨(some 17), none, .ixStr (.t 15) (.t 16)⟩, ⟨(some 8), none, .mv (.t 17)⟩])
    (.seq (.seq (.region [⟨(some 18), none, .mv (.t 6)⟩, ⟨(some 19), none, .un .not (.t 18)⟩, ⟨(some 20), none, .mv (.t 19)⟩, ⟨(some 21), (some (20, true)), .mv (.t 8)⟩, ⟨(some 22), (some (20, true)), .bin .eql (.t 21) (.c (.int .u8 44))⟩, ⟨(some 23), none, .pick (.t 20) (.t 22) (.c (.bool false))⟩])
    (.cond (.t 23)
      (.seq (.region [⟨(some 24), none, .mv (.t 5)⟩, ⟨(some 25), none, .call i_gatepostref01_Trim [(.t 24)]⟩, ⟨(some 5), none, .mv (.t 25)⟩])
      (.seq (.seq (.region [⟨(some 26), none, .mv (.t 5)⟩, ⟨(some 27), none, .bin .neq (.t 26) (.c (.str []))⟩])
      (.cond (.t 27)
        (.region [⟨(some 28), none, .mv (.t 4)⟩, ⟨(some 29), none, .mv (.t 5)⟩, ⟨(some 30), none, .bsl 1 [(.t 29)]⟩, ⟨(some 31), none, .app 1 16 false (.t 28) (.t 30)⟩, ⟨(some 4), none, .mv (.t 31)⟩])
        .skip))
      (.seq (.region [⟨(some 5), none, .mv (.c (.str []))⟩])
      (.exit 1))))
      .skip))
    (.seq (.region [⟨(some 32), none, .mv (.t 5)⟩, ⟨(some 33), none, .mv (.t 0)⟩, ⟨(some 34), none, .mv (.t 7)⟩, ⟨(some 35), none, .mv (.t 7)⟩, ⟨(some 36), none, .bin .add (.t 35) (.c (.int .i64 1))⟩, ⟨(some 37), none, .slstr (.t 33) (some (.t 34)) (some (.t 36))⟩, ⟨(some 38), none, .bin .add (.t 32) (.t 37)⟩, ⟨(some 5), none, .mv (.t 38)⟩])
    (.seq (.seq (.region [⟨(some 39), none, .mv (.t 8)⟩, ⟨(some 40), none, .bin .eql (.t 39) (.c (.int .u8 34))⟩])
    (.cond (.t 40)
      (.region [⟨(some 41), none, .mv (.t 6)⟩, ⟨(some 42), none, .un .not (.t 41)⟩, ⟨(some 6), none, .mv (.t 42)⟩])
      .skip))
    (.seq (.region [⟨(some 43), none, .mv (.t 6)⟩, ⟨(some 44), none, .mv (.t 43)⟩, ⟨(some 45), (some (44, true)), .mv (.t 8)⟩, ⟨(some 46), (some (44, true)), .bin .eql (.t 45) (.c (.int .u8 92))⟩, ⟨(some 47), none, .pick (.t 44) (.t 46) (.c (.bool false))⟩, ⟨(some 48), none, .mv (.t 47)⟩, ⟨(some 49), (some (48, true)), .mv (.t 7)⟩, ⟨(some 50), (some (48, true)), .bin .add (.t 49) (.c (.int .i64 1))⟩, ⟨(some 51), (some (48, true)), .mv (.t 0)⟩, ⟨(some 52), (some (48, true)), .len 0 (.t 51)⟩, ⟨(some 53), (some (48, true)), .bin .lss (.t 50) (.t 52)⟩, ⟨(some 54), none, .pick (.t 48) (.t 53) (.c (.bool false))⟩])
    (.cond (.t 54)
      (.seq (.region [⟨(some 55), none, .mv (.t 7)⟩, ⟨(some 56), none, .bin .add (.t 55) (.c (.int .i64 1))⟩, ⟨(some 7), none, .mv (.t 56)⟩])
      (.region [⟨(some 57), none, .mv (.t 5)⟩, ⟨(some 58), none, .mv (.t 0)⟩, ⟨(some 59), none, .mv (.t 7)⟩, ⟨(some 60), none, .mv (.t 7)⟩, ⟨(some 61), none, .bin .add (.t 60) (.c (.int .i64 1))⟩, ⟨(some 62), none, .slstr (.t 58) (some (.t 59)) (some (.t 61))⟩, ⟨(some 63), none, .bin .add (.t 57) (.t 62)⟩, ⟨(some 5), none, .mv (.t 63)⟩]))
      .skip)))))))
    (.region [⟨(some 13), none, .mv (.t 7)⟩, ⟨(some 14), none, .bin .add (.t 13) (.c (.int .i64 1))⟩, ⟨(some 7), none, .mv (.t 14)⟩]))))))
  (.seq (.region [⟨(some 64), none, .mv (.t 5)⟩, ⟨(some 65), none, .call i_gatepostref01_Trim [(.t 64)]⟩, ⟨(some 5), none, .mv (.t 65)⟩])
  (.seq (.seq (.region [⟨(some 66), none, .mv (.t 6)⟩])
  (.cond (.t 66)
    (.seq (.region [⟨(some 2), none, .mv (.c .nsl)⟩, ⟨(some 3), none, .mv (.c (.bool false))⟩])
    .ret)
    .skip))
  (.seq (.seq (.region [⟨(some 67), none, .mv (.t 5)⟩, ⟨(some 68), none, .bin .neq (.t 67) (.c (.str []))⟩])
  (.cond (.t 68)
    (.region [⟨(some 69), none, .mv (.t 4)⟩, ⟨(some 70), none, .mv (.t 5)⟩, ⟨(some 71), none, .bsl 1 [(.t 70)]⟩, ⟨(some 72), none, .app 1 16 false (.t 69) (.t 71)⟩, ⟨(some 4), none, .mv (.t 72)⟩])
    .skip))
  (.seq (.region [⟨(some 73), none, .mv (.t 4)⟩, ⟨(some 2), none, .mv (.t 73)⟩, ⟨(some 3), none, .mv (.c (.bool true))⟩])
  .ret)))))))))⟩
/-- gatepost/gatepostlaw01.texts -/
def c_gatepostlaw01_texts : FnC := ⟨26, [.tmp 4],
  (.seq (.region [⟨(some 4), none, .mv (.c (.bool false))⟩])
  (.seq (.seq (.region [⟨(some 6), none, .mv (.t 0)⟩, ⟨(some 7), none, .len 1 (.t 6)⟩, ⟨(some 8), none, .mv (.t 1)⟩, ⟨(some 9), none, .len 1 (.t 8)⟩, ⟨(some 10), none, .bin .neq (.t 7) (.t 9)⟩])
  (.cond (.t 10)
    (.seq (.region [⟨(some 4), none, .mv (.c (.bool false))⟩])
    .ret)
    .skip))
  (.seq (.seq (.region [⟨(some 5), none, .mv (.c (.int .i64 0))⟩])
  (.block 0 (.loop
    (.seq (.seq (.region [⟨(some 11), none, .mv (.t 5)⟩, ⟨(some 12), none, .mv (.t 0)⟩, ⟨(some 13), none, .len 1 (.t 12)⟩, ⟨(some 14), none, .bin .lss (.t 11) (.t 13)⟩])
    (.cond (.t 14)
      .skip
      (.exit 0)))
    (.seq (.block 1 (.seq (.dregion [⟨(some 17), none, .mv (.t 0)⟩, ⟨(some 18), none, .mv (.t 5)⟩, ⟨(some 19), none, .ixaSl 1 (.t 17) (.t 18)⟩, ⟨(some 20), none, .load false 1 (.t 19)⟩, ⟨(some 21), none, .mv (.t 1)⟩, ⟨(some 22), none, .mv (.t 5)⟩, ⟨(some 23), none, .ixaSl 1 (.t 21) (.t 22)⟩, ⟨(some 24), none, .load false 1 (.t 23)⟩] [⟨(some 25), none, .bin .neq (.t 20) (.t 24)⟩])
    (.cond (.t 25)
      (.seq (.region [⟨(some 4), none, .mv (.c (.bool false))⟩])
      .ret)
      .skip)))
    (.region [⟨(some 15), none, .mv (.t 5)⟩, ⟨(some 16), none, .bin .add (.t 15) (.c (.int .i64 1))⟩, ⟨(some 5), none, .mv (.t 16)⟩]))))))
  (.seq (.region [⟨(some 4), none, .mv (.c (.bool true))⟩])
  .ret))))⟩
/-- gatepost/token.Is -/
def c_token_Is : FnC := ⟨9, [.tmp 2],
  (.seq (.region [⟨(some 2), none, .mv (.c (.bool false))⟩])
  (.seq (.region [⟨(some 3), none, .mv (.t 0)⟩, ⟨(some 4), none, .bin .neq (.t 3) (.c (.str []))⟩, ⟨(some 5), none, .mv (.t 4)⟩, ⟨(some 6), (some (5, true)), .mv (.t 0)⟩, ⟨(some 7), (some (5, true)), .call i_token_all [(.t 6), (.c (.fn i_token_inToken []))]⟩, ⟨(some 8), none, .pick (.t 5) (.t 7) (.c (.bool false))⟩, ⟨(some 2), none, .mv (.t 8)⟩])
  .ret))⟩
/-- gatepost/gatepostref01.Is -/
def c_gatepostref01_Is : FnC := ⟨18, [.tmp 2],
  (.seq (.region [⟨(some 2), none, .mv (.c (.bool false))⟩])
  (.seq (.seq (.region [⟨(some 3), none, .mv (.c (.int .i64 0))⟩])
  (.block 0 (.loop
    (.seq (.seq (.region [⟨(some 4), none, .mv (.t 3)⟩, ⟨(some 5), none, .mv (.t 0)⟩, ⟨(some 6), none, .len 0 (.t 5)⟩, ⟨(some 7), none, .bin .lss (.t 4) (.t 6)⟩])
    (.cond (.t 7)
      .skip
      (.exit 0)))
    (.seq (.block 1 (.seq (.region [⟨(some 10), none, .mv (.t 0)⟩, ⟨(some 11), none, .mv (.t 3)⟩, ⟨(some 12), none, .ixStr (.t 10) (.t 11)⟩, ⟨(some 13), none, .call i_gatepostref01_tchar [(.t 12)]⟩, ⟨(some 14), none, .un .not (.t 13)⟩])
    (.cond (.t 14)
      (.seq (.region [⟨(some 2), none, .mv (.c (.bool false))⟩])
      .ret)
      .skip)))
    (.region [⟨(some 8), none, .mv (.t 3)⟩, ⟨(some 9), none, .bin .add (.t 8) (.c (.int .i64 1))⟩, ⟨(some 3), none, .mv (.t 9)⟩]))))))
  (.seq (.region [⟨(some 15), none, .mv (.t 0)⟩, ⟨(some 16), none, .len 0 (.t 15)⟩, ⟨(some 17), none, .bin .gtr (.t 16) (.c (.int .i64 0))⟩, ⟨(some 2), none, .mv (.t 17)⟩])
  .ret)))⟩
/-- gatepost/token.Value -/
def c_token_Value : FnC := ⟨11, [.tmp 2],
  (.seq (.region [⟨(some 2), none, .mv (.c (.bool false))⟩])
  (.seq (.region [⟨(some 3), none, .mv (.t 0)⟩, ⟨(some 4), none, .call i_token_Trim [(.t 3)]⟩, ⟨(some 5), none, .mv (.t 0)⟩, ⟨(some 6), none, .bin .eql (.t 4) (.t 5)⟩, ⟨(some 7), none, .mv (.t 6)⟩, ⟨(some 8), (some (7, true)), .mv (.t 0)⟩, ⟨(some 9), (some (7, true)), .call i_token_all [(.t 8), (.c (.fn i_token_Value_1 []))]⟩, ⟨(some 10), none, .pick (.t 7) (.t 9) (.c (.bool false))⟩, ⟨(some 2), none, .mv (.t 10)⟩])
  .ret))⟩
/-- gatepost/gatepostref01.Value -/
def c_gatepostref01_Value : FnC := ⟨42, [.tmp 2],
  (.seq (.region [⟨(some 2), none, .mv (.c (.bool false))⟩])
  (.seq (.seq (.region [⟨(some 3), none, .mv (.c (.int .i64 0))⟩])
  (.block 0 (.loop
    (.seq (.seq (.region [⟨(some 5), none, .mv (.t 3)⟩, ⟨(some 6), none, .mv (.t 0)⟩, ⟨(some 7), none, .len 0 (.t 6)⟩, ⟨(some 8), none, .bin .lss (.t 5) (.t 7)⟩])
    (.cond (.t 8)
      .skip
      (.exit 0)))
    (.seq (.block 1 (.seq (.region [⟨(some 11), none, .mv (.t 0)⟩, ⟨(some 12), none, .mv (.t 3)⟩, ⟨(some 13), none, .ixStr (.t 11) (.t 12)⟩, ⟨(some 4), none, .mv (.t 13)⟩])
    (.seq (.region [⟨(some 14), none, .mv (.t 4)⟩, ⟨(some 15), none, .call i_gatepostref01_blank [(.t 14)]⟩, ⟨(some 16), none, .un .not (.t 15)⟩, ⟨(some 17), none, .mv (.t 16)⟩, ⟨(some 18), (some (17, true)), .mv (.t 4)⟩, ⟨(some 19), (some (17, true)), .bin .lss (.t 18) (.c (.int .u8 33))⟩, ⟨(some 20), (some (17, true)), .mv (.t 19)⟩, ⟨(some 21), (some (20, false)), .mv (.t 4)⟩, ⟨(some 22), (some (20, false)), .bin .eql (.t 21) (.c (.int .u8 127))⟩, ⟨(some 23), (some (17, true)), .pick (.t 20) (.c (.bool true)) (.t 22)⟩, ⟨(some 24), none, .pick (.t 17) (.t 23) (.c (.bool false))⟩])
    (.cond (.t 24)
      (.seq (.region [⟨(some 2), none, .mv (.c (.bool false))⟩])
      .ret)
      .skip))))
    (.region [⟨(some 9), none, .mv (.t 3)⟩, ⟨(some 10), none, .bin .add (.t 9) (.c (.int .i64 1))⟩, ⟨(some 3), none, .mv (.t 10)⟩]))))))
  (.seq (.region [⟨(some 25), none, .mv (.t 0)⟩, ⟨(some 26), none, .bin .eql (.t 25) (.c (.str []))⟩, ⟨(some 27), none, .mv (.t 26)⟩, ⟨(some 28), (some (27, false)), .mv (.t 0)⟩, ⟨(some 29), (some (27, false)), .ixStr (.t 28) (.c (.int .i64 0))⟩, ⟨(some 30), (some (27, false)), .call i_gatepostref01_blank [(.t 29)]⟩, ⟨(some 31), (some (27, false)), .un .not (.t 30)⟩, ⟨(some 32), (some (27, false)), .mv (.t 31)⟩, ⟨(some 33), (some (32, true)), .mv (.t 0)⟩, ⟨(some 34), (some (32, true)), .mv (.t 0)⟩, ⟨(some 35), (some (32, true)), .len 0 (.t 34)⟩, ⟨(some 36), (some (32, true)), .bin .sub (.t 35) (.c (.int .i64 1))⟩, ⟨(some 37), (some (32, true)), .ixStr (.t 33) (.t 36)⟩, ⟨(some 38), (some (32, true)), .call i_gatepostref01_blank [(.t 37)]⟩, ⟨(some 39), (some (32, true)), .un .not (.t 38)⟩, ⟨(some 40), (some (27, false)), .pick (.t 32) (.t 39) (.c (.bool false))⟩, ⟨(some 41), none, .pick (.t 27) (.c (.bool true)) (.t 40)⟩, ⟨(some 2), none, .mv (.t 41)⟩])
  .ret)))⟩
/-- gatepost/token.Lower -/
def c_token_Lower : FnC := ⟨29, [.tmp 2],
  (.seq (.region [⟨(some 2), none, .mv (.c (.str []))⟩])
  (.seq (.region [⟨(some 6), none, .mv (.t 0)⟩, ⟨(some 7), none, .toBytes (.t 6)⟩, ⟨(some 3), none, .mv (.t 7)⟩])
  (.seq (.seq (.region [⟨(some 8), none, .mv (.t 3)⟩, ⟨(some 9), none, .len 1 (.t 8)⟩, ⟨(some 10), none, .mv (.c (.int .i64 0))⟩])
  (.block 0 (.loop
    (.seq (.region [⟨(some 11), none, .bin .lss (.t 10) (.t 9)⟩])
    (.seq (.cond (.t 11)
      .skip
      (.exit 0))
    (.seq (.block 1 (.seq (.region [⟨(some 12), none, .mv (.t 10)⟩, ⟨(some 13), none, .ixaSl 1 (.t 8) (.t 10)⟩, ⟨(some 14), none, .load false 1 (.t 13)⟩, ⟨(some 4), none, .mv (.t 12)⟩, ⟨(some 5), none, .mv (.t 14)⟩])
    (.seq (.region [⟨(some 15), none, .mv (.t 5)⟩, ⟨(some 16), none, .bin .geq (.t 15) (.c (.int .u8 65))⟩, ⟨(some 17), none, .mv (.t 16)⟩, ⟨(some 18), (some (17, true)), .mv (.t 5)⟩, ⟨(some 19), (some (17, true)), .bin .leq (.t 18) (.c (.int .u8 90))⟩, ⟨(some 20), none, .pick (.t 17) (.t 19) (.c (.bool false))⟩])
    (.cond (.t 20)
      (.region [⟨(some 21), none, .mv (.t 3)⟩, ⟨(some 22), none, .mv (.t 4)⟩, ⟨(some 23), none, .mv (.t 5)⟩, ⟨(some 24), none, .bin .or (.t 23) (.c (.int .u8 32))⟩, ⟨(some 25), none, .ixaSl 1 (.t 21) (.t 22)⟩, ⟨none, none, .store 1 (.t 25) (.t 24)⟩])
      .skip))))
    (.region [⟨(some 26), none, .bin .add (.t 10) (.c (.int .i64 1))⟩, ⟨(some 10), none, .mv (.t 26)⟩])))))))
  (.seq (.region [⟨(some 27), none, .mv (.t 3)⟩, ⟨(some 28), none, .toStr (.t 27)⟩, ⟨(some 2), none, .mv (.t 28)⟩])
  .ret))))⟩
/-- gatepost/gatepostref01.Lower -/
def c_gatepostref01_Lower : FnC := ⟨29, [.tmp 2],
  (.seq (.region [⟨(some 2), none, .mv (.c (.str []))⟩])
  (.seq (.region [⟨(some 3), none, .mv (.c (.str []))⟩])
  (.seq (.seq (.region [⟨(some 4), none, .mv (.c (.int .i64 0))⟩])
  (.block 0 (.loop
    (.seq (.seq (.region [⟨(some 6), none, .mv (.t 4)⟩, ⟨(some 7), none, .mv (.t 0)⟩, ⟨(some 8), none, .len 0 (.t 7)⟩, ⟨(some 9), none, .bin .lss (.t 6) (.t 8)⟩])
    (.cond (.t 9)
      .skip
      (.exit 0)))
    (.seq (.block 1 (.seq (.region [⟨(some 12), none, .mv (.t 0)⟩, ⟨(some 13), none, .mv (.t 4)⟩, ⟨(some 14), none, .ixStr (.t 12) (.t 13)⟩, ⟨(some 5), none, .mv (.t 14)⟩])
    (.seq (.seq (.region [⟨(some 15), none, .mv (.t 5)⟩, ⟨(some 16), none, .bin .geq (.t 15) (.c (.int .u8 65))⟩, ⟨(some 17), none, .mv (.t 16)⟩, ⟨(some 18), (some (17, true)), .mv (.t 5)⟩, ⟨(some 19), (some (17, true)), .bin .leq (.t 18) (.c (.int .u8 90))⟩, ⟨(some 20), none, .pick (.t 17) (.t 19) (.c (.bool false))⟩])
    (.cond (.t 20)
      (.region [⟨(some 21), none, .mv (.t 5)⟩, ⟨(some 22), none, .bin .add (.t 21) (.c (.int .u8 32))⟩, ⟨(some 5), none, .mv (.t 22)⟩])
      .skip))
    (.region [⟨(some 23), none, .mv (.t 3)⟩, ⟨(some 24), none, .mv (.t 5)⟩, ⟨(some 25), none, .bsl 1 [(.t 24)]⟩, ⟨(some 26), none, .toStr (.t 25)⟩, ⟨(some 27), none, .bin .add (.t 23) (.t 26)⟩, ⟨(some 3), none, .mv (.t 27)⟩]))))
    (.region [⟨(some 10), none, .mv (.t 4)⟩, ⟨(some 11), none, .bin .add (.t 10) (.c (.int .i64 1))⟩, ⟨(some 4), none, .mv (.t 11)⟩]))))))
  (.seq (.region [⟨(some 28), none, .mv (.t 3)⟩, ⟨(some 2), none, .mv (.t 28)⟩])
  .ret))))⟩
/-- gatepost/gatepostref01.Trim -/
def c_gatepostref01_Trim : FnC := ⟨30, [.tmp 2],
  (.seq (.region [⟨(some 2), none, .mv (.c (.str []))⟩])
  (.seq (.block 0 (.loop
    (.seq (.seq (.region [⟨(some 3), none, .mv (.t 0)⟩, ⟨(some 4), none, .len 0 (.t 3)⟩, ⟨(some 5), none, .bin .gtr (.t 4) (.c (.int .i64 0))⟩, ⟨(some 6), none, .mv (.t 5)⟩, ⟨(some 7), (some (6, true)), .mv (.t 0)⟩, ⟨(some 8), (some (6, true)), .ixStr (.t 7) (.c (.int .i64 0))⟩, ⟨(some 9), (some (6, true)), .call i_gatepostref01_blank [(.t 8)]⟩, ⟨(some 10), none, .pick (.t 6) (.t 9) (.c (.bool false))⟩])
    (.cond (.t 10)
      .skip
      (.exit 0)))
    (.block 1 (.region [⟨(some 11), none, .mv (.t 0)⟩, ⟨(some 12), none, .slstr (.t 11) (some (.c (.int .i64 1))) none⟩, ⟨(some 0), none, .mv (.t 12)⟩])))))
  (.seq (.block 2 (.loop
    (.seq (.seq (.region [⟨(some 13), none, .mv (.t 0)⟩, ⟨(some 14), none, .len 0 (.t 13)⟩, ⟨(some 15), none, .bin .gtr (.t 14) (.c (.int .i64 0))⟩, ⟨(some 16), none, .mv (.t 15)⟩, ⟨(some 17), (some (16, true)), .mv (.t 0)⟩, ⟨(some 18), (some (16, true)), .mv (.t 0)⟩, ⟨(some 19), (some (16, true)), .len 0 (.t 18)⟩, ⟨(some 20), (some (16, true)), .bin .sub (.t 19) (.c (.int .i64 1))⟩, ⟨(some 21), (some (16, true)), .ixStr (.t 17) (.t 20)⟩, ⟨(some 22), (some (16, true)), .call i_gatepostref01_blank [(.t 21)]⟩, ⟨(some 23), none, .pick (.t 16) (.t 22) (.c (.bool false))⟩])
    (.cond (.t 23)
      .skip
      (.exit 2)))
    (.block 3 (.region [⟨(some 24), none, .mv (.t 0)⟩, ⟨(some 25), none, .mv (.t 0)⟩, ⟨(some 26), none, .len 0 (.t 25)⟩, ⟨(some 27), none, .bin .sub (.t 26) (.c (.int .i64 1))⟩, ⟨(some 28), none, .slstr (.t 24) none (some (.t 27))⟩, ⟨(some 0), none, .mv (.t 28)⟩])))))
  (.seq (.region [⟨(some 29), none, .mv (.t 0)⟩, ⟨(some 2), none, .mv (.t 29)⟩])
  .ret))))⟩
/-- gatepost/token.Same -/
def c_token_Same : FnC := ⟨17, [.tmp 4],
  (.seq (.region [⟨(some 4), none, .mv (.c (.bool false))⟩])
  (.seq (.region [⟨(some 5), none, .mv (.t 0)⟩, ⟨(some 6), none, .len 0 (.t 5)⟩, ⟨(some 7), none, .mv (.t 1)⟩, ⟨(some 8), none, .len 0 (.t 7)⟩, ⟨(some 9), none, .bin .eql (.t 6) (.t 8)⟩, ⟨(some 10), none, .mv (.t 9)⟩, ⟨(some 11), (some (10, true)), .mv (.t 0)⟩, ⟨(some 12), (some (10, true)), .call i_token_Lower [(.t 11)]⟩, ⟨(some 13), (some (10, true)), .mv (.t 1)⟩, ⟨(some 14), (some (10, true)), .call i_token_Lower [(.t 13)]⟩, ⟨(some 15), (some (10, true)), .bin .eql (.t 12) (.t 14)⟩, ⟨(some 16), none, .pick (.t 10) (.t 15) (.c (.bool false))⟩, ⟨(some 4), none, .mv (.t 16)⟩])
  .ret))⟩
/-- gatepost/gatepostref01.Same -/
def c_gatepostref01_Same : FnC := ⟨10, [.tmp 4],
  (.seq (.region [⟨(some 4), none, .mv (.c (.bool false))⟩])
  (.seq (.region [⟨(some 5), none, .mv (.t 0)⟩, ⟨(some 6), none, .call i_gatepostref01_Lower [(.t 5)]⟩, ⟨(some 7), none, .mv (.t 1)⟩, ⟨(some 8), none, .call i_gatepostref01_Lower [(.t 7)]⟩, ⟨(some 9), none, .bin .eql (.t 6) (.t 8)⟩, ⟨(some 4), none, .mv (.t 9)⟩])
  .ret))⟩
/-- gatepost/token.Pair -/
def c_token_Pair : FnC := ⟨33, [.tmp 2, .tmp 3, .tmp 4, .tmp 5],
  (.seq (.region [⟨(some 2), none, .mv (.c (.str []))⟩, ⟨(some 3), none, .mv (.c (.str []))⟩, ⟨(some 4), none, .mv (.c (.bool false))⟩, ⟨(some 5), none, .mv (.c (.bool false))⟩])
  (.seq (.region [⟨(some 7), none, .mv (.t 0)⟩, ⟨(some 8), none, .call i_strings_Cut [(.t 7), (.c (.str [61]))]⟩, ⟨(some 6), none, .mv (.t 8)⟩, ⟨(some 9), none, .ext 0 (.t 6)⟩, ⟨(some 10), none, .ext 1 (.t 6)⟩, ⟨(some 11), none, .ext 2 (.t 6)⟩, ⟨(some 2), none, .mv (.t 9)⟩, ⟨(some 3), none, .mv (.t 10)⟩, ⟨(some 4), none, .mv (.t 11)⟩])
  (.seq (.seq (.region [⟨(some 12), none, .mv (.t 2)⟩, ⟨(some 13), none, .call i_token_Is [(.t 12)]⟩, ⟨(some 14), none, .un .not (.t 13)⟩])
  (.cond (.t 14)
    (.seq (.region [⟨(some 2), none, .mv (.c (.str []))⟩, ⟨(some 3), none, .mv (.c (.str []))⟩, ⟨(some 4), none, .mv (.c (.bool false))⟩, ⟨(some 5), none, .mv (.c (.bool false))⟩])
    .ret)
    .skip))
  (.seq (.seq (.region [⟨(some 15), none, .mv (.t 4)⟩, ⟨(some 16), none, .un .not (.t 15)⟩, ⟨(some 17), none, .mv (.t 16)⟩, ⟨(some 18), (some (17, false)), .mv (.t 3)⟩, ⟨(some 19), (some (17, false)), .call i_token_Is [(.t 18)]⟩, ⟨(some 20), none, .pick (.t 17) (.c (.bool true)) (.t 19)⟩])
  (.cond (.t 20)
    (.seq (.region [⟨(some 21), none, .mv (.t 2)⟩, ⟨(some 22), none, .mv (.t 3)⟩, ⟨(some 23), none, .mv (.t 4)⟩, ⟨(some 2), none, .mv (.t 21)⟩, ⟨(some 3), none, .mv (.t 22)⟩, ⟨(some 4), none, .mv (.t 23)⟩, ⟨(some 5), none, .mv (.c (.bool true))⟩])
    .ret)
    .skip))
  (.seq (.seq (.region [⟨(some 25), none, .mv (.t 3)⟩, ⟨(some 26), none, .call i_token_unquote [(.t 25)]⟩, ⟨(some 24), none, .mv (.t 26)⟩, ⟨(some 27), none, .ext 0 (.t 24)⟩, ⟨(some 28), none, .ext 1 (.t 24)⟩, ⟨(some 3), none, .mv (.t 27)⟩, ⟨(some 5), none, .mv (.t 28)⟩])
  (.seq (.region [⟨(some 29), none, .mv (.t 5)⟩, ⟨(some 30), none, .un .not (.t 29)⟩])
  (.cond (.t 30)
    (.seq (.region [⟨(some 2), none, .mv (.c (.str []))⟩, ⟨(some 3), none, .mv (.c (.str []))⟩, ⟨(some 4), none, .mv (.c (.bool false))⟩, ⟨(some 5), none, .mv (.c (.bool false))⟩])
    .ret)
    .skip)))
  (.seq (.region [⟨(some 31), none, .mv (.t 2)⟩, ⟨(some 32), none, .mv (.t 3)⟩, ⟨(some 2), none, .mv (.t 31)⟩, ⟨(some 3), none, .mv (.t 32)⟩, ⟨(some 4), none, .mv (.c (.bool true))⟩, ⟨(some 5), none, .mv (.c (.bool true))⟩])
  .ret))))))⟩
/-- gatepost/gatepostref01.Pair -/
def c_gatepostref01_Pair : FnC := ⟨53, [.tmp 2, .tmp 3, .tmp 4, .tmp 5],
  (.seq (.region [⟨(some 2), none, .mv (.c (.str []))⟩, ⟨(some 3), none, .mv (.c (.str []))⟩, ⟨(some 4), none, .mv (.c (.bool false))⟩, ⟨(some 5), none, .mv (.c (.bool false))⟩])
  (.seq (.region [⟨(some 6), none, .mv (.c (.int .i64 0))⟩])
  (.seq (.block 0 (.loop
    (.seq (.seq (.region [⟨(some 10), none, .mv (.t 6)⟩, ⟨(some 11), none, .mv (.t 0)⟩, ⟨(some 12), none, .len 0 (.t 11)⟩, ⟨(some 13), none, .bin .lss (.t 10) (.t 12)⟩, ⟨(some 14), none, .mv (.t 13)⟩, ⟨(some 15), (some (14, true)), .mv (.t 0)⟩, ⟨(some 16), (some (14, true)), .mv (.t 6)⟩, ⟨(some 17), (some (14, true)), .ixStr (.t 15) (.t 16)⟩, ⟨(some 18), (some (14, true)), .bin .neq (.t 17) (.c (.int .u8 61))⟩, ⟨(some 19), none, .pick (.t 14) (.t 18) (.c (.bool false))⟩])
    (.cond (.t 19)
      .skip
      (.exit 0)))
    (.block 1 (.region [⟨(some 20), none, .mv (.t 6)⟩, ⟨(some 21), none, .bin .add (.t 20) (.c (.int .i64 1))⟩, ⟨(some 6), none, .mv (.t 21)⟩])))))
  (.seq (.seq (.region [⟨(some 22), none, .mv (.t 0)⟩, ⟨(some 23), none, .mv (.t 6)⟩, ⟨(some 24), none, .slstr (.t 22) none (some (.t 23))⟩, ⟨(some 25), none, .call i_gatepostref01_Is [(.t 24)]⟩, ⟨(some 26), none, .un .not (.t 25)⟩])
  (.cond (.t 26)
    (.seq (.region [⟨(some 2), none, .mv (.c (.str []))⟩, ⟨(some 3), none, .mv (.c (.str []))⟩, ⟨(some 4), none, .mv (.c (.bool false))⟩, ⟨(some 5), none, .mv (.c (.bool false))⟩])
    .ret)
    .skip))
  (.seq (.seq (.region [⟨(some 27), none, .mv (.t 6)⟩, ⟨(some 28), none, .mv (.t 0)⟩, ⟨(some 29), none, .len 0 (.t 28)⟩, ⟨(some 30), none, .bin .eql (.t 27) (.t 29)⟩])
  (.cond (.t 30)
    (.seq (.region [⟨(some 31), none, .mv (.t 0)⟩, ⟨(some 2), none, .mv (.t 31)⟩, ⟨(some 3), none, .mv (.c (.str []))⟩, ⟨(some 4), none, .mv (.c (.bool false))⟩, ⟨(some 5), none, .mv (.c (.bool true))⟩])
    .ret)
    .skip))
  (.seq (.region [⟨(some 32), none, .mv (.t 0)⟩, ⟨(some 33), none, .mv (.t 6)⟩, ⟨(some 34), none, .bin .add (.t 33) (.c (.int .i64 1))⟩, ⟨(some 35), none, .slstr (.t 32) (some (.t 34)) none⟩, ⟨(some 7), none, .mv (.t 35)⟩])
  (.seq (.seq (.region [⟨(some 36), none, .mv (.t 7)⟩, ⟨(some 37), none, .call i_gatepostref01_Is [(.t 36)]⟩])
  (.cond (.t 37)
    (.seq (.region [⟨(some 38), none, .mv (.t 0)⟩, ⟨(some 39), none, .mv (.t 6)⟩, ⟨(some 40), none, .slstr (.t 38) none (some (.t 39))⟩, ⟨(some 41), none, .mv (.t 7)⟩, ⟨(some 2), none, .mv (.t 40)⟩, ⟨(some 3), none, .mv (.t 41)⟩, ⟨(some 4), none, .mv (.c (.bool true))⟩, ⟨(some 5), none, .mv (.c (.bool true))⟩])
    .ret)
    .skip))
  (.seq (.region [⟨(some 43), none, .mv (.t 7)⟩, ⟨(some 44), none, .call i_gatepostref01_unquote [(.t 43)]⟩, ⟨(some 42), none, .mv (.t 44)⟩, ⟨(some 45), none, .ext 0 (.t 42)⟩, ⟨(some 46), none, .ext 1 (.t 42)⟩, ⟨(some 8), none, .mv (.t 45)⟩, ⟨(some 9), none, .mv (.t 46)⟩])
  (.seq (.seq (.region [⟨(some 47), none, .mv (.t 9)⟩, ⟨(some 48), none, .un .not (.t 47)⟩])
  (.cond (.t 48)
    (.seq (.region [⟨(some 2), none, .mv (.c (.str []))⟩, ⟨(some 3), none, .mv (.c (.str []))⟩, ⟨(some 4), none, .mv (.c (.bool false))⟩, ⟨(some 5), none, .mv (.c (.bool false))⟩])
    .ret)
    .skip))
  (.seq (.region [⟨(some 49), none, .mv (.t 0)⟩, ⟨(some 50), none, .mv (.t 6)⟩, ⟨(some 51), none, .slstr (.t 49) none (some (.t 50))⟩, ⟨(some 52), none, .mv (.t 8)⟩, ⟨(some 2), none, .mv (.t 51)⟩, ⟨(some 3), none, .mv (.t 52)⟩, ⟨(some 4), none, .mv (.c (.bool true))⟩, ⟨(some 5), none, .mv (.c (.bool true))⟩])
  .ret))))))))))⟩
/-- gatepost/token.Quote -/
def c_token_Quote : FnC := ⟨12, [.tmp 2, .tmp 3],
  (.seq (.region [⟨(some 2), none, .mv (.c (.str []))⟩, ⟨(some 3), none, .mv (.c (.bool false))⟩])
  (.seq (.seq (.region [⟨(some 4), none, .mv (.t 0)⟩, ⟨(some 5), none, .call i_token_all [(.t 4), (.c (.fn i_token_inQuotes []))]⟩, ⟨(some 6), none, .un .not (.t 5)⟩])
  (.cond (.t 6)
    (.seq (.region [⟨(some 2), none, .mv (.c (.str []))⟩, ⟨(some 3), none, .mv (.c (.bool false))⟩])
    .ret)
    .skip))
  (.seq (.region [⟨(some 7), none, .mv (.t 0)⟩, ⟨(some 8), none, .call i_strings_ReplaceAll [(.t 7), (.c (.str [92])), (.c (.str [92, 92]))]⟩, ⟨(some 9), none, .call i_strings_ReplaceAll [(.t 8), (.c (.str [34])), (.c (.str [92, 34]))]⟩, ⟨(some 10), none, .bin .add (.c (.str [34])) (.t 9)⟩, ⟨(some 11), none, .bin .add (.t 10) (.c (.str [34]))⟩, ⟨(some 2), none, .mv (.t 11)⟩, ⟨(some 3), none, .mv (.c (.bool true))⟩])
  .ret)))⟩
/-- gatepost/gatepostref01.Quote -/
def c_gatepostref01_Quote : FnC := ⟨39, [.tmp 2, .tmp 3],
  (.seq (.region [⟨(some 2), none, .mv (.c (.str []))⟩, ⟨(some 3), none, .mv (.c (.bool false))⟩])
  (.seq (.region [⟨(some 4), none, .mv (.c (.str []))⟩])
  (.seq (.seq (.region [⟨(some 5), none, .mv (.c (.int .i64 0))⟩])
  (.block 0 (.loop
    (.seq (.seq (.region [⟨(some 6), none, .mv (.t 5)⟩, ⟨(some 7), none, .mv (.t 0)⟩, ⟨(some 8), none, .len 0 (.t 7)⟩, ⟨(some 9), none, .bin .lss (.t 6) (.t 8)⟩])
    (.cond (.t 9)
      .skip
      (.exit 0)))
    (.seq (.block 1 (.seq (.seq (.region [⟨(some 12), none, .mv (.t 0)⟩, ⟨(some 13), none, .mv (.t 5)⟩, ⟨(some 14), none, .ixStr (.t 12) (.t 13)⟩, ⟨(some 15), none, .call i_gatepostref01_text [(.t 14)]⟩, ⟨(some 16), none, .un .not (.t 15)⟩])
    (.cond (.t 16)
      (.seq (.region [⟨(some 2), none, .mv (.c (.str []))⟩, ⟨(some 3), none, .mv (.c (.bool false))⟩])
      .ret)
      .skip))
    (.seq (.seq (.region [⟨(some 17), none, .mv (.t 0)⟩, ⟨(some 18), none, .mv (.t 5)⟩, ⟨(some 19), none, .ixStr (.t 17) (.t 18)⟩, ⟨(some 20), none, .bin .eql (.t 19) (.c (.int .u8 34))⟩, ⟨(some 21), none, .mv (.t 20)⟩, ⟨(some 22), (some (21, false)), .mv (.t 0)⟩, ⟨(some 23), (some (21, false)), .mv (.t 5)⟩, ⟨(some 24), (some (21, false)), .ixStr (.t 22) (.t 23)⟩, ⟨(some 25), (some (21, false)), .bin .eql (.t 24) (.c (.int .u8 92))⟩, ⟨(some 26), none, .pick (.t 21) (.c (.bool true)) (.t 25)⟩])
    (.cond (.t 26)
      (.region [⟨(some 27), none, .mv (.t 4)⟩, ⟨(some 28), none, .bin .add (.t 27) (.c (.str [92]))⟩, ⟨(some 4), none, .mv (.t 28)⟩])
      .skip))
    (.region [⟨(some 29), none, .mv (.t 4)⟩, ⟨(some 30), none, .mv (.t 0)⟩, ⟨(some 31), none, .mv (.t 5)⟩, ⟨(some 32), none, .mv (.t 5)⟩, ⟨(some 33), none, .bin .add (.t 32) (.c (.int .i64 1))⟩, ⟨(some 34), none, .slstr (.t 30) (some (.t 31)) (some (.t 33))⟩, ⟨(some 35), none, .bin .add (.t 29) (.t 34)⟩, ⟨(some 4), none, .mv (.t 35)⟩]))))
    (.region [⟨(some 10), none, .mv (.t 5)⟩, ⟨(some 11), none, .bin .add (.t 10) (.c (.int .i64 1))⟩, ⟨(some 5), none, .mv (.t 11)⟩]))))))
  (.seq (.region [⟨(some 36), none, .mv (.t 4)⟩, ⟨(some 37), none, .bin .add (.c (.str [34])) (.t 36)⟩, ⟨(some 38), none, .bin .add (.t 37) (.c (.str [34]))⟩, ⟨(some 2), none, .mv (.t 38)⟩, ⟨(some 3), none, .mv (.c (.bool true))⟩])
  .ret))))⟩
/-- strings.Trim -/
def c_strings_Trim : FnC := ⟨43, [.tmp 4],
  (.seq (.region [⟨(some 4), none, .mv (.c (.str []))⟩])
  (.seq (.seq (.region [⟨(some 7), none, .mv (.t 0)⟩, ⟨(some 8), none, .bin .eql (.t 7) (.c (.str []))⟩, ⟨(some 9), none, .mv (.t 8)⟩, ⟨(some 10), (some (9, false)), .mv (.t 1)⟩, ⟨(some 11), (some (9, false)), .bin .eql (.t 10) (.c (.str []))⟩, ⟨(some 12), none, .pick (.t 9) (.c (.bool true)) (.t 11)⟩])
  (.cond (.t 12)
    (.seq (.region [⟨(some 13), none, .mv (.t 0)⟩, ⟨(some 4), none, .mv (.t 13)⟩])
    .ret)
    .skip))
  (.seq (.seq (.region [⟨(some 14), none, .mv (.t 1)⟩, ⟨(some 15), none, .len 0 (.t 14)⟩, ⟨(some 16), none, .bin .eql (.t 15) (.c (.int .i64 1))⟩, ⟨(some 17), none, .mv (.t 16)⟩, ⟨(some 18), (some (17, true)), .mv (.t 1)⟩, ⟨(some 19), (some (17, true)), .ixStr (.t 18) (.c (.int .i64 0))⟩, ⟨(some 20), (some (17, true)), .bin .lss (.t 19) (.c (.int .u8 128))⟩, ⟨(some 21), none, .pick (.t 17) (.t 20) (.c (.bool false))⟩])
  (.cond (.t 21)
    (.seq (.dregion [⟨(some 22), none, .mv (.t 0)⟩, ⟨(some 23), none, .mv (.t 1)⟩, ⟨(some 24), none, .ixStr (.t 23) (.c (.int .i64 0))⟩, ⟨(some 25), none, .call i_strings_trimRightByte [(.t 22), (.t 24)]⟩, ⟨(some 26), none, .mv (.t 1)⟩, ⟨(some 27), none, .ixStr (.t 26) (.c (.int .i64 0))⟩] [⟨(some 28), none, .call i_strings_trimLeftByte [(.t 25), (.t 27)]⟩, ⟨(some 4), none, .mv (.t 28)⟩])
    .ret)
    .skip))
  (.seq (.seq (.region [⟨(some 30), none, .mv (.t 1)⟩, ⟨(some 31), none, .call i_strings_makeASCIISet [(.t 30)]⟩, ⟨(some 29), none, .mv (.t 31)⟩, ⟨(some 32), none, .ext 0 (.t 29)⟩, ⟨(some 33), none, .ext 1 (.t 29)⟩, ⟨(some 5), none, .boxz (List.replicate 256 (.bool false))⟩, ⟨none, none, .store 256 (.t 5) (.t 32)⟩, ⟨(some 6), none, .mv (.t 33)⟩])
  (.seq (.region [⟨(some 34), none, .mv (.t 6)⟩])
  (.cond (.t 34)
    (.seq (.region [⟨(some 35), none, .mv (.t 0)⟩, ⟨(some 36), none, .call i_strings_trimRightASCII [(.t 35), (.t 5)]⟩, ⟨(some 37), none, .call i_strings_trimLeftASCII [(.t 36), (.t 5)]⟩, ⟨(some 4), none, .mv (.t 37)⟩])
    .ret)
    .skip)))
  (.seq (.region [⟨(some 38), none, .mv (.t 0)⟩, ⟨(some 39), none, .mv (.t 1)⟩, ⟨(some 40), none, .call i_strings_trimRightUnicode [(.t 38), (.t 39)]⟩, ⟨(some 41), none, .mv (.t 1)⟩, ⟨(some 42), none, .call i_strings_trimLeftUnicode [(.t 40), (.t 41)]⟩, ⟨(some 4), none, .mv (.t 42)⟩])
  .ret)))))⟩
/-- gatepost/token.Split$1 -/
def c_token_Split_1 : FnC := ⟨19, [],
  (.seq (.seq (.region [⟨(some 6), none, .load false 1 (.t 1)⟩, ⟨(some 7), none, .load false 1 (.t 2)⟩, ⟨(some 8), none, .mv (.t 0)⟩, ⟨(some 9), none, .slstr (.t 6) (some (.t 7)) (some (.t 8))⟩, ⟨(some 10), none, .call i_token_Trim [(.t 9)]⟩, ⟨(some 5), none, .mv (.t 10)⟩])
  (.seq (.region [⟨(some 11), none, .mv (.t 5)⟩, ⟨(some 12), none, .bin .neq (.t 11) (.c (.str []))⟩])
  (.cond (.t 12)
    (.region [⟨(some 13), none, .load false 1 (.t 3)⟩, ⟨(some 14), none, .mv (.t 5)⟩, ⟨(some 15), none, .bsl 1 [(.t 14)]⟩, ⟨(some 16), none, .app 1 16 false (.t 13) (.t 15)⟩, ⟨none, none, .store 1 (.t 3) (.t 16)⟩])
    .skip)))
  (.region [⟨(some 17), none, .mv (.t 0)⟩, ⟨(some 18), none, .bin .add (.t 17) (.c (.int .i64 1))⟩, ⟨none, none, .store 1 (.t 2) (.t 18)⟩]))⟩
/-- gatepost/token.all -/
def c_token_all : FnC := ⟨18, [.tmp 4],
  (.seq (.region [⟨(some 4), none, .mv (.c (.bool false))⟩])
  (.seq (.seq (.region [⟨(some 6), none, .mv (.t 0)⟩, ⟨(some 7), none, .len 0 (.t 6)⟩, ⟨(some 8), none, .mv (.c (.int .i64 0))⟩])
  (.block 0 (.loop
    (.seq (.region [⟨(some 9), none, .bin .lss (.t 8) (.t 7)⟩])
    (.seq (.cond (.t 9)
      .skip
      (.exit 0))
    (.seq (.block 1 (.seq (.region [⟨(some 10), none, .mv (.t 8)⟩, ⟨(some 5), none, .mv (.t 10)⟩])
    (.seq (.region [⟨(some 11), none, .mv (.t 1)⟩, ⟨(some 12), none, .mv (.t 0)⟩, ⟨(some 13), none, .mv (.t 5)⟩, ⟨(some 14), none, .ixStr (.t 12) (.t 13)⟩, ⟨(some 15), none, .callv (.t 11) [(.t 14)]⟩, ⟨(some 16), none, .un .not (.t 15)⟩])
    (.cond (.t 16)
      (.seq (.region [⟨(some 4), none, .mv (.c (.bool false))⟩])
      .ret)
      .skip))))
    (.region [⟨(some 17), none, .bin .add (.t 8) (.c (.int .i64 1))⟩, ⟨(some 8), none, .mv (.t 17)⟩])))))))
  (.seq (.region [⟨(some 4), none, .mv (.c (.bool true))⟩])
  .ret)))⟩
/-- gatepost/token.inToken -/
def c_token_inToken : FnC := ⟨30, [.tmp 2],
  (.seq (.region [⟨(some 2), none, .mv (.c (.bool false))⟩])
  (.seq (.seq (.region [⟨(some 6), none, .mv (.t 0)⟩, ⟨(some 7), none, .bin .or (.t 6) (.c (.int .u8 32))⟩, ⟨(some 3), none, .mv (.t 7)⟩])
  (.seq (.region [⟨(some 8), none, .mv (.t 3)⟩, ⟨(some 9), none, .bin .geq (.t 8) (.c (.int .u8 97))⟩, ⟨(some 10), none, .mv (.t 9)⟩, ⟨(some 11), (some (10, true)), .mv (.t 3)⟩, ⟨(some 12), (some (10, true)), .bin .leq (.t 11) (.c (.int .u8 122))⟩, ⟨(some 13), none, .pick (.t 10) (.t 12) (.c (.bool false))⟩, ⟨(some 14), none, .mv (.t 13)⟩, ⟨(some 15), (some (14, false)), .mv (.t 0)⟩, ⟨(some 16), (some (14, false)), .bin .geq (.t 15) (.c (.int .u8 48))⟩, ⟨(some 17), (some (14, false)), .mv (.t 16)⟩, ⟨(some 18), (some (17, true)), .mv (.t 0)⟩, ⟨(some 19), (some (17, true)), .bin .leq (.t 18) (.c (.int .u8 57))⟩, ⟨(some 20), (some (14, false)), .pick (.t 17) (.t 19) (.c (.bool false))⟩, ⟨(some 21), none, .pick (.t 14) (.c (.bool true)) (.t 20)⟩])
  (.cond (.t 21)
    (.seq (.region [⟨(some 2), none, .mv (.c (.bool true))⟩])
    .ret)
    .skip)))
  (.seq (.seq (.region [⟨(some 22), none, .call i_token_marks []⟩, ⟨(some 23), none, .mv (.c (.int .i64 0))⟩])
  (.block 0 (.loop
    (.seq (.region [⟨(some 24), none, .bin .lss (.t 23) (.c (.int .i64 15))⟩])
    (.seq (.cond (.t 24)
      .skip
      (.exit 0))
    (.seq (.block 1 (.seq (.region [⟨(some 25), none, .ixArr 15 1 false (.t 22) (.t 23)⟩, ⟨(some 5), none, .mv (.t 25)⟩])
    (.seq (.region [⟨(some 26), none, .mv (.t 5)⟩, ⟨(some 27), none, .mv (.t 0)⟩, ⟨(some 28), none, .bin .eql (.t 26) (.t 27)⟩])
    (.cond (.t 28)
      (.seq (.region [⟨(some 2), none, .mv (.c (.bool true))⟩])
      .ret)
      .skip))))
    (.region [⟨(some 29), none, .bin .add (.t 23) (.c (.int .i64 1))⟩, ⟨(some 23), none, .mv (.t 29)⟩])))))))
  (.seq (.region [⟨(some 2), none, .mv (.c (.bool false))⟩])
  .ret))))⟩
/-- gatepost/gatepostref01.tchar -/
def c_gatepostref01_tchar : FnC := ⟨42, [.tmp 2],
  (.seq (.region [⟨(some 2), none, .mv (.c (.bool false))⟩])
  (.seq (.seq (.region [⟨(some 3), none, .mv (.t 0)⟩, ⟨(some 4), none, .bin .geq (.t 3) (.c (.int .u8 97))⟩, ⟨(some 5), none, .mv (.t 4)⟩, ⟨(some 6), (some (5, true)), .mv (.t 0)⟩, ⟨(some 7), (some (5, true)), .bin .leq (.t 6) (.c (.int .u8 122))⟩, ⟨(some 8), none, .pick (.t 5) (.t 7) (.c (.bool false))⟩, ⟨(some 9), none, .mv (.t 8)⟩, ⟨(some 10), (some (9, false)), .mv (.t 0)⟩, ⟨(some 11), (some (9, false)), .bin .geq (.t 10) (.c (.int .u8 65))⟩, ⟨(some 12), (some (9, false)), .mv (.t 11)⟩, ⟨(some 13), (some (12, true)), .mv (.t 0)⟩, ⟨(some 14), (some (12, true)), .bin .leq (.t 13) (.c (.int .u8 90))⟩, ⟨(some 15), (some (9, false)), .pick (.t 12) (.t 14) (.c (.bool false))⟩, ⟨(some 16), none, .pick (.t 9) (.c (.bool true)) (.t 15)⟩, ⟨(some 17), none, .mv (.t 16)⟩, ⟨(some 18), (some (17, false)), .mv (.t 0)⟩, ⟨(some 19), (some (17, false)), .bin .geq (.t 18) (.c (.int .u8 48))⟩, ⟨(some 20), (some (17, false)), .mv (.t 19)⟩, ⟨(some 21), (some (20, true)), .mv (.t 0)⟩, ⟨(some 22), (some (20, true)), .bin .leq (.t 21) (.c (.int .u8 57))⟩, ⟨(some 23), (some (17, false)), .pick (.t 20) (.t 22) (.c (.bool false))⟩, ⟨(some 24), none, .pick (.t 17) (.c (.bool true)) (.t 23)⟩])
  (.cond (.t 24)
    (.seq (.region [⟨(some 2), none, .mv (.c (.bool true))⟩])
    .ret)
    .skip))
  (.seq (.seq (.region [⟨(some 25), none, .mv (.t 0)⟩])
  (.block 0 (.seq (.seq (.region [⟨(some 27), none, .bin .eql (.t 25) (.c (.int .u8 33))⟩, ⟨(some 26), none, .mv (.t 27)⟩])
  (.cond (.t 26)
    .skip
    (.seq (.region [⟨(some 28), none, .bin .eql (.t 25) (.c (.int .u8 35))⟩, ⟨(some 26), none, .mv (.t 28)⟩])
    (.cond (.t 26)
      .skip
      (.seq (.region [⟨(some 29), none, .bin .eql (.t 25) (.c (.int .u8 36))⟩, ⟨(some 26), none, .mv (.t 29)⟩])
      (.cond (.t 26)
        .skip
        (.seq (.region [⟨(some 30), none, .bin .eql (.t 25) (.c (.int .u8 37))⟩, ⟨(some 26), none, .mv (.t 30)⟩])
        (.cond (.t 26)
          .skip
          (.seq (.region [⟨(some 31), none, .bin .eql (.t 25) (.c (.int .u8 38))⟩, ⟨(some 26), none, .mv (.t 31)⟩])
          (.cond (.t 26)
            .skip
            (.seq (.region [⟨(some 32), none, .bin .eql (.t 25) (.c (.int .u8 39))⟩, ⟨(some 26), none, .mv (.t 32)⟩])
            (.cond (.t 26)
              .skip
              (.seq (.region [⟨(some 33), none, .bin .eql (.t 25) (.c (.int .u8 42))⟩, ⟨(some 26), none, .mv (.t 33)⟩])
              (.cond (.t 26)
                .skip
                (.seq (.region [⟨(some 34), none, .bin .eql (.t 25) (.c (.int .u8 43))⟩, ⟨(some 26), none, .mv (.t 34)⟩])
                (.cond (.t 26)
                  .skip
                  (.seq (.region [⟨(some 35), none, .bin .eql (.t 25) (.c (.int .u8 45))⟩, ⟨(some 26), none, .mv (.t 35)⟩])
                  (.cond (.t 26)
                    .skip
                    (.seq (.region [⟨(some 36), none, .bin .eql (.t 25) (.c (.int .u8 46))⟩, ⟨(some 26), none, .mv (.t 36)⟩])
                    (.cond (.t 26)
                      .skip
                      (.seq (.region [⟨(some 37), none, .bin .eql (.t 25) (.c (.int .u8 94))⟩, ⟨(some 26), none, .mv (.t 37)⟩])
                      (.cond (.t 26)
                        .skip
                        (.seq (.region [⟨(some 38), none, .bin .eql (.t 25) (.c (.int .u8 95))⟩, ⟨(some 26), none, .mv (.t 38)⟩])
                        (.cond (.t 26)
                          .skip
                          (.seq (.region [⟨(some 39), none, .bin .eql (.t 25) (.c (.int .u8 96))⟩, ⟨(some 26), none, .mv (.t 39)⟩])
                          (.cond (.t 26)
                            .skip
                            (.seq (.region [⟨(some 40), none, .bin .eql (.t 25) (.c (.int .u8 124))⟩, ⟨(some 26), none, .mv (.t 40)⟩])
                            (.cond (.t 26)
                              .skip
                              (.region [⟨(some 41), none, .bin .eql (.t 25) (.c (.int .u8 126))⟩, ⟨(some 26), none, .mv (.t 41)⟩])))))))))))))))))))))))))))))
  (.cond (.t 26)
    (.seq (.region [⟨(some 2), none, .mv (.c (.bool true))⟩])
    .ret)
    .skip))))
  (.seq (.region [⟨(some 2), none, .mv (.c (.bool false))⟩])
  .ret))))⟩
/-- gatepost/token.Value$1 -/
def c_token_Value_1 : FnC := ⟨13, [.tmp 2],
  (.seq (.region [⟨(some 2), none, .mv (.c (.bool false))⟩])
  (.seq (.region [⟨(some 3), none, .mv (.t 0)⟩, ⟨(some 4), none, .call i_token_isBlank [(.t 3)]⟩, ⟨(some 5), none, .mv (.t 4)⟩, ⟨(some 6), (some (5, false)), .mv (.t 0)⟩, ⟨(some 7), (some (5, false)), .bin .gtr (.t 6) (.c (.int .u8 32))⟩, ⟨(some 8), (some (5, false)), .mv (.t 7)⟩, ⟨(some 9), (some (8, true)), .mv (.t 0)⟩, ⟨(some 10), (some (8, true)), .bin .neq (.t 9) (.c (.int .u8 127))⟩, ⟨(some 11), (some (5, false)), .pick (.t 8) (.t 10) (.c (.bool false))⟩, ⟨(some 12), none, .pick (.t 5) (.c (.bool true)) (.t 11)⟩, ⟨(some 2), none, .mv (.t 12)⟩])
  .ret))⟩
/-- gatepost/token.isBlank -/
def c_token_isBlank : FnC := ⟨9, [.tmp 2],
  (.seq (.region [⟨(some 2), none, .mv (.c (.bool false))⟩])
  (.seq (.region [⟨(some 3), none, .mv (.t 0)⟩, ⟨(some 4), none, .bin .eql (.t 3) (.c (.int .u8 32))⟩, ⟨(some 5), none, .mv (.t 4)⟩, ⟨(some 6), (some (5, false)), .mv (.t 0)⟩, ⟨(some 7), (some (5, false)), .bin .eql (.t 6) (.c (.int .u8 9))⟩, ⟨(some 8), none, .pick (.t 5) (.c (.bool true)) (.t 7)⟩, ⟨(some 2), none, .mv (.t 8)⟩])
  .ret))⟩
/-- gatepost/gatepostref01.blank -/
def c_gatepostref01_blank : FnC := ⟨9, [.tmp 2],
  (.seq (.region [⟨(some 2), none, .mv (.c (.bool false))⟩])
  (.seq (.region [⟨(some 3), none, .mv (.t 0)⟩, ⟨(some 4), none, .bin .eql (.t 3) (.c (.int .u8 32))⟩, ⟨(some 5), none, .mv (.t 4)⟩, ⟨(some 6), (some (5, false)), .mv (.t 0)⟩, ⟨(some 7), (some (5, false)), .bin .eql (.t 6) (.c (.int .u8 9))⟩, ⟨(some 8), none, .pick (.t 5) (.c (.bool true)) (.t 7)⟩, ⟨(some 2), none, .mv (.t 8)⟩])
  .ret))⟩
/-- strings.Cut -/
def c_strings_Cut : FnC := ⟨13, [.tmp 4, .tmp 5, .tmp 6],
  (.seq (.region [⟨(some 4), none, .mv (.c (.str []))⟩, ⟨(some 5), none, .mv (.c (.str []))⟩, ⟨(some 6), none, .mv (.c (.bool false))⟩])
  (.seq (.region [⟨(some 7), none, .mv (.t 0)⟩, ⟨(some 8), none, .mv (.t 1)⟩, ⟨(some 9), none, .call i_internal_stringslite_Cut [(.t 7), (.t 8)]⟩, ⟨(some 10), none, .ext 0 (.t 9)⟩, ⟨(some 11), none, .ext 1 (.t 9)⟩, ⟨(some 12), none, .ext 2 (.t 9)⟩, ⟨(some 4), none, .mv (.t 10)⟩, ⟨(some 5), none, .mv (.t 11)⟩, ⟨(some 6), none, .mv (.t 12)⟩])
  .ret))⟩
/-- gatepost/token.unquote -/
def c_token_unquote : FnC := ⟨49, [.tmp 2, .tmp 3],
  (.seq (.region [⟨(some 2), none, .mv (.c (.str []))⟩, ⟨(some 3), none, .mv (.c (.bool false))⟩])
  (.seq (.region [⟨(some 10), none, .mv (.t 0)⟩, ⟨(some 11), none, .call i_strings_CutPrefix [(.t 10), (.c (.str [34]))]⟩, ⟨(some 9), none, .mv (.t 11)⟩, ⟨(some 12), none, .ext 0 (.t 9)⟩, ⟨(some 13), none, .ext 1 (.t 9)⟩, ⟨(some 4), none, .mv (.t 12)⟩, ⟨(some 5), none, .mv (.t 13)⟩])
  (.seq (.region [⟨(some 6), none, .boxz [.nilp, .nsl]⟩])
  (.seq (.seq (.region [⟨(some 7), none, .mv (.c (.int .i64 0))⟩])
  (.block 0 (.loop
    (.seq (.seq (.region [⟨(some 14), none, .mv (.t 5)⟩, ⟨(some 15), none, .mv (.t 14)⟩, ⟨(some 16), (some (15, true)), .mv (.t 7)⟩, ⟨(some 17), (some (15, true)), .mv (.t 4)⟩, ⟨(some 18), (some (15, true)), .len 0 (.t 17)⟩, ⟨(some 19), (some (15, true)), .bin .lss (.t 16) (.t 18)⟩, ⟨(some 20), none, .pick (.t 15) (.t 19) (.c (.bool false))⟩])
    (.cond (.t 20)
      .skip
      (.exit 0)))
    (.seq (.block 1 (.seq (.region [⟨(some 23), none, .mv (.t 4)⟩, ⟨(some 24), none, .mv (.t 7)⟩, ⟨(some 25), none, .ixStr (.t 23) (.t 24)⟩, ⟨(some 8), none, .mv (.t 25)⟩])
    (.seq (.seq (.region [⟨(some 26), none, .mv (.t 8)⟩, ⟨(some 27), none, .bin .eql (.t 26) (.c (.int .u8 34))⟩])
    (.cond (.t 27)
      (.seq (.region [⟨(some 28), none, .call i___strings_Builder__String [(.t 6)]⟩, ⟨(some 29), none, .mv (.t 7)⟩, ⟨(some 30), none, .mv (.t 4)⟩, ⟨(some 31), none, .len 0 (.t 30)⟩, ⟨(some 32), none, .bin .sub (.t 31) (.c (.int .i64 1))⟩, ⟨(some 33), none, .bin .eql (.t 29) (.t 32)⟩, ⟨(some 2), none, .mv (.t 28)⟩, ⟨(some 3), none, .mv (.t 33)⟩])
      .ret)
      .skip))
    (.seq (.seq (.region [⟨(some 34), none, .mv (.t 8)⟩, ⟨(some 35), none, .bin .eql (.t 34) (.c (.int .u8 92))⟩])
    (.cond (.t 35)
      (.seq (.seq (.region [⟨(some 36), none, .mv (.t 7)⟩, ⟨(some 37), none, .bin .add (.t 36) (.c (.int .i64 1))⟩, ⟨(some 7), none, .mv (.t 37)⟩])
      (.seq (.region [⟨(some 38), none, .mv (.t 7)⟩, ⟨(some 39), none, .mv (.t 4)⟩, ⟨(some 40), none, .len 0 (.t 39)⟩, ⟨(some 41), none, .bin .eql (.t 38) (.t 40)⟩])
      (.cond (.t 41)
        (.exit 0)
        .skip)))
      (.region [⟨(some 42), none, .mv (.t 4)⟩, ⟨(some 43), none, .mv (.t 7)⟩, ⟨(some 44), none, .ixStr (.t 42) (.t 43)⟩, ⟨(some 8), none, .mv (.t 44)⟩]))
      .skip))
    (.seq (.region [⟨(some 45), none, .mv (.t 8)⟩, ⟨(some 46), none, .call i_token_inQuotes [(.t 45)]⟩, ⟨(some 5), none, .mv (.t 46)⟩])
    (.region [⟨(some 47), none, .mv (.t 8)⟩, ⟨(some 48), none, .call i___strings_Builder__WriteByte [(.t 6), (.t 47)]⟩]))))))
    (.region [⟨(some 21), none, .mv (.t 7)⟩, ⟨(some 22), none, .bin .add (.t 21) (.c (.int .i64 1))⟩, ⟨(some 7), none, .mv (.t 22)⟩]))))))
  (.seq (.region [⟨(some 2), none, .mv (.c (.str []))⟩, ⟨(some 3), none, .mv (.c (.bool false))⟩])
  .ret)))))⟩
/-- gatepost/gatepostref01.unquote -/
def c_gatepostref01_unquote : FnC := ⟨56, [.tmp 2, .tmp 3],
  (.seq (.region [⟨(some 2), none, .mv (.c (.str []))⟩, ⟨(some 3), none, .mv (.c (.bool false))⟩])
  (.seq (.seq (.region [⟨(some 6), none, .mv (.t 0)⟩, ⟨(some 7), none, .len 0 (.t 6)⟩, ⟨(some 8), none, .bin .lss (.t 7) (.c (.int .i64 2))⟩, ⟨(some 9), none, .mv (.t 8)⟩, ⟨(some 10), (some (9, false)), .mv (.t 0)⟩, ⟨(some 11), (some (9, false)), .ixStr (.t 10) (.c (.int .i64 0))⟩, ⟨(some 12), (some (9, false)), .bin .neq (.t 11) (.c (.int .u8 34))⟩, ⟨(some 13), none, .pick (.t 9) (.c (.bool true)) (.t 12)⟩])
  (.cond (.t 13)
    (.seq (.region [⟨(some 2), none, .mv (.c (.str []))⟩, ⟨(some 3), none, .mv (.c (.bool false))⟩])
    .ret)
    .skip))
  (.seq (.region [⟨(some 4), none, .mv (.c (.str []))⟩])
  (.seq (.region [⟨(some 5), none, .mv (.c (.int .i64 1))⟩])
  (.seq (.block 0 (.loop
    (.seq (.seq (.region [⟨(some 14), none, .mv (.t 5)⟩, ⟨(some 15), none, .mv (.t 0)⟩, ⟨(some 16), none, .len 0 (.t 15)⟩, ⟨(some 17), none, .bin .lss (.t 14) (.t 16)⟩, ⟨(some 18), none, .mv (.t 17)⟩, ⟨(some 19), (some (18, true)), .mv (.t 0)⟩, ⟨(some 20), (some (18, true)), .mv (.t 5)⟩, ⟨(some 21), (some (18, true)), .ixStr (.t 19) (.t 20)⟩, ⟨(some 22), (some (18, true)), .bin .neq (.t 21) (.c (.int .u8 34))⟩, ⟨(some 23), none, .pick (.t 18) (.t 22) (.c (.bool false))⟩])
    (.cond (.t 23)
      .skip
      (.exit 0)))
    (.block 1 (.seq (.seq (.region [⟨(some 24), none, .mv (.t 0)⟩, ⟨(some 25), none, .mv (.t 5)⟩, ⟨(some 26), none, .ixStr (.t 24) (.t 25)⟩, ⟨(some 27), none, .bin .eql (.t 26) (.c (.int .u8 92))⟩])
    (.cond (.t 27)
      (.region [⟨(some 28), none, .mv (.t 5)⟩, ⟨(some 29), none, .bin .add (.t 28) (.c (.int .i64 1))⟩, ⟨(some 5), none, .mv (.t 29)⟩])
      .skip))
    (.seq (.seq (.region [⟨(some 30), none, .mv (.t 5)⟩, ⟨(some 31), none, .mv (.t 0)⟩, ⟨(some 32), none, .len 0 (.t 31)⟩, ⟨(some 33), none, .bin .geq (.t 30) (.t 32)⟩, ⟨(some 34), none, .mv (.t 33)⟩, ⟨(some 35), (some (34, false)), .mv (.t 0)⟩, ⟨(some 36), (some (34, false)), .mv (.t 5)⟩, ⟨(some 37), (some (34, false)), .ixStr (.t 35) (.t 36)⟩, ⟨(some 38), (some (34, false)), .call i_gatepostref01_text [(.t 37)]⟩, ⟨(some 39), (some (34, false)), .un .not (.t 38)⟩, ⟨(some 40), none, .pick (.t 34) (.c (.bool true)) (.t 39)⟩])
    (.cond (.t 40)
      (.seq (.region [⟨(some 2), none, .mv (.c (.str []))⟩, ⟨(some 3), none, .mv (.c (.bool false))⟩])
      .ret)
      .skip))
    (.seq (.region [⟨(some 41), none, .mv (.t 4)⟩, ⟨(some 42), none, .mv (.t 0)⟩, ⟨(some 43), none, .mv (.t 5)⟩, ⟨(some 44), none, .mv (.t 5)⟩, ⟨(some 45), none, .bin .add (.t 44) (.c (.int .i64 1))⟩, ⟨(some 46), none, .slstr (.t 42) (some (.t 43)) (some (.t 45))⟩, ⟨(some 47), none, .bin .add (.t 41) (.t 46)⟩, ⟨(some 4), none, .mv (.t 47)⟩])
    (.region [⟨(some 48), none, .mv (.t 5)⟩, ⟨(some 49), none, .bin .add (.t 48) (.c (.int .i64 1))⟩, ⟨(some 5), none, .mv (.t 49)⟩]))))))))
  (.seq (.region [⟨(some 50), none, .mv (.t 4)⟩, ⟨(some 51), none, .mv (.t 5)⟩, ⟨(some 52), none, .mv (.t 0)⟩, ⟨(some 53), none, .len 0 (.t 52)⟩, ⟨(some 54), none, .bin .sub (.t 53) (.c (.int .i64 1))⟩, ⟨(some 55), none, .bin .eql (.t 51) (.t 54)⟩, ⟨(some 2), none, .mv (.t 50)⟩, ⟨(some 3), none, .mv (.t 55)⟩])
  .ret))))))⟩
/-- gatepost/token.inQuotes -/
def c_token_inQuotes : FnC := ⟨13, [.tmp 2],
  (.seq (.region [⟨(some 2), none, .mv (.c (.bool false))⟩])
  (.seq (.region [⟨(some 3), none, .mv (.t 0)⟩, ⟨(some 4), none, .bin .eql (.t 3) (.c (.int .u8 9))⟩, ⟨(some 5), none, .mv (.t 4)⟩, ⟨(some 6), (some (5, false)), .mv (.t 0)⟩, ⟨(some 7), (some (5, false)), .bin .geq (.t 6) (.c (.int .u8 32))⟩, ⟨(some 8), (some (5, false)), .mv (.t 7)⟩, ⟨(some 9), (some (8, true)), .mv (.t 0)⟩, ⟨(some 10), (some (8, true)), .bin .neq (.t 9) (.c (.int .u8 127))⟩, ⟨(some 11), (some (5, false)), .pick (.t 8) (.t 10) (.c (.bool false))⟩, ⟨(some 12), none, .pick (.t 5) (.c (.bool true)) (.t 11)⟩, ⟨(some 2), none, .mv (.t 12)⟩])
  .ret))⟩
/-- gatepost/gatepostref01.text -/
def c_gatepostref01_text : FnC := ⟨13, [.tmp 2],
  (.seq (.region [⟨(some 2), none, .mv (.c (.bool false))⟩])
  (.seq (.region [⟨(some 3), none, .mv (.t 0)⟩, ⟨(some 4), none, .bin .eql (.t 3) (.c (.int .u8 9))⟩, ⟨(some 5), none, .mv (.t 4)⟩, ⟨(some 6), (some (5, false)), .mv (.t 0)⟩, ⟨(some 7), (some (5, false)), .bin .geq (.t 6) (.c (.int .u8 32))⟩, ⟨(some 8), (some (5, false)), .mv (.t 7)⟩, ⟨(some 9), (some (8, true)), .mv (.t 0)⟩, ⟨(some 10), (some (8, true)), .bin .neq (.t 9) (.c (.int .u8 127))⟩, ⟨(some 11), (some (5, false)), .pick (.t 8) (.t 10) (.c (.bool false))⟩, ⟨(some 12), none, .pick (.t 5) (.c (.bool true)) (.t 11)⟩, ⟨(some 2), none, .mv (.t 12)⟩])
  .ret))⟩
/-- strings.makeASCIISet -/
def c_strings_makeASCIISet : FnC := ⟨21, [.cell 2 true 256, .tmp 3],
  (.seq (.region [⟨(some 2), none, .boxz (List.replicate 256 (.bool false))⟩, ⟨(some 3), none, .mv (.c (.bool false))⟩])
  (.seq (.seq (.region [⟨(some 4), none, .mv (.c (.int .i64 0))⟩])
  (.block 0 (.loop
    (.seq (.seq (.region [⟨(some 6), none, .mv (.t 4)⟩, ⟨(some 7), none, .mv (.t 0)⟩, ⟨(some 8), none, .len 0 (.t 7)⟩, ⟨(some 9), none, .bin .lss (.t 6) (.t 8)⟩])
    (.cond (.t 9)
      .skip
      (.exit 0)))
    (.seq (.block 1 (.seq (.region [⟨(some 12), none, .mv (.t 0)⟩, ⟨(some 13), none, .mv (.t 4)⟩, ⟨(some 14), none, .ixStr (.t 12) (.t 13)⟩, ⟨(some 5), none, .mv (.t 14)⟩])
    (.seq (.seq (.region [⟨(some 15), none, .mv (.t 5)⟩, ⟨(some 16), none, .bin .geq (.t 15) (.c (.int .u8 128))⟩])
    (.cond (.t 16)
      (.seq (.region [⟨(some 17), none, .load true 256 (.t 2)⟩, ⟨none, none, .store 256 (.t 2) (.t 17)⟩, ⟨(some 3), none, .mv (.c (.bool false))⟩])
      .ret)
      .skip))
    (.region [⟨(some 18), none, .mv (.t 5)⟩, ⟨(some 19), none, .ixaArr 256 1 (.t 2) (.t 18)⟩, ⟨none, none, .store 1 (.t 19) (.c (.bool true))⟩]))))
    (.region [⟨(some 10), none, .mv (.t 4)⟩, ⟨(some 11), none, .bin .add (.t 10) (.c (.int .i64 1))⟩, ⟨(some 4), none, .mv (.t 11)⟩]))))))
  (.seq (.region [⟨(some 20), none, .load true 256 (.t 2)⟩, ⟨none, none, .store 256 (.t 2) (.t 20)⟩, ⟨(some 3), none, .mv (.c (.bool true))⟩])
  .ret)))⟩
/-- strings.trimLeftASCII -/
def c_strings_trimLeftASCII : FnC := ⟨16, [.tmp 4],
  (.seq (.region [⟨(some 4), none, .mv (.c (.str []))⟩])
  (.seq (.block 0 (.loop
    (.seq (.seq (.region [⟨(some 5), none, .mv (.t 0)⟩, ⟨(some 6), none, .len 0 (.t 5)⟩, ⟨(some 7), none, .bin .gtr (.t 6) (.c (.int .i64 0))⟩])
    (.cond (.t 7)
      .skip
      (.exit 0)))
    (.block 1 (.seq (.seq (.region [⟨(some 8), none, .mv (.t 1)⟩, ⟨(some 9), none, .mv (.t 0)⟩, ⟨(some 10), none, .ixStr (.t 9) (.c (.int .i64 0))⟩, ⟨(some 11), none, .call i___strings_asciiSet__contains [(.t 8), (.t 10)]⟩, ⟨(some 12), none, .un .not (.t 11)⟩])
    (.cond (.t 12)
      (.exit 0)
      .skip))
    (.region [⟨(some 13), none, .mv (.t 0)⟩, ⟨(some 14), none, .slstr (.t 13) (some (.c (.int .i64 1))) none⟩, ⟨(some 0), none, .mv (.t 14)⟩]))))))
  (.seq (.region [⟨(some 15), none, .mv (.t 0)⟩, ⟨(some 4), none, .mv (.t 15)⟩])
  .ret)))⟩
/-- strings.trimRightASCII -/
def c_strings_trimRightASCII : FnC := ⟨22, [.tmp 4],
  (.seq (.region [⟨(some 4), none, .mv (.c (.str []))⟩])
  (.seq (.block 0 (.loop
    (.seq (.seq (.region [⟨(some 5), none, .mv (.t 0)⟩, ⟨(some 6), none, .len 0 (.t 5)⟩, ⟨(some 7), none, .bin .gtr (.t 6) (.c (.int .i64 0))⟩])
    (.cond (.t 7)
      .skip
      (.exit 0)))
    (.block 1 (.seq (.seq (.region [⟨(some 8), none, .mv (.t 1)⟩, ⟨(some 9), none, .mv (.t 0)⟩, ⟨(some 10), none, .mv (.t 0)⟩, ⟨(some 11), none, .len 0 (.t 10)⟩, ⟨(some 12), none, .bin .sub (.t 11) (.c (.int .i64 1))⟩, ⟨(some 13), none, .ixStr (.t 9) (.t 12)⟩, ⟨(some 14), none, .call i___strings_asciiSet__contains [(.t 8), (.t 13)]⟩, ⟨(some 15), none, .un .not (.t 14)⟩])
    (.cond (.t 15)
      (.exit 0)
      .skip))
    (.region [⟨(some 16), none, .mv (.t 0)⟩, ⟨(some 17), none, .mv (.t 0)⟩, ⟨(some 18), none, .len 0 (.t 17)⟩, ⟨(some 19), none, .bin .sub (.t 18) (.c (.int .i64 1))⟩, ⟨(some 20), none, .slstr (.t 16) none (some (.t 19))⟩, ⟨(some 0), none, .mv (.t 20)⟩]))))))
  (.seq (.region [⟨(some 21), none, .mv (.t 0)⟩, ⟨(some 4), none, .mv (.t 21)⟩])
  .ret)))⟩
/-- gatepost/token.marks -/
def c_token_marks : FnC := ⟨2, [.cell 0 true 15],
  (.seq (.region [⟨(some 0), none, .boxz [(.int .u8 0), (.int .u8 0), (.int .u8 0), (.int .u8 0), (.int .u8 0), (.int .u8 0), (.int .u8 0), (.int .u8 0), (.int .u8 0), (.int .u8 0), (.int .u8 0), (.int .u8 0), (.int .u8 0), (.int .u8 0), (.int .u8 0)]⟩])
  (.seq (.region [⟨(some 1), none, .build [(.int .u8 0), (.int .u8 0), (.int .u8 0), (.int .u8 0), (.int .u8 0), (.int .u8 0), (.int .u8 0), (.int .u8 0), (.int .u8 0), (.int .u8 0), (.int .u8 0), (.int .u8 0), (.int .u8 0), (.int .u8 0), (.int .u8 0)] [(0, 1, (.c (.int .u8 33))), (1, 1, (.c (.int .u8 35))), (2, 1, (.c (.int .u8 36))), (3, 1, (.c (.int .u8 37))), (4, 1, (.c (.int .u8 38))), (5, 1, (.c (.int .u8 39))), (6, 1, (.c (.int .u8 42))), (7, 1, (.c (.int .u8 43))), (8, 1, (.c (.int .u8 45))), (9, 1, (.c (.int .u8 46))), (10, 1, (.c (.int .u8 94))), (11, 1, (.c (.int .u8 95))), (12, 1, (.c (.int .u8 96))), (13, 1, (.c (.int .u8 124))), (14, 1, (.c (.int .u8 126)))]⟩, ⟨none, none, .store 15 (.t 0) (.t 1)⟩])
  .ret))⟩
/-- internal/stringslite.Cut -/
def c_internal_stringslite_Cut : FnC := ⟨23, [.tmp 4, .tmp 5, .tmp 6],
  (.seq (.region [⟨(some 4), none, .mv (.c (.str []))⟩, ⟨(some 5), none, .mv (.c (.str []))⟩, ⟨(some 6), none, .mv (.c (.bool false))⟩])
  (.seq (.seq (.region [⟨(some 8), none, .mv (.t 0)⟩, ⟨(some 9), none, .mv (.t 1)⟩, ⟨(some 10), none, .call i_internal_stringslite_Index [(.t 8), (.t 9)]⟩, ⟨(some 7), none, .mv (.t 10)⟩])
  (.seq (.region [⟨(some 11), none, .mv (.t 7)⟩, ⟨(some 12), none, .bin .geq (.t 11) (.c (.int .i64 0))⟩])
  (.cond (.t 12)
    (.seq (.dregion [⟨(some 13), none, .mv (.t 0)⟩, ⟨(some 14), none, .mv (.t 7)⟩, ⟨(some 15), none, .slstr (.t 13) none (some (.t 14))⟩, ⟨(some 16), none, .mv (.t 0)⟩, ⟨(some 17), none, .mv (.t 7)⟩, ⟨(some 18), none, .mv (.t 1)⟩, ⟨(some 19), none, .len 0 (.t 18)⟩, ⟨(some 20), none, .bin .add (.t 17) (.t 19)⟩, ⟨(some 21), none, .slstr (.t 16) (some (.t 20)) none⟩, ⟨(some 4), none, .mv (.t 15)⟩] [⟨(some 5), none, .mv (.t 21)⟩, ⟨(some 6), none, .mv (.c (.bool true))⟩])
    .ret)
    .skip)))
  (.seq (.region [⟨(some 22), none, .mv (.t 0)⟩, ⟨(some 4), none, .mv (.t 22)⟩, ⟨(some 5), none, .mv (.c (.str []))⟩, ⟨(some 6), none, .mv (.c (.bool false))⟩])
  .ret)))⟩
/-- (*strings.asciiSet).contains -/
def c___strings_asciiSet__contains : FnC := ⟨10, [.tmp 4],
  (.seq (.region [⟨(some 4), none, .mv (.c (.bool false))⟩])
  (.seq (.region [⟨(some 5), none, .mv (.t 0)⟩, ⟨(some 6), none, .mv (.t 1)⟩, ⟨(some 7), none, .nilck (.t 5)⟩, ⟨(some 8), none, .ixaArr 256 1 (.t 7) (.t 6)⟩, ⟨(some 9), none, .load false 1 (.t 8)⟩, ⟨(some 4), none, .mv (.t 9)⟩])
  .ret))⟩
def tab : List (FuncId × FnC) := [(i_gatepostlaw01_TokenTrims, c_gatepostlaw01_TokenTrims), (i_gatepostlaw01_TokenSplits, c_gatepostlaw01_TokenSplits), (i_gatepostlaw01_TokenTells, c_gatepostlaw01_TokenTells), (i_gatepostlaw01_TokenPairs, c_gatepostlaw01_TokenPairs), (i_gatepostlaw01_TokenJoins, c_gatepostlaw01_TokenJoins), (i_gatepostlaw01_TokenQuotes, c_gatepostlaw01_TokenQuotes), (i_token_Trim, c_token_Trim), (i_token_Split, c_token_Split), (i_gatepostref01_Split, c_gatepostref01_Split), (i_gatepostlaw01_texts, c_gatepostlaw01_texts), (i_token_Is, c_token_Is), (i_gatepostref01_Is, c_gatepostref01_Is), (i_token_Value, c_token_Value), (i_gatepostref01_Value, c_gatepostref01_Value), (i_token_Lower, c_token_Lower), (i_gatepostref01_Lower, c_gatepostref01_Lower), (i_gatepostref01_Trim, c_gatepostref01_Trim), (i_token_Same, c_token_Same), (i_gatepostref01_Same, c_gatepostref01_Same), (i_token_Pair, c_token_Pair), (i_gatepostref01_Pair, c_gatepostref01_Pair), (i_token_Quote, c_token_Quote), (i_gatepostref01_Quote, c_gatepostref01_Quote), (i_strings_Trim, c_strings_Trim), (i_token_Split_1, c_token_Split_1), (i_token_all, c_token_all), (i_token_inToken, c_token_inToken), (i_gatepostref01_tchar, c_gatepostref01_tchar), (i_token_Value_1, c_token_Value_1), (i_token_isBlank, c_token_isBlank), (i_gatepostref01_blank, c_gatepostref01_blank), (i_strings_Cut, c_strings_Cut), (i_token_unquote, c_token_unquote), (i_gatepostref01_unquote, c_gatepostref01_unquote), (i_token_inQuotes, c_token_inQuotes), (i_gatepostref01_text, c_gatepostref01_text), (i_strings_makeASCIISet, c_strings_makeASCIISet), (i_strings_trimLeftASCII, c_strings_trimLeftASCII), (i_strings_trimRightASCII, c_strings_trimRightASCII), (i_token_marks, c_token_marks), (i_internal_stringslite_Cut, c_internal_stringslite_Cut), (i___strings_asciiSet__contains, c___strings_asciiSet__contains)]
def F (f : FuncId) : Option FnC := tab.lookup f
theorem F_gatepostlaw01_TokenTrims : F i_gatepostlaw01_TokenTrims = some c_gatepostlaw01_TokenTrims := rfl
theorem kc_gatepostlaw01_TokenTrims : compF Tryd.prog i_gatepostlaw01_TokenTrims = some c_gatepostlaw01_TokenTrims := by kernel_rfl
theorem F_gatepostlaw01_TokenSplits : F i_gatepostlaw01_TokenSplits = some c_gatepostlaw01_TokenSplits := rfl
theorem kc_gatepostlaw01_TokenSplits : compF Tryd.prog i_gatepostlaw01_TokenSplits = some c_gatepostlaw01_TokenSplits := by kernel_rfl
theorem F_gatepostlaw01_TokenTells : F i_gatepostlaw01_TokenTells = some c_gatepostlaw01_TokenTells := rfl
theorem kc_gatepostlaw01_TokenTells : compF Tryd.prog i_gatepostlaw01_TokenTells = some c_gatepostlaw01_TokenTells := by kernel_rfl
theorem F_gatepostlaw01_TokenPairs : F i_gatepostlaw01_TokenPairs = some c_gatepostlaw01_TokenPairs := rfl
theorem kc_gatepostlaw01_TokenPairs : compF Tryd.prog i_gatepostlaw01_TokenPairs = some c_gatepostlaw01_TokenPairs := by kernel_rfl
theorem F_gatepostlaw01_TokenJoins : F i_gatepostlaw01_TokenJoins = some c_gatepostlaw01_TokenJoins := rfl
theorem kc_gatepostlaw01_TokenJoins : compF Tryd.prog i_gatepostlaw01_TokenJoins = some c_gatepostlaw01_TokenJoins := by kernel_rfl
theorem F_gatepostlaw01_TokenQuotes : F i_gatepostlaw01_TokenQuotes = some c_gatepostlaw01_TokenQuotes := rfl
theorem kc_gatepostlaw01_TokenQuotes : compF Tryd.prog i_gatepostlaw01_TokenQuotes = some c_gatepostlaw01_TokenQuotes := by kernel_rfl
theorem F_token_Trim : F i_token_Trim = some c_token_Trim := rfl
theorem kc_token_Trim : compF Tryd.prog i_token_Trim = some c_token_Trim := by kernel_rfl
theorem F_token_Split : F i_token_Split = some c_token_Split := rfl
theorem kc_token_Split : compF Tryd.prog i_token_Split = some c_token_Split := by kernel_rfl
theorem F_gatepostref01_Split : F i_gatepostref01_Split = some c_gatepostref01_Split := rfl
theorem kc_gatepostref01_Split : compF Tryd.prog i_gatepostref01_Split = some c_gatepostref01_Split := by kernel_rfl
theorem F_gatepostlaw01_texts : F i_gatepostlaw01_texts = some c_gatepostlaw01_texts := rfl
theorem kc_gatepostlaw01_texts : compF Tryd.prog i_gatepostlaw01_texts = some c_gatepostlaw01_texts := by kernel_rfl
theorem F_token_Is : F i_token_Is = some c_token_Is := rfl
theorem kc_token_Is : compF Tryd.prog i_token_Is = some c_token_Is := by kernel_rfl
theorem F_gatepostref01_Is : F i_gatepostref01_Is = some c_gatepostref01_Is := rfl
theorem kc_gatepostref01_Is : compF Tryd.prog i_gatepostref01_Is = some c_gatepostref01_Is := by kernel_rfl
theorem F_token_Value : F i_token_Value = some c_token_Value := rfl
theorem kc_token_Value : compF Tryd.prog i_token_Value = some c_token_Value := by kernel_rfl
theorem F_gatepostref01_Value : F i_gatepostref01_Value = some c_gatepostref01_Value := rfl
theorem kc_gatepostref01_Value : compF Tryd.prog i_gatepostref01_Value = some c_gatepostref01_Value := by kernel_rfl
theorem F_token_Lower : F i_token_Lower = some c_token_Lower := rfl
theorem kc_token_Lower : compF Tryd.prog i_token_Lower = some c_token_Lower := by kernel_rfl
theorem F_gatepostref01_Lower : F i_gatepostref01_Lower = some c_gatepostref01_Lower := rfl
theorem kc_gatepostref01_Lower : compF Tryd.prog i_gatepostref01_Lower = some c_gatepostref01_Lower := by kernel_rfl
theorem F_gatepostref01_Trim : F i_gatepostref01_Trim = some c_gatepostref01_Trim := rfl
theorem kc_gatepostref01_Trim : compF Tryd.prog i_gatepostref01_Trim = some c_gatepostref01_Trim := by kernel_rfl
theorem F_token_Same : F i_token_Same = some c_token_Same := rfl
theorem kc_token_Same : compF Tryd.prog i_token_Same = some c_token_Same := by kernel_rfl
theorem F_gatepostref01_Same : F i_gatepostref01_Same = some c_gatepostref01_Same := rfl
theorem kc_gatepostref01_Same : compF Tryd.prog i_gatepostref01_Same = some c_gatepostref01_Same := by kernel_rfl
theorem F_token_Pair : F i_token_Pair = some c_token_Pair := rfl
theorem kc_token_Pair : compF Tryd.prog i_token_Pair = some c_token_Pair := by kernel_rfl
theorem F_gatepostref01_Pair : F i_gatepostref01_Pair = some c_gatepostref01_Pair := rfl
theorem kc_gatepostref01_Pair : compF Tryd.prog i_gatepostref01_Pair = some c_gatepostref01_Pair := by kernel_rfl
theorem F_token_Quote : F i_token_Quote = some c_token_Quote := rfl
theorem kc_token_Quote : compF Tryd.prog i_token_Quote = some c_token_Quote := by kernel_rfl
theorem F_gatepostref01_Quote : F i_gatepostref01_Quote = some c_gatepostref01_Quote := rfl
theorem kc_gatepostref01_Quote : compF Tryd.prog i_gatepostref01_Quote = some c_gatepostref01_Quote := by kernel_rfl
theorem F_strings_Trim : F i_strings_Trim = some c_strings_Trim := rfl
theorem kc_strings_Trim : compF Tryd.prog i_strings_Trim = some c_strings_Trim := by kernel_rfl
theorem F_token_Split_1 : F i_token_Split_1 = some c_token_Split_1 := rfl
theorem kc_token_Split_1 : compF Tryd.prog i_token_Split_1 = some c_token_Split_1 := by kernel_rfl
theorem F_token_all : F i_token_all = some c_token_all := rfl
theorem kc_token_all : compF Tryd.prog i_token_all = some c_token_all := by kernel_rfl
theorem F_token_inToken : F i_token_inToken = some c_token_inToken := rfl
theorem kc_token_inToken : compF Tryd.prog i_token_inToken = some c_token_inToken := by kernel_rfl
theorem F_gatepostref01_tchar : F i_gatepostref01_tchar = some c_gatepostref01_tchar := rfl
theorem kc_gatepostref01_tchar : compF Tryd.prog i_gatepostref01_tchar = some c_gatepostref01_tchar := by kernel_rfl
theorem F_token_Value_1 : F i_token_Value_1 = some c_token_Value_1 := rfl
theorem kc_token_Value_1 : compF Tryd.prog i_token_Value_1 = some c_token_Value_1 := by kernel_rfl
theorem F_token_isBlank : F i_token_isBlank = some c_token_isBlank := rfl
theorem kc_token_isBlank : compF Tryd.prog i_token_isBlank = some c_token_isBlank := by kernel_rfl
theorem F_gatepostref01_blank : F i_gatepostref01_blank = some c_gatepostref01_blank := rfl
theorem kc_gatepostref01_blank : compF Tryd.prog i_gatepostref01_blank = some c_gatepostref01_blank := by kernel_rfl
theorem F_strings_Cut : F i_strings_Cut = some c_strings_Cut := rfl
theorem kc_strings_Cut : compF Tryd.prog i_strings_Cut = some c_strings_Cut := by kernel_rfl
theorem F_token_unquote : F i_token_unquote = some c_token_unquote := rfl
theorem kc_token_unquote : compF Tryd.prog i_token_unquote = some c_token_unquote := by kernel_rfl
theorem F_gatepostref01_unquote : F i_gatepostref01_unquote = some c_gatepostref01_unquote := rfl
theorem kc_gatepostref01_unquote : compF Tryd.prog i_gatepostref01_unquote = some c_gatepostref01_unquote := by kernel_rfl
theorem F_token_inQuotes : F i_token_inQuotes = some c_token_inQuotes := rfl
theorem kc_token_inQuotes : compF Tryd.prog i_token_inQuotes = some c_token_inQuotes := by kernel_rfl
theorem F_gatepostref01_text : F i_gatepostref01_text = some c_gatepostref01_text := rfl
theorem kc_gatepostref01_text : compF Tryd.prog i_gatepostref01_text = some c_gatepostref01_text := by kernel_rfl
theorem F_strings_makeASCIISet : F i_strings_makeASCIISet = some c_strings_makeASCIISet := rfl
theorem kc_strings_makeASCIISet : compF Tryd.prog i_strings_makeASCIISet = some c_strings_makeASCIISet := by kernel_rfl
theorem F_strings_trimLeftASCII : F i_strings_trimLeftASCII = some c_strings_trimLeftASCII := rfl
theorem kc_strings_trimLeftASCII : compF Tryd.prog i_strings_trimLeftASCII = some c_strings_trimLeftASCII := by kernel_rfl
theorem F_strings_trimRightASCII : F i_strings_trimRightASCII = some c_strings_trimRightASCII := rfl
theorem kc_strings_trimRightASCII : compF Tryd.prog i_strings_trimRightASCII = some c_strings_trimRightASCII := by kernel_rfl
theorem F_token_marks : F i_token_marks = some c_token_marks := rfl
theorem kc_token_marks : compF Tryd.prog i_token_marks = some c_token_marks := by kernel_rfl
theorem F_internal_stringslite_Cut : F i_internal_stringslite_Cut = some c_internal_stringslite_Cut := rfl
theorem kc_internal_stringslite_Cut : compF Tryd.prog i_internal_stringslite_Cut = some c_internal_stringslite_Cut := by kernel_rfl
theorem F___strings_asciiSet__contains : F i___strings_asciiSet__contains = some c___strings_asciiSet__contains := rfl
theorem kc___strings_asciiSet__contains : compF Tryd.prog i___strings_asciiSet__contains = some c___strings_asciiSet__contains := by kernel_rfl
def k_gatepostlaw01_TokenTrims_3 (L : FuncId → List V → V → Prop) (K : V → Heap → Prop) (v10 : V) (h : Heap) : Prop :=
    (wi F L (.bin .eql (.c v10) (.c (.str []))) E0 h fun v50 h =>
    (wg v50 false (wi F L (.mv (.c v10)) E0 h) h fun v52 h =>
    (wg v50 false (wi F L (.ixStr (.c v52) (.c (.int .i64 0))) E0 h) h fun v53 h =>
    (wg v50 false (wi F L (.bin .neq (.c v53) (.c (.int .u8 32))) E0 h) h fun v54 h =>
    (wg v50 false (wi F L (.mv (.c v54)) E0 h) h fun v55 h =>
    (wg v55 true (wi F L (.mv (.c v10)) E0 h) h fun v56 h =>
    (wg v55 true (wi F L (.ixStr (.c v56) (.c (.int .i64 0))) E0 h) h fun v57 h =>
    (wg v55 true (wi F L (.bin .neq (.c v57) (.c (.int .u8 9))) E0 h) h fun v58 h =>
    (wg v50 false (wi F L (.pick (.c v55) (.c v58) (.c (.bool false))) E0 h) h fun v59 h =>
    (wg v50 false (wi F L (.mv (.c v59)) E0 h) h fun v60 h =>
    (wg v60 true (wi F L (.mv (.c v10)) E0 h) h fun v61 h =>
    (wg v60 true (wi F L (.mv (.c v10)) E0 h) h fun v62 h =>
    (wg v60 true (wi F L (.len 0 (.c v62)) E0 h) h fun v63 h =>
    (wg v60 true (wi F L (.bin .sub (.c v63) (.c (.int .i64 1))) E0 h) h fun v64 h =>
    (wg v60 true (wi F L (.ixStr (.c v61) (.c v64)) E0 h) h fun v65 h =>
    (wg v60 true (wi F L (.bin .neq (.c v65) (.c (.int .u8 32))) E0 h) h fun v66 h =>
    (wg v50 false (wi F L (.pick (.c v60) (.c v66) (.c (.bool false))) E0 h) h fun v67 h =>
    (wg v50 false (wi F L (.mv (.c v67)) E0 h) h fun v68 h =>
    (wg v68 true (wi F L (.mv (.c v10)) E0 h) h fun v69 h =>
    (wg v68 true (wi F L (.mv (.c v10)) E0 h) h fun v70 h =>
    (wg v68 true (wi F L (.len 0 (.c v70)) E0 h) h fun v71 h =>
    (wg v68 true (wi F L (.bin .sub (.c v71) (.c (.int .i64 1))) E0 h) h fun v72 h =>
    (wg v68 true (wi F L (.ixStr (.c v69) (.c v72)) E0 h) h fun v73 h =>
    (wg v68 true (wi F L (.bin .neq (.c v73) (.c (.int .u8 9))) E0 h) h fun v74 h =>
    (wg v50 false (wi F L (.pick (.c v68) (.c v74) (.c (.bool false))) E0 h) h fun v75 h =>
    (wi F L (.pick (.c v50) (.c (.bool true)) (.c v75)) E0 h fun v76 h =>
    (∃ v, some v76 = some v ∧ K v h)))))))))))))))))))))))))))
def k_gatepostlaw01_TokenTrims_2 (L : FuncId → List V → V → Prop) (K : V → Heap → Prop) (v0 v7 : V) (h : Heap) : Prop :=
    (wi F L (.call i_token_Trim [(.c v7)]) E0 h fun v34 h =>
    (wi F L (.call i_token_Trim [(.c v0)]) E0 h fun v37 h =>
    (wi F L (.bin .neq (.c v34) (.c v37)) E0 h fun v38 h =>
    (wg v38 false (wi F L (.mv (.c v34)) E0 h) h fun v40 h =>
    (wg v38 false (wi F L (.call i_token_Trim [(.c v40)]) E0 h) h fun v41 h =>
    (wg v38 false (wi F L (.mv (.c v34)) E0 h) h fun v42 h =>
    (wg v38 false (wi F L (.bin .neq (.c v41) (.c v42)) E0 h) h fun v43 h =>
    (wi F L (.pick (.c v38) (.c (.bool true)) (.c v43)) E0 h fun v44 h =>
    (wg v44 false (wi F L (.call i_token_Trim [(.c (.str [32, 97, 32, 98, 9]))]) E0 h) h fun v46 h =>
    (wg v44 false (wi F L (.bin .neq (.c v46) (.c (.str [97, 32, 98]))) E0 h) h fun v47 h =>
    (wi F L (.pick (.c v44) (.c (.bool true)) (.c v47)) E0 h fun v48 h =>
    (wb v48
    (∃ v, some (.bool false) = some v ∧ K v h)
    (k_gatepostlaw01_TokenTrims_3 L K v34 h)))))))))))))
def k_gatepostlaw01_TokenTrims_5 (L : FuncId → List V → V → Prop) (K : V → Heap → Prop) (N0 : Env → Heap → Prop) (e : Env) (v9 : V) (h : Heap) : Prop :=
    (wi F L (.bin .add (.c v9) (.c (.int .i64 1))) E0 h fun v30 h =>
    (N0 (upd (upd (upd e 29 v9) 30 v30) 9 v30) h))
def k_gatepostlaw01_TokenTrims_4 (L : FuncId → List V → V → Prop) (K : V → Heap → Prop) (N0 : Env → Heap → Prop) (e : Env) (v7 v9 : V) (h : Heap) : Prop :=
    (wi F L (.bin .add (.c v7) (.c (.str [9]))) E0 h fun v32 h =>
    (k_gatepostlaw01_TokenTrims_5 L K N0 (upd (upd (upd e 31 v7) 32 v32) 7 v32) v9 h))
def q_gatepostlaw01_TokenTrims_0 (L : FuncId → List V → V → Prop) (K : V → Heap → Prop) : X → Env → Heap → Prop := (fun x => (seqX (fun e h => k_gatepostlaw01_TokenTrims_2 L K (e 0) (e 7) h) (retX c_gatepostlaw01_TokenTrims.results K)) (X.out 2 x))
def lc_gatepostlaw01_TokenTrims_0 : C :=
  (.seq (.seq (.region [⟨(some 25), none, .mv (.t 9)⟩, ⟨(some 26), none, .mv (.t 2)⟩, ⟨(some 27), none, .bin .and (.t 26) (.c (.int .i64 7))⟩, ⟨(some 28), none, .bin .lss (.t 25) (.t 27)⟩])
  (.cond (.t 28)
    .skip
    (.exit 2)))
  (.seq (.block 3 (.region [⟨(some 31), none, .mv (.t 7)⟩, ⟨(some 32), none, .bin .add (.t 31) (.c (.str [9]))⟩, ⟨(some 7), none, .mv (.t 32)⟩]))
  (.region [⟨(some 29), none, .mv (.t 9)⟩, ⟨(some 30), none, .bin .add (.t 29) (.c (.int .i64 1))⟩, ⟨(some 9), none, .mv (.t 30)⟩])))
def b_gatepostlaw01_TokenTrims_0 (L : FuncId → List V → V → Prop) (K : V → Heap → Prop) (N0 : Env → Heap → Prop) (e : Env) (h : Heap) : Prop :=
    (wi F L (.bin .and (.c (e 2)) (.c (.int .i64 7))) E0 h fun v27 h =>
    (wi F L (.bin .lss (.c (e 9)) (.c v27)) E0 h fun v28 h =>
    (wb v28
    (k_gatepostlaw01_TokenTrims_4 L K N0 (upd (upd (upd (upd e 25 (e 9)) 26 (e 2)) 27 v27) 28 v28) (e 7) (e 9) h)
    (k_gatepostlaw01_TokenTrims_2 L K (e 0) (e 7) h))))
theorem l_gatepostlaw01_TokenTrims_0 {L : FuncId → List V → V → Prop} {K : V → Heap → Prop} (I : Nat → Env → Heap → Prop) (hr : ∀ n e h, I n e h → b_gatepostlaw01_TokenTrims_0 L K (fun e' h' => ∃ m, m < n ∧ I m e' h') e h) {n : Nat} {e : Env} {h : Heap} (hi : I n e h) : Wl F L lc_gatepostlaw01_TokenTrims_0 (q_gatepostlaw01_TokenTrims_0 L K) e h :=
  wloopp (b := b_gatepostlaw01_TokenTrims_0 L K) I (fun _ _ _ => by kernel_rfl) hr hi
def k_gatepostlaw01_TokenTrims_1 (L : FuncId → List V → V → Prop) (K : V → Heap → Prop) (e : Env) (h : Heap) : Prop :=
    (Wl F L lc_gatepostlaw01_TokenTrims_0 (q_gatepostlaw01_TokenTrims_0 L K) (upd e 9 (.int .i64 0)) h)
def k_gatepostlaw01_TokenTrims_7 (L : FuncId → List V → V → Prop) (K : V → Heap → Prop) (N0 : Env → Heap → Prop) (e : Env) (v8 : V) (h : Heap) : Prop :=
    (wi F L (.bin .add (.c v8) (.c (.int .i64 1))) E0 h fun v22 h =>
    (N0 (upd (upd (upd e 21 v8) 22 v22) 8 v22) h))
def k_gatepostlaw01_TokenTrims_6 (L : FuncId → List V → V → Prop) (K : V → Heap → Prop) (N0 : Env → Heap → Prop) (e : Env) (v7 v8 : V) (h : Heap) : Prop :=
    (wi F L (.bin .add (.c (.str [32])) (.c v7)) E0 h fun v24 h =>
    (k_gatepostlaw01_TokenTrims_7 L K N0 (upd (upd (upd e 23 v7) 24 v24) 7 v24) v8 h))
def q_gatepostlaw01_TokenTrims_1 (L : FuncId → List V → V → Prop) (K : V → Heap → Prop) : X → Env → Heap → Prop := (fun x => (seqX (fun e h => k_gatepostlaw01_TokenTrims_1 L K e  h) (retX c_gatepostlaw01_TokenTrims.results K)) (X.out 0 x))
def lc_gatepostlaw01_TokenTrims_1 : C :=
  (.seq (.seq (.region [⟨(some 17), none, .mv (.t 8)⟩, ⟨(some 18), none, .mv (.t 1)⟩, ⟨(some 19), none, .bin .and (.t 18) (.c (.int .i64 7))⟩, ⟨(some 20), none, .bin .lss (.t 17) (.t 19)⟩])
  (.cond (.t 20)
    .skip
    (.exit 0)))
  (.seq (.block 1 (.region [⟨(some 23), none, .mv (.t 7)⟩, ⟨(some 24), none, .bin .add (.c (.str [32])) (.t 23)⟩, ⟨(some 7), none, .mv (.t 24)⟩]))
  (.region [⟨(some 21), none, .mv (.t 8)⟩, ⟨(some 22), none, .bin .add (.t 21) (.c (.int .i64 1))⟩, ⟨(some 8), none, .mv (.t 22)⟩])))
def b_gatepostlaw01_TokenTrims_1 (L : FuncId → List V → V → Prop) (K : V → Heap → Prop) (N0 : Env → Heap → Prop) (e : Env) (h : Heap) : Prop :=
    (wi F L (.bin .and (.c (e 1)) (.c (.int .i64 7))) E0 h fun v19 h =>
    (wi F L (.bin .lss (.c (e 8)) (.c v19)) E0 h fun v20 h =>
    (wb v20
    (k_gatepostlaw01_TokenTrims_6 L K N0 (upd (upd (upd (upd e 17 (e 8)) 18 (e 1)) 19 v19) 20 v20) (e 7) (e 8) h)
    (k_gatepostlaw01_TokenTrims_1 L K (upd (upd (upd (upd e 17 (e 8)) 18 (e 1)) 19 v19) 20 v20)  h))))
theorem l_gatepostlaw01_TokenTrims_1 {L : FuncId → List V → V → Prop} {K : V → Heap → Prop} (I : Nat → Env → Heap → Prop) (hr : ∀ n e h, I n e h → b_gatepostlaw01_TokenTrims_1 L K (fun e' h' => ∃ m, m < n ∧ I m e' h') e h) {n : Nat} {e : Env} {h : Heap} (hi : I n e h) : Wl F L lc_gatepostlaw01_TokenTrims_1 (q_gatepostlaw01_TokenTrims_1 L K) e h :=
  wloopp (b := b_gatepostlaw01_TokenTrims_1 L K) I (fun _ _ _ => by kernel_rfl) hr hi
def k_gatepostlaw01_TokenTrims_0 (L : FuncId → List V → V → Prop) (K : V → Heap → Prop) (e : Env) (v0 : V) (h : Heap) : Prop :=
    (Wl F L lc_gatepostlaw01_TokenTrims_1 (q_gatepostlaw01_TokenTrims_1 L K) (upd (upd (upd e 16 v0) 7 v0) 8 (.int .i64 0)) h)
def p_gatepostlaw01_TokenTrims (L : FuncId → List V → V → Prop) (K : V → Heap → Prop) (a0 a1 a2 : V) (h : Heap) : Prop :=
    (wi F L (.len 0 (.c a0)) E0 h fun v12 h =>
    (wi F L (.bin .gtr (.c v12) (.c (.int .i64 2000))) E0 h fun v13 h =>
    (wb v13
    (wi F L (.slstr (.c a0) none (some (.c (.int .i64 2000)))) E0 h fun v15 h =>
    (k_gatepostlaw01_TokenTrims_0 L K (upd (upd (upd (upd (upd (upd (upd (enterE [a0, a1, a2]) 6 (.bool false)) 11 a0) 12 v12) 13 v13) 14 a0) 15 v15) 0 v15) v15 h))
    (k_gatepostlaw01_TokenTrims_0 L K (upd (upd (upd (upd (enterE [a0, a1, a2]) 6 (.bool false)) 11 a0) 12 v12) 13 v13) a0 h))))
theorem run_gatepostlaw01_TokenTrims {L : FuncId → List V → V → Prop} {K : V → Heap → Prop} {a0 a1 a2 : V} {h : Heap} (hp : p_gatepostlaw01_TokenTrims L K a0 a1 a2 h) : Cf F L i_gatepostlaw01_TokenTrims [a0, a1, a2] h K :=
  wcallp F_gatepostlaw01_TokenTrims (show 3 ≤ 77 by decide) (p := p_gatepostlaw01_TokenTrims L K a0 a1 a2 h) (by kernel_rfl) hp
def k_gatepostlaw01_TokenSplits_0 (L : FuncId → List V → V → Prop) (K : V → Heap → Prop) (v0 : V) (h : Heap) : Prop :=
    (wi F L (.call i_token_Split [(.c v0)]) E0 h fun v14 h =>
    (wi F L (.ext 0 (.c v14)) E0 h fun v15 h =>
    (wi F L (.ext 1 (.c v14)) E0 h fun v16 h =>
    (wi F L (.call i_gatepostref01_Split [(.c v0)]) E0 h fun v19 h =>
    (wi F L (.ext 0 (.c v19)) E0 h fun v20 h =>
    (wi F L (.ext 1 (.c v19)) E0 h fun v21 h =>
    (wi F L (.call i_gatepostlaw01_texts [(.c v15), (.c v20)]) E0 h fun v24 h =>
    (wg v24 true (wi F L (.mv (.c v16)) E0 h) h fun v26 h =>
    (wg v24 true (wi F L (.mv (.c v21)) E0 h) h fun v27 h =>
    (wg v24 true (wi F L (.eq .bool false (.c v26) (.c v27)) E0 h) h fun v28 h =>
    (wi F L (.pick (.c v24) (.c v28) (.c (.bool false))) E0 h fun v29 h =>
    (∃ v, some v29 = some v ∧ K v h))))))))))))
def p_gatepostlaw01_TokenSplits (L : FuncId → List V → V → Prop) (K : V → Heap → Prop) (a0 : V) (h : Heap) : Prop :=
    (wi F L (.len 0 (.c a0)) E0 h fun v8 h =>
    (wi F L (.bin .gtr (.c v8) (.c (.int .i64 3000))) E0 h fun v9 h =>
    (wb v9
    (wi F L (.slstr (.c a0) none (some (.c (.int .i64 3000)))) E0 h fun v11 h =>
    (k_gatepostlaw01_TokenSplits_0 L K v11 h))
    (k_gatepostlaw01_TokenSplits_0 L K a0 h))))
theorem run_gatepostlaw01_TokenSplits {L : FuncId → List V → V → Prop} {K : V → Heap → Prop} {a0 : V} {h : Heap} (hp : p_gatepostlaw01_TokenSplits L K a0 h) : Cf F L i_gatepostlaw01_TokenSplits [a0] h K :=
  wcallp F_gatepostlaw01_TokenSplits (show 1 ≤ 30 by decide) (p := p_gatepostlaw01_TokenSplits L K a0 h) (by kernel_rfl) hp
def k_gatepostlaw01_TokenTells_0 (L : FuncId → List V → V → Prop) (K : V → Heap → Prop) (v0 v1 : V) (h : Heap) : Prop :=
    (wi F L (.call i_token_Is [(.c v0)]) E0 h fun v14 h =>
    (wi F L (.call i_gatepostref01_Is [(.c v0)]) E0 h fun v16 h =>
    (wi F L (.eq .bool false (.c v14) (.c v16)) E0 h fun v17 h =>
    (wg v17 true (wi F L (.mv (.c v0)) E0 h) h fun v19 h =>
    (wg v17 true (wi F L (.call i_token_Value [(.c v19)]) E0 h) h fun v20 h =>
    (wg v17 true (wi F L (.mv (.c v0)) E0 h) h fun v21 h =>
    (wg v17 true (wi F L (.call i_gatepostref01_Value [(.c v21)]) E0 h) h fun v22 h =>
    (wg v17 true (wi F L (.eq .bool false (.c v20) (.c v22)) E0 h) h fun v23 h =>
    (wi F L (.pick (.c v17) (.c v23) (.c (.bool false))) E0 h fun v24 h =>
    (wg v24 true (wi F L (.mv (.c v0)) E0 h) h fun v26 h =>
    (wg v24 true (wi F L (.call i_token_Lower [(.c v26)]) E0 h) h fun v27 h =>
    (wg v24 true (wi F L (.mv (.c v0)) E0 h) h fun v28 h =>
    (wg v24 true (wi F L (.call i_gatepostref01_Lower [(.c v28)]) E0 h) h fun v29 h =>
    (wg v24 true (wi F L (.bin .eql (.c v27) (.c v29)) E0 h) h fun v30 h =>
    (wi F L (.pick (.c v24) (.c v30) (.c (.bool false))) E0 h fun v31 h =>
    (wg v31 true (wi F L (.mv (.c v0)) E0 h) h fun v33 h =>
    (wg v31 true (wi F L (.call i_token_Trim [(.c v33)]) E0 h) h fun v34 h =>
    (wg v31 true (wi F L (.mv (.c v0)) E0 h) h fun v35 h =>
    (wg v31 true (wi F L (.call i_gatepostref01_Trim [(.c v35)]) E0 h) h fun v36 h =>
    (wg v31 true (wi F L (.bin .eql (.c v34) (.c v36)) E0 h) h fun v37 h =>
    (wi F L (.pick (.c v31) (.c v37) (.c (.bool false))) E0 h fun v38 h =>
    (wg v38 true (wi F L (.mv (.c v0)) E0 h) h fun v40 h =>
    (wg v38 true (wi F L (.mv (.c v1)) E0 h) h fun v41 h =>
    (wg v38 true (wi F L (.call i_token_Same [(.c v40), (.c v41)]) E0 h) h fun v42 h =>
    (wg v38 true (wi F L (.mv (.c v0)) E0 h) h fun v43 h =>
    (wg v38 true (wi F L (.mv (.c v1)) E0 h) h fun v44 h =>
    (wg v38 true (wi F L (.call i_gatepostref01_Same [(.c v43), (.c v44)]) E0 h) h fun v45 h =>
    (wg v38 true (wi F L (.eq .bool false (.c v42) (.c v45)) E0 h) h fun v46 h =>
    (wi F L (.pick (.c v38) (.c v46) (.c (.bool false))) E0 h fun v47 h =>
    (∃ v, some v47 = some v ∧ K v h))))))))))))))))))))))))))))))
def p_gatepostlaw01_TokenTells (L : FuncId → List V → V → Prop) (K : V → Heap → Prop) (a0 a1 : V) (h : Heap) : Prop :=
    (wi F L (.len 0 (.c a0)) E0 h fun v6 h =>
    (wi F L (.bin .gtr (.c v6) (.c (.int .i64 3000))) E0 h fun v7 h =>
    (wg v7 false (wi F L (.mv (.c a1)) E0 h) h fun v9 h =>
    (wg v7 false (wi F L (.len 0 (.c v9)) E0 h) h fun v10 h =>
    (wg v7 false (wi F L (.bin .gtr (.c v10) (.c (.int .i64 3000))) E0 h) h fun v11 h =>
    (wi F L (.pick (.c v7) (.c (.bool true)) (.c v11)) E0 h fun v12 h =>
    (wb v12
    (∃ v, some (.bool true) = some v ∧ K v h)
    (k_gatepostlaw01_TokenTells_0 L K a0 a1 h))))))))
theorem run_gatepostlaw01_TokenTells {L : FuncId → List V → V → Prop} {K : V → Heap → Prop} {a0 a1 : V} {h : Heap} (hp : p_gatepostlaw01_TokenTells L K a0 a1 h) : Cf F L i_gatepostlaw01_TokenTells [a0, a1] h K :=
  wcallp F_gatepostlaw01_TokenTells (show 2 ≤ 48 by decide) (p := p_gatepostlaw01_TokenTells L K a0 a1 h) (by kernel_rfl) hp
def k_gatepostlaw01_TokenPairs_0 (L : FuncId → List V → V → Prop) (K : V → Heap → Prop) (v0 : V) (h : Heap) : Prop :=
    (wi F L (.call i_token_Pair [(.c v0)]) E0 h fun v22 h =>
    (wi F L (.ext 0 (.c v22)) E0 h fun v23 h =>
    (wi F L (.ext 1 (.c v22)) E0 h fun v24 h =>
    (wi F L (.ext 2 (.c v22)) E0 h fun v25 h =>
    (wi F L (.ext 3 (.c v22)) E0 h fun v26 h =>
    (wi F L (.call i_gatepostref01_Pair [(.c v0)]) E0 h fun v29 h =>
    (wi F L (.ext 0 (.c v29)) E0 h fun v30 h =>
    (wi F L (.ext 1 (.c v29)) E0 h fun v31 h =>
    (wi F L (.ext 2 (.c v29)) E0 h fun v32 h =>
    (wi F L (.ext 3 (.c v29)) E0 h fun v33 h =>
    (wi F L (.call i_token_Quote [(.c v0)]) E0 h fun v36 h =>
    (wi F L (.ext 0 (.c v36)) E0 h fun v37 h =>
    (wi F L (.ext 1 (.c v36)) E0 h fun v38 h =>
    (wi F L (.call i_gatepostref01_Quote [(.c v0)]) E0 h fun v41 h =>
    (wi F L (.ext 0 (.c v41)) E0 h fun v42 h =>
    (wi F L (.ext 1 (.c v41)) E0 h fun v43 h =>
    (wi F L (.bin .eql (.c v23) (.c v30)) E0 h fun v46 h =>
    (wg v46 true (wi F L (.mv (.c v24)) E0 h) h fun v48 h =>
    (wg v46 true (wi F L (.mv (.c v31)) E0 h) h fun v49 h =>
    (wg v46 true (wi F L (.bin .eql (.c v48) (.c v49)) E0 h) h fun v50 h =>
    (wi F L (.pick (.c v46) (.c v50) (.c (.bool false))) E0 h fun v51 h =>
    (wg v51 true (wi F L (.mv (.c v25)) E0 h) h fun v53 h =>
    (wg v51 true (wi F L (.mv (.c v32)) E0 h) h fun v54 h =>
    (wg v51 true (wi F L (.eq .bool false (.c v53) (.c v54)) E0 h) h fun v55 h =>
    (wi F L (.pick (.c v51) (.c v55) (.c (.bool false))) E0 h fun v56 h =>
    (wg v56 true (wi F L (.mv (.c v26)) E0 h) h fun v58 h =>
    (wg v56 true (wi F L (.mv (.c v33)) E0 h) h fun v59 h =>
    (wg v56 true (wi F L (.eq .bool false (.c v58) (.c v59)) E0 h) h fun v60 h =>
    (wi F L (.pick (.c v56) (.c v60) (.c (.bool false))) E0 h fun v61 h =>
    (wg v61 true (wi F L (.mv (.c v37)) E0 h) h fun v63 h =>
    (wg v61 true (wi F L (.mv (.c v42)) E0 h) h fun v64 h =>
    (wg v61 true (wi F L (.bin .eql (.c v63) (.c v64)) E0 h) h fun v65 h =>
    (wi F L (.pick (.c v61) (.c v65) (.c (.bool false))) E0 h fun v66 h =>
    (wg v66 true (wi F L (.mv (.c v38)) E0 h) h fun v68 h =>
    (wg v66 true (wi F L (.mv (.c v43)) E0 h) h fun v69 h =>
    (wg v66 true (wi F L (.eq .bool false (.c v68) (.c v69)) E0 h) h fun v70 h =>
    (wi F L (.pick (.c v66) (.c v70) (.c (.bool false))) E0 h fun v71 h =>
    (∃ v, some v71 = some v ∧ K v h))))))))))))))))))))))))))))))))))))))
def p_gatepostlaw01_TokenPairs (L : FuncId → List V → V → Prop) (K : V → Heap → Prop) (a0 : V) (h : Heap) : Prop :=
    (wi F L (.len 0 (.c a0)) E0 h fun v16 h =>
    (wi F L (.bin .gtr (.c v16) (.c (.int .i64 3000))) E0 h fun v17 h =>
    (wb v17
    (wi F L (.slstr (.c a0) none (some (.c (.int .i64 3000)))) E0 h fun v19 h =>
    (k_gatepostlaw01_TokenPairs_0 L K v19 h))
    (k_gatepostlaw01_TokenPairs_0 L K a0 h))))
theorem run_gatepostlaw01_TokenPairs {L : FuncId → List V → V → Prop} {K : V → Heap → Prop} {a0 : V} {h : Heap} (hp : p_gatepostlaw01_TokenPairs L K a0 h) : Cf F L i_gatepostlaw01_TokenPairs [a0] h K :=
  wcallp F_gatepostlaw01_TokenPairs (show 1 ≤ 72 by decide) (p := p_gatepostlaw01_TokenPairs L K a0 h) (by kernel_rfl) hp
def k_gatepostlaw01_TokenJoins_1 (L : FuncId → List V → V → Prop) (K : V → Heap → Prop) (v5 v6 : V) (h : Heap) : Prop :=
    (wi F L (.call i_token_Split [(.c v5)]) E0 h fun v73 h =>
    (wi F L (.ext 0 (.c v73)) E0 h fun v74 h =>
    (wi F L (.ext 1 (.c v73)) E0 h fun v75 h =>
    (wg v75 true (wi F L (.mv (.c v74)) E0 h) h fun v78 h =>
    (wg v75 true (wi F L (.mv (.c v6)) E0 h) h fun v79 h =>
    (wg v75 true (wi F L (.call i_gatepostlaw01_texts [(.c v78), (.c v79)]) E0 h) h fun v80 h =>
    (wi F L (.pick (.c v75) (.c v80) (.c (.bool false))) E0 h fun v81 h =>
    (∃ v, some v81 = some v ∧ K v h))))))))
def k_gatepostlaw01_TokenJoins_3 (L : FuncId → List V → V → Prop) (K : V → Heap → Prop) (N0 : Env → Heap → Prop) (e : Env) (v7 : V) (h : Heap) : Prop :=
    (wi F L (.bin .add (.c v7) (.c (.int .i64 1))) E0 h fun v33 h =>
    (N0 (upd (upd (upd e 32 v7) 33 v33) 7 v33) h))
def k_gatepostlaw01_TokenJoins_5 (L : FuncId → List V → V → Prop) (K : V → Heap → Prop) (N0 : Env → Heap → Prop) (e : Env) (v0 v5 v6 v7 : V) (h : Heap) : Prop :=
    (wi F L (.ixaSl 1 (.c v0) (.c v7)) E0 h fun v61 h =>
    (wi F L (.load false 1 (.c v61)) E0 h fun v62 h =>
    (wi F L (.bin .add (.c v5) (.c v62)) E0 h fun v63 h =>
    (wi F L (.ixaSl 1 (.c v0) (.c v7)) E0 h fun v67 h =>
    (wi F L (.load false 1 (.c v67)) E0 h fun v68 h =>
    (wi F L (.bsl 1 [(.c v68)]) E0 h fun v69 h =>
    (wi F L (.app 1 16 false (.c v6) (.c v69)) E0 h fun v70 h =>
    (k_gatepostlaw01_TokenJoins_3 L K N0 (upd (upd (upd (upd (upd (upd (upd (upd (upd (upd (upd (upd (upd (upd (upd e 58 v5) 59 v0) 60 v7) 61 v61) 62 v62) 63 v63) 5 v63) 64 v6) 65 v0) 66 v7) 67 v67) 68 v68) 69 v69) 70 v70) 6 v70) v7 h))))))))
def k_gatepostlaw01_TokenJoins_4 (L : FuncId → List V → V → Prop) (K : V → Heap → Prop) (N0 : Env → Heap → Prop) (e : Env) (v0 v5 v6 v7 : V) (h : Heap) : Prop :=
    (wi F L (.bin .neq (.c v5) (.c (.str []))) E0 h fun v55 h =>
    (wb v55
    (wi F L (.bin .add (.c v5) (.c (.str [32, 44, 9]))) E0 h fun v57 h =>
    (k_gatepostlaw01_TokenJoins_5 L K N0 (upd (upd (upd (upd (upd e 54 v5) 55 v55) 56 v5) 57 v57) 5 v57) v0 v57 v6 v7 h))
    (k_gatepostlaw01_TokenJoins_5 L K N0 (upd (upd e 54 v5) 55 v55) v0 v5 v6 v7 h)))
def k_gatepostlaw01_TokenJoins_2 (L : FuncId → List V → V → Prop) (K : V → Heap → Prop) (N0 : Env → Heap → Prop) (e : Env) (v0 v5 v6 v7 : V) (h : Heap) : Prop :=
    (wi F L (.ixaSl 1 (.c v0) (.c v7)) E0 h fun v37 h =>
    (wi F L (.load false 1 (.c v37)) E0 h fun v38 h =>
    (wi F L (.call i_token_Pair [(.c v38)]) E0 h fun v39 h =>
    (wi F L (.ext 0 (.c v39)) E0 h fun v40 h =>
    (wi F L (.ext 1 (.c v39)) E0 h fun v41 h =>
    (wi F L (.ext 2 (.c v39)) E0 h fun v42 h =>
    (wi F L (.ext 3 (.c v39)) E0 h fun v43 h =>
    (wi F L (.un .not (.c v43)) E0 h fun v45 h =>
    (wg v45 false (wi F L (.mv (.c v0)) E0 h) h fun v47 h =>
    (wg v45 false (wi F L (.mv (.c v7)) E0 h) h fun v48 h =>
    (wg v45 false (wi F L (.ixaSl 1 (.c v47) (.c v48)) E0 h) h fun v49 h =>
    (wg v45 false (wi F L (.load false 1 (.c v49)) E0 h) h fun v50 h =>
    (wg v45 false (wi F L (.len 0 (.c v50)) E0 h) h fun v51 h =>
    (wg v45 false (wi F L (.bin .gtr (.c v51) (.c (.int .i64 500))) E0 h) h fun v52 h =>
    (wi F L (.pick (.c v45) (.c (.bool true)) (.c v52)) E0 h fun v53 h =>
    (wb v53
    (k_gatepostlaw01_TokenJoins_3 L K N0 (upd (upd (upd (upd (upd (upd (upd (upd (upd (upd (upd (upd (upd (upd (upd (upd (upd (upd (upd (upd (upd (upd (upd (upd e 35 v0) 36 v7) 37 v37) 38 v38) 39 v39) 34 v39) 40 v40) 41 v41) 42 v42) 43 v43) 8 v40) 9 v41) 10 v42) 11 v43) 44 v43) 45 v45) 46 v45) 47 v47) 48 v48) 49 v49) 50 v50) 51 v51) 52 v52) 53 v53) v7 h)
    (k_gatepostlaw01_TokenJoins_4 L K N0 (upd (upd (upd (upd (upd (upd (upd (upd (upd (upd (upd (upd (upd (upd (upd (upd (upd (upd (upd (upd (upd (upd (upd (upd e 35 v0) 36 v7) 37 v37) 38 v38) 39 v39) 34 v39) 40 v40) 41 v41) 42 v42) 43 v43) 8 v40) 9 v41) 10 v42) 11 v43) 44 v43) 45 v45) 46 v45) 47 v47) 48 v48) 49 v49) 50 v50) 51 v51) 52 v52) 53 v53) v0 v5 v6 v7 h)))))))))))))))))
def q_gatepostlaw01_TokenJoins_0 (L : FuncId → List V → V → Prop) (K : V → Heap → Prop) : X → Env → Heap → Prop := (fun x => (seqX (fun e h => k_gatepostlaw01_TokenJoins_1 L K (e 5) (e 6) h) (retX c_gatepostlaw01_TokenJoins.results K)) (X.out 0 x))
def lc_gatepostlaw01_TokenJoins_0 : C :=
  (.seq (.seq (.region [⟨(some 24), none, .mv (.t 7)⟩, ⟨(some 25), none, .mv (.t 0)⟩, ⟨(some 26), none, .len 1 (.t 25)⟩, ⟨(some 27), none, .bin .lss (.t 24) (.t 26)⟩, ⟨(some 28), none, .mv (.t 27)⟩, ⟨(some 29), (some (28, true)), .mv (.t 7)⟩, ⟨(some 30), (some (28, true)), .bin .lss (.t 29) (.c (.int .i64 20))⟩, ⟨(some 31), none, .pick (.t 28) (.t 30) (.c (.bool false))⟩])
  (.cond (.t 31)
    .skip
    (.exit 0)))
  (.seq (.block 1 (.seq (.region [⟨(some 35), none, .mv (.t 0)⟩, ⟨(some 36), none, .mv (.t 7)⟩, ⟨(some 37), none, .ixaSl 1 (.t 35) (.t 36)⟩, ⟨(some 38), none, .load false 1 (.t 37)⟩, ⟨(some 39), none, .call i_token_Pair [(.t 38)]⟩, ⟨(some 34), none, .mv (.t 39)⟩, ⟨(some 40), none, .ext 0 (.t 34)⟩, ⟨(some 41), none, .ext 1 (.t 34)⟩, ⟨(some 42), none, .ext 2 (.t 34)⟩, ⟨(some 43), none, .ext 3 (.t 34)⟩, ⟨(some 8), none, .mv (.t 40)⟩, ⟨(some 9), none, .mv (.t 41)⟩, ⟨(some 10), none, .mv (.t 42)⟩, ⟨(some 11), none, .mv (.t 43)⟩])
  (.seq (.seq (.region [⟨(some 44), none, .mv (.t 11)⟩, ⟨(some 45), none, .un .not (.t 44)⟩, ⟨(some 46), none, .mv (.t 45)⟩, ⟨(some 47), (some (46, false)), .mv (.t 0)⟩, ⟨(some 48), (some (46, false)), .mv (.t 7)⟩, ⟨(some 49), (some (46, false)), .ixaSl 1 (.t 47) (.t 48)⟩, ⟨(some 50), (some (46, false)), .load false 1 (.t 49)⟩, ⟨(some 51), (some (46, false)), .len 0 (.t 50)⟩, ⟨(some 52), (some (46, false)), .bin .gtr (.t 51) (.c (.int .i64 500))⟩, ⟨(some 53), none, .pick (.t 46) (.c (.bool true)) (.t 52)⟩])
  (.cond (.t 53)
    (.exit 1)
    .skip))
  (.seq (.seq (.region [⟨(some 54), none, .mv (.t 5)⟩, ⟨(some 55), none, .bin .neq (.t 54) (.c (.str []))⟩])
  (.cond (.t 55)
    (.region [⟨(some 56), none, .mv (.t 5)⟩, ⟨(some 57), none, .bin .add (.t 56) (.c (.str [32, 44, 9]))⟩, ⟨(some 5), none, .mv (.t 57)⟩])
    .skip))
  (.seq (.region [⟨(some 58), none, .mv (.t 5)⟩, ⟨(some 59), none, .mv (.t 0)⟩, ⟨(some 60), none, .mv (.t 7)⟩, ⟨(some 61), none, .ixaSl 1 (.t 59) (.t 60)⟩, ⟨(some 62), none, .load false 1 (.t 61)⟩, ⟨(some 63), none, .bin .add (.t 58) (.t 62)⟩, ⟨(some 5), none, .mv (.t 63)⟩])
  (.region [⟨(some 64), none, .mv (.t 6)⟩, ⟨(some 65), none, .mv (.t 0)⟩, ⟨(some 66), none, .mv (.t 7)⟩, ⟨(some 67), none, .ixaSl 1 (.t 65) (.t 66)⟩, ⟨(some 68), none, .load false 1 (.t 67)⟩, ⟨(some 69), none, .bsl 1 [(.t 68)]⟩, ⟨(some 70), none, .app 1 16 false (.t 64) (.t 69)⟩, ⟨(some 6), none, .mv (.t 70)⟩]))))))
  (.region [⟨(some 32), none, .mv (.t 7)⟩, ⟨(some 33), none, .bin .add (.t 32) (.c (.int .i64 1))⟩, ⟨(some 7), none, .mv (.t 33)⟩])))
def b_gatepostlaw01_TokenJoins_0 (L : FuncId → List V → V → Prop) (K : V → Heap → Prop) (N0 : Env → Heap → Prop) (e : Env) (h : Heap) : Prop :=
    (wi F L (.len 1 (.c (e 0))) E0 h fun v26 h =>
    (wi F L (.bin .lss (.c (e 7)) (.c v26)) E0 h fun v27 h =>
    (wg v27 true (wi F L (.mv (.c (e 7))) E0 h) h fun v29 h =>
    (wg v27 true (wi F L (.bin .lss (.c v29) (.c (.int .i64 20))) E0 h) h fun v30 h =>
    (wi F L (.pick (.c v27) (.c v30) (.c (.bool false))) E0 h fun v31 h =>
    (wb v31
    (k_gatepostlaw01_TokenJoins_2 L K N0 (upd (upd (upd (upd (upd (upd (upd (upd e 24 (e 7)) 25 (e 0)) 26 v26) 27 v27) 28 v27) 29 v29) 30 v30) 31 v31) (e 0) (e 5) (e 6) (e 7) h)
    (k_gatepostlaw01_TokenJoins_1 L K (e 5) (e 6) h)))))))
theorem l_gatepostlaw01_TokenJoins_0 {L : FuncId → List V → V → Prop} {K : V → Heap → Prop} (I : Nat → Env → Heap → Prop) (hr : ∀ n e h, I n e h → b_gatepostlaw01_TokenJoins_0 L K (fun e' h' => ∃ m, m < n ∧ I m e' h') e h) {n : Nat} {e : Env} {h : Heap} (hi : I n e h) : Wl F L lc_gatepostlaw01_TokenJoins_0 (q_gatepostlaw01_TokenJoins_0 L K) e h :=
  wloopp (b := b_gatepostlaw01_TokenJoins_0 L K) I (fun _ _ _ => by kernel_rfl) hr hi
def k_gatepostlaw01_TokenJoins_0 (L : FuncId → List V → V → Prop) (K : V → Heap → Prop) (e : Env) (h : Heap) : Prop :=
    (Wl F L lc_gatepostlaw01_TokenJoins_0 (q_gatepostlaw01_TokenJoins_0 L K) (upd (upd (upd e 5 (.str [])) 6 .nsl) 7 (.int .i64 0)) h)
def p_gatepostlaw01_TokenJoins (L : FuncId → List V → V → Prop) (K : V → Heap → Prop) (a0 : V) (h : Heap) : Prop :=
    (wi F L (.call i_token_Split [(.c (.str [97, 44, 32, 98]))]) E0 h fun v14 h =>
    (wi F L (.ext 0 (.c v14)) E0 h fun v15 h =>
    (wi F L (.ext 1 (.c v14)) E0 h fun v16 h =>
    (wi F L (.un .not (.c v16)) E0 h fun v18 h =>
    (wg v18 false (wi F L (.mv (.c v15)) E0 h) h fun v20 h =>
    (wg v18 false (wi F L (.len 1 (.c v20)) E0 h) h fun v21 h =>
    (wg v18 false (wi F L (.bin .neq (.c v21) (.c (.int .i64 2))) E0 h) h fun v22 h =>
    (wi F L (.pick (.c v18) (.c (.bool true)) (.c v22)) E0 h fun v23 h =>
    (wb v23
    (∃ v, some (.bool false) = some v ∧ K v h)
    (k_gatepostlaw01_TokenJoins_0 L K (upd (upd (upd (upd (upd (upd (upd (upd (upd (upd (upd (upd (upd (upd (enterE [a0]) 2 (.bool false)) 14 v14) 13 v14) 15 v15) 16 v16) 3 v15) 4 v16) 17 v16) 18 v18) 19 v18) 20 v20) 21 v21) 22 v22) 23 v23)  h))))))))))
theorem run_gatepostlaw01_TokenJoins {L : FuncId → List V → V → Prop} {K : V → Heap → Prop} {a0 : V} {h : Heap} (hp : p_gatepostlaw01_TokenJoins L K a0 h) : Cf F L i_gatepostlaw01_TokenJoins [a0] h K :=
  wcallp F_gatepostlaw01_TokenJoins (show 1 ≤ 82 by decide) (p := p_gatepostlaw01_TokenJoins L K a0 h) (by kernel_rfl) hp
def k_gatepostlaw01_TokenQuotes_1 (L : FuncId → List V → V → Prop) (K : V → Heap → Prop) (v0 v3 : V) (h : Heap) : Prop :=
    (wi F L (.bin .add (.c (.str [120, 61])) (.c v3)) E0 h fun v40 h =>
    (wi F L (.call i_token_Pair [(.c v40)]) E0 h fun v41 h =>
    (wi F L (.ext 0 (.c v41)) E0 h fun v42 h =>
    (wi F L (.ext 1 (.c v41)) E0 h fun v43 h =>
    (wi F L (.ext 2 (.c v41)) E0 h fun v44 h =>
    (wi F L (.ext 3 (.c v41)) E0 h fun v45 h =>
    (wi F L (.bin .add (.c (.str [121, 44, 32, 120, 61])) (.c v3)) E0 h fun v48 h =>
    (wi F L (.bin .add (.c v48) (.c (.str [44, 32, 122]))) E0 h fun v49 h =>
    (wi F L (.call i_token_Split [(.c v49)]) E0 h fun v50 h =>
    (wi F L (.ext 0 (.c v50)) E0 h fun v51 h =>
    (wi F L (.ext 1 (.c v50)) E0 h fun v52 h =>
    (wg v45 true (wi F L (.mv (.c v44)) E0 h) h fun v55 h =>
    (wi F L (.pick (.c v45) (.c v55) (.c (.bool false))) E0 h fun v56 h =>
    (wg v56 true (wi F L (.mv (.c v42)) E0 h) h fun v58 h =>
    (wg v56 true (wi F L (.bin .eql (.c v58) (.c (.str [120]))) E0 h) h fun v59 h =>
    (wi F L (.pick (.c v56) (.c v59) (.c (.bool false))) E0 h fun v60 h =>
    (wg v60 true (wi F L (.mv (.c v43)) E0 h) h fun v62 h =>
    (wg v60 true (wi F L (.mv (.c v0)) E0 h) h fun v63 h =>
    (wg v60 true (wi F L (.bin .eql (.c v62) (.c v63)) E0 h) h fun v64 h =>
    (wi F L (.pick (.c v60) (.c v64) (.c (.bool false))) E0 h fun v65 h =>
    (wg v65 true (wi F L (.mv (.c v52)) E0 h) h fun v67 h =>
    (wi F L (.pick (.c v65) (.c v67) (.c (.bool false))) E0 h fun v68 h =>
    (wg v68 true (wi F L (.mv (.c v51)) E0 h) h fun v70 h =>
    (wg v68 true (wi F L (.len 1 (.c v70)) E0 h) h fun v71 h =>
    (wg v68 true (wi F L (.bin .eql (.c v71) (.c (.int .i64 3))) E0 h) h fun v72 h =>
    (wi F L (.pick (.c v68) (.c v72) (.c (.bool false))) E0 h fun v73 h =>
    (wg v73 true (wi F L (.mv (.c v51)) E0 h) h fun v75 h =>
    (wg v73 true (wi F L (.ixaSl 1 (.c v75) (.c (.int .i64 1))) E0 h) h fun v76 h =>
    (wg v73 true (wi F L (.load false 1 (.c v76)) E0 h) h fun v77 h =>
    (wg v73 true (wi F L (.mv (.c v3)) E0 h) h fun v78 h =>
    (wg v73 true (wi F L (.bin .add (.c (.str [120, 61])) (.c v78)) E0 h) h fun v79 h =>
    (wg v73 true (wi F L (.bin .eql (.c v77) (.c v79)) E0 h) h fun v80 h =>
    (wi F L (.pick (.c v73) (.c v80) (.c (.bool false))) E0 h fun v81 h =>
    (∃ v, some v81 = some v ∧ K v h))))))))))))))))))))))))))))))))))
def k_gatepostlaw01_TokenQuotes_0 (L : FuncId → List V → V → Prop) (K : V → Heap → Prop) (v0 : V) (h : Heap) : Prop :=
    (wi F L (.call i_token_Quote [(.c v0)]) E0 h fun v20 h =>
    (wi F L (.ext 0 (.c v20)) E0 h fun v21 h =>
    (wi F L (.ext 1 (.c v20)) E0 h fun v22 h =>
    (wi F L (.un .not (.c v22)) E0 h fun v24 h =>
    (wb v24
    (wi F L (.call i_token_Quote [(.c (.str [97, 44, 98]))]) E0 h fun v26 h =>
    (wi F L (.ext 0 (.c v26)) E0 h fun v27 h =>
    (wi F L (.ext 1 (.c v26)) E0 h fun v28 h =>
    (wi F L (.bin .eql (.c v21) (.c (.str []))) E0 h fun v30 h =>
    (wg v30 true (wi F L (.mv (.c v27)) E0 h) h fun v32 h =>
    (wg v30 true (wi F L (.bin .eql (.c v32) (.c (.str [34, 97, 44, 98, 34]))) E0 h) h fun v33 h =>
    (wi F L (.pick (.c v30) (.c v33) (.c (.bool false))) E0 h fun v34 h =>
    (wg v34 true (wi F L (.mv (.c v28)) E0 h) h fun v36 h =>
    (wi F L (.pick (.c v34) (.c v36) (.c (.bool false))) E0 h fun v37 h =>
    (∃ v, some v37 = some v ∧ K v h))))))))))
    (k_gatepostlaw01_TokenQuotes_1 L K v0 v21 h))))))
def p_gatepostlaw01_TokenQuotes (L : FuncId → List V → V → Prop) (K : V → Heap → Prop) (a0 : V) (h : Heap) : Prop :=
    (wi F L (.len 0 (.c a0)) E0 h fun v14 h =>
    (wi F L (.bin .gtr (.c v14) (.c (.int .i64 3000))) E0 h fun v15 h =>
    (wb v15
    (wi F L (.slstr (.c a0) none (some (.c (.int .i64 3000)))) E0 h fun v17 h =>
    (k_gatepostlaw01_TokenQuotes_0 L K v17 h))
    (k_gatepostlaw01_TokenQuotes_0 L K a0 h))))
theorem run_gatepostlaw01_TokenQuotes {L : FuncId → List V → V → Prop} {K : V → Heap → Prop} {a0 : V} {h : Heap} (hp : p_gatepostlaw01_TokenQuotes L K a0 h) : Cf F L i_gatepostlaw01_TokenQuotes [a0] h K :=
  wcallp F_gatepostlaw01_TokenQuotes (show 1 ≤ 82 by decide) (p := p_gatepostlaw01_TokenQuotes L K a0 h) (by kernel_rfl) hp
def p_token_Trim (L : FuncId → List V → V → Prop) (K : V → Heap → Prop) (a0 : V) (h : Heap) : Prop :=
    (wi F L (.call i_strings_Trim [(.c a0), (.c (.str [32, 9]))]) E0 h fun v4 h =>
    (∃ v, some v4 = some v ∧ K v h))
theorem run_token_Trim {L : FuncId → List V → V → Prop} {K : V → Heap → Prop} {a0 : V} {h : Heap} (hp : p_token_Trim L K a0 h) : Cf F L i_token_Trim [a0] h K :=
  wcallp F_token_Trim (show 1 ≤ 5 by decide) (p := p_token_Trim L K a0 h) (by kernel_rfl) hp
def k_token_Split_1 (L : FuncId → List V → V → Prop) (K : V → Heap → Prop) (v1 v4 v6 : V) (h : Heap) : Prop :=
    (wi F L (.load false 1 (.c v1)) E0 h fun v45 h =>
    (wi F L (.len 0 (.c v45)) E0 h fun v46 h =>
    (wi F L (.callv (.c v6) [(.c v46)]) E0 h fun v47 h =>
    (wi F L (.load false 1 (.c v4)) E0 h fun v48 h =>
    (wi F L (.load false 1 (.c v4)) E0 h fun v49 h =>
    (wi F L (.len 1 (.c v49)) E0 h fun v50 h =>
    (wi F L (.load false 1 (.c v4)) E0 h fun v51 h =>
    (wi F L (.len 1 (.c v51)) E0 h fun v52 h =>
    (wi F L (.slsl 1 (.c v48) none (some (.c v50)) (some (.c v52))) E0 h fun v53 h =>
    (∃ v, resultsV h (enterE [v53, (.bool true)]) [.tmp 0, .tmp 1] = some v ∧ K v h))))))))))
def k_token_Split_0 (L : FuncId → List V → V → Prop) (K : V → Heap → Prop) (v1 v4 v6 v7 : V) (h : Heap) : Prop :=
    (wb v7
    (∃ v, resultsV h (enterE [.nsl, (.bool false)]) [.tmp 0, .tmp 1] = some v ∧ K v h)
    (k_token_Split_1 L K v1 v4 v6 h))
def k_token_Split_3 (L : FuncId → List V → V → Prop) (K : V → Heap → Prop) (N0 : Env → Heap → Prop) (e : Env) (v8 : V) (h : Heap) : Prop :=
    (wi F L (.bin .add (.c v8) (.c (.int .i64 1))) E0 h fun v16 h =>
    (N0 (upd (upd (upd e 15 v8) 16 v16) 8 v16) h))
def k_token_Split_2 (L : FuncId → List V → V → Prop) (K : V → Heap → Prop) (N0 : Env → Heap → Prop) (e : Env) (v1 v6 v7 v8 : V) (h : Heap) : Prop :=
    (wi F L (.load false 1 (.c v1)) E0 h fun v17 h =>
    (wi F L (.ixStr (.c v17) (.c v8)) E0 h fun v19 h =>
    (wi F L (.bin .eql (.c v19) (.c (.int .u8 34))) E0 h fun v22 h =>
    (wb v22
    (wi F L (.un .not (.c v7)) E0 h fun v24 h =>
    (k_token_Split_3 L K N0 (upd (upd (upd (upd (upd (upd (upd (upd (upd (upd e 17 v17) 18 v8) 19 v19) 9 v19) 21 v19) 22 v22) 20 v22) 23 v7) 24 v24) 7 v24) v8 h))
    (wg v7 true (wi F L (.mv (.c v19)) E0 h) h fun v28 h =>
    (wg v7 true (wi F L (.bin .eql (.c v28) (.c (.int .u8 92))) E0 h) h fun v29 h =>
    (wi F L (.pick (.c v7) (.c v29) (.c (.bool false))) E0 h fun v30 h =>
    (wb v30
    (wi F L (.bin .add (.c v8) (.c (.int .i64 1))) E0 h fun v32 h =>
    (k_token_Split_3 L K N0 (upd (upd (upd (upd (upd (upd (upd (upd (upd (upd (upd (upd (upd (upd (upd (upd e 17 v17) 18 v8) 19 v19) 9 v19) 21 v19) 22 v22) 20 v22) 26 v7) 27 v7) 28 v28) 29 v29) 30 v30) 25 v30) 31 v8) 32 v32) 8 v32) v32 h))
    (wi F L (.un .not (.c v7)) E0 h fun v35 h =>
    (wg v35 true (wi F L (.mv (.c v19)) E0 h) h fun v37 h =>
    (wg v35 true (wi F L (.bin .eql (.c v37) (.c (.int .u8 44))) E0 h) h fun v38 h =>
    (wi F L (.pick (.c v35) (.c v38) (.c (.bool false))) E0 h fun v39 h =>
    (wb v39
    (wi F L (.callv (.c v6) [(.c v8)]) E0 h fun v42 h =>
    (k_token_Split_3 L K N0 (upd (upd (upd (upd (upd (upd (upd (upd (upd (upd (upd (upd (upd (upd (upd (upd (upd (upd (upd (upd (upd (upd (upd e 17 v17) 18 v8) 19 v19) 9 v19) 21 v19) 22 v22) 20 v22) 26 v7) 27 v7) 28 v28) 29 v29) 30 v30) 25 v30) 34 v7) 35 v35) 36 v35) 37 v37) 38 v38) 39 v39) 33 v39) 40 v6) 41 v8) 42 v42) v8 h))
    (k_token_Split_3 L K N0 (upd (upd (upd (upd (upd (upd (upd (upd (upd (upd (upd (upd (upd (upd (upd (upd (upd (upd (upd (upd e 17 v17) 18 v8) 19 v19) 9 v19) 21 v19) 22 v22) 20 v22) 26 v7) 27 v7) 28 v28) 29 v29) 30 v30) 25 v30) 34 v7) 35 v35) 36 v35) 37 v37) 38 v38) 39 v39) 33 v39) v8 h))))))))))))))
def q_token_Split_0 (L : FuncId → List V → V → Prop) (K : V → Heap → Prop) : X → Env → Heap → Prop := (fun x => (seqX (fun e h => k_token_Split_0 L K (e 1) (e 4) (e 6) (e 7) h) (retX c_token_Split.results K)) (X.out 0 x))
def lc_token_Split_0 : C :=
  (.seq (.seq (.region [⟨(some 11), none, .mv (.t 8)⟩, ⟨(some 12), none, .load false 1 (.t 1)⟩, ⟨(some 13), none, .len 0 (.t 12)⟩, ⟨(some 14), none, .bin .lss (.t 11) (.t 13)⟩])
  (.cond (.t 14)
    .skip
    (.exit 0)))
  (.seq (.block 1 (.seq (.region [⟨(some 17), none, .load false 1 (.t 1)⟩, ⟨(some 18), none, .mv (.t 8)⟩, ⟨(some 19), none, .ixStr (.t 17) (.t 18)⟩, ⟨(some 9), none, .mv (.t 19)⟩])
  (.block 2 (.seq (.region [⟨(some 21), none, .mv (.t 9)⟩, ⟨(some 22), none, .bin .eql (.t 21) (.c (.int .u8 34))⟩, ⟨(some 20), none, .mv (.t 22)⟩])
  (.cond (.t 20)
    (.region [⟨(some 23), none, .mv (.t 7)⟩, ⟨(some 24), none, .un .not (.t 23)⟩, ⟨(some 7), none, .mv (.t 24)⟩])
    (.seq (.region [⟨(some 26), none, .mv (.t 7)⟩, ⟨(some 27), none, .mv (.t 26)⟩, ⟨(some 28), (some (27, true)), .mv (.t 9)⟩, ⟨(some 29), (some (27, true)), .bin .eql (.t 28) (.c (.int .u8 92))⟩, ⟨(some 30), none, .pick (.t 27) (.t 29) (.c (.bool false))⟩, ⟨(some 25), none, .mv (.t 30)⟩])
    (.cond (.t 25)
      (.region [⟨(some 31), none, .mv (.t 8)⟩, ⟨(some 32), none, .bin .add (.t 31) (.c (.int .i64 1))⟩, ⟨(some 8), none, .mv (.t 32)⟩])
      (.seq (.region [⟨(some 34), none, .mv (.t 7)⟩, ⟨(some 35), none, .un .not (.t 34)⟩, ⟨(some 36), none, .mv (.t 35)⟩, ⟨(some 37), (some (36, true)), .mv (.t 9)⟩, ⟨(some 38), (some (36, true)), .bin .eql (.t 37) (.c (.int .u8 44))⟩, ⟨(some 39), none, .pick (.t 36) (.t 38) (.c (.bool false))⟩, ⟨(some 33), none, .mv (.t 39)⟩])
      (.cond (.t 33)
        (.region [⟨(some 40), none, .mv (.t 6)⟩, ⟨(some 41), none, .mv (.t 8)⟩, ⟨(some 42), none, .callv (.t 40) [(.t 41)]⟩])
        .skip)))))))))
  (.region [⟨(some 15), none, .mv (.t 8)⟩, ⟨(some 16), none, .bin .add (.t 15) (.c (.int .i64 1))⟩, ⟨(some 8), none, .mv (.t 16)⟩])))
def b_token_Split_0 (L : FuncId → List V → V → Prop) (K : V → Heap → Prop) (N0 : Env → Heap → Prop) (e : Env) (h : Heap) : Prop :=
    (wi F L (.load false 1 (.c (e 1))) E0 h fun v12 h =>
    (wi F L (.len 0 (.c v12)) E0 h fun v13 h =>
    (wi F L (.bin .lss (.c (e 8)) (.c v13)) E0 h fun v14 h =>
    (wb v14
    (k_token_Split_2 L K N0 (upd (upd (upd (upd e 11 (e 8)) 12 v12) 13 v13) 14 v14) (e 1) (e 6) (e 7) (e 8) h)
    (k_token_Split_0 L K (e 1) (e 4) (e 6) (e 7) h)))))
theorem l_token_Split_0 {L : FuncId → List V → V → Prop} {K : V → Heap → Prop} (I : Nat → Env → Heap → Prop) (hr : ∀ n e h, I n e h → b_token_Split_0 L K (fun e' h' => ∃ m, m < n ∧ I m e' h') e h) {n : Nat} {e : Env} {h : Heap} (hi : I n e h) : Wl F L lc_token_Split_0 (q_token_Split_0 L K) e h :=
  wloopp (b := b_token_Split_0 L K) I (fun _ _ _ => by kernel_rfl) hr hi
def p_token_Split (L : FuncId → List V → V → Prop) (K : V → Heap → Prop) (a0 : V) (h : Heap) : Prop :=
    (wi F L (.box (.c a0)) E0 h fun v1 h =>
    (wi F L (.boxz [.nsl]) E0 h fun v4 h =>
    (wi F L (.boxz [(.int .i64 0)]) E0 h fun v5 h =>
    (wi F L (.store 1 (.c v5) (.c (.int .i64 0))) E0 h fun _ h =>
    (wi F L (.mkfn i_token_Split_1 [(.c v1), (.c v5), (.c v4)]) E0 h fun v10 h =>
    (Wl F L lc_token_Split_0 (q_token_Split_0 L K) (upd (upd (upd (upd (upd (upd (upd (upd (upd (enterE [a0]) 1 v1) 2 .nsl) 3 (.bool false)) 4 v4) 5 v5) 10 v10) 6 v10) 7 (.bool false)) 8 (.int .i64 0)) h))))))
theorem run_token_Split {L : FuncId → List V → V → Prop} {K : V → Heap → Prop} {a0 : V} {h : Heap} (hp : p_token_Split L K a0 h) : Cf F L i_token_Split [a0] h K :=
  wcallp F_token_Split (show 1 ≤ 54 by decide) (p := p_token_Split L K a0 h) (by kernel_rfl) hp
def k_gatepostref01_Split_2 (L : FuncId → List V → V → Prop) (K : V → Heap → Prop) (v4 : V) (h : Heap) : Prop :=
    (∃ v, resultsV h (enterE [v4, (.bool true)]) [.tmp 0, .tmp 1] = some v ∧ K v h)
def k_gatepostref01_Split_1 (L : FuncId → List V → V → Prop) (K : V → Heap → Prop) (v4 v5 : V) (h : Heap) : Prop :=
    (wi F L (.bin .neq (.c v5) (.c (.str []))) E0 h fun v68 h =>
    (wb v68
    (wi F L (.bsl 1 [(.c v5)]) E0 h fun v71 h =>
    (wi F L (.app 1 16 false (.c v4) (.c v71)) E0 h fun v72 h =>
    (k_gatepostref01_Split_2 L K v72 h)))
    (k_gatepostref01_Split_2 L K v4 h)))
def k_gatepostref01_Split_0 (L : FuncId → List V → V → Prop) (K : V → Heap → Prop) (v4 v5 v6 : V) (h : Heap) : Prop :=
    (wi F L (.call i_gatepostref01_Trim [(.c v5)]) E0 h fun v65 h =>
    (wb v6
    (∃ v, resultsV h (enterE [.nsl, (.bool false)]) [.tmp 0, .tmp 1] = some v ∧ K v h)
    (k_gatepostref01_Split_1 L K v4 v65 h)))
def k_gatepostref01_Split_4 (L : FuncId → List V → V → Prop) (K : V → Heap → Prop) (N0 : Env → Heap → Prop) (e : Env) (v7 : V) (h : Heap) : Prop :=
    (wi F L (.bin .add (.c v7) (.c (.int .i64 1))) E0 h fun v14 h =>
    (N0 (upd (upd (upd e 13 v7) 14 v14) 7 v14) h))
def k_gatepostref01_Split_6 (L : FuncId → List V → V → Prop) (K : V → Heap → Prop) (N0 : Env → Heap → Prop) (e : Env) (v0 v5 v6 v7 v8 : V) (h : Heap) : Prop :=
    (wg v6 true (wi F L (.mv (.c v8)) E0 h) h fun v45 h =>
    (wg v6 true (wi F L (.bin .eql (.c v45) (.c (.int .u8 92))) E0 h) h fun v46 h =>
    (wi F L (.pick (.c v6) (.c v46) (.c (.bool false))) E0 h fun v47 h =>
    (wg v47 true (wi F L (.mv (.c v7)) E0 h) h fun v49 h =>
    (wg v47 true (wi F L (.bin .add (.c v49) (.c (.int .i64 1))) E0 h) h fun v50 h =>
    (wg v47 true (wi F L (.mv (.c v0)) E0 h) h fun v51 h =>
    (wg v47 true (wi F L (.len 0 (.c v51)) E0 h) h fun v52 h =>
    (wg v47 true (wi F L (.bin .lss (.c v50) (.c v52)) E0 h) h fun v53 h =>
    (wi F L (.pick (.c v47) (.c v53) (.c (.bool false))) E0 h fun v54 h =>
    (wb v54
    (wi F L (.bin .add (.c v7) (.c (.int .i64 1))) E0 h fun v56 h =>
    (wi F L (.bin .add (.c v56) (.c (.int .i64 1))) E0 h fun v61 h =>
    (wi F L (.slstr (.c v0) (some (.c v56)) (some (.c v61))) E0 h fun v62 h =>
    (wi F L (.bin .add (.c v5) (.c v62)) E0 h fun v63 h =>
    (k_gatepostref01_Split_4 L K N0 (upd (upd (upd (upd (upd (upd (upd (upd (upd (upd (upd (upd (upd (upd (upd (upd (upd (upd (upd (upd (upd (upd (upd e 43 v6) 44 v6) 45 v45) 46 v46) 47 v47) 48 v47) 49 v49) 50 v50) 51 v51) 52 v52) 53 v53) 54 v54) 55 v7) 56 v56) 7 v56) 57 v5) 58 v0) 59 v56) 60 v56) 61 v61) 62 v62) 63 v63) 5 v63) v56 h)))))
    (k_gatepostref01_Split_4 L K N0 (upd (upd (upd (upd (upd (upd (upd (upd (upd (upd (upd (upd e 43 v6) 44 v6) 45 v45) 46 v46) 47 v47) 48 v47) 49 v49) 50 v50) 51 v51) 52 v52) 53 v53) 54 v54) v7 h)))))))))))
def k_gatepostref01_Split_5 (L : FuncId → List V → V → Prop) (K : V → Heap → Prop) (N0 : Env → Heap → Prop) (e : Env) (v0 v5 v6 v7 v8 : V) (h : Heap) : Prop :=
    (wi F L (.bin .add (.c v7) (.c (.int .i64 1))) E0 h fun v36 h =>
    (wi F L (.slstr (.c v0) (some (.c v7)) (some (.c v36))) E0 h fun v37 h =>
    (wi F L (.bin .add (.c v5) (.c v37)) E0 h fun v38 h =>
    (wi F L (.bin .eql (.c v8) (.c (.int .u8 34))) E0 h fun v40 h =>
    (wb v40
    (wi F L (.un .not (.c v6)) E0 h fun v42 h =>
    (k_gatepostref01_Split_6 L K N0 (upd (upd (upd (upd (upd (upd (upd (upd (upd (upd (upd (upd (upd e 32 v5) 33 v0) 34 v7) 35 v7) 36 v36) 37 v37) 38 v38) 5 v38) 39 v8) 40 v40) 41 v6) 42 v42) 6 v42) v0 v38 v42 v7 v8 h))
    (k_gatepostref01_Split_6 L K N0 (upd (upd (upd (upd (upd (upd (upd (upd (upd (upd e 32 v5) 33 v0) 34 v7) 35 v7) 36 v36) 37 v37) 38 v38) 5 v38) 39 v8) 40 v40) v0 v38 v6 v7 v8 h))))))
def k_gatepostref01_Split_7 (L : FuncId → List V → V → Prop) (K : V → Heap → Prop) (N0 : Env → Heap → Prop) (e : Env) (v7 : V) (h : Heap) : Prop :=
    (k_gatepostref01_Split_4 L K N0 (upd e 5 (.str [])) v7 h)
def k_gatepostref01_Split_3 (L : FuncId → List V → V → Prop) (K : V → Heap → Prop) (N0 : Env → Heap → Prop) (e : Env) (v0 v4 v5 v6 v7 : V) (h : Heap) : Prop :=
    (wi F L (.ixStr (.c v0) (.c v7)) E0 h fun v17 h =>
    (wi F L (.un .not (.c v6)) E0 h fun v19 h =>
    (wg v19 true (wi F L (.mv (.c v17)) E0 h) h fun v21 h =>
    (wg v19 true (wi F L (.bin .eql (.c v21) (.c (.int .u8 44))) E0 h) h fun v22 h =>
    (wi F L (.pick (.c v19) (.c v22) (.c (.bool false))) E0 h fun v23 h =>
    (wb v23
    (wi F L (.call i_gatepostref01_Trim [(.c v5)]) E0 h fun v25 h =>
    (wi F L (.bin .neq (.c v25) (.c (.str []))) E0 h fun v27 h =>
    (wb v27
    (wi F L (.bsl 1 [(.c v25)]) E0 h fun v30 h =>
    (wi F L (.app 1 16 false (.c v4) (.c v30)) E0 h fun v31 h =>
    (k_gatepostref01_Split_7 L K N0 (upd (upd (upd (upd (upd (upd (upd (upd (upd (upd (upd (upd (upd (upd (upd (upd (upd (upd (upd (upd e 15 v0) 16 v7) 17 v17) 8 v17) 18 v6) 19 v19) 20 v19) 21 v21) 22 v22) 23 v23) 24 v5) 25 v25) 5 v25) 26 v25) 27 v27) 28 v4) 29 v25) 30 v30) 31 v31) 4 v31) v7 h)))
    (k_gatepostref01_Split_7 L K N0 (upd (upd (upd (upd (upd (upd (upd (upd (upd (upd (upd (upd (upd (upd (upd e 15 v0) 16 v7) 17 v17) 8 v17) 18 v6) 19 v19) 20 v19) 21 v21) 22 v22) 23 v23) 24 v5) 25 v25) 5 v25) 26 v25) 27 v27) v7 h))))
    (k_gatepostref01_Split_5 L K N0 (upd (upd (upd (upd (upd (upd (upd (upd (upd (upd e 15 v0) 16 v7) 17 v17) 8 v17) 18 v6) 19 v19) 20 v19) 21 v21) 22 v22) 23 v23) v0 v5 v6 v7 v17 h)))))))
def q_gatepostref01_Split_0 (L : FuncId → List V → V → Prop) (K : V → Heap → Prop) : X → Env → Heap → Prop := (fun x => (seqX (fun e h => k_gatepostref01_Split_0 L K (e 4) (e 5) (e 6) h) (retX c_gatepostref01_Split.results K)) (X.out 0 x))
def lc_gatepostref01_Split_0 : C :=
  (.seq (.seq (.region [⟨(some 9), none, .mv (.t 7)⟩, ⟨(some 10), none, .mv (.t 0)⟩, ⟨(some 11), none, .len 0 (.t 10)⟩, ⟨(some 12), none, .bin .lss (.t 9) (.t 11)⟩])
  (.cond (.t 12)
    .skip
    (.exit 0)))
  (.seq (.block 1 (.seq (.region [⟨(some 15), none, .mv (.t 0)⟩, ⟨(some 16), none, .mv (.t 7)⟩, ⟨(some 17), none, .ixStr (.t 15) (.t 16)⟩, ⟨(some 8), none, .mv (.t 17)⟩])
  (.seq (.seq (.region [⟨(some 18), none, .mv (.t 6)⟩, ⟨(some 19), none, .un .not (.t 18)⟩, ⟨(some 20), none, .mv (.t 19)⟩, ⟨(some 21), (some (20, true)), .mv (.t 8)⟩, ⟨(some 22), (some (20, true)), .bin .eql (.t 21) (.c (.int .u8 44))⟩, ⟨(some 23), none, .pick (.t 20) (.t 22) (.c (.bool false))⟩])
  (.cond (.t 23)
    (.seq (.region [⟨(some 24), none, .mv (.t 5)⟩, ⟨(some 25), none, .call i_gatepostref01_Trim [(.t 24)]⟩, ⟨(some 5), none, .mv (.t 25)⟩])
    (.seq (.seq (.region [⟨(some 26), none, .mv (.t 5)⟩, ⟨(some 27), none, .bin .neq (.t 26) (.c (.str []))⟩])
    (.cond (.t 27)
      (.region [⟨(some 28), none, .mv (.t 4)⟩, ⟨(some 29), none, .mv (.t 5)⟩, ⟨(some 30), none, .bsl 1 [(.t 29)]⟩, ⟨(some 31), none, .app 1 16 false (.t 28) (.t 30)⟩, ⟨(some 4), none, .mv (.t 31)⟩])
      .skip))
    (.seq (.region [⟨(some 5), none, .mv (.c (.str []))⟩])
    (.exit 1))))
    .skip))
  (.seq (.region [⟨(some 32), none, .mv (.t 5)⟩, ⟨(some 33), none, .mv (.t 0)⟩, ⟨(some 34), none, .mv (.t 7)⟩, ⟨(some 35), none, .mv (.t 7)⟩, ⟨(some 36), none, .bin .add (.t 35) (.c (.int .i64 1))⟩, ⟨(some 37), none, .slstr (.t 33) (some (.t 34)) (some (.t 36))⟩, ⟨(some 38), none, .bin .add (.t 32) (.t 37)⟩, ⟨(some 5), none, .mv (.t 38)⟩])
  (.seq (.seq (.region [⟨(some 39), none, .mv (.t 8)⟩, ⟨(some 40), none, .bin .eql (.t 39) (.c (.int .u8 34))⟩])
  (.cond (.t 40)
    (.region [⟨(some 41), none, .mv (.t 6)⟩, ⟨(some 42), none, .un .not (.t 41)⟩, ⟨(some 6), none, .mv (.t 42)⟩])
    .skip))
  (.seq (.region [⟨(some 43), none, .mv (.t 6)⟩, ⟨(some 44), none, .mv (.t 43)⟩, ⟨(some 45), (some (44, true)), .mv (.t 8)⟩, ⟨(some 46), (some (44, true)), .bin .eql (.t 45) (.c (.int .u8 92))⟩, ⟨(some 47), none, .pick (.t 44) (.t 46) (.c (.bool false))⟩, ⟨(some 48), none, .mv (.t 47)⟩, ⟨(some 49), (some (48, true)), .mv (.t 7)⟩, ⟨(some 50), (some (48, true)), .bin .add (.t 49) (.c (.int .i64 1))⟩, ⟨(some 51), (some (48, true)), .mv (.t 0)⟩, ⟨(some 52), (some (48, true)), .len 0 (.t 51)⟩, ⟨(some 53), (some (48, true)), .bin .lss (.t 50) (.t 52)⟩, ⟨(some 54), none, .pick (.t 48) (.t 53) (.c (.bool false))⟩])
  (.cond (.t 54)
    (.seq (.region [⟨(some 55), none, .mv (.t 7)⟩, ⟨(some 56), none, .bin .add (.t 55) (.c (.int .i64 1))⟩, ⟨(some 7), none, .mv (.t 56)⟩])
    (.region [⟨(some 57), none, .mv (.t 5)⟩, ⟨(some 58), none, .mv (.t 0)⟩, ⟨(some 59), none, .mv (.t 7)⟩, ⟨(some 60), none, .mv (.t 7)⟩, ⟨(some 61), none, .bin .add (.t 60) (.c (.int .i64 1))⟩, ⟨(some 62), none, .slstr (.t 58) (some (.t 59)) (some (.t 61))⟩, ⟨(some 63), none, .bin .add (.t 57) (.t 62)⟩, ⟨(some 5), none, .mv (.t 63)⟩]))
    .skip)))))))
  (.region [⟨(some 13), none, .mv (.t 7)⟩, ⟨(some 14), none, .bin .add (.t 13) (.c (.int .i64 1))⟩, ⟨(some 7), none, .mv (.t 14)⟩])))
def b_gatepostref01_Split_0 (L : FuncId → List V → V → Prop) (K : V → Heap → Prop) (N0 : Env → Heap → Prop) (e : Env) (h : Heap) : Prop :=
    (wi F L (.len 0 (.c (e 0))) E0 h fun v11 h =>
    (wi F L (.bin .lss (.c (e 7)) (.c v11)) E0 h fun v12 h =>
    (wb v12
    (k_gatepostref01_Split_3 L K N0 (upd (upd (upd (upd e 9 (e 7)) 10 (e 0)) 11 v11) 12 v12) (e 0) (e 4) (e 5) (e 6) (e 7) h)
    (k_gatepostref01_Split_0 L K (e 4) (e 5) (e 6) h))))
theorem l_gatepostref01_Split_0 {L : FuncId → List V → V → Prop} {K : V → Heap → Prop} (I : Nat → Env → Heap → Prop) (hr : ∀ n e h, I n e h → b_gatepostref01_Split_0 L K (fun e' h' => ∃ m, m < n ∧ I m e' h') e h) {n : Nat} {e : Env} {h : Heap} (hi : I n e h) : Wl F L lc_gatepostref01_Split_0 (q_gatepostref01_Split_0 L K) e h :=
  wloopp (b := b_gatepostref01_Split_0 L K) I (fun _ _ _ => by kernel_rfl) hr hi
def p_gatepostref01_Split (L : FuncId → List V → V → Prop) (K : V → Heap → Prop) (a0 : V) (h : Heap) : Prop :=
    (Wl F L lc_gatepostref01_Split_0 (q_gatepostref01_Split_0 L K) (upd (upd (upd (upd (upd (upd (enterE [a0]) 2 .nsl) 3 (.bool false)) 4 .nsl) 5 (.str [])) 6 (.bool false)) 7 (.int .i64 0)) h)
theorem run_gatepostref01_Split {L : FuncId → List V → V → Prop} {K : V → Heap → Prop} {a0 : V} {h : Heap} (hp : p_gatepostref01_Split L K a0 h) : Cf F L i_gatepostref01_Split [a0] h K :=
  wcallp F_gatepostref01_Split (show 1 ≤ 74 by decide) (p := p_gatepostref01_Split L K a0 h) (by kernel_rfl) hp
def k_gatepostlaw01_texts_1 (L : FuncId → List V → V → Prop) (K : V → Heap → Prop) (h : Heap) : Prop :=
    (∃ v, some (.bool true) = some v ∧ K v h)
def k_gatepostlaw01_texts_3 (L : FuncId → List V → V → Prop) (K : V → Heap → Prop) (N0 : Env → Heap → Prop) (e : Env) (v5 : V) (h : Heap) : Prop :=
    (wi F L (.bin .add (.c v5) (.c (.int .i64 1))) E0 h fun v16 h =>
    (N0 (upd (upd (upd e 15 v5) 16 v16) 5 v16) h))
def k_gatepostlaw01_texts_2 (L : FuncId → List V → V → Prop) (K : V → Heap → Prop) (N0 : Env → Heap → Prop) (e : Env) (v0 v1 v5 : V) (h : Heap) : Prop :=
    (wi F L (.ixaSl 1 (.c v0) (.c v5)) E0 h fun v19 h' => Ext h h' ∧
    (wi F L (.load false 1 (.c v19)) E0 h' fun v20 h => Ext h' h ∧
    (wi F L (.ixaSl 1 (.c v1) (.c v5)) E0 h fun v23 h' => Ext h h' ∧
    (wi F L (.load false 1 (.c v23)) E0 h' fun v24 h => Ext h' h ∧
    (wi F L (.bin .neq (.c v20) (.c v24)) E0 h fun v25 h =>
    (wb v25
    (∃ v, some (.bool false) = some v ∧ K v h)
    (k_gatepostlaw01_texts_3 L K N0 (upd (upd (upd (upd (upd (upd (upd (upd (upd e 17 v0) 18 v5) 19 v19) 20 v20) 21 v1) 22 v5) 23 v23) 24 v24) 25 v25) v5 h)))))))
def q_gatepostlaw01_texts_0 (L : FuncId → List V → V → Prop) (K : V → Heap → Prop) : X → Env → Heap → Prop := (fun x => (seqX (fun e h => k_gatepostlaw01_texts_1 L K  h) (retX c_gatepostlaw01_texts.results K)) (X.out 0 x))
def lc_gatepostlaw01_texts_0 : C :=
  (.seq (.seq (.region [⟨(some 11), none, .mv (.t 5)⟩, ⟨(some 12), none, .mv (.t 0)⟩, ⟨(some 13), none, .len 1 (.t 12)⟩, ⟨(some 14), none, .bin .lss (.t 11) (.t 13)⟩])
  (.cond (.t 14)
    .skip
    (.exit 0)))
  (.seq (.block 1 (.seq (.dregion [⟨(some 17), none, .mv (.t 0)⟩, ⟨(some 18), none, .mv (.t 5)⟩, ⟨(some 19), none, .ixaSl 1 (.t 17) (.t 18)⟩, ⟨(some 20), none, .load false 1 (.t 19)⟩, ⟨(some 21), none, .mv (.t 1)⟩, ⟨(some 22), none, .mv (.t 5)⟩, ⟨(some 23), none, .ixaSl 1 (.t 21) (.t 22)⟩, ⟨(some 24), none, .load false 1 (.t 23)⟩] [⟨(some 25), none, .bin .neq (.t 20) (.t 24)⟩])
  (.cond (.t 25)
    (.seq (.region [⟨(some 4), none, .mv (.c (.bool false))⟩])
    .ret)
    .skip)))
  (.region [⟨(some 15), none, .mv (.t 5)⟩, ⟨(some 16), none, .bin .add (.t 15) (.c (.int .i64 1))⟩, ⟨(some 5), none, .mv (.t 16)⟩])))
def b_gatepostlaw01_texts_0 (L : FuncId → List V → V → Prop) (K : V → Heap → Prop) (N0 : Env → Heap → Prop) (e : Env) (h : Heap) : Prop :=
    (wi F L (.len 1 (.c (e 0))) E0 h fun v13 h =>
    (wi F L (.bin .lss (.c (e 5)) (.c v13)) E0 h fun v14 h =>
    (wb v14
    (k_gatepostlaw01_texts_2 L K N0 (upd (upd (upd (upd e 11 (e 5)) 12 (e 0)) 13 v13) 14 v14) (e 0) (e 1) (e 5) h)
    (k_gatepostlaw01_texts_1 L K  h))))
theorem l_gatepostlaw01_texts_0 {L : FuncId → List V → V → Prop} {K : V → Heap → Prop} (I : Nat → Env → Heap → Prop) (hr : ∀ n e h, I n e h → b_gatepostlaw01_texts_0 L K (fun e' h' => ∃ m, m < n ∧ I m e' h') e h) {n : Nat} {e : Env} {h : Heap} (hi : I n e h) : Wl F L lc_gatepostlaw01_texts_0 (q_gatepostlaw01_texts_0 L K) e h :=
  wloopp (b := b_gatepostlaw01_texts_0 L K) I (fun _ _ _ => by kernel_rfl) hr hi
def k_gatepostlaw01_texts_0 (L : FuncId → List V → V → Prop) (K : V → Heap → Prop) (e : Env) (h : Heap) : Prop :=
    (Wl F L lc_gatepostlaw01_texts_0 (q_gatepostlaw01_texts_0 L K) (upd e 5 (.int .i64 0)) h)
def p_gatepostlaw01_texts (L : FuncId → List V → V → Prop) (K : V → Heap → Prop) (a0 a1 : V) (h : Heap) : Prop :=
    (wi F L (.len 1 (.c a0)) E0 h fun v7 h =>
    (wi F L (.len 1 (.c a1)) E0 h fun v9 h =>
    (wi F L (.bin .neq (.c v7) (.c v9)) E0 h fun v10 h =>
    (wb v10
    (∃ v, some (.bool false) = some v ∧ K v h)
    (k_gatepostlaw01_texts_0 L K (upd (upd (upd (upd (upd (upd (enterE [a0, a1]) 4 (.bool false)) 6 a0) 7 v7) 8 a1) 9 v9) 10 v10)  h)))))
theorem run_gatepostlaw01_texts {L : FuncId → List V → V → Prop} {K : V → Heap → Prop} {a0 a1 : V} {h : Heap} (hp : p_gatepostlaw01_texts L K a0 a1 h) : Cf F L i_gatepostlaw01_texts [a0, a1] h K :=
  wcallp F_gatepostlaw01_texts (show 2 ≤ 26 by decide) (p := p_gatepostlaw01_texts L K a0 a1 h) (by kernel_rfl) hp
def p_token_Is (L : FuncId → List V → V → Prop) (K : V → Heap → Prop) (a0 : V) (h : Heap) : Prop :=
    (wi F L (.bin .neq (.c a0) (.c (.str []))) E0 h fun v4 h =>
    (wg v4 true (wi F L (.mv (.c a0)) E0 h) h fun v6 h =>
    (wg v4 true (wi F L (.call i_token_all [(.c v6), (.c (.fn i_token_inToken []))]) E0 h) h fun v7 h =>
    (wi F L (.pick (.c v4) (.c v7) (.c (.bool false))) E0 h fun v8 h =>
    (∃ v, some v8 = some v ∧ K v h)))))
theorem run_token_Is {L : FuncId → List V → V → Prop} {K : V → Heap → Prop} {a0 : V} {h : Heap} (hp : p_token_Is L K a0 h) : Cf F L i_token_Is [a0] h K :=
  wcallp F_token_Is (show 1 ≤ 9 by decide) (p := p_token_Is L K a0 h) (by kernel_rfl) hp
def k_gatepostref01_Is_0 (L : FuncId → List V → V → Prop) (K : V → Heap → Prop) (v0 : V) (h : Heap) : Prop :=
    (wi F L (.len 0 (.c v0)) E0 h fun v16 h =>
    (wi F L (.bin .gtr (.c v16) (.c (.int .i64 0))) E0 h fun v17 h =>
    (∃ v, some v17 = some v ∧ K v h)))
def k_gatepostref01_Is_2 (L : FuncId → List V → V → Prop) (K : V → Heap → Prop) (N0 : Env → Heap → Prop) (e : Env) (v3 : V) (h : Heap) : Prop :=
    (wi F L (.bin .add (.c v3) (.c (.int .i64 1))) E0 h fun v9 h =>
    (N0 (upd (upd (upd e 8 v3) 9 v9) 3 v9) h))
def k_gatepostref01_Is_1 (L : FuncId → List V → V → Prop) (K : V → Heap → Prop) (N0 : Env → Heap → Prop) (e : Env) (v0 v3 : V) (h : Heap) : Prop :=
    (wi F L (.ixStr (.c v0) (.c v3)) E0 h fun v12 h =>
    (wi F L (.call i_gatepostref01_tchar [(.c v12)]) E0 h fun v13 h =>
    (wi F L (.un .not (.c v13)) E0 h fun v14 h =>
    (wb v14
    (∃ v, some (.bool false) = some v ∧ K v h)
    (k_gatepostref01_Is_2 L K N0 (upd (upd (upd (upd (upd e 10 v0) 11 v3) 12 v12) 13 v13) 14 v14) v3 h)))))
def q_gatepostref01_Is_0 (L : FuncId → List V → V → Prop) (K : V → Heap → Prop) : X → Env → Heap → Prop := (fun x => (seqX (fun e h => k_gatepostref01_Is_0 L K (e 0) h) (retX c_gatepostref01_Is.results K)) (X.out 0 x))
def lc_gatepostref01_Is_0 : C :=
  (.seq (.seq (.region [⟨(some 4), none, .mv (.t 3)⟩, ⟨(some 5), none, .mv (.t 0)⟩, ⟨(some 6), none, .len 0 (.t 5)⟩, ⟨(some 7), none, .bin .lss (.t 4) (.t 6)⟩])
  (.cond (.t 7)
    .skip
    (.exit 0)))
  (.seq (.block 1 (.seq (.region [⟨(some 10), none, .mv (.t 0)⟩, ⟨(some 11), none, .mv (.t 3)⟩, ⟨(some 12), none, .ixStr (.t 10) (.t 11)⟩, ⟨(some 13), none, .call i_gatepostref01_tchar [(.t 12)]⟩, ⟨(some 14), none, .un .not (.t 13)⟩])
  (.cond (.t 14)
    (.seq (.region [⟨(some 2), none, .mv (.c (.bool false))⟩])
    .ret)
    .skip)))
  (.region [⟨(some 8), none, .mv (.t 3)⟩, ⟨(some 9), none, .bin .add (.t 8) (.c (.int .i64 1))⟩, ⟨(some 3), none, .mv (.t 9)⟩])))
def b_gatepostref01_Is_0 (L : FuncId → List V → V → Prop) (K : V → Heap → Prop) (N0 : Env → Heap → Prop) (e : Env) (h : Heap) : Prop :=
    (wi F L (.len 0 (.c (e 0))) E0 h fun v6 h =>
    (wi F L (.bin .lss (.c (e 3)) (.c v6)) E0 h fun v7 h =>
    (wb v7
    (k_gatepostref01_Is_1 L K N0 (upd (upd (upd (upd e 4 (e 3)) 5 (e 0)) 6 v6) 7 v7) (e 0) (e 3) h)
    (k_gatepostref01_Is_0 L K (e 0) h))))
theorem l_gatepostref01_Is_0 {L : FuncId → List V → V → Prop} {K : V → Heap → Prop} (I : Nat → Env → Heap → Prop) (hr : ∀ n e h, I n e h → b_gatepostref01_Is_0 L K (fun e' h' => ∃ m, m < n ∧ I m e' h') e h) {n : Nat} {e : Env} {h : Heap} (hi : I n e h) : Wl F L lc_gatepostref01_Is_0 (q_gatepostref01_Is_0 L K) e h :=
  wloopp (b := b_gatepostref01_Is_0 L K) I (fun _ _ _ => by kernel_rfl) hr hi
def p_gatepostref01_Is (L : FuncId → List V → V → Prop) (K : V → Heap → Prop) (a0 : V) (h : Heap) : Prop :=
    (Wl F L lc_gatepostref01_Is_0 (q_gatepostref01_Is_0 L K) (upd (upd (enterE [a0]) 2 (.bool false)) 3 (.int .i64 0)) h)
theorem run_gatepostref01_Is {L : FuncId → List V → V → Prop} {K : V → Heap → Prop} {a0 : V} {h : Heap} (hp : p_gatepostref01_Is L K a0 h) : Cf F L i_gatepostref01_Is [a0] h K :=
  wcallp F_gatepostref01_Is (show 1 ≤ 18 by decide) (p := p_gatepostref01_Is L K a0 h) (by kernel_rfl) hp
def p_token_Value (L : FuncId → List V → V → Prop) (K : V → Heap → Prop) (a0 : V) (h : Heap) : Prop :=
    (wi F L (.call i_token_Trim [(.c a0)]) E0 h fun v4 h =>
    (wi F L (.bin .eql (.c v4) (.c a0)) E0 h fun v6 h =>
    (wg v6 true (wi F L (.mv (.c a0)) E0 h) h fun v8 h =>
    (wg v6 true (wi F L (.call i_token_all [(.c v8), (.c (.fn i_token_Value_1 []))]) E0 h) h fun v9 h =>
    (wi F L (.pick (.c v6) (.c v9) (.c (.bool false))) E0 h fun v10 h =>
    (∃ v, some v10 = some v ∧ K v h))))))
theorem run_token_Value {L : FuncId → List V → V → Prop} {K : V → Heap → Prop} {a0 : V} {h : Heap} (hp : p_token_Value L K a0 h) : Cf F L i_token_Value [a0] h K :=
  wcallp F_token_Value (show 1 ≤ 11 by decide) (p := p_token_Value L K a0 h) (by kernel_rfl) hp
def k_gatepostref01_Value_0 (L : FuncId → List V → V → Prop) (K : V → Heap → Prop) (v0 : V) (h : Heap) : Prop :=
    (wi F L (.bin .eql (.c v0) (.c (.str []))) E0 h fun v26 h =>
    (wg v26 false (wi F L (.mv (.c v0)) E0 h) h fun v28 h =>
    (wg v26 false (wi F L (.ixStr (.c v28) (.c (.int .i64 0))) E0 h) h fun v29 h =>
    (wg v26 false (wi F L (.call i_gatepostref01_blank [(.c v29)]) E0 h) h fun v30 h =>
    (wg v26 false (wi F L (.un .not (.c v30)) E0 h) h fun v31 h =>
    (wg v26 false (wi F L (.mv (.c v31)) E0 h) h fun v32 h =>
    (wg v32 true (wi F L (.mv (.c v0)) E0 h) h fun v33 h =>
    (wg v32 true (wi F L (.mv (.c v0)) E0 h) h fun v34 h =>
    (wg v32 true (wi F L (.len 0 (.c v34)) E0 h) h fun v35 h =>
    (wg v32 true (wi F L (.bin .sub (.c v35) (.c (.int .i64 1))) E0 h) h fun v36 h =>
    (wg v32 true (wi F L (.ixStr (.c v33) (.c v36)) E0 h) h fun v37 h =>
    (wg v32 true (wi F L (.call i_gatepostref01_blank [(.c v37)]) E0 h) h fun v38 h =>
    (wg v32 true (wi F L (.un .not (.c v38)) E0 h) h fun v39 h =>
    (wg v26 false (wi F L (.pick (.c v32) (.c v39) (.c (.bool false))) E0 h) h fun v40 h =>
    (wi F L (.pick (.c v26) (.c (.bool true)) (.c v40)) E0 h fun v41 h =>
    (∃ v, some v41 = some v ∧ K v h))))))))))))))))
def k_gatepostref01_Value_2 (L : FuncId → List V → V → Prop) (K : V → Heap → Prop) (N0 : Env → Heap → Prop) (e : Env) (v3 : V) (h : Heap) : Prop :=
    (wi F L (.bin .add (.c v3) (.c (.int .i64 1))) E0 h fun v10 h =>
    (N0 (upd (upd (upd e 9 v3) 10 v10) 3 v10) h))
def k_gatepostref01_Value_1 (L : FuncId → List V → V → Prop) (K : V → Heap → Prop) (N0 : Env → Heap → Prop) (e : Env) (v0 v3 : V) (h : Heap) : Prop :=
    (wi F L (.ixStr (.c v0) (.c v3)) E0 h fun v13 h =>
    (wi F L (.call i_gatepostref01_blank [(.c v13)]) E0 h fun v15 h =>
    (wi F L (.un .not (.c v15)) E0 h fun v16 h =>
    (wg v16 true (wi F L (.mv (.c v13)) E0 h) h fun v18 h =>
    (wg v16 true (wi F L (.bin .lss (.c v18) (.c (.int .u8 33))) E0 h) h fun v19 h =>
    (wg v16 true (wi F L (.mv (.c v19)) E0 h) h fun v20 h =>
    (wg v20 false (wi F L (.mv (.c v13)) E0 h) h fun v21 h =>
    (wg v20 false (wi F L (.bin .eql (.c v21) (.c (.int .u8 127))) E0 h) h fun v22 h =>
    (wg v16 true (wi F L (.pick (.c v20) (.c (.bool true)) (.c v22)) E0 h) h fun v23 h =>
    (wi F L (.pick (.c v16) (.c v23) (.c (.bool false))) E0 h fun v24 h =>
    (wb v24
    (∃ v, some (.bool false) = some v ∧ K v h)
    (k_gatepostref01_Value_2 L K N0 (upd (upd (upd (upd (upd (upd (upd (upd (upd (upd (upd (upd (upd (upd (upd e 11 v0) 12 v3) 13 v13) 4 v13) 14 v13) 15 v15) 16 v16) 17 v16) 18 v18) 19 v19) 20 v20) 21 v21) 22 v22) 23 v23) 24 v24) v3 h))))))))))))
def q_gatepostref01_Value_0 (L : FuncId → List V → V → Prop) (K : V → Heap → Prop) : X → Env → Heap → Prop := (fun x => (seqX (fun e h => k_gatepostref01_Value_0 L K (e 0) h) (retX c_gatepostref01_Value.results K)) (X.out 0 x))
def lc_gatepostref01_Value_0 : C :=
  (.seq (.seq (.region [⟨(some 5), none, .mv (.t 3)⟩, ⟨(some 6), none, .mv (.t 0)⟩, ⟨(some 7), none, .len 0 (.t 6)⟩, ⟨(some 8), none, .bin .lss (.t 5) (.t 7)⟩])
  (.cond (.t 8)
    .skip
    (.exit 0)))
  (.seq (.block 1 (.seq (.region [⟨(some 11), none, .mv (.t 0)⟩, ⟨(some 12), none, .mv (.t 3)⟩, ⟨(some 13), none, .ixStr (.t 11) (.t 12)⟩, ⟨(some 4), none, .mv (.t 13)⟩])
  (.seq (.region [⟨(some 14), none, .mv (.t 4)⟩, ⟨(some 15), none, .call i_gatepostref01_blank [(.t 14)]⟩, ⟨(some 16), none, .un .not (.t 15)⟩, ⟨(some 17), none, .mv (.t 16)⟩, ⟨(some 18), (some (17, true)), .mv (.t 4)⟩, ⟨(some 19), (some (17, true)), .bin .lss (.t 18) (.c (.int .u8 33))⟩, ⟨(some 20), (some (17, true)), .mv (.t 19)⟩, ⟨(some 21), (some (20, false)), .mv (.t 4)⟩, ⟨(some 22), (some (20, false)), .bin .eql (.t 21) (.c (.int .u8 127))⟩, ⟨(some 23), (some (17, true)), .pick (.t 20) (.c (.bool true)) (.t 22)⟩, ⟨(some 24), none, .pick (.t 17) (.t 23) (.c (.bool false))⟩])
  (.cond (.t 24)
    (.seq (.region [⟨(some 2), none, .mv (.c (.bool false))⟩])
    .ret)
    .skip))))
  (.region [⟨(some 9), none, .mv (.t 3)⟩, ⟨(some 10), none, .bin .add (.t 9) (.c (.int .i64 1))⟩, ⟨(some 3), none, .mv (.t 10)⟩])))
def b_gatepostref01_Value_0 (L : FuncId → List V → V → Prop) (K : V → Heap → Prop) (N0 : Env → Heap → Prop) (e : Env) (h : Heap) : Prop :=
    (wi F L (.len 0 (.c (e 0))) E0 h fun v7 h =>
    (wi F L (.bin .lss (.c (e 3)) (.c v7)) E0 h fun v8 h =>
    (wb v8
    (k_gatepostref01_Value_1 L K N0 (upd (upd (upd (upd e 5 (e 3)) 6 (e 0)) 7 v7) 8 v8) (e 0) (e 3) h)
    (k_gatepostref01_Value_0 L K (e 0) h))))
theorem l_gatepostref01_Value_0 {L : FuncId → List V → V → Prop} {K : V → Heap → Prop} (I : Nat → Env → Heap → Prop) (hr : ∀ n e h, I n e h → b_gatepostref01_Value_0 L K (fun e' h' => ∃ m, m < n ∧ I m e' h') e h) {n : Nat} {e : Env} {h : Heap} (hi : I n e h) : Wl F L lc_gatepostref01_Value_0 (q_gatepostref01_Value_0 L K) e h :=
  wloopp (b := b_gatepostref01_Value_0 L K) I (fun _ _ _ => by kernel_rfl) hr hi
def p_gatepostref01_Value (L : FuncId → List V → V → Prop) (K : V → Heap → Prop) (a0 : V) (h : Heap) : Prop :=
    (Wl F L lc_gatepostref01_Value_0 (q_gatepostref01_Value_0 L K) (upd (upd (enterE [a0]) 2 (.bool false)) 3 (.int .i64 0)) h)
theorem run_gatepostref01_Value {L : FuncId → List V → V → Prop} {K : V → Heap → Prop} {a0 : V} {h : Heap} (hp : p_gatepostref01_Value L K a0 h) : Cf F L i_gatepostref01_Value [a0] h K :=
  wcallp F_gatepostref01_Value (show 1 ≤ 42 by decide) (p := p_gatepostref01_Value L K a0 h) (by kernel_rfl) hp
def k_token_Lower_0 (L : FuncId → List V → V → Prop) (K : V → Heap → Prop) (v3 : V) (h : Heap) : Prop :=
    (wi F L (.toStr (.c v3)) E0 h fun v28 h =>
    (∃ v, some v28 = some v ∧ K v h))
def k_token_Lower_2 (L : FuncId → List V → V → Prop) (K : V → Heap → Prop) (N0 : Env → Heap → Prop) (e : Env) (v10 : V) (h : Heap) : Prop :=
    (wi F L (.bin .add (.c v10) (.c (.int .i64 1))) E0 h fun v26 h =>
    (N0 (upd (upd e 26 v26) 10 v26) h))
def k_token_Lower_1 (L : FuncId → List V → V → Prop) (K : V → Heap → Prop) (N0 : Env → Heap → Prop) (e : Env) (v3 v8 v10 : V) (h : Heap) : Prop :=
    (wi F L (.ixaSl 1 (.c v8) (.c v10)) E0 h fun v13 h =>
    (wi F L (.load false 1 (.c v13)) E0 h fun v14 h =>
    (wi F L (.bin .geq (.c v14) (.c (.int .u8 65))) E0 h fun v16 h =>
    (wg v16 true (wi F L (.mv (.c v14)) E0 h) h fun v18 h =>
    (wg v16 true (wi F L (.bin .leq (.c v18) (.c (.int .u8 90))) E0 h) h fun v19 h =>
    (wi F L (.pick (.c v16) (.c v19) (.c (.bool false))) E0 h fun v20 h =>
    (wb v20
    (wi F L (.bin .or (.c v14) (.c (.int .u8 32))) E0 h fun v24 h =>
    (wi F L (.ixaSl 1 (.c v3) (.c v10)) E0 h fun v25 h =>
    (wi F L (.store 1 (.c v25) (.c v24)) E0 h fun _ h =>
    (k_token_Lower_2 L K N0 (upd (upd (upd (upd (upd (upd (upd (upd (upd (upd (upd (upd (upd (upd (upd (upd e 12 v10) 13 v13) 14 v14) 4 v10) 5 v14) 15 v14) 16 v16) 17 v16) 18 v18) 19 v19) 20 v20) 21 v3) 22 v10) 23 v14) 24 v24) 25 v25) v10 h))))
    (k_token_Lower_2 L K N0 (upd (upd (upd (upd (upd (upd (upd (upd (upd (upd (upd e 12 v10) 13 v13) 14 v14) 4 v10) 5 v14) 15 v14) 16 v16) 17 v16) 18 v18) 19 v19) 20 v20) v10 h))))))))
def q_token_Lower_0 (L : FuncId → List V → V → Prop) (K : V → Heap → Prop) : X → Env → Heap → Prop := (fun x => (seqX (fun e h => k_token_Lower_0 L K (e 3) h) (retX c_token_Lower.results K)) (X.out 0 x))
def lc_token_Lower_0 : C :=
  (.seq (.region [⟨(some 11), none, .bin .lss (.t 10) (.t 9)⟩])
  (.seq (.cond (.t 11)
    .skip
    (.exit 0))
  (.seq (.block 1 (.seq (.region [⟨(some 12), none, .mv (.t 10)⟩, ⟨(some 13), none, .ixaSl 1 (.t 8) (.t 10)⟩, ⟨(some 14), none, .load false 1 (.t 13)⟩, ⟨(some 4), none, .mv (.t 12)⟩, ⟨(some 5), none, .mv (.t 14)⟩])
  (.seq (.region [⟨(some 15), none, .mv (.t 5)⟩, ⟨(some 16), none, .bin .geq (.t 15) (.c (.int .u8 65))⟩, ⟨(some 17), none, .mv (.t 16)⟩, ⟨(some 18), (some (17, true)), .mv (.t 5)⟩, ⟨(some 19), (some (17, true)), .bin .leq (.t 18) (.c (.int .u8 90))⟩, ⟨(some 20), none, .pick (.t 17) (.t 19) (.c (.bool false))⟩])
  (.cond (.t 20)
    (.region [⟨(some 21), none, .mv (.t 3)⟩, ⟨(some 22), none, .mv (.t 4)⟩, ⟨(some 23), none, .mv (.t 5)⟩, ⟨(some 24), none, .bin .or (.t 23) (.c (.int .u8 32))⟩, ⟨(some 25), none, .ixaSl 1 (.t 21) (.t 22)⟩, ⟨none, none, .store 1 (.t 25) (.t 24)⟩])
    .skip))))
  (.region [⟨(some 26), none, .bin .add (.t 10) (.c (.int .i64 1))⟩, ⟨(some 10), none, .mv (.t 26)⟩]))))
def b_token_Lower_0 (L : FuncId → List V → V → Prop) (K : V → Heap → Prop) (N0 : Env → Heap → Prop) (e : Env) (h : Heap) : Prop :=
    (wi F L (.bin .lss (.c (e 10)) (.c (e 9))) E0 h fun v11 h =>
    (wb v11
    (k_token_Lower_1 L K N0 (upd e 11 v11) (e 3) (e 8) (e 10) h)
    (k_token_Lower_0 L K (e 3) h)))
theorem l_token_Lower_0 {L : FuncId → List V → V → Prop} {K : V → Heap → Prop} (I : Nat → Env → Heap → Prop) (hr : ∀ n e h, I n e h → b_token_Lower_0 L K (fun e' h' => ∃ m, m < n ∧ I m e' h') e h) {n : Nat} {e : Env} {h : Heap} (hi : I n e h) : Wl F L lc_token_Lower_0 (q_token_Lower_0 L K) e h :=
  wloopp (b := b_token_Lower_0 L K) I (fun _ _ _ => by kernel_rfl) hr hi
def p_token_Lower (L : FuncId → List V → V → Prop) (K : V → Heap → Prop) (a0 : V) (h : Heap) : Prop :=
    (wi F L (.toBytes (.c a0)) E0 h fun v7 h =>
    (wi F L (.len 1 (.c v7)) E0 h fun v9 h =>
    (Wl F L lc_token_Lower_0 (q_token_Lower_0 L K) (upd (upd (upd (upd (upd (upd (upd (enterE [a0]) 2 (.str [])) 6 a0) 7 v7) 3 v7) 8 v7) 9 v9) 10 (.int .i64 0)) h)))
theorem run_token_Lower {L : FuncId → List V → V → Prop} {K : V → Heap → Prop} {a0 : V} {h : Heap} (hp : p_token_Lower L K a0 h) : Cf F L i_token_Lower [a0] h K :=
  wcallp F_token_Lower (show 1 ≤ 29 by decide) (p := p_token_Lower L K a0 h) (by kernel_rfl) hp
def k_gatepostref01_Lower_0 (L : FuncId → List V → V → Prop) (K : V → Heap → Prop) (v3 : V) (h : Heap) : Prop :=
    (∃ v, some v3 = some v ∧ K v h)
def k_gatepostref01_Lower_2 (L : FuncId → List V → V → Prop) (K : V → Heap → Prop) (N0 : Env → Heap → Prop) (e : Env) (v4 : V) (h : Heap) : Prop :=
    (wi F L (.bin .add (.c v4) (.c (.int .i64 1))) E0 h fun v11 h =>
    (N0 (upd (upd (upd e 10 v4) 11 v11) 4 v11) h))
def k_gatepostref01_Lower_3 (L : FuncId → List V → V → Prop) (K : V → Heap → Prop) (N0 : Env → Heap → Prop) (e : Env) (v3 v4 v5 : V) (h : Heap) : Prop :=
    (wi F L (.bsl 1 [(.c v5)]) E0 h fun v25 h =>
    (wi F L (.toStr (.c v25)) E0 h fun v26 h =>
    (wi F L (.bin .add (.c v3) (.c v26)) E0 h fun v27 h =>
    (k_gatepostref01_Lower_2 L K N0 (upd (upd (upd (upd (upd (upd e 23 v3) 24 v5) 25 v25) 26 v26) 27 v27) 3 v27) v4 h))))
def k_gatepostref01_Lower_1 (L : FuncId → List V → V → Prop) (K : V → Heap → Prop) (N0 : Env → Heap → Prop) (e : Env) (v0 v3 v4 : V) (h : Heap) : Prop :=
    (wi F L (.ixStr (.c v0) (.c v4)) E0 h fun v14 h =>
    (wi F L (.bin .geq (.c v14) (.c (.int .u8 65))) E0 h fun v16 h =>
    (wg v16 true (wi F L (.mv (.c v14)) E0 h) h fun v18 h =>
    (wg v16 true (wi F L (.bin .leq (.c v18) (.c (.int .u8 90))) E0 h) h fun v19 h =>
    (wi F L (.pick (.c v16) (.c v19) (.c (.bool false))) E0 h fun v20 h =>
    (wb v20
    (wi F L (.bin .add (.c v14) (.c (.int .u8 32))) E0 h fun v22 h =>
    (k_gatepostref01_Lower_3 L K N0 (upd (upd (upd (upd (upd (upd (upd (upd (upd (upd (upd (upd (upd e 12 v0) 13 v4) 14 v14) 5 v14) 15 v14) 16 v16) 17 v16) 18 v18) 19 v19) 20 v20) 21 v14) 22 v22) 5 v22) v3 v4 v22 h))
    (k_gatepostref01_Lower_3 L K N0 (upd (upd (upd (upd (upd (upd (upd (upd (upd (upd e 12 v0) 13 v4) 14 v14) 5 v14) 15 v14) 16 v16) 17 v16) 18 v18) 19 v19) 20 v20) v3 v4 v14 h)))))))
def q_gatepostref01_Lower_0 (L : FuncId → List V → V → Prop) (K : V → Heap → Prop) : X → Env → Heap → Prop := (fun x => (seqX (fun e h => k_gatepostref01_Lower_0 L K (e 3) h) (retX c_gatepostref01_Lower.results K)) (X.out 0 x))
def lc_gatepostref01_Lower_0 : C :=
  (.seq (.seq (.region [⟨(some 6), none, .mv (.t 4)⟩, ⟨(some 7), none, .mv (.t 0)⟩, ⟨(some 8), none, .len 0 (.t 7)⟩, ⟨(some 9), none, .bin .lss (.t 6) (.t 8)⟩])
  (.cond (.t 9)
    .skip
    (.exit 0)))
  (.seq (.block 1 (.seq (.region [⟨(some 12), none, .mv (.t 0)⟩, ⟨(some 13), none, .mv (.t 4)⟩, ⟨(some 14), none, .ixStr (.t 12) (.t 13)⟩, ⟨(some 5), none, .mv (.t 14)⟩])
  (.seq (.seq (.region [⟨(some 15), none, .mv (.t 5)⟩, ⟨(some 16), none, .bin .geq (.t 15) (.c (.int .u8 65))⟩, ⟨(some 17), none, .mv (.t 16)⟩, ⟨(some 18), (some (17, true)), .mv (.t 5)⟩, ⟨(some 19), (some (17, true)), .bin .leq (.t 18) (.c (.int .u8 90))⟩, ⟨(some 20), none, .pick (.t 17) (.t 19) (.c (.bool false))⟩])
  (.cond (.t 20)
    (.region [⟨(some 21), none, .mv (.t 5)⟩, ⟨(some 22), none, .bin .add (.t 21) (.c (.int .u8 32))⟩, ⟨(some 5), none, .mv (.t 22)⟩])
    .skip))
  (.region [⟨(some 23), none, .mv (.t 3)⟩, ⟨(some 24), none, .mv (.t 5)⟩, ⟨(some 25), none, .bsl 1 [(.t 24)]⟩, ⟨(some 26), none, .toStr (.t 25)⟩, ⟨(some 27), none, .bin .add (.t 23) (.t 26)⟩, ⟨(some 3), none, .mv (.t 27)⟩]))))
  (.region [⟨(some 10), none, .mv (.t 4)⟩, ⟨(some 11), none, .bin .add (.t 10) (.c (.int .i64 1))⟩, ⟨(some 4), none, .mv (.t 11)⟩])))
def b_gatepostref01_Lower_0 (L : FuncId → List V → V → Prop) (K : V → Heap → Prop) (N0 : Env → Heap → Prop) (e : Env) (h : Heap) : Prop :=
    (wi F L (.len 0 (.c (e 0))) E0 h fun v8 h =>
    (wi F L (.bin .lss (.c (e 4)) (.c v8)) E0 h fun v9 h =>
    (wb v9
    (k_gatepostref01_Lower_1 L K N0 (upd (upd (upd (upd e 6 (e 4)) 7 (e 0)) 8 v8) 9 v9) (e 0) (e 3) (e 4) h)
    (k_gatepostref01_Lower_0 L K (e 3) h))))
theorem l_gatepostref01_Lower_0 {L : FuncId → List V → V → Prop} {K : V → Heap → Prop} (I : Nat → Env → Heap → Prop) (hr : ∀ n e h, I n e h → b_gatepostref01_Lower_0 L K (fun e' h' => ∃ m, m < n ∧ I m e' h') e h) {n : Nat} {e : Env} {h : Heap} (hi : I n e h) : Wl F L lc_gatepostref01_Lower_0 (q_gatepostref01_Lower_0 L K) e h :=
  wloopp (b := b_gatepostref01_Lower_0 L K) I (fun _ _ _ => by kernel_rfl) hr hi
def p_gatepostref01_Lower (L : FuncId → List V → V → Prop) (K : V → Heap → Prop) (a0 : V) (h : Heap) : Prop :=
    (Wl F L lc_gatepostref01_Lower_0 (q_gatepostref01_Lower_0 L K) (upd (upd (upd (enterE [a0]) 2 (.str [])) 3 (.str [])) 4 (.int .i64 0)) h)
theorem run_gatepostref01_Lower {L : FuncId → List V → V → Prop} {K : V → Heap → Prop} {a0 : V} {h : Heap} (hp : p_gatepostref01_Lower L K a0 h) : Cf F L i_gatepostref01_Lower [a0] h K :=
  wcallp F_gatepostref01_Lower (show 1 ≤ 29 by decide) (p := p_gatepostref01_Lower L K a0 h) (by kernel_rfl) hp
def k_gatepostref01_Trim_1 (L : FuncId → List V → V → Prop) (K : V → Heap → Prop) (v0 : V) (h : Heap) : Prop :=
    (∃ v, some v0 = some v ∧ K v h)
def k_gatepostref01_Trim_2 (L : FuncId → List V → V → Prop) (K : V → Heap → Prop) (N0 : Env → Heap → Prop) (e : Env) (v0 : V) (h : Heap) : Prop :=
    (wi F L (.len 0 (.c v0)) E0 h fun v26 h =>
    (wi F L (.bin .sub (.c v26) (.c (.int .i64 1))) E0 h fun v27 h =>
    (wi F L (.slstr (.c v0) none (some (.c v27))) E0 h fun v28 h =>
    (N0 (upd (upd (upd (upd (upd (upd e 24 v0) 25 v0) 26 v26) 27 v27) 28 v28) 0 v28) h))))
def q_gatepostref01_Trim_0 (L : FuncId → List V → V → Prop) (K : V → Heap → Prop) : X → Env → Heap → Prop := (fun x => (seqX (fun e h => k_gatepostref01_Trim_1 L K (e 0) h) (retX c_gatepostref01_Trim.results K)) (X.out 2 x))
def lc_gatepostref01_Trim_0 : C :=
  (.seq (.seq (.region [⟨(some 13), none, .mv (.t 0)⟩, ⟨(some 14), none, .len 0 (.t 13)⟩, ⟨(some 15), none, .bin .gtr (.t 14) (.c (.int .i64 0))⟩, ⟨(some 16), none, .mv (.t 15)⟩, ⟨(some 17), (some (16, true)), .mv (.t 0)⟩, ⟨(some 18), (some (16, true)), .mv (.t 0)⟩, ⟨(some 19), (some (16, true)), .len 0 (.t 18)⟩, ⟨(some 20), (some (16, true)), .bin .sub (.t 19) (.c (.int .i64 1))⟩, ⟨(some 21), (some (16, true)), .ixStr (.t 17) (.t 20)⟩, ⟨(some 22), (some (16, true)), .call i_gatepostref01_blank [(.t 21)]⟩, ⟨(some 23), none, .pick (.t 16) (.t 22) (.c (.bool false))⟩])
  (.cond (.t 23)
    .skip
    (.exit 2)))
  (.block 3 (.region [⟨(some 24), none, .mv (.t 0)⟩, ⟨(some 25), none, .mv (.t 0)⟩, ⟨(some 26), none, .len 0 (.t 25)⟩, ⟨(some 27), none, .bin .sub (.t 26) (.c (.int .i64 1))⟩, ⟨(some 28), none, .slstr (.t 24) none (some (.t 27))⟩, ⟨(some 0), none, .mv (.t 28)⟩])))
def b_gatepostref01_Trim_0 (L : FuncId → List V → V → Prop) (K : V → Heap → Prop) (N0 : Env → Heap → Prop) (e : Env) (h : Heap) : Prop :=
    (wi F L (.len 0 (.c (e 0))) E0 h fun v14 h =>
    (wi F L (.bin .gtr (.c v14) (.c (.int .i64 0))) E0 h fun v15 h =>
    (wg v15 true (wi F L (.mv (.c (e 0))) E0 h) h fun v17 h =>
    (wg v15 true (wi F L (.mv (.c (e 0))) E0 h) h fun v18 h =>
    (wg v15 true (wi F L (.len 0 (.c v18)) E0 h) h fun v19 h =>
    (wg v15 true (wi F L (.bin .sub (.c v19) (.c (.int .i64 1))) E0 h) h fun v20 h =>
    (wg v15 true (wi F L (.ixStr (.c v17) (.c v20)) E0 h) h fun v21 h =>
    (wg v15 true (wi F L (.call i_gatepostref01_blank [(.c v21)]) E0 h) h fun v22 h =>
    (wi F L (.pick (.c v15) (.c v22) (.c (.bool false))) E0 h fun v23 h =>
    (wb v23
    (k_gatepostref01_Trim_2 L K N0 (upd (upd (upd (upd (upd (upd (upd (upd (upd (upd (upd e 13 (e 0)) 14 v14) 15 v15) 16 v15) 17 v17) 18 v18) 19 v19) 20 v20) 21 v21) 22 v22) 23 v23) (e 0) h)
    (k_gatepostref01_Trim_1 L K (e 0) h)))))))))))
theorem l_gatepostref01_Trim_0 {L : FuncId → List V → V → Prop} {K : V → Heap → Prop} (I : Nat → Env → Heap → Prop) (hr : ∀ n e h, I n e h → b_gatepostref01_Trim_0 L K (fun e' h' => ∃ m, m < n ∧ I m e' h') e h) {n : Nat} {e : Env} {h : Heap} (hi : I n e h) : Wl F L lc_gatepostref01_Trim_0 (q_gatepostref01_Trim_0 L K) e h :=
  wloopp (b := b_gatepostref01_Trim_0 L K) I (fun _ _ _ => by kernel_rfl) hr hi
def k_gatepostref01_Trim_0 (L : FuncId → List V → V → Prop) (K : V → Heap → Prop) (e : Env) (h : Heap) : Prop :=
    (Wl F L lc_gatepostref01_Trim_0 (q_gatepostref01_Trim_0 L K) e h)
def k_gatepostref01_Trim_3 (L : FuncId → List V → V → Prop) (K : V → Heap → Prop) (N0 : Env → Heap → Prop) (e : Env) (v0 : V) (h : Heap) : Prop :=
    (wi F L (.slstr (.c v0) (some (.c (.int .i64 1))) none) E0 h fun v12 h =>
    (N0 (upd (upd (upd e 11 v0) 12 v12) 0 v12) h))
def q_gatepostref01_Trim_1 (L : FuncId → List V → V → Prop) (K : V → Heap → Prop) : X → Env → Heap → Prop := (fun x => (seqX (fun e h => k_gatepostref01_Trim_0 L K e  h) (retX c_gatepostref01_Trim.results K)) (X.out 0 x))
def lc_gatepostref01_Trim_1 : C :=
  (.seq (.seq (.region [⟨(some 3), none, .mv (.t 0)⟩, ⟨(some 4), none, .len 0 (.t 3)⟩, ⟨(some 5), none, .bin .gtr (.t 4) (.c (.int .i64 0))⟩, ⟨(some 6), none, .mv (.t 5)⟩, ⟨(some 7), (some (6, true)), .mv (.t 0)⟩, ⟨(some 8), (some (6, true)), .ixStr (.t 7) (.c (.int .i64 0))⟩, ⟨(some 9), (some (6, true)), .call i_gatepostref01_blank [(.t 8)]⟩, ⟨(some 10), none, .pick (.t 6) (.t 9) (.c (.bool false))⟩])
  (.cond (.t 10)
    .skip
    (.exit 0)))
  (.block 1 (.region [⟨(some 11), none, .mv (.t 0)⟩, ⟨(some 12), none, .slstr (.t 11) (some (.c (.int .i64 1))) none⟩, ⟨(some 0), none, .mv (.t 12)⟩])))
def b_gatepostref01_Trim_1 (L : FuncId → List V → V → Prop) (K : V → Heap → Prop) (N0 : Env → Heap → Prop) (e : Env) (h : Heap) : Prop :=
    (wi F L (.len 0 (.c (e 0))) E0 h fun v4 h =>
    (wi F L (.bin .gtr (.c v4) (.c (.int .i64 0))) E0 h fun v5 h =>
    (wg v5 true (wi F L (.mv (.c (e 0))) E0 h) h fun v7 h =>
    (wg v5 true (wi F L (.ixStr (.c v7) (.c (.int .i64 0))) E0 h) h fun v8 h =>
    (wg v5 true (wi F L (.call i_gatepostref01_blank [(.c v8)]) E0 h) h fun v9 h =>
    (wi F L (.pick (.c v5) (.c v9) (.c (.bool false))) E0 h fun v10 h =>
    (wb v10
    (k_gatepostref01_Trim_3 L K N0 (upd (upd (upd (upd (upd (upd (upd (upd e 3 (e 0)) 4 v4) 5 v5) 6 v5) 7 v7) 8 v8) 9 v9) 10 v10) (e 0) h)
    (k_gatepostref01_Trim_0 L K (upd (upd (upd (upd (upd (upd (upd (upd e 3 (e 0)) 4 v4) 5 v5) 6 v5) 7 v7) 8 v8) 9 v9) 10 v10)  h))))))))
theorem l_gatepostref01_Trim_1 {L : FuncId → List V → V → Prop} {K : V → Heap → Prop} (I : Nat → Env → Heap → Prop) (hr : ∀ n e h, I n e h → b_gatepostref01_Trim_1 L K (fun e' h' => ∃ m, m < n ∧ I m e' h') e h) {n : Nat} {e : Env} {h : Heap} (hi : I n e h) : Wl F L lc_gatepostref01_Trim_1 (q_gatepostref01_Trim_1 L K) e h :=
  wloopp (b := b_gatepostref01_Trim_1 L K) I (fun _ _ _ => by kernel_rfl) hr hi
def p_gatepostref01_Trim (L : FuncId → List V → V → Prop) (K : V → Heap → Prop) (a0 : V) (h : Heap) : Prop :=
    (Wl F L lc_gatepostref01_Trim_1 (q_gatepostref01_Trim_1 L K) (upd (enterE [a0]) 2 (.str [])) h)
theorem run_gatepostref01_Trim {L : FuncId → List V → V → Prop} {K : V → Heap → Prop} {a0 : V} {h : Heap} (hp : p_gatepostref01_Trim L K a0 h) : Cf F L i_gatepostref01_Trim [a0] h K :=
  wcallp F_gatepostref01_Trim (show 1 ≤ 30 by decide) (p := p_gatepostref01_Trim L K a0 h) (by kernel_rfl) hp
def p_token_Same (L : FuncId → List V → V → Prop) (K : V → Heap → Prop) (a0 a1 : V) (h : Heap) : Prop :=
    (wi F L (.len 0 (.c a0)) E0 h fun v6 h =>
    (wi F L (.len 0 (.c a1)) E0 h fun v8 h =>
    (wi F L (.bin .eql (.c v6) (.c v8)) E0 h fun v9 h =>
    (wg v9 true (wi F L (.mv (.c a0)) E0 h) h fun v11 h =>
    (wg v9 true (wi F L (.call i_token_Lower [(.c v11)]) E0 h) h fun v12 h =>
    (wg v9 true (wi F L (.mv (.c a1)) E0 h) h fun v13 h =>
    (wg v9 true (wi F L (.call i_token_Lower [(.c v13)]) E0 h) h fun v14 h =>
    (wg v9 true (wi F L (.bin .eql (.c v12) (.c v14)) E0 h) h fun v15 h =>
    (wi F L (.pick (.c v9) (.c v15) (.c (.bool false))) E0 h fun v16 h =>
    (∃ v, some v16 = some v ∧ K v h))))))))))
theorem run_token_Same {L : FuncId → List V → V → Prop} {K : V → Heap → Prop} {a0 a1 : V} {h : Heap} (hp : p_token_Same L K a0 a1 h) : Cf F L i_token_Same [a0, a1] h K :=
  wcallp F_token_Same (show 2 ≤ 17 by decide) (p := p_token_Same L K a0 a1 h) (by kernel_rfl) hp
def p_gatepostref01_Same (L : FuncId → List V → V → Prop) (K : V → Heap → Prop) (a0 a1 : V) (h : Heap) : Prop :=
    (wi F L (.call i_gatepostref01_Lower [(.c a0)]) E0 h fun v6 h =>
    (wi F L (.call i_gatepostref01_Lower [(.c a1)]) E0 h fun v8 h =>
    (wi F L (.bin .eql (.c v6) (.c v8)) E0 h fun v9 h =>
    (∃ v, some v9 = some v ∧ K v h))))
theorem run_gatepostref01_Same {L : FuncId → List V → V → Prop} {K : V → Heap → Prop} {a0 a1 : V} {h : Heap} (hp : p_gatepostref01_Same L K a0 a1 h) : Cf F L i_gatepostref01_Same [a0, a1] h K :=
  wcallp F_gatepostref01_Same (show 2 ≤ 10 by decide) (p := p_gatepostref01_Same L K a0 a1 h) (by kernel_rfl) hp
def k_token_Pair_2 (L : FuncId → List V → V → Prop) (K : V → Heap → Prop) (v2 v3 : V) (h : Heap) : Prop :=
    (∃ v, resultsV h (enterE [v2, v3, (.bool true), (.bool true)]) [.tmp 0, .tmp 1, .tmp 2, .tmp 3] = some v ∧ K v h)
def k_token_Pair_1 (L : FuncId → List V → V → Prop) (K : V → Heap → Prop) (v2 v3 : V) (h : Heap) : Prop :=
    (wi F L (.call i_token_unquote [(.c v3)]) E0 h fun v26 h =>
    (wi F L (.ext 0 (.c v26)) E0 h fun v27 h =>
    (wi F L (.ext 1 (.c v26)) E0 h fun v28 h =>
    (wi F L (.un .not (.c v28)) E0 h fun v30 h =>
    (wb v30
    (∃ v, resultsV h (enterE [(.str []), (.str []), (.bool false), (.bool false)]) [.tmp 0, .tmp 1, .tmp 2, .tmp 3] = some v ∧ K v h)
    (k_token_Pair_2 L K v2 v27 h))))))
def k_token_Pair_0 (L : FuncId → List V → V → Prop) (K : V → Heap → Prop) (v2 v3 v4 : V) (h : Heap) : Prop :=
    (wi F L (.un .not (.c v4)) E0 h fun v16 h =>
    (wg v16 false (wi F L (.mv (.c v3)) E0 h) h fun v18 h =>
    (wg v16 false (wi F L (.call i_token_Is [(.c v18)]) E0 h) h fun v19 h =>
    (wi F L (.pick (.c v16) (.c (.bool true)) (.c v19)) E0 h fun v20 h =>
    (wb v20
    (∃ v, resultsV h (enterE [v2, v3, v4, (.bool true)]) [.tmp 0, .tmp 1, .tmp 2, .tmp 3] = some v ∧ K v h)
    (k_token_Pair_1 L K v2 v3 h))))))
def p_token_Pair (L : FuncId → List V → V → Prop) (K : V → Heap → Prop) (a0 : V) (h : Heap) : Prop :=
    (wi F L (.call i_strings_Cut [(.c a0), (.c (.str [61]))]) E0 h fun v8 h =>
    (wi F L (.ext 0 (.c v8)) E0 h fun v9 h =>
    (wi F L (.ext 1 (.c v8)) E0 h fun v10 h =>
    (wi F L (.ext 2 (.c v8)) E0 h fun v11 h =>
    (wi F L (.call i_token_Is [(.c v9)]) E0 h fun v13 h =>
    (wi F L (.un .not (.c v13)) E0 h fun v14 h =>
    (wb v14
    (∃ v, resultsV h (enterE [(.str []), (.str []), (.bool false), (.bool false)]) [.tmp 0, .tmp 1, .tmp 2, .tmp 3] = some v ∧ K v h)
    (k_token_Pair_0 L K v9 v10 v11 h))))))))
theorem run_token_Pair {L : FuncId → List V → V → Prop} {K : V → Heap → Prop} {a0 : V} {h : Heap} (hp : p_token_Pair L K a0 h) : Cf F L i_token_Pair [a0] h K :=
  wcallp F_token_Pair (show 1 ≤ 33 by decide) (p := p_token_Pair L K a0 h) (by kernel_rfl) hp
def k_gatepostref01_Pair_4 (L : FuncId → List V → V → Prop) (K : V → Heap → Prop) (v0 v6 v8 : V) (h : Heap) : Prop :=
    (wi F L (.slstr (.c v0) none (some (.c v6))) E0 h fun v51 h =>
    (∃ v, resultsV h (enterE [v51, v8, (.bool true), (.bool true)]) [.tmp 0, .tmp 1, .tmp 2, .tmp 3] = some v ∧ K v h))
def k_gatepostref01_Pair_3 (L : FuncId → List V → V → Prop) (K : V → Heap → Prop) (v0 v6 v7 : V) (h : Heap) : Prop :=
    (wi F L (.call i_gatepostref01_unquote [(.c v7)]) E0 h fun v44 h =>
    (wi F L (.ext 0 (.c v44)) E0 h fun v45 h =>
    (wi F L (.ext 1 (.c v44)) E0 h fun v46 h =>
    (wi F L (.un .not (.c v46)) E0 h fun v48 h =>
    (wb v48
    (∃ v, resultsV h (enterE [(.str []), (.str []), (.bool false), (.bool false)]) [.tmp 0, .tmp 1, .tmp 2, .tmp 3] = some v ∧ K v h)
    (k_gatepostref01_Pair_4 L K v0 v6 v45 h))))))
def k_gatepostref01_Pair_2 (L : FuncId → List V → V → Prop) (K : V → Heap → Prop) (v0 v6 : V) (h : Heap) : Prop :=
    (wi F L (.bin .add (.c v6) (.c (.int .i64 1))) E0 h fun v34 h =>
    (wi F L (.slstr (.c v0) (some (.c v34)) none) E0 h fun v35 h =>
    (wi F L (.call i_gatepostref01_Is [(.c v35)]) E0 h fun v37 h =>
    (wb v37
    (wi F L (.slstr (.c v0) none (some (.c v6))) E0 h fun v40 h =>
    (∃ v, resultsV h (enterE [v40, v35, (.bool true), (.bool true)]) [.tmp 0, .tmp 1, .tmp 2, .tmp 3] = some v ∧ K v h))
    (k_gatepostref01_Pair_3 L K v0 v6 v35 h)))))
def k_gatepostref01_Pair_1 (L : FuncId → List V → V → Prop) (K : V → Heap → Prop) (v0 v6 : V) (h : Heap) : Prop :=
    (wi F L (.len 0 (.c v0)) E0 h fun v29 h =>
    (wi F L (.bin .eql (.c v6) (.c v29)) E0 h fun v30 h =>
    (wb v30
    (∃ v, resultsV h (enterE [v0, (.str []), (.bool false), (.bool true)]) [.tmp 0, .tmp 1, .tmp 2, .tmp 3] = some v ∧ K v h)
    (k_gatepostref01_Pair_2 L K v0 v6 h))))
def k_gatepostref01_Pair_0 (L : FuncId → List V → V → Prop) (K : V → Heap → Prop) (v0 v6 : V) (h : Heap) : Prop :=
    (wi F L (.slstr (.c v0) none (some (.c v6))) E0 h fun v24 h =>
    (wi F L (.call i_gatepostref01_Is [(.c v24)]) E0 h fun v25 h =>
    (wi F L (.un .not (.c v25)) E0 h fun v26 h =>
    (wb v26
    (∃ v, resultsV h (enterE [(.str []), (.str []), (.bool false), (.bool false)]) [.tmp 0, .tmp 1, .tmp 2, .tmp 3] = some v ∧ K v h)
    (k_gatepostref01_Pair_1 L K v0 v6 h)))))
def k_gatepostref01_Pair_5 (L : FuncId → List V → V → Prop) (K : V → Heap → Prop) (N0 : Env → Heap → Prop) (e : Env) (v6 : V) (h : Heap) : Prop :=
    (wi F L (.bin .add (.c v6) (.c (.int .i64 1))) E0 h fun v21 h =>
    (N0 (upd (upd (upd e 20 v6) 21 v21) 6 v21) h))
def q_gatepostref01_Pair_0 (L : FuncId → List V → V → Prop) (K : V → Heap → Prop) : X → Env → Heap → Prop := (fun x => (seqX (fun e h => k_gatepostref01_Pair_0 L K (e 0) (e 6) h) (retX c_gatepostref01_Pair.results K)) (X.out 0 x))
def lc_gatepostref01_Pair_0 : C :=
  (.seq (.seq (.region [⟨(some 10), none, .mv (.t 6)⟩, ⟨(some 11), none, .mv (.t 0)⟩, ⟨(some 12), none, .len 0 (.t 11)⟩, ⟨(some 13), none, .bin .lss (.t 10) (.t 12)⟩, ⟨(some 14), none, .mv (.t 13)⟩, ⟨(some 15), (some (14, true)), .mv (.t 0)⟩, ⟨(some 16), (some (14, true)), .mv (.t 6)⟩, ⟨(some 17), (some (14, true)), .ixStr (.t 15) (.t 16)⟩, ⟨(some 18), (some (14, true)), .bin .neq (.t 17) (.c (.int .u8 61))⟩, ⟨(some 19), none, .pick (.t 14) (.t 18) (.c (.bool false))⟩])
  (.cond (.t 19)
    .skip
    (.exit 0)))
  (.block 1 (.region [⟨(some 20), none, .mv (.t 6)⟩, ⟨(some 21), none, .bin .add (.t 20) (.c (.int .i64 1))⟩, ⟨(some 6), none, .mv (.t 21)⟩])))
def b_gatepostref01_Pair_0 (L : FuncId → List V → V → Prop) (K : V → Heap → Prop) (N0 : Env → Heap → Prop) (e : Env) (h : Heap) : Prop :=
    (wi F L (.len 0 (.c (e 0))) E0 h fun v12 h =>
    (wi F L (.bin .lss (.c (e 6)) (.c v12)) E0 h fun v13 h =>
    (wg v13 true (wi F L (.mv (.c (e 0))) E0 h) h fun v15 h =>
    (wg v13 true (wi F L (.mv (.c (e 6))) E0 h) h fun v16 h =>
    (wg v13 true (wi F L (.ixStr (.c v15) (.c v16)) E0 h) h fun v17 h =>
    (wg v13 true (wi F L (.bin .neq (.c v17) (.c (.int .u8 61))) E0 h) h fun v18 h =>
    (wi F L (.pick (.c v13) (.c v18) (.c (.bool false))) E0 h fun v19 h =>
    (wb v19
    (k_gatepostref01_Pair_5 L K N0 (upd (upd (upd (upd (upd (upd (upd (upd (upd (upd e 10 (e 6)) 11 (e 0)) 12 v12) 13 v13) 14 v13) 15 v15) 16 v16) 17 v17) 18 v18) 19 v19) (e 6) h)
    (k_gatepostref01_Pair_0 L K (e 0) (e 6) h)))))))))
theorem l_gatepostref01_Pair_0 {L : FuncId → List V → V → Prop} {K : V → Heap → Prop} (I : Nat → Env → Heap → Prop) (hr : ∀ n e h, I n e h → b_gatepostref01_Pair_0 L K (fun e' h' => ∃ m, m < n ∧ I m e' h') e h) {n : Nat} {e : Env} {h : Heap} (hi : I n e h) : Wl F L lc_gatepostref01_Pair_0 (q_gatepostref01_Pair_0 L K) e h :=
  wloopp (b := b_gatepostref01_Pair_0 L K) I (fun _ _ _ => by kernel_rfl) hr hi
def p_gatepostref01_Pair (L : FuncId → List V → V → Prop) (K : V → Heap → Prop) (a0 : V) (h : Heap) : Prop :=
    (Wl F L lc_gatepostref01_Pair_0 (q_gatepostref01_Pair_0 L K) (upd (upd (upd (upd (upd (enterE [a0]) 2 (.str [])) 3 (.str [])) 4 (.bool false)) 5 (.bool false)) 6 (.int .i64 0)) h)
theorem run_gatepostref01_Pair {L : FuncId → List V → V → Prop} {K : V → Heap → Prop} {a0 : V} {h : Heap} (hp : p_gatepostref01_Pair L K a0 h) : Cf F L i_gatepostref01_Pair [a0] h K :=
  wcallp F_gatepostref01_Pair (show 1 ≤ 53 by decide) (p := p_gatepostref01_Pair L K a0 h) (by kernel_rfl) hp
def k_token_Quote_0 (L : FuncId → List V → V → Prop) (K : V → Heap → Prop) (v0 : V) (h : Heap) : Prop :=
    (wi F L (.call i_strings_ReplaceAll [(.c v0), (.c (.str [92])), (.c (.str [92, 92]))]) E0 h fun v8 h =>
    (wi F L (.call i_strings_ReplaceAll [(.c v8), (.c (.str [34])), (.c (.str [92, 34]))]) E0 h fun v9 h =>
    (wi F L (.bin .add (.c (.str [34])) (.c v9)) E0 h fun v10 h =>
    (wi F L (.bin .add (.c v10) (.c (.str [34]))) E0 h fun v11 h =>
    (∃ v, resultsV h (enterE [v11, (.bool true)]) [.tmp 0, .tmp 1] = some v ∧ K v h)))))
def p_token_Quote (L : FuncId → List V → V → Prop) (K : V → Heap → Prop) (a0 : V) (h : Heap) : Prop :=
    (wi F L (.call i_token_all [(.c a0), (.c (.fn i_token_inQuotes []))]) E0 h fun v5 h =>
    (wi F L (.un .not (.c v5)) E0 h fun v6 h =>
    (wb v6
    (∃ v, resultsV h (enterE [(.str []), (.bool false)]) [.tmp 0, .tmp 1] = some v ∧ K v h)
    (k_token_Quote_0 L K a0 h))))
theorem run_token_Quote {L : FuncId → List V → V → Prop} {K : V → Heap → Prop} {a0 : V} {h : Heap} (hp : p_token_Quote L K a0 h) : Cf F L i_token_Quote [a0] h K :=
  wcallp F_token_Quote (show 1 ≤ 12 by decide) (p := p_token_Quote L K a0 h) (by kernel_rfl) hp
def k_gatepostref01_Quote_0 (L : FuncId → List V → V → Prop) (K : V → Heap → Prop) (v4 : V) (h : Heap) : Prop :=
    (wi F L (.bin .add (.c (.str [34])) (.c v4)) E0 h fun v37 h =>
    (wi F L (.bin .add (.c v37) (.c (.str [34]))) E0 h fun v38 h =>
    (∃ v, resultsV h (enterE [v38, (.bool true)]) [.tmp 0, .tmp 1] = some v ∧ K v h)))
def k_gatepostref01_Quote_2 (L : FuncId → List V → V → Prop) (K : V → Heap → Prop) (N0 : Env → Heap → Prop) (e : Env) (v5 : V) (h : Heap) : Prop :=
    (wi F L (.bin .add (.c v5) (.c (.int .i64 1))) E0 h fun v11 h =>
    (N0 (upd (upd (upd e 10 v5) 11 v11) 5 v11) h))
def k_gatepostref01_Quote_4 (L : FuncId → List V → V → Prop) (K : V → Heap → Prop) (N0 : Env → Heap → Prop) (e : Env) (v0 v4 v5 : V) (h : Heap) : Prop :=
    (wi F L (.bin .add (.c v5) (.c (.int .i64 1))) E0 h fun v33 h =>
    (wi F L (.slstr (.c v0) (some (.c v5)) (some (.c v33))) E0 h fun v34 h =>
    (wi F L (.bin .add (.c v4) (.c v34)) E0 h fun v35 h =>
    (k_gatepostref01_Quote_2 L K N0 (upd (upd (upd (upd (upd (upd (upd (upd e 29 v4) 30 v0) 31 v5) 32 v5) 33 v33) 34 v34) 35 v35) 4 v35) v5 h))))
def k_gatepostref01_Quote_3 (L : FuncId → List V → V → Prop) (K : V → Heap → Prop) (N0 : Env → Heap → Prop) (e : Env) (v0 v4 v5 : V) (h : Heap) : Prop :=
    (wi F L (.ixStr (.c v0) (.c v5)) E0 h fun v19 h =>
    (wi F L (.bin .eql (.c v19) (.c (.int .u8 34))) E0 h fun v20 h =>
    (wg v20 false (wi F L (.mv (.c v0)) E0 h) h fun v22 h =>
    (wg v20 false (wi F L (.mv (.c v5)) E0 h) h fun v23 h =>
    (wg v20 false (wi F L (.ixStr (.c v22) (.c v23)) E0 h) h fun v24 h =>
    (wg v20 false (wi F L (.bin .eql (.c v24) (.c (.int .u8 92))) E0 h) h fun v25 h =>
    (wi F L (.pick (.c v20) (.c (.bool true)) (.c v25)) E0 h fun v26 h =>
    (wb v26
    (wi F L (.bin .add (.c v4) (.c (.str [92]))) E0 h fun v28 h =>
    (k_gatepostref01_Quote_4 L K N0 (upd (upd (upd (upd (upd (upd (upd (upd (upd (upd (upd (upd (upd e 17 v0) 18 v5) 19 v19) 20 v20) 21 v20) 22 v22) 23 v23) 24 v24) 25 v25) 26 v26) 27 v4) 28 v28) 4 v28) v0 v28 v5 h))
    (k_gatepostref01_Quote_4 L K N0 (upd (upd (upd (upd (upd (upd (upd (upd (upd (upd e 17 v0) 18 v5) 19 v19) 20 v20) 21 v20) 22 v22) 23 v23) 24 v24) 25 v25) 26 v26) v0 v4 v5 h)))))))))
def k_gatepostref01_Quote_1 (L : FuncId → List V → V → Prop) (K : V → Heap → Prop) (N0 : Env → Heap → Prop) (e : Env) (v0 v4 v5 : V) (h : Heap) : Prop :=
    (wi F L (.ixStr (.c v0) (.c v5)) E0 h fun v14 h =>
    (wi F L (.call i_gatepostref01_text [(.c v14)]) E0 h fun v15 h =>
    (wi F L (.un .not (.c v15)) E0 h fun v16 h =>
    (wb v16
    (∃ v, resultsV h (enterE [(.str []), (.bool false)]) [.tmp 0, .tmp 1] = some v ∧ K v h)
    (k_gatepostref01_Quote_3 L K N0 (upd (upd (upd (upd (upd e 12 v0) 13 v5) 14 v14) 15 v15) 16 v16) v0 v4 v5 h)))))
def q_gatepostref01_Quote_0 (L : FuncId → List V → V → Prop) (K : V → Heap → Prop) : X → Env → Heap → Prop := (fun x => (seqX (fun e h => k_gatepostref01_Quote_0 L K (e 4) h) (retX c_gatepostref01_Quote.results K)) (X.out 0 x))
def lc_gatepostref01_Quote_0 : C :=
  (.seq (.seq (.region [⟨(some 6), none, .mv (.t 5)⟩, ⟨(some 7), none, .mv (.t 0)⟩, ⟨(some 8), none, .len 0 (.t 7)⟩, ⟨(some 9), none, .bin .lss (.t 6) (.t 8)⟩])
  (.cond (.t 9)
    .skip
    (.exit 0)))
  (.seq (.block 1 (.seq (.seq (.region [⟨(some 12), none, .mv (.t 0)⟩, ⟨(some 13), none, .mv (.t 5)⟩, ⟨(some 14), none, .ixStr (.t 12) (.t 13)⟩, ⟨(some 15), none, .call i_gatepostref01_text [(.t 14)]⟩, ⟨(some 16), none, .un .not (.t 15)⟩])
  (.cond (.t 16)
    (.seq (.region [⟨(some 2), none, .mv (.c (.str []))⟩, ⟨(some 3), none, .mv (.c (.bool false))⟩])
    .ret)
    .skip))
  (.seq (.seq (.region [⟨(some 17), none, .mv (.t 0)⟩, ⟨(some 18), none, .mv (.t 5)⟩, ⟨(some 19), none, .ixStr (.t 17) (.t 18)⟩, ⟨(some 20), none, .bin .eql (.t 19) (.c (.int .u8 34))⟩, ⟨(some 21), none, .mv (.t 20)⟩, ⟨(some 22), (some (21, false)), .mv (.t 0)⟩, ⟨(some 23), (some (21, false)), .mv (.t 5)⟩, ⟨(some 24), (some (21, false)), .ixStr (.t 22) (.t 23)⟩, ⟨(some 25), (some (21, false)), .bin .eql (.t 24) (.c (.int .u8 92))⟩, ⟨(some 26), none, .pick (.t 21) (.c (.bool true)) (.t 25)⟩])
  (.cond (.t 26)
    (.region [⟨(some 27), none, .mv (.t 4)⟩, ⟨(some 28), none, .bin .add (.t 27) (.c (.str [92]))⟩, ⟨(some 4), none, .mv (.t 28)⟩])
    .skip))
  (.region [⟨(some 29), none, .mv (.t 4)⟩, ⟨(some 30), none, .mv (.t 0)⟩, ⟨(some 31), none, .mv (.t 5)⟩, ⟨(some 32), none, .mv (.t 5)⟩, ⟨(some 33), none, .bin .add (.t 32) (.c (.int .i64 1))⟩, ⟨(some 34), none, .slstr (.t 30) (some (.t 31)) (some (.t 33))⟩, ⟨(some 35), none, .bin .add (.t 29) (.t 34)⟩, ⟨(some 4), none, .mv (.t 35)⟩]))))
  (.region [⟨(some 10), none, .mv (.t 5)⟩, ⟨(some 11), none, .bin .add (.t 10) (.c (.int .i64 1))⟩, ⟨(some 5), none, .mv (.t 11)⟩])))
def b_gatepostref01_Quote_0 (L : FuncId → List V → V → Prop) (K : V → Heap → Prop) (N0 : Env → Heap → Prop) (e : Env) (h : Heap) : Prop :=
    (wi F L (.len 0 (.c (e 0))) E0 h fun v8 h =>
    (wi F L (.bin .lss (.c (e 5)) (.c v8)) E0 h fun v9 h =>
    (wb v9
    (k_gatepostref01_Quote_1 L K N0 (upd (upd (upd (upd e 6 (e 5)) 7 (e 0)) 8 v8) 9 v9) (e 0) (e 4) (e 5) h)
    (k_gatepostref01_Quote_0 L K (e 4) h))))
theorem l_gatepostref01_Quote_0 {L : FuncId → List V → V → Prop} {K : V → Heap → Prop} (I : Nat → Env → Heap → Prop) (hr : ∀ n e h, I n e h → b_gatepostref01_Quote_0 L K (fun e' h' => ∃ m, m < n ∧ I m e' h') e h) {n : Nat} {e : Env} {h : Heap} (hi : I n e h) : Wl F L lc_gatepostref01_Quote_0 (q_gatepostref01_Quote_0 L K) e h :=
  wloopp (b := b_gatepostref01_Quote_0 L K) I (fun _ _ _ => by kernel_rfl) hr hi
def p_gatepostref01_Quote (L : FuncId → List V → V → Prop) (K : V → Heap → Prop) (a0 : V) (h : Heap) : Prop :=
    (Wl F L lc_gatepostref01_Quote_0 (q_gatepostref01_Quote_0 L K) (upd (upd (upd (upd (enterE [a0]) 2 (.str [])) 3 (.bool false)) 4 (.str [])) 5 (.int .i64 0)) h)
theorem run_gatepostref01_Quote {L : FuncId → List V → V → Prop} {K : V → Heap → Prop} {a0 : V} {h : Heap} (hp : p_gatepostref01_Quote L K a0 h) : Cf F L i_gatepostref01_Quote [a0] h K :=
  wcallp F_gatepostref01_Quote (show 1 ≤ 39 by decide) (p := p_gatepostref01_Quote L K a0 h) (by kernel_rfl) hp
def k_strings_Trim_2 (L : FuncId → List V → V → Prop) (K : V → Heap → Prop) (v0 v1 : V) (h : Heap) : Prop :=
    (wi F L (.call i_strings_trimRightUnicode [(.c v0), (.c v1)]) E0 h fun v40 h =>
    (wi F L (.call i_strings_trimLeftUnicode [(.c v40), (.c v1)]) E0 h fun v42 h =>
    (∃ v, some v42 = some v ∧ K v h)))
def k_strings_Trim_1 (L : FuncId → List V → V → Prop) (K : V → Heap → Prop) (v0 v1 : V) (h : Heap) : Prop :=
    (wi F L (.call i_strings_makeASCIISet [(.c v1)]) E0 h fun v31 h =>
    (wi F L (.ext 0 (.c v31)) E0 h fun v32 h =>
    (wi F L (.ext 1 (.c v31)) E0 h fun v33 h =>
    (wi F L (.boxz (List.replicate 256 (.bool false))) E0 h fun v5 h =>
    (wi F L (.store 256 (.c v5) (.c v32)) E0 h fun _ h =>
    (wb v33
    (wi F L (.call i_strings_trimRightASCII [(.c v0), (.c v5)]) E0 h fun v36 h =>
    (wi F L (.call i_strings_trimLeftASCII [(.c v36), (.c v5)]) E0 h fun v37 h =>
    (∃ v, some v37 = some v ∧ K v h)))
    (k_strings_Trim_2 L K v0 v1 h)))))))
def k_strings_Trim_0 (L : FuncId → List V → V → Prop) (K : V → Heap → Prop) (v0 v1 : V) (h : Heap) : Prop :=
    (wi F L (.len 0 (.c v1)) E0 h fun v15 h =>
    (wi F L (.bin .eql (.c v15) (.c (.int .i64 1))) E0 h fun v16 h =>
    (wg v16 true (wi F L (.mv (.c v1)) E0 h) h fun v18 h =>
    (wg v16 true (wi F L (.ixStr (.c v18) (.c (.int .i64 0))) E0 h) h fun v19 h =>
    (wg v16 true (wi F L (.bin .lss (.c v19) (.c (.int .u8 128))) E0 h) h fun v20 h =>
    (wi F L (.pick (.c v16) (.c v20) (.c (.bool false))) E0 h fun v21 h =>
    (wb v21
    (wi F L (.ixStr (.c v1) (.c (.int .i64 0))) E0 h fun v24 h' => Ext h h' ∧
    (wi F L (.call i_strings_trimRightByte [(.c v0), (.c v24)]) E0 h' fun v25 h => Ext h' h ∧
    (wi F L (.ixStr (.c v1) (.c (.int .i64 0))) E0 h fun v27 h' => Ext h h' ∧
    (wi F L (.call i_strings_trimLeftByte [(.c v25), (.c v27)]) E0 h' fun v28 h =>
    (∃ v, some v28 = some v ∧ K v h)))))
    (k_strings_Trim_1 L K v0 v1 h))))))))
def p_strings_Trim (L : FuncId → List V → V → Prop) (K : V → Heap → Prop) (a0 a1 : V) (h : Heap) : Prop :=
    (wi F L (.bin .eql (.c a0) (.c (.str []))) E0 h fun v8 h =>
    (wg v8 false (wi F L (.mv (.c a1)) E0 h) h fun v10 h =>
    (wg v8 false (wi F L (.bin .eql (.c v10) (.c (.str []))) E0 h) h fun v11 h =>
    (wi F L (.pick (.c v8) (.c (.bool true)) (.c v11)) E0 h fun v12 h =>
    (wb v12
    (∃ v, some a0 = some v ∧ K v h)
    (k_strings_Trim_0 L K a0 a1 h))))))
theorem run_strings_Trim {L : FuncId → List V → V → Prop} {K : V → Heap → Prop} {a0 a1 : V} {h : Heap} (hp : p_strings_Trim L K a0 a1 h) : Cf F L i_strings_Trim [a0, a1] h K :=
  wcallp F_strings_Trim (show 2 ≤ 43 by decide) (p := p_strings_Trim L K a0 a1 h) (by kernel_rfl) hp
def k_token_Split_1_0 (L : FuncId → List V → V → Prop) (K : V → Heap → Prop) (v0 v2 : V) (h : Heap) : Prop :=
    (wi F L (.bin .add (.c v0) (.c (.int .i64 1))) E0 h fun v18 h =>
    (wi F L (.store 1 (.c v2) (.c v18)) E0 h fun _ h =>
    (∃ v, resultsV h (enterE []) [] = some v ∧ K v h)))
def p_token_Split_1 (L : FuncId → List V → V → Prop) (K : V → Heap → Prop) (a0 a1 a2 a3 : V) (h : Heap) : Prop :=
    (wi F L (.load false 1 (.c a1)) E0 h fun v6 h =>
    (wi F L (.load false 1 (.c a2)) E0 h fun v7 h =>
    (wi F L (.slstr (.c v6) (some (.c v7)) (some (.c a0))) E0 h fun v9 h =>
    (wi F L (.call i_token_Trim [(.c v9)]) E0 h fun v10 h =>
    (wi F L (.bin .neq (.c v10) (.c (.str []))) E0 h fun v12 h =>
    (wb v12
    (wi F L (.load false 1 (.c a3)) E0 h fun v13 h =>
    (wi F L (.bsl 1 [(.c v10)]) E0 h fun v15 h =>
    (wi F L (.app 1 16 false (.c v13) (.c v15)) E0 h fun v16 h =>
    (wi F L (.store 1 (.c a3) (.c v16)) E0 h fun _ h =>
    (k_token_Split_1_0 L K a0 a2 h)))))
    (k_token_Split_1_0 L K a0 a2 h)))))))
theorem run_token_Split_1 {L : FuncId → List V → V → Prop} {K : V → Heap → Prop} {a0 a1 a2 a3 : V} {h : Heap} (hp : p_token_Split_1 L K a0 a1 a2 a3 h) : Cf F L i_token_Split_1 [a0, a1, a2, a3] h K :=
  wcallp F_token_Split_1 (show 4 ≤ 19 by decide) (p := p_token_Split_1 L K a0 a1 a2 a3 h) (by kernel_rfl) hp
def k_token_all_0 (L : FuncId → List V → V → Prop) (K : V → Heap → Prop) (h : Heap) : Prop :=
    (∃ v, some (.bool true) = some v ∧ K v h)
def k_token_all_2 (L : FuncId → List V → V → Prop) (K : V → Heap → Prop) (N0 : Env → Heap → Prop) (e : Env) (v8 : V) (h : Heap) : Prop :=
    (wi F L (.bin .add (.c v8) (.c (.int .i64 1))) E0 h fun v17 h =>
    (N0 (upd (upd e 17 v17) 8 v17) h))
def k_token_all_1 (L : FuncId → List V → V → Prop) (K : V → Heap → Prop) (N0 : Env → Heap → Prop) (e : Env) (v0 v1 v8 : V) (h : Heap) : Prop :=
    (wi F L (.ixStr (.c v0) (.c v8)) E0 h fun v14 h =>
    (wi F L (.callv (.c v1) [(.c v14)]) E0 h fun v15 h =>
    (wi F L (.un .not (.c v15)) E0 h fun v16 h =>
    (wb v16
    (∃ v, some (.bool false) = some v ∧ K v h)
    (k_token_all_2 L K N0 (upd (upd (upd (upd (upd (upd (upd (upd e 10 v8) 5 v8) 11 v1) 12 v0) 13 v8) 14 v14) 15 v15) 16 v16) v8 h)))))
def q_token_all_0 (L : FuncId → List V → V → Prop) (K : V → Heap → Prop) : X → Env → Heap → Prop := (fun x => (seqX (fun e h => k_token_all_0 L K  h) (retX c_token_all.results K)) (X.out 0 x))
def lc_token_all_0 : C :=
  (.seq (.region [⟨(some 9), none, .bin .lss (.t 8) (.t 7)⟩])
  (.seq (.cond (.t 9)
    .skip
    (.exit 0))
  (.seq (.block 1 (.seq (.region [⟨(some 10), none, .mv (.t 8)⟩, ⟨(some 5), none, .mv (.t 10)⟩])
  (.seq (.region [⟨(some 11), none, .mv (.t 1)⟩, ⟨(some 12), none, .mv (.t 0)⟩, ⟨(some 13), none, .mv (.t 5)⟩, ⟨(some 14), none, .ixStr (.t 12) (.t 13)⟩, ⟨(some 15), none, .callv (.t 11) [(.t 14)]⟩, ⟨(some 16), none, .un .not (.t 15)⟩])
  (.cond (.t 16)
    (.seq (.region [⟨(some 4), none, .mv (.c (.bool false))⟩])
    .ret)
    .skip))))
  (.region [⟨(some 17), none, .bin .add (.t 8) (.c (.int .i64 1))⟩, ⟨(some 8), none, .mv (.t 17)⟩]))))
def b_token_all_0 (L : FuncId → List V → V → Prop) (K : V → Heap → Prop) (N0 : Env → Heap → Prop) (e : Env) (h : Heap) : Prop :=
    (wi F L (.bin .lss (.c (e 8)) (.c (e 7))) E0 h fun v9 h =>
    (wb v9
    (k_token_all_1 L K N0 (upd e 9 v9) (e 0) (e 1) (e 8) h)
    (k_token_all_0 L K  h)))
theorem l_token_all_0 {L : FuncId → List V → V → Prop} {K : V → Heap → Prop} (I : Nat → Env → Heap → Prop) (hr : ∀ n e h, I n e h → b_token_all_0 L K (fun e' h' => ∃ m, m < n ∧ I m e' h') e h) {n : Nat} {e : Env} {h : Heap} (hi : I n e h) : Wl F L lc_token_all_0 (q_token_all_0 L K) e h :=
  wloopp (b := b_token_all_0 L K) I (fun _ _ _ => by kernel_rfl) hr hi
def p_token_all (L : FuncId → List V → V → Prop) (K : V → Heap → Prop) (a0 a1 : V) (h : Heap) : Prop :=
    (wi F L (.len 0 (.c a0)) E0 h fun v7 h =>
    (Wl F L lc_token_all_0 (q_token_all_0 L K) (upd (upd (upd (upd (enterE [a0, a1]) 4 (.bool false)) 6 a0) 7 v7) 8 (.int .i64 0)) h))
theorem run_token_all {L : FuncId → List V → V → Prop} {K : V → Heap → Prop} {a0 a1 : V} {h : Heap} (hp : p_token_all L K a0 a1 h) : Cf F L i_token_all [a0, a1] h K :=
  wcallp F_token_all (show 2 ≤ 18 by decide) (p := p_token_all L K a0 a1 h) (by kernel_rfl) hp
def k_token_inToken_1 (L : FuncId → List V → V → Prop) (K : V → Heap → Prop) (h : Heap) : Prop :=
    (∃ v, some (.bool false) = some v ∧ K v h)
def k_token_inToken_3 (L : FuncId → List V → V → Prop) (K : V → Heap → Prop) (N0 : Env → Heap → Prop) (e : Env) (v23 : V) (h : Heap) : Prop :=
    (wi F L (.bin .add (.c v23) (.c (.int .i64 1))) E0 h fun v29 h =>
    (N0 (upd (upd e 29 v29) 23 v29) h))
def k_token_inToken_2 (L : FuncId → List V → V → Prop) (K : V → Heap → Prop) (N0 : Env → Heap → Prop) (e : Env) (v0 v22 v23 : V) (h : Heap) : Prop :=
    (wi F L (.ixArr 15 1 false (.c v22) (.c v23)) E0 h fun v25 h =>
    (wi F L (.bin .eql (.c v25) (.c v0)) E0 h fun v28 h =>
    (wb v28
    (∃ v, some (.bool true) = some v ∧ K v h)
    (k_token_inToken_3 L K N0 (upd (upd (upd (upd (upd e 25 v25) 5 v25) 26 v25) 27 v0) 28 v28) v23 h))))
def q_token_inToken_0 (L : FuncId → List V → V → Prop) (K : V → Heap → Prop) : X → Env → Heap → Prop := (fun x => (seqX (fun e h => k_token_inToken_1 L K  h) (retX c_token_inToken.results K)) (X.out 0 x))
def lc_token_inToken_0 : C :=
  (.seq (.region [⟨(some 24), none, .bin .lss (.t 23) (.c (.int .i64 15))⟩])
  (.seq (.cond (.t 24)
    .skip
    (.exit 0))
  (.seq (.block 1 (.seq (.region [⟨(some 25), none, .ixArr 15 1 false (.t 22) (.t 23)⟩, ⟨(some 5), none, .mv (.t 25)⟩])
  (.seq (.region [⟨(some 26), none, .mv (.t 5)⟩, ⟨(some 27), none, .mv (.t 0)⟩, ⟨(some 28), none, .bin .eql (.t 26) (.t 27)⟩])
  (.cond (.t 28)
    (.seq (.region [⟨(some 2), none, .mv (.c (.bool true))⟩])
    .ret)
    .skip))))
  (.region [⟨(some 29), none, .bin .add (.t 23) (.c (.int .i64 1))⟩, ⟨(some 23), none, .mv (.t 29)⟩]))))
def b_token_inToken_0 (L : FuncId → List V → V → Prop) (K : V → Heap → Prop) (N0 : Env → Heap → Prop) (e : Env) (h : Heap) : Prop :=
    (wi F L (.bin .lss (.c (e 23)) (.c (.int .i64 15))) E0 h fun v24 h =>
    (wb v24
    (k_token_inToken_2 L K N0 (upd e 24 v24) (e 0) (e 22) (e 23) h)
    (k_token_inToken_1 L K  h)))
theorem l_token_inToken_0 {L : FuncId → List V → V → Prop} {K : V → Heap → Prop} (I : Nat → Env → Heap → Prop) (hr : ∀ n e h, I n e h → b_token_inToken_0 L K (fun e' h' => ∃ m, m < n ∧ I m e' h') e h) {n : Nat} {e : Env} {h : Heap} (hi : I n e h) : Wl F L lc_token_inToken_0 (q_token_inToken_0 L K) e h :=
  wloopp (b := b_token_inToken_0 L K) I (fun _ _ _ => by kernel_rfl) hr hi
def k_token_inToken_0 (L : FuncId → List V → V → Prop) (K : V → Heap → Prop) (e : Env) (h : Heap) : Prop :=
    (wi F L (.call i_token_marks []) E0 h fun v22 h =>
    (Wl F L lc_token_inToken_0 (q_token_inToken_0 L K) (upd (upd e 22 v22) 23 (.int .i64 0)) h))
def p_token_inToken (L : FuncId → List V → V → Prop) (K : V → Heap → Prop) (a0 : V) (h : Heap) : Prop :=
    (wi F L (.bin .or (.c a0) (.c (.int .u8 32))) E0 h fun v7 h =>
    (wi F L (.bin .geq (.c v7) (.c (.int .u8 97))) E0 h fun v9 h =>
    (wg v9 true (wi F L (.mv (.c v7)) E0 h) h fun v11 h =>
    (wg v9 true (wi F L (.bin .leq (.c v11) (.c (.int .u8 122))) E0 h) h fun v12 h =>
    (wi F L (.pick (.c v9) (.c v12) (.c (.bool false))) E0 h fun v13 h =>
    (wg v13 false (wi F L (.mv (.c a0)) E0 h) h fun v15 h =>
    (wg v13 false (wi F L (.bin .geq (.c v15) (.c (.int .u8 48))) E0 h) h fun v16 h =>
    (wg v13 false (wi F L (.mv (.c v16)) E0 h) h fun v17 h =>
    (wg v17 true (wi F L (.mv (.c a0)) E0 h) h fun v18 h =>
    (wg v17 true (wi F L (.bin .leq (.c v18) (.c (.int .u8 57))) E0 h) h fun v19 h =>
    (wg v13 false (wi F L (.pick (.c v17) (.c v19) (.c (.bool false))) E0 h) h fun v20 h =>
    (wi F L (.pick (.c v13) (.c (.bool true)) (.c v20)) E0 h fun v21 h =>
    (wb v21
    (∃ v, some (.bool true) = some v ∧ K v h)
    (k_token_inToken_0 L K (upd (upd (upd (upd (upd (upd (upd (upd (upd (upd (upd (upd (upd (upd (upd (upd (upd (upd (enterE [a0]) 2 (.bool false)) 6 a0) 7 v7) 3 v7) 8 v7) 9 v9) 10 v9) 11 v11) 12 v12) 13 v13) 14 v13) 15 v15) 16 v16) 17 v17) 18 v18) 19 v19) 20 v20) 21 v21)  h))))))))))))))
theorem run_token_inToken {L : FuncId → List V → V → Prop} {K : V → Heap → Prop} {a0 : V} {h : Heap} (hp : p_token_inToken L K a0 h) : Cf F L i_token_inToken [a0] h K :=
  wcallp F_token_inToken (show 1 ≤ 30 by decide) (p := p_token_inToken L K a0 h) (by kernel_rfl) hp
def k_gatepostref01_tchar_1 (L : FuncId → List V → V → Prop) (K : V → Heap → Prop) (h : Heap) : Prop :=
    (∃ v, some (.bool false) = some v ∧ K v h)
def k_gatepostref01_tchar_2 (L : FuncId → List V → V → Prop) (K : V → Heap → Prop) (v26 : V) (h : Heap) : Prop :=
    (wb v26
    (∃ v, some (.bool true) = some v ∧ K v h)
    (k_gatepostref01_tchar_1 L K  h))
def k_gatepostref01_tchar_0 (L : FuncId → List V → V → Prop) (K : V → Heap → Prop) (v0 : V) (h : Heap) : Prop :=
    (wi F L (.bin .eql (.c v0) (.c (.int .u8 33))) E0 h fun v27 h =>
    (wb v27
    (k_gatepostref01_tchar_2 L K v27 h)
    (wi F L (.bin .eql (.c v0) (.c (.int .u8 35))) E0 h fun v28 h =>
    (wb v28
    (k_gatepostref01_tchar_2 L K v28 h)
    (wi F L (.bin .eql (.c v0) (.c (.int .u8 36))) E0 h fun v29 h =>
    (wb v29
    (k_gatepostref01_tchar_2 L K v29 h)
    (wi F L (.bin .eql (.c v0) (.c (.int .u8 37))) E0 h fun v30 h =>
    (wb v30
    (k_gatepostref01_tchar_2 L K v30 h)
    (wi F L (.bin .eql (.c v0) (.c (.int .u8 38))) E0 h fun v31 h =>
    (wb v31
    (k_gatepostref01_tchar_2 L K v31 h)
    (wi F L (.bin .eql (.c v0) (.c (.int .u8 39))) E0 h fun v32 h =>
    (wb v32
    (k_gatepostref01_tchar_2 L K v32 h)
    (wi F L (.bin .eql (.c v0) (.c (.int .u8 42))) E0 h fun v33 h =>
    (wb v33
    (k_gatepostref01_tchar_2 L K v33 h)
    (wi F L (.bin .eql (.c v0) (.c (.int .u8 43))) E0 h fun v34 h =>
    (wb v34
    (k_gatepostref01_tchar_2 L K v34 h)
    (wi F L (.bin .eql (.c v0) (.c (.int .u8 45))) E0 h fun v35 h =>
    (wb v35
    (k_gatepostref01_tchar_2 L K v35 h)
    (wi F L (.bin .eql (.c v0) (.c (.int .u8 46))) E0 h fun v36 h =>
    (wb v36
    (k_gatepostref01_tchar_2 L K v36 h)
    (wi F L (.bin .eql (.c v0) (.c (.int .u8 94))) E0 h fun v37 h =>
    (wb v37
    (k_gatepostref01_tchar_2 L K v37 h)
    (wi F L (.bin .eql (.c v0) (.c (.int .u8 95))) E0 h fun v38 h =>
    (wb v38
    (k_gatepostref01_tchar_2 L K v38 h)
    (wi F L (.bin .eql (.c v0) (.c (.int .u8 96))) E0 h fun v39 h =>
    (wb v39
    (k_gatepostref01_tchar_2 L K v39 h)
    (wi F L (.bin .eql (.c v0) (.c (.int .u8 124))) E0 h fun v40 h =>
    (wb v40
    (k_gatepostref01_tchar_2 L K v40 h)
    (wi F L (.bin .eql (.c v0) (.c (.int .u8 126))) E0 h fun v41 h =>
    (k_gatepostref01_tchar_2 L K v41 h))))))))))))))))))))))))))))))
def p_gatepostref01_tchar (L : FuncId → List V → V → Prop) (K : V → Heap → Prop) (a0 : V) (h : Heap) : Prop :=
    (wi F L (.bin .geq (.c a0) (.c (.int .u8 97))) E0 h fun v4 h =>
    (wg v4 true (wi F L (.mv (.c a0)) E0 h) h fun v6 h =>
    (wg v4 true (wi F L (.bin .leq (.c v6) (.c (.int .u8 122))) E0 h) h fun v7 h =>
    (wi F L (.pick (.c v4) (.c v7) (.c (.bool false))) E0 h fun v8 h =>
    (wg v8 false (wi F L (.mv (.c a0)) E0 h) h fun v10 h =>
    (wg v8 false (wi F L (.bin .geq (.c v10) (.c (.int .u8 65))) E0 h) h fun v11 h =>
    (wg v8 false (wi F L (.mv (.c v11)) E0 h) h fun v12 h =>
    (wg v12 true (wi F L (.mv (.c a0)) E0 h) h fun v13 h =>
    (wg v12 true (wi F L (.bin .leq (.c v13) (.c (.int .u8 90))) E0 h) h fun v14 h =>
    (wg v8 false (wi F L (.pick (.c v12) (.c v14) (.c (.bool false))) E0 h) h fun v15 h =>
    (wi F L (.pick (.c v8) (.c (.bool true)) (.c v15)) E0 h fun v16 h =>
    (wg v16 false (wi F L (.mv (.c a0)) E0 h) h fun v18 h =>
    (wg v16 false (wi F L (.bin .geq (.c v18) (.c (.int .u8 48))) E0 h) h fun v19 h =>
    (wg v16 false (wi F L (.mv (.c v19)) E0 h) h fun v20 h =>
    (wg v20 true (wi F L (.mv (.c a0)) E0 h) h fun v21 h =>
    (wg v20 true (wi F L (.bin .leq (.c v21) (.c (.int .u8 57))) E0 h) h fun v22 h =>
    (wg v16 false (wi F L (.pick (.c v20) (.c v22) (.c (.bool false))) E0 h) h fun v23 h =>
    (wi F L (.pick (.c v16) (.c (.bool true)) (.c v23)) E0 h fun v24 h =>
    (wb v24
    (∃ v, some (.bool true) = some v ∧ K v h)
    (k_gatepostref01_tchar_0 L K a0 h))))))))))))))))))))
theorem run_gatepostref01_tchar {L : FuncId → List V → V → Prop} {K : V → Heap → Prop} {a0 : V} {h : Heap} (hp : p_gatepostref01_tchar L K a0 h) : Cf F L i_gatepostref01_tchar [a0] h K :=
  wcallp F_gatepostref01_tchar (show 1 ≤ 42 by decide) (p := p_gatepostref01_tchar L K a0 h) (by kernel_rfl) hp
def p_token_Value_1 (L : FuncId → List V → V → Prop) (K : V → Heap → Prop) (a0 : V) (h : Heap) : Prop :=
    (wi F L (.call i_token_isBlank [(.c a0)]) E0 h fun v4 h =>
    (wg v4 false (wi F L (.mv (.c a0)) E0 h) h fun v6 h =>
    (wg v4 false (wi F L (.bin .gtr (.c v6) (.c (.int .u8 32))) E0 h) h fun v7 h =>
    (wg v4 false (wi F L (.mv (.c v7)) E0 h) h fun v8 h =>
    (wg v8 true (wi F L (.mv (.c a0)) E0 h) h fun v9 h =>
    (wg v8 true (wi F L (.bin .neq (.c v9) (.c (.int .u8 127))) E0 h) h fun v10 h =>
    (wg v4 false (wi F L (.pick (.c v8) (.c v10) (.c (.bool false))) E0 h) h fun v11 h =>
    (wi F L (.pick (.c v4) (.c (.bool true)) (.c v11)) E0 h fun v12 h =>
    (∃ v, some v12 = some v ∧ K v h)))))))))
theorem run_token_Value_1 {L : FuncId → List V → V → Prop} {K : V → Heap → Prop} {a0 : V} {h : Heap} (hp : p_token_Value_1 L K a0 h) : Cf F L i_token_Value_1 [a0] h K :=
  wcallp F_token_Value_1 (show 1 ≤ 13 by decide) (p := p_token_Value_1 L K a0 h) (by kernel_rfl) hp
def p_token_isBlank (L : FuncId → List V → V → Prop) (K : V → Heap → Prop) (a0 : V) (h : Heap) : Prop :=
    (wi F L (.bin .eql (.c a0) (.c (.int .u8 32))) E0 h fun v4 h =>
    (wg v4 false (wi F L (.mv (.c a0)) E0 h) h fun v6 h =>
    (wg v4 false (wi F L (.bin .eql (.c v6) (.c (.int .u8 9))) E0 h) h fun v7 h =>
    (wi F L (.pick (.c v4) (.c (.bool true)) (.c v7)) E0 h fun v8 h =>
    (∃ v, some v8 = some v ∧ K v h)))))
theorem run_token_isBlank {L : FuncId → List V → V → Prop} {K : V → Heap → Prop} {a0 : V} {h : Heap} (hp : p_token_isBlank L K a0 h) : Cf F L i_token_isBlank [a0] h K :=
  wcallp F_token_isBlank (show 1 ≤ 9 by decide) (p := p_token_isBlank L K a0 h) (by kernel_rfl) hp
def p_gatepostref01_blank (L : FuncId → List V → V → Prop) (K : V → Heap → Prop) (a0 : V) (h : Heap) : Prop :=
    (wi F L (.bin .eql (.c a0) (.c (.int .u8 32))) E0 h fun v4 h =>
    (wg v4 false (wi F L (.mv (.c a0)) E0 h) h fun v6 h =>
    (wg v4 false (wi F L (.bin .eql (.c v6) (.c (.int .u8 9))) E0 h) h fun v7 h =>
    (wi F L (.pick (.c v4) (.c (.bool true)) (.c v7)) E0 h fun v8 h =>
    (∃ v, some v8 = some v ∧ K v h)))))
theorem run_gatepostref01_blank {L : FuncId → List V → V → Prop} {K : V → Heap → Prop} {a0 : V} {h : Heap} (hp : p_gatepostref01_blank L K a0 h) : Cf F L i_gatepostref01_blank [a0] h K :=
  wcallp F_gatepostref01_blank (show 1 ≤ 9 by decide) (p := p_gatepostref01_blank L K a0 h) (by kernel_rfl) hp
def p_strings_Cut (L : FuncId → List V → V → Prop) (K : V → Heap → Prop) (a0 a1 : V) (h : Heap) : Prop :=
    (wi F L (.call i_internal_stringslite_Cut [(.c a0), (.c a1)]) E0 h fun v9 h =>
    (wi F L (.ext 0 (.c v9)) E0 h fun v10 h =>
    (wi F L (.ext 1 (.c v9)) E0 h fun v11 h =>
    (wi F L (.ext 2 (.c v9)) E0 h fun v12 h =>
    (∃ v, resultsV h (enterE [v10, v11, v12]) [.tmp 0, .tmp 1, .tmp 2] = some v ∧ K v h)))))
theorem run_strings_Cut {L : FuncId → List V → V → Prop} {K : V → Heap → Prop} {a0 a1 : V} {h : Heap} (hp : p_strings_Cut L K a0 a1 h) : Cf F L i_strings_Cut [a0, a1] h K :=
  wcallp F_strings_Cut (show 2 ≤ 13 by decide) (p := p_strings_Cut L K a0 a1 h) (by kernel_rfl) hp
def k_token_unquote_0 (L : FuncId → List V → V → Prop) (K : V → Heap → Prop) (h : Heap) : Prop :=
    (∃ v, resultsV h (enterE [(.str []), (.bool false)]) [.tmp 0, .tmp 1] = some v ∧ K v h)
def k_token_unquote_2 (L : FuncId → List V → V → Prop) (K : V → Heap → Prop) (N0 : Env → Heap → Prop) (e : Env) (v7 : V) (h : Heap) : Prop :=
    (wi F L (.bin .add (.c v7) (.c (.int .i64 1))) E0 h fun v22 h =>
    (N0 (upd (upd (upd e 21 v7) 22 v22) 7 v22) h))
def k_token_unquote_4 (L : FuncId → List V → V → Prop) (K : V → Heap → Prop) (N0 : Env → Heap → Prop) (e : Env) (v6 v7 v8 : V) (h : Heap) : Prop :=
    (wi F L (.call i_token_inQuotes [(.c v8)]) E0 h fun v46 h =>
    (wi F L (.call i___strings_Builder__WriteByte [(.c v6), (.c v8)]) E0 h fun v48 h =>
    (k_token_unquote_2 L K N0 (upd (upd (upd (upd (upd e 45 v8) 46 v46) 5 v46) 47 v8) 48 v48) v7 h)))
def k_token_unquote_5 (L : FuncId → List V → V → Prop) (K : V → Heap → Prop) (N0 : Env → Heap → Prop) (e : Env) (v4 v6 v7 : V) (h : Heap) : Prop :=
    (wi F L (.ixStr (.c v4) (.c v7)) E0 h fun v44 h =>
    (k_token_unquote_4 L K N0 (upd (upd (upd (upd e 42 v4) 43 v7) 44 v44) 8 v44) v6 v7 v44 h))
def k_token_unquote_3 (L : FuncId → List V → V → Prop) (K : V → Heap → Prop) (N0 : Env → Heap → Prop) (e : Env) (v4 v6 v7 v8 : V) (h : Heap) : Prop :=
    (wi F L (.bin .eql (.c v8) (.c (.int .u8 92))) E0 h fun v35 h =>
    (wb v35
    (wi F L (.bin .add (.c v7) (.c (.int .i64 1))) E0 h fun v37 h =>
    (wi F L (.len 0 (.c v4)) E0 h fun v40 h =>
    (wi F L (.bin .eql (.c v37) (.c v40)) E0 h fun v41 h =>
    (wb v41
    (k_token_unquote_0 L K  h)
    (k_token_unquote_5 L K N0 (upd (upd (upd (upd (upd (upd (upd (upd (upd e 34 v8) 35 v35) 36 v7) 37 v37) 7 v37) 38 v37) 39 v4) 40 v40) 41 v41) v4 v6 v37 h)))))
    (k_token_unquote_4 L K N0 (upd (upd e 34 v8) 35 v35) v6 v7 v8 h)))
def k_token_unquote_1 (L : FuncId → List V → V → Prop) (K : V → Heap → Prop) (N0 : Env → Heap → Prop) (e : Env) (v4 v6 v7 : V) (h : Heap) : Prop :=
    (wi F L (.ixStr (.c v4) (.c v7)) E0 h fun v25 h =>
    (wi F L (.bin .eql (.c v25) (.c (.int .u8 34))) E0 h fun v27 h =>
    (wb v27
    (wi F L (.call i___strings_Builder__String [(.c v6)]) E0 h fun v28 h =>
    (wi F L (.len 0 (.c v4)) E0 h fun v31 h =>
    (wi F L (.bin .sub (.c v31) (.c (.int .i64 1))) E0 h fun v32 h =>
    (wi F L (.bin .eql (.c v7) (.c v32)) E0 h fun v33 h =>
    (∃ v, resultsV h (enterE [v28, v33]) [.tmp 0, .tmp 1] = some v ∧ K v h)))))
    (k_token_unquote_3 L K N0 (upd (upd (upd (upd (upd (upd e 23 v4) 24 v7) 25 v25) 8 v25) 26 v25) 27 v27) v4 v6 v7 v25 h))))
def q_token_unquote_0 (L : FuncId → List V → V → Prop) (K : V → Heap → Prop) : X → Env → Heap → Prop := (fun x => (seqX (fun e h => k_token_unquote_0 L K  h) (retX c_token_unquote.results K)) (X.out 0 x))
def lc_token_unquote_0 : C :=
  (.seq (.seq (.region [⟨(some 14), none, .mv (.t 5)⟩, ⟨(some 15), none, .mv (.t 14)⟩, ⟨(some 16), (some (15, true)), .mv (.t 7)⟩, ⟨(some 17), (some (15, true)), .mv (.t 4)⟩, ⟨(some 18), (some (15, true)), .len 0 (.t 17)⟩, ⟨(some 19), (some (15, true)), .bin .lss (.t 16) (.t 18)⟩, ⟨(some 20), none, .pick (.t 15) (.t 19) (.c (.bool false))⟩])
  (.cond (.t 20)
    .skip
    (.exit 0)))
  (.seq (.block 1 (.seq (.region [⟨(some 23), none, .mv (.t 4)⟩, ⟨(some 24), none, .mv (.t 7)⟩, ⟨(some 25), none, .ixStr (.t 23) (.t 24)⟩, ⟨(some 8), none, .mv (.t 25)⟩])
  (.seq (.seq (.region [⟨(some 26), none, .mv (.t 8)⟩, ⟨(some 27), none, .bin .eql (.t 26) (.c (.int .u8 34))⟩])
  (.cond (.t 27)
    (.seq (.region [⟨(some 28), none, .call i___strings_Builder__String [(.t 6)]⟩, ⟨(some 29), none, .mv (.t 7)⟩, ⟨(some 30), none, .mv (.t 4)⟩, ⟨(some 31), none, .len 0 (.t 30)⟩, ⟨(some 32), none, .bin .sub (.t 31) (.c (.int .i64 1))⟩, ⟨(some 33), none, .bin .eql (.t 29) (.t 32)⟩, ⟨(some 2), none, .mv (.t 28)⟩, ⟨(some 3), none, .mv (.t 33)⟩])
    .ret)
    .skip))
  (.seq (.seq (.region [⟨(some 34), none, .mv (.t 8)⟩, ⟨(some 35), none, .bin .eql (.t 34) (.c (.int .u8 92))⟩])
  (.cond (.t 35)
    (.seq (.seq (.region [⟨(some 36), none, .mv (.t 7)⟩, ⟨(some 37), none, .bin .add (.t 36) (.c (.int .i64 1))⟩, ⟨(some 7), none, .mv (.t 37)⟩])
    (.seq (.region [⟨(some 38), none, .mv (.t 7)⟩, ⟨(some 39), none, .mv (.t 4)⟩, ⟨(some 40), none, .len 0 (.t 39)⟩, ⟨(some 41), none, .bin .eql (.t 38) (.t 40)⟩])
    (.cond (.t 41)
      (.exit 0)
      .skip)))
    (.region [⟨(some 42), none, .mv (.t 4)⟩, ⟨(some 43), none, .mv (.t 7)⟩, ⟨(some 44), none, .ixStr (.t 42) (.t 43)⟩, ⟨(some 8), none, .mv (.t 44)⟩]))
    .skip))
  (.seq (.region [⟨(some 45), none, .mv (.t 8)⟩, ⟨(some 46), none, .call i_token_inQuotes [(.t 45)]⟩, ⟨(some 5), none, .mv (.t 46)⟩])
  (.region [⟨(some 47), none, .mv (.t 8)⟩, ⟨(some 48), none, .call i___strings_Builder__WriteByte [(.t 6), (.t 47)]⟩]))))))
  (.region [⟨(some 21), none, .mv (.t 7)⟩, ⟨(some 22), none, .bin .add (.t 21) (.c (.int .i64 1))⟩, ⟨(some 7), none, .mv (.t 22)⟩])))
def b_token_unquote_0 (L : FuncId → List V → V → Prop) (K : V → Heap → Prop) (N0 : Env → Heap → Prop) (e : Env) (h : Heap) : Prop :=
    (wg (e 5) true (wi F L (.mv (.c (e 7))) E0 h) h fun v16 h =>
    (wg (e 5) true (wi F L (.mv (.c (e 4))) E0 h) h fun v17 h =>
    (wg (e 5) true (wi F L (.len 0 (.c v17)) E0 h) h fun v18 h =>
    (wg (e 5) true (wi F L (.bin .lss (.c v16) (.c v18)) E0 h) h fun v19 h =>
    (wi F L (.pick (.c (e 5)) (.c v19) (.c (.bool false))) E0 h fun v20 h =>
    (wb v20
    (k_token_unquote_1 L K N0 (upd (upd (upd (upd (upd (upd (upd e 14 (e 5)) 15 (e 5)) 16 v16) 17 v17) 18 v18) 19 v19) 20 v20) (e 4) (e 6) (e 7) h)
    (k_token_unquote_0 L K  h)))))))
theorem l_token_unquote_0 {L : FuncId → List V → V → Prop} {K : V → Heap → Prop} (I : Nat → Env → Heap → Prop) (hr : ∀ n e h, I n e h → b_token_unquote_0 L K (fun e' h' => ∃ m, m < n ∧ I m e' h') e h) {n : Nat} {e : Env} {h : Heap} (hi : I n e h) : Wl F L lc_token_unquote_0 (q_token_unquote_0 L K) e h :=
  wloopp (b := b_token_unquote_0 L K) I (fun _ _ _ => by kernel_rfl) hr hi
def p_token_unquote (L : FuncId → List V → V → Prop) (K : V → Heap → Prop) (a0 : V) (h : Heap) : Prop :=
    (wi F L (.call i_strings_CutPrefix [(.c a0), (.c (.str [34]))]) E0 h fun v11 h =>
    (wi F L (.ext 0 (.c v11)) E0 h fun v12 h =>
    (wi F L (.ext 1 (.c v11)) E0 h fun v13 h =>
    (wi F L (.boxz [.nilp, .nsl]) E0 h fun v6 h =>
    (Wl F L lc_token_unquote_0 (q_token_unquote_0 L K) (upd (upd (upd (upd (upd (upd (upd (upd (upd (upd (upd (enterE [a0]) 2 (.str [])) 3 (.bool false)) 10 a0) 11 v11) 9 v11) 12 v12) 13 v13) 4 v12) 5 v13) 6 v6) 7 (.int .i64 0)) h)))))
theorem run_token_unquote {L : FuncId → List V → V → Prop} {K : V → Heap → Prop} {a0 : V} {h : Heap} (hp : p_token_unquote L K a0 h) : Cf F L i_token_unquote [a0] h K :=
  wcallp F_token_unquote (show 1 ≤ 49 by decide) (p := p_token_unquote L K a0 h) (by kernel_rfl) hp
def k_gatepostref01_unquote_1 (L : FuncId → List V → V → Prop) (K : V → Heap → Prop) (v0 v4 v5 : V) (h : Heap) : Prop :=
    (wi F L (.len 0 (.c v0)) E0 h fun v53 h =>
    (wi F L (.bin .sub (.c v53) (.c (.int .i64 1))) E0 h fun v54 h =>
    (wi F L (.bin .eql (.c v5) (.c v54)) E0 h fun v55 h =>
    (∃ v, resultsV h (enterE [v4, v55]) [.tmp 0, .tmp 1] = some v ∧ K v h))))
def k_gatepostref01_unquote_4 (L : FuncId → List V → V → Prop) (K : V → Heap → Prop) (N0 : Env → Heap → Prop) (e : Env) (v0 v4 v5 : V) (h : Heap) : Prop :=
    (wi F L (.bin .add (.c v5) (.c (.int .i64 1))) E0 h fun v45 h =>
    (wi F L (.slstr (.c v0) (some (.c v5)) (some (.c v45))) E0 h fun v46 h =>
    (wi F L (.bin .add (.c v4) (.c v46)) E0 h fun v47 h =>
    (wi F L (.bin .add (.c v5) (.c (.int .i64 1))) E0 h fun v49 h =>
    (N0 (upd (upd (upd (upd (upd (upd (upd (upd (upd (upd (upd e 41 v4) 42 v0) 43 v5) 44 v5) 45 v45) 46 v46) 47 v47) 4 v47) 48 v5) 49 v49) 5 v49) h)))))
def k_gatepostref01_unquote_3 (L : FuncId → List V → V → Prop) (K : V → Heap → Prop) (N0 : Env → Heap → Prop) (e : Env) (v0 v4 v5 : V) (h : Heap) : Prop :=
    (wi F L (.len 0 (.c v0)) E0 h fun v32 h =>
    (wi F L (.bin .geq (.c v5) (.c v32)) E0 h fun v33 h =>
    (wg v33 false (wi F L (.mv (.c v0)) E0 h) h fun v35 h =>
    (wg v33 false (wi F L (.mv (.c v5)) E0 h) h fun v36 h =>
    (wg v33 false (wi F L (.ixStr (.c v35) (.c v36)) E0 h) h fun v37 h =>
    (wg v33 false (wi F L (.call i_gatepostref01_text [(.c v37)]) E0 h) h fun v38 h =>
    (wg v33 false (wi F L (.un .not (.c v38)) E0 h) h fun v39 h =>
    (wi F L (.pick (.c v33) (.c (.bool true)) (.c v39)) E0 h fun v40 h =>
    (wb v40
    (∃ v, resultsV h (enterE [(.str []), (.bool false)]) [.tmp 0, .tmp 1] = some v ∧ K v h)
    (k_gatepostref01_unquote_4 L K N0 (upd (upd (upd (upd (upd (upd (upd (upd (upd (upd (upd e 30 v5) 31 v0) 32 v32) 33 v33) 34 v33) 35 v35) 36 v36) 37 v37) 38 v38) 39 v39) 40 v40) v0 v4 v5 h))))))))))
def k_gatepostref01_unquote_2 (L : FuncId → List V → V → Prop) (K : V → Heap → Prop) (N0 : Env → Heap → Prop) (e : Env) (v0 v4 v5 : V) (h : Heap) : Prop :=
    (wi F L (.ixStr (.c v0) (.c v5)) E0 h fun v26 h =>
    (wi F L (.bin .eql (.c v26) (.c (.int .u8 92))) E0 h fun v27 h =>
    (wb v27
    (wi F L (.bin .add (.c v5) (.c (.int .i64 1))) E0 h fun v29 h =>
    (k_gatepostref01_unquote_3 L K N0 (upd (upd (upd (upd (upd (upd (upd e 24 v0) 25 v5) 26 v26) 27 v27) 28 v5) 29 v29) 5 v29) v0 v4 v29 h))
    (k_gatepostref01_unquote_3 L K N0 (upd (upd (upd (upd e 24 v0) 25 v5) 26 v26) 27 v27) v0 v4 v5 h))))
def q_gatepostref01_unquote_0 (L : FuncId → List V → V → Prop) (K : V → Heap → Prop) : X → Env → Heap → Prop := (fun x => (seqX (fun e h => k_gatepostref01_unquote_1 L K (e 0) (e 4) (e 5) h) (retX c_gatepostref01_unquote.results K)) (X.out 0 x))
def lc_gatepostref01_unquote_0 : C :=
  (.seq (.seq (.region [⟨(some 14), none, .mv (.t 5)⟩, ⟨(some 15), none, .mv (.t 0)⟩, ⟨(some 16), none, .len 0 (.t 15)⟩, ⟨(some 17), none, .bin .lss (.t 14) (.t 16)⟩, ⟨(some 18), none, .mv (.t 17)⟩, ⟨(some 19), (some (18, true)), .mv (.t 0)⟩, ⟨(some 20), (some (18, true)), .mv (.t 5)⟩, ⟨(some 21), (some (18, true)), .ixStr (.t 19) (.t 20)⟩, ⟨(some 22), (some (18, true)), .bin .neq (.t 21) (.c (.int .u8 34))⟩, ⟨(some 23), none, .pick (.t 18) (.t 22) (.c (.bool false))⟩])
  (.cond (.t 23)
    .skip
    (.exit 0)))
  (.block 1 (.seq (.seq (.region [⟨(some 24), none, .mv (.t 0)⟩, ⟨(some 25), none, .mv (.t 5)⟩, ⟨(some 26), none, .ixStr (.t 24) (.t 25)⟩, ⟨(some 27), none, .bin .eql (.t 26) (.c (.int .u8 92))⟩])
  (.cond (.t 27)
    (.region [⟨(some 28), none, .mv (.t 5)⟩, ⟨(some 29), none, .bin .add (.t 28) (.c (.int .i64 1))⟩, ⟨(some 5), none, .mv (.t 29)⟩])
    .skip))
  (.seq (.seq (.region [⟨(some 30), none, .mv (.t 5)⟩, ⟨(some 31), none, .mv (.t 0)⟩, ⟨(some 32), none, .len 0 (.t 31)⟩, ⟨(some 33), none, .bin .geq (.t 30) (.t 32)⟩, ⟨(some 34), none, .mv (.t 33)⟩, ⟨(some 35), (some (34, false)), .mv (.t 0)⟩, ⟨(some 36), (some (34, false)), .mv (.t 5)⟩, ⟨(some 37), (some (34, false)), .ixStr (.t 35) (.t 36)⟩, ⟨(some 38), (some (34, false)), .call i_gatepostref01_text [(.t 37)]⟩, ⟨(some 39), (some (34, false)), .un .not (.t 38)⟩, ⟨(some 40), none, .pick (.t 34) (.c (.bool true)) (.t 39)⟩])
  (.cond (.t 40)
    (.seq (.region [⟨(some 2), none, .mv (.c (.str []))⟩, ⟨(some 3), none, .mv (.c (.bool false))⟩])
    .ret)
    .skip))
  (.seq (.region [⟨(some 41), none, .mv (.t 4)⟩, ⟨(some 42), none, .mv (.t 0)⟩, ⟨(some 43), none, .mv (.t 5)⟩, ⟨(some 44), none, .mv (.t 5)⟩, ⟨(some 45), none, .bin .add (.t 44) (.c (.int .i64 1))⟩, ⟨(some 46), none, .slstr (.t 42) (some (.t 43)) (some (.t 45))⟩, ⟨(some 47), none, .bin .add (.t 41) (.t 46)⟩, ⟨(some 4), none, .mv (.t 47)⟩])
  (.region [⟨(some 48), none, .mv (.t 5)⟩, ⟨(some 49), none, .bin .add (.t 48) (.c (.int .i64 1))⟩, ⟨(some 5), none, .mv (.t 49)⟩]))))))
def b_gatepostref01_unquote_0 (L : FuncId → List V → V → Prop) (K : V → Heap → Prop) (N0 : Env → Heap → Prop) (e : Env) (h : Heap) : Prop :=
    (wi F L (.len 0 (.c (e 0))) E0 h fun v16 h =>
    (wi F L (.bin .lss (.c (e 5)) (.c v16)) E0 h fun v17 h =>
    (wg v17 true (wi F L (.mv (.c (e 0))) E0 h) h fun v19 h =>
    (wg v17 true (wi F L (.mv (.c (e 5))) E0 h) h fun v20 h =>
    (wg v17 true (wi F L (.ixStr (.c v19) (.c v20)) E0 h) h fun v21 h =>
    (wg v17 true (wi F L (.bin .neq (.c v21) (.c (.int .u8 34))) E0 h) h fun v22 h =>
    (wi F L (.pick (.c v17) (.c v22) (.c (.bool false))) E0 h fun v23 h =>
    (wb v23
    (k_gatepostref01_unquote_2 L K N0 (upd (upd (upd (upd (upd (upd (upd (upd (upd (upd e 14 (e 5)) 15 (e 0)) 16 v16) 17 v17) 18 v17) 19 v19) 20 v20) 21 v21) 22 v22) 23 v23) (e 0) (e 4) (e 5) h)
    (k_gatepostref01_unquote_1 L K (e 0) (e 4) (e 5) h)))))))))
theorem l_gatepostref01_unquote_0 {L : FuncId → List V → V → Prop} {K : V → Heap → Prop} (I : Nat → Env → Heap → Prop) (hr : ∀ n e h, I n e h → b_gatepostref01_unquote_0 L K (fun e' h' => ∃ m, m < n ∧ I m e' h') e h) {n : Nat} {e : Env} {h : Heap} (hi : I n e h) : Wl F L lc_gatepostref01_unquote_0 (q_gatepostref01_unquote_0 L K) e h :=
  wloopp (b := b_gatepostref01_unquote_0 L K) I (fun _ _ _ => by kernel_rfl) hr hi
def k_gatepostref01_unquote_0 (L : FuncId → List V → V → Prop) (K : V → Heap → Prop) (e : Env) (h : Heap) : Prop :=
    (Wl F L lc_gatepostref01_unquote_0 (q_gatepostref01_unquote_0 L K) (upd (upd e 4 (.str [])) 5 (.int .i64 1)) h)
def p_gatepostref01_unquote (L : FuncId → List V → V → Prop) (K : V → Heap → Prop) (a0 : V) (h : Heap) : Prop :=
    (wi F L (.len 0 (.c a0)) E0 h fun v7 h =>
    (wi F L (.bin .lss (.c v7) (.c (.int .i64 2))) E0 h fun v8 h =>
    (wg v8 false (wi F L (.mv (.c a0)) E0 h) h fun v10 h =>
    (wg v8 false (wi F L (.ixStr (.c v10) (.c (.int .i64 0))) E0 h) h fun v11 h =>
    (wg v8 false (wi F L (.bin .neq (.c v11) (.c (.int .u8 34))) E0 h) h fun v12 h =>
    (wi F L (.pick (.c v8) (.c (.bool true)) (.c v12)) E0 h fun v13 h =>
    (wb v13
    (∃ v, resultsV h (enterE [(.str []), (.bool false)]) [.tmp 0, .tmp 1] = some v ∧ K v h)
    (k_gatepostref01_unquote_0 L K (upd (upd (upd (upd (upd (upd (upd (upd (upd (upd (enterE [a0]) 2 (.str [])) 3 (.bool false)) 6 a0) 7 v7) 8 v8) 9 v8) 10 v10) 11 v11) 12 v12) 13 v13)  h))))))))
theorem run_gatepostref01_unquote {L : FuncId → List V → V → Prop} {K : V → Heap → Prop} {a0 : V} {h : Heap} (hp : p_gatepostref01_unquote L K a0 h) : Cf F L i_gatepostref01_unquote [a0] h K :=
  wcallp F_gatepostref01_unquote (show 1 ≤ 56 by decide) (p := p_gatepostref01_unquote L K a0 h) (by kernel_rfl) hp
def p_token_inQuotes (L : FuncId → List V → V → Prop) (K : V → Heap → Prop) (a0 : V) (h : Heap) : Prop :=
    (wi F L (.bin .eql (.c a0) (.c (.int .u8 9))) E0 h fun v4 h =>
    (wg v4 false (wi F L (.mv (.c a0)) E0 h) h fun v6 h =>
    (wg v4 false (wi F L (.bin .geq (.c v6) (.c (.int .u8 32))) E0 h) h fun v7 h =>
    (wg v4 false (wi F L (.mv (.c v7)) E0 h) h fun v8 h =>
    (wg v8 true (wi F L (.mv (.c a0)) E0 h) h fun v9 h =>
    (wg v8 true (wi F L (.bin .neq (.c v9) (.c (.int .u8 127))) E0 h) h fun v10 h =>
    (wg v4 false (wi F L (.pick (.c v8) (.c v10) (.c (.bool false))) E0 h) h fun v11 h =>
    (wi F L (.pick (.c v4) (.c (.bool true)) (.c v11)) E0 h fun v12 h =>
    (∃ v, some v12 = some v ∧ K v h)))))))))
theorem run_token_inQuotes {L : FuncId → List V → V → Prop} {K : V → Heap → Prop} {a0 : V} {h : Heap} (hp : p_token_inQuotes L K a0 h) : Cf F L i_token_inQuotes [a0] h K :=
  wcallp F_token_inQuotes (show 1 ≤ 13 by decide) (p := p_token_inQuotes L K a0 h) (by kernel_rfl) hp
def p_gatepostref01_text (L : FuncId → List V → V → Prop) (K : V → Heap → Prop) (a0 : V) (h : Heap) : Prop :=
    (wi F L (.bin .eql (.c a0) (.c (.int .u8 9))) E0 h fun v4 h =>
    (wg v4 false (wi F L (.mv (.c a0)) E0 h) h fun v6 h =>
    (wg v4 false (wi F L (.bin .geq (.c v6) (.c (.int .u8 32))) E0 h) h fun v7 h =>
    (wg v4 false (wi F L (.mv (.c v7)) E0 h) h fun v8 h =>
    (wg v8 true (wi F L (.mv (.c a0)) E0 h) h fun v9 h =>
    (wg v8 true (wi F L (.bin .neq (.c v9) (.c (.int .u8 127))) E0 h) h fun v10 h =>
    (wg v4 false (wi F L (.pick (.c v8) (.c v10) (.c (.bool false))) E0 h) h fun v11 h =>
    (wi F L (.pick (.c v4) (.c (.bool true)) (.c v11)) E0 h fun v12 h =>
    (∃ v, some v12 = some v ∧ K v h)))))))))
theorem run_gatepostref01_text {L : FuncId → List V → V → Prop} {K : V → Heap → Prop} {a0 : V} {h : Heap} (hp : p_gatepostref01_text L K a0 h) : Cf F L i_gatepostref01_text [a0] h K :=
  wcallp F_gatepostref01_text (show 1 ≤ 13 by decide) (p := p_gatepostref01_text L K a0 h) (by kernel_rfl) hp
def k_strings_makeASCIISet_0 (L : FuncId → List V → V → Prop) (K : V → Heap → Prop) (v2 : V) (h : Heap) : Prop :=
    (wi F L (.load true 256 (.c v2)) E0 h fun v20 h =>
    (wi F L (.store 256 (.c v2) (.c v20)) E0 h fun _ h =>
    (∃ v, resultsV h (enterE [v2, (.bool true)]) [.cell 0 true 256, .tmp 1] = some v ∧ K v h)))
def k_strings_makeASCIISet_2 (L : FuncId → List V → V → Prop) (K : V → Heap → Prop) (N0 : Env → Heap → Prop) (e : Env) (v4 : V) (h : Heap) : Prop :=
    (wi F L (.bin .add (.c v4) (.c (.int .i64 1))) E0 h fun v11 h =>
    (N0 (upd (upd (upd e 10 v4) 11 v11) 4 v11) h))
def k_strings_makeASCIISet_3 (L : FuncId → List V → V → Prop) (K : V → Heap → Prop) (N0 : Env → Heap → Prop) (e : Env) (v2 v4 v5 : V) (h : Heap) : Prop :=
    (wi F L (.ixaArr 256 1 (.c v2) (.c v5)) E0 h fun v19 h =>
    (wi F L (.store 1 (.c v19) (.c (.bool true))) E0 h fun _ h =>
    (k_strings_makeASCIISet_2 L K N0 (upd (upd e 18 v5) 19 v19) v4 h)))
def k_strings_makeASCIISet_1 (L : FuncId → List V → V → Prop) (K : V → Heap → Prop) (N0 : Env → Heap → Prop) (e : Env) (v0 v2 v4 : V) (h : Heap) : Prop :=
    (wi F L (.ixStr (.c v0) (.c v4)) E0 h fun v14 h =>
    (wi F L (.bin .geq (.c v14) (.c (.int .u8 128))) E0 h fun v16 h =>
    (wb v16
    (wi F L (.load true 256 (.c v2)) E0 h fun v17 h =>
    (wi F L (.store 256 (.c v2) (.c v17)) E0 h fun _ h =>
    (∃ v, resultsV h (enterE [v2, (.bool false)]) [.cell 0 true 256, .tmp 1] = some v ∧ K v h)))
    (k_strings_makeASCIISet_3 L K N0 (upd (upd (upd (upd (upd (upd e 12 v0) 13 v4) 14 v14) 5 v14) 15 v14) 16 v16) v2 v4 v14 h))))
def q_strings_makeASCIISet_0 (L : FuncId → List V → V → Prop) (K : V → Heap → Prop) : X → Env → Heap → Prop := (fun x => (seqX (fun e h => k_strings_makeASCIISet_0 L K (e 2) h) (retX c_strings_makeASCIISet.results K)) (X.out 0 x))
def lc_strings_makeASCIISet_0 : C :=
  (.seq (.seq (.region [⟨(some 6), none, .mv (.t 4)⟩, ⟨(some 7), none, .mv (.t 0)⟩, ⟨(some 8), none, .len 0 (.t 7)⟩, ⟨(some 9), none, .bin .lss (.t 6) (.t 8)⟩])
  (.cond (.t 9)
    .skip
    (.exit 0)))
  (.seq (.block 1 (.seq (.region [⟨(some 12), none, .mv (.t 0)⟩, ⟨(some 13), none, .mv (.t 4)⟩, ⟨(some 14), none, .ixStr (.t 12) (.t 13)⟩, ⟨(some 5), none, .mv (.t 14)⟩])
  (.seq (.seq (.region [⟨(some 15), none, .mv (.t 5)⟩, ⟨(some 16), none, .bin .geq (.t 15) (.c (.int .u8 128))⟩])
  (.cond (.t 16)
    (.seq (.region [⟨(some 17), none, .load true 256 (.t 2)⟩, ⟨none, none, .store 256 (.t 2) (.t 17)⟩, ⟨(some 3), none, .mv (.c (.bool false))⟩])
    .ret)
    .skip))
  (.region [⟨(some 18), none, .mv (.t 5)⟩, ⟨(some 19), none, .ixaArr 256 1 (.t 2) (.t 18)⟩, ⟨none, none, .store 1 (.t 19) (.c (.bool true))⟩]))))
  (.region [⟨(some 10), none, .mv (.t 4)⟩, ⟨(some 11), none, .bin .add (.t 10) (.c (.int .i64 1))⟩, ⟨(some 4), none, .mv (.t 11)⟩])))
def b_strings_makeASCIISet_0 (L : FuncId → List V → V → Prop) (K : V → Heap → Prop) (N0 : Env → Heap → Prop) (e : Env) (h : Heap) : Prop :=
    (wi F L (.len 0 (.c (e 0))) E0 h fun v8 h =>
    (wi F L (.bin .lss (.c (e 4)) (.c v8)) E0 h fun v9 h =>
    (wb v9
    (k_strings_makeASCIISet_1 L K N0 (upd (upd (upd (upd e 6 (e 4)) 7 (e 0)) 8 v8) 9 v9) (e 0) (e 2) (e 4) h)
    (k_strings_makeASCIISet_0 L K (e 2) h))))
theorem l_strings_makeASCIISet_0 {L : FuncId → List V → V → Prop} {K : V → Heap → Prop} (I : Nat → Env → Heap → Prop) (hr : ∀ n e h, I n e h → b_strings_makeASCIISet_0 L K (fun e' h' => ∃ m, m < n ∧ I m e' h') e h) {n : Nat} {e : Env} {h : Heap} (hi : I n e h) : Wl F L lc_strings_makeASCIISet_0 (q_strings_makeASCIISet_0 L K) e h :=
  wloopp (b := b_strings_makeASCIISet_0 L K) I (fun _ _ _ => by kernel_rfl) hr hi
def p_strings_makeASCIISet (L : FuncId → List V → V → Prop) (K : V → Heap → Prop) (a0 : V) (h : Heap) : Prop :=
    (wi F L (.boxz (List.replicate 256 (.bool false))) E0 h fun v2 h =>
    (Wl F L lc_strings_makeASCIISet_0 (q_strings_makeASCIISet_0 L K) (upd (upd (upd (enterE [a0]) 2 v2) 3 (.bool false)) 4 (.int .i64 0)) h))
theorem run_strings_makeASCIISet {L : FuncId → List V → V → Prop} {K : V → Heap → Prop} {a0 : V} {h : Heap} (hp : p_strings_makeASCIISet L K a0 h) : Cf F L i_strings_makeASCIISet [a0] h K :=
  wcallp F_strings_makeASCIISet (show 1 ≤ 21 by decide) (p := p_strings_makeASCIISet L K a0 h) (by kernel_rfl) hp
def k_strings_trimLeftASCII_0 (L : FuncId → List V → V → Prop) (K : V → Heap → Prop) (v0 : V) (h : Heap) : Prop :=
    (∃ v, some v0 = some v ∧ K v h)
def k_strings_trimLeftASCII_2 (L : FuncId → List V → V → Prop) (K : V → Heap → Prop) (N0 : Env → Heap → Prop) (e : Env) (v0 : V) (h : Heap) : Prop :=
    (wi F L (.slstr (.c v0) (some (.c (.int .i64 1))) none) E0 h fun v14 h =>
    (N0 (upd (upd (upd e 13 v0) 14 v14) 0 v14) h))
def k_strings_trimLeftASCII_1 (L : FuncId → List V → V → Prop) (K : V → Heap → Prop) (N0 : Env → Heap → Prop) (e : Env) (v0 v1 : V) (h : Heap) : Prop :=
    (wi F L (.ixStr (.c v0) (.c (.int .i64 0))) E0 h fun v10 h =>
    (wi F L (.call i___strings_asciiSet__contains [(.c v1), (.c v10)]) E0 h fun v11 h =>
    (wi F L (.un .not (.c v11)) E0 h fun v12 h =>
    (wb v12
    (k_strings_trimLeftASCII_0 L K v0 h)
    (k_strings_trimLeftASCII_2 L K N0 (upd (upd (upd (upd (upd e 8 v1) 9 v0) 10 v10) 11 v11) 12 v12) v0 h)))))
def q_strings_trimLeftASCII_0 (L : FuncId → List V → V → Prop) (K : V → Heap → Prop) : X → Env → Heap → Prop := (fun x => (seqX (fun e h => k_strings_trimLeftASCII_0 L K (e 0) h) (retX c_strings_trimLeftASCII.results K)) (X.out 0 x))
def lc_strings_trimLeftASCII_0 : C :=
  (.seq (.seq (.region [⟨(some 5), none, .mv (.t 0)⟩, ⟨(some 6), none, .len 0 (.t 5)⟩, ⟨(some 7), none, .bin .gtr (.t 6) (.c (.int .i64 0))⟩])
  (.cond (.t 7)
    .skip
    (.exit 0)))
  (.block 1 (.seq (.seq (.region [⟨(some 8), none, .mv (.t 1)⟩, ⟨(some 9), none, .mv (.t 0)⟩, ⟨(some 10), none, .ixStr (.t 9) (.c (.int .i64 0))⟩, ⟨(some 11), none, .call i___strings_asciiSet__contains [(.t 8), (.t 10)]⟩, ⟨(some 12), none, .un .not (.t 11)⟩])
  (.cond (.t 12)
    (.exit 0)
    .skip))
  (.region [⟨(some 13), none, .mv (.t 0)⟩, ⟨(some 14), none, .slstr (.t 13) (some (.c (.int .i64 1))) none⟩, ⟨(some 0), none, .mv (.t 14)⟩]))))
def b_strings_trimLeftASCII_0 (L : FuncId → List V → V → Prop) (K : V → Heap → Prop) (N0 : Env → Heap → Prop) (e : Env) (h : Heap) : Prop :=
    (wi F L (.len 0 (.c (e 0))) E0 h fun v6 h =>
    (wi F L (.bin .gtr (.c v6) (.c (.int .i64 0))) E0 h fun v7 h =>
    (wb v7
    (k_strings_trimLeftASCII_1 L K N0 (upd (upd (upd e 5 (e 0)) 6 v6) 7 v7) (e 0) (e 1) h)
    (k_strings_trimLeftASCII_0 L K (e 0) h))))
theorem l_strings_trimLeftASCII_0 {L : FuncId → List V → V → Prop} {K : V → Heap → Prop} (I : Nat → Env → Heap → Prop) (hr : ∀ n e h, I n e h → b_strings_trimLeftASCII_0 L K (fun e' h' => ∃ m, m < n ∧ I m e' h') e h) {n : Nat} {e : Env} {h : Heap} (hi : I n e h) : Wl F L lc_strings_trimLeftASCII_0 (q_strings_trimLeftASCII_0 L K) e h :=
  wloopp (b := b_strings_trimLeftASCII_0 L K) I (fun _ _ _ => by kernel_rfl) hr hi
def p_strings_trimLeftASCII (L : FuncId → List V → V → Prop) (K : V → Heap → Prop) (a0 a1 : V) (h : Heap) : Prop :=
    (Wl F L lc_strings_trimLeftASCII_0 (q_strings_trimLeftASCII_0 L K) (upd (enterE [a0, a1]) 4 (.str [])) h)
theorem run_strings_trimLeftASCII {L : FuncId → List V → V → Prop} {K : V → Heap → Prop} {a0 a1 : V} {h : Heap} (hp : p_strings_trimLeftASCII L K a0 a1 h) : Cf F L i_strings_trimLeftASCII [a0, a1] h K :=
  wcallp F_strings_trimLeftASCII (show 2 ≤ 16 by decide) (p := p_strings_trimLeftASCII L K a0 a1 h) (by kernel_rfl) hp
def k_strings_trimRightASCII_0 (L : FuncId → List V → V → Prop) (K : V → Heap → Prop) (v0 : V) (h : Heap) : Prop :=
    (∃ v, some v0 = some v ∧ K v h)
def k_strings_trimRightASCII_2 (L : FuncId → List V → V → Prop) (K : V → Heap → Prop) (N0 : Env → Heap → Prop) (e : Env) (v0 : V) (h : Heap) : Prop :=
    (wi F L (.len 0 (.c v0)) E0 h fun v18 h =>
    (wi F L (.bin .sub (.c v18) (.c (.int .i64 1))) E0 h fun v19 h =>
    (wi F L (.slstr (.c v0) none (some (.c v19))) E0 h fun v20 h =>
    (N0 (upd (upd (upd (upd (upd (upd e 16 v0) 17 v0) 18 v18) 19 v19) 20 v20) 0 v20) h))))
def k_strings_trimRightASCII_1 (L : FuncId → List V → V → Prop) (K : V → Heap → Prop) (N0 : Env → Heap → Prop) (e : Env) (v0 v1 : V) (h : Heap) : Prop :=
    (wi F L (.len 0 (.c v0)) E0 h fun v11 h =>
    (wi F L (.bin .sub (.c v11) (.c (.int .i64 1))) E0 h fun v12 h =>
    (wi F L (.ixStr (.c v0) (.c v12)) E0 h fun v13 h =>
    (wi F L (.call i___strings_asciiSet__contains [(.c v1), (.c v13)]) E0 h fun v14 h =>
    (wi F L (.un .not (.c v14)) E0 h fun v15 h =>
    (wb v15
    (k_strings_trimRightASCII_0 L K v0 h)
    (k_strings_trimRightASCII_2 L K N0 (upd (upd (upd (upd (upd (upd (upd (upd e 8 v1) 9 v0) 10 v0) 11 v11) 12 v12) 13 v13) 14 v14) 15 v15) v0 h)))))))
def q_strings_trimRightASCII_0 (L : FuncId → List V → V → Prop) (K : V → Heap → Prop) : X → Env → Heap → Prop := (fun x => (seqX (fun e h => k_strings_trimRightASCII_0 L K (e 0) h) (retX c_strings_trimRightASCII.results K)) (X.out 0 x))
def lc_strings_trimRightASCII_0 : C :=
  (.seq (.seq (.region [⟨(some 5), none, .mv (.t 0)⟩, ⟨(some 6), none, .len 0 (.t 5)⟩, ⟨(some 7), none, .bin .gtr (.t 6) (.c (.int .i64 0))⟩])
  (.cond (.t 7)
    .skip
    (.exit 0)))
  (.block 1 (.seq (.seq (.region [⟨(some 8), none, .mv (.t 1)⟩, ⟨(some 9), none, .mv (.t 0)⟩, ⟨(some 10), none, .mv (.t 0)⟩, ⟨(some 11), none, .len 0 (.t 10)⟩, ⟨(some 12), none, .bin .sub (.t 11) (.c (.int .i64 1))⟩, ⟨(some 13), none, .ixStr (.t 9) (.t 12)⟩, ⟨(some 14), none, .call i___strings_asciiSet__contains [(.t 8), (.t 13)]⟩, ⟨(some 15), none, .un .not (.t 14)⟩])
  (.cond (.t 15)
    (.exit 0)
    .skip))
  (.region [⟨(some 16), none, .mv (.t 0)⟩, ⟨(some 17), none, .mv (.t 0)⟩, ⟨(some 18), none, .len 0 (.t 17)⟩, ⟨(some 19), none, .bin .sub (.t 18) (.c (.int .i64 1))⟩, ⟨(some 20), none, .slstr (.t 16) none (some (.t 19))⟩, ⟨(some 0), none, .mv (.t 20)⟩]))))
def b_strings_trimRightASCII_0 (L : FuncId → List V → V → Prop) (K : V → Heap → Prop) (N0 : Env → Heap → Prop) (e : Env) (h : Heap) : Prop :=
    (wi F L (.len 0 (.c (e 0))) E0 h fun v6 h =>
    (wi F L (.bin .gtr (.c v6) (.c (.int .i64 0))) E0 h fun v7 h =>
    (wb v7
    (k_strings_trimRightASCII_1 L K N0 (upd (upd (upd e 5 (e 0)) 6 v6) 7 v7) (e 0) (e 1) h)
    (k_strings_trimRightASCII_0 L K (e 0) h))))
theorem l_strings_trimRightASCII_0 {L : FuncId → List V → V → Prop} {K : V → Heap → Prop} (I : Nat → Env → Heap → Prop) (hr : ∀ n e h, I n e h → b_strings_trimRightASCII_0 L K (fun e' h' => ∃ m, m < n ∧ I m e' h') e h) {n : Nat} {e : Env} {h : Heap} (hi : I n e h) : Wl F L lc_strings_trimRightASCII_0 (q_strings_trimRightASCII_0 L K) e h :=
  wloopp (b := b_strings_trimRightASCII_0 L K) I (fun _ _ _ => by kernel_rfl) hr hi
def p_strings_trimRightASCII (L : FuncId → List V → V → Prop) (K : V → Heap → Prop) (a0 a1 : V) (h : Heap) : Prop :=
    (Wl F L lc_strings_trimRightASCII_0 (q_strings_trimRightASCII_0 L K) (upd (enterE [a0, a1]) 4 (.str [])) h)
theorem run_strings_trimRightASCII {L : FuncId → List V → V → Prop} {K : V → Heap → Prop} {a0 a1 : V} {h : Heap} (hp : p_strings_trimRightASCII L K a0 a1 h) : Cf F L i_strings_trimRightASCII [a0, a1] h K :=
  wcallp F_strings_trimRightASCII (show 2 ≤ 22 by decide) (p := p_strings_trimRightASCII L K a0 a1 h) (by kernel_rfl) hp
def p_token_marks (L : FuncId → List V → V → Prop) (K : V → Heap → Prop) (h : Heap) : Prop :=
    (wi F L (.boxz [(.int .u8 0), (.int .u8 0), (.int .u8 0), (.int .u8 0), (.int .u8 0), (.int .u8 0), (.int .u8 0), (.int .u8 0), (.int .u8 0), (.int .u8 0), (.int .u8 0), (.int .u8 0), (.int .u8 0), (.int .u8 0), (.int .u8 0)]) E0 h fun v0 h =>
    (wi F L (.build [(.int .u8 0), (.int .u8 0), (.int .u8 0), (.int .u8 0), (.int .u8 0), (.int .u8 0), (.int .u8 0), (.int .u8 0), (.int .u8 0), (.int .u8 0), (.int .u8 0), (.int .u8 0), (.int .u8 0), (.int .u8 0), (.int .u8 0)] [(0, 1, (.c (.int .u8 33))), (1, 1, (.c (.int .u8 35))), (2, 1, (.c (.int .u8 36))), (3, 1, (.c (.int .u8 37))), (4, 1, (.c (.int .u8 38))), (5, 1, (.c (.int .u8 39))), (6, 1, (.c (.int .u8 42))), (7, 1, (.c (.int .u8 43))), (8, 1, (.c (.int .u8 45))), (9, 1, (.c (.int .u8 46))), (10, 1, (.c (.int .u8 94))), (11, 1, (.c (.int .u8 95))), (12, 1, (.c (.int .u8 96))), (13, 1, (.c (.int .u8 124))), (14, 1, (.c (.int .u8 126)))]) E0 h fun v1 h =>
    (wi F L (.store 15 (.c v0) (.c v1)) E0 h fun _ h =>
    (∃ v, resultsV h (enterE [v0]) [.cell 0 true 15] = some v ∧ K v h))))
theorem run_token_marks {L : FuncId → List V → V → Prop} {K : V → Heap → Prop} {h : Heap} (hp : p_token_marks L K  h) : Cf F L i_token_marks [] h K :=
  wcallp F_token_marks (show 0 ≤ 2 by decide) (p := p_token_marks L K  h) (by kernel_rfl) hp
def k_internal_stringslite_Cut_0 (L : FuncId → List V → V → Prop) (K : V → Heap → Prop) (v0 : V) (h : Heap) : Prop :=
    (∃ v, resultsV h (enterE [v0, (.str []), (.bool false)]) [.tmp 0, .tmp 1, .tmp 2] = some v ∧ K v h)
def p_internal_stringslite_Cut (L : FuncId → List V → V → Prop) (K : V → Heap → Prop) (a0 a1 : V) (h : Heap) : Prop :=
    (wi F L (.call i_internal_stringslite_Index [(.c a0), (.c a1)]) E0 h fun v10 h =>
    (wi F L (.bin .geq (.c v10) (.c (.int .i64 0))) E0 h fun v12 h =>
    (wb v12
    (wi F L (.slstr (.c a0) none (some (.c v10))) E0 h fun v15 h' => Ext h h' ∧
    (wi F L (.len 0 (.c a1)) E0 h' fun v19 h => Ext h' h ∧
    (wi F L (.bin .add (.c v10) (.c v19)) E0 h fun v20 h' => Ext h h' ∧
    (wi F L (.slstr (.c a0) (some (.c v20)) none) E0 h' fun v21 h => Ext h' h ∧
    (∃ v, resultsV h (enterE [v15, v21, (.bool true)]) [.tmp 0, .tmp 1, .tmp 2] = some v ∧ K v h)))))
    (k_internal_stringslite_Cut_0 L K a0 h))))
theorem run_internal_stringslite_Cut {L : FuncId → List V → V → Prop} {K : V → Heap → Prop} {a0 a1 : V} {h : Heap} (hp : p_internal_stringslite_Cut L K a0 a1 h) : Cf F L i_internal_stringslite_Cut [a0, a1] h K :=
  wcallp F_internal_stringslite_Cut (show 2 ≤ 23 by decide) (p := p_internal_stringslite_Cut L K a0 a1 h) (by kernel_rfl) hp
def p___strings_asciiSet__contains (L : FuncId → List V → V → Prop) (K : V → Heap → Prop) (a0 a1 : V) (h : Heap) : Prop :=
    (wi F L (.nilck (.c a0)) E0 h fun v7 h =>
    (wi F L (.ixaArr 256 1 (.c v7) (.c a1)) E0 h fun v8 h =>
    (wi F L (.load false 1 (.c v8)) E0 h fun v9 h =>
    (∃ v, some v9 = some v ∧ K v h))))
theorem run___strings_asciiSet__contains {L : FuncId → List V → V → Prop} {K : V → Heap → Prop} {a0 a1 : V} {h : Heap} (hp : p___strings_asciiSet__contains L K a0 a1 h) : Cf F L i___strings_asciiSet__contains [a0, a1] h K :=
  wcallp F___strings_asciiSet__contains (show 2 ≤ 10 by decide) (p := p___strings_asciiSet__contains L K a0 a1 h) (by kernel_rfl) hp
theorem hF : ∀ f fn, F f = some fn → compF Tryd.prog f = some fn := lookup_all ⟨kc_gatepostlaw01_TokenTrims, kc_gatepostlaw01_TokenSplits, kc_gatepostlaw01_TokenTells, kc_gatepostlaw01_TokenPairs, kc_gatepostlaw01_TokenJoins, kc_gatepostlaw01_TokenQuotes, kc_token_Trim, kc_token_Split, kc_gatepostref01_Split, kc_gatepostlaw01_texts, kc_token_Is, kc_gatepostref01_Is, kc_token_Value, kc_gatepostref01_Value, kc_token_Lower, kc_gatepostref01_Lower, kc_gatepostref01_Trim, kc_token_Same, kc_gatepostref01_Same, kc_token_Pair, kc_gatepostref01_Pair, kc_token_Quote, kc_gatepostref01_Quote, kc_strings_Trim, kc_token_Split_1, kc_token_all, kc_token_inToken, kc_gatepostref01_tchar, kc_token_Value_1, kc_token_isBlank, kc_gatepostref01_blank, kc_strings_Cut, kc_token_unquote, kc_gatepostref01_unquote, kc_token_inQuotes, kc_gatepostref01_text, kc_strings_makeASCIISet, kc_strings_trimLeftASCII, kc_strings_trimRightASCII, kc_token_marks, kc_internal_stringslite_Cut, kc___strings_asciiSet__contains, trivial⟩
theorem hm : Tryd.prog.follows .mixedOrders = true := by kernel_rfl
end Go.Proofs.YtmfpmnfbcgchjaaDoor.Vh
