/- The functions of a seat, compiled for the small machine. Printed by Print.lean. -/
import Derived.Test.YtdgklgeddbfeaaaDoorProg
import Derived.Test.YtdgklgeddbfeaaaDoorVmSet
import Derived.KernelRfl
set_option maxRecDepth 100000
set_option linter.unusedVariables false
namespace Go.Proofs.YtdgklgeddbfeaaaDoor.Vh
open Go.Vm
def i_main_main : FuncId := 0
def i_gosem_cut : FuncId := 1
def i_gosem_cut_init : FuncId := 2
def i_gatepostlaw02_DateWeeks : FuncId := 3
def i_gatepostlaw02_DateTells : FuncId := 4
def i_gatepostlaw02_DateBack : FuncId := 5
def i_gatepostlaw02_DateForms : FuncId := 6
def i_date_Format : FuncId := 7
def i_date_Parse : FuncId := 8
def i_gatepostref02_Parse : FuncId := 9
def i_date_Civil : FuncId := 10
def i_gatepostref02_Civil : FuncId := 11
def i_date_Days : FuncId := 12
def i_gatepostref02_Days : FuncId := 13
def i_gatepostref02_Format : FuncId := 14
def i_date_longDays : FuncId := 15
def i_date_pad : FuncId := 16
def i_date_monthNames : FuncId := 17
def i_date_fixed : FuncId := 18
def i_date_old : FuncId := 19
def i_date_plain : FuncId := 20
def i_gatepostref02_second : FuncId := 21
def i_gatepostref02_find : FuncId := 22
def i_gatepostref02_short : FuncId := 23
def i_gatepostref02_number : FuncId := 24
def i_gatepostref02_months : FuncId := 25
def i_gatepostref02_clock : FuncId := 26
def i_gatepostref02_year : FuncId := 27
def i_gatepostref02_long : FuncId := 28
def i_gatepostref02_two : FuncId := 29
def i_strconv_Itoa : FuncId := 30
def i___gatepost_date_reader__day : FuncId := 31
def i___gatepost_date_reader__need : FuncId := 32
def i___gatepost_date_reader__number : FuncId := 33
def i___gatepost_date_reader__month : FuncId := 34
def i___gatepost_date_reader__clock : FuncId := 35
def i___gatepost_date_reader__second : FuncId := 36
def i___gatepost_date_reader__take : FuncId := 37
def i_gatepostref02_leap : FuncId := 38
def i_internal_strconv_Itoa : FuncId := 39
def i___gatepost_date_reader__number_1 : FuncId := 40
def i_internal_strconv_FormatInt : FuncId := 41
def i_internal_strconv_small : FuncId := 42
def i_internal_strconv_numDigits : FuncId := 43
def i_internal_strconv_formatBase10 : FuncId := 44
def i_internal_strconv_formatBits : FuncId := 45
def i_internal_strconv_log10Pow2 : FuncId := 46
def i_math_bits_Len64 : FuncId := 47
def i_internal_strconv_bool2_int_ : FuncId := 48
def i_internal_strconv_isPowerOfTwo : FuncId := 49
def i_math_bits_TrailingZeros : FuncId := 50
def i_math_bits_TrailingZeros32 : FuncId := 51
def i_math_bits_TrailingZeros64 : FuncId := 52
def i___runtime_TypeAssertionError__Error : FuncId := 61
def i___runtime_TypeAssertionError__RuntimeError : FuncId := 62
def i___runtime_PanicNilError__Error : FuncId := 63
def i___runtime_PanicNilError__RuntimeError : FuncId := 64
def i___internal_abi_Type__Align : FuncId := 65
def i__internal_runtime_maps_unhashableTypeError__Error : FuncId := 66
def i__internal_runtime_maps_unhashableTypeError__RuntimeError : FuncId := 67
def i__internal_abi_Kind__String : FuncId := 68
def i_var_s_door__gosem_cut_vars_holds_initialisers_alone__see_the_manifest_s_row_cutvarsword__look_11__test_files_too_ : FuncId := 69
def i_var_s_door__internal_strconv_uint64pow10_is_laid_by_its_own_initialiser__plain_data__look_11_ : FuncId := 70
def i_var_s_door__math_bits_deBruijn32tab_is_laid_by_its_own_initialiser__plain_data__look_11_ : FuncId := 71
def i_var_s_door__math_bits_deBruijn64tab_is_laid_by_its_own_initialiser__plain_data__look_11_ : FuncId := 72
def i_var_s_door__the_look_of_gosem_cut_vars_went_over_the_folder_that_the_caller_named_as_the_repository_s_root__look_11_ : FuncId := 73
def i_gosem_cut_vars : FuncId := 74
/-- gatepost/gatepostlaw02.DateWeeks -/
def c_gatepostlaw02_DateWeeks : FnC := ⟨58, [.tmp 4],
  (.seq (.region [⟨(some 4), none, .mv (.c (.bool false))⟩])
  (.seq (.region [⟨(some 8), none, .mv (.t 0)⟩, ⟨(some 9), none, .bin .and (.t 8) (.c (.int .i64 262143))⟩, ⟨(some 0), none, .mv (.t 9)⟩])
  (.seq (.region [⟨(some 10), none, .mv (.t 1)⟩, ⟨(some 11), none, .bin .and (.t 10) (.c (.int .i64 131071))⟩, ⟨(some 12), none, .bin .rem (.t 11) (.c (.int .i64 86400))⟩, ⟨(some 1), none, .mv (.t 12)⟩])
  (.seq (.region [⟨(some 13), none, .mv (.t 0)⟩, ⟨(some 14), none, .bin .mul (.c (.int .i64 86400)) (.t 13)⟩, ⟨(some 15), none, .call i_date_Format [(.t 14)]⟩, ⟨(some 16), none, .mv (.t 0)⟩, ⟨(some 17), none, .bin .add (.t 16) (.c (.int .i64 7))⟩, ⟨(some 18), none, .bin .mul (.c (.int .i64 86400)) (.t 17)⟩, ⟨(some 19), none, .mv (.t 1)⟩, ⟨(some 20), none, .bin .add (.t 18) (.t 19)⟩, ⟨(some 21), none, .call i_date_Format [(.t 20)]⟩, ⟨(some 22), none, .mv (.t 0)⟩, ⟨(some 23), none, .bin .add (.t 22) (.c (.int .i64 1))⟩, ⟨(some 24), none, .bin .mul (.c (.int .i64 86400)) (.t 23)⟩, ⟨(some 25), none, .call i_date_Format [(.t 24)]⟩, ⟨(some 5), none, .mv (.t 15)⟩, ⟨(some 6), none, .mv (.t 21)⟩, ⟨(some 7), none, .mv (.t 25)⟩])
  (.seq (.dregion [⟨(some 26), none, .mv (.t 5)⟩, ⟨(some 27), none, .len 0 (.t 26)⟩, ⟨(some 28), none, .bin .eql (.t 27) (.c (.int .i64 29))⟩, ⟨(some 29), none, .mv (.t 28)⟩, ⟨(some 30), (some (29, true)), .mv (.t 6)⟩, ⟨(some 31), (some (29, true)), .len 0 (.t 30)⟩, ⟨(some 32), (some (29, true)), .bin .eql (.t 31) (.c (.int .i64 29))⟩, ⟨(some 33), none, .pick (.t 29) (.t 32) (.c (.bool false))⟩, ⟨(some 34), none, .mv (.t 33)⟩, ⟨(some 35), (some (34, true)), .mv (.t 7)⟩, ⟨(some 36), (some (34, true)), .len 0 (.t 35)⟩, ⟨(some 37), (some (34, true)), .bin .eql (.t 36) (.c (.int .i64 29))⟩, ⟨(some 38), none, .pick (.t 34) (.t 37) (.c (.bool false))⟩, ⟨(some 39), none, .mv (.t 38)⟩, ⟨(some 40), (some (39, true)), .mv (.t 5)⟩, ⟨(some 41), (some (39, true)), .slstr (.t 40) none (some (.c (.int .i64 3)))⟩, ⟨(some 42), (some (39, true)), .mv (.t 6)⟩, ⟨(some 43), (some (39, true)), .slstr (.t 42) none (some (.c (.int .i64 3)))⟩, ⟨(some 44), (some (39, true)), .bin .eql (.t 41) (.t 43)⟩, ⟨(some 45), none, .pick (.t 39) (.t 44) (.c (.bool false))⟩, ⟨(some 46), none, .mv (.t 45)⟩, ⟨(some 47), (some (46, true)), .mv (.t 5)⟩, ⟨(some 48), (some (46, true)), .slstr (.t 47) none (some (.c (.int .i64 3)))⟩, ⟨(some 49), (some (46, true)), .mv (.t 7)⟩, ⟨(some 50), (some (46, true)), .slstr (.t 49) none (some (.c (.int .i64 3)))⟩] [⟨(some 51), (some (46, true)), .bin .neq (.t 48) (.t 50)⟩, ⟨(some 52), none, .pick (.t 46) (.t 51) (.c (.bool false))⟩, ⟨(some 53), none, .mv (.t 52)⟩, ⟨(some 54), (some (53, true)), .mv (.t 5)⟩, ⟨(some 55), (some (53, true)), .slstr (.t 54) (some (.c (.int .i64 17))) (some (.c (.int .i64 25)))⟩, ⟨(some 56), (some (53, true)), .bin .eql (.t 55) (.c (.str [48, 48, 58, 48, 48, 58, 48, 48]))⟩, ⟨(some 57), none, .pick (.t 53) (.t 56) (.c (.bool false))⟩, ⟨(some 4), none, .mv (.t 57)⟩])
  .ret)))))⟩
/-- gatepost/gatepostlaw02.DateTells -/
def c_gatepostlaw02_DateTells : FnC := ⟨94, [.tmp 6],
  (.seq (.region [⟨(some 5), none, .box (.t 2)⟩, ⟨(some 6), none, .mv (.c (.bool false))⟩])
  (.seq (.region [⟨(some 18), none, .mv (.t 0)⟩, ⟨(some 19), none, .call i_date_Parse [(.t 18)]⟩, ⟨(some 17), none, .mv (.t 19)⟩, ⟨(some 20), none, .ext 0 (.t 17)⟩, ⟨(some 21), none, .ext 1 (.t 17)⟩, ⟨(some 7), none, .mv (.t 20)⟩, ⟨(some 8), none, .mv (.t 21)⟩])
  (.seq (.region [⟨(some 23), none, .mv (.t 0)⟩, ⟨(some 24), none, .call i_gatepostref02_Parse [(.t 23)]⟩, ⟨(some 22), none, .mv (.t 24)⟩, ⟨(some 25), none, .ext 0 (.t 22)⟩, ⟨(some 26), none, .ext 1 (.t 22)⟩, ⟨(some 9), none, .mv (.t 25)⟩, ⟨(some 10), none, .mv (.t 26)⟩])
  (.seq (.region [⟨(some 28), none, .mv (.t 1)⟩, ⟨(some 29), none, .call i_date_Civil [(.t 28)]⟩, ⟨(some 27), none, .mv (.t 29)⟩, ⟨(some 30), none, .ext 0 (.t 27)⟩, ⟨(some 31), none, .ext 1 (.t 27)⟩, ⟨(some 32), none, .ext 2 (.t 27)⟩, ⟨(some 11), none, .mv (.t 30)⟩, ⟨(some 12), none, .mv (.t 31)⟩, ⟨(some 13), none, .mv (.t 32)⟩])
  (.seq (.region [⟨(some 34), none, .mv (.t 1)⟩, ⟨(some 35), none, .call i_gatepostref02_Civil [(.t 34)]⟩, ⟨(some 33), none, .mv (.t 35)⟩, ⟨(some 36), none, .ext 0 (.t 33)⟩, ⟨(some 37), none, .ext 1 (.t 33)⟩, ⟨(some 38), none, .ext 2 (.t 33)⟩, ⟨(some 14), none, .mv (.t 36)⟩, ⟨(some 15), none, .mv (.t 37)⟩, ⟨(some 16), none, .mv (.t 38)⟩])
  (.seq (.dregion [⟨(some 39), none, .mv (.t 7)⟩, ⟨(some 40), none, .mv (.t 9)⟩, ⟨(some 41), none, .bin .eql (.t 39) (.t 40)⟩, ⟨(some 42), none, .mv (.t 41)⟩, ⟨(some 43), (some (42, true)), .mv (.t 8)⟩, ⟨(some 44), (some (42, true)), .mv (.t 10)⟩, ⟨(some 45), (some (42, true)), .eq .bool false (.t 43) (.t 44)⟩, ⟨(some 46), none, .pick (.t 42) (.t 45) (.c (.bool false))⟩, ⟨(some 47), none, .mv (.t 46)⟩, ⟨(some 48), (some (47, true)), .mv (.t 11)⟩, ⟨(some 49), (some (47, true)), .mv (.t 14)⟩, ⟨(some 50), (some (47, true)), .bin .eql (.t 48) (.t 49)⟩, ⟨(some 51), none, .pick (.t 47) (.t 50) (.c (.bool false))⟩, ⟨(some 52), none, .mv (.t 51)⟩, ⟨(some 53), (some (52, true)), .mv (.t 12)⟩, ⟨(some 54), (some (52, true)), .mv (.t 15)⟩, ⟨(some 55), (some (52, true)), .bin .eql (.t 53) (.t 54)⟩, ⟨(some 56), none, .pick (.t 52) (.t 55) (.c (.bool false))⟩, ⟨(some 57), none, .mv (.t 56)⟩, ⟨(some 58), (some (57, true)), .mv (.t 13)⟩, ⟨(some 59), (some (57, true)), .mv (.t 16)⟩, ⟨(some 60), (some (57, true)), .bin .eql (.t 58) (.t 59)⟩, ⟨(some 61), none, .pick (.t 57) (.t 60) (.c (.bool false))⟩, ⟨(some 62), none, .mv (.t 61)⟩, ⟨(some 63), (some (62, true)), .ixaArr 3 1 (.t 5) (.c (.int .i64 0))⟩, ⟨(some 64), (some (62, true)), .load false 1 (.t 63)⟩, ⟨(some 65), (some (62, true)), .ixaArr 3 1 (.t 5) (.c (.int .i64 1))⟩, ⟨(some 66), (some (62, true)), .load false 1 (.t 65)⟩, ⟨(some 67), (some (62, true)), .ixaArr 3 1 (.t 5) (.c (.int .i64 2))⟩, ⟨(some 68), (some (62, true)), .load false 1 (.t 67)⟩, ⟨(some 69), (some (62, true)), .call i_date_Days [(.t 64), (.t 66), (.t 68)]⟩, ⟨(some 70), (some (62, true)), .ixaArr 3 1 (.t 5) (.c (.int .i64 0))⟩, ⟨(some 71), (some (62, true)), .load false 1 (.t 70)⟩, ⟨(some 72), (some (62, true)), .ixaArr 3 1 (.t 5) (.c (.int .i64 1))⟩, ⟨(some 73), (some (62, true)), .load false 1 (.t 72)⟩, ⟨(some 74), (some (62, true)), .ixaArr 3 1 (.t 5) (.c (.int .i64 2))⟩, ⟨(some 75), (some (62, true)), .load false 1 (.t 74)⟩, ⟨(some 76), (some (62, true)), .call i_gatepostref02_Days [(.t 71), (.t 73), (.t 75)]⟩, ⟨(some 77), (some (62, true)), .bin .eql (.t 69) (.t 76)⟩, ⟨(some 78), none, .pick (.t 62) (.t 77) (.c (.bool false))⟩, ⟨(some 79), none, .mv (.t 78)⟩, ⟨(some 80), (some (79, true)), .mv (.t 1)⟩, ⟨(some 81), (some (79, true)), .call i_date_Format [(.t 80)]⟩, ⟨(some 82), (some (79, true)), .mv (.t 1)⟩] [⟨(some 83), (some (79, true)), .call i_gatepostref02_Format [(.t 82)]⟩, ⟨(some 84), (some (79, true)), .bin .eql (.t 81) (.t 83)⟩, ⟨(some 85), none, .pick (.t 79) (.t 84) (.c (.bool false))⟩, ⟨(some 86), none, .mv (.t 85)⟩, ⟨(some 87), (some (86, true)), .call i_date_Days [(.c (.int .i64 1970)), (.c (.int .i64 1)), (.c (.int .i64 1))]⟩, ⟨(some 88), (some (86, true)), .bin .eql (.t 87) (.c (.int .i64 0))⟩, ⟨(some 89), none, .pick (.t 86) (.t 88) (.c (.bool false))⟩, ⟨(some 90), none, .mv (.t 89)⟩, ⟨(some 91), (some (90, true)), .call i_date_Format [(.c (.int .i64 0))]⟩, ⟨(some 92), (some (90, true)), .bin .eql (.t 91) (.c (.str [84, 104, 117, 44, 32, 48, 49, 32, 74, 97, 110, 32, 49, 57, 55, 48, 32, 48, 48, 58, 48, 48, 58, 48, 48, 32, 71, 77, 84]))⟩, ⟨(some 93), none, .pick (.t 90) (.t 92) (.c (.bool false))⟩, ⟨(some 6), none, .mv (.t 93)⟩])
  .ret))))))⟩
/-- gatepost/gatepostlaw02.DateBack -/
def c_gatepostlaw02_DateBack : FnC := ⟨111, [.tmp 4],
  (.seq (.region [⟨(some 4), none, .mv (.c (.bool false))⟩])
  (.seq (.region [⟨(some 14), none, .mv (.t 0)⟩, ⟨(some 15), none, .bin .and (.t 14) (.c (.int .i64 137438953471))⟩, ⟨(some 16), none, .bin .rem (.t 15) (.c (.int .i64 253402300800))⟩, ⟨(some 0), none, .mv (.t 16)⟩])
  (.seq (.region [⟨(some 17), none, .mv (.t 1)⟩, ⟨(some 18), none, .bin .and (.t 17) (.c (.int .i64 4194303))⟩, ⟨(some 19), none, .bin .rem (.t 18) (.c (.int .i64 2932896))⟩, ⟨(some 1), none, .mv (.t 19)⟩])
  (.seq (.region [⟨(some 21), none, .mv (.t 0)⟩, ⟨(some 22), none, .call i_date_Format [(.t 21)]⟩, ⟨(some 23), none, .call i_date_Parse [(.t 22)]⟩, ⟨(some 20), none, .mv (.t 23)⟩, ⟨(some 24), none, .ext 0 (.t 20)⟩, ⟨(some 25), none, .ext 1 (.t 20)⟩, ⟨(some 5), none, .mv (.t 24)⟩, ⟨(some 6), none, .mv (.t 25)⟩])
  (.seq (.region [⟨(some 27), none, .mv (.t 1)⟩, ⟨(some 28), none, .call i_date_Civil [(.t 27)]⟩, ⟨(some 26), none, .mv (.t 28)⟩, ⟨(some 29), none, .ext 0 (.t 26)⟩, ⟨(some 30), none, .ext 1 (.t 26)⟩, ⟨(some 31), none, .ext 2 (.t 26)⟩, ⟨(some 7), none, .mv (.t 29)⟩, ⟨(some 8), none, .mv (.t 30)⟩, ⟨(some 9), none, .mv (.t 31)⟩])
  (.seq (.region [⟨(some 33), none, .mv (.t 1)⟩, ⟨(some 34), none, .bin .add (.t 33) (.c (.int .i64 1))⟩, ⟨(some 35), none, .call i_date_Civil [(.t 34)]⟩, ⟨(some 32), none, .mv (.t 35)⟩, ⟨(some 36), none, .ext 0 (.t 32)⟩, ⟨(some 37), none, .ext 1 (.t 32)⟩, ⟨(some 38), none, .ext 2 (.t 32)⟩, ⟨(some 10), none, .mv (.t 36)⟩, ⟨(some 11), none, .mv (.t 37)⟩, ⟨(some 12), none, .mv (.t 38)⟩])
  (.seq (.region [⟨(some 39), none, .mv (.t 10)⟩, ⟨(some 40), none, .mv (.t 7)⟩, ⟨(some 41), none, .bin .eql (.t 39) (.t 40)⟩, ⟨(some 42), none, .mv (.t 41)⟩, ⟨(some 43), (some (42, true)), .mv (.t 11)⟩, ⟨(some 44), (some (42, true)), .mv (.t 8)⟩, ⟨(some 45), (some (42, true)), .bin .eql (.t 43) (.t 44)⟩, ⟨(some 46), none, .pick (.t 42) (.t 45) (.c (.bool false))⟩, ⟨(some 47), none, .mv (.t 46)⟩, ⟨(some 48), (some (47, true)), .mv (.t 12)⟩, ⟨(some 49), (some (47, true)), .mv (.t 9)⟩, ⟨(some 50), (some (47, true)), .bin .add (.t 49) (.c (.int .i64 1))⟩, ⟨(some 51), (some (47, true)), .bin .eql (.t 48) (.t 50)⟩, ⟨(some 52), none, .pick (.t 47) (.t 51) (.c (.bool false))⟩, ⟨(some 53), none, .mv (.t 52)⟩, ⟨(some 54), (some (53, false)), .mv (.t 10)⟩, ⟨(some 55), (some (53, false)), .mv (.t 7)⟩, ⟨(some 56), (some (53, false)), .bin .eql (.t 54) (.t 55)⟩, ⟨(some 57), (some (53, false)), .mv (.t 56)⟩, ⟨(some 58), (some (57, true)), .mv (.t 11)⟩, ⟨(some 59), (some (57, true)), .mv (.t 8)⟩, ⟨(some 60), (some (57, true)), .bin .add (.t 59) (.c (.int .i64 1))⟩, ⟨(some 61), (some (57, true)), .bin .eql (.t 58) (.t 60)⟩, ⟨(some 62), (some (53, false)), .pick (.t 57) (.t 61) (.c (.bool false))⟩, ⟨(some 63), (some (53, false)), .mv (.t 62)⟩, ⟨(some 64), (some (63, true)), .mv (.t 12)⟩, ⟨(some 65), (some (63, true)), .bin .eql (.t 64) (.c (.int .i64 1))⟩, ⟨(some 66), (some (53, false)), .pick (.t 63) (.t 65) (.c (.bool false))⟩, ⟨(some 67), none, .pick (.t 53) (.c (.bool true)) (.t 66)⟩, ⟨(some 68), none, .mv (.t 67)⟩, ⟨(some 69), (some (68, false)), .mv (.t 10)⟩, ⟨(some 70), (some (68, false)), .mv (.t 7)⟩, ⟨(some 71), (some (68, false)), .bin .add (.t 70) (.c (.int .i64 1))⟩, ⟨(some 72), (some (68, false)), .bin .eql (.t 69) (.t 71)⟩, ⟨(some 73), (some (68, false)), .mv (.t 72)⟩, ⟨(some 74), (some (73, true)), .mv (.t 11)⟩, ⟨(some 75), (some (73, true)), .bin .eql (.t 74) (.c (.int .i64 1))⟩, ⟨(some 76), (some (68, false)), .pick (.t 73) (.t 75) (.c (.bool false))⟩, ⟨(some 77), (some (68, false)), .mv (.t 76)⟩, ⟨(some 78), (some (77, true)), .mv (.t 12)⟩, ⟨(some 79), (some (77, true)), .bin .eql (.t 78) (.c (.int .i64 1))⟩, ⟨(some 80), (some (68, false)), .pick (.t 77) (.t 79) (.c (.bool false))⟩, ⟨(some 81), (some (68, false)), .mv (.t 80)⟩, ⟨(some 82), (some (81, true)), .mv (.t 8)⟩, ⟨(some 83), (some (81, true)), .bin .eql (.t 82) (.c (.int .i64 12))⟩, ⟨(some 84), (some (68, false)), .pick (.t 81) (.t 83) (.c (.bool false))⟩, ⟨(some 85), (some (68, false)), .mv (.t 84)⟩, ⟨(some 86), (some (85, true)), .mv (.t 9)⟩, ⟨(some 87), (some (85, true)), .bin .eql (.t 86) (.c (.int .i64 31))⟩, ⟨(some 88), (some (68, false)), .pick (.t 85) (.t 87) (.c (.bool false))⟩, ⟨(some 89), none, .pick (.t 68) (.c (.bool true)) (.t 88)⟩, ⟨(some 13), none, .mv (.t 89)⟩])
  (.seq (.region [⟨(some 90), none, .mv (.t 6)⟩, ⟨(some 91), none, .mv (.t 90)⟩, ⟨(some 92), (some (91, true)), .mv (.t 5)⟩, ⟨(some 93), (some (91, true)), .mv (.t 0)⟩, ⟨(some 94), (some (91, true)), .bin .eql (.t 92) (.t 93)⟩, ⟨(some 95), none, .pick (.t 91) (.t 94) (.c (.bool false))⟩, ⟨(some 96), none, .mv (.t 95)⟩, ⟨(some 97), (some (96, true)), .mv (.t 7)⟩, ⟨(some 98), (some (96, true)), .mv (.t 8)⟩, ⟨(some 99), (some (96, true)), .mv (.t 9)⟩, ⟨(some 100), (some (96, true)), .call i_date_Days [(.t 97), (.t 98), (.t 99)]⟩, ⟨(some 101), (some (96, true)), .mv (.t 1)⟩, ⟨(some 102), (some (96, true)), .bin .eql (.t 100) (.t 101)⟩, ⟨(some 103), none, .pick (.t 96) (.t 102) (.c (.bool false))⟩, ⟨(some 104), none, .mv (.t 103)⟩, ⟨(some 105), (some (104, true)), .mv (.t 13)⟩, ⟨(some 106), none, .pick (.t 104) (.t 105) (.c (.bool false))⟩, ⟨(some 107), none, .mv (.t 106)⟩, ⟨(some 108), (some (107, true)), .mv (.t 9)⟩, ⟨(some 109), (some (107, true)), .bin .leq (.t 108) (.c (.int .i64 31))⟩, ⟨(some 110), none, .pick (.t 107) (.t 109) (.c (.bool false))⟩, ⟨(some 4), none, .mv (.t 110)⟩])
  .ret))))))))⟩
/-- gatepost/gatepostlaw02.DateForms -/
def c_gatepostlaw02_DateForms : FnC := ⟨106, [.tmp 2],
  (.seq (.region [⟨(some 2), none, .mv (.c (.bool false))⟩])
  (.seq (.region [⟨(some 14), none, .mv (.t 0)⟩, ⟨(some 15), none, .bin .and (.t 14) (.c (.int .i64 137438953471))⟩, ⟨(some 16), none, .bin .rem (.t 15) (.c (.int .i64 3155760000))⟩, ⟨(some 0), none, .mv (.t 16)⟩])
  (.seq (.region [⟨(some 17), none, .mv (.t 0)⟩, ⟨(some 18), none, .call i_date_Format [(.t 17)]⟩, ⟨(some 3), none, .mv (.t 18)⟩])
  (.seq (.seq (.region [⟨(some 19), none, .mv (.t 3)⟩, ⟨(some 20), none, .len 0 (.t 19)⟩, ⟨(some 21), none, .bin .neq (.t 20) (.c (.int .i64 29))⟩])
  (.cond (.t 21)
    (.seq (.region [⟨(some 2), none, .mv (.c (.bool false))⟩])
    .ret)
    .skip))
  (.seq (.region [⟨(some 22), none, .bsl 1 [(.c (.str [77, 111, 110, 100, 97, 121])), (.c (.str [84, 117, 101, 115, 100, 97, 121])), (.c (.str [87, 101, 100, 110, 101, 115, 100, 97, 121])), (.c (.str [84, 104, 117, 114, 115, 100, 97, 121])), (.c (.str [70, 114, 105, 100, 97, 121])), (.c (.str [83, 97, 116, 117, 114, 100, 97, 121])), (.c (.str [83, 117, 110, 100, 97, 121]))]⟩, ⟨(some 4), none, .mv (.t 22)⟩])
  (.seq (.region [⟨(some 5), none, .mv (.c (.int .i64 (-1)))⟩])
  (.seq (.seq (.region [⟨(some 6), none, .mv (.c (.int .i64 0))⟩])
  (.block 0 (.loop
    (.seq (.seq (.region [⟨(some 23), none, .mv (.t 6)⟩, ⟨(some 24), none, .bin .lss (.t 23) (.c (.int .i64 7))⟩])
    (.cond (.t 24)
      .skip
      (.exit 0)))
    (.seq (.block 1 (.seq (.dregion [⟨(some 27), none, .mv (.t 4)⟩, ⟨(some 28), none, .mv (.t 6)⟩, ⟨(some 29), none, .ixaSl 1 (.t 27) (.t 28)⟩, ⟨(some 30), none, .load false 1 (.t 29)⟩, ⟨(some 31), none, .slstr (.t 30) none (some (.c (.int .i64 3)))⟩, ⟨(some 32), none, .mv (.t 3)⟩, ⟨(some 33), none, .slstr (.t 32) none (some (.c (.int .i64 3)))⟩] [⟨(some 34), none, .bin .eql (.t 31) (.t 33)⟩])
    (.cond (.t 34)
      (.region [⟨(some 35), none, .mv (.t 6)⟩, ⟨(some 5), none, .mv (.t 35)⟩])
      .skip)))
    (.region [⟨(some 25), none, .mv (.t 6)⟩, ⟨(some 26), none, .bin .add (.t 25) (.c (.int .i64 1))⟩, ⟨(some 6), none, .mv (.t 26)⟩]))))))
  (.seq (.seq (.region [⟨(some 36), none, .mv (.t 5)⟩, ⟨(some 37), none, .bin .lss (.t 36) (.c (.int .i64 0))⟩])
  (.cond (.t 37)
    (.seq (.region [⟨(some 2), none, .mv (.c (.bool false))⟩])
    .ret)
    .skip))
  (.seq (.dregion [⟨(some 38), none, .mv (.t 4)⟩, ⟨(some 39), none, .mv (.t 5)⟩, ⟨(some 40), none, .ixaSl 1 (.t 38) (.t 39)⟩, ⟨(some 41), none, .load false 1 (.t 40)⟩, ⟨(some 42), none, .bin .add (.t 41) (.c (.str [44, 32]))⟩, ⟨(some 43), none, .mv (.t 3)⟩, ⟨(some 44), none, .slstr (.t 43) (some (.c (.int .i64 5))) (some (.c (.int .i64 7)))⟩, ⟨(some 45), none, .bin .add (.t 42) (.t 44)⟩, ⟨(some 46), none, .bin .add (.t 45) (.c (.str [45]))⟩, ⟨(some 47), none, .mv (.t 3)⟩, ⟨(some 48), none, .slstr (.t 47) (some (.c (.int .i64 8))) (some (.c (.int .i64 11)))⟩, ⟨(some 49), none, .bin .add (.t 46) (.t 48)⟩, ⟨(some 50), none, .bin .add (.t 49) (.c (.str [45]))⟩, ⟨(some 51), none, .mv (.t 3)⟩, ⟨(some 52), none, .slstr (.t 51) (some (.c (.int .i64 14))) (some (.c (.int .i64 16)))⟩, ⟨(some 53), none, .bin .add (.t 50) (.t 52)⟩, ⟨(some 54), none, .mv (.t 3)⟩, ⟨(some 55), none, .slstr (.t 54) (some (.c (.int .i64 16))) none⟩] [⟨(some 56), none, .bin .add (.t 53) (.t 55)⟩, ⟨(some 7), none, .mv (.t 56)⟩])
  (.seq (.region [⟨(some 57), none, .mv (.t 3)⟩, ⟨(some 58), none, .slstr (.t 57) (some (.c (.int .i64 5))) (some (.c (.int .i64 7)))⟩, ⟨(some 8), none, .mv (.t 58)⟩])
  (.seq (.seq (.region [⟨(some 59), none, .mv (.t 8)⟩, ⟨(some 60), none, .ixStr (.t 59) (.c (.int .i64 0))⟩, ⟨(some 61), none, .bin .eql (.t 60) (.c (.int .u8 48))⟩])
  (.cond (.t 61)
    (.region [⟨(some 62), none, .mv (.t 8)⟩, ⟨(some 63), none, .slstr (.t 62) (some (.c (.int .i64 1))) none⟩, ⟨(some 64), none, .bin .add (.c (.str [32])) (.t 63)⟩, ⟨(some 8), none, .mv (.t 64)⟩])
    .skip))
  (.seq (.dregion [⟨(some 65), none, .mv (.t 3)⟩, ⟨(some 66), none, .slstr (.t 65) none (some (.c (.int .i64 3)))⟩, ⟨(some 67), none, .bin .add (.t 66) (.c (.str [32]))⟩, ⟨(some 68), none, .mv (.t 3)⟩, ⟨(some 69), none, .slstr (.t 68) (some (.c (.int .i64 8))) (some (.c (.int .i64 11)))⟩, ⟨(some 70), none, .bin .add (.t 67) (.t 69)⟩, ⟨(some 71), none, .bin .add (.t 70) (.c (.str [32]))⟩, ⟨(some 72), none, .mv (.t 8)⟩, ⟨(some 73), none, .bin .add (.t 71) (.t 72)⟩, ⟨(some 74), none, .bin .add (.t 73) (.c (.str [32]))⟩, ⟨(some 75), none, .mv (.t 3)⟩, ⟨(some 76), none, .slstr (.t 75) (some (.c (.int .i64 17))) (some (.c (.int .i64 25)))⟩, ⟨(some 77), none, .bin .add (.t 74) (.t 76)⟩, ⟨(some 78), none, .bin .add (.t 77) (.c (.str [32]))⟩, ⟨(some 79), none, .mv (.t 3)⟩, ⟨(some 80), none, .slstr (.t 79) (some (.c (.int .i64 12))) (some (.c (.int .i64 16)))⟩] [⟨(some 81), none, .bin .add (.t 78) (.t 80)⟩, ⟨(some 9), none, .mv (.t 81)⟩])
  (.seq (.region [⟨(some 83), none, .mv (.t 7)⟩, ⟨(some 84), none, .call i_date_Parse [(.t 83)]⟩, ⟨(some 82), none, .mv (.t 84)⟩, ⟨(some 85), none, .ext 0 (.t 82)⟩, ⟨(some 86), none, .ext 1 (.t 82)⟩, ⟨(some 10), none, .mv (.t 85)⟩, ⟨(some 11), none, .mv (.t 86)⟩])
  (.seq (.region [⟨(some 88), none, .mv (.t 9)⟩, ⟨(some 89), none, .call i_date_Parse [(.t 88)]⟩, ⟨(some 87), none, .mv (.t 89)⟩, ⟨(some 90), none, .ext 0 (.t 87)⟩, ⟨(some 91), none, .ext 1 (.t 87)⟩, ⟨(some 12), none, .mv (.t 90)⟩, ⟨(some 13), none, .mv (.t 91)⟩])
  (.seq (.region [⟨(some 92), none, .mv (.t 11)⟩, ⟨(some 93), none, .mv (.t 92)⟩, ⟨(some 94), (some (93, true)), .mv (.t 13)⟩, ⟨(some 95), none, .pick (.t 93) (.t 94) (.c (.bool false))⟩, ⟨(some 96), none, .mv (.t 95)⟩, ⟨(some 97), (some (96, true)), .mv (.t 10)⟩, ⟨(some 98), (some (96, true)), .mv (.t 0)⟩, ⟨(some 99), (some (96, true)), .bin .eql (.t 97) (.t 98)⟩, ⟨(some 100), none, .pick (.t 96) (.t 99) (.c (.bool false))⟩, ⟨(some 101), none, .mv (.t 100)⟩, ⟨(some 102), (some (101, true)), .mv (.t 12)⟩, ⟨(some 103), (some (101, true)), .mv (.t 0)⟩, ⟨(some 104), (some (101, true)), .bin .eql (.t 102) (.t 103)⟩, ⟨(some 105), none, .pick (.t 101) (.t 104) (.c (.bool false))⟩, ⟨(some 2), none, .mv (.t 105)⟩])
  .ret)))))))))))))))⟩
/-- gatepost/date.Format -/
def c_date_Format : FnC := ⟨62, [.tmp 2],
  (.seq (.region [⟨(some 2), none, .mv (.c (.str []))⟩])
  (.seq (.seq (.region [⟨(some 8), none, .mv (.t 0)⟩, ⟨(some 9), none, .bin .lss (.t 8) (.c (.int .i64 0))⟩, ⟨(some 10), none, .mv (.t 9)⟩, ⟨(some 11), (some (10, false)), .mv (.t 0)⟩, ⟨(some 12), (some (10, false)), .bin .quo (.t 11) (.c (.int .i64 86400))⟩, ⟨(some 13), (some (10, false)), .bin .gtr (.t 12) (.c (.int .i64 2932896))⟩, ⟨(some 14), none, .pick (.t 10) (.c (.bool true)) (.t 13)⟩])
  (.cond (.t 14)
    (.region [⟨(some 0), none, .mv (.c (.int .i64 0))⟩])
    .skip))
  (.seq (.region [⟨(some 15), none, .mv (.t 0)⟩, ⟨(some 16), none, .bin .quo (.t 15) (.c (.int .i64 86400))⟩, ⟨(some 17), none, .mv (.t 0)⟩, ⟨(some 18), none, .bin .rem (.t 17) (.c (.int .i64 86400))⟩, ⟨(some 3), none, .mv (.t 16)⟩, ⟨(some 4), none, .mv (.t 18)⟩])
  (.seq (.region [⟨(some 20), none, .mv (.t 3)⟩, ⟨(some 21), none, .call i_date_Civil [(.t 20)]⟩, ⟨(some 19), none, .mv (.t 21)⟩, ⟨(some 22), none, .ext 0 (.t 19)⟩, ⟨(some 23), none, .ext 1 (.t 19)⟩, ⟨(some 24), none, .ext 2 (.t 19)⟩, ⟨(some 5), none, .mv (.t 22)⟩, ⟨(some 6), none, .mv (.t 23)⟩, ⟨(some 7), none, .mv (.t 24)⟩])
  (.seq (.dregion [⟨(some 25), none, .call i_date_longDays []⟩, ⟨(some 26), none, .mv (.t 3)⟩, ⟨(some 27), none, .bin .add (.t 26) (.c (.int .i64 3))⟩, ⟨(some 28), none, .bin .rem (.t 27) (.c (.int .i64 7))⟩, ⟨(some 29), none, .ixArr 7 1 false (.t 25) (.t 28)⟩, ⟨(some 30), none, .slstr (.t 29) none (some (.c (.int .i64 3)))⟩, ⟨(some 31), none, .bin .add (.t 30) (.c (.str [44, 32]))⟩, ⟨(some 32), none, .mv (.t 7)⟩, ⟨(some 33), none, .call i_date_pad [(.t 32), (.c (.int .i64 2))]⟩, ⟨(some 34), none, .bin .add (.t 31) (.t 33)⟩, ⟨(some 35), none, .bin .add (.t 34) (.c (.str [32]))⟩, ⟨(some 36), none, .call i_date_monthNames []⟩, ⟨(some 37), none, .mv (.t 6)⟩, ⟨(some 38), none, .bin .sub (.t 37) (.c (.int .i64 1))⟩, ⟨(some 39), none, .ixArr 12 1 false (.t 36) (.t 38)⟩, ⟨(some 40), none, .bin .add (.t 35) (.t 39)⟩, ⟨(some 41), none, .bin .add (.t 40) (.c (.str [32]))⟩, ⟨(some 42), none, .mv (.t 5)⟩, ⟨(some 43), none, .call i_date_pad [(.t 42), (.c (.int .i64 4))]⟩, ⟨(some 44), none, .bin .add (.t 41) (.t 43)⟩, ⟨(some 45), none, .bin .add (.t 44) (.c (.str [32]))⟩, ⟨(some 46), none, .mv (.t 4)⟩, ⟨(some 47), none, .bin .quo (.t 46) (.c (.int .i64 3600))⟩, ⟨(some 48), none, .call i_date_pad [(.t 47), (.c (.int .i64 2))]⟩, ⟨(some 49), none, .bin .add (.t 45) (.t 48)⟩, ⟨(some 50), none, .bin .add (.t 49) (.c (.str [58]))⟩, ⟨(some 51), none, .mv (.t 4)⟩, ⟨(some 52), none, .bin .quo (.t 51) (.c (.int .i64 60))⟩, ⟨(some 53), none, .bin .rem (.t 52) (.c (.int .i64 60))⟩, ⟨(some 54), none, .call i_date_pad [(.t 53), (.c (.int .i64 2))]⟩, ⟨(some 55), none, .bin .add (.t 50) (.t 54)⟩, ⟨(some 56), none, .bin .add (.t 55) (.c (.str [58]))⟩, ⟨(some 57), none, .mv (.t 4)⟩, ⟨(some 58), none, .bin .rem (.t 57) (.c (.int .i64 60))⟩, ⟨(some 59), none, .call i_date_pad [(.t 58), (.c (.int .i64 2))]⟩] [⟨(some 60), none, .bin .add (.t 56) (.t 59)⟩, ⟨(some 61), none, .bin .add (.t 60) (.c (.str [32, 71, 77, 84]))⟩, ⟨(some 2), none, .mv (.t 61)⟩])
  .ret)))))⟩
/-- gatepost/date.Parse -/
def c_date_Parse : FnC := ⟨23, [.tmp 2, .tmp 3],
  (.seq (.region [⟨(some 2), none, .mv (.c (.int .i64 0))⟩, ⟨(some 3), none, .mv (.c (.bool false))⟩])
  (.seq (.seq (.region [⟨(some 8), none, .build [.nfn, .nfn, .nfn] [(0, 1, (.c (.fn i_date_fixed []))), (1, 1, (.c (.fn i_date_old []))), (2, 1, (.c (.fn i_date_plain [])))]⟩, ⟨(some 9), none, .mv (.c (.int .i64 0))⟩])
  (.block 0 (.loop
    (.seq (.region [⟨(some 10), none, .bin .lss (.t 9) (.c (.int .i64 3))⟩])
    (.seq (.cond (.t 10)
      .skip
      (.exit 0))
    (.seq (.block 1 (.seq (.region [⟨(some 11), none, .ixArr 3 1 false (.t 8) (.t 9)⟩, ⟨(some 5), none, .mv (.t 11)⟩])
    (.seq (.region [⟨(some 13), none, .mv (.t 5)⟩, ⟨(some 14), none, .mv (.t 0)⟩, ⟨(some 15), none, .build [(.str []), (.bool false)] [(0, 1, (.t 14)), (1, 1, (.c (.bool true)))]⟩, ⟨(some 16), none, .box (.t 15)⟩, ⟨(some 17), none, .callv (.t 13) [(.t 16)]⟩, ⟨(some 12), none, .mv (.t 17)⟩, ⟨(some 18), none, .ext 0 (.t 12)⟩, ⟨(some 19), none, .ext 1 (.t 12)⟩, ⟨(some 6), none, .mv (.t 18)⟩, ⟨(some 7), none, .mv (.t 19)⟩])
    (.seq (.region [⟨(some 20), none, .mv (.t 7)⟩])
    (.cond (.t 20)
      (.seq (.region [⟨(some 21), none, .mv (.t 6)⟩, ⟨(some 2), none, .mv (.t 21)⟩, ⟨(some 3), none, .mv (.c (.bool true))⟩])
      .ret)
      .skip)))))
    (.region [⟨(some 22), none, .bin .add (.t 9) (.c (.int .i64 1))⟩, ⟨(some 9), none, .mv (.t 22)⟩])))))))
  (.seq (.region [⟨(some 2), none, .mv (.c (.int .i64 0))⟩, ⟨(some 3), none, .mv (.c (.bool false))⟩])
  .ret)))⟩
/-- gatepost/gatepostref02.Parse -/
def c_gatepostref02_Parse : FnC := ⟨187, [.tmp 2, .tmp 3],
  (.seq (.region [⟨(some 2), none, .mv (.c (.int .i64 0))⟩, ⟨(some 3), none, .mv (.c (.bool false))⟩])
  (.seq (.seq (.region [⟨(some 10), none, .mv (.t 0)⟩, ⟨(some 11), none, .len 0 (.t 10)⟩, ⟨(some 12), none, .bin .eql (.t 11) (.c (.int .i64 29))⟩, ⟨(some 13), none, .mv (.t 12)⟩, ⟨(some 14), (some (13, true)), .mv (.t 0)⟩, ⟨(some 15), (some (13, true)), .slstr (.t 14) (some (.c (.int .i64 3))) (some (.c (.int .i64 5)))⟩, ⟨(some 16), (some (13, true)), .bin .eql (.t 15) (.c (.str [44, 32]))⟩, ⟨(some 17), none, .pick (.t 13) (.t 16) (.c (.bool false))⟩, ⟨(some 18), none, .mv (.t 17)⟩, ⟨(some 19), (some (18, true)), .mv (.t 0)⟩, ⟨(some 20), (some (18, true)), .ixStr (.t 19) (.c (.int .i64 7))⟩, ⟨(some 21), (some (18, true)), .bin .eql (.t 20) (.c (.int .u8 32))⟩, ⟨(some 22), none, .pick (.t 18) (.t 21) (.c (.bool false))⟩, ⟨(some 23), none, .mv (.t 22)⟩, ⟨(some 24), (some (23, true)), .mv (.t 0)⟩, ⟨(some 25), (some (23, true)), .ixStr (.t 24) (.c (.int .i64 11))⟩, ⟨(some 26), (some (23, true)), .bin .eql (.t 25) (.c (.int .u8 32))⟩, ⟨(some 27), none, .pick (.t 23) (.t 26) (.c (.bool false))⟩, ⟨(some 28), none, .mv (.t 27)⟩, ⟨(some 29), (some (28, true)), .mv (.t 0)⟩, ⟨(some 30), (some (28, true)), .ixStr (.t 29) (.c (.int .i64 16))⟩, ⟨(some 31), (some (28, true)), .bin .eql (.t 30) (.c (.int .u8 32))⟩, ⟨(some 32), none, .pick (.t 28) (.t 31) (.c (.bool false))⟩, ⟨(some 33), none, .mv (.t 32)⟩, ⟨(some 34), (some (33, true)), .mv (.t 0)⟩, ⟨(some 35), (some (33, true)), .slstr (.t 34) (some (.c (.int .i64 25))) none⟩, ⟨(some 36), (some (33, true)), .bin .eql (.t 35) (.c (.str [32, 71, 77, 84]))⟩, ⟨(some 37), none, .pick (.t 33) (.t 36) (.c (.bool false))⟩])
  (.cond (.t 37)
    (.seq (.dregion [⟨(some 38), none, .call i_gatepostref02_short []⟩, ⟨(some 39), none, .mv (.t 0)⟩, ⟨(some 40), none, .slstr (.t 39) none (some (.c (.int .i64 3)))⟩, ⟨(some 41), none, .call i_gatepostref02_find [(.t 38), (.t 40)]⟩, ⟨(some 42), none, .mv (.t 0)⟩, ⟨(some 43), none, .slstr (.t 42) (some (.c (.int .i64 12))) (some (.c (.int .i64 16)))⟩, ⟨(some 44), none, .call i_gatepostref02_number [(.t 43)]⟩, ⟨(some 45), none, .call i_gatepostref02_months []⟩, ⟨(some 46), none, .mv (.t 0)⟩, ⟨(some 47), none, .slstr (.t 46) (some (.c (.int .i64 8))) (some (.c (.int .i64 11)))⟩, ⟨(some 48), none, .call i_gatepostref02_find [(.t 45), (.t 47)]⟩, ⟨(some 49), none, .bin .add (.t 48) (.c (.int .i64 1))⟩, ⟨(some 50), none, .mv (.t 0)⟩, ⟨(some 51), none, .slstr (.t 50) (some (.c (.int .i64 5))) (some (.c (.int .i64 7)))⟩, ⟨(some 52), none, .call i_gatepostref02_number [(.t 51)]⟩, ⟨(some 53), none, .mv (.t 0)⟩, ⟨(some 54), none, .slstr (.t 53) (some (.c (.int .i64 17))) (some (.c (.int .i64 25)))⟩, ⟨(some 55), none, .call i_gatepostref02_clock [(.t 54)]⟩, ⟨(some 56), none, .call i_gatepostref02_second [(.t 41), (.t 44), (.t 49), (.t 52), (.t 55)]⟩, ⟨(some 57), none, .ext 0 (.t 56)⟩, ⟨(some 58), none, .ext 1 (.t 56)⟩] [⟨(some 2), none, .mv (.t 57)⟩, ⟨(some 3), none, .mv (.t 58)⟩])
    .ret)
    .skip))
  (.seq (.seq (.region [⟨(some 59), none, .mv (.t 0)⟩, ⟨(some 60), none, .len 0 (.t 59)⟩, ⟨(some 61), none, .bin .eql (.t 60) (.c (.int .i64 24))⟩, ⟨(some 62), none, .mv (.t 61)⟩, ⟨(some 63), (some (62, true)), .mv (.t 0)⟩, ⟨(some 64), (some (62, true)), .ixStr (.t 63) (.c (.int .i64 3))⟩, ⟨(some 65), (some (62, true)), .bin .eql (.t 64) (.c (.int .u8 32))⟩, ⟨(some 66), none, .pick (.t 62) (.t 65) (.c (.bool false))⟩, ⟨(some 67), none, .mv (.t 66)⟩, ⟨(some 68), (some (67, true)), .mv (.t 0)⟩, ⟨(some 69), (some (67, true)), .ixStr (.t 68) (.c (.int .i64 7))⟩, ⟨(some 70), (some (67, true)), .bin .eql (.t 69) (.c (.int .u8 32))⟩, ⟨(some 71), none, .pick (.t 67) (.t 70) (.c (.bool false))⟩, ⟨(some 72), none, .mv (.t 71)⟩, ⟨(some 73), (some (72, true)), .mv (.t 0)⟩, ⟨(some 74), (some (72, true)), .ixStr (.t 73) (.c (.int .i64 10))⟩, ⟨(some 75), (some (72, true)), .bin .eql (.t 74) (.c (.int .u8 32))⟩, ⟨(some 76), none, .pick (.t 72) (.t 75) (.c (.bool false))⟩, ⟨(some 77), none, .mv (.t 76)⟩, ⟨(some 78), (some (77, true)), .mv (.t 0)⟩, ⟨(some 79), (some (77, true)), .ixStr (.t 78) (.c (.int .i64 19))⟩, ⟨(some 80), (some (77, true)), .bin .eql (.t 79) (.c (.int .u8 32))⟩, ⟨(some 81), none, .pick (.t 77) (.t 80) (.c (.bool false))⟩])
  (.cond (.t 81)
    (.seq (.region [⟨(some 82), none, .mv (.t 0)⟩, ⟨(some 83), none, .slstr (.t 82) (some (.c (.int .i64 8))) (some (.c (.int .i64 10)))⟩, ⟨(some 4), none, .mv (.t 83)⟩])
    (.seq (.seq (.region [⟨(some 84), none, .mv (.t 4)⟩, ⟨(some 85), none, .ixStr (.t 84) (.c (.int .i64 0))⟩, ⟨(some 86), none, .bin .eql (.t 85) (.c (.int .u8 32))⟩])
    (.cond (.t 86)
      (.region [⟨(some 87), none, .mv (.t 4)⟩, ⟨(some 88), none, .slstr (.t 87) (some (.c (.int .i64 1))) none⟩, ⟨(some 4), none, .mv (.t 88)⟩])
      .skip))
    (.seq (.dregion [⟨(some 89), none, .call i_gatepostref02_short []⟩, ⟨(some 90), none, .mv (.t 0)⟩, ⟨(some 91), none, .slstr (.t 90) none (some (.c (.int .i64 3)))⟩, ⟨(some 92), none, .call i_gatepostref02_find [(.t 89), (.t 91)]⟩, ⟨(some 93), none, .mv (.t 0)⟩, ⟨(some 94), none, .slstr (.t 93) (some (.c (.int .i64 20))) none⟩, ⟨(some 95), none, .call i_gatepostref02_number [(.t 94)]⟩, ⟨(some 96), none, .call i_gatepostref02_months []⟩, ⟨(some 97), none, .mv (.t 0)⟩, ⟨(some 98), none, .slstr (.t 97) (some (.c (.int .i64 4))) (some (.c (.int .i64 7)))⟩, ⟨(some 99), none, .call i_gatepostref02_find [(.t 96), (.t 98)]⟩, ⟨(some 100), none, .bin .add (.t 99) (.c (.int .i64 1))⟩, ⟨(some 101), none, .mv (.t 4)⟩, ⟨(some 102), none, .call i_gatepostref02_number [(.t 101)]⟩, ⟨(some 103), none, .mv (.t 0)⟩, ⟨(some 104), none, .slstr (.t 103) (some (.c (.int .i64 11))) (some (.c (.int .i64 19)))⟩, ⟨(some 105), none, .call i_gatepostref02_clock [(.t 104)]⟩, ⟨(some 106), none, .call i_gatepostref02_second [(.t 92), (.t 95), (.t 100), (.t 102), (.t 105)]⟩, ⟨(some 107), none, .ext 0 (.t 106)⟩, ⟨(some 108), none, .ext 1 (.t 106)⟩] [⟨(some 2), none, .mv (.t 107)⟩, ⟨(some 3), none, .mv (.t 108)⟩])
    .ret)))
    .skip))
  (.seq (.region [⟨(some 109), none, .bsl 1 [(.c (.str [77, 111, 110, 100, 97, 121])), (.c (.str [84, 117, 101, 115, 100, 97, 121])), (.c (.str [87, 101, 100, 110, 101, 115, 100, 97, 121])), (.c (.str [84, 104, 117, 114, 115, 100, 97, 121])), (.c (.str [70, 114, 105, 100, 97, 121])), (.c (.str [83, 97, 116, 117, 114, 100, 97, 121])), (.c (.str [83, 117, 110, 100, 97, 121]))]⟩, ⟨(some 5), none, .mv (.t 109)⟩])
  (.seq (.seq (.region [⟨(some 6), none, .mv (.c (.int .i64 0))⟩])
  (.block 0 (.loop
    (.seq (.seq (.region [⟨(some 110), none, .mv (.t 6)⟩, ⟨(some 111), none, .bin .lss (.t 110) (.c (.int .i64 7))⟩])
    (.cond (.t 111)
      .skip
      (.exit 0)))
    (.seq (.block 1 (.seq (.region [⟨(some 114), none, .mv (.t 5)⟩, ⟨(some 115), none, .mv (.t 6)⟩, ⟨(some 116), none, .ixaSl 1 (.t 114) (.t 115)⟩, ⟨(some 117), none, .load false 1 (.t 116)⟩, ⟨(some 118), none, .len 0 (.t 117)⟩, ⟨(some 7), none, .mv (.t 118)⟩])
    (.seq (.seq (.dregion [⟨(some 119), none, .mv (.t 0)⟩, ⟨(some 120), none, .len 0 (.t 119)⟩, ⟨(some 121), none, .mv (.t 7)⟩, ⟨(some 122), none, .bin .add (.t 121) (.c (.int .i64 24))⟩, ⟨(some 123), none, .bin .neq (.t 120) (.t 122)⟩, ⟨(some 124), none, .mv (.t 123)⟩, ⟨(some 125), (some (124, false)), .mv (.t 0)⟩, ⟨(some 126), (some (124, false)), .mv (.t 7)⟩, ⟨(some 127), (some (124, false)), .slstr (.t 125) none (some (.t 126))⟩, ⟨(some 128), (some (124, false)), .mv (.t 5)⟩, ⟨(some 129), (some (124, false)), .mv (.t 6)⟩, ⟨(some 130), (some (124, false)), .ixaSl 1 (.t 128) (.t 129)⟩, ⟨(some 131), (some (124, false)), .load false 1 (.t 130)⟩] [⟨(some 132), (some (124, false)), .bin .neq (.t 127) (.t 131)⟩, ⟨(some 133), none, .pick (.t 124) (.c (.bool true)) (.t 132)⟩])
    (.cond (.t 133)
      (.exit 1)
      .skip))
    (.seq (.region [⟨(some 134), none, .mv (.t 0)⟩, ⟨(some 135), none, .mv (.t 7)⟩, ⟨(some 136), none, .slstr (.t 134) (some (.t 135)) none⟩, ⟨(some 8), none, .mv (.t 136)⟩])
    (.seq (.seq (.region [⟨(some 137), none, .mv (.t 8)⟩, ⟨(some 138), none, .slstr (.t 137) none (some (.c (.int .i64 2)))⟩, ⟨(some 139), none, .bin .neq (.t 138) (.c (.str [44, 32]))⟩, ⟨(some 140), none, .mv (.t 139)⟩, ⟨(some 141), (some (140, false)), .mv (.t 8)⟩, ⟨(some 142), (some (140, false)), .ixStr (.t 141) (.c (.int .i64 4))⟩, ⟨(some 143), (some (140, false)), .bin .neq (.t 142) (.c (.int .u8 45))⟩, ⟨(some 144), none, .pick (.t 140) (.c (.bool true)) (.t 143)⟩, ⟨(some 145), none, .mv (.t 144)⟩, ⟨(some 146), (some (145, false)), .mv (.t 8)⟩, ⟨(some 147), (some (145, false)), .ixStr (.t 146) (.c (.int .i64 8))⟩, ⟨(some 148), (some (145, false)), .bin .neq (.t 147) (.c (.int .u8 45))⟩, ⟨(some 149), none, .pick (.t 145) (.c (.bool true)) (.t 148)⟩, ⟨(some 150), none, .mv (.t 149)⟩, ⟨(some 151), (some (150, false)), .mv (.t 8)⟩, ⟨(some 152), (some (150, false)), .ixStr (.t 151) (.c (.int .i64 11))⟩, ⟨(some 153), (some (150, false)), .bin .neq (.t 152) (.c (.int .u8 32))⟩, ⟨(some 154), none, .pick (.t 150) (.c (.bool true)) (.t 153)⟩, ⟨(some 155), none, .mv (.t 154)⟩, ⟨(some 156), (some (155, false)), .mv (.t 8)⟩, ⟨(some 157), (some (155, false)), .slstr (.t 156) (some (.c (.int .i64 20))) none⟩, ⟨(some 158), (some (155, false)), .bin .neq (.t 157) (.c (.str [32, 71, 77, 84]))⟩, ⟨(some 159), none, .pick (.t 155) (.c (.bool true)) (.t 158)⟩])
    (.cond (.t 159)
      (.seq (.region [⟨(some 2), none, .mv (.c (.int .i64 0))⟩, ⟨(some 3), none, .mv (.c (.bool false))⟩])
      .ret)
      .skip))
    (.seq (.region [⟨(some 160), none, .mv (.t 8)⟩, ⟨(some 161), none, .slstr (.t 160) (some (.c (.int .i64 9))) (some (.c (.int .i64 11)))⟩, ⟨(some 162), none, .call i_gatepostref02_number [(.t 161)]⟩, ⟨(some 9), none, .mv (.t 162)⟩])
    (.seq (.seq (.region [⟨(some 163), none, .mv (.t 9)⟩, ⟨(some 164), none, .bin .geq (.t 163) (.c (.int .i64 70))⟩])
    (.cond (.t 164)
      (.region [⟨(some 165), none, .mv (.t 9)⟩, ⟨(some 166), none, .bin .add (.t 165) (.c (.int .i64 1900))⟩, ⟨(some 9), none, .mv (.t 166)⟩])
      (.seq (.region [⟨(some 167), none, .mv (.t 9)⟩, ⟨(some 168), none, .bin .geq (.t 167) (.c (.int .i64 0))⟩])
      (.cond (.t 168)
        (.region [⟨(some 169), none, .mv (.t 9)⟩, ⟨(some 170), none, .bin .add (.t 169) (.c (.int .i64 2000))⟩, ⟨(some 9), none, .mv (.t 170)⟩])
        .skip))))
    (.seq (.dregion [⟨(some 171), none, .mv (.t 6)⟩, ⟨(some 172), none, .mv (.t 9)⟩, ⟨(some 173), none, .call i_gatepostref02_months []⟩, ⟨(some 174), none, .mv (.t 8)⟩, ⟨(some 175), none, .slstr (.t 174) (some (.c (.int .i64 5))) (some (.c (.int .i64 8)))⟩, ⟨(some 176), none, .call i_gatepostref02_find [(.t 173), (.t 175)]⟩, ⟨(some 177), none, .bin .add (.t 176) (.c (.int .i64 1))⟩, ⟨(some 178), none, .mv (.t 8)⟩, ⟨(some 179), none, .slstr (.t 178) (some (.c (.int .i64 2))) (some (.c (.int .i64 4)))⟩, ⟨(some 180), none, .call i_gatepostref02_number [(.t 179)]⟩, ⟨(some 181), none, .mv (.t 8)⟩, ⟨(some 182), none, .slstr (.t 181) (some (.c (.int .i64 12))) (some (.c (.int .i64 20)))⟩, ⟨(some 183), none, .call i_gatepostref02_clock [(.t 182)]⟩, ⟨(some 184), none, .call i_gatepostref02_second [(.t 171), (.t 172), (.t 177), (.t 180), (.t 183)]⟩, ⟨(some 185), none, .ext 0 (.t 184)⟩, ⟨(some 186), none, .ext 1 (.t 184)⟩] [⟨(some 2), none, .mv (.t 185)⟩, ⟨(some 3), none, .mv (.t 186)⟩])
    .ret))))))))
    (.region [⟨(some 112), none, .mv (.t 6)⟩, ⟨(some 113), none, .bin .add (.t 112) (.c (.int .i64 1))⟩, ⟨(some 6), none, .mv (.t 113)⟩]))))))
  (.seq (.region [⟨(some 2), none, .mv (.c (.int .i64 0))⟩, ⟨(some 3), none, .mv (.c (.bool false))⟩])
  .ret))))))⟩
/-- gatepost/date.Civil -/
def c_date_Civil : FnC := ⟨70, [.tmp 2, .tmp 3, .tmp 4],
  (.seq (.region [⟨(some 2), none, .mv (.c (.int .i64 0))⟩, ⟨(some 3), none, .mv (.c (.int .i64 0))⟩, ⟨(some 4), none, .mv (.c (.int .i64 0))⟩])
  (.seq (.seq (.region [⟨(some 11), none, .mv (.t 0)⟩, ⟨(some 12), none, .bin .lss (.t 11) (.c (.int .i64 0))⟩, ⟨(some 13), none, .mv (.t 12)⟩, ⟨(some 14), (some (13, false)), .mv (.t 0)⟩, ⟨(some 15), (some (13, false)), .bin .gtr (.t 14) (.c (.int .i64 2932896))⟩, ⟨(some 16), none, .pick (.t 13) (.c (.bool true)) (.t 15)⟩])
  (.cond (.t 16)
    (.seq (.region [⟨(some 2), none, .mv (.c (.int .i64 0))⟩, ⟨(some 3), none, .mv (.c (.int .i64 0))⟩, ⟨(some 4), none, .mv (.c (.int .i64 0))⟩])
    .ret)
    .skip))
  (.seq (.region [⟨(some 17), none, .mv (.t 0)⟩, ⟨(some 18), none, .bin .add (.t 17) (.c (.int .i64 719468))⟩, ⟨(some 5), none, .mv (.t 18)⟩])
  (.seq (.region [⟨(some 19), none, .mv (.t 5)⟩, ⟨(some 20), none, .bin .quo (.t 19) (.c (.int .i64 146097))⟩, ⟨(some 21), none, .mv (.t 5)⟩, ⟨(some 22), none, .bin .rem (.t 21) (.c (.int .i64 146097))⟩, ⟨(some 6), none, .mv (.t 20)⟩, ⟨(some 7), none, .mv (.t 22)⟩])
  (.seq (.region [⟨(some 23), none, .mv (.t 7)⟩, ⟨(some 24), none, .mv (.t 7)⟩, ⟨(some 25), none, .bin .quo (.t 24) (.c (.int .i64 1460))⟩, ⟨(some 26), none, .bin .sub (.t 23) (.t 25)⟩, ⟨(some 27), none, .mv (.t 7)⟩, ⟨(some 28), none, .bin .quo (.t 27) (.c (.int .i64 36524))⟩, ⟨(some 29), none, .bin .add (.t 26) (.t 28)⟩, ⟨(some 30), none, .mv (.t 7)⟩, ⟨(some 31), none, .bin .quo (.t 30) (.c (.int .i64 146096))⟩, ⟨(some 32), none, .bin .sub (.t 29) (.t 31)⟩, ⟨(some 33), none, .bin .quo (.t 32) (.c (.int .i64 365))⟩, ⟨(some 8), none, .mv (.t 33)⟩])
  (.seq (.region [⟨(some 34), none, .mv (.t 7)⟩, ⟨(some 35), none, .mv (.t 8)⟩, ⟨(some 36), none, .bin .mul (.c (.int .i64 365)) (.t 35)⟩, ⟨(some 37), none, .mv (.t 8)⟩, ⟨(some 38), none, .bin .quo (.t 37) (.c (.int .i64 4))⟩, ⟨(some 39), none, .bin .add (.t 36) (.t 38)⟩, ⟨(some 40), none, .mv (.t 8)⟩, ⟨(some 41), none, .bin .quo (.t 40) (.c (.int .i64 100))⟩, ⟨(some 42), none, .bin .sub (.t 39) (.t 41)⟩, ⟨(some 43), none, .bin .sub (.t 34) (.t 42)⟩, ⟨(some 9), none, .mv (.t 43)⟩])
  (.seq (.region [⟨(some 44), none, .mv (.t 9)⟩, ⟨(some 45), none, .bin .mul (.c (.int .i64 5)) (.t 44)⟩, ⟨(some 46), none, .bin .add (.t 45) (.c (.int .i64 2))⟩, ⟨(some 47), none, .bin .quo (.t 46) (.c (.int .i64 153))⟩, ⟨(some 10), none, .mv (.t 47)⟩])
  (.seq (.region [⟨(some 48), none, .mv (.t 9)⟩, ⟨(some 49), none, .mv (.t 10)⟩, ⟨(some 50), none, .bin .mul (.c (.int .i64 153)) (.t 49)⟩, ⟨(some 51), none, .bin .add (.t 50) (.c (.int .i64 2))⟩, ⟨(some 52), none, .bin .quo (.t 51) (.c (.int .i64 5))⟩, ⟨(some 53), none, .bin .sub (.t 48) (.t 52)⟩, ⟨(some 54), none, .bin .add (.t 53) (.c (.int .i64 1))⟩, ⟨(some 4), none, .mv (.t 54)⟩])
  (.seq (.region [⟨(some 55), none, .mv (.t 10)⟩, ⟨(some 56), none, .bin .add (.t 55) (.c (.int .i64 3))⟩, ⟨(some 3), none, .mv (.t 56)⟩])
  (.seq (.region [⟨(some 57), none, .mv (.t 8)⟩, ⟨(some 58), none, .mv (.t 6)⟩, ⟨(some 59), none, .bin .mul (.c (.int .i64 400)) (.t 58)⟩, ⟨(some 60), none, .bin .add (.t 57) (.t 59)⟩, ⟨(some 2), none, .mv (.t 60)⟩])
  (.seq (.seq (.region [⟨(some 61), none, .mv (.t 3)⟩, ⟨(some 62), none, .bin .gtr (.t 61) (.c (.int .i64 12))⟩])
  (.cond (.t 62)
    (.seq (.region [⟨(some 63), none, .mv (.t 3)⟩, ⟨(some 64), none, .bin .sub (.t 63) (.c (.int .i64 12))⟩, ⟨(some 3), none, .mv (.t 64)⟩])
    (.region [⟨(some 65), none, .mv (.t 2)⟩, ⟨(some 66), none, .bin .add (.t 65) (.c (.int .i64 1))⟩, ⟨(some 2), none, .mv (.t 66)⟩]))
    .skip))
  (.seq (.region [⟨(some 67), none, .mv (.t 2)⟩, ⟨(some 68), none, .mv (.t 3)⟩, ⟨(some 69), none, .mv (.t 4)⟩, ⟨(some 2), none, .mv (.t 67)⟩, ⟨(some 3), none, .mv (.t 68)⟩, ⟨(some 4), none, .mv (.t 69)⟩])
  .ret))))))))))))⟩
/-- gatepost/gatepostref02.Civil -/
def c_gatepostref02_Civil : FnC := ⟨39, [.tmp 2, .tmp 3, .tmp 4],
  (.seq (.region [⟨(some 2), none, .mv (.c (.int .i64 0))⟩, ⟨(some 3), none, .mv (.c (.int .i64 0))⟩, ⟨(some 4), none, .mv (.c (.int .i64 0))⟩])
  (.seq (.seq (.region [⟨(some 7), none, .mv (.t 0)⟩, ⟨(some 8), none, .bin .lss (.t 7) (.c (.int .i64 0))⟩, ⟨(some 9), none, .mv (.t 8)⟩, ⟨(some 10), (some (9, false)), .mv (.t 0)⟩, ⟨(some 11), (some (9, false)), .bin .gtr (.t 10) (.c (.int .i64 2932896))⟩, ⟨(some 12), none, .pick (.t 9) (.c (.bool true)) (.t 11)⟩])
  (.cond (.t 12)
    (.seq (.region [⟨(some 2), none, .mv (.c (.int .i64 0))⟩, ⟨(some 3), none, .mv (.c (.int .i64 0))⟩, ⟨(some 4), none, .mv (.c (.int .i64 0))⟩])
    .ret)
    .skip))
  (.seq (.region [⟨(some 5), none, .mv (.c (.int .i64 1970))⟩])
  (.seq (.block 0 (.loop
    (.seq (.seq (.region [⟨(some 13), none, .mv (.t 0)⟩, ⟨(some 14), none, .mv (.t 5)⟩, ⟨(some 15), none, .call i_gatepostref02_year [(.t 14)]⟩, ⟨(some 16), none, .bin .geq (.t 13) (.t 15)⟩])
    (.cond (.t 16)
      .skip
      (.exit 0)))
    (.block 1 (.seq (.region [⟨(some 17), none, .mv (.t 0)⟩, ⟨(some 18), none, .mv (.t 5)⟩, ⟨(some 19), none, .call i_gatepostref02_year [(.t 18)]⟩, ⟨(some 20), none, .bin .sub (.t 17) (.t 19)⟩, ⟨(some 0), none, .mv (.t 20)⟩])
    (.region [⟨(some 21), none, .mv (.t 5)⟩, ⟨(some 22), none, .bin .add (.t 21) (.c (.int .i64 1))⟩, ⟨(some 5), none, .mv (.t 22)⟩]))))))
  (.seq (.region [⟨(some 6), none, .mv (.c (.int .i64 1))⟩])
  (.seq (.block 2 (.loop
    (.seq (.seq (.region [⟨(some 23), none, .mv (.t 0)⟩, ⟨(some 24), none, .mv (.t 5)⟩, ⟨(some 25), none, .mv (.t 6)⟩, ⟨(some 26), none, .call i_gatepostref02_long [(.t 24), (.t 25)]⟩, ⟨(some 27), none, .bin .geq (.t 23) (.t 26)⟩])
    (.cond (.t 27)
      .skip
      (.exit 2)))
    (.block 3 (.seq (.region [⟨(some 28), none, .mv (.t 0)⟩, ⟨(some 29), none, .mv (.t 5)⟩, ⟨(some 30), none, .mv (.t 6)⟩, ⟨(some 31), none, .call i_gatepostref02_long [(.t 29), (.t 30)]⟩, ⟨(some 32), none, .bin .sub (.t 28) (.t 31)⟩, ⟨(some 0), none, .mv (.t 32)⟩])
    (.region [⟨(some 33), none, .mv (.t 6)⟩, ⟨(some 34), none, .bin .add (.t 33) (.c (.int .i64 1))⟩, ⟨(some 6), none, .mv (.t 34)⟩]))))))
  (.seq (.region [⟨(some 35), none, .mv (.t 5)⟩, ⟨(some 36), none, .mv (.t 6)⟩, ⟨(some 37), none, .mv (.t 0)⟩, ⟨(some 38), none, .bin .add (.t 37) (.c (.int .i64 1))⟩, ⟨(some 2), none, .mv (.t 35)⟩, ⟨(some 3), none, .mv (.t 36)⟩, ⟨(some 4), none, .mv (.t 38)⟩])
  .ret)))))))⟩
/-- gatepost/date.Days -/
def c_date_Days : FnC := ⟨90, [.tmp 6],
  (.seq (.region [⟨(some 6), none, .mv (.c (.int .i64 0))⟩])
  (.seq (.seq (.region [⟨(some 15), none, .mv (.t 0)⟩, ⟨(some 16), none, .bin .lss (.t 15) (.c (.int .i64 1970))⟩, ⟨(some 17), none, .mv (.t 16)⟩, ⟨(some 18), (some (17, false)), .mv (.t 0)⟩, ⟨(some 19), (some (17, false)), .bin .gtr (.t 18) (.c (.int .i64 9999))⟩, ⟨(some 20), none, .pick (.t 17) (.c (.bool true)) (.t 19)⟩, ⟨(some 21), none, .mv (.t 20)⟩, ⟨(some 22), (some (21, false)), .mv (.t 1)⟩, ⟨(some 23), (some (21, false)), .bin .lss (.t 22) (.c (.int .i64 1))⟩, ⟨(some 24), none, .pick (.t 21) (.c (.bool true)) (.t 23)⟩, ⟨(some 25), none, .mv (.t 24)⟩, ⟨(some 26), (some (25, false)), .mv (.t 1)⟩, ⟨(some 27), (some (25, false)), .bin .gtr (.t 26) (.c (.int .i64 12))⟩, ⟨(some 28), none, .pick (.t 25) (.c (.bool true)) (.t 27)⟩, ⟨(some 29), none, .mv (.t 28)⟩, ⟨(some 30), (some (29, false)), .mv (.t 2)⟩, ⟨(some 31), (some (29, false)), .bin .lss (.t 30) (.c (.int .i64 1))⟩, ⟨(some 32), none, .pick (.t 29) (.c (.bool true)) (.t 31)⟩, ⟨(some 33), none, .mv (.t 32)⟩, ⟨(some 34), (some (33, false)), .mv (.t 2)⟩, ⟨(some 35), (some (33, false)), .bin .gtr (.t 34) (.c (.int .i64 31))⟩, ⟨(some 36), none, .pick (.t 33) (.c (.bool true)) (.t 35)⟩])
  (.cond (.t 36)
    (.seq (.region [⟨(some 6), none, .mv (.c (.int .i64 (-1)))⟩])
    .ret)
    .skip))
  (.seq (.region [⟨(some 37), none, .mv (.t 0)⟩, ⟨(some 38), none, .mv (.t 1)⟩, ⟨(some 39), none, .bin .sub (.t 38) (.c (.int .i64 3))⟩, ⟨(some 7), none, .mv (.t 37)⟩, ⟨(some 8), none, .mv (.t 39)⟩])
  (.seq (.seq (.region [⟨(some 40), none, .mv (.t 1)⟩, ⟨(some 41), none, .bin .leq (.t 40) (.c (.int .i64 2))⟩])
  (.cond (.t 41)
    (.region [⟨(some 42), none, .mv (.t 0)⟩, ⟨(some 43), none, .bin .sub (.t 42) (.c (.int .i64 1))⟩, ⟨(some 44), none, .mv (.t 1)⟩, ⟨(some 45), none, .bin .add (.t 44) (.c (.int .i64 9))⟩, ⟨(some 7), none, .mv (.t 43)⟩, ⟨(some 8), none, .mv (.t 45)⟩])
    .skip))
  (.seq (.region [⟨(some 46), none, .mv (.t 7)⟩, ⟨(some 47), none, .bin .quo (.t 46) (.c (.int .i64 400))⟩, ⟨(some 48), none, .mv (.t 7)⟩, ⟨(some 49), none, .bin .rem (.t 48) (.c (.int .i64 400))⟩, ⟨(some 9), none, .mv (.t 47)⟩, ⟨(some 10), none, .mv (.t 49)⟩])
  (.seq (.region [⟨(some 50), none, .mv (.t 9)⟩, ⟨(some 51), none, .bin .mul (.t 50) (.c (.int .i64 146097))⟩, ⟨(some 52), none, .mv (.t 10)⟩, ⟨(some 53), none, .bin .mul (.t 52) (.c (.int .i64 365))⟩, ⟨(some 54), none, .bin .add (.t 51) (.t 53)⟩, ⟨(some 55), none, .mv (.t 10)⟩, ⟨(some 56), none, .bin .quo (.t 55) (.c (.int .i64 4))⟩, ⟨(some 57), none, .bin .add (.t 54) (.t 56)⟩, ⟨(some 58), none, .mv (.t 10)⟩, ⟨(some 59), none, .bin .quo (.t 58) (.c (.int .i64 100))⟩, ⟨(some 60), none, .bin .sub (.t 57) (.t 59)⟩, ⟨(some 61), none, .mv (.t 8)⟩, ⟨(some 62), none, .bin .mul (.c (.int .i64 153)) (.t 61)⟩, ⟨(some 63), none, .bin .add (.t 62) (.c (.int .i64 2))⟩, ⟨(some 64), none, .bin .quo (.t 63) (.c (.int .i64 5))⟩, ⟨(some 65), none, .bin .add (.t 60) (.t 64)⟩, ⟨(some 66), none, .mv (.t 2)⟩, ⟨(some 67), none, .bin .add (.t 65) (.t 66)⟩, ⟨(some 68), none, .bin .sub (.t 67) (.c (.int .i64 1))⟩, ⟨(some 69), none, .bin .sub (.t 68) (.c (.int .i64 719468))⟩, ⟨(some 11), none, .mv (.t 69)⟩])
  (.seq (.seq (.region [⟨(some 71), none, .mv (.t 11)⟩, ⟨(some 72), none, .call i_date_Civil [(.t 71)]⟩, ⟨(some 70), none, .mv (.t 72)⟩, ⟨(some 73), none, .ext 0 (.t 70)⟩, ⟨(some 74), none, .ext 1 (.t 70)⟩, ⟨(some 75), none, .ext 2 (.t 70)⟩, ⟨(some 12), none, .mv (.t 73)⟩, ⟨(some 13), none, .mv (.t 74)⟩, ⟨(some 14), none, .mv (.t 75)⟩])
  (.seq (.region [⟨(some 76), none, .mv (.t 12)⟩, ⟨(some 77), none, .mv (.t 0)⟩, ⟨(some 78), none, .bin .neq (.t 76) (.t 77)⟩, ⟨(some 79), none, .mv (.t 78)⟩, ⟨(some 80), (some (79, false)), .mv (.t 13)⟩, ⟨(some 81), (some (79, false)), .mv (.t 1)⟩, ⟨(some 82), (some (79, false)), .bin .neq (.t 80) (.t 81)⟩, ⟨(some 83), none, .pick (.t 79) (.c (.bool true)) (.t 82)⟩, ⟨(some 84), none, .mv (.t 83)⟩, ⟨(some 85), (some (84, false)), .mv (.t 14)⟩, ⟨(some 86), (some (84, false)), .mv (.t 2)⟩, ⟨(some 87), (some (84, false)), .bin .neq (.t 85) (.t 86)⟩, ⟨(some 88), none, .pick (.t 84) (.c (.bool true)) (.t 87)⟩])
  (.cond (.t 88)
    (.seq (.region [⟨(some 6), none, .mv (.c (.int .i64 (-1)))⟩])
    .ret)
    .skip)))
  (.seq (.region [⟨(some 89), none, .mv (.t 11)⟩, ⟨(some 6), none, .mv (.t 89)⟩])
  .ret))))))))⟩
/-- gatepost/gatepostref02.Days -/
def c_gatepostref02_Days : FnC := ⟨57, [.tmp 6],
  (.seq (.region [⟨(some 6), none, .mv (.c (.int .i64 0))⟩])
  (.seq (.seq (.region [⟨(some 10), none, .mv (.t 0)⟩, ⟨(some 11), none, .bin .lss (.t 10) (.c (.int .i64 1970))⟩, ⟨(some 12), none, .mv (.t 11)⟩, ⟨(some 13), (some (12, false)), .mv (.t 0)⟩, ⟨(some 14), (some (12, false)), .bin .gtr (.t 13) (.c (.int .i64 9999))⟩, ⟨(some 15), none, .pick (.t 12) (.c (.bool true)) (.t 14)⟩, ⟨(some 16), none, .mv (.t 15)⟩, ⟨(some 17), (some (16, false)), .mv (.t 1)⟩, ⟨(some 18), (some (16, false)), .bin .lss (.t 17) (.c (.int .i64 1))⟩, ⟨(some 19), none, .pick (.t 16) (.c (.bool true)) (.t 18)⟩, ⟨(some 20), none, .mv (.t 19)⟩, ⟨(some 21), (some (20, false)), .mv (.t 1)⟩, ⟨(some 22), (some (20, false)), .bin .gtr (.t 21) (.c (.int .i64 12))⟩, ⟨(some 23), none, .pick (.t 20) (.c (.bool true)) (.t 22)⟩, ⟨(some 24), none, .mv (.t 23)⟩, ⟨(some 25), (some (24, false)), .mv (.t 2)⟩, ⟨(some 26), (some (24, false)), .bin .lss (.t 25) (.c (.int .i64 1))⟩, ⟨(some 27), none, .pick (.t 24) (.c (.bool true)) (.t 26)⟩, ⟨(some 28), none, .mv (.t 27)⟩, ⟨(some 29), (some (28, false)), .mv (.t 2)⟩, ⟨(some 30), (some (28, false)), .mv (.t 0)⟩, ⟨(some 31), (some (28, false)), .mv (.t 1)⟩, ⟨(some 32), (some (28, false)), .call i_gatepostref02_long [(.t 30), (.t 31)]⟩, ⟨(some 33), (some (28, false)), .bin .gtr (.t 29) (.t 32)⟩, ⟨(some 34), none, .pick (.t 28) (.c (.bool true)) (.t 33)⟩])
  (.cond (.t 34)
    (.seq (.region [⟨(some 6), none, .mv (.c (.int .i64 (-1)))⟩])
    .ret)
    .skip))
  (.seq (.region [⟨(some 35), none, .mv (.t 2)⟩, ⟨(some 36), none, .bin .sub (.t 35) (.c (.int .i64 1))⟩, ⟨(some 7), none, .mv (.t 36)⟩])
  (.seq (.seq (.region [⟨(some 8), none, .mv (.c (.int .i64 1970))⟩])
  (.block 0 (.loop
    (.seq (.seq (.region [⟨(some 37), none, .mv (.t 8)⟩, ⟨(some 38), none, .mv (.t 0)⟩, ⟨(some 39), none, .bin .lss (.t 37) (.t 38)⟩])
    (.cond (.t 39)
      .skip
      (.exit 0)))
    (.seq (.block 1 (.region [⟨(some 42), none, .mv (.t 7)⟩, ⟨(some 43), none, .mv (.t 8)⟩, ⟨(some 44), none, .call i_gatepostref02_year [(.t 43)]⟩, ⟨(some 45), none, .bin .add (.t 42) (.t 44)⟩, ⟨(some 7), none, .mv (.t 45)⟩]))
    (.region [⟨(some 40), none, .mv (.t 8)⟩, ⟨(some 41), none, .bin .add (.t 40) (.c (.int .i64 1))⟩, ⟨(some 8), none, .mv (.t 41)⟩]))))))
  (.seq (.seq (.region [⟨(some 9), none, .mv (.c (.int .i64 1))⟩])
  (.block 2 (.loop
    (.seq (.seq (.region [⟨(some 46), none, .mv (.t 9)⟩, ⟨(some 47), none, .mv (.t 1)⟩, ⟨(some 48), none, .bin .lss (.t 46) (.t 47)⟩])
    (.cond (.t 48)
      .skip
      (.exit 2)))
    (.seq (.block 3 (.region [⟨(some 51), none, .mv (.t 7)⟩, ⟨(some 52), none, .mv (.t 0)⟩, ⟨(some 53), none, .mv (.t 9)⟩, ⟨(some 54), none, .call i_gatepostref02_long [(.t 52), (.t 53)]⟩, ⟨(some 55), none, .bin .add (.t 51) (.t 54)⟩, ⟨(some 7), none, .mv (.t 55)⟩]))
    (.region [⟨(some 49), none, .mv (.t 9)⟩, ⟨(some 50), none, .bin .add (.t 49) (.c (.int .i64 1))⟩, ⟨(some 9), none, .mv (.t 50)⟩]))))))
  (.seq (.region [⟨(some 56), none, .mv (.t 7)⟩, ⟨(some 6), none, .mv (.t 56)⟩])
  .ret))))))⟩
/-- gatepost/gatepostref02.Format -/
def c_gatepostref02_Format : FnC := ⟨67, [.tmp 2],
  (.seq (.region [⟨(some 2), none, .mv (.c (.str []))⟩])
  (.seq (.seq (.region [⟨(some 8), none, .mv (.t 0)⟩, ⟨(some 9), none, .bin .lss (.t 8) (.c (.int .i64 0))⟩, ⟨(some 10), none, .mv (.t 9)⟩, ⟨(some 11), (some (10, false)), .mv (.t 0)⟩, ⟨(some 12), (some (10, false)), .bin .geq (.t 11) (.c (.int .i64 253402300800))⟩, ⟨(some 13), none, .pick (.t 10) (.c (.bool true)) (.t 12)⟩])
  (.cond (.t 13)
    (.region [⟨(some 0), none, .mv (.c (.int .i64 0))⟩])
    .skip))
  (.seq (.region [⟨(some 14), none, .mv (.t 0)⟩, ⟨(some 15), none, .bin .quo (.t 14) (.c (.int .i64 86400))⟩, ⟨(some 3), none, .mv (.t 15)⟩])
  (.seq (.region [⟨(some 16), none, .mv (.t 0)⟩, ⟨(some 17), none, .bin .rem (.t 16) (.c (.int .i64 86400))⟩, ⟨(some 4), none, .mv (.t 17)⟩])
  (.seq (.region [⟨(some 19), none, .mv (.t 3)⟩, ⟨(some 20), none, .call i_gatepostref02_Civil [(.t 19)]⟩, ⟨(some 18), none, .mv (.t 20)⟩, ⟨(some 21), none, .ext 0 (.t 18)⟩, ⟨(some 22), none, .ext 1 (.t 18)⟩, ⟨(some 23), none, .ext 2 (.t 18)⟩, ⟨(some 5), none, .mv (.t 21)⟩, ⟨(some 6), none, .mv (.t 22)⟩, ⟨(some 7), none, .mv (.t 23)⟩])
  (.seq (.dregion [⟨(some 24), none, .call i_gatepostref02_short []⟩, ⟨(some 25), none, .mv (.t 3)⟩, ⟨(some 26), none, .bin .add (.t 25) (.c (.int .i64 3))⟩, ⟨(some 27), none, .bin .rem (.t 26) (.c (.int .i64 7))⟩, ⟨(some 28), none, .ixaSl 1 (.t 24) (.t 27)⟩, ⟨(some 29), none, .load false 1 (.t 28)⟩, ⟨(some 30), none, .bin .add (.t 29) (.c (.str [44, 32]))⟩, ⟨(some 31), none, .mv (.t 7)⟩, ⟨(some 32), none, .call i_gatepostref02_two [(.t 31)]⟩, ⟨(some 33), none, .bin .add (.t 30) (.t 32)⟩, ⟨(some 34), none, .bin .add (.t 33) (.c (.str [32]))⟩, ⟨(some 35), none, .call i_gatepostref02_months []⟩, ⟨(some 36), none, .mv (.t 6)⟩, ⟨(some 37), none, .bin .sub (.t 36) (.c (.int .i64 1))⟩, ⟨(some 38), none, .ixaSl 1 (.t 35) (.t 37)⟩, ⟨(some 39), none, .load false 1 (.t 38)⟩, ⟨(some 40), none, .bin .add (.t 34) (.t 39)⟩, ⟨(some 41), none, .bin .add (.t 40) (.c (.str [32]))⟩, ⟨(some 42), none, .mv (.t 5)⟩, ⟨(some 43), none, .bin .quo (.t 42) (.c (.int .i64 100))⟩, ⟨(some 44), none, .call i_gatepostref02_two [(.t 43)]⟩, ⟨(some 45), none, .bin .add (.t 41) (.t 44)⟩, ⟨(some 46), none, .mv (.t 5)⟩, ⟨(some 47), none, .bin .rem (.t 46) (.c (.int .i64 100))⟩, ⟨(some 48), none, .call i_gatepostref02_two [(.t 47)]⟩, ⟨(some 49), none, .bin .add (.t 45) (.t 48)⟩, ⟨(some 50), none, .bin .add (.t 49) (.c (.str [32]))⟩, ⟨(some 51), none, .mv (.t 4)⟩, ⟨(some 52), none, .bin .quo (.t 51) (.c (.int .i64 3600))⟩, ⟨(some 53), none, .call i_gatepostref02_two [(.t 52)]⟩, ⟨(some 54), none, .bin .add (.t 50) (.t 53)⟩, ⟨(some 55), none, .bin .add (.t 54) (.c (.str [58]))⟩, ⟨(some 56), none, .mv (.t 4)⟩, ⟨(some 57), none, .bin .quo (.t 56) (.c (.int .i64 60))⟩, ⟨(some 58), none, .bin .rem (.t 57) (.c (.int .i64 60))⟩, ⟨(some 59), none, .call i_gatepostref02_two [(.t 58)]⟩, ⟨(some 60), none, .bin .add (.t 55) (.t 59)⟩, ⟨(some 61), none, .bin .add (.t 60) (.c (.str [58]))⟩, ⟨(some 62), none, .mv (.t 4)⟩, ⟨(some 63), none, .bin .rem (.t 62) (.c (.int .i64 60))⟩, ⟨(some 64), none, .call i_gatepostref02_two [(.t 63)]⟩] [⟨(some 65), none, .bin .add (.t 61) (.t 64)⟩, ⟨(some 66), none, .bin .add (.t 65) (.c (.str [32, 71, 77, 84]))⟩, ⟨(some 2), none, .mv (.t 66)⟩])
  .ret))))))⟩
/-- gatepost/date.longDays -/
def c_date_longDays : FnC := ⟨2, [.cell 0 true 7],
  (.seq (.region [⟨(some 0), none, .boxz [(.str []), (.str []), (.str []), (.str []), (.str []), (.str []), (.str [])]⟩])
  (.seq (.region [⟨(some 1), none, .build [(.str []), (.str []), (.str []), (.str []), (.str []), (.str []), (.str [])] [(0, 1, (.c (.str [77, 111, 110, 100, 97, 121]))), (1, 1, (.c (.str [84, 117, 101, 115, 100, 97, 121]))), (2, 1, (.c (.str [87, 101, 100, 110, 101, 115, 100, 97, 121]))), (3, 1, (.c (.str [84, 104, 117, 114, 115, 100, 97, 121]))), (4, 1, (.c (.str [70, 114, 105, 100, 97, 121]))), (5, 1, (.c (.str [83, 97, 116, 117, 114, 100, 97, 121]))), (6, 1, (.c (.str [83, 117, 110, 100, 97, 121])))]⟩, ⟨none, none, .store 7 (.t 0) (.t 1)⟩])
  .ret))⟩
/-- gatepost/date.pad -/
def c_date_pad : FnC := ⟨15, [.tmp 4],
  (.seq (.region [⟨(some 4), none, .mv (.c (.str []))⟩])
  (.seq (.region [⟨(some 6), none, .mv (.t 0)⟩, ⟨(some 7), none, .call i_strconv_Itoa [(.t 6)]⟩, ⟨(some 5), none, .mv (.t 7)⟩])
  (.seq (.block 0 (.loop
    (.seq (.seq (.region [⟨(some 8), none, .mv (.t 5)⟩, ⟨(some 9), none, .len 0 (.t 8)⟩, ⟨(some 10), none, .mv (.t 1)⟩, ⟨(some 11), none, .bin .lss (.t 9) (.t 10)⟩])
    (.cond (.t 11)
      .skip
      (.exit 0)))
    (.block 1 (.region [⟨(some 12), none, .mv (.t 5)⟩, ⟨(some 13), none, .bin .add (.c (.str [48])) (.t 12)⟩, ⟨(some 5), none, .mv (.t 13)⟩])))))
  (.seq (.region [⟨(some 14), none, .mv (.t 5)⟩, ⟨(some 4), none, .mv (.t 14)⟩])
  .ret))))⟩
/-- gatepost/date.monthNames -/
def c_date_monthNames : FnC := ⟨2, [.cell 0 true 12],
  (.seq (.region [⟨(some 0), none, .boxz [(.str []), (.str []), (.str []), (.str []), (.str []), (.str []), (.str []), (.str []), (.str []), (.str []), (.str []), (.str [])]⟩])
  (.seq (.region [⟨(some 1), none, .build [(.str []), (.str []), (.str []), (.str []), (.str []), (.str []), (.str []), (.str []), (.str []), (.str []), (.str []), (.str [])] [(0, 1, (.c (.str [74, 97, 110]))), (1, 1, (.c (.str [70, 101, 98]))), (2, 1, (.c (.str [77, 97, 114]))), (3, 1, (.c (.str [65, 112, 114]))), (4, 1, (.c (.str [77, 97, 121]))), (5, 1, (.c (.str [74, 117, 110]))), (6, 1, (.c (.str [74, 117, 108]))), (7, 1, (.c (.str [65, 117, 103]))), (8, 1, (.c (.str [83, 101, 112]))), (9, 1, (.c (.str [79, 99, 116]))), (10, 1, (.c (.str [78, 111, 118]))), (11, 1, (.c (.str [68, 101, 99])))]⟩, ⟨none, none, .store 12 (.t 0) (.t 1)⟩])
  .ret))⟩
/-- gatepost/date.fixed -/
def c_date_fixed : FnC := ⟨38, [.tmp 2, .tmp 3],
  (.seq (.region [⟨(some 2), none, .mv (.c (.int .i64 0))⟩, ⟨(some 3), none, .mv (.c (.bool false))⟩])
  (.seq (.region [⟨(some 9), none, .mv (.t 0)⟩, ⟨(some 10), none, .call i___gatepost_date_reader__day [(.t 9), (.c (.bool false))]⟩, ⟨(some 4), none, .mv (.t 10)⟩])
  (.seq (.region [⟨(some 11), none, .mv (.t 0)⟩, ⟨(some 12), none, .call i___gatepost_date_reader__need [(.t 11), (.c (.str [44, 32]))]⟩])
  (.seq (.region [⟨(some 13), none, .mv (.t 0)⟩, ⟨(some 14), none, .call i___gatepost_date_reader__number [(.t 13), (.c (.int .i64 2))]⟩, ⟨(some 5), none, .mv (.t 14)⟩])
  (.seq (.region [⟨(some 15), none, .mv (.t 0)⟩, ⟨(some 16), none, .call i___gatepost_date_reader__need [(.t 15), (.c (.str [32]))]⟩])
  (.seq (.region [⟨(some 17), none, .mv (.t 0)⟩, ⟨(some 18), none, .call i___gatepost_date_reader__month [(.t 17)]⟩, ⟨(some 6), none, .mv (.t 18)⟩])
  (.seq (.region [⟨(some 19), none, .mv (.t 0)⟩, ⟨(some 20), none, .call i___gatepost_date_reader__need [(.t 19), (.c (.str [32]))]⟩])
  (.seq (.region [⟨(some 21), none, .mv (.t 0)⟩, ⟨(some 22), none, .call i___gatepost_date_reader__number [(.t 21), (.c (.int .i64 4))]⟩, ⟨(some 7), none, .mv (.t 22)⟩])
  (.seq (.region [⟨(some 23), none, .mv (.t 0)⟩, ⟨(some 24), none, .call i___gatepost_date_reader__need [(.t 23), (.c (.str [32]))]⟩])
  (.seq (.region [⟨(some 25), none, .mv (.t 0)⟩, ⟨(some 26), none, .call i___gatepost_date_reader__clock [(.t 25)]⟩, ⟨(some 8), none, .mv (.t 26)⟩])
  (.seq (.region [⟨(some 27), none, .mv (.t 0)⟩, ⟨(some 28), none, .call i___gatepost_date_reader__need [(.t 27), (.c (.str [32, 71, 77, 84]))]⟩])
  (.seq (.region [⟨(some 29), none, .mv (.t 0)⟩, ⟨(some 30), none, .mv (.t 4)⟩, ⟨(some 31), none, .mv (.t 7)⟩, ⟨(some 32), none, .mv (.t 6)⟩, ⟨(some 33), none, .mv (.t 5)⟩, ⟨(some 34), none, .mv (.t 8)⟩, ⟨(some 35), none, .call i___gatepost_date_reader__second [(.t 29), (.t 30), (.t 31), (.t 32), (.t 33), (.t 34)]⟩, ⟨(some 36), none, .ext 0 (.t 35)⟩, ⟨(some 37), none, .ext 1 (.t 35)⟩, ⟨(some 2), none, .mv (.t 36)⟩, ⟨(some 3), none, .mv (.t 37)⟩])
  .ret))))))))))))⟩
/-- gatepost/date.old -/
def c_date_old : FnC := ⟨44, [.tmp 2, .tmp 3],
  (.seq (.region [⟨(some 2), none, .mv (.c (.int .i64 0))⟩, ⟨(some 3), none, .mv (.c (.bool false))⟩])
  (.seq (.region [⟨(some 9), none, .mv (.t 0)⟩, ⟨(some 10), none, .call i___gatepost_date_reader__day [(.t 9), (.c (.bool true))]⟩, ⟨(some 4), none, .mv (.t 10)⟩])
  (.seq (.region [⟨(some 11), none, .mv (.t 0)⟩, ⟨(some 12), none, .call i___gatepost_date_reader__need [(.t 11), (.c (.str [44, 32]))]⟩])
  (.seq (.region [⟨(some 13), none, .mv (.t 0)⟩, ⟨(some 14), none, .call i___gatepost_date_reader__number [(.t 13), (.c (.int .i64 2))]⟩, ⟨(some 5), none, .mv (.t 14)⟩])
  (.seq (.region [⟨(some 15), none, .mv (.t 0)⟩, ⟨(some 16), none, .call i___gatepost_date_reader__need [(.t 15), (.c (.str [45]))]⟩])
  (.seq (.region [⟨(some 17), none, .mv (.t 0)⟩, ⟨(some 18), none, .call i___gatepost_date_reader__month [(.t 17)]⟩, ⟨(some 6), none, .mv (.t 18)⟩])
  (.seq (.region [⟨(some 19), none, .mv (.t 0)⟩, ⟨(some 20), none, .call i___gatepost_date_reader__need [(.t 19), (.c (.str [45]))]⟩])
  (.seq (.region [⟨(some 21), none, .mv (.t 0)⟩, ⟨(some 22), none, .call i___gatepost_date_reader__number [(.t 21), (.c (.int .i64 2))]⟩, ⟨(some 7), none, .mv (.t 22)⟩])
  (.seq (.region [⟨(some 23), none, .mv (.t 0)⟩, ⟨(some 24), none, .call i___gatepost_date_reader__need [(.t 23), (.c (.str [32]))]⟩])
  (.seq (.region [⟨(some 25), none, .mv (.t 0)⟩, ⟨(some 26), none, .call i___gatepost_date_reader__clock [(.t 25)]⟩, ⟨(some 8), none, .mv (.t 26)⟩])
  (.seq (.region [⟨(some 27), none, .mv (.t 0)⟩, ⟨(some 28), none, .call i___gatepost_date_reader__need [(.t 27), (.c (.str [32, 71, 77, 84]))]⟩])
  (.seq (.seq (.region [⟨(some 29), none, .mv (.t 7)⟩, ⟨(some 30), none, .bin .geq (.t 29) (.c (.int .i64 70))⟩])
  (.cond (.t 30)
    (.region [⟨(some 31), none, .mv (.t 7)⟩, ⟨(some 32), none, .bin .add (.t 31) (.c (.int .i64 1900))⟩, ⟨(some 7), none, .mv (.t 32)⟩])
    (.region [⟨(some 33), none, .mv (.t 7)⟩, ⟨(some 34), none, .bin .add (.t 33) (.c (.int .i64 2000))⟩, ⟨(some 7), none, .mv (.t 34)⟩])))
  (.seq (.region [⟨(some 35), none, .mv (.t 0)⟩, ⟨(some 36), none, .mv (.t 4)⟩, ⟨(some 37), none, .mv (.t 7)⟩, ⟨(some 38), none, .mv (.t 6)⟩, ⟨(some 39), none, .mv (.t 5)⟩, ⟨(some 40), none, .mv (.t 8)⟩, ⟨(some 41), none, .call i___gatepost_date_reader__second [(.t 35), (.t 36), (.t 37), (.t 38), (.t 39), (.t 40)]⟩, ⟨(some 42), none, .ext 0 (.t 41)⟩, ⟨(some 43), none, .ext 1 (.t 41)⟩, ⟨(some 2), none, .mv (.t 42)⟩, ⟨(some 3), none, .mv (.t 43)⟩])
  .ret)))))))))))))⟩
/-- gatepost/date.plain -/
def c_date_plain : FnC := ⟨54, [.tmp 2, .tmp 3],
  (.seq (.region [⟨(some 2), none, .mv (.c (.int .i64 0))⟩, ⟨(some 3), none, .mv (.c (.bool false))⟩])
  (.seq (.region [⟨(some 10), none, .mv (.t 0)⟩, ⟨(some 11), none, .call i___gatepost_date_reader__day [(.t 10), (.c (.bool false))]⟩, ⟨(some 4), none, .mv (.t 11)⟩])
  (.seq (.region [⟨(some 12), none, .mv (.t 0)⟩, ⟨(some 13), none, .call i___gatepost_date_reader__need [(.t 12), (.c (.str [32]))]⟩])
  (.seq (.region [⟨(some 14), none, .mv (.t 0)⟩, ⟨(some 15), none, .call i___gatepost_date_reader__month [(.t 14)]⟩, ⟨(some 5), none, .mv (.t 15)⟩])
  (.seq (.region [⟨(some 16), none, .mv (.t 0)⟩, ⟨(some 17), none, .call i___gatepost_date_reader__need [(.t 16), (.c (.str [32]))]⟩])
  (.seq (.region [⟨(some 6), none, .mv (.c (.int .i64 2))⟩])
  (.seq (.seq (.region [⟨(some 18), none, .mv (.t 0)⟩, ⟨(some 19), none, .nilck (.t 18)⟩, ⟨(some 20), none, .faddr 0 (.t 19)⟩, ⟨(some 21), none, .load false 1 (.t 20)⟩, ⟨(some 22), none, .len 0 (.t 21)⟩, ⟨(some 23), none, .bin .gtr (.t 22) (.c (.int .i64 0))⟩, ⟨(some 24), none, .mv (.t 23)⟩, ⟨(some 25), (some (24, true)), .mv (.t 0)⟩, ⟨(some 26), (some (24, true)), .nilck (.t 25)⟩, ⟨(some 27), (some (24, true)), .faddr 0 (.t 26)⟩, ⟨(some 28), (some (24, true)), .load false 1 (.t 27)⟩, ⟨(some 29), (some (24, true)), .ixStr (.t 28) (.c (.int .i64 0))⟩, ⟨(some 30), (some (24, true)), .bin .eql (.t 29) (.c (.int .u8 32))⟩, ⟨(some 31), none, .pick (.t 24) (.t 30) (.c (.bool false))⟩])
  (.cond (.t 31)
    (.seq (.region [⟨(some 32), none, .mv (.t 0)⟩, ⟨(some 33), none, .call i___gatepost_date_reader__take [(.t 32), (.c (.int .i64 1))]⟩])
    (.region [⟨(some 6), none, .mv (.c (.int .i64 1))⟩]))
    .skip))
  (.seq (.region [⟨(some 34), none, .mv (.t 0)⟩, ⟨(some 35), none, .mv (.t 6)⟩, ⟨(some 36), none, .call i___gatepost_date_reader__number [(.t 34), (.t 35)]⟩, ⟨(some 7), none, .mv (.t 36)⟩])
  (.seq (.region [⟨(some 37), none, .mv (.t 0)⟩, ⟨(some 38), none, .call i___gatepost_date_reader__need [(.t 37), (.c (.str [32]))]⟩])
  (.seq (.region [⟨(some 39), none, .mv (.t 0)⟩, ⟨(some 40), none, .call i___gatepost_date_reader__clock [(.t 39)]⟩, ⟨(some 8), none, .mv (.t 40)⟩])
  (.seq (.region [⟨(some 41), none, .mv (.t 0)⟩, ⟨(some 42), none, .call i___gatepost_date_reader__need [(.t 41), (.c (.str [32]))]⟩])
  (.seq (.region [⟨(some 43), none, .mv (.t 0)⟩, ⟨(some 44), none, .call i___gatepost_date_reader__number [(.t 43), (.c (.int .i64 4))]⟩, ⟨(some 9), none, .mv (.t 44)⟩])
  (.seq (.region [⟨(some 45), none, .mv (.t 0)⟩, ⟨(some 46), none, .mv (.t 4)⟩, ⟨(some 47), none, .mv (.t 9)⟩, ⟨(some 48), none, .mv (.t 5)⟩, ⟨(some 49), none, .mv (.t 7)⟩, ⟨(some 50), none, .mv (.t 8)⟩, ⟨(some 51), none, .call i___gatepost_date_reader__second [(.t 45), (.t 46), (.t 47), (.t 48), (.t 49), (.t 50)]⟩, ⟨(some 52), none, .ext 0 (.t 51)⟩, ⟨(some 53), none, .ext 1 (.t 51)⟩, ⟨(some 2), none, .mv (.t 52)⟩, ⟨(some 3), none, .mv (.t 53)⟩])
  .ret)))))))))))))⟩
/-- gatepost/gatepostref02.second -/
def c_gatepostref02_second : FnC := ⟨34, [.tmp 10, .tmp 11],
  (.seq (.region [⟨(some 10), none, .mv (.c (.int .i64 0))⟩, ⟨(some 11), none, .mv (.c (.bool false))⟩])
  (.seq (.region [⟨(some 13), none, .mv (.t 1)⟩, ⟨(some 14), none, .mv (.t 2)⟩, ⟨(some 15), none, .mv (.t 3)⟩, ⟨(some 16), none, .call i_gatepostref02_Days [(.t 13), (.t 14), (.t 15)]⟩, ⟨(some 12), none, .mv (.t 16)⟩])
  (.seq (.seq (.region [⟨(some 17), none, .mv (.t 12)⟩, ⟨(some 18), none, .bin .lss (.t 17) (.c (.int .i64 0))⟩, ⟨(some 19), none, .mv (.t 18)⟩, ⟨(some 20), (some (19, false)), .mv (.t 4)⟩, ⟨(some 21), (some (19, false)), .bin .lss (.t 20) (.c (.int .i64 0))⟩, ⟨(some 22), none, .pick (.t 19) (.c (.bool true)) (.t 21)⟩, ⟨(some 23), none, .mv (.t 22)⟩, ⟨(some 24), (some (23, false)), .mv (.t 0)⟩, ⟨(some 25), (some (23, false)), .mv (.t 12)⟩, ⟨(some 26), (some (23, false)), .bin .add (.t 25) (.c (.int .i64 3))⟩, ⟨(some 27), (some (23, false)), .bin .rem (.t 26) (.c (.int .i64 7))⟩, ⟨(some 28), (some (23, false)), .bin .neq (.t 24) (.t 27)⟩, ⟨(some 29), none, .pick (.t 23) (.c (.bool true)) (.t 28)⟩])
  (.cond (.t 29)
    (.seq (.region [⟨(some 10), none, .mv (.c (.int .i64 0))⟩, ⟨(some 11), none, .mv (.c (.bool false))⟩])
    .ret)
    .skip))
  (.seq (.region [⟨(some 30), none, .mv (.t 12)⟩, ⟨(some 31), none, .bin .mul (.t 30) (.c (.int .i64 86400))⟩, ⟨(some 32), none, .mv (.t 4)⟩, ⟨(some 33), none, .bin .add (.t 31) (.t 32)⟩, ⟨(some 10), none, .mv (.t 33)⟩, ⟨(some 11), none, .mv (.c (.bool true))⟩])
  .ret))))⟩
/-- gatepost/gatepostref02.find -/
def c_gatepostref02_find : FnC := ⟨19, [.tmp 4],
  (.seq (.region [⟨(some 4), none, .mv (.c (.int .i64 0))⟩])
  (.seq (.seq (.region [⟨(some 5), none, .mv (.c (.int .i64 0))⟩])
  (.block 0 (.loop
    (.seq (.seq (.region [⟨(some 6), none, .mv (.t 5)⟩, ⟨(some 7), none, .mv (.t 0)⟩, ⟨(some 8), none, .len 1 (.t 7)⟩, ⟨(some 9), none, .bin .lss (.t 6) (.t 8)⟩])
    (.cond (.t 9)
      .skip
      (.exit 0)))
    (.seq (.block 1 (.seq (.region [⟨(some 12), none, .mv (.t 0)⟩, ⟨(some 13), none, .mv (.t 5)⟩, ⟨(some 14), none, .ixaSl 1 (.t 12) (.t 13)⟩, ⟨(some 15), none, .load false 1 (.t 14)⟩, ⟨(some 16), none, .mv (.t 1)⟩, ⟨(some 17), none, .bin .eql (.t 15) (.t 16)⟩])
    (.cond (.t 17)
      (.seq (.region [⟨(some 18), none, .mv (.t 5)⟩, ⟨(some 4), none, .mv (.t 18)⟩])
      .ret)
      .skip)))
    (.region [⟨(some 10), none, .mv (.t 5)⟩, ⟨(some 11), none, .bin .add (.t 10) (.c (.int .i64 1))⟩, ⟨(some 5), none, .mv (.t 11)⟩]))))))
  (.seq (.region [⟨(some 4), none, .mv (.c (.int .i64 (-1)))⟩])
  .ret)))⟩
/-- gatepost/gatepostref02.short -/
def c_gatepostref02_short : FnC := ⟨2, [.tmp 0],
  (.seq (.region [⟨(some 0), none, .mv (.c .nsl)⟩])
  (.seq (.region [⟨(some 1), none, .bsl 1 [(.c (.str [77, 111, 110])), (.c (.str [84, 117, 101])), (.c (.str [87, 101, 100])), (.c (.str [84, 104, 117])), (.c (.str [70, 114, 105])), (.c (.str [83, 97, 116])), (.c (.str [83, 117, 110]))]⟩, ⟨(some 0), none, .mv (.t 1)⟩])
  .ret))⟩
/-- gatepost/gatepostref02.number -/
def c_gatepostref02_number : FnC := ⟨30, [.tmp 2],
  (.seq (.region [⟨(some 2), none, .mv (.c (.int .i64 0))⟩])
  (.seq (.region [⟨(some 3), none, .mv (.c (.int .i64 0))⟩])
  (.seq (.seq (.region [⟨(some 4), none, .mv (.c (.int .i64 0))⟩])
  (.block 0 (.loop
    (.seq (.seq (.region [⟨(some 5), none, .mv (.t 4)⟩, ⟨(some 6), none, .mv (.t 0)⟩, ⟨(some 7), none, .len 0 (.t 6)⟩, ⟨(some 8), none, .bin .lss (.t 5) (.t 7)⟩])
    (.cond (.t 8)
      .skip
      (.exit 0)))
    (.seq (.block 1 (.seq (.seq (.region [⟨(some 11), none, .mv (.t 0)⟩, ⟨(some 12), none, .mv (.t 4)⟩, ⟨(some 13), none, .ixStr (.t 11) (.t 12)⟩, ⟨(some 14), none, .bin .lss (.t 13) (.c (.int .u8 48))⟩, ⟨(some 15), none, .mv (.t 14)⟩, ⟨(some 16), (some (15, false)), .mv (.t 0)⟩, ⟨(some 17), (some (15, false)), .mv (.t 4)⟩, ⟨(some 18), (some (15, false)), .ixStr (.t 16) (.t 17)⟩, ⟨(some 19), (some (15, false)), .bin .gtr (.t 18) (.c (.int .u8 57))⟩, ⟨(some 20), none, .pick (.t 15) (.c (.bool true)) (.t 19)⟩])
    (.cond (.t 20)
      (.seq (.region [⟨(some 2), none, .mv (.c (.int .i64 (-1)))⟩])
      .ret)
      .skip))
    (.region [⟨(some 21), none, .mv (.t 3)⟩, ⟨(some 22), none, .bin .mul (.t 21) (.c (.int .i64 10))⟩, ⟨(some 23), none, .mv (.t 0)⟩, ⟨(some 24), none, .mv (.t 4)⟩, ⟨(some 25), none, .ixStr (.t 23) (.t 24)⟩, ⟨(some 26), none, .bin .sub (.t 25) (.c (.int .u8 48))⟩, ⟨(some 27), none, .toInt .i64 (.t 26)⟩, ⟨(some 28), none, .bin .add (.t 22) (.t 27)⟩, ⟨(some 3), none, .mv (.t 28)⟩])))
    (.region [⟨(some 9), none, .mv (.t 4)⟩, ⟨(some 10), none, .bin .add (.t 9) (.c (.int .i64 1))⟩, ⟨(some 4), none, .mv (.t 10)⟩]))))))
  (.seq (.region [⟨(some 29), none, .mv (.t 3)⟩, ⟨(some 2), none, .mv (.t 29)⟩])
  .ret))))⟩
/-- gatepost/gatepostref02.months -/
def c_gatepostref02_months : FnC := ⟨2, [.tmp 0],
  (.seq (.region [⟨(some 0), none, .mv (.c .nsl)⟩])
  (.seq (.region [⟨(some 1), none, .bsl 1 [(.c (.str [74, 97, 110])), (.c (.str [70, 101, 98])), (.c (.str [77, 97, 114])), (.c (.str [65, 112, 114])), (.c (.str [77, 97, 121])), (.c (.str [74, 117, 110])), (.c (.str [74, 117, 108])), (.c (.str [65, 117, 103])), (.c (.str [83, 101, 112])), (.c (.str [79, 99, 116])), (.c (.str [78, 111, 118])), (.c (.str [68, 101, 99]))]⟩, ⟨(some 0), none, .mv (.t 1)⟩])
  .ret))⟩
/-- gatepost/gatepostref02.clock -/
def c_gatepostref02_clock : FnC := ⟨59, [.tmp 2],
  (.seq (.region [⟨(some 2), none, .mv (.c (.int .i64 0))⟩])
  (.seq (.seq (.region [⟨(some 6), none, .mv (.t 0)⟩, ⟨(some 7), none, .len 0 (.t 6)⟩, ⟨(some 8), none, .bin .neq (.t 7) (.c (.int .i64 8))⟩, ⟨(some 9), none, .mv (.t 8)⟩, ⟨(some 10), (some (9, false)), .mv (.t 0)⟩, ⟨(some 11), (some (9, false)), .ixStr (.t 10) (.c (.int .i64 2))⟩, ⟨(some 12), (some (9, false)), .bin .neq (.t 11) (.c (.int .u8 58))⟩, ⟨(some 13), none, .pick (.t 9) (.c (.bool true)) (.t 12)⟩, ⟨(some 14), none, .mv (.t 13)⟩, ⟨(some 15), (some (14, false)), .mv (.t 0)⟩, ⟨(some 16), (some (14, false)), .ixStr (.t 15) (.c (.int .i64 5))⟩, ⟨(some 17), (some (14, false)), .bin .neq (.t 16) (.c (.int .u8 58))⟩, ⟨(some 18), none, .pick (.t 14) (.c (.bool true)) (.t 17)⟩])
  (.cond (.t 18)
    (.seq (.region [⟨(some 2), none, .mv (.c (.int .i64 (-1)))⟩])
    .ret)
    .skip))
  (.seq (.region [⟨(some 19), none, .mv (.t 0)⟩, ⟨(some 20), none, .slstr (.t 19) none (some (.c (.int .i64 2)))⟩, ⟨(some 21), none, .call i_gatepostref02_number [(.t 20)]⟩, ⟨(some 3), none, .mv (.t 21)⟩])
  (.seq (.region [⟨(some 22), none, .mv (.t 0)⟩, ⟨(some 23), none, .slstr (.t 22) (some (.c (.int .i64 3))) (some (.c (.int .i64 5)))⟩, ⟨(some 24), none, .call i_gatepostref02_number [(.t 23)]⟩, ⟨(some 4), none, .mv (.t 24)⟩])
  (.seq (.region [⟨(some 25), none, .mv (.t 0)⟩, ⟨(some 26), none, .slstr (.t 25) (some (.c (.int .i64 6))) none⟩, ⟨(some 27), none, .call i_gatepostref02_number [(.t 26)]⟩, ⟨(some 5), none, .mv (.t 27)⟩])
  (.seq (.seq (.region [⟨(some 28), none, .mv (.t 3)⟩, ⟨(some 29), none, .bin .lss (.t 28) (.c (.int .i64 0))⟩, ⟨(some 30), none, .mv (.t 29)⟩, ⟨(some 31), (some (30, false)), .mv (.t 3)⟩, ⟨(some 32), (some (30, false)), .bin .gtr (.t 31) (.c (.int .i64 23))⟩, ⟨(some 33), none, .pick (.t 30) (.c (.bool true)) (.t 32)⟩, ⟨(some 34), none, .mv (.t 33)⟩, ⟨(some 35), (some (34, false)), .mv (.t 4)⟩, ⟨(some 36), (some (34, false)), .bin .lss (.t 35) (.c (.int .i64 0))⟩, ⟨(some 37), none, .pick (.t 34) (.c (.bool true)) (.t 36)⟩, ⟨(some 38), none, .mv (.t 37)⟩, ⟨(some 39), (some (38, false)), .mv (.t 4)⟩, ⟨(some 40), (some (38, false)), .bin .gtr (.t 39) (.c (.int .i64 59))⟩, ⟨(some 41), none, .pick (.t 38) (.c (.bool true)) (.t 40)⟩, ⟨(some 42), none, .mv (.t 41)⟩, ⟨(some 43), (some (42, false)), .mv (.t 5)⟩, ⟨(some 44), (some (42, false)), .bin .lss (.t 43) (.c (.int .i64 0))⟩, ⟨(some 45), none, .pick (.t 42) (.c (.bool true)) (.t 44)⟩, ⟨(some 46), none, .mv (.t 45)⟩, ⟨(some 47), (some (46, false)), .mv (.t 5)⟩, ⟨(some 48), (some (46, false)), .bin .gtr (.t 47) (.c (.int .i64 60))⟩, ⟨(some 49), none, .pick (.t 46) (.c (.bool true)) (.t 48)⟩])
  (.cond (.t 49)
    (.seq (.region [⟨(some 2), none, .mv (.c (.int .i64 (-1)))⟩])
    .ret)
    .skip))
  (.seq (.seq (.region [⟨(some 50), none, .mv (.t 5)⟩, ⟨(some 51), none, .bin .eql (.t 50) (.c (.int .i64 60))⟩])
  (.cond (.t 51)
    (.region [⟨(some 5), none, .mv (.c (.int .i64 59))⟩])
    .skip))
  (.seq (.region [⟨(some 52), none, .mv (.t 3)⟩, ⟨(some 53), none, .bin .mul (.t 52) (.c (.int .i64 3600))⟩, ⟨(some 54), none, .mv (.t 4)⟩, ⟨(some 55), none, .bin .mul (.t 54) (.c (.int .i64 60))⟩, ⟨(some 56), none, .bin .add (.t 53) (.t 55)⟩, ⟨(some 57), none, .mv (.t 5)⟩, ⟨(some 58), none, .bin .add (.t 56) (.t 57)⟩, ⟨(some 2), none, .mv (.t 58)⟩])
  .ret))))))))⟩
/-- gatepost/gatepostref02.year -/
def c_gatepostref02_year : FnC := ⟨5, [.tmp 2],
  (.seq (.region [⟨(some 2), none, .mv (.c (.int .i64 0))⟩])
  (.seq (.seq (.region [⟨(some 3), none, .mv (.t 0)⟩, ⟨(some 4), none, .call i_gatepostref02_leap [(.t 3)]⟩])
  (.cond (.t 4)
    (.seq (.region [⟨(some 2), none, .mv (.c (.int .i64 366))⟩])
    .ret)
    .skip))
  (.seq (.region [⟨(some 2), none, .mv (.c (.int .i64 365))⟩])
  .ret)))⟩
/-- gatepost/gatepostref02.long -/
def c_gatepostref02_long : FnC := ⟨15, [.tmp 4],
  (.seq (.region [⟨(some 4), none, .mv (.c (.int .i64 0))⟩])
  (.seq (.seq (.region [⟨(some 5), none, .mv (.t 1)⟩])
  (.block 0 (.seq (.region [⟨(some 7), none, .bin .eql (.t 5) (.c (.int .i64 2))⟩, ⟨(some 6), none, .mv (.t 7)⟩])
  (.cond (.t 6)
    (.seq (.seq (.region [⟨(some 8), none, .mv (.t 0)⟩, ⟨(some 9), none, .call i_gatepostref02_leap [(.t 8)]⟩])
    (.cond (.t 9)
      (.seq (.region [⟨(some 4), none, .mv (.c (.int .i64 29))⟩])
      .ret)
      .skip))
    (.seq (.region [⟨(some 4), none, .mv (.c (.int .i64 28))⟩])
    .ret))
    (.seq (.seq (.region [⟨(some 11), none, .bin .eql (.t 5) (.c (.int .i64 4))⟩, ⟨(some 10), none, .mv (.t 11)⟩])
    (.cond (.t 10)
      .skip
      (.seq (.region [⟨(some 12), none, .bin .eql (.t 5) (.c (.int .i64 6))⟩, ⟨(some 10), none, .mv (.t 12)⟩])
      (.cond (.t 10)
        .skip
        (.seq (.region [⟨(some 13), none, .bin .eql (.t 5) (.c (.int .i64 9))⟩, ⟨(some 10), none, .mv (.t 13)⟩])
        (.cond (.t 10)
          .skip
          (.region [⟨(some 14), none, .bin .eql (.t 5) (.c (.int .i64 11))⟩, ⟨(some 10), none, .mv (.t 14)⟩])))))))
    (.cond (.t 10)
      (.seq (.region [⟨(some 4), none, .mv (.c (.int .i64 30))⟩])
      .ret)
      .skip))))))
  (.seq (.region [⟨(some 4), none, .mv (.c (.int .i64 31))⟩])
  .ret)))⟩
/-- gatepost/gatepostref02.two -/
def c_gatepostref02_two : FnC := ⟨16, [.tmp 2],
  (.seq (.region [⟨(some 2), none, .mv (.c (.str []))⟩])
  (.seq (.dregion [⟨(some 3), none, .mv (.t 0)⟩, ⟨(some 4), none, .bin .quo (.t 3) (.c (.int .i64 10))⟩, ⟨(some 5), none, .mv (.t 0)⟩, ⟨(some 6), none, .bin .quo (.t 5) (.c (.int .i64 10))⟩, ⟨(some 7), none, .bin .add (.t 6) (.c (.int .i64 1))⟩, ⟨(some 8), none, .slstr (.c (.str [48, 49, 50, 51, 52, 53, 54, 55, 56, 57])) (some (.t 4)) (some (.t 7))⟩, ⟨(some 9), none, .mv (.t 0)⟩, ⟨(some 10), none, .bin .rem (.t 9) (.c (.int .i64 10))⟩, ⟨(some 11), none, .mv (.t 0)⟩, ⟨(some 12), none, .bin .rem (.t 11) (.c (.int .i64 10))⟩, ⟨(some 13), none, .bin .add (.t 12) (.c (.int .i64 1))⟩, ⟨(some 14), none, .slstr (.c (.str [48, 49, 50, 51, 52, 53, 54, 55, 56, 57])) (some (.t 10)) (some (.t 13))⟩] [⟨(some 15), none, .bin .add (.t 8) (.t 14)⟩, ⟨(some 2), none, .mv (.t 15)⟩])
  .ret))⟩
/-- (*gatepost/date.reader).day -/
def c___gatepost_date_reader__day : FnC := ⟨44, [.tmp 4],
  (.seq (.region [⟨(some 4), none, .mv (.c (.int .i64 0))⟩])
  (.seq (.seq (.region [⟨(some 7), none, .call i_date_longDays []⟩, ⟨(some 8), none, .mv (.c (.int .i64 0))⟩])
  (.block 0 (.loop
    (.seq (.region [⟨(some 9), none, .bin .lss (.t 8) (.c (.int .i64 7))⟩])
    (.seq (.cond (.t 9)
      .skip
      (.exit 0))
    (.seq (.block 1 (.seq (.region [⟨(some 10), none, .mv (.t 8)⟩, ⟨(some 11), none, .ixArr 7 1 false (.t 7) (.t 8)⟩, ⟨(some 5), none, .mv (.t 10)⟩, ⟨(some 6), none, .mv (.t 11)⟩])
    (.seq (.seq (.region [⟨(some 12), none, .mv (.t 1)⟩, ⟨(some 13), none, .un .not (.t 12)⟩])
    (.cond (.t 13)
      (.region [⟨(some 14), none, .mv (.t 6)⟩, ⟨(some 15), none, .slstr (.t 14) none (some (.c (.int .i64 3)))⟩, ⟨(some 6), none, .mv (.t 15)⟩])
      .skip))
    (.seq (.region [⟨(some 16), none, .mv (.t 0)⟩, ⟨(some 17), none, .nilck (.t 16)⟩, ⟨(some 18), none, .faddr 0 (.t 17)⟩, ⟨(some 19), none, .load false 1 (.t 18)⟩, ⟨(some 20), none, .len 0 (.t 19)⟩, ⟨(some 21), none, .mv (.t 6)⟩, ⟨(some 22), none, .len 0 (.t 21)⟩, ⟨(some 23), none, .bin .gtr (.t 20) (.t 22)⟩, ⟨(some 24), none, .mv (.t 23)⟩, ⟨(some 25), (some (24, true)), .mv (.t 0)⟩, ⟨(some 26), (some (24, true)), .nilck (.t 25)⟩, ⟨(some 27), (some (24, true)), .faddr 0 (.t 26)⟩, ⟨(some 28), (some (24, true)), .load false 1 (.t 27)⟩, ⟨(some 29), (some (24, true)), .mv (.t 6)⟩, ⟨(some 30), (some (24, true)), .len 0 (.t 29)⟩, ⟨(some 31), (some (24, true)), .slstr (.t 28) none (some (.t 30))⟩, ⟨(some 32), (some (24, true)), .mv (.t 6)⟩, ⟨(some 33), (some (24, true)), .bin .eql (.t 31) (.t 32)⟩, ⟨(some 34), none, .pick (.t 24) (.t 33) (.c (.bool false))⟩])
    (.cond (.t 34)
      (.seq (.region [⟨(some 35), none, .mv (.t 0)⟩, ⟨(some 36), none, .mv (.t 6)⟩, ⟨(some 37), none, .len 0 (.t 36)⟩, ⟨(some 38), none, .call i___gatepost_date_reader__take [(.t 35), (.t 37)]⟩])
      (.seq (.region [⟨(some 39), none, .mv (.t 5)⟩, ⟨(some 4), none, .mv (.t 39)⟩])
      .ret))
      .skip)))))
    (.region [⟨(some 40), none, .bin .add (.t 8) (.c (.int .i64 1))⟩, ⟨(some 8), none, .mv (.t 40)⟩])))))))
  (.seq (.region [⟨(some 41), none, .mv (.t 0)⟩, ⟨(some 42), none, .nilck (.t 41)⟩, ⟨(some 43), none, .faddr 1 (.t 42)⟩, ⟨none, none, .store 1 (.t 43) (.c (.bool false))⟩])
  (.seq (.region [⟨(some 4), none, .mv (.c (.int .i64 0))⟩])
  .ret))))⟩
/-- (*gatepost/date.reader).need -/
def c___gatepost_date_reader__need : FnC := ⟨13, [],
  (.seq (.region [⟨(some 4), none, .mv (.t 0)⟩, ⟨(some 5), none, .mv (.t 1)⟩, ⟨(some 6), none, .len 0 (.t 5)⟩, ⟨(some 7), none, .call i___gatepost_date_reader__take [(.t 4), (.t 6)]⟩, ⟨(some 8), none, .mv (.t 1)⟩, ⟨(some 9), none, .bin .neq (.t 7) (.t 8)⟩])
  (.cond (.t 9)
    (.region [⟨(some 10), none, .mv (.t 0)⟩, ⟨(some 11), none, .nilck (.t 10)⟩, ⟨(some 12), none, .faddr 1 (.t 11)⟩, ⟨none, none, .store 1 (.t 12) (.c (.bool false))⟩])
    .skip))⟩
/-- (*gatepost/date.reader).number -/
def c___gatepost_date_reader__number : FnC := ⟨25, [.tmp 4],
  (.seq (.region [⟨(some 2), none, .box (.t 0)⟩, ⟨(some 4), none, .mv (.c (.int .i64 0))⟩])
  (.seq (.region [⟨(some 9), none, .load false 1 (.t 2)⟩, ⟨(some 10), none, .mv (.t 1)⟩, ⟨(some 11), none, .call i___gatepost_date_reader__take [(.t 9), (.t 10)]⟩, ⟨(some 5), none, .mv (.t 11)⟩])
  (.seq (.region [⟨(some 6), none, .boxz [(.int .i64 0)]⟩, ⟨none, none, .store 1 (.t 6) (.c (.int .i64 0))⟩])
  (.seq (.region [⟨(some 12), none, .mkfn i___gatepost_date_reader__number_1 [(.t 2), (.t 6)]⟩, ⟨(some 7), none, .mv (.t 12)⟩])
  (.seq (.seq (.region [⟨(some 13), none, .mv (.t 5)⟩, ⟨(some 14), none, .len 0 (.t 13)⟩, ⟨(some 15), none, .mv (.c (.int .i64 0))⟩])
  (.block 0 (.loop
    (.seq (.region [⟨(some 16), none, .bin .lss (.t 15) (.t 14)⟩])
    (.seq (.cond (.t 16)
      .skip
      (.exit 0))
    (.seq (.block 1 (.seq (.region [⟨(some 17), none, .mv (.t 15)⟩, ⟨(some 8), none, .mv (.t 17)⟩])
    (.region [⟨(some 18), none, .mv (.t 7)⟩, ⟨(some 19), none, .mv (.t 5)⟩, ⟨(some 20), none, .mv (.t 8)⟩, ⟨(some 21), none, .ixStr (.t 19) (.t 20)⟩, ⟨(some 22), none, .callv (.t 18) [(.t 21)]⟩])))
    (.region [⟨(some 23), none, .bin .add (.t 15) (.c (.int .i64 1))⟩, ⟨(some 15), none, .mv (.t 23)⟩])))))))
  (.seq (.region [⟨(some 24), none, .load false 1 (.t 6)⟩, ⟨(some 4), none, .mv (.t 24)⟩])
  .ret))))))⟩
/-- (*gatepost/date.reader).month -/
def c___gatepost_date_reader__month : FnC := ⟨22, [.tmp 2],
  (.seq (.region [⟨(some 2), none, .mv (.c (.int .i64 0))⟩])
  (.seq (.region [⟨(some 6), none, .mv (.t 0)⟩, ⟨(some 7), none, .call i___gatepost_date_reader__take [(.t 6), (.c (.int .i64 3))]⟩, ⟨(some 3), none, .mv (.t 7)⟩])
  (.seq (.seq (.region [⟨(some 8), none, .call i_date_monthNames []⟩, ⟨(some 9), none, .mv (.c (.int .i64 0))⟩])
  (.block 0 (.loop
    (.seq (.region [⟨(some 10), none, .bin .lss (.t 9) (.c (.int .i64 12))⟩])
    (.seq (.cond (.t 10)
      .skip
      (.exit 0))
    (.seq (.block 1 (.seq (.region [⟨(some 11), none, .mv (.t 9)⟩, ⟨(some 12), none, .ixArr 12 1 false (.t 8) (.t 9)⟩, ⟨(some 4), none, .mv (.t 11)⟩, ⟨(some 5), none, .mv (.t 12)⟩])
    (.seq (.region [⟨(some 13), none, .mv (.t 5)⟩, ⟨(some 14), none, .mv (.t 3)⟩, ⟨(some 15), none, .bin .eql (.t 13) (.t 14)⟩])
    (.cond (.t 15)
      (.seq (.region [⟨(some 16), none, .mv (.t 4)⟩, ⟨(some 17), none, .bin .add (.t 16) (.c (.int .i64 1))⟩, ⟨(some 2), none, .mv (.t 17)⟩])
      .ret)
      .skip))))
    (.region [⟨(some 18), none, .bin .add (.t 9) (.c (.int .i64 1))⟩, ⟨(some 9), none, .mv (.t 18)⟩])))))))
  (.seq (.region [⟨(some 19), none, .mv (.t 0)⟩, ⟨(some 20), none, .nilck (.t 19)⟩, ⟨(some 21), none, .faddr 1 (.t 20)⟩, ⟨none, none, .store 1 (.t 21) (.c (.bool false))⟩])
  (.seq (.region [⟨(some 2), none, .mv (.c (.int .i64 0))⟩])
  .ret)))))⟩
/-- (*gatepost/date.reader).clock -/
def c___gatepost_date_reader__clock : FnC := ⟨37, [.tmp 2],
  (.seq (.region [⟨(some 2), none, .mv (.c (.int .i64 0))⟩])
  (.seq (.region [⟨(some 6), none, .mv (.t 0)⟩, ⟨(some 7), none, .call i___gatepost_date_reader__number [(.t 6), (.c (.int .i64 2))]⟩, ⟨(some 3), none, .mv (.t 7)⟩])
  (.seq (.region [⟨(some 8), none, .mv (.t 0)⟩, ⟨(some 9), none, .call i___gatepost_date_reader__need [(.t 8), (.c (.str [58]))]⟩])
  (.seq (.region [⟨(some 10), none, .mv (.t 0)⟩, ⟨(some 11), none, .call i___gatepost_date_reader__number [(.t 10), (.c (.int .i64 2))]⟩, ⟨(some 4), none, .mv (.t 11)⟩])
  (.seq (.region [⟨(some 12), none, .mv (.t 0)⟩, ⟨(some 13), none, .call i___gatepost_date_reader__need [(.t 12), (.c (.str [58]))]⟩])
  (.seq (.region [⟨(some 14), none, .mv (.t 0)⟩, ⟨(some 15), none, .call i___gatepost_date_reader__number [(.t 14), (.c (.int .i64 2))]⟩, ⟨(some 5), none, .mv (.t 15)⟩])
  (.seq (.seq (.region [⟨(some 16), none, .mv (.t 3)⟩, ⟨(some 17), none, .bin .geq (.t 16) (.c (.int .i64 24))⟩, ⟨(some 18), none, .mv (.t 17)⟩, ⟨(some 19), (some (18, false)), .mv (.t 4)⟩, ⟨(some 20), (some (18, false)), .bin .geq (.t 19) (.c (.int .i64 60))⟩, ⟨(some 21), none, .pick (.t 18) (.c (.bool true)) (.t 20)⟩, ⟨(some 22), none, .mv (.t 21)⟩, ⟨(some 23), (some (22, false)), .mv (.t 5)⟩, ⟨(some 24), (some (22, false)), .bin .gtr (.t 23) (.c (.int .i64 60))⟩, ⟨(some 25), none, .pick (.t 22) (.c (.bool true)) (.t 24)⟩])
  (.cond (.t 25)
    (.region [⟨(some 26), none, .mv (.t 0)⟩, ⟨(some 27), none, .nilck (.t 26)⟩, ⟨(some 28), none, .faddr 1 (.t 27)⟩, ⟨none, none, .store 1 (.t 28) (.c (.bool false))⟩])
    .skip))
  (.seq (.region [⟨(some 29), none, .mv (.t 3)⟩, ⟨(some 30), none, .bin .mul (.t 29) (.c (.int .i64 3600))⟩, ⟨(some 31), none, .mv (.t 4)⟩, ⟨(some 32), none, .bin .mul (.t 31) (.c (.int .i64 60))⟩, ⟨(some 33), none, .bin .add (.t 30) (.t 32)⟩, ⟨(some 34), none, .mv (.t 5)⟩, ⟨(some 35), none, .mn [(.t 34), (.c (.int .i64 59))]⟩, ⟨(some 36), none, .bin .add (.t 33) (.t 35)⟩, ⟨(some 2), none, .mv (.t 36)⟩])
  .ret))))))))⟩
/-- (*gatepost/date.reader).second -/
def c___gatepost_date_reader__second : FnC := ⟨46, [.tmp 12, .tmp 13],
  (.seq (.region [⟨(some 12), none, .mv (.c (.int .i64 0))⟩, ⟨(some 13), none, .mv (.c (.bool false))⟩])
  (.seq (.region [⟨(some 15), none, .mv (.t 2)⟩, ⟨(some 16), none, .mv (.t 3)⟩, ⟨(some 17), none, .mv (.t 4)⟩, ⟨(some 18), none, .call i_date_Days [(.t 15), (.t 16), (.t 17)]⟩, ⟨(some 14), none, .mv (.t 18)⟩])
  (.seq (.seq (.region [⟨(some 19), none, .mv (.t 0)⟩, ⟨(some 20), none, .nilck (.t 19)⟩, ⟨(some 21), none, .faddr 1 (.t 20)⟩, ⟨(some 22), none, .load false 1 (.t 21)⟩, ⟨(some 23), none, .un .not (.t 22)⟩, ⟨(some 24), none, .mv (.t 23)⟩, ⟨(some 25), (some (24, false)), .mv (.t 0)⟩, ⟨(some 26), (some (24, false)), .nilck (.t 25)⟩, ⟨(some 27), (some (24, false)), .faddr 0 (.t 26)⟩, ⟨(some 28), (some (24, false)), .load false 1 (.t 27)⟩, ⟨(some 29), (some (24, false)), .bin .neq (.t 28) (.c (.str []))⟩, ⟨(some 30), none, .pick (.t 24) (.c (.bool true)) (.t 29)⟩, ⟨(some 31), none, .mv (.t 30)⟩, ⟨(some 32), (some (31, false)), .mv (.t 14)⟩, ⟨(some 33), (some (31, false)), .bin .lss (.t 32) (.c (.int .i64 0))⟩, ⟨(some 34), none, .pick (.t 31) (.c (.bool true)) (.t 33)⟩, ⟨(some 35), none, .mv (.t 34)⟩, ⟨(some 36), (some (35, false)), .mv (.t 14)⟩, ⟨(some 37), (some (35, false)), .bin .add (.t 36) (.c (.int .i64 3))⟩, ⟨(some 38), (some (35, false)), .bin .rem (.t 37) (.c (.int .i64 7))⟩, ⟨(some 39), (some (35, false)), .mv (.t 1)⟩, ⟨(some 40), (some (35, false)), .bin .neq (.t 38) (.t 39)⟩, ⟨(some 41), none, .pick (.t 35) (.c (.bool true)) (.t 40)⟩])
  (.cond (.t 41)
    (.seq (.region [⟨(some 12), none, .mv (.c (.int .i64 0))⟩, ⟨(some 13), none, .mv (.c (.bool false))⟩])
    .ret)
    .skip))
  (.seq (.region [⟨(some 42), none, .mv (.t 14)⟩, ⟨(some 43), none, .bin .mul (.t 42) (.c (.int .i64 86400))⟩, ⟨(some 44), none, .mv (.t 5)⟩, ⟨(some 45), none, .bin .add (.t 43) (.t 44)⟩, ⟨(some 12), none, .mv (.t 45)⟩, ⟨(some 13), none, .mv (.c (.bool true))⟩])
  .ret))))⟩
/-- (*gatepost/date.reader).take -/
def c___gatepost_date_reader__take : FnC := ⟨32, [.tmp 4],
  (.seq (.region [⟨(some 4), none, .mv (.c (.str []))⟩])
  (.seq (.seq (.region [⟨(some 6), none, .mv (.t 0)⟩, ⟨(some 7), none, .nilck (.t 6)⟩, ⟨(some 8), none, .faddr 0 (.t 7)⟩, ⟨(some 9), none, .load false 1 (.t 8)⟩, ⟨(some 10), none, .len 0 (.t 9)⟩, ⟨(some 11), none, .mv (.t 1)⟩, ⟨(some 12), none, .bin .lss (.t 10) (.t 11)⟩])
  (.cond (.t 12)
    (.seq (.region [⟨(some 13), none, .mv (.t 0)⟩, ⟨(some 14), none, .nilck (.t 13)⟩, ⟨(some 15), none, .faddr 1 (.t 14)⟩, ⟨none, none, .store 1 (.t 15) (.c (.bool false))⟩])
    (.seq (.region [⟨(some 4), none, .mv (.c (.str []))⟩])
    .ret))
    .skip))
  (.seq (.region [⟨(some 16), none, .mv (.t 0)⟩, ⟨(some 17), none, .nilck (.t 16)⟩, ⟨(some 18), none, .faddr 0 (.t 17)⟩, ⟨(some 19), none, .load false 1 (.t 18)⟩, ⟨(some 20), none, .mv (.t 1)⟩, ⟨(some 21), none, .slstr (.t 19) none (some (.t 20))⟩, ⟨(some 5), none, .mv (.t 21)⟩])
  (.seq (.region [⟨(some 22), none, .mv (.t 0)⟩, ⟨(some 23), none, .mv (.t 0)⟩, ⟨(some 24), none, .nilck (.t 23)⟩, ⟨(some 25), none, .faddr 0 (.t 24)⟩, ⟨(some 26), none, .load false 1 (.t 25)⟩, ⟨(some 27), none, .mv (.t 1)⟩, ⟨(some 28), none, .slstr (.t 26) (some (.t 27)) none⟩, ⟨(some 29), none, .nilck (.t 22)⟩, ⟨(some 30), none, .faddr 0 (.t 29)⟩, ⟨none, none, .store 1 (.t 30) (.t 28)⟩])
  (.seq (.region [⟨(some 31), none, .mv (.t 5)⟩, ⟨(some 4), none, .mv (.t 31)⟩])
  .ret)))))⟩
/-- gatepost/gatepostref02.leap -/
def c_gatepostref02_leap : FnC := ⟨16, [.tmp 2],
  (.seq (.region [⟨(some 2), none, .mv (.c (.bool false))⟩])
  (.seq (.region [⟨(some 3), none, .mv (.t 0)⟩, ⟨(some 4), none, .bin .rem (.t 3) (.c (.int .i64 4))⟩, ⟨(some 5), none, .bin .eql (.t 4) (.c (.int .i64 0))⟩, ⟨(some 6), none, .mv (.t 5)⟩, ⟨(some 7), (some (6, true)), .mv (.t 0)⟩, ⟨(some 8), (some (6, true)), .bin .rem (.t 7) (.c (.int .i64 100))⟩, ⟨(some 9), (some (6, true)), .bin .neq (.t 8) (.c (.int .i64 0))⟩, ⟨(some 10), (some (6, true)), .mv (.t 9)⟩, ⟨(some 11), (some (10, false)), .mv (.t 0)⟩, ⟨(some 12), (some (10, false)), .bin .rem (.t 11) (.c (.int .i64 400))⟩, ⟨(some 13), (some (10, false)), .bin .eql (.t 12) (.c (.int .i64 0))⟩, ⟨(some 14), (some (6, true)), .pick (.t 10) (.c (.bool true)) (.t 13)⟩, ⟨(some 15), none, .pick (.t 6) (.t 14) (.c (.bool false))⟩, ⟨(some 2), none, .mv (.t 15)⟩])
  .ret))⟩
/-- (*gatepost/date.reader).number$1 -/
def c___gatepost_date_reader__number_1 : FnC := ⟨19, [],
  (.seq (.seq (.region [⟨(some 4), none, .mv (.t 0)⟩, ⟨(some 5), none, .bin .lss (.t 4) (.c (.int .u8 48))⟩, ⟨(some 6), none, .mv (.t 5)⟩, ⟨(some 7), (some (6, false)), .mv (.t 0)⟩, ⟨(some 8), (some (6, false)), .bin .gtr (.t 7) (.c (.int .u8 57))⟩, ⟨(some 9), none, .pick (.t 6) (.c (.bool true)) (.t 8)⟩])
  (.cond (.t 9)
    (.region [⟨(some 10), none, .load false 1 (.t 1)⟩, ⟨(some 11), none, .nilck (.t 10)⟩, ⟨(some 12), none, .faddr 1 (.t 11)⟩, ⟨none, none, .store 1 (.t 12) (.c (.bool false))⟩])
    .skip))
  (.region [⟨(some 13), none, .load false 1 (.t 2)⟩, ⟨(some 14), none, .bin .mul (.c (.int .i64 10)) (.t 13)⟩, ⟨(some 15), none, .mv (.t 0)⟩, ⟨(some 16), none, .bin .sub (.t 15) (.c (.int .u8 48))⟩, ⟨(some 17), none, .toInt .i64 (.t 16)⟩, ⟨(some 18), none, .bin .add (.t 14) (.t 17)⟩, ⟨none, none, .store 1 (.t 2) (.t 18)⟩]))⟩
def tab : List (FuncId × FnC) := [(i_gatepostlaw02_DateWeeks, c_gatepostlaw02_DateWeeks), (i_gatepostlaw02_DateTells, c_gatepostlaw02_DateTells), (i_gatepostlaw02_DateBack, c_gatepostlaw02_DateBack), (i_gatepostlaw02_DateForms, c_gatepostlaw02_DateForms), (i_date_Format, c_date_Format), (i_date_Parse, c_date_Parse), (i_gatepostref02_Parse, c_gatepostref02_Parse), (i_date_Civil, c_date_Civil), (i_gatepostref02_Civil, c_gatepostref02_Civil), (i_date_Days, c_date_Days), (i_gatepostref02_Days, c_gatepostref02_Days), (i_gatepostref02_Format, c_gatepostref02_Format), (i_date_longDays, c_date_longDays), (i_date_pad, c_date_pad), (i_date_monthNames, c_date_monthNames), (i_date_fixed, c_date_fixed), (i_date_old, c_date_old), (i_date_plain, c_date_plain), (i_gatepostref02_second, c_gatepostref02_second), (i_gatepostref02_find, c_gatepostref02_find), (i_gatepostref02_short, c_gatepostref02_short), (i_gatepostref02_number, c_gatepostref02_number), (i_gatepostref02_months, c_gatepostref02_months), (i_gatepostref02_clock, c_gatepostref02_clock), (i_gatepostref02_year, c_gatepostref02_year), (i_gatepostref02_long, c_gatepostref02_long), (i_gatepostref02_two, c_gatepostref02_two), (i___gatepost_date_reader__day, c___gatepost_date_reader__day), (i___gatepost_date_reader__need, c___gatepost_date_reader__need), (i___gatepost_date_reader__number, c___gatepost_date_reader__number), (i___gatepost_date_reader__month, c___gatepost_date_reader__month), (i___gatepost_date_reader__clock, c___gatepost_date_reader__clock), (i___gatepost_date_reader__second, c___gatepost_date_reader__second), (i___gatepost_date_reader__take, c___gatepost_date_reader__take), (i_gatepostref02_leap, c_gatepostref02_leap), (i___gatepost_date_reader__number_1, c___gatepost_date_reader__number_1)]
def F (f : FuncId) : Option FnC := tab.lookup f
theorem F_gatepostlaw02_DateWeeks : F i_gatepostlaw02_DateWeeks = some c_gatepostlaw02_DateWeeks := rfl
theorem kc_gatepostlaw02_DateWeeks : compF Tryd.prog i_gatepostlaw02_DateWeeks = some c_gatepostlaw02_DateWeeks := by kernel_rfl
theorem F_gatepostlaw02_DateTells : F i_gatepostlaw02_DateTells = some c_gatepostlaw02_DateTells := rfl
theorem kc_gatepostlaw02_DateTells : compF Tryd.prog i_gatepostlaw02_DateTells = some c_gatepostlaw02_DateTells := by kernel_rfl
theorem F_gatepostlaw02_DateBack : F i_gatepostlaw02_DateBack = some c_gatepostlaw02_DateBack := rfl
theorem kc_gatepostlaw02_DateBack : compF Tryd.prog i_gatepostlaw02_DateBack = some c_gatepostlaw02_DateBack := by kernel_rfl
theorem F_gatepostlaw02_DateForms : F i_gatepostlaw02_DateForms = some c_gatepostlaw02_DateForms := rfl
theorem kc_gatepostlaw02_DateForms : compF Tryd.prog i_gatepostlaw02_DateForms = some c_gatepostlaw02_DateForms := by kernel_rfl
theorem F_date_Format : F i_date_Format = some c_date_Format := rfl
theorem kc_date_Format : compF Tryd.prog i_date_Format = some c_date_Format := by kernel_rfl
theorem F_date_Parse : F i_date_Parse = some c_date_Parse := rfl
theorem kc_date_Parse : compF Tryd.prog i_date_Parse = some c_date_Parse := by kernel_rfl
theorem F_gatepostref02_Parse : F i_gatepostref02_Parse = some c_gatepostref02_Parse := rfl
theorem kc_gatepostref02_Parse : compF Tryd.prog i_gatepostref02_Parse = some c_gatepostref02_Parse := by kernel_rfl
theorem F_date_Civil : F i_date_Civil = some c_date_Civil := rfl
theorem kc_date_Civil : compF Tryd.prog i_date_Civil = some c_date_Civil := by kernel_rfl
theorem F_gatepostref02_Civil : F i_gatepostref02_Civil = some c_gatepostref02_Civil := rfl
theorem kc_gatepostref02_Civil : compF Tryd.prog i_gatepostref02_Civil = some c_gatepostref02_Civil := by kernel_rfl
theorem F_date_Days : F i_date_Days = some c_date_Days := rfl
theorem kc_date_Days : compF Tryd.prog i_date_Days = some c_date_Days := by kernel_rfl
theorem F_gatepostref02_Days : F i_gatepostref02_Days = some c_gatepostref02_Days := rfl
theorem kc_gatepostref02_Days : compF Tryd.prog i_gatepostref02_Days = some c_gatepostref02_Days := by kernel_rfl
theorem F_gatepostref02_Format : F i_gatepostref02_Format = some c_gatepostref02_Format := rfl
theorem kc_gatepostref02_Format : compF Tryd.prog i_gatepostref02_Format = some c_gatepostref02_Format := by kernel_rfl
theorem F_date_longDays : F i_date_longDays = some c_date_longDays := rfl
theorem kc_date_longDays : compF Tryd.prog i_date_longDays = some c_date_longDays := by kernel_rfl
theorem F_date_pad : F i_date_pad = some c_date_pad := rfl
theorem kc_date_pad : compF Tryd.prog i_date_pad = some c_date_pad := by kernel_rfl
theorem F_date_monthNames : F i_date_monthNames = some c_date_monthNames := rfl
theorem kc_date_monthNames : compF Tryd.prog i_date_monthNames = some c_date_monthNames := by kernel_rfl
theorem F_date_fixed : F i_date_fixed = some c_date_fixed := rfl
theorem kc_date_fixed : compF Tryd.prog i_date_fixed = some c_date_fixed := by kernel_rfl
theorem F_date_old : F i_date_old = some c_date_old := rfl
theorem kc_date_old : compF Tryd.prog i_date_old = some c_date_old := by kernel_rfl
theorem F_date_plain : F i_date_plain = some c_date_plain := rfl
theorem kc_date_plain : compF Tryd.prog i_date_plain = some c_date_plain := by kernel_rfl
theorem F_gatepostref02_second : F i_gatepostref02_second = some c_gatepostref02_second := rfl
theorem kc_gatepostref02_second : compF Tryd.prog i_gatepostref02_second = some c_gatepostref02_second := by kernel_rfl
theorem F_gatepostref02_find : F i_gatepostref02_find = some c_gatepostref02_find := rfl
theorem kc_gatepostref02_find : compF Tryd.prog i_gatepostref02_find = some c_gatepostref02_find := by kernel_rfl
theorem F_gatepostref02_short : F i_gatepostref02_short = some c_gatepostref02_short := rfl
theorem kc_gatepostref02_short : compF Tryd.prog i_gatepostref02_short = some c_gatepostref02_short := by kernel_rfl
theorem F_gatepostref02_number : F i_gatepostref02_number = some c_gatepostref02_number := rfl
theorem kc_gatepostref02_number : compF Tryd.prog i_gatepostref02_number = some c_gatepostref02_number := by kernel_rfl
theorem F_gatepostref02_months : F i_gatepostref02_months = some c_gatepostref02_months := rfl
theorem kc_gatepostref02_months : compF Tryd.prog i_gatepostref02_months = some c_gatepostref02_months := by kernel_rfl
theorem F_gatepostref02_clock : F i_gatepostref02_clock = some c_gatepostref02_clock := rfl
theorem kc_gatepostref02_clock : compF Tryd.prog i_gatepostref02_clock = some c_gatepostref02_clock := by kernel_rfl
theorem F_gatepostref02_year : F i_gatepostref02_year = some c_gatepostref02_year := rfl
theorem kc_gatepostref02_year : compF Tryd.prog i_gatepostref02_year = some c_gatepostref02_year := by kernel_rfl
theorem F_gatepostref02_long : F i_gatepostref02_long = some c_gatepostref02_long := rfl
theorem kc_gatepostref02_long : compF Tryd.prog i_gatepostref02_long = some c_gatepostref02_long := by kernel_rfl
theorem F_gatepostref02_two : F i_gatepostref02_two = some c_gatepostref02_two := rfl
theorem kc_gatepostref02_two : compF Tryd.prog i_gatepostref02_two = some c_gatepostref02_two := by kernel_rfl
theorem F___gatepost_date_reader__day : F i___gatepost_date_reader__day = some c___gatepost_date_reader__day := rfl
theorem kc___gatepost_date_reader__day : compF Tryd.prog i___gatepost_date_reader__day = some c___gatepost_date_reader__day := by kernel_rfl
theorem F___gatepost_date_reader__need : F i___gatepost_date_reader__need = some c___gatepost_date_reader__need := rfl
theorem kc___gatepost_date_reader__need : compF Tryd.prog i___gatepost_date_reader__need = some c___gatepost_date_reader__need := by kernel_rfl
theorem F___gatepost_date_reader__number : F i___gatepost_date_reader__number = some c___gatepost_date_reader__number := rfl
theorem kc___gatepost_date_reader__number : compF Tryd.prog i___gatepost_date_reader__number = some c___gatepost_date_reader__number := by kernel_rfl
theorem F___gatepost_date_reader__month : F i___gatepost_date_reader__month = some c___gatepost_date_reader__month := rfl
theorem kc___gatepost_date_reader__month : compF Tryd.prog i___gatepost_date_reader__month = some c___gatepost_date_reader__month := by kernel_rfl
theorem F___gatepost_date_reader__clock : F i___gatepost_date_reader__clock = some c___gatepost_date_reader__clock := rfl
theorem kc___gatepost_date_reader__clock : compF Tryd.prog i___gatepost_date_reader__clock = some c___gatepost_date_reader__clock := by kernel_rfl
theorem F___gatepost_date_reader__second : F i___gatepost_date_reader__second = some c___gatepost_date_reader__second := rfl
theorem kc___gatepost_date_reader__second : compF Tryd.prog i___gatepost_date_reader__second = some c___gatepost_date_reader__second := by kernel_rfl
theorem F___gatepost_date_reader__take : F i___gatepost_date_reader__take = some c___gatepost_date_reader__take := rfl
theorem kc___gatepost_date_reader__take : compF Tryd.prog i___gatepost_date_reader__take = some c___gatepost_date_reader__take := by kernel_rfl
theorem F_gatepostref02_leap : F i_gatepostref02_leap = some c_gatepostref02_leap := rfl
theorem kc_gatepostref02_leap : compF Tryd.prog i_gatepostref02_leap = some c_gatepostref02_leap := by kernel_rfl
theorem F___gatepost_date_reader__number_1 : F i___gatepost_date_reader__number_1 = some c___gatepost_date_reader__number_1 := rfl
theorem kc___gatepost_date_reader__number_1 : compF Tryd.prog i___gatepost_date_reader__number_1 = some c___gatepost_date_reader__number_1 := by kernel_rfl
def p_gatepostlaw02_DateWeeks (L : FuncId → List V → V → Prop) (K : V → Heap → Prop) (a0 a1 : V) (h : Heap) : Prop :=
    (wi F L (.bin .and (.c a0) (.c (.int .i64 262143))) E0 h fun v9 h =>
    (wi F L (.bin .and (.c a1) (.c (.int .i64 131071))) E0 h fun v11 h =>
    (wi F L (.bin .rem (.c v11) (.c (.int .i64 86400))) E0 h fun v12 h =>
    (wi F L (.bin .mul (.c (.int .i64 86400)) (.c v9)) E0 h fun v14 h =>
    (wi F L (.call i_date_Format [(.c v14)]) E0 h fun v15 h =>
    (wi F L (.bin .add (.c v9) (.c (.int .i64 7))) E0 h fun v17 h =>
    (wi F L (.bin .mul (.c (.int .i64 86400)) (.c v17)) E0 h fun v18 h =>
    (wi F L (.bin .add (.c v18) (.c v12)) E0 h fun v20 h =>
    (wi F L (.call i_date_Format [(.c v20)]) E0 h fun v21 h =>
    (wi F L (.bin .add (.c v9) (.c (.int .i64 1))) E0 h fun v23 h =>
    (wi F L (.bin .mul (.c (.int .i64 86400)) (.c v23)) E0 h fun v24 h =>
    (wi F L (.call i_date_Format [(.c v24)]) E0 h fun v25 h =>
    (wi F L (.len 0 (.c v15)) E0 h fun v27 h' => Ext h h' ∧
    (wi F L (.bin .eql (.c v27) (.c (.int .i64 29))) E0 h' fun v28 h => Ext h' h ∧
    (wgd v28 true (wi F L (.mv (.c v21)) E0 h) h fun v30 h' =>
    (wgd v28 true (wi F L (.len 0 (.c v30)) E0 h') h' fun v31 h =>
    (wgd v28 true (wi F L (.bin .eql (.c v31) (.c (.int .i64 29))) E0 h) h fun v32 h' =>
    (wi F L (.pick (.c v28) (.c v32) (.c (.bool false))) E0 h' fun v33 h => Ext h' h ∧
    (wgd v33 true (wi F L (.mv (.c v25)) E0 h) h fun v35 h' =>
    (wgd v33 true (wi F L (.len 0 (.c v35)) E0 h') h' fun v36 h =>
    (wgd v33 true (wi F L (.bin .eql (.c v36) (.c (.int .i64 29))) E0 h) h fun v37 h' =>
    (wi F L (.pick (.c v33) (.c v37) (.c (.bool false))) E0 h' fun v38 h => Ext h' h ∧
    (wgd v38 true (wi F L (.mv (.c v15)) E0 h) h fun v40 h' =>
    (wgd v38 true (wi F L (.slstr (.c v40) none (some (.c (.int .i64 3)))) E0 h') h' fun v41 h =>
    (wgd v38 true (wi F L (.mv (.c v21)) E0 h) h fun v42 h' =>
    (wgd v38 true (wi F L (.slstr (.c v42) none (some (.c (.int .i64 3)))) E0 h') h' fun v43 h =>
    (wgd v38 true (wi F L (.bin .eql (.c v41) (.c v43)) E0 h) h fun v44 h' =>
    (wi F L (.pick (.c v38) (.c v44) (.c (.bool false))) E0 h' fun v45 h => Ext h' h ∧
    (wgd v45 true (wi F L (.mv (.c v15)) E0 h) h fun v47 h' =>
    (wgd v45 true (wi F L (.slstr (.c v47) none (some (.c (.int .i64 3)))) E0 h') h' fun v48 h =>
    (wgd v45 true (wi F L (.mv (.c v25)) E0 h) h fun v49 h' =>
    (wgd v45 true (wi F L (.slstr (.c v49) none (some (.c (.int .i64 3)))) E0 h') h' fun v50 h =>
    (wg v45 true (wi F L (.bin .neq (.c v48) (.c v50)) E0 h) h fun v51 h =>
    (wi F L (.pick (.c v45) (.c v51) (.c (.bool false))) E0 h fun v52 h =>
    (wg v52 true (wi F L (.mv (.c v15)) E0 h) h fun v54 h =>
    (wg v52 true (wi F L (.slstr (.c v54) (some (.c (.int .i64 17))) (some (.c (.int .i64 25)))) E0 h) h fun v55 h =>
    (wg v52 true (wi F L (.bin .eql (.c v55) (.c (.str [48, 48, 58, 48, 48, 58, 48, 48]))) E0 h) h fun v56 h =>
    (wi F L (.pick (.c v52) (.c v56) (.c (.bool false))) E0 h fun v57 h =>
    (∃ v, some v57 = some v ∧ K v h)))))))))))))))))))))))))))))))))))))))
theorem run_gatepostlaw02_DateWeeks {L : FuncId → List V → V → Prop} {K : V → Heap → Prop} {a0 a1 : V} {h : Heap} (hp : p_gatepostlaw02_DateWeeks L K a0 a1 h) : Cf F L i_gatepostlaw02_DateWeeks [a0, a1] h K :=
  wcallp F_gatepostlaw02_DateWeeks (show 2 ≤ 58 by decide) (p := p_gatepostlaw02_DateWeeks L K a0 a1 h) (by kernel_rfl) hp
def p_gatepostlaw02_DateTells (L : FuncId → List V → V → Prop) (K : V → Heap → Prop) (a0 a1 a2 : V) (h : Heap) : Prop :=
    (wi F L (.box (.c a2)) E0 h fun v5 h =>
    (wi F L (.call i_date_Parse [(.c a0)]) E0 h fun v19 h =>
    (wi F L (.ext 0 (.c v19)) E0 h fun v20 h =>
    (wi F L (.ext 1 (.c v19)) E0 h fun v21 h =>
    (wi F L (.call i_gatepostref02_Parse [(.c a0)]) E0 h fun v24 h =>
    (wi F L (.ext 0 (.c v24)) E0 h fun v25 h =>
    (wi F L (.ext 1 (.c v24)) E0 h fun v26 h =>
    (wi F L (.call i_date_Civil [(.c a1)]) E0 h fun v29 h =>
    (wi F L (.ext 0 (.c v29)) E0 h fun v30 h =>
    (wi F L (.ext 1 (.c v29)) E0 h fun v31 h =>
    (wi F L (.ext 2 (.c v29)) E0 h fun v32 h =>
    (wi F L (.call i_gatepostref02_Civil [(.c a1)]) E0 h fun v35 h =>
    (wi F L (.ext 0 (.c v35)) E0 h fun v36 h =>
    (wi F L (.ext 1 (.c v35)) E0 h fun v37 h =>
    (wi F L (.ext 2 (.c v35)) E0 h fun v38 h =>
    (wi F L (.bin .eql (.c v20) (.c v25)) E0 h fun v41 h' => Ext h h' ∧
    (wgd v41 true (wi F L (.mv (.c v21)) E0 h') h' fun v43 h =>
    (wgd v41 true (wi F L (.mv (.c v26)) E0 h) h fun v44 h' =>
    (wgd v41 true (wi F L (.eq .bool false (.c v43) (.c v44)) E0 h') h' fun v45 h =>
    (wi F L (.pick (.c v41) (.c v45) (.c (.bool false))) E0 h fun v46 h' => Ext h h' ∧
    (wgd v46 true (wi F L (.mv (.c v30)) E0 h') h' fun v48 h =>
    (wgd v46 true (wi F L (.mv (.c v36)) E0 h) h fun v49 h' =>
    (wgd v46 true (wi F L (.bin .eql (.c v48) (.c v49)) E0 h') h' fun v50 h =>
    (wi F L (.pick (.c v46) (.c v50) (.c (.bool false))) E0 h fun v51 h' => Ext h h' ∧
    (wgd v51 true (wi F L (.mv (.c v31)) E0 h') h' fun v53 h =>
    (wgd v51 true (wi F L (.mv (.c v37)) E0 h) h fun v54 h' =>
    (wgd v51 true (wi F L (.bin .eql (.c v53) (.c v54)) E0 h') h' fun v55 h =>
    (wi F L (.pick (.c v51) (.c v55) (.c (.bool false))) E0 h fun v56 h' => Ext h h' ∧
    (wgd v56 true (wi F L (.mv (.c v32)) E0 h') h' fun v58 h =>
    (wgd v56 true (wi F L (.mv (.c v38)) E0 h) h fun v59 h' =>
    (wgd v56 true (wi F L (.bin .eql (.c v58) (.c v59)) E0 h') h' fun v60 h =>
    (wi F L (.pick (.c v56) (.c v60) (.c (.bool false))) E0 h fun v61 h' => Ext h h' ∧
    (wgd v61 true (wi F L (.ixaArr 3 1 (.c v5) (.c (.int .i64 0))) E0 h') h' fun v63 h =>
    (wgd v61 true (wi F L (.load false 1 (.c v63)) E0 h) h fun v64 h' =>
    (wgd v61 true (wi F L (.ixaArr 3 1 (.c v5) (.c (.int .i64 1))) E0 h') h' fun v65 h =>
    (wgd v61 true (wi F L (.load false 1 (.c v65)) E0 h) h fun v66 h' =>
    (wgd v61 true (wi F L (.ixaArr 3 1 (.c v5) (.c (.int .i64 2))) E0 h') h' fun v67 h =>
    (wgd v61 true (wi F L (.load false 1 (.c v67)) E0 h) h fun v68 h' =>
    (wgd v61 true (wi F L (.call i_date_Days [(.c v64), (.c v66), (.c v68)]) E0 h') h' fun v69 h =>
    (wgd v61 true (wi F L (.ixaArr 3 1 (.c v5) (.c (.int .i64 0))) E0 h) h fun v70 h' =>
    (wgd v61 true (wi F L (.load false 1 (.c v70)) E0 h') h' fun v71 h =>
    (wgd v61 true (wi F L (.ixaArr 3 1 (.c v5) (.c (.int .i64 1))) E0 h) h fun v72 h' =>
    (wgd v61 true (wi F L (.load false 1 (.c v72)) E0 h') h' fun v73 h =>
    (wgd v61 true (wi F L (.ixaArr 3 1 (.c v5) (.c (.int .i64 2))) E0 h) h fun v74 h' =>
    (wgd v61 true (wi F L (.load false 1 (.c v74)) E0 h') h' fun v75 h =>
    (wgd v61 true (wi F L (.call i_gatepostref02_Days [(.c v71), (.c v73), (.c v75)]) E0 h) h fun v76 h' =>
    (wgd v61 true (wi F L (.bin .eql (.c v69) (.c v76)) E0 h') h' fun v77 h =>
    (wi F L (.pick (.c v61) (.c v77) (.c (.bool false))) E0 h fun v78 h' => Ext h h' ∧
    (wgd v78 true (wi F L (.mv (.c a1)) E0 h') h' fun v80 h =>
    (wgd v78 true (wi F L (.call i_date_Format [(.c v80)]) E0 h) h fun v81 h' =>
    (wgd v78 true (wi F L (.mv (.c a1)) E0 h') h' fun v82 h =>
    (wg v78 true (wi F L (.call i_gatepostref02_Format [(.c v82)]) E0 h) h fun v83 h =>
    (wg v78 true (wi F L (.bin .eql (.c v81) (.c v83)) E0 h) h fun v84 h =>
    (wi F L (.pick (.c v78) (.c v84) (.c (.bool false))) E0 h fun v85 h =>
    (wg v85 true (wi F L (.call i_date_Days [(.c (.int .i64 1970)), (.c (.int .i64 1)), (.c (.int .i64 1))]) E0 h) h fun v87 h =>
    (wg v85 true (wi F L (.bin .eql (.c v87) (.c (.int .i64 0))) E0 h) h fun v88 h =>
    (wi F L (.pick (.c v85) (.c v88) (.c (.bool false))) E0 h fun v89 h =>
    (wg v89 true (wi F L (.call i_date_Format [(.c (.int .i64 0))]) E0 h) h fun v91 h =>
    (wg v89 true (wi F L (.bin .eql (.c v91) (.c (.str [84, 104, 117, 44, 32, 48, 49, 32, 74, 97, 110, 32, 49, 57, 55, 48, 32, 48, 48, 58, 48, 48, 58, 48, 48, 32, 71, 77, 84]))) E0 h) h fun v92 h =>
    (wi F L (.pick (.c v89) (.c v92) (.c (.bool false))) E0 h fun v93 h =>
    (∃ v, some v93 = some v ∧ K v h)))))))))))))))))))))))))))))))))))))))))))))))))))))))))))))
theorem run_gatepostlaw02_DateTells {L : FuncId → List V → V → Prop} {K : V → Heap → Prop} {a0 a1 a2 : V} {h : Heap} (hp : p_gatepostlaw02_DateTells L K a0 a1 a2 h) : Cf F L i_gatepostlaw02_DateTells [a0, a1, a2] h K :=
  wcallp F_gatepostlaw02_DateTells (show 3 ≤ 94 by decide) (p := p_gatepostlaw02_DateTells L K a0 a1 a2 h) (by kernel_rfl) hp
def p_gatepostlaw02_DateBack (L : FuncId → List V → V → Prop) (K : V → Heap → Prop) (a0 a1 : V) (h : Heap) : Prop :=
    (wi F L (.bin .and (.c a0) (.c (.int .i64 137438953471))) E0 h fun v15 h =>
    (wi F L (.bin .rem (.c v15) (.c (.int .i64 253402300800))) E0 h fun v16 h =>
    (wi F L (.bin .and (.c a1) (.c (.int .i64 4194303))) E0 h fun v18 h =>
    (wi F L (.bin .rem (.c v18) (.c (.int .i64 2932896))) E0 h fun v19 h =>
    (wi F L (.call i_date_Format [(.c v16)]) E0 h fun v22 h =>
    (wi F L (.call i_date_Parse [(.c v22)]) E0 h fun v23 h =>
    (wi F L (.ext 0 (.c v23)) E0 h fun v24 h =>
    (wi F L (.ext 1 (.c v23)) E0 h fun v25 h =>
    (wi F L (.call i_date_Civil [(.c v19)]) E0 h fun v28 h =>
    (wi F L (.ext 0 (.c v28)) E0 h fun v29 h =>
    (wi F L (.ext 1 (.c v28)) E0 h fun v30 h =>
    (wi F L (.ext 2 (.c v28)) E0 h fun v31 h =>
    (wi F L (.bin .add (.c v19) (.c (.int .i64 1))) E0 h fun v34 h =>
    (wi F L (.call i_date_Civil [(.c v34)]) E0 h fun v35 h =>
    (wi F L (.ext 0 (.c v35)) E0 h fun v36 h =>
    (wi F L (.ext 1 (.c v35)) E0 h fun v37 h =>
    (wi F L (.ext 2 (.c v35)) E0 h fun v38 h =>
    (wi F L (.bin .eql (.c v36) (.c v29)) E0 h fun v41 h =>
    (wg v41 true (wi F L (.mv (.c v37)) E0 h) h fun v43 h =>
    (wg v41 true (wi F L (.mv (.c v30)) E0 h) h fun v44 h =>
    (wg v41 true (wi F L (.bin .eql (.c v43) (.c v44)) E0 h) h fun v45 h =>
    (wi F L (.pick (.c v41) (.c v45) (.c (.bool false))) E0 h fun v46 h =>
    (wg v46 true (wi F L (.mv (.c v38)) E0 h) h fun v48 h =>
    (wg v46 true (wi F L (.mv (.c v31)) E0 h) h fun v49 h =>
    (wg v46 true (wi F L (.bin .add (.c v49) (.c (.int .i64 1))) E0 h) h fun v50 h =>
    (wg v46 true (wi F L (.bin .eql (.c v48) (.c v50)) E0 h) h fun v51 h =>
    (wi F L (.pick (.c v46) (.c v51) (.c (.bool false))) E0 h fun v52 h =>
    (wg v52 false (wi F L (.mv (.c v36)) E0 h) h fun v54 h =>
    (wg v52 false (wi F L (.mv (.c v29)) E0 h) h fun v55 h =>
    (wg v52 false (wi F L (.bin .eql (.c v54) (.c v55)) E0 h) h fun v56 h =>
    (wg v52 false (wi F L (.mv (.c v56)) E0 h) h fun v57 h =>
    (wg v57 true (wi F L (.mv (.c v37)) E0 h) h fun v58 h =>
    (wg v57 true (wi F L (.mv (.c v30)) E0 h) h fun v59 h =>
    (wg v57 true (wi F L (.bin .add (.c v59) (.c (.int .i64 1))) E0 h) h fun v60 h =>
    (wg v57 true (wi F L (.bin .eql (.c v58) (.c v60)) E0 h) h fun v61 h =>
    (wg v52 false (wi F L (.pick (.c v57) (.c v61) (.c (.bool false))) E0 h) h fun v62 h =>
    (wg v52 false (wi F L (.mv (.c v62)) E0 h) h fun v63 h =>
    (wg v63 true (wi F L (.mv (.c v38)) E0 h) h fun v64 h =>
    (wg v63 true (wi F L (.bin .eql (.c v64) (.c (.int .i64 1))) E0 h) h fun v65 h =>
    (wg v52 false (wi F L (.pick (.c v63) (.c v65) (.c (.bool false))) E0 h) h fun v66 h =>
    (wi F L (.pick (.c v52) (.c (.bool true)) (.c v66)) E0 h fun v67 h =>
    (wg v67 false (wi F L (.mv (.c v36)) E0 h) h fun v69 h =>
    (wg v67 false (wi F L (.mv (.c v29)) E0 h) h fun v70 h =>
    (wg v67 false (wi F L (.bin .add (.c v70) (.c (.int .i64 1))) E0 h) h fun v71 h =>
    (wg v67 false (wi F L (.bin .eql (.c v69) (.c v71)) E0 h) h fun v72 h =>
    (wg v67 false (wi F L (.mv (.c v72)) E0 h) h fun v73 h =>
    (wg v73 true (wi F L (.mv (.c v37)) E0 h) h fun v74 h =>
    (wg v73 true (wi F L (.bin .eql (.c v74) (.c (.int .i64 1))) E0 h) h fun v75 h =>
    (wg v67 false (wi F L (.pick (.c v73) (.c v75) (.c (.bool false))) E0 h) h fun v76 h =>
    (wg v67 false (wi F L (.mv (.c v76)) E0 h) h fun v77 h =>
    (wg v77 true (wi F L (.mv (.c v38)) E0 h) h fun v78 h =>
    (wg v77 true (wi F L (.bin .eql (.c v78) (.c (.int .i64 1))) E0 h) h fun v79 h =>
    (wg v67 false (wi F L (.pick (.c v77) (.c v79) (.c (.bool false))) E0 h) h fun v80 h =>
    (wg v67 false (wi F L (.mv (.c v80)) E0 h) h fun v81 h =>
    (wg v81 true (wi F L (.mv (.c v30)) E0 h) h fun v82 h =>
    (wg v81 true (wi F L (.bin .eql (.c v82) (.c (.int .i64 12))) E0 h) h fun v83 h =>
    (wg v67 false (wi F L (.pick (.c v81) (.c v83) (.c (.bool false))) E0 h) h fun v84 h =>
    (wg v67 false (wi F L (.mv (.c v84)) E0 h) h fun v85 h =>
    (wg v85 true (wi F L (.mv (.c v31)) E0 h) h fun v86 h =>
    (wg v85 true (wi F L (.bin .eql (.c v86) (.c (.int .i64 31))) E0 h) h fun v87 h =>
    (wg v67 false (wi F L (.pick (.c v85) (.c v87) (.c (.bool false))) E0 h) h fun v88 h =>
    (wi F L (.pick (.c v67) (.c (.bool true)) (.c v88)) E0 h fun v89 h =>
    (wg v25 true (wi F L (.mv (.c v24)) E0 h) h fun v92 h =>
    (wg v25 true (wi F L (.mv (.c v16)) E0 h) h fun v93 h =>
    (wg v25 true (wi F L (.bin .eql (.c v92) (.c v93)) E0 h) h fun v94 h =>
    (wi F L (.pick (.c v25) (.c v94) (.c (.bool false))) E0 h fun v95 h =>
    (wg v95 true (wi F L (.mv (.c v29)) E0 h) h fun v97 h =>
    (wg v95 true (wi F L (.mv (.c v30)) E0 h) h fun v98 h =>
    (wg v95 true (wi F L (.mv (.c v31)) E0 h) h fun v99 h =>
    (wg v95 true (wi F L (.call i_date_Days [(.c v97), (.c v98), (.c v99)]) E0 h) h fun v100 h =>
    (wg v95 true (wi F L (.mv (.c v19)) E0 h) h fun v101 h =>
    (wg v95 true (wi F L (.bin .eql (.c v100) (.c v101)) E0 h) h fun v102 h =>
    (wi F L (.pick (.c v95) (.c v102) (.c (.bool false))) E0 h fun v103 h =>
    (wg v103 true (wi F L (.mv (.c v89)) E0 h) h fun v105 h =>
    (wi F L (.pick (.c v103) (.c v105) (.c (.bool false))) E0 h fun v106 h =>
    (wg v106 true (wi F L (.mv (.c v31)) E0 h) h fun v108 h =>
    (wg v106 true (wi F L (.bin .leq (.c v108) (.c (.int .i64 31))) E0 h) h fun v109 h =>
    (wi F L (.pick (.c v106) (.c v109) (.c (.bool false))) E0 h fun v110 h =>
    (∃ v, some v110 = some v ∧ K v h)))))))))))))))))))))))))))))))))))))))))))))))))))))))))))))))))))))))))))))))
theorem run_gatepostlaw02_DateBack {L : FuncId → List V → V → Prop} {K : V → Heap → Prop} {a0 a1 : V} {h : Heap} (hp : p_gatepostlaw02_DateBack L K a0 a1 h) : Cf F L i_gatepostlaw02_DateBack [a0, a1] h K :=
  wcallp F_gatepostlaw02_DateBack (show 2 ≤ 111 by decide) (p := p_gatepostlaw02_DateBack L K a0 a1 h) (by kernel_rfl) hp
def k_gatepostlaw02_DateForms_3 (L : FuncId → List V → V → Prop) (K : V → Heap → Prop) (v0 v3 v7 v8 : V) (h : Heap) : Prop :=
    (wi F L (.slstr (.c v3) none (some (.c (.int .i64 3)))) E0 h fun v66 h' => Ext h h' ∧
    (wi F L (.bin .add (.c v66) (.c (.str [32]))) E0 h' fun v67 h => Ext h' h ∧
    (wi F L (.slstr (.c v3) (some (.c (.int .i64 8))) (some (.c (.int .i64 11)))) E0 h fun v69 h' => Ext h h' ∧
    (wi F L (.bin .add (.c v67) (.c v69)) E0 h' fun v70 h => Ext h' h ∧
    (wi F L (.bin .add (.c v70) (.c (.str [32]))) E0 h fun v71 h' => Ext h h' ∧
    (wi F L (.bin .add (.c v71) (.c v8)) E0 h' fun v73 h => Ext h' h ∧
    (wi F L (.bin .add (.c v73) (.c (.str [32]))) E0 h fun v74 h' => Ext h h' ∧
    (wi F L (.slstr (.c v3) (some (.c (.int .i64 17))) (some (.c (.int .i64 25)))) E0 h' fun v76 h => Ext h' h ∧
    (wi F L (.bin .add (.c v74) (.c v76)) E0 h fun v77 h' => Ext h h' ∧
    (wi F L (.bin .add (.c v77) (.c (.str [32]))) E0 h' fun v78 h => Ext h' h ∧
    (wi F L (.slstr (.c v3) (some (.c (.int .i64 12))) (some (.c (.int .i64 16)))) E0 h fun v80 h' => Ext h h' ∧
    (wi F L (.bin .add (.c v78) (.c v80)) E0 h' fun v81 h =>
    (wi F L (.call i_date_Parse [(.c v7)]) E0 h fun v84 h =>
    (wi F L (.ext 0 (.c v84)) E0 h fun v85 h =>
    (wi F L (.ext 1 (.c v84)) E0 h fun v86 h =>
    (wi F L (.call i_date_Parse [(.c v81)]) E0 h fun v89 h =>
    (wi F L (.ext 0 (.c v89)) E0 h fun v90 h =>
    (wi F L (.ext 1 (.c v89)) E0 h fun v91 h =>
    (wg v86 true (wi F L (.mv (.c v91)) E0 h) h fun v94 h =>
    (wi F L (.pick (.c v86) (.c v94) (.c (.bool false))) E0 h fun v95 h =>
    (wg v95 true (wi F L (.mv (.c v85)) E0 h) h fun v97 h =>
    (wg v95 true (wi F L (.mv (.c v0)) E0 h) h fun v98 h =>
    (wg v95 true (wi F L (.bin .eql (.c v97) (.c v98)) E0 h) h fun v99 h =>
    (wi F L (.pick (.c v95) (.c v99) (.c (.bool false))) E0 h fun v100 h =>
    (wg v100 true (wi F L (.mv (.c v90)) E0 h) h fun v102 h =>
    (wg v100 true (wi F L (.mv (.c v0)) E0 h) h fun v103 h =>
    (wg v100 true (wi F L (.bin .eql (.c v102) (.c v103)) E0 h) h fun v104 h =>
    (wi F L (.pick (.c v100) (.c v104) (.c (.bool false))) E0 h fun v105 h =>
    (∃ v, some v105 = some v ∧ K v h)))))))))))))))))))))))))))))
def k_gatepostlaw02_DateForms_2 (L : FuncId → List V → V → Prop) (K : V → Heap → Prop) (v0 v3 v4 v5 : V) (h : Heap) : Prop :=
    (wi F L (.ixaSl 1 (.c v4) (.c v5)) E0 h fun v40 h' => Ext h h' ∧
    (wi F L (.load false 1 (.c v40)) E0 h' fun v41 h => Ext h' h ∧
    (wi F L (.bin .add (.c v41) (.c (.str [44, 32]))) E0 h fun v42 h' => Ext h h' ∧
    (wi F L (.slstr (.c v3) (some (.c (.int .i64 5))) (some (.c (.int .i64 7)))) E0 h' fun v44 h => Ext h' h ∧
    (wi F L (.bin .add (.c v42) (.c v44)) E0 h fun v45 h' => Ext h h' ∧
    (wi F L (.bin .add (.c v45) (.c (.str [45]))) E0 h' fun v46 h => Ext h' h ∧
    (wi F L (.slstr (.c v3) (some (.c (.int .i64 8))) (some (.c (.int .i64 11)))) E0 h fun v48 h' => Ext h h' ∧
    (wi F L (.bin .add (.c v46) (.c v48)) E0 h' fun v49 h => Ext h' h ∧
    (wi F L (.bin .add (.c v49) (.c (.str [45]))) E0 h fun v50 h' => Ext h h' ∧
    (wi F L (.slstr (.c v3) (some (.c (.int .i64 14))) (some (.c (.int .i64 16)))) E0 h' fun v52 h => Ext h' h ∧
    (wi F L (.bin .add (.c v50) (.c v52)) E0 h fun v53 h' => Ext h h' ∧
    (wi F L (.slstr (.c v3) (some (.c (.int .i64 16))) none) E0 h' fun v55 h => Ext h' h ∧
    (wi F L (.bin .add (.c v53) (.c v55)) E0 h fun v56 h =>
    (wi F L (.slstr (.c v3) (some (.c (.int .i64 5))) (some (.c (.int .i64 7)))) E0 h fun v58 h =>
    (wi F L (.ixStr (.c v58) (.c (.int .i64 0))) E0 h fun v60 h =>
    (wi F L (.bin .eql (.c v60) (.c (.int .u8 48))) E0 h fun v61 h =>
    (wb v61
    (wi F L (.slstr (.c v58) (some (.c (.int .i64 1))) none) E0 h fun v63 h =>
    (wi F L (.bin .add (.c (.str [32])) (.c v63)) E0 h fun v64 h =>
    (k_gatepostlaw02_DateForms_3 L K v0 v3 v56 v64 h)))
    (k_gatepostlaw02_DateForms_3 L K v0 v3 v56 v58 h))))))))))))))))))
def k_gatepostlaw02_DateForms_1 (L : FuncId → List V → V → Prop) (K : V → Heap → Prop) (v0 v3 v4 v5 : V) (h : Heap) : Prop :=
    (wi F L (.bin .lss (.c v5) (.c (.int .i64 0))) E0 h fun v37 h =>
    (wb v37
    (∃ v, some (.bool false) = some v ∧ K v h)
    (k_gatepostlaw02_DateForms_2 L K v0 v3 v4 v5 h)))
def k_gatepostlaw02_DateForms_5 (L : FuncId → List V → V → Prop) (K : V → Heap → Prop) (N0 : Env → Heap → Prop) (e : Env) (v6 : V) (h : Heap) : Prop :=
    (wi F L (.bin .add (.c v6) (.c (.int .i64 1))) E0 h fun v26 h =>
    (N0 (upd (upd (upd e 25 v6) 26 v26) 6 v26) h))
def k_gatepostlaw02_DateForms_4 (L : FuncId → List V → V → Prop) (K : V → Heap → Prop) (N0 : Env → Heap → Prop) (e : Env) (v3 v4 v6 : V) (h : Heap) : Prop :=
    (wi F L (.ixaSl 1 (.c v4) (.c v6)) E0 h fun v29 h' => Ext h h' ∧
    (wi F L (.load false 1 (.c v29)) E0 h' fun v30 h => Ext h' h ∧
    (wi F L (.slstr (.c v30) none (some (.c (.int .i64 3)))) E0 h fun v31 h' => Ext h h' ∧
    (wi F L (.slstr (.c v3) none (some (.c (.int .i64 3)))) E0 h' fun v33 h => Ext h' h ∧
    (wi F L (.bin .eql (.c v31) (.c v33)) E0 h fun v34 h =>
    (wb v34
    (k_gatepostlaw02_DateForms_5 L K N0 (upd (upd (upd (upd (upd (upd (upd (upd (upd (upd e 27 v4) 28 v6) 29 v29) 30 v30) 31 v31) 32 v3) 33 v33) 34 v34) 35 v6) 5 v6) v6 h)
    (k_gatepostlaw02_DateForms_5 L K N0 (upd (upd (upd (upd (upd (upd (upd (upd e 27 v4) 28 v6) 29 v29) 30 v30) 31 v31) 32 v3) 33 v33) 34 v34) v6 h)))))))
def q_gatepostlaw02_DateForms_0 (L : FuncId → List V → V → Prop) (K : V → Heap → Prop) : X → Env → Heap → Prop := (fun x => (seqX (fun e h => k_gatepostlaw02_DateForms_1 L K (e 0) (e 3) (e 4) (e 5) h) (retX c_gatepostlaw02_DateForms.results K)) (X.out 0 x))
def lc_gatepostlaw02_DateForms_0 : C :=
  (.seq (.seq (.region [⟨(some 23), none, .mv (.t 6)⟩, ⟨(some 24), none, .bin .lss (.t 23) (.c (.int .i64 7))⟩])
  (.cond (.t 24)
    .skip
    (.exit 0)))
  (.seq (.block 1 (.seq (.dregion [⟨(some 27), none, .mv (.t 4)⟩, ⟨(some 28), none, .mv (.t 6)⟩, ⟨(some 29), none, .ixaSl 1 (.t 27) (.t 28)⟩, ⟨(some 30), none, .load false 1 (.t 29)⟩, ⟨(some 31), none, .slstr (.t 30) none (some (.c (.int .i64 3)))⟩, ⟨(some 32), none, .mv (.t 3)⟩, ⟨(some 33), none, .slstr (.t 32) none (some (.c (.int .i64 3)))⟩] [⟨(some 34), none, .bin .eql (.t 31) (.t 33)⟩])
  (.cond (.t 34)
    (.region [⟨(some 35), none, .mv (.t 6)⟩, ⟨(some 5), none, .mv (.t 35)⟩])
    .skip)))
  (.region [⟨(some 25), none, .mv (.t 6)⟩, ⟨(some 26), none, .bin .add (.t 25) (.c (.int .i64 1))⟩, ⟨(some 6), none, .mv (.t 26)⟩])))
def b_gatepostlaw02_DateForms_0 (L : FuncId → List V → V → Prop) (K : V → Heap → Prop) (N0 : Env → Heap → Prop) (e : Env) (h : Heap) : Prop :=
    (wi F L (.bin .lss (.c (e 6)) (.c (.int .i64 7))) E0 h fun v24 h =>
    (wb v24
    (k_gatepostlaw02_DateForms_4 L K N0 (upd (upd e 23 (e 6)) 24 v24) (e 3) (e 4) (e 6) h)
    (k_gatepostlaw02_DateForms_1 L K (e 0) (e 3) (e 4) (e 5) h)))
theorem l_gatepostlaw02_DateForms_0 {L : FuncId → List V → V → Prop} {K : V → Heap → Prop} (I : Nat → Env → Heap → Prop) (hr : ∀ n e h, I n e h → b_gatepostlaw02_DateForms_0 L K (fun e' h' => ∃ m, m < n ∧ I m e' h') e h) {n : Nat} {e : Env} {h : Heap} (hi : I n e h) : Wl F L lc_gatepostlaw02_DateForms_0 (q_gatepostlaw02_DateForms_0 L K) e h :=
  wloopp (b := b_gatepostlaw02_DateForms_0 L K) I (fun _ _ _ => by kernel_rfl) hr hi
def k_gatepostlaw02_DateForms_0 (L : FuncId → List V → V → Prop) (K : V → Heap → Prop) (e : Env) (h : Heap) : Prop :=
    (wi F L (.bsl 1 [(.c (.str [77, 111, 110, 100, 97, 121])), (.c (.str [84, 117, 101, 115, 100, 97, 121])), (.c (.str [87, 101, 100, 110, 101, 115, 100, 97, 121])), (.c (.str [84, 104, 117, 114, 115, 100, 97, 121])), (.c (.str [70, 114, 105, 100, 97, 121])), (.c (.str [83, 97, 116, 117, 114, 100, 97, 121])), (.c (.str [83, 117, 110, 100, 97, 121]))]) E0 h fun v22 h =>
    (Wl F L lc_gatepostlaw02_DateForms_0 (q_gatepostlaw02_DateForms_0 L K) (upd (upd (upd (upd e 22 v22) 4 v22) 5 (.int .i64 (-1))) 6 (.int .i64 0)) h))
def p_gatepostlaw02_DateForms (L : FuncId → List V → V → Prop) (K : V → Heap → Prop) (a0 : V) (h : Heap) : Prop :=
    (wi F L (.bin .and (.c a0) (.c (.int .i64 137438953471))) E0 h fun v15 h =>
    (wi F L (.bin .rem (.c v15) (.c (.int .i64 3155760000))) E0 h fun v16 h =>
    (wi F L (.call i_date_Format [(.c v16)]) E0 h fun v18 h =>
    (wi F L (.len 0 (.c v18)) E0 h fun v20 h =>
    (wi F L (.bin .neq (.c v20) (.c (.int .i64 29))) E0 h fun v21 h =>
    (wb v21
    (∃ v, some (.bool false) = some v ∧ K v h)
    (k_gatepostlaw02_DateForms_0 L K (upd (upd (upd (upd (upd (upd (upd (upd (upd (upd (upd (enterE [a0]) 2 (.bool false)) 14 a0) 15 v15) 16 v16) 0 v16) 17 v16) 18 v18) 3 v18) 19 v18) 20 v20) 21 v21)  h)))))))
theorem run_gatepostlaw02_DateForms {L : FuncId → List V → V → Prop} {K : V → Heap → Prop} {a0 : V} {h : Heap} (hp : p_gatepostlaw02_DateForms L K a0 h) : Cf F L i_gatepostlaw02_DateForms [a0] h K :=
  wcallp F_gatepostlaw02_DateForms (show 1 ≤ 106 by decide) (p := p_gatepostlaw02_DateForms L K a0 h) (by kernel_rfl) hp
def k_date_Format_0 (L : FuncId → List V → V → Prop) (K : V → Heap → Prop) (v0 : V) (h : Heap) : Prop :=
    (wi F L (.bin .quo (.c v0) (.c (.int .i64 86400))) E0 h fun v16 h =>
    (wi F L (.bin .rem (.c v0) (.c (.int .i64 86400))) E0 h fun v18 h =>
    (wi F L (.call i_date_Civil [(.c v16)]) E0 h fun v21 h =>
    (wi F L (.ext 0 (.c v21)) E0 h fun v22 h =>
    (wi F L (.ext 1 (.c v21)) E0 h fun v23 h =>
    (wi F L (.ext 2 (.c v21)) E0 h fun v24 h =>
    (wi F L (.call i_date_longDays []) E0 h fun v25 h' => Ext h h' ∧
    (wi F L (.bin .add (.c v16) (.c (.int .i64 3))) E0 h' fun v27 h => Ext h' h ∧
    (wi F L (.bin .rem (.c v27) (.c (.int .i64 7))) E0 h fun v28 h' => Ext h h' ∧
    (wi F L (.ixArr 7 1 false (.c v25) (.c v28)) E0 h' fun v29 h => Ext h' h ∧
    (wi F L (.slstr (.c v29) none (some (.c (.int .i64 3)))) E0 h fun v30 h' => Ext h h' ∧
    (wi F L (.bin .add (.c v30) (.c (.str [44, 32]))) E0 h' fun v31 h => Ext h' h ∧
    (wi F L (.call i_date_pad [(.c v24), (.c (.int .i64 2))]) E0 h fun v33 h' => Ext h h' ∧
    (wi F L (.bin .add (.c v31) (.c v33)) E0 h' fun v34 h => Ext h' h ∧
    (wi F L (.bin .add (.c v34) (.c (.str [32]))) E0 h fun v35 h' => Ext h h' ∧
    (wi F L (.call i_date_monthNames []) E0 h' fun v36 h => Ext h' h ∧
    (wi F L (.bin .sub (.c v23) (.c (.int .i64 1))) E0 h fun v38 h' => Ext h h' ∧
    (wi F L (.ixArr 12 1 false (.c v36) (.c v38)) E0 h' fun v39 h => Ext h' h ∧
    (wi F L (.bin .add (.c v35) (.c v39)) E0 h fun v40 h' => Ext h h' ∧
    (wi F L (.bin .add (.c v40) (.c (.str [32]))) E0 h' fun v41 h => Ext h' h ∧
    (wi F L (.call i_date_pad [(.c v22), (.c (.int .i64 4))]) E0 h fun v43 h' => Ext h h' ∧
    (wi F L (.bin .add (.c v41) (.c v43)) E0 h' fun v44 h => Ext h' h ∧
    (wi F L (.bin .add (.c v44) (.c (.str [32]))) E0 h fun v45 h' => Ext h h' ∧
    (wi F L (.bin .quo (.c v18) (.c (.int .i64 3600))) E0 h' fun v47 h => Ext h' h ∧
    (wi F L (.call i_date_pad [(.c v47), (.c (.int .i64 2))]) E0 h fun v48 h' => Ext h h' ∧
    (wi F L (.bin .add (.c v45) (.c v48)) E0 h' fun v49 h => Ext h' h ∧
    (wi F L (.bin .add (.c v49) (.c (.str [58]))) E0 h fun v50 h' => Ext h h' ∧
    (wi F L (.bin .quo (.c v18) (.c (.int .i64 60))) E0 h' fun v52 h => Ext h' h ∧
    (wi F L (.bin .rem (.c v52) (.c (.int .i64 60))) E0 h fun v53 h' => Ext h h' ∧
    (wi F L (.call i_date_pad [(.c v53), (.c (.int .i64 2))]) E0 h' fun v54 h => Ext h' h ∧
    (wi F L (.bin .add (.c v50) (.c v54)) E0 h fun v55 h' => Ext h h' ∧
    (wi F L (.bin .add (.c v55) (.c (.str [58]))) E0 h' fun v56 h => Ext h' h ∧
    (wi F L (.bin .rem (.c v18) (.c (.int .i64 60))) E0 h fun v58 h' => Ext h h' ∧
    (wi F L (.call i_date_pad [(.c v58), (.c (.int .i64 2))]) E0 h' fun v59 h => Ext h' h ∧
    (wi F L (.bin .add (.c v56) (.c v59)) E0 h fun v60 h =>
    (wi F L (.bin .add (.c v60) (.c (.str [32, 71, 77, 84]))) E0 h fun v61 h =>
    (∃ v, some v61 = some v ∧ K v h)))))))))))))))))))))))))))))))))))))
def p_date_Format (L : FuncId → List V → V → Prop) (K : V → Heap → Prop) (a0 : V) (h : Heap) : Prop :=
    (wi F L (.bin .lss (.c a0) (.c (.int .i64 0))) E0 h fun v9 h =>
    (wg v9 false (wi F L (.mv (.c a0)) E0 h) h fun v11 h =>
    (wg v9 false (wi F L (.bin .quo (.c v11) (.c (.int .i64 86400))) E0 h) h fun v12 h =>
    (wg v9 false (wi F L (.bin .gtr (.c v12) (.c (.int .i64 2932896))) E0 h) h fun v13 h =>
    (wi F L (.pick (.c v9) (.c (.bool true)) (.c v13)) E0 h fun v14 h =>
    (wb v14
    (k_date_Format_0 L K (.int .i64 0) h)
    (k_date_Format_0 L K a0 h)))))))
theorem run_date_Format {L : FuncId → List V → V → Prop} {K : V → Heap → Prop} {a0 : V} {h : Heap} (hp : p_date_Format L K a0 h) : Cf F L i_date_Format [a0] h K :=
  wcallp F_date_Format (show 1 ≤ 62 by decide) (p := p_date_Format L K a0 h) (by kernel_rfl) hp
def k_date_Parse_0 (L : FuncId → List V → V → Prop) (K : V → Heap → Prop) (h : Heap) : Prop :=
    (∃ v, resultsV h (enterE [(.int .i64 0), (.bool false)]) [.tmp 0, .tmp 1] = some v ∧ K v h)
def k_date_Parse_2 (L : FuncId → List V → V → Prop) (K : V → Heap → Prop) (N0 : Env → Heap → Prop) (e : Env) (v9 : V) (h : Heap) : Prop :=
    (wi F L (.bin .add (.c v9) (.c (.int .i64 1))) E0 h fun v22 h =>
    (N0 (upd (upd e 22 v22) 9 v22) h))
def k_date_Parse_1 (L : FuncId → List V → V → Prop) (K : V → Heap → Prop) (N0 : Env → Heap → Prop) (e : Env) (v0 v8 v9 : V) (h : Heap) : Prop :=
    (wi F L (.ixArr 3 1 false (.c v8) (.c v9)) E0 h fun v11 h =>
    (wi F L (.build [(.str []), (.bool false)] [(0, 1, (.c v0)), (1, 1, (.c (.bool true)))]) E0 h fun v15 h =>
    (wi F L (.box (.c v15)) E0 h fun v16 h =>
    (wi F L (.callv (.c v11) [(.c v16)]) E0 h fun v17 h =>
    (wi F L (.ext 0 (.c v17)) E0 h fun v18 h =>
    (wi F L (.ext 1 (.c v17)) E0 h fun v19 h =>
    (wb v19
    (∃ v, resultsV h (enterE [v18, (.bool true)]) [.tmp 0, .tmp 1] = some v ∧ K v h)
    (k_date_Parse_2 L K N0 (upd (upd (upd (upd (upd (upd (upd (upd (upd (upd (upd (upd (upd e 11 v11) 5 v11) 13 v11) 14 v0) 15 v15) 16 v16) 17 v17) 12 v17) 18 v18) 19 v19) 6 v18) 7 v19) 20 v19) v9 h))))))))
def q_date_Parse_0 (L : FuncId → List V → V → Prop) (K : V → Heap → Prop) : X → Env → Heap → Prop := (fun x => (seqX (fun e h => k_date_Parse_0 L K  h) (retX c_date_Parse.results K)) (X.out 0 x))
def lc_date_Parse_0 : C :=
  (.seq (.region [⟨(some 10), none, .bin .lss (.t 9) (.c (.int .i64 3))⟩])
  (.seq (.cond (.t 10)
    .skip
    (.exit 0))
  (.seq (.block 1 (.seq (.region [⟨(some 11), none, .ixArr 3 1 false (.t 8) (.t 9)⟩, ⟨(some 5), none, .mv (.t 11)⟩])
  (.seq (.region [⟨(some 13), none, .mv (.t 5)⟩, ⟨(some 14), none, .mv (.t 0)⟩, ⟨(some 15), none, .build [(.str []), (.bool false)] [(0, 1, (.t 14)), (1, 1, (.c (.bool true)))]⟩, ⟨(some 16), none, .box (.t 15)⟩, ⟨(some 17), none, .callv (.t 13) [(.t 16)]⟩, ⟨(some 12), none, .mv (.t 17)⟩, ⟨(some 18), none, .ext 0 (.t 12)⟩, ⟨(some 19), none, .ext 1 (.t 12)⟩, ⟨(some 6), none, .mv (.t 18)⟩, ⟨(some 7), none, .mv (.t 19)⟩])
  (.seq (.region [⟨(some 20), none, .mv (.t 7)⟩])
  (.cond (.t 20)
    (.seq (.region [⟨(some 21), none, .mv (.t 6)⟩, ⟨(some 2), none, .mv (.t 21)⟩, ⟨(some 3), none, .mv (.c (.bool true))⟩])
    .ret)
    .skip)))))
  (.region [⟨(some 22), none, .bin .add (.t 9) (.c (.int .i64 1))⟩, ⟨(some 9), none, .mv (.t 22)⟩]))))
def b_date_Parse_0 (L : FuncId → List V → V → Prop) (K : V → Heap → Prop) (N0 : Env → Heap → Prop) (e : Env) (h : Heap) : Prop :=
    (wi F L (.bin .lss (.c (e 9)) (.c (.int .i64 3))) E0 h fun v10 h =>
    (wb v10
    (k_date_Parse_1 L K N0 (upd e 10 v10) (e 0) (e 8) (e 9) h)
    (k_date_Parse_0 L K  h)))
theorem l_date_Parse_0 {L : FuncId → List V → V → Prop} {K : V → Heap → Prop} (I : Nat → Env → Heap → Prop) (hr : ∀ n e h, I n e h → b_date_Parse_0 L K (fun e' h' => ∃ m, m < n ∧ I m e' h') e h) {n : Nat} {e : Env} {h : Heap} (hi : I n e h) : Wl F L lc_date_Parse_0 (q_date_Parse_0 L K) e h :=
  wloopp (b := b_date_Parse_0 L K) I (fun _ _ _ => by kernel_rfl) hr hi
def p_date_Parse (L : FuncId → List V → V → Prop) (K : V → Heap → Prop) (a0 : V) (h : Heap) : Prop :=
    (wi F L (.build [.nfn, .nfn, .nfn] [(0, 1, (.c (.fn i_date_fixed []))), (1, 1, (.c (.fn i_date_old []))), (2, 1, (.c (.fn i_date_plain [])))]) E0 h fun v8 h =>
    (Wl F L lc_date_Parse_0 (q_date_Parse_0 L K) (upd (upd (upd (upd (enterE [a0]) 2 (.int .i64 0)) 3 (.bool false)) 8 v8) 9 (.int .i64 0)) h))
theorem run_date_Parse {L : FuncId → List V → V → Prop} {K : V → Heap → Prop} {a0 : V} {h : Heap} (hp : p_date_Parse L K a0 h) : Cf F L i_date_Parse [a0] h K :=
  wcallp F_date_Parse (show 1 ≤ 23 by decide) (p := p_date_Parse L K a0 h) (by kernel_rfl) hp
def k_gatepostref02_Parse_2 (L : FuncId → List V → V → Prop) (K : V → Heap → Prop) (h : Heap) : Prop :=
    (∃ v, resultsV h (enterE [(.int .i64 0), (.bool false)]) [.tmp 0, .tmp 1] = some v ∧ K v h)
def k_gatepostref02_Parse_4 (L : FuncId → List V → V → Prop) (K : V → Heap → Prop) (N0 : Env → Heap → Prop) (e : Env) (v6 : V) (h : Heap) : Prop :=
    (wi F L (.bin .add (.c v6) (.c (.int .i64 1))) E0 h fun v113 h =>
    (N0 (upd (upd (upd e 112 v6) 113 v113) 6 v113) h))
def k_gatepostref02_Parse_7 (L : FuncId → List V → V → Prop) (K : V → Heap → Prop) (N0 : Env → Heap → Prop) (e : Env) (v6 v8 v9 : V) (h : Heap) : Prop :=
    (wi F L (.call i_gatepostref02_months []) E0 h fun v173 h' => Ext h h' ∧
    (wi F L (.slstr (.c v8) (some (.c (.int .i64 5))) (some (.c (.int .i64 8)))) E0 h' fun v175 h => Ext h' h ∧
    (wi F L (.call i_gatepostref02_find [(.c v173), (.c v175)]) E0 h fun v176 h' => Ext h h' ∧
    (wi F L (.bin .add (.c v176) (.c (.int .i64 1))) E0 h' fun v177 h => Ext h' h ∧
    (wi F L (.slstr (.c v8) (some (.c (.int .i64 2))) (some (.c (.int .i64 4)))) E0 h fun v179 h' => Ext h h' ∧
    (wi F L (.call i_gatepostref02_number [(.c v179)]) E0 h' fun v180 h => Ext h' h ∧
    (wi F L (.slstr (.c v8) (some (.c (.int .i64 12))) (some (.c (.int .i64 20)))) E0 h fun v182 h' => Ext h h' ∧
    (wi F L (.call i_gatepostref02_clock [(.c v182)]) E0 h' fun v183 h => Ext h' h ∧
    (wi F L (.call i_gatepostref02_second [(.c v6), (.c v9), (.c v177), (.c v180), (.c v183)]) E0 h fun v184 h' => Ext h h' ∧
    (wi F L (.ext 0 (.c v184)) E0 h' fun v185 h => Ext h' h ∧
    (wi F L (.ext 1 (.c v184)) E0 h fun v186 h' => Ext h h' ∧
    (∃ v, resultsV h' (enterE [v185, v186]) [.tmp 0, .tmp 1] = some v ∧ K v h'))))))))))))
def k_gatepostref02_Parse_6 (L : FuncId → List V → V → Prop) (K : V → Heap → Prop) (N0 : Env → Heap → Prop) (e : Env) (v6 v8 : V) (h : Heap) : Prop :=
    (wi F L (.slstr (.c v8) (some (.c (.int .i64 9))) (some (.c (.int .i64 11)))) E0 h fun v161 h =>
    (wi F L (.call i_gatepostref02_number [(.c v161)]) E0 h fun v162 h =>
    (wi F L (.bin .geq (.c v162) (.c (.int .i64 70))) E0 h fun v164 h =>
    (wb v164
    (wi F L (.bin .add (.c v162) (.c (.int .i64 1900))) E0 h fun v166 h =>
    (k_gatepostref02_Parse_7 L K N0 (upd (upd (upd (upd (upd (upd (upd (upd (upd e 160 v8) 161 v161) 162 v162) 9 v162) 163 v162) 164 v164) 165 v162) 166 v166) 9 v166) v6 v8 v166 h))
    (wi F L (.bin .geq (.c v162) (.c (.int .i64 0))) E0 h fun v168 h =>
    (wb v168
    (wi F L (.bin .add (.c v162) (.c (.int .i64 2000))) E0 h fun v170 h =>
    (k_gatepostref02_Parse_7 L K N0 (upd (upd (upd (upd (upd (upd (upd (upd (upd (upd (upd e 160 v8) 161 v161) 162 v162) 9 v162) 163 v162) 164 v164) 167 v162) 168 v168) 169 v162) 170 v170) 9 v170) v6 v8 v170 h))
    (k_gatepostref02_Parse_7 L K N0 (upd (upd (upd (upd (upd (upd (upd (upd e 160 v8) 161 v161) 162 v162) 9 v162) 163 v162) 164 v164) 167 v162) 168 v168) v6 v8 v162 h)))))))
def k_gatepostref02_Parse_5 (L : FuncId → List V → V → Prop) (K : V → Heap → Prop) (N0 : Env → Heap → Prop) (e : Env) (v0 v6 v7 : V) (h : Heap) : Prop :=
    (wi F L (.slstr (.c v0) (some (.c v7)) none) E0 h fun v136 h =>
    (wi F L (.slstr (.c v136) none (some (.c (.int .i64 2)))) E0 h fun v138 h =>
    (wi F L (.bin .neq (.c v138) (.c (.str [44, 32]))) E0 h fun v139 h =>
    (wg v139 false (wi F L (.mv (.c v136)) E0 h) h fun v141 h =>
    (wg v139 false (wi F L (.ixStr (.c v141) (.c (.int .i64 4))) E0 h) h fun v142 h =>
    (wg v139 false (wi F L (.bin .neq (.c v142) (.c (.int .u8 45))) E0 h) h fun v143 h =>
    (wi F L (.pick (.c v139) (.c (.bool true)) (.c v143)) E0 h fun v144 h =>
    (wg v144 false (wi F L (.mv (.c v136)) E0 h) h fun v146 h =>
    (wg v144 false (wi F L (.ixStr (.c v146) (.c (.int .i64 8))) E0 h) h fun v147 h =>
    (wg v144 false (wi F L (.bin .neq (.c v147) (.c (.int .u8 45))) E0 h) h fun v148 h =>
    (wi F L (.pick (.c v144) (.c (.bool true)) (.c v148)) E0 h fun v149 h =>
    (wg v149 false (wi F L (.mv (.c v136)) E0 h) h fun v151 h =>
    (wg v149 false (wi F L (.ixStr (.c v151) (.c (.int .i64 11))) E0 h) h fun v152 h =>
    (wg v149 false (wi F L (.bin .neq (.c v152) (.c (.int .u8 32))) E0 h) h fun v153 h =>
    (wi F L (.pick (.c v149) (.c (.bool true)) (.c v153)) E0 h fun v154 h =>
    (wg v154 false (wi F L (.mv (.c v136)) E0 h) h fun v156 h =>
    (wg v154 false (wi F L (.slstr (.c v156) (some (.c (.int .i64 20))) none) E0 h) h fun v157 h =>
    (wg v154 false (wi F L (.bin .neq (.c v157) (.c (.str [32, 71, 77, 84]))) E0 h) h fun v158 h =>
    (wi F L (.pick (.c v154) (.c (.bool true)) (.c v158)) E0 h fun v159 h =>
    (wb v159
    (∃ v, resultsV h (enterE [(.int .i64 0), (.bool false)]) [.tmp 0, .tmp 1] = some v ∧ K v h)
    (k_gatepostref02_Parse_6 L K N0 (upd (upd (upd (upd (upd (upd (upd (upd (upd (upd (upd (upd (upd (upd (upd (upd (upd (upd (upd (upd (upd (upd (upd (upd (upd (upd (upd e 134 v0) 135 v7) 136 v136) 8 v136) 137 v136) 138 v138) 139 v139) 140 v139) 141 v141) 142 v142) 143 v143) 144 v144) 145 v144) 146 v146) 147 v147) 148 v148) 149 v149) 150 v149) 151 v151) 152 v152) 153 v153) 154 v154) 155 v154) 156 v156) 157 v157) 158 v158) 159 v159) v6 v136 h)))))))))))))))))))))
def k_gatepostref02_Parse_3 (L : FuncId → List V → V → Prop) (K : V → Heap → Prop) (N0 : Env → Heap → Prop) (e : Env) (v0 v5 v6 : V) (h : Heap) : Prop :=
    (wi F L (.ixaSl 1 (.c v5) (.c v6)) E0 h fun v116 h =>
    (wi F L (.load false 1 (.c v116)) E0 h fun v117 h =>
    (wi F L (.len 0 (.c v117)) E0 h fun v118 h =>
    (wi F L (.len 0 (.c v0)) E0 h fun v120 h' => Ext h h' ∧
    (wi F L (.bin .add (.c v118) (.c (.int .i64 24))) E0 h' fun v122 h => Ext h' h ∧
    (wi F L (.bin .neq (.c v120) (.c v122)) E0 h fun v123 h' => Ext h h' ∧
    (wgd v123 false (wi F L (.mv (.c v0)) E0 h') h' fun v125 h =>
    (wgd v123 false (wi F L (.mv (.c v118)) E0 h) h fun v126 h' =>
    (wgd v123 false (wi F L (.slstr (.c v125) none (some (.c v126))) E0 h') h' fun v127 h =>
    (wgd v123 false (wi F L (.mv (.c v5)) E0 h) h fun v128 h' =>
    (wgd v123 false (wi F L (.mv (.c v6)) E0 h') h' fun v129 h =>
    (wgd v123 false (wi F L (.ixaSl 1 (.c v128) (.c v129)) E0 h) h fun v130 h' =>
    (wgd v123 false (wi F L (.load false 1 (.c v130)) E0 h') h' fun v131 h =>
    (wg v123 false (wi F L (.bin .neq (.c v127) (.c v131)) E0 h) h fun v132 h =>
    (wi F L (.pick (.c v123) (.c (.bool true)) (.c v132)) E0 h fun v133 h =>
    (wb v133
    (k_gatepostref02_Parse_4 L K N0 (upd (upd (upd (upd (upd (upd (upd (upd (upd (upd (upd (upd (upd (upd (upd (upd (upd (upd (upd (upd (upd e 114 v5) 115 v6) 116 v116) 117 v117) 118 v118) 7 v118) 119 v0) 120 v120) 121 v118) 122 v122) 123 v123) 124 v123) 125 v125) 126 v126) 127 v127) 128 v128) 129 v129) 130 v130) 131 v131) 132 v132) 133 v133) v6 h)
    (k_gatepostref02_Parse_5 L K N0 (upd (upd (upd (upd (upd (upd (upd (upd (upd (upd (upd (upd (upd (upd (upd (upd (upd (upd (upd (upd (upd e 114 v5) 115 v6) 116 v116) 117 v117) 118 v118) 7 v118) 119 v0) 120 v120) 121 v118) 122 v122) 123 v123) 124 v123) 125 v125) 126 v126) 127 v127) 128 v128) 129 v129) 130 v130) 131 v131) 132 v132) 133 v133) v0 v6 v118 h)))))))))))))))))
def q_gatepostref02_Parse_0 (L : FuncId → List V → V → Prop) (K : V → Heap → Prop) : X → Env → Heap → Prop := (fun x => (seqX (fun e h => k_gatepostref02_Parse_2 L K  h) (retX c_gatepostref02_Parse.results K)) (X.out 0 x))
def lc_gatepostref02_Parse_0 : C :=
  (.seq (.seq (.region [⟨(some 110), none, .mv (.t 6)⟩, ⟨(some 111), none, .bin .lss (.t 110) (.c (.int .i64 7))⟩])
  (.cond (.t 111)
    .skip
    (.exit 0)))
  (.seq (.block 1 (.seq (.region [⟨(some 114), none, .mv (.t 5)⟩, ⟨(some 115), none, .mv (.t 6)⟩, ⟨(some 116), none, .ixaSl 1 (.t 114) (.t 115)⟩, ⟨(some 117), none, .load false 1 (.t 116)⟩, ⟨(some 118), none, .len 0 (.t 117)⟩, ⟨(some 7), none, .mv (.t 118)⟩])
  (.seq (.seq (.dregion [⟨(some 119), none, .mv (.t 0)⟩, ⟨(some 120), none, .len 0 (.t 119)⟩, ⟨(some 121), none, .mv (.t 7)⟩, ⟨(some 122), none, .bin .add (.t 121) (.c (.int .i64 24))⟩, ⟨(some 123), none, .bin .neq (.t 120) (.t 122)⟩, ⟨(some 124), none, .mv (.t 123)⟩, ⟨(some 125), (some (124, false)), .mv (.t 0)⟩, ⟨(some 126), (some (124, false)), .mv (.t 7)⟩, ⟨(some 127), (some (124, false)), .slstr (.t 125) none (some (.t 126))⟩, ⟨(some 128), (some (124, false)), .mv (.t 5)⟩, ⟨(some 129), (some (124, false)), .mv (.t 6)⟩, ⟨(some 130), (some (124, false)), .ixaSl 1 (.t 128) (.t 129)⟩, ⟨(some 131), (some (124, false)), .load false 1 (.t 130)⟩] [⟨(some 132), (some (124, false)), .bin .neq (.t 127) (.t 131)⟩, ⟨(some 133), none, .pick (.t 124) (.c (.bool true)) (.t 132)⟩])
  (.cond (.t 133)
    (.exit 1)
    .skip))
  (.seq (.region [⟨(some 134), none, .mv (.t 0)⟩, ⟨(some 135), none, .mv (.t 7)⟩, ⟨(some 136), none, .slstr (.t 134) (some (.t 135)) none⟩, ⟨(some 8), none, .mv (.t 136)⟩])
  (.seq (.seq (.region [⟨(some 137), none, .mv (.t 8)⟩, ⟨(some 138), none, .slstr (.t 137) none (some (.c (.int .i64 2)))⟩, ⟨(some 139), none, .bin .neq (.t 138) (.c (.str [44, 32]))⟩, ⟨(some 140), none, .mv (.t 139)⟩, ⟨(some 141), (some (140, false)), .mv (.t 8)⟩, ⟨(some 142), (some (140, false)), .ixStr (.t 141) (.c (.int .i64 4))⟩, ⟨(some 143), (some (140, false)), .bin .neq (.t 142) (.c (.int .u8 45))⟩, ⟨(some 144), none, .pick (.t 140) (.c (.bool true)) (.t 143)⟩, ⟨(some 145), none, .mv (.t 144)⟩, ⟨(some 146), (some (145, false)), .mv (.t 8)⟩, ⟨(some 147), (some (145, false)), .ixStr (.t 146) (.c (.int .i64 8))⟩, ⟨(some 148), (some (145, false)), .bin .neq (.t 147) (.c (.int .u8 45))⟩, ⟨(some 149), none, .pick (.t 145) (.c (.bool true)) (.t 148)⟩, ⟨(some 150), none, .mv (.t 149)⟩, ⟨(some 151), (some (150, false)), .mv (.t 8)⟩, ⟨(some 152), (some (150, false)), .ixStr (.t 151) (.c (.int .i64 11))⟩, ⟨(some 153), (some (150, false)), .bin .neq (.t 152) (.c (.int .u8 32))⟩, ⟨(some 154), none, .pick (.t 150) (.c (.bool true)) (.t 153)⟩, ⟨(some 155), none, .mv (.t 154)⟩, ⟨(some 156), (some (155, false)), .mv (.t 8)⟩, ⟨(some 157), (some (155, false)), .slstr (.t 156) (some (.c (.int .i64 20))) none⟩, ⟨(some 158), (some (155, false)), .bin .neq (.t 157) (.c (.str [32, 71, 77, 84]))⟩, ⟨(some 159), none, .pick (.t 155) (.c (.bool true)) (.t 158)⟩])
  (.cond (.t 159)
    (.seq (.region [⟨(some 2), none, .mv (.c (.int .i64 0))⟩, ⟨(some 3), none, .mv (.c (.bool false))⟩])
    .ret)
    .skip))
  (.seq (.region [⟨(some 160), none, .mv (.t 8)⟩, ⟨(some 161), none, .slstr (.t 160) (some (.c (.int .i64 9))) (some (.c (.int .i64 11)))⟩, ⟨(some 162), none, .call i_gatepostref02_number [(.t 161)]⟩, ⟨(some 9), none, .mv (.t 162)⟩])
  (.seq (.seq (.region [⟨(some 163), none, .mv (.t 9)⟩, ⟨(some 164), none, .bin .geq (.t 163) (.c (.int .i64 70))⟩])
  (.cond (.t 164)
    (.region [⟨(some 165), none, .mv (.t 9)⟩, ⟨(some 166), none, .bin .add (.t 165) (.c (.int .i64 1900))⟩, ⟨(some 9), none, .mv (.t 166)⟩])
    (.seq (.region [⟨(some 167), none, .mv (.t 9)⟩, ⟨(some 168), none, .bin .geq (.t 167) (.c (.int .i64 0))⟩])
    (.cond (.t 168)
      (.region [⟨(some 169), none, .mv (.t 9)⟩, ⟨(some 170), none, .bin .add (.t 169) (.c (.int .i64 2000))⟩, ⟨(some 9), none, .mv (.t 170)⟩])
      .skip))))
  (.seq (.dregion [⟨(some 171), none, .mv (.t 6)⟩, ⟨(some 172), none, .mv (.t 9)⟩, ⟨(some 173), none, .call i_gatepostref02_months []⟩, ⟨(some 174), none, .mv (.t 8)⟩, ⟨(some 175), none, .slstr (.t 174) (some (.c (.int .i64 5))) (some (.c (.int .i64 8)))⟩, ⟨(some 176), none, .call i_gatepostref02_find [(.t 173), (.t 175)]⟩, ⟨(some 177), none, .bin .add (.t 176) (.c (.int .i64 1))⟩, ⟨(some 178), none, .mv (.t 8)⟩, ⟨(some 179), none, .slstr (.t 178) (some (.c (.int .i64 2))) (some (.c (.int .i64 4)))⟩, ⟨(some 180), none, .call i_gatepostref02_number [(.t 179)]⟩, ⟨(some 181), none, .mv (.t 8)⟩, ⟨(some 182), none, .slstr (.t 181) (some (.c (.int .i64 12))) (some (.c (.int .i64 20)))⟩, ⟨(some 183), none, .call i_gatepostref02_clock [(.t 182)]⟩, ⟨(some 184), none, .call i_gatepostref02_second [(.t 171), (.t 172), (.t 177), (.t 180), (.t 183)]⟩, ⟨(some 185), none, .ext 0 (.t 184)⟩, ⟨(some 186), none, .ext 1 (.t 184)⟩] [⟨(some 2), none, .mv (.t 185)⟩, ⟨(some 3), none, .mv (.t 186)⟩])
  .ret))))))))
  (.region [⟨(some 112), none, .mv (.t 6)⟩, ⟨(some 113), none, .bin .add (.t 112) (.c (.int .i64 1))⟩, ⟨(some 6), none, .mv (.t 113)⟩])))
def b_gatepostref02_Parse_0 (L : FuncId → List V → V → Prop) (K : V → Heap → Prop) (N0 : Env → Heap → Prop) (e : Env) (h : Heap) : Prop :=
    (wi F L (.bin .lss (.c (e 6)) (.c (.int .i64 7))) E0 h fun v111 h =>
    (wb v111
    (k_gatepostref02_Parse_3 L K N0 (upd (upd e 110 (e 6)) 111 v111) (e 0) (e 5) (e 6) h)
    (k_gatepostref02_Parse_2 L K  h)))
theorem l_gatepostref02_Parse_0 {L : FuncId → List V → V → Prop} {K : V → Heap → Prop} (I : Nat → Env → Heap → Prop) (hr : ∀ n e h, I n e h → b_gatepostref02_Parse_0 L K (fun e' h' => ∃ m, m < n ∧ I m e' h') e h) {n : Nat} {e : Env} {h : Heap} (hi : I n e h) : Wl F L lc_gatepostref02_Parse_0 (q_gatepostref02_Parse_0 L K) e h :=
  wloopp (b := b_gatepostref02_Parse_0 L K) I (fun _ _ _ => by kernel_rfl) hr hi
def k_gatepostref02_Parse_1 (L : FuncId → List V → V → Prop) (K : V → Heap → Prop) (e : Env) (h : Heap) : Prop :=
    (wi F L (.bsl 1 [(.c (.str [77, 111, 110, 100, 97, 121])), (.c (.str [84, 117, 101, 115, 100, 97, 121])), (.c (.str [87, 101, 100, 110, 101, 115, 100, 97, 121])), (.c (.str [84, 104, 117, 114, 115, 100, 97, 121])), (.c (.str [70, 114, 105, 100, 97, 121])), (.c (.str [83, 97, 116, 117, 114, 100, 97, 121])), (.c (.str [83, 117, 110, 100, 97, 121]))]) E0 h fun v109 h =>
    (Wl F L lc_gatepostref02_Parse_0 (q_gatepostref02_Parse_0 L K) (upd (upd (upd e 109 v109) 5 v109) 6 (.int .i64 0)) h))
def k_gatepostref02_Parse_8 (L : FuncId → List V → V → Prop) (K : V → Heap → Prop) (e : Env) (v0 v4 : V) (h : Heap) : Prop :=
    (wi F L (.call i_gatepostref02_short []) E0 h fun v89 h' => Ext h h' ∧
    (wi F L (.slstr (.c v0) none (some (.c (.int .i64 3)))) E0 h' fun v91 h => Ext h' h ∧
    (wi F L (.call i_gatepostref02_find [(.c v89), (.c v91)]) E0 h fun v92 h' => Ext h h' ∧
    (wi F L (.slstr (.c v0) (some (.c (.int .i64 20))) none) E0 h' fun v94 h => Ext h' h ∧
    (wi F L (.call i_gatepostref02_number [(.c v94)]) E0 h fun v95 h' => Ext h h' ∧
    (wi F L (.call i_gatepostref02_months []) E0 h' fun v96 h => Ext h' h ∧
    (wi F L (.slstr (.c v0) (some (.c (.int .i64 4))) (some (.c (.int .i64 7)))) E0 h fun v98 h' => Ext h h' ∧
    (wi F L (.call i_gatepostref02_find [(.c v96), (.c v98)]) E0 h' fun v99 h => Ext h' h ∧
    (wi F L (.bin .add (.c v99) (.c (.int .i64 1))) E0 h fun v100 h' => Ext h h' ∧
    (wi F L (.call i_gatepostref02_number [(.c v4)]) E0 h' fun v102 h => Ext h' h ∧
    (wi F L (.slstr (.c v0) (some (.c (.int .i64 11))) (some (.c (.int .i64 19)))) E0 h fun v104 h' => Ext h h' ∧
    (wi F L (.call i_gatepostref02_clock [(.c v104)]) E0 h' fun v105 h => Ext h' h ∧
    (wi F L (.call i_gatepostref02_second [(.c v92), (.c v95), (.c v100), (.c v102), (.c v105)]) E0 h fun v106 h' => Ext h h' ∧
    (wi F L (.ext 0 (.c v106)) E0 h' fun v107 h => Ext h' h ∧
    (wi F L (.ext 1 (.c v106)) E0 h fun v108 h' => Ext h h' ∧
    (∃ v, resultsV h' (enterE [v107, v108]) [.tmp 0, .tmp 1] = some v ∧ K v h'))))))))))))))))
def k_gatepostref02_Parse_0 (L : FuncId → List V → V → Prop) (K : V → Heap → Prop) (e : Env) (v0 : V) (h : Heap) : Prop :=
    (wi F L (.len 0 (.c v0)) E0 h fun v60 h =>
    (wi F L (.bin .eql (.c v60) (.c (.int .i64 24))) E0 h fun v61 h =>
    (wg v61 true (wi F L (.mv (.c v0)) E0 h) h fun v63 h =>
    (wg v61 true (wi F L (.ixStr (.c v63) (.c (.int .i64 3))) E0 h) h fun v64 h =>
    (wg v61 true (wi F L (.bin .eql (.c v64) (.c (.int .u8 32))) E0 h) h fun v65 h =>
    (wi F L (.pick (.c v61) (.c v65) (.c (.bool false))) E0 h fun v66 h =>
    (wg v66 true (wi F L (.mv (.c v0)) E0 h) h fun v68 h =>
    (wg v66 true (wi F L (.ixStr (.c v68) (.c (.int .i64 7))) E0 h) h fun v69 h =>
    (wg v66 true (wi F L (.bin .eql (.c v69) (.c (.int .u8 32))) E0 h) h fun v70 h =>
    (wi F L (.pick (.c v66) (.c v70) (.c (.bool false))) E0 h fun v71 h =>
    (wg v71 true (wi F L (.mv (.c v0)) E0 h) h fun v73 h =>
    (wg v71 true (wi F L (.ixStr (.c v73) (.c (.int .i64 10))) E0 h) h fun v74 h =>
    (wg v71 true (wi F L (.bin .eql (.c v74) (.c (.int .u8 32))) E0 h) h fun v75 h =>
    (wi F L (.pick (.c v71) (.c v75) (.c (.bool false))) E0 h fun v76 h =>
    (wg v76 true (wi F L (.mv (.c v0)) E0 h) h fun v78 h =>
    (wg v76 true (wi F L (.ixStr (.c v78) (.c (.int .i64 19))) E0 h) h fun v79 h =>
    (wg v76 true (wi F L (.bin .eql (.c v79) (.c (.int .u8 32))) E0 h) h fun v80 h =>
    (wi F L (.pick (.c v76) (.c v80) (.c (.bool false))) E0 h fun v81 h =>
    (wb v81
    (wi F L (.slstr (.c v0) (some (.c (.int .i64 8))) (some (.c (.int .i64 10)))) E0 h fun v83 h =>
    (wi F L (.ixStr (.c v83) (.c (.int .i64 0))) E0 h fun v85 h =>
    (wi F L (.bin .eql (.c v85) (.c (.int .u8 32))) E0 h fun v86 h =>
    (wb v86
    (wi F L (.slstr (.c v83) (some (.c (.int .i64 1))) none) E0 h fun v88 h =>
    (k_gatepostref02_Parse_8 L K (upd (upd (upd (upd (upd (upd (upd (upd (upd (upd (upd (upd (upd (upd (upd (upd (upd (upd (upd (upd (upd (upd (upd (upd (upd (upd (upd (upd (upd (upd (upd (upd e 59 v0) 60 v60) 61 v61) 62 v61) 63 v63) 64 v64) 65 v65) 66 v66) 67 v66) 68 v68) 69 v69) 70 v70) 71 v71) 72 v71) 73 v73) 74 v74) 75 v75) 76 v76) 77 v76) 78 v78) 79 v79) 80 v80) 81 v81) 82 v0) 83 v83) 4 v83) 84 v83) 85 v85) 86 v86) 87 v83) 88 v88) 4 v88) v0 v88 h))
    (k_gatepostref02_Parse_8 L K (upd (upd (upd (upd (upd (upd (upd (upd (upd (upd (upd (upd (upd (upd (upd (upd (upd (upd (upd (upd (upd (upd (upd (upd (upd (upd (upd (upd (upd e 59 v0) 60 v60) 61 v61) 62 v61) 63 v63) 64 v64) 65 v65) 66 v66) 67 v66) 68 v68) 69 v69) 70 v70) 71 v71) 72 v71) 73 v73) 74 v74) 75 v75) 76 v76) 77 v76) 78 v78) 79 v79) 80 v80) 81 v81) 82 v0) 83 v83) 4 v83) 84 v83) 85 v85) 86 v86) v0 v83 h)))))
    (k_gatepostref02_Parse_1 L K (upd (upd (upd (upd (upd (upd (upd (upd (upd (upd (upd (upd (upd (upd (upd (upd (upd (upd (upd (upd (upd (upd (upd e 59 v0) 60 v60) 61 v61) 62 v61) 63 v63) 64 v64) 65 v65) 66 v66) 67 v66) 68 v68) 69 v69) 70 v70) 71 v71) 72 v71) 73 v73) 74 v74) 75 v75) 76 v76) 77 v76) 78 v78) 79 v79) 80 v80) 81 v81)  h))))))))))))))))))))
def p_gatepostref02_Parse (L : FuncId → List V → V → Prop) (K : V → Heap → Prop) (a0 : V) (h : Heap) : Prop :=
    (wi F L (.len 0 (.c a0)) E0 h fun v11 h =>
    (wi F L (.bin .eql (.c v11) (.c (.int .i64 29))) E0 h fun v12 h =>
    (wg v12 true (wi F L (.mv (.c a0)) E0 h) h fun v14 h =>
    (wg v12 true (wi F L (.slstr (.c v14) (some (.c (.int .i64 3))) (some (.c (.int .i64 5)))) E0 h) h fun v15 h =>
    (wg v12 true (wi F L (.bin .eql (.c v15) (.c (.str [44, 32]))) E0 h) h fun v16 h =>
    (wi F L (.pick (.c v12) (.c v16) (.c (.bool false))) E0 h fun v17 h =>
    (wg v17 true (wi F L (.mv (.c a0)) E0 h) h fun v19 h =>
    (wg v17 true (wi F L (.ixStr (.c v19) (.c (.int .i64 7))) E0 h) h fun v20 h =>
    (wg v17 true (wi F L (.bin .eql (.c v20) (.c (.int .u8 32))) E0 h) h fun v21 h =>
    (wi F L (.pick (.c v17) (.c v21) (.c (.bool false))) E0 h fun v22 h =>
    (wg v22 true (wi F L (.mv (.c a0)) E0 h) h fun v24 h =>
    (wg v22 true (wi F L (.ixStr (.c v24) (.c (.int .i64 11))) E0 h) h fun v25 h =>
    (wg v22 true (wi F L (.bin .eql (.c v25) (.c (.int .u8 32))) E0 h) h fun v26 h =>
    (wi F L (.pick (.c v22) (.c v26) (.c (.bool false))) E0 h fun v27 h =>
    (wg v27 true (wi F L (.mv (.c a0)) E0 h) h fun v29 h =>
    (wg v27 true (wi F L (.ixStr (.c v29) (.c (.int .i64 16))) E0 h) h fun v30 h =>
    (wg v27 true (wi F L (.bin .eql (.c v30) (.c (.int .u8 32))) E0 h) h fun v31 h =>
    (wi F L (.pick (.c v27) (.c v31) (.c (.bool false))) E0 h fun v32 h =>
    (wg v32 true (wi F L (.mv (.c a0)) E0 h) h fun v34 h =>
    (wg v32 true (wi F L (.slstr (.c v34) (some (.c (.int .i64 25))) none) E0 h) h fun v35 h =>
    (wg v32 true (wi F L (.bin .eql (.c v35) (.c (.str [32, 71, 77, 84]))) E0 h) h fun v36 h =>
    (wi F L (.pick (.c v32) (.c v36) (.c (.bool false))) E0 h fun v37 h =>
    (wb v37
    (wi F L (.call i_gatepostref02_short []) E0 h fun v38 h' => Ext h h' ∧
    (wi F L (.slstr (.c a0) none (some (.c (.int .i64 3)))) E0 h' fun v40 h => Ext h' h ∧
    (wi F L (.call i_gatepostref02_find [(.c v38), (.c v40)]) E0 h fun v41 h' => Ext h h' ∧
    (wi F L (.slstr (.c a0) (some (.c (.int .i64 12))) (some (.c (.int .i64 16)))) E0 h' fun v43 h => Ext h' h ∧
    (wi F L (.call i_gatepostref02_number [(.c v43)]) E0 h fun v44 h' => Ext h h' ∧
    (wi F L (.call i_gatepostref02_months []) E0 h' fun v45 h => Ext h' h ∧
    (wi F L (.slstr (.c a0) (some (.c (.int .i64 8))) (some (.c (.int .i64 11)))) E0 h fun v47 h' => Ext h h' ∧
    (wi F L (.call i_gatepostref02_find [(.c v45), (.c v47)]) E0 h' fun v48 h => Ext h' h ∧
    (wi F L (.bin .add (.c v48) (.c (.int .i64 1))) E0 h fun v49 h' => Ext h h' ∧
    (wi F L (.slstr (.c a0) (some (.c (.int .i64 5))) (some (.c (.int .i64 7)))) E0 h' fun v51 h => Ext h' h ∧
    (wi F L (.call i_gatepostref02_number [(.c v51)]) E0 h fun v52 h' => Ext h h' ∧
    (wi F L (.slstr (.c a0) (some (.c (.int .i64 17))) (some (.c (.int .i64 25)))) E0 h' fun v54 h => Ext h' h ∧
    (wi F L (.call i_gatepostref02_clock [(.c v54)]) E0 h fun v55 h' => Ext h h' ∧
    (wi F L (.call i_gatepostref02_second [(.c v41), (.c v44), (.c v49), (.c v52), (.c v55)]) E0 h' fun v56 h => Ext h' h ∧
    (wi F L (.ext 0 (.c v56)) E0 h fun v57 h' => Ext h h' ∧
    (wi F L (.ext 1 (.c v56)) E0 h' fun v58 h => Ext h' h ∧
    (∃ v, resultsV h (enterE [v57, v58]) [.tmp 0, .tmp 1] = some v ∧ K v h)))))))))))))))))
    (k_gatepostref02_Parse_0 L K (upd (upd (upd (upd (upd (upd (upd (upd (upd (upd (upd (upd (upd (upd (upd (upd (upd (upd (upd (upd (upd (upd (upd (upd (upd (upd (upd (upd (upd (upd (enterE [a0]) 2 (.int .i64 0)) 3 (.bool false)) 10 a0) 11 v11) 12 v12) 13 v12) 14 v14) 15 v15) 16 v16) 17 v17) 18 v17) 19 v19) 20 v20) 21 v21) 22 v22) 23 v22) 24 v24) 25 v25) 26 v26) 27 v27) 28 v27) 29 v29) 30 v30) 31 v31) 32 v32) 33 v32) 34 v34) 35 v35) 36 v36) 37 v37) a0 h))))))))))))))))))))))))
theorem run_gatepostref02_Parse {L : FuncId → List V → V → Prop} {K : V → Heap → Prop} {a0 : V} {h : Heap} (hp : p_gatepostref02_Parse L K a0 h) : Cf F L i_gatepostref02_Parse [a0] h K :=
  wcallp F_gatepostref02_Parse (show 1 ≤ 187 by decide) (p := p_gatepostref02_Parse L K a0 h) (by kernel_rfl) hp
def k_date_Civil_1 (L : FuncId → List V → V → Prop) (K : V → Heap → Prop) (v2 v3 v4 : V) (h : Heap) : Prop :=
    (∃ v, resultsV h (enterE [v2, v3, v4]) [.tmp 0, .tmp 1, .tmp 2] = some v ∧ K v h)
def k_date_Civil_0 (L : FuncId → List V → V → Prop) (K : V → Heap → Prop) (v0 : V) (h : Heap) : Prop :=
    (wi F L (.bin .add (.c v0) (.c (.int .i64 719468))) E0 h fun v18 h =>
    (wi F L (.bin .quo (.c v18) (.c (.int .i64 146097))) E0 h fun v20 h =>
    (wi F L (.bin .rem (.c v18) (.c (.int .i64 146097))) E0 h fun v22 h =>
    (wi F L (.bin .quo (.c v22) (.c (.int .i64 1460))) E0 h fun v25 h =>
    (wi F L (.bin .sub (.c v22) (.c v25)) E0 h fun v26 h =>
    (wi F L (.bin .quo (.c v22) (.c (.int .i64 36524))) E0 h fun v28 h =>
    (wi F L (.bin .add (.c v26) (.c v28)) E0 h fun v29 h =>
    (wi F L (.bin .quo (.c v22) (.c (.int .i64 146096))) E0 h fun v31 h =>
    (wi F L (.bin .sub (.c v29) (.c v31)) E0 h fun v32 h =>
    (wi F L (.bin .quo (.c v32) (.c (.int .i64 365))) E0 h fun v33 h =>
    (wi F L (.bin .mul (.c (.int .i64 365)) (.c v33)) E0 h fun v36 h =>
    (wi F L (.bin .quo (.c v33) (.c (.int .i64 4))) E0 h fun v38 h =>
    (wi F L (.bin .add (.c v36) (.c v38)) E0 h fun v39 h =>
    (wi F L (.bin .quo (.c v33) (.c (.int .i64 100))) E0 h fun v41 h =>
    (wi F L (.bin .sub (.c v39) (.c v41)) E0 h fun v42 h =>
    (wi F L (.bin .sub (.c v22) (.c v42)) E0 h fun v43 h =>
    (wi F L (.bin .mul (.c (.int .i64 5)) (.c v43)) E0 h fun v45 h =>
    (wi F L (.bin .add (.c v45) (.c (.int .i64 2))) E0 h fun v46 h =>
    (wi F L (.bin .quo (.c v46) (.c (.int .i64 153))) E0 h fun v47 h =>
    (wi F L (.bin .mul (.c (.int .i64 153)) (.c v47)) E0 h fun v50 h =>
    (wi F L (.bin .add (.c v50) (.c (.int .i64 2))) E0 h fun v51 h =>
    (wi F L (.bin .quo (.c v51) (.c (.int .i64 5))) E0 h fun v52 h =>
    (wi F L (.bin .sub (.c v43) (.c v52)) E0 h fun v53 h =>
    (wi F L (.bin .add (.c v53) (.c (.int .i64 1))) E0 h fun v54 h =>
    (wi F L (.bin .add (.c v47) (.c (.int .i64 3))) E0 h fun v56 h =>
    (wi F L (.bin .mul (.c (.int .i64 400)) (.c v20)) E0 h fun v59 h =>
    (wi F L (.bin .add (.c v33) (.c v59)) E0 h fun v60 h =>
    (wi F L (.bin .gtr (.c v56) (.c (.int .i64 12))) E0 h fun v62 h =>
    (wb v62
    (wi F L (.bin .sub (.c v56) (.c (.int .i64 12))) E0 h fun v64 h =>
    (wi F L (.bin .add (.c v60) (.c (.int .i64 1))) E0 h fun v66 h =>
    (k_date_Civil_1 L K v66 v64 v54 h)))
    (k_date_Civil_1 L K v60 v56 v54 h))))))))))))))))))))))))))))))
def p_date_Civil (L : FuncId → List V → V → Prop) (K : V → Heap → Prop) (a0 : V) (h : Heap) : Prop :=
    (wi F L (.bin .lss (.c a0) (.c (.int .i64 0))) E0 h fun v12 h =>
    (wg v12 false (wi F L (.mv (.c a0)) E0 h) h fun v14 h =>
    (wg v12 false (wi F L (.bin .gtr (.c v14) (.c (.int .i64 2932896))) E0 h) h fun v15 h =>
    (wi F L (.pick (.c v12) (.c (.bool true)) (.c v15)) E0 h fun v16 h =>
    (wb v16
    (∃ v, resultsV h (enterE [(.int .i64 0), (.int .i64 0), (.int .i64 0)]) [.tmp 0, .tmp 1, .tmp 2] = some v ∧ K v h)
    (k_date_Civil_0 L K a0 h))))))
theorem run_date_Civil {L : FuncId → List V → V → Prop} {K : V → Heap → Prop} {a0 : V} {h : Heap} (hp : p_date_Civil L K a0 h) : Cf F L i_date_Civil [a0] h K :=
  wcallp F_date_Civil (show 1 ≤ 70 by decide) (p := p_date_Civil L K a0 h) (by kernel_rfl) hp
def k_gatepostref02_Civil_2 (L : FuncId → List V → V → Prop) (K : V → Heap → Prop) (v0 v5 v6 : V) (h : Heap) : Prop :=
    (wi F L (.bin .add (.c v0) (.c (.int .i64 1))) E0 h fun v38 h =>
    (∃ v, resultsV h (enterE [v5, v6, v38]) [.tmp 0, .tmp 1, .tmp 2] = some v ∧ K v h))
def k_gatepostref02_Civil_3 (L : FuncId → List V → V → Prop) (K : V → Heap → Prop) (N0 : Env → Heap → Prop) (e : Env) (v0 v5 v6 : V) (h : Heap) : Prop :=
    (wi F L (.call i_gatepostref02_long [(.c v5), (.c v6)]) E0 h fun v31 h =>
    (wi F L (.bin .sub (.c v0) (.c v31)) E0 h fun v32 h =>
    (wi F L (.bin .add (.c v6) (.c (.int .i64 1))) E0 h fun v34 h =>
    (N0 (upd (upd (upd (upd (upd (upd (upd (upd (upd e 28 v0) 29 v5) 30 v6) 31 v31) 32 v32) 0 v32) 33 v6) 34 v34) 6 v34) h))))
def q_gatepostref02_Civil_0 (L : FuncId → List V → V → Prop) (K : V → Heap → Prop) : X → Env → Heap → Prop := (fun x => (seqX (fun e h => k_gatepostref02_Civil_2 L K (e 0) (e 5) (e 6) h) (retX c_gatepostref02_Civil.results K)) (X.out 2 x))
def lc_gatepostref02_Civil_0 : C :=
  (.seq (.seq (.region [⟨(some 23), none, .mv (.t 0)⟩, ⟨(some 24), none, .mv (.t 5)⟩, ⟨(some 25), none, .mv (.t 6)⟩, ⟨(some 26), none, .call i_gatepostref02_long [(.t 24), (.t 25)]⟩, ⟨(some 27), none, .bin .geq (.t 23) (.t 26)⟩])
  (.cond (.t 27)
    .skip
    (.exit 2)))
  (.block 3 (.seq (.region [⟨(some 28), none, .mv (.t 0)⟩, ⟨(some 29), none, .mv (.t 5)⟩, ⟨(some 30), none, .mv (.t 6)⟩, ⟨(some 31), none, .call i_gatepostref02_long [(.t 29), (.t 30)]⟩, ⟨(some 32), none, .bin .sub (.t 28) (.t 31)⟩, ⟨(some 0), none, .mv (.t 32)⟩])
  (.region [⟨(some 33), none, .mv (.t 6)⟩, ⟨(some 34), none, .bin .add (.t 33) (.c (.int .i64 1))⟩, ⟨(some 6), none, .mv (.t 34)⟩]))))
def b_gatepostref02_Civil_0 (L : FuncId → List V → V → Prop) (K : V → Heap → Prop) (N0 : Env → Heap → Prop) (e : Env) (h : Heap) : Prop :=
    (wi F L (.call i_gatepostref02_long [(.c (e 5)), (.c (e 6))]) E0 h fun v26 h =>
    (wi F L (.bin .geq (.c (e 0)) (.c v26)) E0 h fun v27 h =>
    (wb v27
    (k_gatepostref02_Civil_3 L K N0 (upd (upd (upd (upd (upd e 23 (e 0)) 24 (e 5)) 25 (e 6)) 26 v26) 27 v27) (e 0) (e 5) (e 6) h)
    (k_gatepostref02_Civil_2 L K (e 0) (e 5) (e 6) h))))
theorem l_gatepostref02_Civil_0 {L : FuncId → List V → V → Prop} {K : V → Heap → Prop} (I : Nat → Env → Heap → Prop) (hr : ∀ n e h, I n e h → b_gatepostref02_Civil_0 L K (fun e' h' => ∃ m, m < n ∧ I m e' h') e h) {n : Nat} {e : Env} {h : Heap} (hi : I n e h) : Wl F L lc_gatepostref02_Civil_0 (q_gatepostref02_Civil_0 L K) e h :=
  wloopp (b := b_gatepostref02_Civil_0 L K) I (fun _ _ _ => by kernel_rfl) hr hi
def k_gatepostref02_Civil_1 (L : FuncId → List V → V → Prop) (K : V → Heap → Prop) (e : Env) (h : Heap) : Prop :=
    (Wl F L lc_gatepostref02_Civil_0 (q_gatepostref02_Civil_0 L K) (upd e 6 (.int .i64 1)) h)
def k_gatepostref02_Civil_4 (L : FuncId → List V → V → Prop) (K : V → Heap → Prop) (N0 : Env → Heap → Prop) (e : Env) (v0 v5 : V) (h : Heap) : Prop :=
    (wi F L (.call i_gatepostref02_year [(.c v5)]) E0 h fun v19 h =>
    (wi F L (.bin .sub (.c v0) (.c v19)) E0 h fun v20 h =>
    (wi F L (.bin .add (.c v5) (.c (.int .i64 1))) E0 h fun v22 h =>
    (N0 (upd (upd (upd (upd (upd (upd (upd (upd e 17 v0) 18 v5) 19 v19) 20 v20) 0 v20) 21 v5) 22 v22) 5 v22) h))))
def q_gatepostref02_Civil_1 (L : FuncId → List V → V → Prop) (K : V → Heap → Prop) : X → Env → Heap → Prop := (fun x => (seqX (fun e h => k_gatepostref02_Civil_1 L K e  h) (retX c_gatepostref02_Civil.results K)) (X.out 0 x))
def lc_gatepostref02_Civil_1 : C :=
  (.seq (.seq (.region [⟨(some 13), none, .mv (.t 0)⟩, ⟨(some 14), none, .mv (.t 5)⟩, ⟨(some 15), none, .call i_gatepostref02_year [(.t 14)]⟩, ⟨(some 16), none, .bin .geq (.t 13) (.t 15)⟩])
  (.cond (.t 16)
    .skip
    (.exit 0)))
  (.block 1 (.seq (.region [⟨(some 17), none, .mv (.t 0)⟩, ⟨(some 18), none, .mv (.t 5)⟩, ⟨(some 19), none, .call i_gatepostref02_year [(.t 18)]⟩, ⟨(some 20), none, .bin .sub (.t 17) (.t 19)⟩, ⟨(some 0), none, .mv (.t 20)⟩])
  (.region [⟨(some 21), none, .mv (.t 5)⟩, ⟨(some 22), none, .bin .add (.t 21) (.c (.int .i64 1))⟩, ⟨(some 5), none, .mv (.t 22)⟩]))))
def b_gatepostref02_Civil_1 (L : FuncId → List V → V → Prop) (K : V → Heap → Prop) (N0 : Env → Heap → Prop) (e : Env) (h : Heap) : Prop :=
    (wi F L (.call i_gatepostref02_year [(.c (e 5))]) E0 h fun v15 h =>
    (wi F L (.bin .geq (.c (e 0)) (.c v15)) E0 h fun v16 h =>
    (wb v16
    (k_gatepostref02_Civil_4 L K N0 (upd (upd (upd (upd e 13 (e 0)) 14 (e 5)) 15 v15) 16 v16) (e 0) (e 5) h)
    (k_gatepostref02_Civil_1 L K (upd (upd (upd (upd e 13 (e 0)) 14 (e 5)) 15 v15) 16 v16)  h))))
theorem l_gatepostref02_Civil_1 {L : FuncId → List V → V → Prop} {K : V → Heap → Prop} (I : Nat → Env → Heap → Prop) (hr : ∀ n e h, I n e h → b_gatepostref02_Civil_1 L K (fun e' h' => ∃ m, m < n ∧ I m e' h') e h) {n : Nat} {e : Env} {h : Heap} (hi : I n e h) : Wl F L lc_gatepostref02_Civil_1 (q_gatepostref02_Civil_1 L K) e h :=
  wloopp (b := b_gatepostref02_Civil_1 L K) I (fun _ _ _ => by kernel_rfl) hr hi
def k_gatepostref02_Civil_0 (L : FuncId → List V → V → Prop) (K : V → Heap → Prop) (e : Env) (h : Heap) : Prop :=
    (Wl F L lc_gatepostref02_Civil_1 (q_gatepostref02_Civil_1 L K) (upd e 5 (.int .i64 1970)) h)
def p_gatepostref02_Civil (L : FuncId → List V → V → Prop) (K : V → Heap → Prop) (a0 : V) (h : Heap) : Prop :=
    (wi F L (.bin .lss (.c a0) (.c (.int .i64 0))) E0 h fun v8 h =>
    (wg v8 false (wi F L (.mv (.c a0)) E0 h) h fun v10 h =>
    (wg v8 false (wi F L (.bin .gtr (.c v10) (.c (.int .i64 2932896))) E0 h) h fun v11 h =>
    (wi F L (.pick (.c v8) (.c (.bool true)) (.c v11)) E0 h fun v12 h =>
    (wb v12
    (∃ v, resultsV h (enterE [(.int .i64 0), (.int .i64 0), (.int .i64 0)]) [.tmp 0, .tmp 1, .tmp 2] = some v ∧ K v h)
    (k_gatepostref02_Civil_0 L K (upd (upd (upd (upd (upd (upd (upd (upd (upd (enterE [a0]) 2 (.int .i64 0)) 3 (.int .i64 0)) 4 (.int .i64 0)) 7 a0) 8 v8) 9 v8) 10 v10) 11 v11) 12 v12)  h))))))
theorem run_gatepostref02_Civil {L : FuncId → List V → V → Prop} {K : V → Heap → Prop} {a0 : V} {h : Heap} (hp : p_gatepostref02_Civil L K a0 h) : Cf F L i_gatepostref02_Civil [a0] h K :=
  wcallp F_gatepostref02_Civil (show 1 ≤ 39 by decide) (p := p_gatepostref02_Civil L K a0 h) (by kernel_rfl) hp
def k_date_Days_2 (L : FuncId → List V → V → Prop) (K : V → Heap → Prop) (v11 : V) (h : Heap) : Prop :=
    (∃ v, some v11 = some v ∧ K v h)
def k_date_Days_1 (L : FuncId → List V → V → Prop) (K : V → Heap → Prop) (v0 v1 v2 v7 v8 : V) (h : Heap) : Prop :=
    (wi F L (.bin .quo (.c v7) (.c (.int .i64 400))) E0 h fun v47 h =>
    (wi F L (.bin .rem (.c v7) (.c (.int .i64 400))) E0 h fun v49 h =>
    (wi F L (.bin .mul (.c v47) (.c (.int .i64 146097))) E0 h fun v51 h =>
    (wi F L (.bin .mul (.c v49) (.c (.int .i64 365))) E0 h fun v53 h =>
    (wi F L (.bin .add (.c v51) (.c v53)) E0 h fun v54 h =>
    (wi F L (.bin .quo (.c v49) (.c (.int .i64 4))) E0 h fun v56 h =>
    (wi F L (.bin .add (.c v54) (.c v56)) E0 h fun v57 h =>
    (wi F L (.bin .quo (.c v49) (.c (.int .i64 100))) E0 h fun v59 h =>
    (wi F L (.bin .sub (.c v57) (.c v59)) E0 h fun v60 h =>
    (wi F L (.bin .mul (.c (.int .i64 153)) (.c v8)) E0 h fun v62 h =>
    (wi F L (.bin .add (.c v62) (.c (.int .i64 2))) E0 h fun v63 h =>
    (wi F L (.bin .quo (.c v63) (.c (.int .i64 5))) E0 h fun v64 h =>
    (wi F L (.bin .add (.c v60) (.c v64)) E0 h fun v65 h =>
    (wi F L (.bin .add (.c v65) (.c v2)) E0 h fun v67 h =>
    (wi F L (.bin .sub (.c v67) (.c (.int .i64 1))) E0 h fun v68 h =>
    (wi F L (.bin .sub (.c v68) (.c (.int .i64 719468))) E0 h fun v69 h =>
    (wi F L (.call i_date_Civil [(.c v69)]) E0 h fun v72 h =>
    (wi F L (.ext 0 (.c v72)) E0 h fun v73 h =>
    (wi F L (.ext 1 (.c v72)) E0 h fun v74 h =>
    (wi F L (.ext 2 (.c v72)) E0 h fun v75 h =>
    (wi F L (.bin .neq (.c v73) (.c v0)) E0 h fun v78 h =>
    (wg v78 false (wi F L (.mv (.c v74)) E0 h) h fun v80 h =>
    (wg v78 false (wi F L (.mv (.c v1)) E0 h) h fun v81 h =>
    (wg v78 false (wi F L (.bin .neq (.c v80) (.c v81)) E0 h) h fun v82 h =>
    (wi F L (.pick (.c v78) (.c (.bool true)) (.c v82)) E0 h fun v83 h =>
    (wg v83 false (wi F L (.mv (.c v75)) E0 h) h fun v85 h =>
    (wg v83 false (wi F L (.mv (.c v2)) E0 h) h fun v86 h =>
    (wg v83 false (wi F L (.bin .neq (.c v85) (.c v86)) E0 h) h fun v87 h =>
    (wi F L (.pick (.c v83) (.c (.bool true)) (.c v87)) E0 h fun v88 h =>
    (wb v88
    (∃ v, some (.int .i64 (-1)) = some v ∧ K v h)
    (k_date_Days_2 L K v69 h)))))))))))))))))))))))))))))))
def k_date_Days_0 (L : FuncId → List V → V → Prop) (K : V → Heap → Prop) (v0 v1 v2 : V) (h : Heap) : Prop :=
    (wi F L (.bin .sub (.c v1) (.c (.int .i64 3))) E0 h fun v39 h =>
    (wi F L (.bin .leq (.c v1) (.c (.int .i64 2))) E0 h fun v41 h =>
    (wb v41
    (wi F L (.bin .sub (.c v0) (.c (.int .i64 1))) E0 h fun v43 h =>
    (wi F L (.bin .add (.c v1) (.c (.int .i64 9))) E0 h fun v45 h =>
    (k_date_Days_1 L K v0 v1 v2 v43 v45 h)))
    (k_date_Days_1 L K v0 v1 v2 v0 v39 h))))
def p_date_Days (L : FuncId → List V → V → Prop) (K : V → Heap → Prop) (a0 a1 a2 : V) (h : Heap) : Prop :=
    (wi F L (.bin .lss (.c a0) (.c (.int .i64 1970))) E0 h fun v16 h =>
    (wg v16 false (wi F L (.mv (.c a0)) E0 h) h fun v18 h =>
    (wg v16 false (wi F L (.bin .gtr (.c v18) (.c (.int .i64 9999))) E0 h) h fun v19 h =>
    (wi F L (.pick (.c v16) (.c (.bool true)) (.c v19)) E0 h fun v20 h =>
    (wg v20 false (wi F L (.mv (.c a1)) E0 h) h fun v22 h =>
    (wg v20 false (wi F L (.bin .lss (.c v22) (.c (.int .i64 1))) E0 h) h fun v23 h =>
    (wi F L (.pick (.c v20) (.c (.bool true)) (.c v23)) E0 h fun v24 h =>
    (wg v24 false (wi F L (.mv (.c a1)) E0 h) h fun v26 h =>
    (wg v24 false (wi F L (.bin .gtr (.c v26) (.c (.int .i64 12))) E0 h) h fun v27 h =>
    (wi F L (.pick (.c v24) (.c (.bool true)) (.c v27)) E0 h fun v28 h =>
    (wg v28 false (wi F L (.mv (.c a2)) E0 h) h fun v30 h =>
    (wg v28 false (wi F L (.bin .lss (.c v30) (.c (.int .i64 1))) E0 h) h fun v31 h =>
    (wi F L (.pick (.c v28) (.c (.bool true)) (.c v31)) E0 h fun v32 h =>
    (wg v32 false (wi F L (.mv (.c a2)) E0 h) h fun v34 h =>
    (wg v32 false (wi F L (.bin .gtr (.c v34) (.c (.int .i64 31))) E0 h) h fun v35 h =>
    (wi F L (.pick (.c v32) (.c (.bool true)) (.c v35)) E0 h fun v36 h =>
    (wb v36
    (∃ v, some (.int .i64 (-1)) = some v ∧ K v h)
    (k_date_Days_0 L K a0 a1 a2 h))))))))))))))))))
theorem run_date_Days {L : FuncId → List V → V → Prop} {K : V → Heap → Prop} {a0 a1 a2 : V} {h : Heap} (hp : p_date_Days L K a0 a1 a2 h) : Cf F L i_date_Days [a0, a1, a2] h K :=
  wcallp F_date_Days (show 3 ≤ 90 by decide) (p := p_date_Days L K a0 a1 a2 h) (by kernel_rfl) hp
def k_gatepostref02_Days_2 (L : FuncId → List V → V → Prop) (K : V → Heap → Prop) (v7 : V) (h : Heap) : Prop :=
    (∃ v, some v7 = some v ∧ K v h)
def k_gatepostref02_Days_4 (L : FuncId → List V → V → Prop) (K : V → Heap → Prop) (N0 : Env → Heap → Prop) (e : Env) (v9 : V) (h : Heap) : Prop :=
    (wi F L (.bin .add (.c v9) (.c (.int .i64 1))) E0 h fun v50 h =>
    (N0 (upd (upd (upd e 49 v9) 50 v50) 9 v50) h))
def k_gatepostref02_Days_3 (L : FuncId → List V → V → Prop) (K : V → Heap → Prop) (N0 : Env → Heap → Prop) (e : Env) (v0 v7 v9 : V) (h : Heap) : Prop :=
    (wi F L (.call i_gatepostref02_long [(.c v0), (.c v9)]) E0 h fun v54 h =>
    (wi F L (.bin .add (.c v7) (.c v54)) E0 h fun v55 h =>
    (k_gatepostref02_Days_4 L K N0 (upd (upd (upd (upd (upd (upd e 51 v7) 52 v0) 53 v9) 54 v54) 55 v55) 7 v55) v9 h)))
def q_gatepostref02_Days_0 (L : FuncId → List V → V → Prop) (K : V → Heap → Prop) : X → Env → Heap → Prop := (fun x => (seqX (fun e h => k_gatepostref02_Days_2 L K (e 7) h) (retX c_gatepostref02_Days.results K)) (X.out 2 x))
def lc_gatepostref02_Days_0 : C :=
  (.seq (.seq (.region [⟨(some 46), none, .mv (.t 9)⟩, ⟨(some 47), none, .mv (.t 1)⟩, ⟨(some 48), none, .bin .lss (.t 46) (.t 47)⟩])
  (.cond (.t 48)
    .skip
    (.exit 2)))
  (.seq (.block 3 (.region [⟨(some 51), none, .mv (.t 7)⟩, ⟨(some 52), none, .mv (.t 0)⟩, ⟨(some 53), none, .mv (.t 9)⟩, ⟨(some 54), none, .call i_gatepostref02_long [(.t 52), (.t 53)]⟩, ⟨(some 55), none, .bin .add (.t 51) (.t 54)⟩, ⟨(some 7), none, .mv (.t 55)⟩]))
  (.region [⟨(some 49), none, .mv (.t 9)⟩, ⟨(some 50), none, .bin .add (.t 49) (.c (.int .i64 1))⟩, ⟨(some 9), none, .mv (.t 50)⟩])))
def b_gatepostref02_Days_0 (L : FuncId → List V → V → Prop) (K : V → Heap → Prop) (N0 : Env → Heap → Prop) (e : Env) (h : Heap) : Prop :=
    (wi F L (.bin .lss (.c (e 9)) (.c (e 1))) E0 h fun v48 h =>
    (wb v48
    (k_gatepostref02_Days_3 L K N0 (upd (upd (upd e 46 (e 9)) 47 (e 1)) 48 v48) (e 0) (e 7) (e 9) h)
    (k_gatepostref02_Days_2 L K (e 7) h)))
theorem l_gatepostref02_Days_0 {L : FuncId → List V → V → Prop} {K : V → Heap → Prop} (I : Nat → Env → Heap → Prop) (hr : ∀ n e h, I n e h → b_gatepostref02_Days_0 L K (fun e' h' => ∃ m, m < n ∧ I m e' h') e h) {n : Nat} {e : Env} {h : Heap} (hi : I n e h) : Wl F L lc_gatepostref02_Days_0 (q_gatepostref02_Days_0 L K) e h :=
  wloopp (b := b_gatepostref02_Days_0 L K) I (fun _ _ _ => by kernel_rfl) hr hi
def k_gatepostref02_Days_1 (L : FuncId → List V → V → Prop) (K : V → Heap → Prop) (e : Env) (h : Heap) : Prop :=
    (Wl F L lc_gatepostref02_Days_0 (q_gatepostref02_Days_0 L K) (upd e 9 (.int .i64 1)) h)
def k_gatepostref02_Days_6 (L : FuncId → List V → V → Prop) (K : V → Heap → Prop) (N0 : Env → Heap → Prop) (e : Env) (v8 : V) (h : Heap) : Prop :=
    (wi F L (.bin .add (.c v8) (.c (.int .i64 1))) E0 h fun v41 h =>
    (N0 (upd (upd (upd e 40 v8) 41 v41) 8 v41) h))
def k_gatepostref02_Days_5 (L : FuncId → List V → V → Prop) (K : V → Heap → Prop) (N0 : Env → Heap → Prop) (e : Env) (v7 v8 : V) (h : Heap) : Prop :=
    (wi F L (.call i_gatepostref02_year [(.c v8)]) E0 h fun v44 h =>
    (wi F L (.bin .add (.c v7) (.c v44)) E0 h fun v45 h =>
    (k_gatepostref02_Days_6 L K N0 (upd (upd (upd (upd (upd e 42 v7) 43 v8) 44 v44) 45 v45) 7 v45) v8 h)))
def q_gatepostref02_Days_1 (L : FuncId → List V → V → Prop) (K : V → Heap → Prop) : X → Env → Heap → Prop := (fun x => (seqX (fun e h => k_gatepostref02_Days_1 L K e  h) (retX c_gatepostref02_Days.results K)) (X.out 0 x))
def lc_gatepostref02_Days_1 : C :=
  (.seq (.seq (.region [⟨(some 37), none, .mv (.t 8)⟩, ⟨(some 38), none, .mv (.t 0)⟩, ⟨(some 39), none, .bin .lss (.t 37) (.t 38)⟩])
  (.cond (.t 39)
    .skip
    (.exit 0)))
  (.seq (.block 1 (.region [⟨(some 42), none, .mv (.t 7)⟩, ⟨(some 43), none, .mv (.t 8)⟩, ⟨(some 44), none, .call i_gatepostref02_year [(.t 43)]⟩, ⟨(some 45), none, .bin .add (.t 42) (.t 44)⟩, ⟨(some 7), none, .mv (.t 45)⟩]))
  (.region [⟨(some 40), none, .mv (.t 8)⟩, ⟨(some 41), none, .bin .add (.t 40) (.c (.int .i64 1))⟩, ⟨(some 8), none, .mv (.t 41)⟩])))
def b_gatepostref02_Days_1 (L : FuncId → List V → V → Prop) (K : V → Heap → Prop) (N0 : Env → Heap → Prop) (e : Env) (h : Heap) : Prop :=
    (wi F L (.bin .lss (.c (e 8)) (.c (e 0))) E0 h fun v39 h =>
    (wb v39
    (k_gatepostref02_Days_5 L K N0 (upd (upd (upd e 37 (e 8)) 38 (e 0)) 39 v39) (e 7) (e 8) h)
    (k_gatepostref02_Days_1 L K (upd (upd (upd e 37 (e 8)) 38 (e 0)) 39 v39)  h)))
theorem l_gatepostref02_Days_1 {L : FuncId → List V → V → Prop} {K : V → Heap → Prop} (I : Nat → Env → Heap → Prop) (hr : ∀ n e h, I n e h → b_gatepostref02_Days_1 L K (fun e' h' => ∃ m, m < n ∧ I m e' h') e h) {n : Nat} {e : Env} {h : Heap} (hi : I n e h) : Wl F L lc_gatepostref02_Days_1 (q_gatepostref02_Days_1 L K) e h :=
  wloopp (b := b_gatepostref02_Days_1 L K) I (fun _ _ _ => by kernel_rfl) hr hi
def k_gatepostref02_Days_0 (L : FuncId → List V → V → Prop) (K : V → Heap → Prop) (e : Env) (v2 : V) (h : Heap) : Prop :=
    (wi F L (.bin .sub (.c v2) (.c (.int .i64 1))) E0 h fun v36 h =>
    (Wl F L lc_gatepostref02_Days_1 (q_gatepostref02_Days_1 L K) (upd (upd (upd (upd e 35 v2) 36 v36) 7 v36) 8 (.int .i64 1970)) h))
def p_gatepostref02_Days (L : FuncId → List V → V → Prop) (K : V → Heap → Prop) (a0 a1 a2 : V) (h : Heap) : Prop :=
    (wi F L (.bin .lss (.c a0) (.c (.int .i64 1970))) E0 h fun v11 h =>
    (wg v11 false (wi F L (.mv (.c a0)) E0 h) h fun v13 h =>
    (wg v11 false (wi F L (.bin .gtr (.c v13) (.c (.int .i64 9999))) E0 h) h fun v14 h =>
    (wi F L (.pick (.c v11) (.c (.bool true)) (.c v14)) E0 h fun v15 h =>
    (wg v15 false (wi F L (.mv (.c a1)) E0 h) h fun v17 h =>
    (wg v15 false (wi F L (.bin .lss (.c v17) (.c (.int .i64 1))) E0 h) h fun v18 h =>
    (wi F L (.pick (.c v15) (.c (.bool true)) (.c v18)) E0 h fun v19 h =>
    (wg v19 false (wi F L (.mv (.c a1)) E0 h) h fun v21 h =>
    (wg v19 false (wi F L (.bin .gtr (.c v21) (.c (.int .i64 12))) E0 h) h fun v22 h =>
    (wi F L (.pick (.c v19) (.c (.bool true)) (.c v22)) E0 h fun v23 h =>
    (wg v23 false (wi F L (.mv (.c a2)) E0 h) h fun v25 h =>
    (wg v23 false (wi F L (.bin .lss (.c v25) (.c (.int .i64 1))) E0 h) h fun v26 h =>
    (wi F L (.pick (.c v23) (.c (.bool true)) (.c v26)) E0 h fun v27 h =>
    (wg v27 false (wi F L (.mv (.c a2)) E0 h) h fun v29 h =>
    (wg v27 false (wi F L (.mv (.c a0)) E0 h) h fun v30 h =>
    (wg v27 false (wi F L (.mv (.c a1)) E0 h) h fun v31 h =>
    (wg v27 false (wi F L (.call i_gatepostref02_long [(.c v30), (.c v31)]) E0 h) h fun v32 h =>
    (wg v27 false (wi F L (.bin .gtr (.c v29) (.c v32)) E0 h) h fun v33 h =>
    (wi F L (.pick (.c v27) (.c (.bool true)) (.c v33)) E0 h fun v34 h =>
    (wb v34
    (∃ v, some (.int .i64 (-1)) = some v ∧ K v h)
    (k_gatepostref02_Days_0 L K (upd (upd (upd (upd (upd (upd (upd (upd (upd (upd (upd (upd (upd (upd (upd (upd (upd (upd (upd (upd (upd (upd (upd (upd (upd (upd (enterE [a0, a1, a2]) 6 (.int .i64 0)) 10 a0) 11 v11) 12 v11) 13 v13) 14 v14) 15 v15) 16 v15) 17 v17) 18 v18) 19 v19) 20 v19) 21 v21) 22 v22) 23 v23) 24 v23) 25 v25) 26 v26) 27 v27) 28 v27) 29 v29) 30 v30) 31 v31) 32 v32) 33 v33) 34 v34) a2 h)))))))))))))))))))))
theorem run_gatepostref02_Days {L : FuncId → List V → V → Prop} {K : V → Heap → Prop} {a0 a1 a2 : V} {h : Heap} (hp : p_gatepostref02_Days L K a0 a1 a2 h) : Cf F L i_gatepostref02_Days [a0, a1, a2] h K :=
  wcallp F_gatepostref02_Days (show 3 ≤ 57 by decide) (p := p_gatepostref02_Days L K a0 a1 a2 h) (by kernel_rfl) hp
def k_gatepostref02_Format_0 (L : FuncId → List V → V → Prop) (K : V → Heap → Prop) (v0 : V) (h : Heap) : Prop :=
    (wi F L (.bin .quo (.c v0) (.c (.int .i64 86400))) E0 h fun v15 h =>
    (wi F L (.bin .rem (.c v0) (.c (.int .i64 86400))) E0 h fun v17 h =>
    (wi F L (.call i_gatepostref02_Civil [(.c v15)]) E0 h fun v20 h =>
    (wi F L (.ext 0 (.c v20)) E0 h fun v21 h =>
    (wi F L (.ext 1 (.c v20)) E0 h fun v22 h =>
    (wi F L (.ext 2 (.c v20)) E0 h fun v23 h =>
    (wi F L (.call i_gatepostref02_short []) E0 h fun v24 h' => Ext h h' ∧
    (wi F L (.bin .add (.c v15) (.c (.int .i64 3))) E0 h' fun v26 h => Ext h' h ∧
    (wi F L (.bin .rem (.c v26) (.c (.int .i64 7))) E0 h fun v27 h' => Ext h h' ∧
    (wi F L (.ixaSl 1 (.c v24) (.c v27)) E0 h' fun v28 h => Ext h' h ∧
    (wi F L (.load false 1 (.c v28)) E0 h fun v29 h' => Ext h h' ∧
    (wi F L (.bin .add (.c v29) (.c (.str [44, 32]))) E0 h' fun v30 h => Ext h' h ∧
    (wi F L (.call i_gatepostref02_two [(.c v23)]) E0 h fun v32 h' => Ext h h' ∧
    (wi F L (.bin .add (.c v30) (.c v32)) E0 h' fun v33 h => Ext h' h ∧
    (wi F L (.bin .add (.c v33) (.c (.str [32]))) E0 h fun v34 h' => Ext h h' ∧
    (wi F L (.call i_gatepostref02_months []) E0 h' fun v35 h => Ext h' h ∧
    (wi F L (.bin .sub (.c v22) (.c (.int .i64 1))) E0 h fun v37 h' => Ext h h' ∧
    (wi F L (.ixaSl 1 (.c v35) (.c v37)) E0 h' fun v38 h => Ext h' h ∧
    (wi F L (.load false 1 (.c v38)) E0 h fun v39 h' => Ext h h' ∧
    (wi F L (.bin .add (.c v34) (.c v39)) E0 h' fun v40 h => Ext h' h ∧
    (wi F L (.bin .add (.c v40) (.c (.str [32]))) E0 h fun v41 h' => Ext h h' ∧
    (wi F L (.bin .quo (.c v21) (.c (.int .i64 100))) E0 h' fun v43 h => Ext h' h ∧
    (wi F L (.call i_gatepostref02_two [(.c v43)]) E0 h fun v44 h' => Ext h h' ∧
    (wi F L (.bin .add (.c v41) (.c v44)) E0 h' fun v45 h => Ext h' h ∧
    (wi F L (.bin .rem (.c v21) (.c (.int .i64 100))) E0 h fun v47 h' => Ext h h' ∧
    (wi F L (.call i_gatepostref02_two [(.c v47)]) E0 h' fun v48 h => Ext h' h ∧
    (wi F L (.bin .add (.c v45) (.c v48)) E0 h fun v49 h' => Ext h h' ∧
    (wi F L (.bin .add (.c v49) (.c (.str [32]))) E0 h' fun v50 h => Ext h' h ∧
    (wi F L (.bin .quo (.c v17) (.c (.int .i64 3600))) E0 h fun v52 h' => Ext h h' ∧
    (wi F L (.call i_gatepostref02_two [(.c v52)]) E0 h' fun v53 h => Ext h' h ∧
    (wi F L (.bin .add (.c v50) (.c v53)) E0 h fun v54 h' => Ext h h' ∧
    (wi F L (.bin .add (.c v54) (.c (.str [58]))) E0 h' fun v55 h => Ext h' h ∧
    (wi F L (.bin .quo (.c v17) (.c (.int .i64 60))) E0 h fun v57 h' => Ext h h' ∧
    (wi F L (.bin .rem (.c v57) (.c (.int .i64 60))) E0 h' fun v58 h => Ext h' h ∧
    (wi F L (.call i_gatepostref02_two [(.c v58)]) E0 h fun v59 h' => Ext h h' ∧
    (wi F L (.bin .add (.c v55) (.c v59)) E0 h' fun v60 h => Ext h' h ∧
    (wi F L (.bin .add (.c v60) (.c (.str [58]))) E0 h fun v61 h' => Ext h h' ∧
    (wi F L (.bin .rem (.c v17) (.c (.int .i64 60))) E0 h' fun v63 h => Ext h' h ∧
    (wi F L (.call i_gatepostref02_two [(.c v63)]) E0 h fun v64 h' => Ext h h' ∧
    (wi F L (.bin .add (.c v61) (.c v64)) E0 h' fun v65 h =>
    (wi F L (.bin .add (.c v65) (.c (.str [32, 71, 77, 84]))) E0 h fun v66 h =>
    (∃ v, some v66 = some v ∧ K v h))))))))))))))))))))))))))))))))))))))))))
def p_gatepostref02_Format (L : FuncId → List V → V → Prop) (K : V → Heap → Prop) (a0 : V) (h : Heap) : Prop :=
    (wi F L (.bin .lss (.c a0) (.c (.int .i64 0))) E0 h fun v9 h =>
    (wg v9 false (wi F L (.mv (.c a0)) E0 h) h fun v11 h =>
    (wg v9 false (wi F L (.bin .geq (.c v11) (.c (.int .i64 253402300800))) E0 h) h fun v12 h =>
    (wi F L (.pick (.c v9) (.c (.bool true)) (.c v12)) E0 h fun v13 h =>
    (wb v13
    (k_gatepostref02_Format_0 L K (.int .i64 0) h)
    (k_gatepostref02_Format_0 L K a0 h))))))
theorem run_gatepostref02_Format {L : FuncId → List V → V → Prop} {K : V → Heap → Prop} {a0 : V} {h : Heap} (hp : p_gatepostref02_Format L K a0 h) : Cf F L i_gatepostref02_Format [a0] h K :=
  wcallp F_gatepostref02_Format (show 1 ≤ 67 by decide) (p := p_gatepostref02_Format L K a0 h) (by kernel_rfl) hp
def p_date_longDays (L : FuncId → List V → V → Prop) (K : V → Heap → Prop) (h : Heap) : Prop :=
    (wi F L (.boxz [(.str []), (.str []), (.str []), (.str []), (.str []), (.str []), (.str [])]) E0 h fun v0 h =>
    (wi F L (.build [(.str []), (.str []), (.str []), (.str []), (.str []), (.str []), (.str [])] [(0, 1, (.c (.str [77, 111, 110, 100, 97, 121]))), (1, 1, (.c (.str [84, 117, 101, 115, 100, 97, 121]))), (2, 1, (.c (.str [87, 101, 100, 110, 101, 115, 100, 97, 121]))), (3, 1, (.c (.str [84, 104, 117, 114, 115, 100, 97, 121]))), (4, 1, (.c (.str [70, 114, 105, 100, 97, 121]))), (5, 1, (.c (.str [83, 97, 116, 117, 114, 100, 97, 121]))), (6, 1, (.c (.str [83, 117, 110, 100, 97, 121])))]) E0 h fun v1 h =>
    (wi F L (.store 7 (.c v0) (.c v1)) E0 h fun _ h =>
    (∃ v, resultsV h (enterE [v0]) [.cell 0 true 7] = some v ∧ K v h))))
theorem run_date_longDays {L : FuncId → List V → V → Prop} {K : V → Heap → Prop} {h : Heap} (hp : p_date_longDays L K  h) : Cf F L i_date_longDays [] h K :=
  wcallp F_date_longDays (show 0 ≤ 2 by decide) (p := p_date_longDays L K  h) (by kernel_rfl) hp
def k_date_pad_0 (L : FuncId → List V → V → Prop) (K : V → Heap → Prop) (v5 : V) (h : Heap) : Prop :=
    (∃ v, some v5 = some v ∧ K v h)
def k_date_pad_1 (L : FuncId → List V → V → Prop) (K : V → Heap → Prop) (N0 : Env → Heap → Prop) (e : Env) (v5 : V) (h : Heap) : Prop :=
    (wi F L (.bin .add (.c (.str [48])) (.c v5)) E0 h fun v13 h =>
    (N0 (upd (upd (upd e 12 v5) 13 v13) 5 v13) h))
def q_date_pad_0 (L : FuncId → List V → V → Prop) (K : V → Heap → Prop) : X → Env → Heap → Prop := (fun x => (seqX (fun e h => k_date_pad_0 L K (e 5) h) (retX c_date_pad.results K)) (X.out 0 x))
def lc_date_pad_0 : C :=
  (.seq (.seq (.region [⟨(some 8), none, .mv (.t 5)⟩, ⟨(some 9), none, .len 0 (.t 8)⟩, ⟨(some 10), none, .mv (.t 1)⟩, ⟨(some 11), none, .bin .lss (.t 9) (.t 10)⟩])
  (.cond (.t 11)
    .skip
    (.exit 0)))
  (.block 1 (.region [⟨(some 12), none, .mv (.t 5)⟩, ⟨(some 13), none, .bin .add (.c (.str [48])) (.t 12)⟩, ⟨(some 5), none, .mv (.t 13)⟩])))
def b_date_pad_0 (L : FuncId → List V → V → Prop) (K : V → Heap → Prop) (N0 : Env → Heap → Prop) (e : Env) (h : Heap) : Prop :=
    (wi F L (.len 0 (.c (e 5))) E0 h fun v9 h =>
    (wi F L (.bin .lss (.c v9) (.c (e 1))) E0 h fun v11 h =>
    (wb v11
    (k_date_pad_1 L K N0 (upd (upd (upd (upd e 8 (e 5)) 9 v9) 10 (e 1)) 11 v11) (e 5) h)
    (k_date_pad_0 L K (e 5) h))))
theorem l_date_pad_0 {L : FuncId → List V → V → Prop} {K : V → Heap → Prop} (I : Nat → Env → Heap → Prop) (hr : ∀ n e h, I n e h → b_date_pad_0 L K (fun e' h' => ∃ m, m < n ∧ I m e' h') e h) {n : Nat} {e : Env} {h : Heap} (hi : I n e h) : Wl F L lc_date_pad_0 (q_date_pad_0 L K) e h :=
  wloopp (b := b_date_pad_0 L K) I (fun _ _ _ => by kernel_rfl) hr hi
def p_date_pad (L : FuncId → List V → V → Prop) (K : V → Heap → Prop) (a0 a1 : V) (h : Heap) : Prop :=
    (wi F L (.call i_strconv_Itoa [(.c a0)]) E0 h fun v7 h =>
    (Wl F L lc_date_pad_0 (q_date_pad_0 L K) (upd (upd (upd (upd (enterE [a0, a1]) 4 (.str [])) 6 a0) 7 v7) 5 v7) h))
theorem run_date_pad {L : FuncId → List V → V → Prop} {K : V → Heap → Prop} {a0 a1 : V} {h : Heap} (hp : p_date_pad L K a0 a1 h) : Cf F L i_date_pad [a0, a1] h K :=
  wcallp F_date_pad (show 2 ≤ 15 by decide) (p := p_date_pad L K a0 a1 h) (by kernel_rfl) hp
def p_date_monthNames (L : FuncId → List V → V → Prop) (K : V → Heap → Prop) (h : Heap) : Prop :=
    (wi F L (.boxz [(.str []), (.str []), (.str []), (.str []), (.str []), (.str []), (.str []), (.str []), (.str []), (.str []), (.str []), (.str [])]) E0 h fun v0 h =>
    (wi F L (.build [(.str []), (.str []), (.str []), (.str []), (.str []), (.str []), (.str []), (.str []), (.str []), (.str []), (.str []), (.str [])] [(0, 1, (.c (.str [74, 97, 110]))), (1, 1, (.c (.str [70, 101, 98]))), (2, 1, (.c (.str [77, 97, 114]))), (3, 1, (.c (.str [65, 112, 114]))), (4, 1, (.c (.str [77, 97, 121]))), (5, 1, (.c (.str [74, 117, 110]))), (6, 1, (.c (.str [74, 117, 108]))), (7, 1, (.c (.str [65, 117, 103]))), (8, 1, (.c (.str [83, 101, 112]))), (9, 1, (.c (.str [79, 99, 116]))), (10, 1, (.c (.str [78, 111, 118]))), (11, 1, (.c (.str [68, 101, 99])))]) E0 h fun v1 h =>
    (wi F L (.store 12 (.c v0) (.c v1)) E0 h fun _ h =>
    (∃ v, resultsV h (enterE [v0]) [.cell 0 true 12] = some v ∧ K v h))))
theorem run_date_monthNames {L : FuncId → List V → V → Prop} {K : V → Heap → Prop} {h : Heap} (hp : p_date_monthNames L K  h) : Cf F L i_date_monthNames [] h K :=
  wcallp F_date_monthNames (show 0 ≤ 2 by decide) (p := p_date_monthNames L K  h) (by kernel_rfl) hp
def p_date_fixed (L : FuncId → List V → V → Prop) (K : V → Heap → Prop) (a0 : V) (h : Heap) : Prop :=
    (wi F L (.call i___gatepost_date_reader__day [(.c a0), (.c (.bool false))]) E0 h fun v10 h =>
    (wi F L (.call i___gatepost_date_reader__need [(.c a0), (.c (.str [44, 32]))]) E0 h fun v12 h =>
    (wi F L (.call i___gatepost_date_reader__number [(.c a0), (.c (.int .i64 2))]) E0 h fun v14 h =>
    (wi F L (.call i___gatepost_date_reader__need [(.c a0), (.c (.str [32]))]) E0 h fun v16 h =>
    (wi F L (.call i___gatepost_date_reader__month [(.c a0)]) E0 h fun v18 h =>
    (wi F L (.call i___gatepost_date_reader__need [(.c a0), (.c (.str [32]))]) E0 h fun v20 h =>
    (wi F L (.call i___gatepost_date_reader__number [(.c a0), (.c (.int .i64 4))]) E0 h fun v22 h =>
    (wi F L (.call i___gatepost_date_reader__need [(.c a0), (.c (.str [32]))]) E0 h fun v24 h =>
    (wi F L (.call i___gatepost_date_reader__clock [(.c a0)]) E0 h fun v26 h =>
    (wi F L (.call i___gatepost_date_reader__need [(.c a0), (.c (.str [32, 71, 77, 84]))]) E0 h fun v28 h =>
    (wi F L (.call i___gatepost_date_reader__second [(.c a0), (.c v10), (.c v22), (.c v18), (.c v14), (.c v26)]) E0 h fun v35 h =>
    (wi F L (.ext 0 (.c v35)) E0 h fun v36 h =>
    (wi F L (.ext 1 (.c v35)) E0 h fun v37 h =>
    (∃ v, resultsV h (enterE [v36, v37]) [.tmp 0, .tmp 1] = some v ∧ K v h))))))))))))))
theorem run_date_fixed {L : FuncId → List V → V → Prop} {K : V → Heap → Prop} {a0 : V} {h : Heap} (hp : p_date_fixed L K a0 h) : Cf F L i_date_fixed [a0] h K :=
  wcallp F_date_fixed (show 1 ≤ 38 by decide) (p := p_date_fixed L K a0 h) (by kernel_rfl) hp
def k_date_old_0 (L : FuncId → List V → V → Prop) (K : V → Heap → Prop) (v0 v4 v5 v6 v7 v8 : V) (h : Heap) : Prop :=
    (wi F L (.call i___gatepost_date_reader__second [(.c v0), (.c v4), (.c v7), (.c v6), (.c v5), (.c v8)]) E0 h fun v41 h =>
    (wi F L (.ext 0 (.c v41)) E0 h fun v42 h =>
    (wi F L (.ext 1 (.c v41)) E0 h fun v43 h =>
    (∃ v, resultsV h (enterE [v42, v43]) [.tmp 0, .tmp 1] = some v ∧ K v h))))
def p_date_old (L : FuncId → List V → V → Prop) (K : V → Heap → Prop) (a0 : V) (h : Heap) : Prop :=
    (wi F L (.call i___gatepost_date_reader__day [(.c a0), (.c (.bool true))]) E0 h fun v10 h =>
    (wi F L (.call i___gatepost_date_reader__need [(.c a0), (.c (.str [44, 32]))]) E0 h fun v12 h =>
    (wi F L (.call i___gatepost_date_reader__number [(.c a0), (.c (.int .i64 2))]) E0 h fun v14 h =>
    (wi F L (.call i___gatepost_date_reader__need [(.c a0), (.c (.str [45]))]) E0 h fun v16 h =>
    (wi F L (.call i___gatepost_date_reader__month [(.c a0)]) E0 h fun v18 h =>
    (wi F L (.call i___gatepost_date_reader__need [(.c a0), (.c (.str [45]))]) E0 h fun v20 h =>
    (wi F L (.call i___gatepost_date_reader__number [(.c a0), (.c (.int .i64 2))]) E0 h fun v22 h =>
    (wi F L (.call i___gatepost_date_reader__need [(.c a0), (.c (.str [32]))]) E0 h fun v24 h =>
    (wi F L (.call i___gatepost_date_reader__clock [(.c a0)]) E0 h fun v26 h =>
    (wi F L (.call i___gatepost_date_reader__need [(.c a0), (.c (.str [32, 71, 77, 84]))]) E0 h fun v28 h =>
    (wi F L (.bin .geq (.c v22) (.c (.int .i64 70))) E0 h fun v30 h =>
    (wb v30
    (wi F L (.bin .add (.c v22) (.c (.int .i64 1900))) E0 h fun v32 h =>
    (k_date_old_0 L K a0 v10 v14 v18 v32 v26 h))
    (wi F L (.bin .add (.c v22) (.c (.int .i64 2000))) E0 h fun v34 h =>
    (k_date_old_0 L K a0 v10 v14 v18 v34 v26 h))))))))))))))
theorem run_date_old {L : FuncId → List V → V → Prop} {K : V → Heap → Prop} {a0 : V} {h : Heap} (hp : p_date_old L K a0 h) : Cf F L i_date_old [a0] h K :=
  wcallp F_date_old (show 1 ≤ 44 by decide) (p := p_date_old L K a0 h) (by kernel_rfl) hp
def k_date_plain_0 (L : FuncId → List V → V → Prop) (K : V → Heap → Prop) (v0 v4 v5 v6 : V) (h : Heap) : Prop :=
    (wi F L (.call i___gatepost_date_reader__number [(.c v0), (.c v6)]) E0 h fun v36 h =>
    (wi F L (.call i___gatepost_date_reader__need [(.c v0), (.c (.str [32]))]) E0 h fun v38 h =>
    (wi F L (.call i___gatepost_date_reader__clock [(.c v0)]) E0 h fun v40 h =>
    (wi F L (.call i___gatepost_date_reader__need [(.c v0), (.c (.str [32]))]) E0 h fun v42 h =>
    (wi F L (.call i___gatepost_date_reader__number [(.c v0), (.c (.int .i64 4))]) E0 h fun v44 h =>
    (wi F L (.call i___gatepost_date_reader__second [(.c v0), (.c v4), (.c v44), (.c v5), (.c v36), (.c v40)]) E0 h fun v51 h =>
    (wi F L (.ext 0 (.c v51)) E0 h fun v52 h =>
    (wi F L (.ext 1 (.c v51)) E0 h fun v53 h =>
    (∃ v, resultsV h (enterE [v52, v53]) [.tmp 0, .tmp 1] = some v ∧ K v h)))))))))
def p_date_plain (L : FuncId → List V → V → Prop) (K : V → Heap → Prop) (a0 : V) (h : Heap) : Prop :=
    (wi F L (.call i___gatepost_date_reader__day [(.c a0), (.c (.bool false))]) E0 h fun v11 h =>
    (wi F L (.call i___gatepost_date_reader__need [(.c a0), (.c (.str [32]))]) E0 h fun v13 h =>
    (wi F L (.call i___gatepost_date_reader__month [(.c a0)]) E0 h fun v15 h =>
    (wi F L (.call i___gatepost_date_reader__need [(.c a0), (.c (.str [32]))]) E0 h fun v17 h =>
    (wi F L (.nilck (.c a0)) E0 h fun v19 h =>
    (wi F L (.faddr 0 (.c v19)) E0 h fun v20 h =>
    (wi F L (.load false 1 (.c v20)) E0 h fun v21 h =>
    (wi F L (.len 0 (.c v21)) E0 h fun v22 h =>
    (wi F L (.bin .gtr (.c v22) (.c (.int .i64 0))) E0 h fun v23 h =>
    (wg v23 true (wi F L (.mv (.c a0)) E0 h) h fun v25 h =>
    (wg v23 true (wi F L (.nilck (.c v25)) E0 h) h fun v26 h =>
    (wg v23 true (wi F L (.faddr 0 (.c v26)) E0 h) h fun v27 h =>
    (wg v23 true (wi F L (.load false 1 (.c v27)) E0 h) h fun v28 h =>
    (wg v23 true (wi F L (.ixStr (.c v28) (.c (.int .i64 0))) E0 h) h fun v29 h =>
    (wg v23 true (wi F L (.bin .eql (.c v29) (.c (.int .u8 32))) E0 h) h fun v30 h =>
    (wi F L (.pick (.c v23) (.c v30) (.c (.bool false))) E0 h fun v31 h =>
    (wb v31
    (wi F L (.call i___gatepost_date_reader__take [(.c a0), (.c (.int .i64 1))]) E0 h fun v33 h =>
    (k_date_plain_0 L K a0 v11 v15 (.int .i64 1) h))
    (k_date_plain_0 L K a0 v11 v15 (.int .i64 2) h))))))))))))))))))
theorem run_date_plain {L : FuncId → List V → V → Prop} {K : V → Heap → Prop} {a0 : V} {h : Heap} (hp : p_date_plain L K a0 h) : Cf F L i_date_plain [a0] h K :=
  wcallp F_date_plain (show 1 ≤ 54 by decide) (p := p_date_plain L K a0 h) (by kernel_rfl) hp
def k_gatepostref02_second_0 (L : FuncId → List V → V → Prop) (K : V → Heap → Prop) (v4 v12 : V) (h : Heap) : Prop :=
    (wi F L (.bin .mul (.c v12) (.c (.int .i64 86400))) E0 h fun v31 h =>
    (wi F L (.bin .add (.c v31) (.c v4)) E0 h fun v33 h =>
    (∃ v, resultsV h (enterE [v33, (.bool true)]) [.tmp 0, .tmp 1] = some v ∧ K v h)))
def p_gatepostref02_second (L : FuncId → List V → V → Prop) (K : V → Heap → Prop) (a0 a1 a2 a3 a4 : V) (h : Heap) : Prop :=
    (wi F L (.call i_gatepostref02_Days [(.c a1), (.c a2), (.c a3)]) E0 h fun v16 h =>
    (wi F L (.bin .lss (.c v16) (.c (.int .i64 0))) E0 h fun v18 h =>
    (wg v18 false (wi F L (.mv (.c a4)) E0 h) h fun v20 h =>
    (wg v18 false (wi F L (.bin .lss (.c v20) (.c (.int .i64 0))) E0 h) h fun v21 h =>
    (wi F L (.pick (.c v18) (.c (.bool true)) (.c v21)) E0 h fun v22 h =>
    (wg v22 false (wi F L (.mv (.c a0)) E0 h) h fun v24 h =>
    (wg v22 false (wi F L (.mv (.c v16)) E0 h) h fun v25 h =>
    (wg v22 false (wi F L (.bin .add (.c v25) (.c (.int .i64 3))) E0 h) h fun v26 h =>
    (wg v22 false (wi F L (.bin .rem (.c v26) (.c (.int .i64 7))) E0 h) h fun v27 h =>
    (wg v22 false (wi F L (.bin .neq (.c v24) (.c v27)) E0 h) h fun v28 h =>
    (wi F L (.pick (.c v22) (.c (.bool true)) (.c v28)) E0 h fun v29 h =>
    (wb v29
    (∃ v, resultsV h (enterE [(.int .i64 0), (.bool false)]) [.tmp 0, .tmp 1] = some v ∧ K v h)
    (k_gatepostref02_second_0 L K a4 v16 h)))))))))))))
theorem run_gatepostref02_second {L : FuncId → List V → V → Prop} {K : V → Heap → Prop} {a0 a1 a2 a3 a4 : V} {h : Heap} (hp : p_gatepostref02_second L K a0 a1 a2 a3 a4 h) : Cf F L i_gatepostref02_second [a0, a1, a2, a3, a4] h K :=
  wcallp F_gatepostref02_second (show 5 ≤ 34 by decide) (p := p_gatepostref02_second L K a0 a1 a2 a3 a4 h) (by kernel_rfl) hp
def k_gatepostref02_find_0 (L : FuncId → List V → V → Prop) (K : V → Heap → Prop) (h : Heap) : Prop :=
    (∃ v, some (.int .i64 (-1)) = some v ∧ K v h)
def k_gatepostref02_find_2 (L : FuncId → List V → V → Prop) (K : V → Heap → Prop) (N0 : Env → Heap → Prop) (e : Env) (v5 : V) (h : Heap) : Prop :=
    (wi F L (.bin .add (.c v5) (.c (.int .i64 1))) E0 h fun v11 h =>
    (N0 (upd (upd (upd e 10 v5) 11 v11) 5 v11) h))
def k_gatepostref02_find_1 (L : FuncId → List V → V → Prop) (K : V → Heap → Prop) (N0 : Env → Heap → Prop) (e : Env) (v0 v1 v5 : V) (h : Heap) : Prop :=
    (wi F L (.ixaSl 1 (.c v0) (.c v5)) E0 h fun v14 h =>
    (wi F L (.load false 1 (.c v14)) E0 h fun v15 h =>
    (wi F L (.bin .eql (.c v15) (.c v1)) E0 h fun v17 h =>
    (wb v17
    (∃ v, some v5 = some v ∧ K v h)
    (k_gatepostref02_find_2 L K N0 (upd (upd (upd (upd (upd (upd e 12 v0) 13 v5) 14 v14) 15 v15) 16 v1) 17 v17) v5 h)))))
def q_gatepostref02_find_0 (L : FuncId → List V → V → Prop) (K : V → Heap → Prop) : X → Env → Heap → Prop := (fun x => (seqX (fun e h => k_gatepostref02_find_0 L K  h) (retX c_gatepostref02_find.results K)) (X.out 0 x))
def lc_gatepostref02_find_0 : C :=
  (.seq (.seq (.region [⟨(some 6), none, .mv (.t 5)⟩, ⟨(some 7), none, .mv (.t 0)⟩, ⟨(some 8), none, .len 1 (.t 7)⟩, ⟨(some 9), none, .bin .lss (.t 6) (.t 8)⟩])
  (.cond (.t 9)
    .skip
    (.exit 0)))
  (.seq (.block 1 (.seq (.region [⟨(some 12), none, .mv (.t 0)⟩, ⟨(some 13), none, .mv (.t 5)⟩, ⟨(some 14), none, .ixaSl 1 (.t 12) (.t 13)⟩, ⟨(some 15), none, .load false 1 (.t 14)⟩, ⟨(some 16), none, .mv (.t 1)⟩, ⟨(some 17), none, .bin .eql (.t 15) (.t 16)⟩])
  (.cond (.t 17)
    (.seq (.region [⟨(some 18), none, .mv (.t 5)⟩, ⟨(some 4), none, .mv (.t 18)⟩])
    .ret)
    .skip)))
  (.region [⟨(some 10), none, .mv (.t 5)⟩, ⟨(some 11), none, .bin .add (.t 10) (.c (.int .i64 1))⟩, ⟨(some 5), none, .mv (.t 11)⟩])))
def b_gatepostref02_find_0 (L : FuncId → List V → V → Prop) (K : V → Heap → Prop) (N0 : Env → Heap → Prop) (e : Env) (h : Heap) : Prop :=
    (wi F L (.len 1 (.c (e 0))) E0 h fun v8 h =>
    (wi F L (.bin .lss (.c (e 5)) (.c v8)) E0 h fun v9 h =>
    (wb v9
    (k_gatepostref02_find_1 L K N0 (upd (upd (upd (upd e 6 (e 5)) 7 (e 0)) 8 v8) 9 v9) (e 0) (e 1) (e 5) h)
    (k_gatepostref02_find_0 L K  h))))
theorem l_gatepostref02_find_0 {L : FuncId → List V → V → Prop} {K : V → Heap → Prop} (I : Nat → Env → Heap → Prop) (hr : ∀ n e h, I n e h → b_gatepostref02_find_0 L K (fun e' h' => ∃ m, m < n ∧ I m e' h') e h) {n : Nat} {e : Env} {h : Heap} (hi : I n e h) : Wl F L lc_gatepostref02_find_0 (q_gatepostref02_find_0 L K) e h :=
  wloopp (b := b_gatepostref02_find_0 L K) I (fun _ _ _ => by kernel_rfl) hr hi
def p_gatepostref02_find (L : FuncId → List V → V → Prop) (K : V → Heap → Prop) (a0 a1 : V) (h : Heap) : Prop :=
    (Wl F L lc_gatepostref02_find_0 (q_gatepostref02_find_0 L K) (upd (upd (enterE [a0, a1]) 4 (.int .i64 0)) 5 (.int .i64 0)) h)
theorem run_gatepostref02_find {L : FuncId → List V → V → Prop} {K : V → Heap → Prop} {a0 a1 : V} {h : Heap} (hp : p_gatepostref02_find L K a0 a1 h) : Cf F L i_gatepostref02_find [a0, a1] h K :=
  wcallp F_gatepostref02_find (show 2 ≤ 19 by decide) (p := p_gatepostref02_find L K a0 a1 h) (by kernel_rfl) hp
def p_gatepostref02_short (L : FuncId → List V → V → Prop) (K : V → Heap → Prop) (h : Heap) : Prop :=
    (wi F L (.bsl 1 [(.c (.str [77, 111, 110])), (.c (.str [84, 117, 101])), (.c (.str [87, 101, 100])), (.c (.str [84, 104, 117])), (.c (.str [70, 114, 105])), (.c (.str [83, 97, 116])), (.c (.str [83, 117, 110]))]) E0 h fun v1 h =>
    (∃ v, some v1 = some v ∧ K v h))
theorem run_gatepostref02_short {L : FuncId → List V → V → Prop} {K : V → Heap → Prop} {h : Heap} (hp : p_gatepostref02_short L K  h) : Cf F L i_gatepostref02_short [] h K :=
  wcallp F_gatepostref02_short (show 0 ≤ 2 by decide) (p := p_gatepostref02_short L K  h) (by kernel_rfl) hp
def k_gatepostref02_number_0 (L : FuncId → List V → V → Prop) (K : V → Heap → Prop) (v3 : V) (h : Heap) : Prop :=
    (∃ v, some v3 = some v ∧ K v h)
def k_gatepostref02_number_2 (L : FuncId → List V → V → Prop) (K : V → Heap → Prop) (N0 : Env → Heap → Prop) (e : Env) (v4 : V) (h : Heap) : Prop :=
    (wi F L (.bin .add (.c v4) (.c (.int .i64 1))) E0 h fun v10 h =>
    (N0 (upd (upd (upd e 9 v4) 10 v10) 4 v10) h))
def k_gatepostref02_number_3 (L : FuncId → List V → V → Prop) (K : V → Heap → Prop) (N0 : Env → Heap → Prop) (e : Env) (v0 v3 v4 : V) (h : Heap) : Prop :=
    (wi F L (.bin .mul (.c v3) (.c (.int .i64 10))) E0 h fun v22 h =>
    (wi F L (.ixStr (.c v0) (.c v4)) E0 h fun v25 h =>
    (wi F L (.bin .sub (.c v25) (.c (.int .u8 48))) E0 h fun v26 h =>
    (wi F L (.toInt .i64 (.c v26)) E0 h fun v27 h =>
    (wi F L (.bin .add (.c v22) (.c v27)) E0 h fun v28 h =>
    (k_gatepostref02_number_2 L K N0 (upd (upd (upd (upd (upd (upd (upd (upd (upd e 21 v3) 22 v22) 23 v0) 24 v4) 25 v25) 26 v26) 27 v27) 28 v28) 3 v28) v4 h))))))
def k_gatepostref02_number_1 (L : FuncId → List V → V → Prop) (K : V → Heap → Prop) (N0 : Env → Heap → Prop) (e : Env) (v0 v3 v4 : V) (h : Heap) : Prop :=
    (wi F L (.ixStr (.c v0) (.c v4)) E0 h fun v13 h =>
    (wi F L (.bin .lss (.c v13) (.c (.int .u8 48))) E0 h fun v14 h =>
    (wg v14 false (wi F L (.mv (.c v0)) E0 h) h fun v16 h =>
    (wg v14 false (wi F L (.mv (.c v4)) E0 h) h fun v17 h =>
    (wg v14 false (wi F L (.ixStr (.c v16) (.c v17)) E0 h) h fun v18 h =>
    (wg v14 false (wi F L (.bin .gtr (.c v18) (.c (.int .u8 57))) E0 h) h fun v19 h =>
    (wi F L (.pick (.c v14) (.c (.bool true)) (.c v19)) E0 h fun v20 h =>
    (wb v20
    (∃ v, some (.int .i64 (-1)) = some v ∧ K v h)
    (k_gatepostref02_number_3 L K N0 (upd (upd (upd (upd (upd (upd (upd (upd (upd (upd e 11 v0) 12 v4) 13 v13) 14 v14) 15 v14) 16 v16) 17 v17) 18 v18) 19 v19) 20 v20) v0 v3 v4 h)))))))))
def q_gatepostref02_number_0 (L : FuncId → List V → V → Prop) (K : V → Heap → Prop) : X → Env → Heap → Prop := (fun x => (seqX (fun e h => k_gatepostref02_number_0 L K (e 3) h) (retX c_gatepostref02_number.results K)) (X.out 0 x))
def lc_gatepostref02_number_0 : C :=
  (.seq (.seq (.region [⟨(some 5), none, .mv (.t 4)⟩, ⟨(some 6), none, .mv (.t 0)⟩, ⟨(some 7), none, .len 0 (.t 6)⟩, ⟨(some 8), none, .bin .lss (.t 5) (.t 7)⟩])
  (.cond (.t 8)
    .skip
    (.exit 0)))
  (.seq (.block 1 (.seq (.seq (.region [⟨(some 11), none, .mv (.t 0)⟩, ⟨(some 12), none, .mv (.t 4)⟩, ⟨(some 13), none, .ixStr (.t 11) (.t 12)⟩, ⟨(some 14), none, .bin .lss (.t 13) (.c (.int .u8 48))⟩, ⟨(some 15), none, .mv (.t 14)⟩, ⟨(some 16), (some (15, false)), .mv (.t 0)⟩, ⟨(some 17), (some (15, false)), .mv (.t 4)⟩, ⟨(some 18), (some (15, false)), .ixStr (.t 16) (.t 17)⟩, ⟨(some 19), (some (15, false)), .bin .gtr (.t 18) (.c (.int .u8 57))⟩, ⟨(some 20), none, .pick (.t 15) (.c (.bool true)) (.t 19)⟩])
  (.cond (.t 20)
    (.seq (.region [⟨(some 2), none, .mv (.c (.int .i64 (-1)))⟩])
    .ret)
    .skip))
  (.region [⟨(some 21), none, .mv (.t 3)⟩, ⟨(some 22), none, .bin .mul (.t 21) (.c (.int .i64 10))⟩, ⟨(some 23), none, .mv (.t 0)⟩, ⟨(some 24), none, .mv (.t 4)⟩, ⟨(some 25), none, .ixStr (.t 23) (.t 24)⟩, ⟨(some 26), none, .bin .sub (.t 25) (.c (.int .u8 48))⟩, ⟨(some 27), none, .toInt .i64 (.t 26)⟩, ⟨(some 28), none, .bin .add (.t 22) (.t 27)⟩, ⟨(some 3), none, .mv (.t 28)⟩])))
  (.region [⟨(some 9), none, .mv (.t 4)⟩, ⟨(some 10), none, .bin .add (.t 9) (.c (.int .i64 1))⟩, ⟨(some 4), none, .mv (.t 10)⟩])))
def b_gatepostref02_number_0 (L : FuncId → List V → V → Prop) (K : V → Heap → Prop) (N0 : Env → Heap → Prop) (e : Env) (h : Heap) : Prop :=
    (wi F L (.len 0 (.c (e 0))) E0 h fun v7 h =>
    (wi F L (.bin .lss (.c (e 4)) (.c v7)) E0 h fun v8 h =>
    (wb v8
    (k_gatepostref02_number_1 L K N0 (upd (upd (upd (upd e 5 (e 4)) 6 (e 0)) 7 v7) 8 v8) (e 0) (e 3) (e 4) h)
    (k_gatepostref02_number_0 L K (e 3) h))))
theorem l_gatepostref02_number_0 {L : FuncId → List V → V → Prop} {K : V → Heap → Prop} (I : Nat → Env → Heap → Prop) (hr : ∀ n e h, I n e h → b_gatepostref02_number_0 L K (fun e' h' => ∃ m, m < n ∧ I m e' h') e h) {n : Nat} {e : Env} {h : Heap} (hi : I n e h) : Wl F L lc_gatepostref02_number_0 (q_gatepostref02_number_0 L K) e h :=
  wloopp (b := b_gatepostref02_number_0 L K) I (fun _ _ _ => by kernel_rfl) hr hi
def p_gatepostref02_number (L : FuncId → List V → V → Prop) (K : V → Heap → Prop) (a0 : V) (h : Heap) : Prop :=
    (Wl F L lc_gatepostref02_number_0 (q_gatepostref02_number_0 L K) (upd (upd (upd (enterE [a0]) 2 (.int .i64 0)) 3 (.int .i64 0)) 4 (.int .i64 0)) h)
theorem run_gatepostref02_number {L : FuncId → List V → V → Prop} {K : V → Heap → Prop} {a0 : V} {h : Heap} (hp : p_gatepostref02_number L K a0 h) : Cf F L i_gatepostref02_number [a0] h K :=
  wcallp F_gatepostref02_number (show 1 ≤ 30 by decide) (p := p_gatepostref02_number L K a0 h) (by kernel_rfl) hp
def p_gatepostref02_months (L : FuncId → List V → V → Prop) (K : V → Heap → Prop) (h : Heap) : Prop :=
    (wi F L (.bsl 1 [(.c (.str [74, 97, 110])), (.c (.str [70, 101, 98])), (.c (.str [77, 97, 114])), (.c (.str [65, 112, 114])), (.c (.str [77, 97, 121])), (.c (.str [74, 117, 110])), (.c (.str [74, 117, 108])), (.c (.str [65, 117, 103])), (.c (.str [83, 101, 112])), (.c (.str [79, 99, 116])), (.c (.str [78, 111, 118])), (.c (.str [68, 101, 99]))]) E0 h fun v1 h =>
    (∃ v, some v1 = some v ∧ K v h))
theorem run_gatepostref02_months {L : FuncId → List V → V → Prop} {K : V → Heap → Prop} {h : Heap} (hp : p_gatepostref02_months L K  h) : Cf F L i_gatepostref02_months [] h K :=
  wcallp F_gatepostref02_months (show 0 ≤ 2 by decide) (p := p_gatepostref02_months L K  h) (by kernel_rfl) hp
def k_gatepostref02_clock_2 (L : FuncId → List V → V → Prop) (K : V → Heap → Prop) (v3 v4 v5 : V) (h : Heap) : Prop :=
    (wi F L (.bin .mul (.c v3) (.c (.int .i64 3600))) E0 h fun v53 h =>
    (wi F L (.bin .mul (.c v4) (.c (.int .i64 60))) E0 h fun v55 h =>
    (wi F L (.bin .add (.c v53) (.c v55)) E0 h fun v56 h =>
    (wi F L (.bin .add (.c v56) (.c v5)) E0 h fun v58 h =>
    (∃ v, some v58 = some v ∧ K v h)))))
def k_gatepostref02_clock_1 (L : FuncId → List V → V → Prop) (K : V → Heap → Prop) (v3 v4 v5 : V) (h : Heap) : Prop :=
    (wi F L (.bin .eql (.c v5) (.c (.int .i64 60))) E0 h fun v51 h =>
    (wb v51
    (k_gatepostref02_clock_2 L K v3 v4 (.int .i64 59) h)
    (k_gatepostref02_clock_2 L K v3 v4 v5 h)))
def k_gatepostref02_clock_0 (L : FuncId → List V → V → Prop) (K : V → Heap → Prop) (v0 : V) (h : Heap) : Prop :=
    (wi F L (.slstr (.c v0) none (some (.c (.int .i64 2)))) E0 h fun v20 h =>
    (wi F L (.call i_gatepostref02_number [(.c v20)]) E0 h fun v21 h =>
    (wi F L (.slstr (.c v0) (some (.c (.int .i64 3))) (some (.c (.int .i64 5)))) E0 h fun v23 h =>
    (wi F L (.call i_gatepostref02_number [(.c v23)]) E0 h fun v24 h =>
    (wi F L (.slstr (.c v0) (some (.c (.int .i64 6))) none) E0 h fun v26 h =>
    (wi F L (.call i_gatepostref02_number [(.c v26)]) E0 h fun v27 h =>
    (wi F L (.bin .lss (.c v21) (.c (.int .i64 0))) E0 h fun v29 h =>
    (wg v29 false (wi F L (.mv (.c v21)) E0 h) h fun v31 h =>
    (wg v29 false (wi F L (.bin .gtr (.c v31) (.c (.int .i64 23))) E0 h) h fun v32 h =>
    (wi F L (.pick (.c v29) (.c (.bool true)) (.c v32)) E0 h fun v33 h =>
    (wg v33 false (wi F L (.mv (.c v24)) E0 h) h fun v35 h =>
    (wg v33 false (wi F L (.bin .lss (.c v35) (.c (.int .i64 0))) E0 h) h fun v36 h =>
    (wi F L (.pick (.c v33) (.c (.bool true)) (.c v36)) E0 h fun v37 h =>
    (wg v37 false (wi F L (.mv (.c v24)) E0 h) h fun v39 h =>
    (wg v37 false (wi F L (.bin .gtr (.c v39) (.c (.int .i64 59))) E0 h) h fun v40 h =>
    (wi F L (.pick (.c v37) (.c (.bool true)) (.c v40)) E0 h fun v41 h =>
    (wg v41 false (wi F L (.mv (.c v27)) E0 h) h fun v43 h =>
    (wg v41 false (wi F L (.bin .lss (.c v43) (.c (.int .i64 0))) E0 h) h fun v44 h =>
    (wi F L (.pick (.c v41) (.c (.bool true)) (.c v44)) E0 h fun v45 h =>
    (wg v45 false (wi F L (.mv (.c v27)) E0 h) h fun v47 h =>
    (wg v45 false (wi F L (.bin .gtr (.c v47) (.c (.int .i64 60))) E0 h) h fun v48 h =>
    (wi F L (.pick (.c v45) (.c (.bool true)) (.c v48)) E0 h fun v49 h =>
    (wb v49
    (∃ v, some (.int .i64 (-1)) = some v ∧ K v h)
    (k_gatepostref02_clock_1 L K v21 v24 v27 h))))))))))))))))))))))))
def p_gatepostref02_clock (L : FuncId → List V → V → Prop) (K : V → Heap → Prop) (a0 : V) (h : Heap) : Prop :=
    (wi F L (.len 0 (.c a0)) E0 h fun v7 h =>
    (wi F L (.bin .neq (.c v7) (.c (.int .i64 8))) E0 h fun v8 h =>
    (wg v8 false (wi F L (.mv (.c a0)) E0 h) h fun v10 h =>
    (wg v8 false (wi F L (.ixStr (.c v10) (.c (.int .i64 2))) E0 h) h fun v11 h =>
    (wg v8 false (wi F L (.bin .neq (.c v11) (.c (.int .u8 58))) E0 h) h fun v12 h =>
    (wi F L (.pick (.c v8) (.c (.bool true)) (.c v12)) E0 h fun v13 h =>
    (wg v13 false (wi F L (.mv (.c a0)) E0 h) h fun v15 h =>
    (wg v13 false (wi F L (.ixStr (.c v15) (.c (.int .i64 5))) E0 h) h fun v16 h =>
    (wg v13 false (wi F L (.bin .neq (.c v16) (.c (.int .u8 58))) E0 h) h fun v17 h =>
    (wi F L (.pick (.c v13) (.c (.bool true)) (.c v17)) E0 h fun v18 h =>
    (wb v18
    (∃ v, some (.int .i64 (-1)) = some v ∧ K v h)
    (k_gatepostref02_clock_0 L K a0 h))))))))))))
theorem run_gatepostref02_clock {L : FuncId → List V → V → Prop} {K : V → Heap → Prop} {a0 : V} {h : Heap} (hp : p_gatepostref02_clock L K a0 h) : Cf F L i_gatepostref02_clock [a0] h K :=
  wcallp F_gatepostref02_clock (show 1 ≤ 59 by decide) (p := p_gatepostref02_clock L K a0 h) (by kernel_rfl) hp
def k_gatepostref02_year_0 (L : FuncId → List V → V → Prop) (K : V → Heap → Prop) (h : Heap) : Prop :=
    (∃ v, some (.int .i64 365) = some v ∧ K v h)
def p_gatepostref02_year (L : FuncId → List V → V → Prop) (K : V → Heap → Prop) (a0 : V) (h : Heap) : Prop :=
    (wi F L (.call i_gatepostref02_leap [(.c a0)]) E0 h fun v4 h =>
    (wb v4
    (∃ v, some (.int .i64 366) = some v ∧ K v h)
    (k_gatepostref02_year_0 L K  h)))
theorem run_gatepostref02_year {L : FuncId → List V → V → Prop} {K : V → Heap → Prop} {a0 : V} {h : Heap} (hp : p_gatepostref02_year L K a0 h) : Cf F L i_gatepostref02_year [a0] h K :=
  wcallp F_gatepostref02_year (show 1 ≤ 5 by decide) (p := p_gatepostref02_year L K a0 h) (by kernel_rfl) hp
def k_gatepostref02_long_0 (L : FuncId → List V → V → Prop) (K : V → Heap → Prop) (h : Heap) : Prop :=
    (∃ v, some (.int .i64 31) = some v ∧ K v h)
def k_gatepostref02_long_1 (L : FuncId → List V → V → Prop) (K : V → Heap → Prop) (h : Heap) : Prop :=
    (∃ v, some (.int .i64 28) = some v ∧ K v h)
def k_gatepostref02_long_2 (L : FuncId → List V → V → Prop) (K : V → Heap → Prop) (v10 : V) (h : Heap) : Prop :=
    (wb v10
    (∃ v, some (.int .i64 30) = some v ∧ K v h)
    (k_gatepostref02_long_0 L K  h))
def p_gatepostref02_long (L : FuncId → List V → V → Prop) (K : V → Heap → Prop) (a0 a1 : V) (h : Heap) : Prop :=
    (wi F L (.bin .eql (.c a1) (.c (.int .i64 2))) E0 h fun v7 h =>
    (wb v7
    (wi F L (.call i_gatepostref02_leap [(.c a0)]) E0 h fun v9 h =>
    (wb v9
    (∃ v, some (.int .i64 29) = some v ∧ K v h)
    (k_gatepostref02_long_1 L K  h)))
    (wi F L (.bin .eql (.c a1) (.c (.int .i64 4))) E0 h fun v11 h =>
    (wb v11
    (k_gatepostref02_long_2 L K v11 h)
    (wi F L (.bin .eql (.c a1) (.c (.int .i64 6))) E0 h fun v12 h =>
    (wb v12
    (k_gatepostref02_long_2 L K v12 h)
    (wi F L (.bin .eql (.c a1) (.c (.int .i64 9))) E0 h fun v13 h =>
    (wb v13
    (k_gatepostref02_long_2 L K v13 h)
    (wi F L (.bin .eql (.c a1) (.c (.int .i64 11))) E0 h fun v14 h =>
    (k_gatepostref02_long_2 L K v14 h))))))))))
theorem run_gatepostref02_long {L : FuncId → List V → V → Prop} {K : V → Heap → Prop} {a0 a1 : V} {h : Heap} (hp : p_gatepostref02_long L K a0 a1 h) : Cf F L i_gatepostref02_long [a0, a1] h K :=
  wcallp F_gatepostref02_long (show 2 ≤ 15 by decide) (p := p_gatepostref02_long L K a0 a1 h) (by kernel_rfl) hp
def p_gatepostref02_two (L : FuncId → List V → V → Prop) (K : V → Heap → Prop) (a0 : V) (h : Heap) : Prop :=
    (wi F L (.bin .quo (.c a0) (.c (.int .i64 10))) E0 h fun v4 h' => Ext h h' ∧
    (wi F L (.bin .quo (.c a0) (.c (.int .i64 10))) E0 h' fun v6 h => Ext h' h ∧
    (wi F L (.bin .add (.c v6) (.c (.int .i64 1))) E0 h fun v7 h' => Ext h h' ∧
    (wi F L (.slstr (.c (.str [48, 49, 50, 51, 52, 53, 54, 55, 56, 57])) (some (.c v4)) (some (.c v7))) E0 h' fun v8 h => Ext h' h ∧
    (wi F L (.bin .rem (.c a0) (.c (.int .i64 10))) E0 h fun v10 h' => Ext h h' ∧
    (wi F L (.bin .rem (.c a0) (.c (.int .i64 10))) E0 h' fun v12 h => Ext h' h ∧
    (wi F L (.bin .add (.c v12) (.c (.int .i64 1))) E0 h fun v13 h' => Ext h h' ∧
    (wi F L (.slstr (.c (.str [48, 49, 50, 51, 52, 53, 54, 55, 56, 57])) (some (.c v10)) (some (.c v13))) E0 h' fun v14 h => Ext h' h ∧
    (wi F L (.bin .add (.c v8) (.c v14)) E0 h fun v15 h =>
    (∃ v, some v15 = some v ∧ K v h))))))))))
theorem run_gatepostref02_two {L : FuncId → List V → V → Prop} {K : V → Heap → Prop} {a0 : V} {h : Heap} (hp : p_gatepostref02_two L K a0 h) : Cf F L i_gatepostref02_two [a0] h K :=
  wcallp F_gatepostref02_two (show 1 ≤ 16 by decide) (p := p_gatepostref02_two L K a0 h) (by kernel_rfl) hp
def k___gatepost_date_reader__day_0 (L : FuncId → List V → V → Prop) (K : V → Heap → Prop) (v0 : V) (h : Heap) : Prop :=
    (wi F L (.nilck (.c v0)) E0 h fun v42 h =>
    (wi F L (.faddr 1 (.c v42)) E0 h fun v43 h =>
    (wi F L (.store 1 (.c v43) (.c (.bool false))) E0 h fun _ h =>
    (∃ v, some (.int .i64 0) = some v ∧ K v h))))
def k___gatepost_date_reader__day_2 (L : FuncId → List V → V → Prop) (K : V → Heap → Prop) (N0 : Env → Heap → Prop) (e : Env) (v8 : V) (h : Heap) : Prop :=
    (wi F L (.bin .add (.c v8) (.c (.int .i64 1))) E0 h fun v40 h =>
    (N0 (upd (upd e 40 v40) 8 v40) h))
def k___gatepost_date_reader__day_3 (L : FuncId → List V → V → Prop) (K : V → Heap → Prop) (N0 : Env → Heap → Prop) (e : Env) (v0 v5 v6 v8 : V) (h : Heap) : Prop :=
    (wi F L (.nilck (.c v0)) E0 h fun v17 h =>
    (wi F L (.faddr 0 (.c v17)) E0 h fun v18 h =>
    (wi F L (.load false 1 (.c v18)) E0 h fun v19 h =>
    (wi F L (.len 0 (.c v19)) E0 h fun v20 h =>
    (wi F L (.len 0 (.c v6)) E0 h fun v22 h =>
    (wi F L (.bin .gtr (.c v20) (.c v22)) E0 h fun v23 h =>
    (wg v23 true (wi F L (.mv (.c v0)) E0 h) h fun v25 h =>
    (wg v23 true (wi F L (.nilck (.c v25)) E0 h) h fun v26 h =>
    (wg v23 true (wi F L (.faddr 0 (.c v26)) E0 h) h fun v27 h =>
    (wg v23 true (wi F L (.load false 1 (.c v27)) E0 h) h fun v28 h =>
    (wg v23 true (wi F L (.mv (.c v6)) E0 h) h fun v29 h =>
    (wg v23 true (wi F L (.len 0 (.c v29)) E0 h) h fun v30 h =>
    (wg v23 true (wi F L (.slstr (.c v28) none (some (.c v30))) E0 h) h fun v31 h =>
    (wg v23 true (wi F L (.mv (.c v6)) E0 h) h fun v32 h =>
    (wg v23 true (wi F L (.bin .eql (.c v31) (.c v32)) E0 h) h fun v33 h =>
    (wi F L (.pick (.c v23) (.c v33) (.c (.bool false))) E0 h fun v34 h =>
    (wb v34
    (wi F L (.len 0 (.c v6)) E0 h fun v37 h =>
    (wi F L (.call i___gatepost_date_reader__take [(.c v0), (.c v37)]) E0 h fun v38 h =>
    (∃ v, some v5 = some v ∧ K v h)))
    (k___gatepost_date_reader__day_2 L K N0 (upd (upd (upd (upd (upd (upd (upd (upd (upd (upd (upd (upd (upd (upd (upd (upd (upd (upd (upd e 16 v0) 17 v17) 18 v18) 19 v19) 20 v20) 21 v6) 22 v22) 23 v23) 24 v23) 25 v25) 26 v26) 27 v27) 28 v28) 29 v29) 30 v30) 31 v31) 32 v32) 33 v33) 34 v34) v8 h))))))))))))))))))
def k___gatepost_date_reader__day_1 (L : FuncId → List V → V → Prop) (K : V → Heap → Prop) (N0 : Env → Heap → Prop) (e : Env) (v0 v1 v7 v8 : V) (h : Heap) : Prop :=
    (wi F L (.ixArr 7 1 false (.c v7) (.c v8)) E0 h fun v11 h =>
    (wi F L (.un .not (.c v1)) E0 h fun v13 h =>
    (wb v13
    (wi F L (.slstr (.c v11) none (some (.c (.int .i64 3)))) E0 h fun v15 h =>
    (k___gatepost_date_reader__day_3 L K N0 (upd (upd (upd (upd (upd (upd (upd (upd (upd e 10 v8) 11 v11) 5 v8) 6 v11) 12 v1) 13 v13) 14 v11) 15 v15) 6 v15) v0 v8 v15 v8 h))
    (k___gatepost_date_reader__day_3 L K N0 (upd (upd (upd (upd (upd (upd e 10 v8) 11 v11) 5 v8) 6 v11) 12 v1) 13 v13) v0 v8 v11 v8 h))))
def q___gatepost_date_reader__day_0 (L : FuncId → List V → V → Prop) (K : V → Heap → Prop) : X → Env → Heap → Prop := (fun x => (seqX (fun e h => k___gatepost_date_reader__day_0 L K (e 0) h) (retX c___gatepost_date_reader__day.results K)) (X.out 0 x))
def lc___gatepost_date_reader__day_0 : C :=
  (.seq (.region [⟨(some 9), none, .bin .lss (.t 8) (.c (.int .i64 7))⟩])
  (.seq (.cond (.t 9)
    .skip
    (.exit 0))
  (.seq (.block 1 (.seq (.region [⟨(some 10), none, .mv (.t 8)⟩, ⟨(some 11), none, .ixArr 7 1 false (.t 7) (.t 8)⟩, ⟨(some 5), none, .mv (.t 10)⟩, ⟨(some 6), none, .mv (.t 11)⟩])
  (.seq (.seq (.region [⟨(some 12), none, .mv (.t 1)⟩, ⟨(some 13), none, .un .not (.t 12)⟩])
  (.cond (.t 13)
    (.region [⟨(some 14), none, .mv (.t 6)⟩, ⟨(some 15), none, .slstr (.t 14) none (some (.c (.int .i64 3)))⟩, ⟨(some 6), none, .mv (.t 15)⟩])
    .skip))
  (.seq (.region [⟨(some 16), none, .mv (.t 0)⟩, ⟨(some 17), none, .nilck (.t 16)⟩, ⟨(some 18), none, .faddr 0 (.t 17)⟩, ⟨(some 19), none, .load false 1 (.t 18)⟩, ⟨(some 20), none, .len 0 (.t 19)⟩, ⟨(some 21), none, .mv (.t 6)⟩, ⟨(some 22), none, .len 0 (.t 21)⟩, ⟨(some 23), none, .bin .gtr (.t 20) (.t 22)⟩, ⟨(some 24), none, .mv (.t 23)⟩, ⟨(some 25), (some (24, true)), .mv (.t 0)⟩, ⟨(some 26), (some (24, true)), .nilck (.t 25)⟩, ⟨(some 27), (some (24, true)), .faddr 0 (.t 26)⟩, ⟨(some 28), (some (24, true)), .load false 1 (.t 27)⟩, ⟨(some 29), (some (24, true)), .mv (.t 6)⟩, ⟨(some 30), (some (24, true)), .len 0 (.t 29)⟩, ⟨(some 31), (some (24, true)), .slstr (.t 28) none (some (.t 30))⟩, ⟨(some 32), (some (24, true)), .mv (.t 6)⟩, ⟨(some 33), (some (24, true)), .bin .eql (.t 31) (.t 32)⟩, ⟨(some 34), none, .pick (.t 24) (.t 33) (.c (.bool false))⟩])
  (.cond (.t 34)
    (.seq (.region [⟨(some 35), none, .mv (.t 0)⟩, ⟨(some 36), none, .mv (.t 6)⟩, ⟨(some 37), none, .len 0 (.t 36)⟩, ⟨(some 38), none, .call i___gatepost_date_reader__take [(.t 35), (.t 37)]⟩])
    (.seq (.region [⟨(some 39), none, .mv (.t 5)⟩, ⟨(some 4), none, .mv (.t 39)⟩])
    .ret))
    .skip)))))
  (.region [⟨(some 40), none, .bin .add (.t 8) (.c (.int .i64 1))⟩, ⟨(some 8), none, .mv (.t 40)⟩]))))
def b___gatepost_date_reader__day_0 (L : FuncId → List V → V → Prop) (K : V → Heap → Prop) (N0 : Env → Heap → Prop) (e : Env) (h : Heap) : Prop :=
    (wi F L (.bin .lss (.c (e 8)) (.c (.int .i64 7))) E0 h fun v9 h =>
    (wb v9
    (k___gatepost_date_reader__day_1 L K N0 (upd e 9 v9) (e 0) (e 1) (e 7) (e 8) h)
    (k___gatepost_date_reader__day_0 L K (e 0) h)))
theorem l___gatepost_date_reader__day_0 {L : FuncId → List V → V → Prop} {K : V → Heap → Prop} (I : Nat → Env → Heap → Prop) (hr : ∀ n e h, I n e h → b___gatepost_date_reader__day_0 L K (fun e' h' => ∃ m, m < n ∧ I m e' h') e h) {n : Nat} {e : Env} {h : Heap} (hi : I n e h) : Wl F L lc___gatepost_date_reader__day_0 (q___gatepost_date_reader__day_0 L K) e h :=
  wloopp (b := b___gatepost_date_reader__day_0 L K) I (fun _ _ _ => by kernel_rfl) hr hi
def p___gatepost_date_reader__day (L : FuncId → List V → V → Prop) (K : V → Heap → Prop) (a0 a1 : V) (h : Heap) : Prop :=
    (wi F L (.call i_date_longDays []) E0 h fun v7 h =>
    (Wl F L lc___gatepost_date_reader__day_0 (q___gatepost_date_reader__day_0 L K) (upd (upd (upd (enterE [a0, a1]) 4 (.int .i64 0)) 7 v7) 8 (.int .i64 0)) h))
theorem run___gatepost_date_reader__day {L : FuncId → List V → V → Prop} {K : V → Heap → Prop} {a0 a1 : V} {h : Heap} (hp : p___gatepost_date_reader__day L K a0 a1 h) : Cf F L i___gatepost_date_reader__day [a0, a1] h K :=
  wcallp F___gatepost_date_reader__day (show 2 ≤ 44 by decide) (p := p___gatepost_date_reader__day L K a0 a1 h) (by kernel_rfl) hp
def p___gatepost_date_reader__need (L : FuncId → List V → V → Prop) (K : V → Heap → Prop) (a0 a1 : V) (h : Heap) : Prop :=
    (wi F L (.len 0 (.c a1)) E0 h fun v6 h =>
    (wi F L (.call i___gatepost_date_reader__take [(.c a0), (.c v6)]) E0 h fun v7 h =>
    (wi F L (.bin .neq (.c v7) (.c a1)) E0 h fun v9 h =>
    (wb v9
    (wi F L (.nilck (.c a0)) E0 h fun v11 h =>
    (wi F L (.faddr 1 (.c v11)) E0 h fun v12 h =>
    (wi F L (.store 1 (.c v12) (.c (.bool false))) E0 h fun _ h =>
    (∃ v, resultsV h (enterE []) [] = some v ∧ K v h))))
    (∃ v, resultsV h (enterE []) [] = some v ∧ K v h)))))
theorem run___gatepost_date_reader__need {L : FuncId → List V → V → Prop} {K : V → Heap → Prop} {a0 a1 : V} {h : Heap} (hp : p___gatepost_date_reader__need L K a0 a1 h) : Cf F L i___gatepost_date_reader__need [a0, a1] h K :=
  wcallp F___gatepost_date_reader__need (show 2 ≤ 13 by decide) (p := p___gatepost_date_reader__need L K a0 a1 h) (by kernel_rfl) hp
def k___gatepost_date_reader__number_0 (L : FuncId → List V → V → Prop) (K : V → Heap → Prop) (v6 : V) (h : Heap) : Prop :=
    (wi F L (.load false 1 (.c v6)) E0 h fun v24 h =>
    (∃ v, some v24 = some v ∧ K v h))
def k___gatepost_date_reader__number_2 (L : FuncId → List V → V → Prop) (K : V → Heap → Prop) (N0 : Env → Heap → Prop) (e : Env) (v15 : V) (h : Heap) : Prop :=
    (wi F L (.bin .add (.c v15) (.c (.int .i64 1))) E0 h fun v23 h =>
    (N0 (upd (upd e 23 v23) 15 v23) h))
def k___gatepost_date_reader__number_1 (L : FuncId → List V → V → Prop) (K : V → Heap → Prop) (N0 : Env → Heap → Prop) (e : Env) (v5 v7 v15 : V) (h : Heap) : Prop :=
    (wi F L (.ixStr (.c v5) (.c v15)) E0 h fun v21 h =>
    (wi F L (.callv (.c v7) [(.c v21)]) E0 h fun v22 h =>
    (k___gatepost_date_reader__number_2 L K N0 (upd (upd (upd (upd (upd (upd (upd e 17 v15) 8 v15) 18 v7) 19 v5) 20 v15) 21 v21) 22 v22) v15 h)))
def q___gatepost_date_reader__number_0 (L : FuncId → List V → V → Prop) (K : V → Heap → Prop) : X → Env → Heap → Prop := (fun x => (seqX (fun e h => k___gatepost_date_reader__number_0 L K (e 6) h) (retX c___gatepost_date_reader__number.results K)) (X.out 0 x))
def lc___gatepost_date_reader__number_0 : C :=
  (.seq (.region [⟨(some 16), none, .bin .lss (.t 15) (.t 14)⟩])
  (.seq (.cond (.t 16)
    .skip
    (.exit 0))
  (.seq (.block 1 (.seq (.region [⟨(some 17), none, .mv (.t 15)⟩, ⟨(some 8), none, .mv (.t 17)⟩])
  (.region [⟨(some 18), none, .mv (.t 7)⟩, ⟨(some 19), none, .mv (.t 5)⟩, ⟨(some 20), none, .mv (.t 8)⟩, ⟨(some 21), none, .ixStr (.t 19) (.t 20)⟩, ⟨(some 22), none, .callv (.t 18) [(.t 21)]⟩])))
  (.region [⟨(some 23), none, .bin .add (.t 15) (.c (.int .i64 1))⟩, ⟨(some 15), none, .mv (.t 23)⟩]))))
def b___gatepost_date_reader__number_0 (L : FuncId → List V → V → Prop) (K : V → Heap → Prop) (N0 : Env → Heap → Prop) (e : Env) (h : Heap) : Prop :=
    (wi F L (.bin .lss (.c (e 15)) (.c (e 14))) E0 h fun v16 h =>
    (wb v16
    (k___gatepost_date_reader__number_1 L K N0 (upd e 16 v16) (e 5) (e 7) (e 15) h)
    (k___gatepost_date_reader__number_0 L K (e 6) h)))
theorem l___gatepost_date_reader__number_0 {L : FuncId → List V → V → Prop} {K : V → Heap → Prop} (I : Nat → Env → Heap → Prop) (hr : ∀ n e h, I n e h → b___gatepost_date_reader__number_0 L K (fun e' h' => ∃ m, m < n ∧ I m e' h') e h) {n : Nat} {e : Env} {h : Heap} (hi : I n e h) : Wl F L lc___gatepost_date_reader__number_0 (q___gatepost_date_reader__number_0 L K) e h :=
  wloopp (b := b___gatepost_date_reader__number_0 L K) I (fun _ _ _ => by kernel_rfl) hr hi
def p___gatepost_date_reader__number (L : FuncId → List V → V → Prop) (K : V → Heap → Prop) (a0 a1 : V) (h : Heap) : Prop :=
    (wi F L (.box (.c a0)) E0 h fun v2 h =>
    (wi F L (.load false 1 (.c v2)) E0 h fun v9 h =>
    (wi F L (.call i___gatepost_date_reader__take [(.c v9), (.c a1)]) E0 h fun v11 h =>
    (wi F L (.boxz [(.int .i64 0)]) E0 h fun v6 h =>
    (wi F L (.store 1 (.c v6) (.c (.int .i64 0))) E0 h fun _ h =>
    (wi F L (.mkfn i___gatepost_date_reader__number_1 [(.c v2), (.c v6)]) E0 h fun v12 h =>
    (wi F L (.len 0 (.c v11)) E0 h fun v14 h =>
    (Wl F L lc___gatepost_date_reader__number_0 (q___gatepost_date_reader__number_0 L K) (upd (upd (upd (upd (upd (upd (upd (upd (upd (upd (upd (upd (enterE [a0, a1]) 2 v2) 4 (.int .i64 0)) 9 v9) 10 a1) 11 v11) 5 v11) 6 v6) 12 v12) 7 v12) 13 v11) 14 v14) 15 (.int .i64 0)) h))))))))
theorem run___gatepost_date_reader__number {L : FuncId → List V → V → Prop} {K : V → Heap → Prop} {a0 a1 : V} {h : Heap} (hp : p___gatepost_date_reader__number L K a0 a1 h) : Cf F L i___gatepost_date_reader__number [a0, a1] h K :=
  wcallp F___gatepost_date_reader__number (show 2 ≤ 25 by decide) (p := p___gatepost_date_reader__number L K a0 a1 h) (by kernel_rfl) hp
def k___gatepost_date_reader__month_0 (L : FuncId → List V → V → Prop) (K : V → Heap → Prop) (v0 : V) (h : Heap) : Prop :=
    (wi F L (.nilck (.c v0)) E0 h fun v20 h =>
    (wi F L (.faddr 1 (.c v20)) E0 h fun v21 h =>
    (wi F L (.store 1 (.c v21) (.c (.bool false))) E0 h fun _ h =>
    (∃ v, some (.int .i64 0) = some v ∧ K v h))))
def k___gatepost_date_reader__month_2 (L : FuncId → List V → V → Prop) (K : V → Heap → Prop) (N0 : Env → Heap → Prop) (e : Env) (v9 : V) (h : Heap) : Prop :=
    (wi F L (.bin .add (.c v9) (.c (.int .i64 1))) E0 h fun v18 h =>
    (N0 (upd (upd e 18 v18) 9 v18) h))
def k___gatepost_date_reader__month_1 (L : FuncId → List V → V → Prop) (K : V → Heap → Prop) (N0 : Env → Heap → Prop) (e : Env) (v3 v8 v9 : V) (h : Heap) : Prop :=
    (wi F L (.ixArr 12 1 false (.c v8) (.c v9)) E0 h fun v12 h =>
    (wi F L (.bin .eql (.c v12) (.c v3)) E0 h fun v15 h =>
    (wb v15
    (wi F L (.bin .add (.c v9) (.c (.int .i64 1))) E0 h fun v17 h =>
    (∃ v, some v17 = some v ∧ K v h))
    (k___gatepost_date_reader__month_2 L K N0 (upd (upd (upd (upd (upd (upd (upd e 11 v9) 12 v12) 4 v9) 5 v12) 13 v12) 14 v3) 15 v15) v9 h))))
def q___gatepost_date_reader__month_0 (L : FuncId → List V → V → Prop) (K : V → Heap → Prop) : X → Env → Heap → Prop := (fun x => (seqX (fun e h => k___gatepost_date_reader__month_0 L K (e 0) h) (retX c___gatepost_date_reader__month.results K)) (X.out 0 x))
def lc___gatepost_date_reader__month_0 : C :=
  (.seq (.region [⟨(some 10), none, .bin .lss (.t 9) (.c (.int .i64 12))⟩])
  (.seq (.cond (.t 10)
    .skip
    (.exit 0))
  (.seq (.block 1 (.seq (.region [⟨(some 11), none, .mv (.t 9)⟩, ⟨(some 12), none, .ixArr 12 1 false (.t 8) (.t 9)⟩, ⟨(some 4), none, .mv (.t 11)⟩, ⟨(some 5), none, .mv (.t 12)⟩])
  (.seq (.region [⟨(some 13), none, .mv (.t 5)⟩, ⟨(some 14), none, .mv (.t 3)⟩, ⟨(some 15), none, .bin .eql (.t 13) (.t 14)⟩])
  (.cond (.t 15)
    (.seq (.region [⟨(some 16), none, .mv (.t 4)⟩, ⟨(some 17), none, .bin .add (.t 16) (.c (.int .i64 1))⟩, ⟨(some 2), none, .mv (.t 17)⟩])
    .ret)
    .skip))))
  (.region [⟨(some 18), none, .bin .add (.t 9) (.c (.int .i64 1))⟩, ⟨(some 9), none, .mv (.t 18)⟩]))))
def b___gatepost_date_reader__month_0 (L : FuncId → List V → V → Prop) (K : V → Heap → Prop) (N0 : Env → Heap → Prop) (e : Env) (h : Heap) : Prop :=
    (wi F L (.bin .lss (.c (e 9)) (.c (.int .i64 12))) E0 h fun v10 h =>
    (wb v10
    (k___gatepost_date_reader__month_1 L K N0 (upd e 10 v10) (e 3) (e 8) (e 9) h)
    (k___gatepost_date_reader__month_0 L K (e 0) h)))
theorem l___gatepost_date_reader__month_0 {L : FuncId → List V → V → Prop} {K : V → Heap → Prop} (I : Nat → Env → Heap → Prop) (hr : ∀ n e h, I n e h → b___gatepost_date_reader__month_0 L K (fun e' h' => ∃ m, m < n ∧ I m e' h') e h) {n : Nat} {e : Env} {h : Heap} (hi : I n e h) : Wl F L lc___gatepost_date_reader__month_0 (q___gatepost_date_reader__month_0 L K) e h :=
  wloopp (b := b___gatepost_date_reader__month_0 L K) I (fun _ _ _ => by kernel_rfl) hr hi
def p___gatepost_date_reader__month (L : FuncId → List V → V → Prop) (K : V → Heap → Prop) (a0 : V) (h : Heap) : Prop :=
    (wi F L (.call i___gatepost_date_reader__take [(.c a0), (.c (.int .i64 3))]) E0 h fun v7 h =>
    (wi F L (.call i_date_monthNames []) E0 h fun v8 h =>
    (Wl F L lc___gatepost_date_reader__month_0 (q___gatepost_date_reader__month_0 L K) (upd (upd (upd (upd (upd (upd (enterE [a0]) 2 (.int .i64 0)) 6 a0) 7 v7) 3 v7) 8 v8) 9 (.int .i64 0)) h)))
theorem run___gatepost_date_reader__month {L : FuncId → List V → V → Prop} {K : V → Heap → Prop} {a0 : V} {h : Heap} (hp : p___gatepost_date_reader__month L K a0 h) : Cf F L i___gatepost_date_reader__month [a0] h K :=
  wcallp F___gatepost_date_reader__month (show 1 ≤ 22 by decide) (p := p___gatepost_date_reader__month L K a0 h) (by kernel_rfl) hp
def k___gatepost_date_reader__clock_0 (L : FuncId → List V → V → Prop) (K : V → Heap → Prop) (v3 v4 v5 : V) (h : Heap) : Prop :=
    (wi F L (.bin .mul (.c v3) (.c (.int .i64 3600))) E0 h fun v30 h =>
    (wi F L (.bin .mul (.c v4) (.c (.int .i64 60))) E0 h fun v32 h =>
    (wi F L (.bin .add (.c v30) (.c v32)) E0 h fun v33 h =>
    (wi F L (.mn [(.c v5), (.c (.int .i64 59))]) E0 h fun v35 h =>
    (wi F L (.bin .add (.c v33) (.c v35)) E0 h fun v36 h =>
    (∃ v, some v36 = some v ∧ K v h))))))
def p___gatepost_date_reader__clock (L : FuncId → List V → V → Prop) (K : V → Heap → Prop) (a0 : V) (h : Heap) : Prop :=
    (wi F L (.call i___gatepost_date_reader__number [(.c a0), (.c (.int .i64 2))]) E0 h fun v7 h =>
    (wi F L (.call i___gatepost_date_reader__need [(.c a0), (.c (.str [58]))]) E0 h fun v9 h =>
    (wi F L (.call i___gatepost_date_reader__number [(.c a0), (.c (.int .i64 2))]) E0 h fun v11 h =>
    (wi F L (.call i___gatepost_date_reader__need [(.c a0), (.c (.str [58]))]) E0 h fun v13 h =>
    (wi F L (.call i___gatepost_date_reader__number [(.c a0), (.c (.int .i64 2))]) E0 h fun v15 h =>
    (wi F L (.bin .geq (.c v7) (.c (.int .i64 24))) E0 h fun v17 h =>
    (wg v17 false (wi F L (.mv (.c v11)) E0 h) h fun v19 h =>
    (wg v17 false (wi F L (.bin .geq (.c v19) (.c (.int .i64 60))) E0 h) h fun v20 h =>
    (wi F L (.pick (.c v17) (.c (.bool true)) (.c v20)) E0 h fun v21 h =>
    (wg v21 false (wi F L (.mv (.c v15)) E0 h) h fun v23 h =>
    (wg v21 false (wi F L (.bin .gtr (.c v23) (.c (.int .i64 60))) E0 h) h fun v24 h =>
    (wi F L (.pick (.c v21) (.c (.bool true)) (.c v24)) E0 h fun v25 h =>
    (wb v25
    (wi F L (.nilck (.c a0)) E0 h fun v27 h =>
    (wi F L (.faddr 1 (.c v27)) E0 h fun v28 h =>
    (wi F L (.store 1 (.c v28) (.c (.bool false))) E0 h fun _ h =>
    (k___gatepost_date_reader__clock_0 L K v7 v11 v15 h))))
    (k___gatepost_date_reader__clock_0 L K v7 v11 v15 h))))))))))))))
theorem run___gatepost_date_reader__clock {L : FuncId → List V → V → Prop} {K : V → Heap → Prop} {a0 : V} {h : Heap} (hp : p___gatepost_date_reader__clock L K a0 h) : Cf F L i___gatepost_date_reader__clock [a0] h K :=
  wcallp F___gatepost_date_reader__clock (show 1 ≤ 37 by decide) (p := p___gatepost_date_reader__clock L K a0 h) (by kernel_rfl) hp
def k___gatepost_date_reader__second_0 (L : FuncId → List V → V → Prop) (K : V → Heap → Prop) (v5 v14 : V) (h : Heap) : Prop :=
    (wi F L (.bin .mul (.c v14) (.c (.int .i64 86400))) E0 h fun v43 h =>
    (wi F L (.bin .add (.c v43) (.c v5)) E0 h fun v45 h =>
    (∃ v, resultsV h (enterE [v45, (.bool true)]) [.tmp 0, .tmp 1] = some v ∧ K v h)))
def p___gatepost_date_reader__second (L : FuncId → List V → V → Prop) (K : V → Heap → Prop) (a0 a1 a2 a3 a4 a5 : V) (h : Heap) : Prop :=
    (wi F L (.call i_date_Days [(.c a2), (.c a3), (.c a4)]) E0 h fun v18 h =>
    (wi F L (.nilck (.c a0)) E0 h fun v20 h =>
    (wi F L (.faddr 1 (.c v20)) E0 h fun v21 h =>
    (wi F L (.load false 1 (.c v21)) E0 h fun v22 h =>
    (wi F L (.un .not (.c v22)) E0 h fun v23 h =>
    (wg v23 false (wi F L (.mv (.c a0)) E0 h) h fun v25 h =>
    (wg v23 false (wi F L (.nilck (.c v25)) E0 h) h fun v26 h =>
    (wg v23 false (wi F L (.faddr 0 (.c v26)) E0 h) h fun v27 h =>
    (wg v23 false (wi F L (.load false 1 (.c v27)) E0 h) h fun v28 h =>
    (wg v23 false (wi F L (.bin .neq (.c v28) (.c (.str []))) E0 h) h fun v29 h =>
    (wi F L (.pick (.c v23) (.c (.bool true)) (.c v29)) E0 h fun v30 h =>
    (wg v30 false (wi F L (.mv (.c v18)) E0 h) h fun v32 h =>
    (wg v30 false (wi F L (.bin .lss (.c v32) (.c (.int .i64 0))) E0 h) h fun v33 h =>
    (wi F L (.pick (.c v30) (.c (.bool true)) (.c v33)) E0 h fun v34 h =>
    (wg v34 false (wi F L (.mv (.c v18)) E0 h) h fun v36 h =>
    (wg v34 false (wi F L (.bin .add (.c v36) (.c (.int .i64 3))) E0 h) h fun v37 h =>
    (wg v34 false (wi F L (.bin .rem (.c v37) (.c (.int .i64 7))) E0 h) h fun v38 h =>
    (wg v34 false (wi F L (.mv (.c a1)) E0 h) h fun v39 h =>
    (wg v34 false (wi F L (.bin .neq (.c v38) (.c v39)) E0 h) h fun v40 h =>
    (wi F L (.pick (.c v34) (.c (.bool true)) (.c v40)) E0 h fun v41 h =>
    (wb v41
    (∃ v, resultsV h (enterE [(.int .i64 0), (.bool false)]) [.tmp 0, .tmp 1] = some v ∧ K v h)
    (k___gatepost_date_reader__second_0 L K a5 v18 h))))))))))))))))))))))
theorem run___gatepost_date_reader__second {L : FuncId → List V → V → Prop} {K : V → Heap → Prop} {a0 a1 a2 a3 a4 a5 : V} {h : Heap} (hp : p___gatepost_date_reader__second L K a0 a1 a2 a3 a4 a5 h) : Cf F L i___gatepost_date_reader__second [a0, a1, a2, a3, a4, a5] h K :=
  wcallp F___gatepost_date_reader__second (show 6 ≤ 46 by decide) (p := p___gatepost_date_reader__second L K a0 a1 a2 a3 a4 a5 h) (by kernel_rfl) hp
def k___gatepost_date_reader__take_0 (L : FuncId → List V → V → Prop) (K : V → Heap → Prop) (v0 v1 : V) (h : Heap) : Prop :=
    (wi F L (.nilck (.c v0)) E0 h fun v17 h =>
    (wi F L (.faddr 0 (.c v17)) E0 h fun v18 h =>
    (wi F L (.load false 1 (.c v18)) E0 h fun v19 h =>
    (wi F L (.slstr (.c v19) none (some (.c v1))) E0 h fun v21 h =>
    (wi F L (.nilck (.c v0)) E0 h fun v24 h =>
    (wi F L (.faddr 0 (.c v24)) E0 h fun v25 h =>
    (wi F L (.load false 1 (.c v25)) E0 h fun v26 h =>
    (wi F L (.slstr (.c v26) (some (.c v1)) none) E0 h fun v28 h =>
    (wi F L (.nilck (.c v0)) E0 h fun v29 h =>
    (wi F L (.faddr 0 (.c v29)) E0 h fun v30 h =>
    (wi F L (.store 1 (.c v30) (.c v28)) E0 h fun _ h =>
    (∃ v, some v21 = some v ∧ K v h))))))))))))
def p___gatepost_date_reader__take (L : FuncId → List V → V → Prop) (K : V → Heap → Prop) (a0 a1 : V) (h : Heap) : Prop :=
    (wi F L (.nilck (.c a0)) E0 h fun v7 h =>
    (wi F L (.faddr 0 (.c v7)) E0 h fun v8 h =>
    (wi F L (.load false 1 (.c v8)) E0 h fun v9 h =>
    (wi F L (.len 0 (.c v9)) E0 h fun v10 h =>
    (wi F L (.bin .lss (.c v10) (.c a1)) E0 h fun v12 h =>
    (wb v12
    (wi F L (.nilck (.c a0)) E0 h fun v14 h =>
    (wi F L (.faddr 1 (.c v14)) E0 h fun v15 h =>
    (wi F L (.store 1 (.c v15) (.c (.bool false))) E0 h fun _ h =>
    (∃ v, some (.str []) = some v ∧ K v h))))
    (k___gatepost_date_reader__take_0 L K a0 a1 h)))))))
theorem run___gatepost_date_reader__take {L : FuncId → List V → V → Prop} {K : V → Heap → Prop} {a0 a1 : V} {h : Heap} (hp : p___gatepost_date_reader__take L K a0 a1 h) : Cf F L i___gatepost_date_reader__take [a0, a1] h K :=
  wcallp F___gatepost_date_reader__take (show 2 ≤ 32 by decide) (p := p___gatepost_date_reader__take L K a0 a1 h) (by kernel_rfl) hp
def p_gatepostref02_leap (L : FuncId → List V → V → Prop) (K : V → Heap → Prop) (a0 : V) (h : Heap) : Prop :=
    (wi F L (.bin .rem (.c a0) (.c (.int .i64 4))) E0 h fun v4 h =>
    (wi F L (.bin .eql (.c v4) (.c (.int .i64 0))) E0 h fun v5 h =>
    (wg v5 true (wi F L (.mv (.c a0)) E0 h) h fun v7 h =>
    (wg v5 true (wi F L (.bin .rem (.c v7) (.c (.int .i64 100))) E0 h) h fun v8 h =>
    (wg v5 true (wi F L (.bin .neq (.c v8) (.c (.int .i64 0))) E0 h) h fun v9 h =>
    (wg v5 true (wi F L (.mv (.c v9)) E0 h) h fun v10 h =>
    (wg v10 false (wi F L (.mv (.c a0)) E0 h) h fun v11 h =>
    (wg v10 false (wi F L (.bin .rem (.c v11) (.c (.int .i64 400))) E0 h) h fun v12 h =>
    (wg v10 false (wi F L (.bin .eql (.c v12) (.c (.int .i64 0))) E0 h) h fun v13 h =>
    (wg v5 true (wi F L (.pick (.c v10) (.c (.bool true)) (.c v13)) E0 h) h fun v14 h =>
    (wi F L (.pick (.c v5) (.c v14) (.c (.bool false))) E0 h fun v15 h =>
    (∃ v, some v15 = some v ∧ K v h))))))))))))
theorem run_gatepostref02_leap {L : FuncId → List V → V → Prop} {K : V → Heap → Prop} {a0 : V} {h : Heap} (hp : p_gatepostref02_leap L K a0 h) : Cf F L i_gatepostref02_leap [a0] h K :=
  wcallp F_gatepostref02_leap (show 1 ≤ 16 by decide) (p := p_gatepostref02_leap L K a0 h) (by kernel_rfl) hp
def k___gatepost_date_reader__number_1_0 (L : FuncId → List V → V → Prop) (K : V → Heap → Prop) (v0 v2 : V) (h : Heap) : Prop :=
    (wi F L (.load false 1 (.c v2)) E0 h fun v13 h =>
    (wi F L (.bin .mul (.c (.int .i64 10)) (.c v13)) E0 h fun v14 h =>
    (wi F L (.bin .sub (.c v0) (.c (.int .u8 48))) E0 h fun v16 h =>
    (wi F L (.toInt .i64 (.c v16)) E0 h fun v17 h =>
    (wi F L (.bin .add (.c v14) (.c v17)) E0 h fun v18 h =>
    (wi F L (.store 1 (.c v2) (.c v18)) E0 h fun _ h =>
    (∃ v, resultsV h (enterE []) [] = some v ∧ K v h)))))))
def p___gatepost_date_reader__number_1 (L : FuncId → List V → V → Prop) (K : V → Heap → Prop) (a0 a1 a2 : V) (h : Heap) : Prop :=
    (wi F L (.bin .lss (.c a0) (.c (.int .u8 48))) E0 h fun v5 h =>
    (wg v5 false (wi F L (.mv (.c a0)) E0 h) h fun v7 h =>
    (wg v5 false (wi F L (.bin .gtr (.c v7) (.c (.int .u8 57))) E0 h) h fun v8 h =>
    (wi F L (.pick (.c v5) (.c (.bool true)) (.c v8)) E0 h fun v9 h =>
    (wb v9
    (wi F L (.load false 1 (.c a1)) E0 h fun v10 h =>
    (wi F L (.nilck (.c v10)) E0 h fun v11 h =>
    (wi F L (.faddr 1 (.c v11)) E0 h fun v12 h =>
    (wi F L (.store 1 (.c v12) (.c (.bool false))) E0 h fun _ h =>
    (k___gatepost_date_reader__number_1_0 L K a0 a2 h)))))
    (k___gatepost_date_reader__number_1_0 L K a0 a2 h))))))
theorem run___gatepost_date_reader__number_1 {L : FuncId → List V → V → Prop} {K : V → Heap → Prop} {a0 a1 a2 : V} {h : Heap} (hp : p___gatepost_date_reader__number_1 L K a0 a1 a2 h) : Cf F L i___gatepost_date_reader__number_1 [a0, a1, a2] h K :=
  wcallp F___gatepost_date_reader__number_1 (show 3 ≤ 19 by decide) (p := p___gatepost_date_reader__number_1 L K a0 a1 a2 h) (by kernel_rfl) hp
theorem hF : ∀ f fn, F f = some fn → compF Tryd.prog f = some fn := lookup_all ⟨kc_gatepostlaw02_DateWeeks, kc_gatepostlaw02_DateTells, kc_gatepostlaw02_DateBack, kc_gatepostlaw02_DateForms, kc_date_Format, kc_date_Parse, kc_gatepostref02_Parse, kc_date_Civil, kc_gatepostref02_Civil, kc_date_Days, kc_gatepostref02_Days, kc_gatepostref02_Format, kc_date_longDays, kc_date_pad, kc_date_monthNames, kc_date_fixed, kc_date_old, kc_date_plain, kc_gatepostref02_second, kc_gatepostref02_find, kc_gatepostref02_short, kc_gatepostref02_number, kc_gatepostref02_months, kc_gatepostref02_clock, kc_gatepostref02_year, kc_gatepostref02_long, kc_gatepostref02_two, kc___gatepost_date_reader__day, kc___gatepost_date_reader__need, kc___gatepost_date_reader__number, kc___gatepost_date_reader__month, kc___gatepost_date_reader__clock, kc___gatepost_date_reader__second, kc___gatepost_date_reader__take, kc_gatepostref02_leap, kc___gatepost_date_reader__number_1, trivial⟩
theorem hm : Tryd.prog.follows .mixedOrders = true := by kernel_rfl
end Go.Proofs.YtdgklgeddbfeaaaDoor.Vh
