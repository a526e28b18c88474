/- The functions of a seat, compiled for the small machine. Printed by Print.lean. -/
import Derived.Test.YtaahialaegfjgaaGreatDoorPk2
import Derived.KernelRfl
section
set_option maxRecDepth 100000
set_option linter.unusedVariables false
namespace Go.Proofs.YtaahialaegfjgaaGreatDoor.Vh
open Go.Vm
theorem kc_gatepostlaw10_StoringKeeps : compF Tryz.prog i_gatepostlaw10_StoringKeeps = some c_gatepostlaw10_StoringKeeps := by kernel_rfl
theorem kc_gatepostlaw10_StoringTells : compF Tryz.prog i_gatepostlaw10_StoringTells = some c_gatepostlaw10_StoringTells := by kernel_rfl
theorem F_gatepostlaw10_few : F i_gatepostlaw10_few = some c_gatepostlaw10_few := rfl
theorem kc_gatepostlaw10_few : compF Tryz.prog i_gatepostlaw10_few = some c_gatepostlaw10_few := by kernel_rfl
theorem F_token_Same : F i_token_Same = some c_token_Same := rfl
theorem kc_token_Same : compF Tryz.prog i_token_Same = some c_token_Same := by kernel_rfl
theorem F_storing_Refresh : F i_storing_Refresh = some c_storing_Refresh := rfl
theorem kc_storing_Refresh : compF Tryz.prog i_storing_Refresh = some c_storing_Refresh := by kernel_rfl
theorem F_storing_Of : F i_storing_Of = some c_storing_Of := rfl
theorem kc_storing_Of : compF Tryz.prog i_storing_Of = some c_storing_Of := by kernel_rfl
theorem kc_gatepostref10_Of : compF Tryz.prog i_gatepostref10_Of = some c_gatepostref10_Of := by kernel_rfl
theorem kc_storing_May : compF Tryz.prog i_storing_May = some c_storing_May := by kernel_rfl
theorem kc_gatepostref10_May : compF Tryz.prog i_gatepostref10_May = some c_gatepostref10_May := by kernel_rfl
theorem kc_gatepostref10_Refresh : compF Tryz.prog i_gatepostref10_Refresh = some c_gatepostref10_Refresh := by kernel_rfl
theorem kc_gatepostref04_Same : compF Tryz.prog i_gatepostref04_Same = some c_gatepostref04_Same := by kernel_rfl
theorem F_token_Lower : F i_token_Lower = some c_token_Lower := rfl
theorem kc_token_Lower : compF Tryz.prog i_token_Lower = some c_token_Lower := by kernel_rfl
theorem F_field_Strip : F i_field_Strip = some c_field_Strip := rfl
theorem kc_field_Strip : compF Tryz.prog i_field_Strip = some c_field_Strip := by kernel_rfl
theorem F_storing_stays : F i_storing_stays = some c_storing_stays := rfl
theorem kc_storing_stays : compF Tryz.prog i_storing_stays = some c_storing_stays := by kernel_rfl
theorem F_field_Del : F i_field_Del = some c_field_Del := rfl
theorem kc_field_Del : compF Tryz.prog i_field_Del = some c_field_Del := by kernel_rfl
theorem F_storing_has : F i_storing_has = some c_storing_has := rfl
theorem kc_storing_has : compF Tryz.prog i_storing_has = some c_storing_has := by kernel_rfl
theorem F_control_Of : F i_control_Of = some c_control_Of := rfl
theorem kc_control_Of : compF Tryz.prog i_control_Of = some c_control_Of := by kernel_rfl
theorem F_storing_Of_1 : F i_storing_Of_1 = some c_storing_Of_1 := rfl
theorem kc_storing_Of_1 : compF Tryz.prog i_storing_Of_1 = some c_storing_Of_1 := by kernel_rfl
theorem F_storing_dated : F i_storing_dated = some c_storing_dated := rfl
theorem kc_storing_dated : compF Tryz.prog i_storing_dated = some c_storing_dated := by kernel_rfl
theorem F_field_Get : F i_field_Get = some c_field_Get := rfl
theorem kc_field_Get : compF Tryz.prog i_field_Get = some c_field_Get := by kernel_rfl
theorem F_token_Split : F i_token_Split = some c_token_Split := rfl
theorem kc_token_Split : compF Tryz.prog i_token_Split = some c_token_Split := by kernel_rfl
theorem F_token_Number : F i_token_Number = some c_token_Number := rfl
theorem kc_token_Number : compF Tryz.prog i_token_Number = some c_token_Number := by kernel_rfl
theorem kc_gatepostref08_Of : compF Tryz.prog i_gatepostref08_Of = some c_gatepostref08_Of := by kernel_rfl
theorem kc_gatepostref10_second : compF Tryz.prog i_gatepostref10_second = some c_gatepostref10_second := by kernel_rfl
theorem kc_gatepostref04_Get : compF Tryz.prog i_gatepostref04_Get = some c_gatepostref04_Get := by kernel_rfl
theorem kc_gatepostref01_Split : compF Tryz.prog i_gatepostref01_Split = some c_gatepostref01_Split := by kernel_rfl
theorem kc_gatepostref01_Number : compF Tryz.prog i_gatepostref01_Number = some c_gatepostref01_Number := by kernel_rfl
theorem kc_storing_known : compF Tryz.prog i_storing_known = some c_storing_known := by kernel_rfl
theorem kc_storing_varies : compF Tryz.prog i_storing_varies = some c_storing_varies := by kernel_rfl
theorem kc_fresh_Heuristic : compF Tryz.prog i_fresh_Heuristic = some c_fresh_Heuristic := by kernel_rfl
theorem kc_gatepostref10_has : compF Tryz.prog i_gatepostref10_has = some c_gatepostref10_has := by kernel_rfl
theorem kc_gatepostref09_Heuristic : compF Tryz.prog i_gatepostref09_Heuristic = some c_gatepostref09_Heuristic := by kernel_rfl
theorem kc_gatepostref04_Strip : compF Tryz.prog i_gatepostref04_Strip = some c_gatepostref04_Strip := by kernel_rfl
theorem kc_gatepostref04_Del : compF Tryz.prog i_gatepostref04_Del = some c_gatepostref04_Del := by kernel_rfl
theorem F_field_Names : F i_field_Names = some c_field_Names := rfl
theorem kc_field_Names : compF Tryz.prog i_field_Names = some c_field_Names := by kernel_rfl
theorem F_field_without : F i_field_without = some c_field_without := rfl
theorem kc_field_without : compF Tryz.prog i_field_without = some c_field_without := by kernel_rfl
theorem F_slices_ContainsFunc___gatepost_api_Field_gatepost_api_Field_ : F i_slices_ContainsFunc___gatepost_api_Field_gatepost_api_Field_ = some c_slices_ContainsFunc___gatepost_api_Field_gatepost_api_Field_ := rfl
theorem kc_slices_ContainsFunc___gatepost_api_Field_gatepost_api_Field_ : compF Tryz.prog i_slices_ContainsFunc___gatepost_api_Field_gatepost_api_Field_ = some c_slices_ContainsFunc___gatepost_api_Field_gatepost_api_Field_ := by kernel_rfl
theorem F_storing_has_1 : F i_storing_has_1 = some c_storing_has_1 := rfl
theorem kc_storing_has_1 : compF Tryz.prog i_storing_has_1 = some c_storing_has_1 := by kernel_rfl
theorem F_control_Parse : F i_control_Parse = some c_control_Parse := rfl
theorem kc_control_Parse : compF Tryz.prog i_control_Parse = some c_control_Parse := by kernel_rfl
theorem F_control_nothing : F i_control_nothing = some c_control_nothing := rfl
theorem kc_control_nothing : compF Tryz.prog i_control_nothing = some c_control_nothing := by kernel_rfl
theorem F_slices_Contains___string_string_ : F i_slices_Contains___string_string_ = some c_slices_Contains___string_string_ := rfl
theorem kc_slices_Contains___string_string_ : compF Tryz.prog i_slices_Contains___string_string_ = some c_slices_Contains___string_string_ := by kernel_rfl
theorem F_date_Parse : F i_date_Parse = some c_date_Parse := rfl
theorem kc_date_Parse : compF Tryz.prog i_date_Parse = some c_date_Parse := by kernel_rfl
theorem F_token_Split_1 : F i_token_Split_1 = some c_token_Split_1 := rfl
theorem kc_token_Split_1 : compF Tryz.prog i_token_Split_1 = some c_token_Split_1 := by kernel_rfl
theorem F_token_Trim : F i_token_Trim = some c_token_Trim := rfl
theorem kc_token_Trim : compF Tryz.prog i_token_Trim = some c_token_Trim := by kernel_rfl
theorem F_token_all : F i_token_all = some c_token_all := rfl
theorem kc_token_all : compF Tryz.prog i_token_all = some c_token_all := by kernel_rfl
theorem F_token_Number_1 : F i_token_Number_1 = some c_token_Number_1 := rfl
theorem kc_token_Number_1 : compF Tryz.prog i_token_Number_1 = some c_token_Number_1 := by kernel_rfl
theorem kc_gatepostref08_Parse : compF Tryz.prog i_gatepostref08_Parse = some c_gatepostref08_Parse := by kernel_rfl
theorem kc_gatepostref08_None : compF Tryz.prog i_gatepostref08_None = some c_gatepostref08_None := by kernel_rfl
theorem kc_gatepostref01_Lower : compF Tryz.prog i_gatepostref01_Lower = some c_gatepostref01_Lower := by kernel_rfl
theorem kc_gatepostref02_Parse : compF Tryz.prog i_gatepostref02_Parse = some c_gatepostref02_Parse := by kernel_rfl
theorem kc_gatepostref01_Same : compF Tryz.prog i_gatepostref01_Same = some c_gatepostref01_Same := by kernel_rfl
theorem kc_gatepostref01_Trim : compF Tryz.prog i_gatepostref01_Trim = some c_gatepostref01_Trim := by kernel_rfl
theorem kc_fresh_keeps : compF Tryz.prog i_fresh_keeps = some c_fresh_keeps := by kernel_rfl
theorem kc_gatepostref04_Names : compF Tryz.prog i_gatepostref04_Names = some c_gatepostref04_Names := by kernel_rfl
theorem F_token_Is : F i_token_Is = some c_token_Is := rfl
theorem kc_token_Is : compF Tryz.prog i_token_Is = some c_token_Is := by kernel_rfl
theorem F_field_keep : F i_field_keep = some c_field_keep := rfl
theorem kc_field_keep : compF Tryz.prog i_field_keep = some c_field_keep := by kernel_rfl
theorem F_field_without_1 : F i_field_without_1 = some c_field_without_1 := rfl
theorem kc_field_without_1 : compF Tryz.prog i_field_without_1 = some c_field_without_1 := by kernel_rfl
theorem F_slices_IndexFunc___gatepost_api_Field_gatepost_api_Field_ : F i_slices_IndexFunc___gatepost_api_Field_gatepost_api_Field_ = some c_slices_IndexFunc___gatepost_api_Field_gatepost_api_Field_ := rfl
theorem kc_slices_IndexFunc___gatepost_api_Field_gatepost_api_Field_ : compF Tryz.prog i_slices_IndexFunc___gatepost_api_Field_gatepost_api_Field_ = some c_slices_IndexFunc___gatepost_api_Field_gatepost_api_Field_ := by kernel_rfl
theorem F_control_rules : F i_control_rules = some c_control_rules := rfl
theorem kc_control_rules : compF Tryz.prog i_control_rules = some c_control_rules := by kernel_rfl
theorem F_token_Pair : F i_token_Pair = some c_token_Pair := rfl
theorem kc_token_Pair : compF Tryz.prog i_token_Pair = some c_token_Pair := by kernel_rfl
theorem F__gatepost_control_rule__value : F i__gatepost_control_rule__value = some c__gatepost_control_rule__value := rfl
theorem kc__gatepost_control_rule__value : compF Tryz.prog i__gatepost_control_rule__value = some c__gatepost_control_rule__value := by kernel_rfl
theorem F_slices_Index___string_string_ : F i_slices_Index___string_string_ = some c_slices_Index___string_string_ := rfl
theorem kc_slices_Index___string_string_ : compF Tryz.prog i_slices_Index___string_string_ = some c_slices_Index___string_string_ := by kernel_rfl
theorem F_date_fixed : F i_date_fixed = some c_date_fixed := rfl
theorem kc_date_fixed : compF Tryz.prog i_date_fixed = some c_date_fixed := by kernel_rfl
theorem F_date_old : F i_date_old = some c_date_old := rfl
theorem kc_date_old : compF Tryz.prog i_date_old = some c_date_old := by kernel_rfl
theorem F_date_plain : F i_date_plain = some c_date_plain := rfl
theorem kc_date_plain : compF Tryz.prog i_date_plain = some c_date_plain := by kernel_rfl
theorem F_strings_Trim : F i_strings_Trim = some c_strings_Trim := rfl
theorem kc_strings_Trim : compF Tryz.prog i_strings_Trim = some c_strings_Trim := by kernel_rfl
theorem kc_gatepostref01_Pair : compF Tryz.prog i_gatepostref01_Pair = some c_gatepostref01_Pair := by kernel_rfl
theorem kc_gatepostref08_least : compF Tryz.prog i_gatepostref08_least = some c_gatepostref08_least := by kernel_rfl
theorem kc_gatepostref02_second : compF Tryz.prog i_gatepostref02_second = some c_gatepostref02_second := by kernel_rfl
theorem kc_gatepostref02_find : compF Tryz.prog i_gatepostref02_find = some c_gatepostref02_find := by kernel_rfl
theorem kc_gatepostref02_short : compF Tryz.prog i_gatepostref02_short = some c_gatepostref02_short := by kernel_rfl
theorem kc_gatepostref02_number : compF Tryz.prog i_gatepostref02_number = some c_gatepostref02_number := by kernel_rfl
theorem kc_gatepostref02_months : compF Tryz.prog i_gatepostref02_months = some c_gatepostref02_months := by kernel_rfl
theorem kc_gatepostref02_clock : compF Tryz.prog i_gatepostref02_clock = some c_gatepostref02_clock := by kernel_rfl
theorem kc_gatepostref01_blank : compF Tryz.prog i_gatepostref01_blank = some c_gatepostref01_blank := by kernel_rfl
theorem kc_gatepostref01_Is : compF Tryz.prog i_gatepostref01_Is = some c_gatepostref01_Is := by kernel_rfl
theorem F_token_inToken : F i_token_inToken = some c_token_inToken := rfl
theorem kc_token_inToken : compF Tryz.prog i_token_inToken = some c_token_inToken := by kernel_rfl
theorem F_control_rules_1 : F i_control_rules_1 = some c_control_rules_1 := rfl
theorem kc_control_rules_1 : compF Tryz.prog i_control_rules_1 = some c_control_rules_1 := by kernel_rfl
theorem F_control_rules_2 : F i_control_rules_2 = some c_control_rules_2 := rfl
theorem kc_control_rules_2 : compF Tryz.prog i_control_rules_2 = some c_control_rules_2 := by kernel_rfl
theorem F_control_rules_3 : F i_control_rules_3 = some c_control_rules_3 := rfl
theorem kc_control_rules_3 : compF Tryz.prog i_control_rules_3 = some c_control_rules_3 := by kernel_rfl
theorem F_control_rules_4 : F i_control_rules_4 = some c_control_rules_4 := rfl
theorem kc_control_rules_4 : compF Tryz.prog i_control_rules_4 = some c_control_rules_4 := by kernel_rfl
theorem F_control_rules_5 : F i_control_rules_5 = some c_control_rules_5 := rfl
theorem kc_control_rules_5 : compF Tryz.prog i_control_rules_5 = some c_control_rules_5 := by kernel_rfl
theorem F_control_rules_6 : F i_control_rules_6 = some c_control_rules_6 := rfl
theorem kc_control_rules_6 : compF Tryz.prog i_control_rules_6 = some c_control_rules_6 := by kernel_rfl
theorem F_control_rules_7 : F i_control_rules_7 = some c_control_rules_7 := rfl
theorem kc_control_rules_7 : compF Tryz.prog i_control_rules_7 = some c_control_rules_7 := by kernel_rfl
theorem F_control_rules_8 : F i_control_rules_8 = some c_control_rules_8 := rfl
theorem kc_control_rules_8 : compF Tryz.prog i_control_rules_8 = some c_control_rules_8 := by kernel_rfl
theorem F_control_rules_9 : F i_control_rules_9 = some c_control_rules_9 := rfl
theorem kc_control_rules_9 : compF Tryz.prog i_control_rules_9 = some c_control_rules_9 := by kernel_rfl
theorem F_control_rules_10 : F i_control_rules_10 = some c_control_rules_10 := rfl
theorem kc_control_rules_10 : compF Tryz.prog i_control_rules_10 = some c_control_rules_10 := by kernel_rfl
theorem F_control_rules_11 : F i_control_rules_11 = some c_control_rules_11 := rfl
theorem kc_control_rules_11 : compF Tryz.prog i_control_rules_11 = some c_control_rules_11 := by kernel_rfl
theorem F_control_rules_12 : F i_control_rules_12 = some c_control_rules_12 := rfl
theorem kc_control_rules_12 : compF Tryz.prog i_control_rules_12 = some c_control_rules_12 := by kernel_rfl
theorem F_control_rules_13 : F i_control_rules_13 = some c_control_rules_13 := rfl
theorem kc_control_rules_13 : compF Tryz.prog i_control_rules_13 = some c_control_rules_13 := by kernel_rfl
theorem F_control_rules_14 : F i_control_rules_14 = some c_control_rules_14 := rfl
theorem kc_control_rules_14 : compF Tryz.prog i_control_rules_14 = some c_control_rules_14 := by kernel_rfl
theorem F_control_rules_15 : F i_control_rules_15 = some c_control_rules_15 := rfl
theorem kc_control_rules_15 : compF Tryz.prog i_control_rules_15 = some c_control_rules_15 := by kernel_rfl
theorem F_strings_Cut : F i_strings_Cut = some c_strings_Cut := rfl
theorem kc_strings_Cut : compF Tryz.prog i_strings_Cut = some c_strings_Cut := by kernel_rfl
theorem kc_token_unquote : compF Tryz.prog i_token_unquote = some c_token_unquote := by kernel_rfl
theorem F___gatepost_date_reader__day : F i___gatepost_date_reader__day = some c___gatepost_date_reader__day := rfl
theorem kc___gatepost_date_reader__day : compF Tryz.prog i___gatepost_date_reader__day = some c___gatepost_date_reader__day := by kernel_rfl
theorem F___gatepost_date_reader__need : F i___gatepost_date_reader__need = some c___gatepost_date_reader__need := rfl
theorem kc___gatepost_date_reader__need : compF Tryz.prog i___gatepost_date_reader__need = some c___gatepost_date_reader__need := by kernel_rfl
theorem F___gatepost_date_reader__number : F i___gatepost_date_reader__number = some c___gatepost_date_reader__number := rfl
theorem kc___gatepost_date_reader__number : compF Tryz.prog i___gatepost_date_reader__number = some c___gatepost_date_reader__number := by kernel_rfl
theorem F___gatepost_date_reader__month : F i___gatepost_date_reader__month = some c___gatepost_date_reader__month := rfl
theorem kc___gatepost_date_reader__month : compF Tryz.prog i___gatepost_date_reader__month = some c___gatepost_date_reader__month := by kernel_rfl
theorem F___gatepost_date_reader__clock : F i___gatepost_date_reader__clock = some c___gatepost_date_reader__clock := rfl
theorem kc___gatepost_date_reader__clock : compF Tryz.prog i___gatepost_date_reader__clock = some c___gatepost_date_reader__clock := by kernel_rfl
theorem F___gatepost_date_reader__second : F i___gatepost_date_reader__second = some c___gatepost_date_reader__second := rfl
theorem kc___gatepost_date_reader__second : compF Tryz.prog i___gatepost_date_reader__second = some c___gatepost_date_reader__second := by kernel_rfl
theorem F___gatepost_date_reader__take : F i___gatepost_date_reader__take = some c___gatepost_date_reader__take := rfl
theorem kc___gatepost_date_reader__take : compF Tryz.prog i___gatepost_date_reader__take = some c___gatepost_date_reader__take := by kernel_rfl
theorem F_strings_makeASCIISet : F i_strings_makeASCIISet = some c_strings_makeASCIISet := rfl
theorem kc_strings_makeASCIISet : compF Tryz.prog i_strings_makeASCIISet = some c_strings_makeASCIISet := by kernel_rfl
theorem F_strings_trimLeftASCII : F i_strings_trimLeftASCII = some c_strings_trimLeftASCII := rfl
theorem kc_strings_trimLeftASCII : compF Tryz.prog i_strings_trimLeftASCII = some c_strings_trimLeftASCII := by kernel_rfl
theorem F_strings_trimRightASCII : F i_strings_trimRightASCII = some c_strings_trimRightASCII := rfl
theorem kc_strings_trimRightASCII : compF Tryz.prog i_strings_trimRightASCII = some c_strings_trimRightASCII := by kernel_rfl
theorem kc_gatepostref01_unquote : compF Tryz.prog i_gatepostref01_unquote = some c_gatepostref01_unquote := by kernel_rfl
theorem kc_gatepostref02_Days : compF Tryz.prog i_gatepostref02_Days = some c_gatepostref02_Days := by kernel_rfl
theorem kc_gatepostref01_tchar : compF Tryz.prog i_gatepostref01_tchar = some c_gatepostref01_tchar := by kernel_rfl
theorem F_token_marks : F i_token_marks = some c_token_marks := rfl
theorem kc_token_marks : compF Tryz.prog i_token_marks = some c_token_marks := by kernel_rfl
theorem F_internal_stringslite_Cut : F i_internal_stringslite_Cut = some c_internal_stringslite_Cut := rfl
theorem kc_internal_stringslite_Cut : compF Tryz.prog i_internal_stringslite_Cut = some c_internal_stringslite_Cut := by kernel_rfl
theorem kc_strings_CutPrefix : compF Tryz.prog i_strings_CutPrefix = some c_strings_CutPrefix := by kernel_rfl
theorem kc_token_inQuotes : compF Tryz.prog i_token_inQuotes = some c_token_inQuotes := by kernel_rfl
theorem F_date_longDays : F i_date_longDays = some c_date_longDays := rfl
theorem kc_date_longDays : compF Tryz.prog i_date_longDays = some c_date_longDays := by kernel_rfl
theorem F___gatepost_date_reader__number_1 : F i___gatepost_date_reader__number_1 = some c___gatepost_date_reader__number_1 := rfl
theorem kc___gatepost_date_reader__number_1 : compF Tryz.prog i___gatepost_date_reader__number_1 = some c___gatepost_date_reader__number_1 := by kernel_rfl
theorem F_date_monthNames : F i_date_monthNames = some c_date_monthNames := rfl
theorem kc_date_monthNames : compF Tryz.prog i_date_monthNames = some c_date_monthNames := by kernel_rfl
theorem F_date_Days : F i_date_Days = some c_date_Days := rfl
theorem kc_date_Days : compF Tryz.prog i_date_Days = some c_date_Days := by kernel_rfl
theorem F___strings_asciiSet__contains : F i___strings_asciiSet__contains = some c___strings_asciiSet__contains := rfl
theorem kc___strings_asciiSet__contains : compF Tryz.prog i___strings_asciiSet__contains = some c___strings_asciiSet__contains := by kernel_rfl
theorem kc_gatepostref01_text : compF Tryz.prog i_gatepostref01_text = some c_gatepostref01_text := by kernel_rfl
theorem kc_gatepostref02_long : compF Tryz.prog i_gatepostref02_long = some c_gatepostref02_long := by kernel_rfl
theorem kc_gatepostref02_year : compF Tryz.prog i_gatepostref02_year = some c_gatepostref02_year := by kernel_rfl
theorem kc_internal_stringslite_CutPrefix : compF Tryz.prog i_internal_stringslite_CutPrefix = some c_internal_stringslite_CutPrefix := by kernel_rfl
theorem F_date_Civil : F i_date_Civil = some c_date_Civil := rfl
theorem kc_date_Civil : compF Tryz.prog i_date_Civil = some c_date_Civil := by kernel_rfl
theorem kc_gatepostref02_leap : compF Tryz.prog i_gatepostref02_leap = some c_gatepostref02_leap := by kernel_rfl
theorem kc_internal_stringslite_HasPrefix : compF Tryz.prog i_internal_stringslite_HasPrefix = some c_internal_stringslite_HasPrefix := by kernel_rfl
def k_gatepostlaw10_StoringKeeps_3 (L : FuncId → List V → V → Prop) (K : V → Heap → Prop) (v1 v10 : V) (h : Heap) : Prop :=
    (wi F L (.len 1 (.c v1)) E0 h fun v111 h =>
    (wi F L (.ixaSl 2 (.c v10) (.c v111)) E0 h fun v112 h =>
    (wi F L (.faddr 1 (.c v112)) E0 h fun v113 h =>
    (wi F L (.load false 1 (.c v113)) E0 h fun v114 h =>
    (wi F L (.bin .eql (.c v114) (.c (.str [97]))) E0 h fun v115 h =>
    (wg v115 true (wi F L (.mv (.c v10)) E0 h) h fun v117 h =>
    (wg v115 true (wi F L (.mv (.c v1)) E0 h) h fun v118 h =>
    (wg v115 true (wi F L (.len 1 (.c v118)) E0 h) h fun v119 h =>
    (wg v115 true (wi F L (.bin .add (.c v119) (.c (.int .i64 1))) E0 h) h fun v120 h =>
    (wg v115 true (wi F L (.ixaSl 2 (.c v117) (.c v120)) E0 h) h fun v121 h =>
    (wg v115 true (wi F L (.faddr 1 (.c v121)) E0 h) h fun v122 h =>
    (wg v115 true (wi F L (.load false 1 (.c v122)) E0 h) h fun v123 h =>
    (wg v115 true (wi F L (.bin .eql (.c v123) (.c (.str [34, 50, 34]))) E0 h) h fun v124 h =>
    (wi F L (.pick (.c v115) (.c v124) (.c (.bool false))) E0 h fun v125 h =>
    (wg v125 true (wi F L (.mv (.c v10)) E0 h) h fun v127 h =>
    (wg v125 true (wi F L (.mv (.c v1)) E0 h) h fun v128 h =>
    (wg v125 true (wi F L (.len 1 (.c v128)) E0 h) h fun v129 h =>
    (wg v125 true (wi F L (.bin .add (.c v129) (.c (.int .i64 2))) E0 h) h fun v130 h =>
    (wg v125 true (wi F L (.ixaSl 2 (.c v127) (.c v130)) E0 h) h fun v131 h =>
    (wg v125 true (wi F L (.faddr 1 (.c v131)) E0 h) h fun v132 h =>
    (wg v125 true (wi F L (.load false 1 (.c v132)) E0 h) h fun v133 h =>
    (wg v125 true (wi F L (.bin .eql (.c v133) (.c (.str [99]))) E0 h) h fun v134 h =>
    (wi F L (.pick (.c v125) (.c v134) (.c (.bool false))) E0 h fun v135 h =>
    (∃ v, some v135 = some v ∧ K v h))))))))))))))))))))))))
def k_gatepostlaw10_StoringKeeps_5 (L : FuncId → List V → V → Prop) (K : V → Heap → Prop) (N0 : Env → Heap → Prop) (e : Env) (v11 : V) (h : Heap) : Prop :=
    (wi F L (.bin .add (.c v11) (.c (.int .i64 1))) E0 h fun v84 h =>
    (N0 (upd (upd (upd e 83 v11) 84 v84) 11 v84) h))
def k_gatepostlaw10_StoringKeeps_6 (L : FuncId → List V → V → Prop) (K : V → Heap → Prop) (N0 : Env → Heap → Prop) (e : Env) (v1 v10 v11 : V) (h : Heap) : Prop :=
    (wi F L (.ixaSl 2 (.c v10) (.c v11)) E0 h fun v87 h' => Ext h h' ∧
    (wi F L (.faddr 0 (.c v87)) E0 h' fun v88 h => Ext h' h ∧
    (wi F L (.load false 1 (.c v88)) E0 h fun v89 h' => Ext h h' ∧
    (wi F L (.ixaSl 2 (.c v1) (.c v11)) E0 h' fun v92 h => Ext h' h ∧
    (wi F L (.faddr 0 (.c v92)) E0 h fun v93 h' => Ext h h' ∧
    (wi F L (.load false 1 (.c v93)) E0 h' fun v94 h => Ext h' h ∧
    (wi F L (.bin .neq (.c v89) (.c v94)) E0 h fun v95 h' => Ext h h' ∧
    (wgd v95 false (wi F L (.mv (.c v10)) E0 h') h' fun v97 h =>
    (wgd v95 false (wi F L (.mv (.c v11)) E0 h) h fun v98 h' =>
    (wgd v95 false (wi F L (.ixaSl 2 (.c v97) (.c v98)) E0 h') h' fun v99 h =>
    (wgd v95 false (wi F L (.faddr 1 (.c v99)) E0 h) h fun v100 h' =>
    (wgd v95 false (wi F L (.load false 1 (.c v100)) E0 h') h' fun v101 h =>
    (wgd v95 false (wi F L (.mv (.c v1)) E0 h) h fun v102 h' =>
    (wgd v95 false (wi F L (.mv (.c v11)) E0 h') h' fun v103 h =>
    (wgd v95 false (wi F L (.ixaSl 2 (.c v102) (.c v103)) E0 h) h fun v104 h' =>
    (wgd v95 false (wi F L (.faddr 1 (.c v104)) E0 h') h' fun v105 h =>
    (wgd v95 false (wi F L (.load false 1 (.c v105)) E0 h) h fun v106 h' =>
    (wg v95 false (wi F L (.bin .neq (.c v101) (.c v106)) E0 h') h' fun v107 h =>
    (wi F L (.pick (.c v95) (.c (.bool true)) (.c v107)) E0 h fun v108 h =>
    (wb v108
    (∃ v, some (.bool false) = some v ∧ K v h)
    (k_gatepostlaw10_StoringKeeps_5 L K N0 (upd (upd (upd (upd (upd (upd (upd (upd (upd (upd (upd (upd (upd (upd (upd (upd (upd (upd (upd (upd (upd (upd (upd (upd e 85 v10) 86 v11) 87 v87) 88 v88) 89 v89) 90 v1) 91 v11) 92 v92) 93 v93) 94 v94) 95 v95) 96 v95) 97 v97) 98 v98) 99 v99) 100 v100) 101 v101) 102 v102) 103 v103) 104 v104) 105 v105) 106 v106) 107 v107) 108 v108) v11 h)))))))))))))))))))))
def k_gatepostlaw10_StoringKeeps_4 (L : FuncId → List V → V → Prop) (K : V → Heap → Prop) (N0 : Env → Heap → Prop) (e : Env) (v1 v10 v11 : V) (h : Heap) : Prop :=
    (k_gatepostlaw10_StoringKeeps_6 L K N0 e v1 v10 v11 h)
def q_gatepostlaw10_StoringKeeps_0 (L : FuncId → List V → V → Prop) (K : V → Heap → Prop) : X → Env → Heap → Prop := (fun x => (seqX (fun e h => k_gatepostlaw10_StoringKeeps_3 L K (e 1) (e 10) h) (retX c_gatepostlaw10_StoringKeeps.results K)) (X.out 2 x))
def lc_gatepostlaw10_StoringKeeps_0 : C :=
  (.seq (.seq (.region [⟨(some 79), none, .mv (.t 11)⟩, ⟨(some 80), none, .mv (.t 1)⟩, ⟨(some 81), none, .len 1 (.t 80)⟩, ⟨(some 82), none, .bin .lss (.t 79) (.t 81)⟩])
  (.cond (.t 82)
    .skip
    (.exit 2)))
  (.seq (.block 3 (.seq (.dregion [⟨(some 85), none, .mv (.t 10)⟩, ⟨(some 86), none, .mv (.t 11)⟩, ⟨(some 87), none, .ixaSl 2 (.t 85) (.t 86)⟩, ⟨(some 88), none, .faddr 0 (.t 87)⟩, ⟨(some 89), none, .load false 1 (.t 88)⟩, ⟨(some 90), none, .mv (.t 1)⟩, ⟨(some 91), none, .mv (.t 11)⟩, ⟨(some 92), none, .ixaSl 2 (.t 90) (.t 91)⟩, ⟨(some 93), none, .faddr 0 (.t 92)⟩, ⟨(some 94), none, .load false 1 (.t 93)⟩, ⟨(some 95), none, .bin .neq (.t 89) (.t 94)⟩, ⟨(some 96), none, .mv (.t 95)⟩, ⟨(some 97), (some (96, false)), .mv (.t 10)⟩, ⟨(some 98), (some (96, false)), .mv (.t 11)⟩, ⟨(some 99), (some (96, false)), .ixaSl 2 (.t 97) (.t 98)⟩, ⟨(some 100), (some (96, false)), .faddr 1 (.t 99)⟩, ⟨(some 101), (some (96, false)), .load false 1 (.t 100)⟩, ⟨(some 102), (some (96, false)), .mv (.t 1)⟩, ⟨(some 103), (some (96, false)), .mv (.t 11)⟩, ⟨(some 104), (some (96, false)), .ixaSl 2 (.t 102) (.t 103)⟩, ⟨(some 105), (some (96, false)), .faddr 1 (.t 104)⟩, ⟨(some 106), (some (96, false)), .load false 1 (.t 105)⟩] [⟨(some 107), (some (96, false)), .bin .neq (.t 101) (.t 106)⟩, ⟨(some 108), none, .pick (.t 96) (.c (.bool true)) (.t 107)⟩])
  (.cond (.t 108)
    (.seq (.region [⟨(some 6), none, .mv (.c (.bool false))⟩])
    .ret)
    .skip)))
  (.region [⟨(some 83), none, .mv (.t 11)⟩, ⟨(some 84), none, .bin .add (.t 83) (.c (.int .i64 1))⟩, ⟨(some 11), none, .mv (.t 84)⟩])))
def b_gatepostlaw10_StoringKeeps_0 (L : FuncId → List V → V → Prop) (K : V → Heap → Prop) (N0 : Env → Heap → Prop) (e : Env) (h : Heap) : Prop :=
    (wi F L (.len 1 (.c (e 1))) E0 h fun v81 h =>
    (wi F L (.bin .lss (.c (e 11)) (.c v81)) E0 h fun v82 h =>
    (wb v82
    (k_gatepostlaw10_StoringKeeps_4 L K N0 (upd (upd (upd (upd e 79 (e 11)) 80 (e 1)) 81 v81) 82 v82) (e 1) (e 10) (e 11) h)
    (k_gatepostlaw10_StoringKeeps_3 L K (e 1) (e 10) h))))
theorem l_gatepostlaw10_StoringKeeps_0 {L : FuncId → List V → V → Prop} {K : V → Heap → Prop} (I : Nat → Env → Heap → Prop) (hr : ∀ n e h, I n e h → b_gatepostlaw10_StoringKeeps_0 L K (fun e' h' => ∃ m, m < n ∧ I m e' h') e h) {n : Nat} {e : Env} {h : Heap} (hi : I n e h) : Wl F L lc_gatepostlaw10_StoringKeeps_0 (q_gatepostlaw10_StoringKeeps_0 L K) e h :=
  wloopp (b := b_gatepostlaw10_StoringKeeps_0 L K) I (fun _ _ _ => by kernel_rfl) hr hi
def k_gatepostlaw10_StoringKeeps_2 (L : FuncId → List V → V → Prop) (K : V → Heap → Prop) (e : Env) (h : Heap) : Prop :=
    (Wl F L lc_gatepostlaw10_StoringKeeps_0 (q_gatepostlaw10_StoringKeeps_0 L K) (upd e 11 (.int .i64 0)) h)
def k_gatepostlaw10_StoringKeeps_7 (L : FuncId → List V → V → Prop) (K : V → Heap → Prop) (e : Env) (v1 v2 v3 v35 v37 v38 v39 v40 v41 v43 v45 v46 v47 v48 v49 v52 : V) (h : Heap) : Prop :=
    (wi F L (.ext 0 (.c v52)) E0 h fun v53 h =>
    (wi F L (.ext 1 (.c v52)) E0 h fun v54 h =>
    (wi F L (.boxz [(.int .i64 0), (.bool false), (.bool false), (.bool false), (.bool false), (.bool false), (.bool false), (.bool false), (.int .i64 0), (.int .i64 0), (.int .i64 0), (.int .i64 0), (.int .i64 0), (.int .i64 0), (.int .i64 0), (.int .i64 0), (.int .i64 0), (.int .i64 0), (.int .i64 0), (.int .i64 0), (.str [])]) E0 h fun v9 h =>
    (wi F L (.store 21 (.c v9) (.c v53)) E0 h fun _ h =>
    (wi F L (.faddr 0 (.c v9)) E0 h fun v55 h =>
    (wi F L (.load false 1 (.c v55)) E0 h fun v56 h =>
    (wi F L (.faddr 0 (.c v3)) E0 h fun v57 h =>
    (wi F L (.load false 1 (.c v57)) E0 h fun v58 h =>
    (wi F L (.bin .neq (.c v56) (.c v58)) E0 h fun v59 h =>
    (wg v59 false (wi F L (.faddr 20 (.c v9)) E0 h) h fun v61 h =>
    (wg v59 false (wi F L (.load false 1 (.c v61)) E0 h) h fun v62 h =>
    (wg v59 false (wi F L (.bin .neq (.c v62) (.c (.str [34, 50, 34]))) E0 h) h fun v63 h =>
    (wi F L (.pick (.c v59) (.c (.bool true)) (.c v63)) E0 h fun v64 h =>
    (wg v64 false (wi F L (.faddr 19 (.c v9)) E0 h) h fun v66 h =>
    (wg v64 false (wi F L (.load false 1 (.c v66)) E0 h) h fun v67 h =>
    (wg v64 false (wi F L (.mv (.c v2)) E0 h) h fun v68 h =>
    (wg v64 false (wi F L (.bin .neq (.c v67) (.c v68)) E0 h) h fun v69 h =>
    (wi F L (.pick (.c v64) (.c (.bool true)) (.c v69)) E0 h fun v70 h =>
    (wg v70 false (wi F L (.mv (.c v54)) E0 h) h fun v72 h =>
    (wg v70 false (wi F L (.len 1 (.c v72)) E0 h) h fun v73 h =>
    (wg v70 false (wi F L (.mv (.c v1)) E0 h) h fun v74 h =>
    (wg v70 false (wi F L (.len 1 (.c v74)) E0 h) h fun v75 h =>
    (wg v70 false (wi F L (.bin .add (.c v75) (.c (.int .i64 3))) E0 h) h fun v76 h =>
    (wg v70 false (wi F L (.bin .neq (.c v73) (.c v76)) E0 h) h fun v77 h =>
    (wi F L (.pick (.c v70) (.c (.bool true)) (.c v77)) E0 h fun v78 h =>
    (wb v78
    (∃ v, some (.bool false) = some v ∧ K v h)
    (k_gatepostlaw10_StoringKeeps_2 L K (upd (upd (upd (upd (upd (upd (upd (upd (upd (upd (upd (upd (upd (upd (upd (upd (upd (upd (upd (upd (upd (upd (upd (upd (upd (upd (upd (upd (upd (upd (upd (upd (upd (upd (upd (upd (upd (upd (upd (upd (upd (upd (upd (upd (upd (upd (upd e 35 v35) 36 v1) 37 v37) 38 v38) 39 v39) 40 v40) 41 v41) 8 v41) 43 v43) 44 v41) 45 v45) 46 v46) 47 v47) 48 v48) 49 v49) 50 v2) 51 v2) 52 v52) 42 v52) 53 v53) 54 v54) 9 v9) 10 v54) 55 v55) 56 v56) 57 v57) 58 v58) 59 v59) 60 v59) 61 v61) 62 v62) 63 v63) 64 v64) 65 v64) 66 v66) 67 v67) 68 v68) 69 v69) 70 v70) 71 v70) 72 v72) 73 v73) 74 v74) 75 v75) 76 v76) 77 v77) 78 v78)  h)))))))))))))))))))))))))))
def k_gatepostlaw10_StoringKeeps_1 (L : FuncId → List V → V → Prop) (K : V → Heap → Prop) (e : Env) (v1 v2 v3 : V) (h : Heap) : Prop :=
    (wi F L (.bsl 2 []) E0 h fun v35 h =>
    (wi F L (.app 2 32 false (.c v35) (.c v1)) E0 h fun v37 h =>
    (wi F L (.build [(.str []), (.str [])] [(0, 1, (.c (.str [67, 111, 110, 116, 101, 110, 116, 45, 84, 121, 112, 101]))), (1, 1, (.c (.str [97])))]) E0 h fun v38 h =>
    (wi F L (.build [(.str []), (.str [])] [(0, 1, (.c (.str [69, 84, 97, 103]))), (1, 1, (.c (.str [34, 49, 34])))]) E0 h fun v39 h =>
    (wi F L (.bsl 2 [(.c v38), (.c v39)]) E0 h fun v40 h =>
    (wi F L (.app 2 32 false (.c v37) (.c v40)) E0 h fun v41 h =>
    (wi F L (.load true 21 (.c v3)) E0 h fun v43 h =>
    (wi F L (.build [(.str []), (.str [])] [(0, 1, (.c (.str [101, 116, 97, 103]))), (1, 1, (.c (.str [34, 50, 34])))]) E0 h fun v45 h =>
    (wi F L (.build [(.str []), (.str [])] [(0, 1, (.c (.str [99, 111, 110, 116, 101, 110, 116, 45, 116, 121, 112, 101]))), (1, 1, (.c (.str [98])))]) E0 h fun v46 h =>
    (wi F L (.build [(.str []), (.str [])] [(0, 1, (.c (.str [90, 122]))), (1, 1, (.c (.str [99])))]) E0 h fun v47 h =>
    (wi F L (.bsl 2 [(.c v45), (.c v46), (.c v47)]) E0 h fun v48 h =>
    (wi F L (.build [(.int .i64 0), (.int .i64 0), (.str []), .nsl] [(1, 1, (.c (.int .i64 304))), (3, 1, (.c v48))]) E0 h fun v49 h =>
    (wi F L (.call i_storing_Refresh [(.c v43), (.c v41), (.c v49), (.c v2), (.c v2)]) E0 h fun v52 h =>
    (k_gatepostlaw10_StoringKeeps_7 L K e v1 v2 v3 v35 v37 v38 v39 v40 v41 v43 v45 v46 v47 v48 v49 v52 h))))))))))))))
def k_gatepostlaw10_StoringKeeps_9 (L : FuncId → List V → V → Prop) (K : V → Heap → Prop) (N0 : Env → Heap → Prop) (e : Env) (v7 : V) (h : Heap) : Prop :=
    (wi F L (.bin .add (.c v7) (.c (.int .i64 1))) E0 h fun v20 h =>
    (N0 (upd (upd (upd e 19 v7) 20 v20) 7 v20) h))
def k_gatepostlaw10_StoringKeeps_10 (L : FuncId → List V → V → Prop) (K : V → Heap → Prop) (N0 : Env → Heap → Prop) (e : Env) (v1 v7 v23 v24 v25 v26 : V) (h : Heap) : Prop :=
    (wg v26 false (wi F L (.mv (.c v1)) E0 h) h fun v28 h =>
    (wg v26 false (wi F L (.mv (.c v7)) E0 h) h fun v29 h =>
    (wg v26 false (wi F L (.ixaSl 2 (.c v28) (.c v29)) E0 h) h fun v30 h =>
    (wg v26 false (wi F L (.faddr 0 (.c v30)) E0 h) h fun v31 h =>
    (wg v26 false (wi F L (.load false 1 (.c v31)) E0 h) h fun v32 h =>
    (wg v26 false (wi F L (.call i_token_Same [(.c v32), (.c (.str [122, 122]))]) E0 h) h fun v33 h =>
    (wi F L (.pick (.c v26) (.c (.bool true)) (.c v33)) E0 h fun v34 h =>
    (wb v34
    (∃ v, some (.bool true) = some v ∧ K v h)
    (k_gatepostlaw10_StoringKeeps_9 L K N0 (upd (upd (upd (upd (upd (upd (upd (upd (upd (upd (upd (upd (upd (upd e 21 v1) 22 v7) 23 v23) 24 v24) 25 v25) 26 v26) 27 v26) 28 v28) 29 v29) 30 v30) 31 v31) 32 v32) 33 v33) 34 v34) v7 h)))))))))
def k_gatepostlaw10_StoringKeeps_8 (L : FuncId → List V → V → Prop) (K : V → Heap → Prop) (N0 : Env → Heap → Prop) (e : Env) (v1 v7 : V) (h : Heap) : Prop :=
    (wi F L (.ixaSl 2 (.c v1) (.c v7)) E0 h fun v23 h =>
    (wi F L (.faddr 0 (.c v23)) E0 h fun v24 h =>
    (wi F L (.load false 1 (.c v24)) E0 h fun v25 h =>
    (wi F L (.call i_token_Same [(.c v25), (.c (.str [101, 116, 97, 103]))]) E0 h fun v26 h =>
    (k_gatepostlaw10_StoringKeeps_10 L K N0 e v1 v7 v23 v24 v25 v26 h)))))
def q_gatepostlaw10_StoringKeeps_1 (L : FuncId → List V → V → Prop) (K : V → Heap → Prop) : X → Env → Heap → Prop := (fun x => (seqX (fun e h => k_gatepostlaw10_StoringKeeps_1 L K e (e 1) (e 2) (e 3) h) (retX c_gatepostlaw10_StoringKeeps.results K)) (X.out 0 x))
def lc_gatepostlaw10_StoringKeeps_1 : C :=
  (.seq (.seq (.region [⟨(some 15), none, .mv (.t 7)⟩, ⟨(some 16), none, .mv (.t 1)⟩, ⟨(some 17), none, .len 1 (.t 16)⟩, ⟨(some 18), none, .bin .lss (.t 15) (.t 17)⟩])
  (.cond (.t 18)
    .skip
    (.exit 0)))
  (.seq (.block 1 (.seq (.region [⟨(some 21), none, .mv (.t 1)⟩, ⟨(some 22), none, .mv (.t 7)⟩, ⟨(some 23), none, .ixaSl 2 (.t 21) (.t 22)⟩, ⟨(some 24), none, .faddr 0 (.t 23)⟩, ⟨(some 25), none, .load false 1 (.t 24)⟩, ⟨(some 26), none, .call i_token_Same [(.t 25), (.c (.str [101, 116, 97, 103]))]⟩, ⟨(some 27), none, .mv (.t 26)⟩, ⟨(some 28), (some (27, false)), .mv (.t 1)⟩, ⟨(some 29), (some (27, false)), .mv (.t 7)⟩, ⟨(some 30), (some (27, false)), .ixaSl 2 (.t 28) (.t 29)⟩, ⟨(some 31), (some (27, false)), .faddr 0 (.t 30)⟩, ⟨(some 32), (some (27, false)), .load false 1 (.t 31)⟩, ⟨(some 33), (some (27, false)), .call i_token_Same [(.t 32), (.c (.str [122, 122]))]⟩, ⟨(some 34), none, .pick (.t 27) (.c (.bool true)) (.t 33)⟩])
  (.cond (.t 34)
    (.seq (.region [⟨(some 6), none, .mv (.c (.bool true))⟩])
    .ret)
    .skip)))
  (.region [⟨(some 19), none, .mv (.t 7)⟩, ⟨(some 20), none, .bin .add (.t 19) (.c (.int .i64 1))⟩, ⟨(some 7), none, .mv (.t 20)⟩])))
def b_gatepostlaw10_StoringKeeps_1 (L : FuncId → List V → V → Prop) (K : V → Heap → Prop) (N0 : Env → Heap → Prop) (e : Env) (h : Heap) : Prop :=
    (wi F L (.len 1 (.c (e 1))) E0 h fun v17 h =>
    (wi F L (.bin .lss (.c (e 7)) (.c v17)) E0 h fun v18 h =>
    (wb v18
    (k_gatepostlaw10_StoringKeeps_8 L K N0 (upd (upd (upd (upd e 15 (e 7)) 16 (e 1)) 17 v17) 18 v18) (e 1) (e 7) h)
    (k_gatepostlaw10_StoringKeeps_1 L K (upd (upd (upd (upd e 15 (e 7)) 16 (e 1)) 17 v17) 18 v18) (e 1) (e 2) (e 3) h))))
theorem l_gatepostlaw10_StoringKeeps_1 {L : FuncId → List V → V → Prop} {K : V → Heap → Prop} (I : Nat → Env → Heap → Prop) (hr : ∀ n e h, I n e h → b_gatepostlaw10_StoringKeeps_1 L K (fun e' h' => ∃ m, m < n ∧ I m e' h') e h) {n : Nat} {e : Env} {h : Heap} (hi : I n e h) : Wl F L lc_gatepostlaw10_StoringKeeps_1 (q_gatepostlaw10_StoringKeeps_1 L K) e h :=
  wloopp (b := b_gatepostlaw10_StoringKeeps_1 L K) I (fun _ _ _ => by kernel_rfl) hr hi
def k_gatepostlaw10_StoringKeeps_0 (L : FuncId → List V → V → Prop) (K : V → Heap → Prop) (e : Env) (h : Heap) : Prop :=
    (Wl F L lc_gatepostlaw10_StoringKeeps_1 (q_gatepostlaw10_StoringKeeps_1 L K) (upd e 7 (.int .i64 0)) h)
def p_gatepostlaw10_StoringKeeps (L : FuncId → List V → V → Prop) (K : V → Heap → Prop) (a0 a1 a2 : V) (h : Heap) : Prop :=
    (wi F L (.box (.c a0)) E0 h fun v3 h =>
    (wi F L (.call i_gatepostlaw10_few [(.c a1)]) E0 h fun v13 h =>
    (wi F L (.un .not (.c v13)) E0 h fun v14 h =>
    (wb v14
    (∃ v, some (.bool true) = some v ∧ K v h)
    (k_gatepostlaw10_StoringKeeps_0 L K (upd (upd (upd (upd (upd (enterE [a0, a1, a2]) 3 v3) 6 (.bool false)) 12 a1) 13 v13) 14 v14)  h)))))
theorem run_gatepostlaw10_StoringKeeps {L : FuncId → List V → V → Prop} {K : V → Heap → Prop} {a0 a1 a2 : V} {h : Heap} (hp : p_gatepostlaw10_StoringKeeps L K a0 a1 a2 h) : Cf F L i_gatepostlaw10_StoringKeeps [a0, a1, a2] h K :=
  wcallp F_gatepostlaw10_StoringKeeps (show 3 ≤ 136 by decide) (p := p_gatepostlaw10_StoringKeeps L K a0 a1 a2 h) (by kernel_rfl) hp
def k_gatepostlaw10_few_0 (L : FuncId → List V → V → Prop) (K : V → Heap → Prop) (v3 : V) (h : Heap) : Prop :=
    (wi F L (.bin .lss (.c v3) (.c (.int .i64 3000))) E0 h fun v34 h =>
    (∃ v, some v34 = some v ∧ K v h))
def k_gatepostlaw10_few_2 (L : FuncId → List V → V → Prop) (K : V → Heap → Prop) (N0 : Env → Heap → Prop) (e : Env) (v4 : V) (h : Heap) : Prop :=
    (wi F L (.bin .add (.c v4) (.c (.int .i64 1))) E0 h fun v17 h =>
    (N0 (upd (upd (upd e 16 v4) 17 v17) 4 v17) h))
def k_gatepostlaw10_few_1 (L : FuncId → List V → V → Prop) (K : V → Heap → Prop) (N0 : Env → Heap → Prop) (e : Env) (v0 v3 v4 : V) (h : Heap) : Prop :=
    (wi F L (.ixaSl 2 (.c v0) (.c v4)) E0 h fun v21 h' => Ext h h' ∧
    (wi F L (.faddr 0 (.c v21)) E0 h' fun v22 h => Ext h' h ∧
    (wi F L (.load false 1 (.c v22)) E0 h fun v23 h' => Ext h h' ∧
    (wi F L (.len 0 (.c v23)) E0 h' fun v24 h => Ext h' h ∧
    (wi F L (.bin .add (.c v3) (.c v24)) E0 h fun v25 h' => Ext h h' ∧
    (wi F L (.ixaSl 2 (.c v0) (.c v4)) E0 h' fun v28 h => Ext h' h ∧
    (wi F L (.faddr 1 (.c v28)) E0 h fun v29 h' => Ext h h' ∧
    (wi F L (.load false 1 (.c v29)) E0 h' fun v30 h => Ext h' h ∧
    (wi F L (.len 0 (.c v30)) E0 h fun v31 h' => Ext h h' ∧
    (wi F L (.bin .add (.c v25) (.c v31)) E0 h' fun v32 h =>
    (k_gatepostlaw10_few_2 L K N0 (upd (upd (upd (upd (upd (upd (upd (upd (upd (upd (upd (upd (upd (upd (upd (upd e 18 v3) 19 v0) 20 v4) 21 v21) 22 v22) 23 v23) 24 v24) 25 v25) 26 v0) 27 v4) 28 v28) 29 v29) 30 v30) 31 v31) 32 v32) 3 v32) v4 h)))))))))))
def q_gatepostlaw10_few_0 (L : FuncId → List V → V → Prop) (K : V → Heap → Prop) : X → Env → Heap → Prop := (fun x => (seqX (fun e h => k_gatepostlaw10_few_0 L K (e 3) h) (retX c_gatepostlaw10_few.results K)) (X.out 0 x))
def lc_gatepostlaw10_few_0 : C :=
  (.seq (.seq (.region [⟨(some 8), none, .mv (.t 4)⟩, ⟨(some 9), none, .mv (.t 0)⟩, ⟨(some 10), none, .len 1 (.t 9)⟩, ⟨(some 11), none, .bin .lss (.t 8) (.t 10)⟩, ⟨(some 12), none, .mv (.t 11)⟩, ⟨(some 13), (some (12, true)), .mv (.t 3)⟩, ⟨(some 14), (some (12, true)), .bin .lss (.t 13) (.c (.int .i64 3000))⟩, ⟨(some 15), none, .pick (.t 12) (.t 14) (.c (.bool false))⟩])
  (.cond (.t 15)
    .skip
    (.exit 0)))
  (.seq (.block 1 (.dregion [⟨(some 18), none, .mv (.t 3)⟩, ⟨(some 19), none, .mv (.t 0)⟩, ⟨(some 20), none, .mv (.t 4)⟩, ⟨(some 21), none, .ixaSl 2 (.t 19) (.t 20)⟩, ⟨(some 22), none, .faddr 0 (.t 21)⟩, ⟨(some 23), none, .load false 1 (.t 22)⟩, ⟨(some 24), none, .len 0 (.t 23)⟩, ⟨(some 25), none, .bin .add (.t 18) (.t 24)⟩, ⟨(some 26), none, .mv (.t 0)⟩, ⟨(some 27), none, .mv (.t 4)⟩, ⟨(some 28), none, .ixaSl 2 (.t 26) (.t 27)⟩, ⟨(some 29), none, .faddr 1 (.t 28)⟩, ⟨(some 30), none, .load false 1 (.t 29)⟩, ⟨(some 31), none, .len 0 (.t 30)⟩] [⟨(some 32), none, .bin .add (.t 25) (.t 31)⟩, ⟨(some 3), none, .mv (.t 32)⟩]))
  (.region [⟨(some 16), none, .mv (.t 4)⟩, ⟨(some 17), none, .bin .add (.t 16) (.c (.int .i64 1))⟩, ⟨(some 4), none, .mv (.t 17)⟩])))
def b_gatepostlaw10_few_0 (L : FuncId → List V → V → Prop) (K : V → Heap → Prop) (N0 : Env → Heap → Prop) (e : Env) (h : Heap) : Prop :=
    (wi F L (.len 1 (.c (e 0))) E0 h fun v10 h =>
    (wi F L (.bin .lss (.c (e 4)) (.c v10)) E0 h fun v11 h =>
    (wg v11 true (wi F L (.mv (.c (e 3))) E0 h) h fun v13 h =>
    (wg v11 true (wi F L (.bin .lss (.c v13) (.c (.int .i64 3000))) E0 h) h fun v14 h =>
    (wi F L (.pick (.c v11) (.c v14) (.c (.bool false))) E0 h fun v15 h =>
    (wb v15
    (k_gatepostlaw10_few_1 L K N0 (upd (upd (upd (upd (upd (upd (upd (upd e 8 (e 4)) 9 (e 0)) 10 v10) 11 v11) 12 v11) 13 v13) 14 v14) 15 v15) (e 0) (e 3) (e 4) h)
    (k_gatepostlaw10_few_0 L K (e 3) h)))))))
theorem l_gatepostlaw10_few_0 {L : FuncId → List V → V → Prop} {K : V → Heap → Prop} (I : Nat → Env → Heap → Prop) (hr : ∀ n e h, I n e h → b_gatepostlaw10_few_0 L K (fun e' h' => ∃ m, m < n ∧ I m e' h') e h) {n : Nat} {e : Env} {h : Heap} (hi : I n e h) : Wl F L lc_gatepostlaw10_few_0 (q_gatepostlaw10_few_0 L K) e h :=
  wloopp (b := b_gatepostlaw10_few_0 L K) I (fun _ _ _ => by kernel_rfl) hr hi
def p_gatepostlaw10_few (L : FuncId → List V → V → Prop) (K : V → Heap → Prop) (a0 : V) (h : Heap) : Prop :=
    (wi F L (.len 1 (.c a0)) E0 h fun v6 h =>
    (wi F L (.bin .mul (.c (.int .i64 20)) (.c v6)) E0 h fun v7 h =>
    (Wl F L lc_gatepostlaw10_few_0 (q_gatepostlaw10_few_0 L K) (upd (upd (upd (upd (upd (upd (enterE [a0]) 2 (.bool false)) 5 a0) 6 v6) 7 v7) 3 v7) 4 (.int .i64 0)) h)))
theorem run_gatepostlaw10_few {L : FuncId → List V → V → Prop} {K : V → Heap → Prop} {a0 : V} {h : Heap} (hp : p_gatepostlaw10_few L K a0 h) : Cf F L i_gatepostlaw10_few [a0] h K :=
  wcallp F_gatepostlaw10_few (show 1 ≤ 35 by decide) (p := p_gatepostlaw10_few L K a0 h) (by kernel_rfl) hp
def p_token_Same (L : FuncId → List V → V → Prop) (K : V → Heap → Prop) (a0 a1 : V) (h : Heap) : Prop :=
    (wi F L (.len 0 (.c a0)) E0 h fun v6 h =>
    (wi F L (.len 0 (.c a1)) E0 h fun v8 h =>
    (wi F L (.bin .eql (.c v6) (.c v8)) E0 h fun v9 h =>
    (wg v9 true (wi F L (.mv (.c a0)) E0 h) h fun v11 h =>
    (wg v9 true (wi F L (.call i_token_Lower [(.c v11)]) E0 h) h fun v12 h =>
    (wg v9 true (wi F L (.mv (.c a1)) E0 h) h fun v13 h =>
    (wg v9 true (wi F L (.call i_token_Lower [(.c v13)]) E0 h) h fun v14 h =>
    (wg v9 true (wi F L (.bin .eql (.c v12) (.c v14)) E0 h) h fun v15 h =>
    (wi F L (.pick (.c v9) (.c v15) (.c (.bool false))) E0 h fun v16 h =>
    (∃ v, some v16 = some v ∧ K v h))))))))))
theorem run_token_Same {L : FuncId → List V → V → Prop} {K : V → Heap → Prop} {a0 a1 : V} {h : Heap} (hp : p_token_Same L K a0 a1 h) : Cf F L i_token_Same [a0, a1] h K :=
  wcallp F_token_Same (show 2 ≤ 17 by decide) (p := p_token_Same L K a0 a1 h) (by kernel_rfl) hp
def k_storing_Refresh_1 (L : FuncId → List V → V → Prop) (K : V → Heap → Prop) (v3 v4 v5 v10 v12 v15 : V) (h : Heap) : Prop :=
    (wi F L (.app 2 32 false (.c v15) (.c v12)) E0 h fun v47 h =>
    (wi F L (.faddr 0 (.c v5)) E0 h fun v48 h =>
    (wi F L (.load false 1 (.c v48)) E0 h fun v49 h =>
    (wi F L (.build [(.int .i64 0), (.int .i64 0), (.str []), .nsl] [(1, 1, (.c v49)), (3, 1, (.c v47))]) E0 h fun v51 h =>
    (wi F L (.call i_storing_Of [(.c v51), (.c v3), (.c v4)]) E0 h fun v54 h =>
    (wi F L (.store 21 (.c v10) (.c v54)) E0 h fun _ h =>
    (∃ v, resultsV h (enterE [v10, v47]) [.cell 0 true 21, .tmp 1] = some v ∧ K v h)))))))
def k_storing_Refresh_3 (L : FuncId → List V → V → Prop) (K : V → Heap → Prop) (N0 : Env → Heap → Prop) (e : Env) (v31 : V) (h : Heap) : Prop :=
    (wi F L (.bin .add (.c v31) (.c (.int .i64 1))) E0 h fun v44 h =>
    (N0 (upd (upd e 44 v44) 31 v44) h))
def k_storing_Refresh_4 (L : FuncId → List V → V → Prop) (K : V → Heap → Prop) (N0 : Env → Heap → Prop) (e : Env) (v12 v15 v17 v31 v33 v34 v36 v37 v38 : V) (h : Heap) : Prop :=
    (wi F L (.un .not (.c v38)) E0 h fun v39 h =>
    (wb v39
    (wi F L (.load true 2 (.c v17)) E0 h fun v41 h =>
    (wi F L (.bsl 2 [(.c v41)]) E0 h fun v42 h =>
    (wi F L (.app 2 32 false (.c v15) (.c v42)) E0 h fun v43 h =>
    (k_storing_Refresh_3 L K N0 (upd (upd (upd (upd (upd (upd (upd (upd (upd (upd (upd (upd (upd e 33 v33) 34 v34) 17 v17) 35 v12) 36 v36) 37 v37) 38 v38) 39 v39) 40 v15) 41 v41) 42 v42) 43 v43) 15 v43) v31 h))))
    (k_storing_Refresh_3 L K N0 (upd (upd (upd (upd (upd (upd (upd (upd e 33 v33) 34 v34) 17 v17) 35 v12) 36 v36) 37 v37) 38 v38) 39 v39) v31 h)))
def k_storing_Refresh_2 (L : FuncId → List V → V → Prop) (K : V → Heap → Prop) (N0 : Env → Heap → Prop) (e : Env) (v12 v15 v29 v31 : V) (h : Heap) : Prop :=
    (wi F L (.ixaSl 2 (.c v29) (.c v31)) E0 h fun v33 h =>
    (wi F L (.load true 2 (.c v33)) E0 h fun v34 h =>
    (wi F L (.boxz [(.str []), (.str [])]) E0 h fun v17 h =>
    (wi F L (.store 2 (.c v17) (.c v34)) E0 h fun _ h =>
    (wi F L (.faddr 0 (.c v17)) E0 h fun v36 h =>
    (wi F L (.load false 1 (.c v36)) E0 h fun v37 h =>
    (wi F L (.call i_storing_has [(.c v12), (.c v37)]) E0 h fun v38 h =>
    (k_storing_Refresh_4 L K N0 e v12 v15 v17 v31 v33 v34 v36 v37 v38 h))))))))
def q_storing_Refresh_0 (L : FuncId → List V → V → Prop) (K : V → Heap → Prop) : X → Env → Heap → Prop := (fun x => (seqX (fun e h => k_storing_Refresh_1 L K (e 3) (e 4) (e 5) (e 10) (e 12) (e 15) h) (retX c_storing_Refresh.results K)) (X.out 2 x))
def lc_storing_Refresh_0 : C :=
  (.seq (.region [⟨(some 32), none, .bin .lss (.t 31) (.t 30)⟩])
  (.seq (.cond (.t 32)
    .skip
    (.exit 2))
  (.seq (.block 3 (.seq (.region [⟨(some 33), none, .ixaSl 2 (.t 29) (.t 31)⟩, ⟨(some 34), none, .load true 2 (.t 33)⟩, ⟨(some 17), none, .boxz [(.str []), (.str [])]⟩, ⟨none, none, .store 2 (.t 17) (.t 34)⟩])
  (.seq (.region [⟨(some 35), none, .mv (.t 12)⟩, ⟨(some 36), none, .faddr 0 (.t 17)⟩, ⟨(some 37), none, .load false 1 (.t 36)⟩, ⟨(some 38), none, .call i_storing_has [(.t 35), (.t 37)]⟩, ⟨(some 39), none, .un .not (.t 38)⟩])
  (.cond (.t 39)
    (.region [⟨(some 40), none, .mv (.t 15)⟩, ⟨(some 41), none, .load true 2 (.t 17)⟩, ⟨(some 42), none, .bsl 2 [(.t 41)]⟩, ⟨(some 43), none, .app 2 32 false (.t 40) (.t 42)⟩, ⟨(some 15), none, .mv (.t 43)⟩])
    .skip))))
  (.region [⟨(some 44), none, .bin .add (.t 31) (.c (.int .i64 1))⟩, ⟨(some 31), none, .mv (.t 44)⟩]))))
def b_storing_Refresh_0 (L : FuncId → List V → V → Prop) (K : V → Heap → Prop) (N0 : Env → Heap → Prop) (e : Env) (h : Heap) : Prop :=
    (wi F L (.bin .lss (.c (e 31)) (.c (e 30))) E0 h fun v32 h =>
    (wb v32
    (k_storing_Refresh_2 L K N0 (upd e 32 v32) (e 12) (e 15) (e 29) (e 31) h)
    (k_storing_Refresh_1 L K (e 3) (e 4) (e 5) (e 10) (e 12) (e 15) h)))
theorem l_storing_Refresh_0 {L : FuncId → List V → V → Prop} {K : V → Heap → Prop} (I : Nat → Env → Heap → Prop) (hr : ∀ n e h, I n e h → b_storing_Refresh_0 L K (fun e' h' => ∃ m, m < n ∧ I m e' h') e h) {n : Nat} {e : Env} {h : Heap} (hi : I n e h) : Wl F L lc_storing_Refresh_0 (q_storing_Refresh_0 L K) e h :=
  wloopp (b := b_storing_Refresh_0 L K) I (fun _ _ _ => by kernel_rfl) hr hi
def k_storing_Refresh_0 (L : FuncId → List V → V → Prop) (K : V → Heap → Prop) (e : Env) (v1 : V) (h : Heap) : Prop :=
    (wi F L (.len 1 (.c v1)) E0 h fun v30 h =>
    (Wl F L lc_storing_Refresh_0 (q_storing_Refresh_0 L K) (upd (upd (upd (upd e 15 .nsl) 29 v1) 30 v30) 31 (.int .i64 0)) h))
def k_storing_Refresh_6 (L : FuncId → List V → V → Prop) (K : V → Heap → Prop) (N0 : Env → Heap → Prop) (e : Env) (v22 : V) (h : Heap) : Prop :=
    (wi F L (.bin .add (.c v22) (.c (.int .i64 1))) E0 h fun v28 h =>
    (N0 (upd (upd e 28 v28) 22 v28) h))
def k_storing_Refresh_5 (L : FuncId → List V → V → Prop) (K : V → Heap → Prop) (N0 : Env → Heap → Prop) (e : Env) (v12 v21 v22 : V) (h : Heap) : Prop :=
    (wi F L (.ixArr 5 1 false (.c v21) (.c v22)) E0 h fun v24 h =>
    (wi F L (.call i_field_Del [(.c v12), (.c v24)]) E0 h fun v27 h =>
    (k_storing_Refresh_6 L K N0 (upd (upd (upd (upd (upd (upd e 24 v24) 14 v24) 25 v12) 26 v24) 27 v27) 12 v27) v22 h)))
def q_storing_Refresh_1 (L : FuncId → List V → V → Prop) (K : V → Heap → Prop) : X → Env → Heap → Prop := (fun x => (seqX (fun e h => k_storing_Refresh_0 L K e (e 1) h) (retX c_storing_Refresh.results K)) (X.out 0 x))
def lc_storing_Refresh_1 : C :=
  (.seq (.region [⟨(some 23), none, .bin .lss (.t 22) (.c (.int .i64 5))⟩])
  (.seq (.cond (.t 23)
    .skip
    (.exit 0))
  (.seq (.block 1 (.seq (.region [⟨(some 24), none, .ixArr 5 1 false (.t 21) (.t 22)⟩, ⟨(some 14), none, .mv (.t 24)⟩])
  (.region [⟨(some 25), none, .mv (.t 12)⟩, ⟨(some 26), none, .mv (.t 14)⟩, ⟨(some 27), none, .call i_field_Del [(.t 25), (.t 26)]⟩, ⟨(some 12), none, .mv (.t 27)⟩])))
  (.region [⟨(some 28), none, .bin .add (.t 22) (.c (.int .i64 1))⟩, ⟨(some 22), none, .mv (.t 28)⟩]))))
def b_storing_Refresh_1 (L : FuncId → List V → V → Prop) (K : V → Heap → Prop) (N0 : Env → Heap → Prop) (e : Env) (h : Heap) : Prop :=
    (wi F L (.bin .lss (.c (e 22)) (.c (.int .i64 5))) E0 h fun v23 h =>
    (wb v23
    (k_storing_Refresh_5 L K N0 (upd e 23 v23) (e 12) (e 21) (e 22) h)
    (k_storing_Refresh_0 L K (upd e 23 v23) (e 1) h)))
theorem l_storing_Refresh_1 {L : FuncId → List V → V → Prop} {K : V → Heap → Prop} (I : Nat → Env → Heap → Prop) (hr : ∀ n e h, I n e h → b_storing_Refresh_1 L K (fun e' h' => ∃ m, m < n ∧ I m e' h') e h) {n : Nat} {e : Env} {h : Heap} (hi : I n e h) : Wl F L lc_storing_Refresh_1 (q_storing_Refresh_1 L K) e h :=
  wloopp (b := b_storing_Refresh_1 L K) I (fun _ _ _ => by kernel_rfl) hr hi
def p_storing_Refresh (L : FuncId → List V → V → Prop) (K : V → Heap → Prop) (a0 a1 a2 a3 a4 : V) (h : Heap) : Prop :=
    (wi F L (.box (.c a0)) E0 h fun v5 h =>
    (wi F L (.box (.c a2)) E0 h fun v7 h =>
    (wi F L (.boxz [(.int .i64 0), (.bool false), (.bool false), (.bool false), (.bool false), (.bool false), (.bool false), (.bool false), (.int .i64 0), (.int .i64 0), (.int .i64 0), (.int .i64 0), (.int .i64 0), (.int .i64 0), (.int .i64 0), (.int .i64 0), (.int .i64 0), (.int .i64 0), (.int .i64 0), (.int .i64 0), (.str [])]) E0 h fun v10 h =>
    (wi F L (.faddr 3 (.c v7)) E0 h fun v18 h =>
    (wi F L (.load false 1 (.c v18)) E0 h fun v19 h =>
    (wi F L (.call i_field_Strip [(.c v19)]) E0 h fun v20 h =>
    (wi F L (.call i_storing_stays []) E0 h fun v21 h =>
    (Wl F L lc_storing_Refresh_1 (q_storing_Refresh_1 L K) (upd (upd (upd (upd (upd (upd (upd (upd (upd (upd (enterE [a0, a1, a2, a3, a4]) 5 v5) 7 v7) 10 v10) 11 .nsl) 18 v18) 19 v19) 20 v20) 12 v20) 21 v21) 22 (.int .i64 0)) h))))))))
theorem run_storing_Refresh {L : FuncId → List V → V → Prop} {K : V → Heap → Prop} {a0 a1 a2 a3 a4 : V} {h : Heap} (hp : p_storing_Refresh L K a0 a1 a2 a3 a4 h) : Cf F L i_storing_Refresh [a0, a1, a2, a3, a4] h K :=
  wcallp F_storing_Refresh (show 5 ≤ 56 by decide) (p := p_storing_Refresh L K a0 a1 a2 a3 a4 h) (by kernel_rfl) hp
def k_storing_Of_1 (L : FuncId → List V → V → Prop) (K : V → Heap → Prop) (v3 v6 v7 : V) (h : Heap) : Prop :=
    (wi F L (.faddr 3 (.c v3)) E0 h fun v66 h =>
    (wi F L (.load false 1 (.c v66)) E0 h fun v67 h =>
    (wi F L (.call i_field_Get [(.c v67), (.c (.str [69, 84, 97, 103]))]) E0 h fun v68 h =>
    (wi F L (.ext 0 (.c v68)) E0 h fun v69 h =>
    (wi F L (.ext 1 (.c v68)) E0 h fun v70 h =>
    (wi F L (.faddr 20 (.c v7)) E0 h fun v71 h =>
    (wi F L (.store 1 (.c v71) (.c v69)) E0 h fun _ h =>
    (wi F L (.load true 21 (.c v7)) E0 h fun v72 h =>
    (wi F L (.store 21 (.c v6) (.c v72)) E0 h fun _ h =>
    (∃ v, resultsV h (enterE [v6]) [.cell 0 true 21] = some v ∧ K v h))))))))))
def k_storing_Of_2 (L : FuncId → List V → V → Prop) (K : V → Heap → Prop) (v3 v6 v7 v49 : V) (h : Heap) : Prop :=
    (wi F L (.ext 0 (.c v49)) E0 h fun v50 h =>
    (wi F L (.ext 1 (.c v49)) E0 h fun v51 h =>
    (wi F L (.len 1 (.c v50)) E0 h fun v53 h =>
    (wi F L (.bin .gtr (.c v53) (.c (.int .i64 0))) E0 h fun v54 h =>
    (wb v54
    (wi F L (.ixaSl 1 (.c v50) (.c (.int .i64 0))) E0 h fun v57 h =>
    (wi F L (.load false 1 (.c v57)) E0 h fun v58 h =>
    (wi F L (.call i_token_Number [(.c v58), (.c (.int .i64 2147483648))]) E0 h fun v59 h =>
    (wi F L (.ext 0 (.c v59)) E0 h fun v60 h =>
    (wi F L (.ext 1 (.c v59)) E0 h fun v61 h =>
    (wb v61
    (wi F L (.faddr 17 (.c v7)) E0 h fun v64 h =>
    (wi F L (.store 1 (.c v64) (.c v60)) E0 h fun _ h =>
    (k_storing_Of_1 L K v3 v6 v7 h)))
    (k_storing_Of_1 L K v3 v6 v7 h)))))))
    (k_storing_Of_1 L K v3 v6 v7 h))))))
def k_storing_Of_0 (L : FuncId → List V → V → Prop) (K : V → Heap → Prop) (v3 v6 v7 : V) (h : Heap) : Prop :=
    (wi F L (.faddr 3 (.c v3)) E0 h fun v42 h =>
    (wi F L (.load false 1 (.c v42)) E0 h fun v43 h =>
    (wi F L (.call i_field_Get [(.c v43), (.c (.str [65, 103, 101]))]) E0 h fun v44 h =>
    (wi F L (.ext 0 (.c v44)) E0 h fun v45 h =>
    (wi F L (.ext 1 (.c v44)) E0 h fun v46 h =>
    (wi F L (.call i_token_Split [(.c v45)]) E0 h fun v49 h =>
    (k_storing_Of_2 L K v3 v6 v7 v49 h)))))))
def k_storing_Of_3 (L : FuncId → List V → V → Prop) (K : V → Heap → Prop) (v3 v6 v7 v24 v33 : V) (h : Heap) : Prop :=
    (wi F L (.boxz [(.int .i64 0), (.bool false), (.bool false)]) E0 h fun v9 h =>
    (wi F L (.store 3 (.c v9) (.c v33)) E0 h fun _ h =>
    (wi F L (.load true 3 (.c v9)) E0 h fun v34 h =>
    (wi F L (.build [(.int .i64 0), (.bool false), (.bool false)] []) E0 h fun v35 h =>
    (wi F L (.eq (.agg [.i, .b, .b]) true (.c v34) (.c v35)) E0 h fun v36 h =>
    (wb v36
    (wi F L (.callv (.c v24) [(.c (.str [69, 120, 112, 105, 114, 101, 115]))]) E0 h fun v38 h =>
    (wi F L (.mx [(.c (.int .i64 0)), (.c v38)]) E0 h fun v39 h =>
    (wi F L (.faddr 15 (.c v7)) E0 h fun v40 h =>
    (wi F L (.store 1 (.c v40) (.c v39)) E0 h fun _ h =>
    (k_storing_Of_0 L K v3 v6 v7 h)))))
    (k_storing_Of_0 L K v3 v6 v7 h)))))))
def k_storing_Of_4 (L : FuncId → List V → V → Prop) (K : V → Heap → Prop) (v3 v6 v7 v24 v26 v28 : V) (h : Heap) : Prop :=
    (wi F L (.faddr 14 (.c v7)) E0 h fun v29 h =>
    (wi F L (.store 1 (.c v29) (.c v26)) E0 h fun _ h =>
    (wi F L (.faddr 16 (.c v7)) E0 h fun v30 h =>
    (wi F L (.store 1 (.c v30) (.c v28)) E0 h fun _ h =>
    (wi F L (.faddr 3 (.c v3)) E0 h fun v31 h =>
    (wi F L (.load false 1 (.c v31)) E0 h fun v32 h =>
    (wi F L (.call i_storing_dated [(.c v32), (.c (.str [69, 120, 112, 105, 114, 101, 115]))]) E0 h fun v33 h =>
    (k_storing_Of_3 L K v3 v6 v7 v24 v33 h))))))))
def k_storing_Of_5 (L : FuncId → List V → V → Prop) (K : V → Heap → Prop) (a1 a2 v3 v6 v17 v20 : V) (h' : Heap) : Prop :=
    (wi F L (.build [(.int .i64 0), (.bool false), (.bool false), (.bool false), (.bool false), (.bool false), (.bool false), (.bool false), (.int .i64 0), (.int .i64 0), (.int .i64 0), (.int .i64 0), (.int .i64 0), (.int .i64 0), (.int .i64 0), (.int .i64 0), (.int .i64 0), (.int .i64 0), (.int .i64 0), (.int .i64 0), (.str [])] [(0, 1, (.c v17)), (1, 13, (.c v20)), (15, 1, (.c (.int .i64 (-1)))), (17, 1, (.c (.int .i64 (-1)))), (18, 1, (.c a1)), (19, 1, (.c a2))]) E0 h' fun v23 h => Ext h' h ∧
    (wi F L (.boxz [(.int .i64 0), (.bool false), (.bool false), (.bool false), (.bool false), (.bool false), (.bool false), (.bool false), (.int .i64 0), (.int .i64 0), (.int .i64 0), (.int .i64 0), (.int .i64 0), (.int .i64 0), (.int .i64 0), (.int .i64 0), (.int .i64 0), (.int .i64 0), (.int .i64 0), (.int .i64 0), (.str [])]) E0 h fun v7 h' => Ext h h' ∧
    (wi F L (.store 21 (.c v7) (.c v23)) E0 h' fun _ h =>
    (wi F L (.mkfn i_storing_Of_1 [(.c v3)]) E0 h fun v24 h =>
    (wi F L (.callv (.c v24) [(.c (.str [68, 97, 116, 101]))]) E0 h fun v26 h =>
    (wi F L (.callv (.c v24) [(.c (.str [76, 97, 115, 116, 45, 77, 111, 100, 105, 102, 105, 101, 100]))]) E0 h fun v28 h =>
    (k_storing_Of_4 L K v3 v6 v7 v24 v26 v28 h)))))))
def p_storing_Of (L : FuncId → List V → V → Prop) (K : V → Heap → Prop) (a0 a1 a2 : V) (h : Heap) : Prop :=
    (wi F L (.box (.c a0)) E0 h fun v3 h =>
    (wi F L (.boxz [(.int .i64 0), (.bool false), (.bool false), (.bool false), (.bool false), (.bool false), (.bool false), (.bool false), (.int .i64 0), (.int .i64 0), (.int .i64 0), (.int .i64 0), (.int .i64 0), (.int .i64 0), (.int .i64 0), (.int .i64 0), (.int .i64 0), (.int .i64 0), (.int .i64 0), (.int .i64 0), (.str [])]) E0 h fun v6 h =>
    (wi F L (.faddr 1 (.c v3)) E0 h fun v16 h' => Ext h h' ∧
    (wi F L (.load false 1 (.c v16)) E0 h' fun v17 h => Ext h' h ∧
    (wi F L (.faddr 3 (.c v3)) E0 h fun v18 h' => Ext h h' ∧
    (wi F L (.load false 1 (.c v18)) E0 h' fun v19 h => Ext h' h ∧
    (wi F L (.call i_control_Of [(.c v19)]) E0 h fun v20 h' => Ext h h' ∧
    (k_storing_Of_5 L K a1 a2 v3 v6 v17 v20 h'))))))))
theorem run_storing_Of {L : FuncId → List V → V → Prop} {K : V → Heap → Prop} {a0 a1 a2 : V} {h : Heap} (hp : p_storing_Of L K a0 a1 a2 h) : Cf F L i_storing_Of [a0, a1, a2] h K :=
  wcallp F_storing_Of (show 3 ≤ 73 by decide) (p := p_storing_Of L K a0 a1 a2 h) (by kernel_rfl) hp
def k_token_Lower_0 (L : FuncId → List V → V → Prop) (K : V → Heap → Prop) (v3 : V) (h : Heap) : Prop :=
    (wi F L (.toStr (.c v3)) E0 h fun v28 h =>
    (∃ v, some v28 = some v ∧ K v h))
def k_token_Lower_2 (L : FuncId → List V → V → Prop) (K : V → Heap → Prop) (N0 : Env → Heap → Prop) (e : Env) (v10 : V) (h : Heap) : Prop :=
    (wi F L (.bin .add (.c v10) (.c (.int .i64 1))) E0 h fun v26 h =>
    (N0 (upd (upd e 26 v26) 10 v26) h))
def k_token_Lower_1 (L : FuncId → List V → V → Prop) (K : V → Heap → Prop) (N0 : Env → Heap → Prop) (e : Env) (v3 v8 v10 : V) (h : Heap) : Prop :=
    (wi F L (.ixaSl 1 (.c v8) (.c v10)) E0 h fun v13 h =>
    (wi F L (.load false 1 (.c v13)) E0 h fun v14 h =>
    (wi F L (.bin .geq (.c v14) (.c (.int .u8 65))) E0 h fun v16 h =>
    (wg v16 true (wi F L (.mv (.c v14)) E0 h) h fun v18 h =>
    (wg v16 true (wi F L (.bin .leq (.c v18) (.c (.int .u8 90))) E0 h) h fun v19 h =>
    (wi F L (.pick (.c v16) (.c v19) (.c (.bool false))) E0 h fun v20 h =>
    (wb v20
    (wi F L (.bin .or (.c v14) (.c (.int .u8 32))) E0 h fun v24 h =>
    (wi F L (.ixaSl 1 (.c v3) (.c v10)) E0 h fun v25 h =>
    (wi F L (.store 1 (.c v25) (.c v24)) E0 h fun _ h =>
    (k_token_Lower_2 L K N0 (upd (upd (upd (upd (upd (upd (upd (upd (upd (upd (upd (upd (upd (upd (upd (upd e 12 v10) 13 v13) 14 v14) 4 v10) 5 v14) 15 v14) 16 v16) 17 v16) 18 v18) 19 v19) 20 v20) 21 v3) 22 v10) 23 v14) 24 v24) 25 v25) v10 h))))
    (k_token_Lower_2 L K N0 (upd (upd (upd (upd (upd (upd (upd (upd (upd (upd (upd e 12 v10) 13 v13) 14 v14) 4 v10) 5 v14) 15 v14) 16 v16) 17 v16) 18 v18) 19 v19) 20 v20) v10 h))))))))
def q_token_Lower_0 (L : FuncId → List V → V → Prop) (K : V → Heap → Prop) : X → Env → Heap → Prop := (fun x => (seqX (fun e h => k_token_Lower_0 L K (e 3) h) (retX c_token_Lower.results K)) (X.out 0 x))
def lc_token_Lower_0 : C :=
  (.seq (.region [⟨(some 11), none, .bin .lss (.t 10) (.t 9)⟩])
  (.seq (.cond (.t 11)
    .skip
    (.exit 0))
  (.seq (.block 1 (.seq (.region [⟨(some 12), none, .mv (.t 10)⟩, ⟨(some 13), none, .ixaSl 1 (.t 8) (.t 10)⟩, ⟨(some 14), none, .load false 1 (.t 13)⟩, ⟨(some 4), none, .mv (.t 12)⟩, ⟨(some 5), none, .mv (.t 14)⟩])
  (.seq (.region [⟨(some 15), none, .mv (.t 5)⟩, ⟨(some 16), none, .bin .geq (.t 15) (.c (.int .u8 65))⟩, ⟨(some 17), none, .mv (.t 16)⟩, ⟨(some 18), (some (17, true)), .mv (.t 5)⟩, ⟨(some 19), (some (17, true)), .bin .leq (.t 18) (.c (.int .u8 90))⟩, ⟨(some 20), none, .pick (.t 17) (.t 19) (.c (.bool false))⟩])
  (.cond (.t 20)
    (.region [⟨(some 21), none, .mv (.t 3)⟩, ⟨(some 22), none, .mv (.t 4)⟩, ⟨(some 23), none, .mv (.t 5)⟩, ⟨(some 24), none, .bin .or (.t 23) (.c (.int .u8 32))⟩, ⟨(some 25), none, .ixaSl 1 (.t 21) (.t 22)⟩, ⟨none, none, .store 1 (.t 25) (.t 24)⟩])
    .skip))))
  (.region [⟨(some 26), none, .bin .add (.t 10) (.c (.int .i64 1))⟩, ⟨(some 10), none, .mv (.t 26)⟩]))))
def b_token_Lower_0 (L : FuncId → List V → V → Prop) (K : V → Heap → Prop) (N0 : Env → Heap → Prop) (e : Env) (h : Heap) : Prop :=
    (wi F L (.bin .lss (.c (e 10)) (.c (e 9))) E0 h fun v11 h =>
    (wb v11
    (k_token_Lower_1 L K N0 (upd e 11 v11) (e 3) (e 8) (e 10) h)
    (k_token_Lower_0 L K (e 3) h)))
theorem l_token_Lower_0 {L : FuncId → List V → V → Prop} {K : V → Heap → Prop} (I : Nat → Env → Heap → Prop) (hr : ∀ n e h, I n e h → b_token_Lower_0 L K (fun e' h' => ∃ m, m < n ∧ I m e' h') e h) {n : Nat} {e : Env} {h : Heap} (hi : I n e h) : Wl F L lc_token_Lower_0 (q_token_Lower_0 L K) e h :=
  wloopp (b := b_token_Lower_0 L K) I (fun _ _ _ => by kernel_rfl) hr hi
def p_token_Lower (L : FuncId → List V → V → Prop) (K : V → Heap → Prop) (a0 : V) (h : Heap) : Prop :=
    (wi F L (.toBytes (.c a0)) E0 h fun v7 h =>
    (wi F L (.len 1 (.c v7)) E0 h fun v9 h =>
    (Wl F L lc_token_Lower_0 (q_token_Lower_0 L K) (upd (upd (upd (upd (upd (upd (upd (enterE [a0]) 2 (.str [])) 6 a0) 7 v7) 3 v7) 8 v7) 9 v9) 10 (.int .i64 0)) h)))
theorem run_token_Lower {L : FuncId → List V → V → Prop} {K : V → Heap → Prop} {a0 : V} {h : Heap} (hp : p_token_Lower L K a0 h) : Cf F L i_token_Lower [a0] h K :=
  wcallp F_token_Lower (show 1 ≤ 29 by decide) (p := p_token_Lower L K a0 h) (by kernel_rfl) hp
def p_field_Strip (L : FuncId → List V → V → Prop) (K : V → Heap → Prop) (a0 : V) (h : Heap) : Prop :=
    (wi F L (.call i_field_Names [(.c a0), (.c (.str [67, 111, 110, 110, 101, 99, 116, 105, 111, 110]))]) E0 h fun v7 h =>
    (wi F L (.ext 0 (.c v7)) E0 h fun v8 h =>
    (wi F L (.ext 1 (.c v7)) E0 h fun v9 h =>
    (wi F L (.bsl 1 [(.c (.str [67, 111, 110, 110, 101, 99, 116, 105, 111, 110])), (.c (.str [75, 101, 101, 112, 45, 65, 108, 105, 118, 101])), (.c (.str [80, 114, 111, 120, 121, 45, 67, 111, 110, 110, 101, 99, 116, 105, 111, 110])), (.c (.str [84, 69])), (.c (.str [84, 114, 97, 105, 108, 101, 114])), (.c (.str [84, 114, 97, 110, 115, 102, 101, 114, 45, 69, 110, 99, 111, 100, 105, 110, 103])), (.c (.str [85, 112, 103, 114, 97, 100, 101]))]) E0 h fun v11 h =>
    (wi F L (.app 1 16 false (.c v8) (.c v11)) E0 h fun v12 h =>
    (wi F L (.call i_field_without [(.c a0), (.c v12)]) E0 h fun v15 h =>
    (∃ v, some v15 = some v ∧ K v h)))))))
theorem run_field_Strip {L : FuncId → List V → V → Prop} {K : V → Heap → Prop} {a0 : V} {h : Heap} (hp : p_field_Strip L K a0 h) : Cf F L i_field_Strip [a0] h K :=
  wcallp F_field_Strip (show 1 ≤ 16 by decide) (p := p_field_Strip L K a0 h) (by kernel_rfl) hp
def p_storing_stays (L : FuncId → List V → V → Prop) (K : V → Heap → Prop) (h : Heap) : Prop :=
    (wi F L (.boxz [(.str []), (.str []), (.str []), (.str []), (.str [])]) E0 h fun v0 h =>
    (wi F L (.build [(.str []), (.str []), (.str []), (.str []), (.str [])] [(0, 1, (.c (.str [67, 111, 110, 116, 101, 110, 116, 45, 76, 101, 110, 103, 116, 104]))), (1, 1, (.c (.str [67, 111, 110, 116, 101, 110, 116, 45, 69, 110, 99, 111, 100, 105, 110, 103]))), (2, 1, (.c (.str [67, 111, 110, 116, 101, 110, 116, 45, 82, 97, 110, 103, 101]))), (3, 1, (.c (.str [67, 111, 110, 116, 101, 110, 116, 45, 84, 121, 112, 101]))), (4, 1, (.c (.str [84, 114, 97, 110, 115, 102, 101, 114, 45, 69, 110, 99, 111, 100, 105, 110, 103])))]) E0 h fun v1 h =>
    (wi F L (.store 5 (.c v0) (.c v1)) E0 h fun _ h =>
    (∃ v, resultsV h (enterE [v0]) [.cell 0 true 5] = some v ∧ K v h))))
theorem run_storing_stays {L : FuncId → List V → V → Prop} {K : V → Heap → Prop} {h : Heap} (hp : p_storing_stays L K  h) : Cf F L i_storing_stays [] h K :=
  wcallp F_storing_stays (show 0 ≤ 2 by decide) (p := p_storing_stays L K  h) (by kernel_rfl) hp
def p_field_Del (L : FuncId → List V → V → Prop) (K : V → Heap → Prop) (a0 a1 : V) (h : Heap) : Prop :=
    (wi F L (.bsl 1 [(.c a1)]) E0 h fun v7 h =>
    (wi F L (.call i_field_without [(.c a0), (.c v7)]) E0 h fun v8 h =>
    (∃ v, some v8 = some v ∧ K v h)))
theorem run_field_Del {L : FuncId → List V → V → Prop} {K : V → Heap → Prop} {a0 a1 : V} {h : Heap} (hp : p_field_Del L K a0 a1 h) : Cf F L i_field_Del [a0, a1] h K :=
  wcallp F_field_Del (show 2 ≤ 9 by decide) (p := p_field_Del L K a0 a1 h) (by kernel_rfl) hp
def p_storing_has (L : FuncId → List V → V → Prop) (K : V → Heap → Prop) (a0 a1 : V) (h : Heap) : Prop :=
    (wi F L (.box (.c a1)) E0 h fun v3 h =>
    (wi F L (.mkfn i_storing_has_1 [(.c v3)]) E0 h fun v6 h =>
    (wi F L (.call i_slices_ContainsFunc___gatepost_api_Field_gatepost_api_Field_ [(.c a0), (.c v6)]) E0 h fun v7 h =>
    (∃ v, some v7 = some v ∧ K v h))))
theorem run_storing_has {L : FuncId → List V → V → Prop} {K : V → Heap → Prop} {a0 a1 : V} {h : Heap} (hp : p_storing_has L K a0 a1 h) : Cf F L i_storing_has [a0, a1] h K :=
  wcallp F_storing_has (show 2 ≤ 8 by decide) (p := p_storing_has L K a0 a1 h) (by kernel_rfl) hp
def k_control_Of_1 (L : FuncId → List V → V → Prop) (K : V → Heap → Prop) (v2 v7 v34 : V) (h : Heap) : Prop :=
    (wi F L (.ext 0 (.c v34)) E0 h fun v35 h =>
    (wi F L (.ext 1 (.c v34)) E0 h fun v36 h =>
    (wg v36 true (wi F L (.mv (.c v35)) E0 h) h fun v39 h =>
    (wg v36 true (wi F L (.call i_slices_Contains___string_string_ [(.c v39), (.c (.str [110, 111, 45, 99, 97, 99, 104, 101]))]) E0 h) h fun v40 h =>
    (wi F L (.pick (.c v36) (.c v40) (.c (.bool false))) E0 h fun v41 h =>
    (wi F L (.faddr 1 (.c v7)) E0 h fun v42 h =>
    (wi F L (.store 1 (.c v42) (.c v41)) E0 h fun _ h =>
    (wi F L (.load true 13 (.c v7)) E0 h fun v43 h =>
    (wi F L (.store 13 (.c v2) (.c v43)) E0 h fun _ h =>
    (∃ v, resultsV h (enterE [v2]) [.cell 0 true 13] = some v ∧ K v h))))))))))
def k_control_Of_2 (L : FuncId → List V → V → Prop) (K : V → Heap → Prop) (v0 v2 v25 : V) (h : Heap) : Prop :=
    (wi F L (.boxz [(.bool false), (.bool false), (.bool false), (.bool false), (.bool false), (.bool false), (.bool false), (.int .i64 0), (.int .i64 0), (.int .i64 0), (.int .i64 0), (.int .i64 0), (.int .i64 0)]) E0 h fun v7 h =>
    (wi F L (.store 13 (.c v7) (.c v25)) E0 h fun _ h =>
    (wi F L (.call i_field_Get [(.c v0), (.c (.str [80, 114, 97, 103, 109, 97]))]) E0 h fun v28 h =>
    (wi F L (.ext 0 (.c v28)) E0 h fun v29 h =>
    (wi F L (.ext 1 (.c v28)) E0 h fun v30 h =>
    (wi F L (.call i_token_Lower [(.c v29)]) E0 h fun v33 h =>
    (wi F L (.call i_token_Split [(.c v33)]) E0 h fun v34 h =>
    (k_control_Of_1 L K v2 v7 v34 h))))))))
def k_control_Of_0 (L : FuncId → List V → V → Prop) (K : V → Heap → Prop) (v0 v2 : V) (h : Heap) : Prop :=
    (wi F L (.call i_control_nothing []) E0 h fun v25 h =>
    (k_control_Of_2 L K v0 v2 v25 h))
def k_control_Of_3 (L : FuncId → List V → V → Prop) (K : V → Heap → Prop) (v2 v21 : V) (h : Heap) : Prop :=
    (wi F L (.ext 0 (.c v21)) E0 h fun v22 h =>
    (wi F L (.ext 1 (.c v21)) E0 h fun v23 h =>
    (wi F L (.boxz [(.bool false), (.bool false), (.bool false), (.bool false), (.bool false), (.bool false), (.bool false), (.int .i64 0), (.int .i64 0), (.int .i64 0), (.int .i64 0), (.int .i64 0), (.int .i64 0)]) E0 h fun v5 h =>
    (wi F L (.store 13 (.c v5) (.c v22)) E0 h fun _ h =>
    (wi F L (.load true 13 (.c v5)) E0 h fun v24 h =>
    (wi F L (.store 13 (.c v2) (.c v24)) E0 h fun _ h =>
    (∃ v, resultsV h (enterE [v2]) [.cell 0 true 13] = some v ∧ K v h)))))))
def p_control_Of (L : FuncId → List V → V → Prop) (K : V → Heap → Prop) (a0 : V) (h : Heap) : Prop :=
    (wi F L (.boxz [(.bool false), (.bool false), (.bool false), (.bool false), (.bool false), (.bool false), (.bool false), (.int .i64 0), (.int .i64 0), (.int .i64 0), (.int .i64 0), (.int .i64 0), (.int .i64 0)]) E0 h fun v2 h =>
    (wi F L (.call i_field_Get [(.c a0), (.c (.str [67, 97, 99, 104, 101, 45, 67, 111, 110, 116, 114, 111, 108]))]) E0 h fun v14 h =>
    (wi F L (.ext 0 (.c v14)) E0 h fun v15 h =>
    (wi F L (.ext 1 (.c v14)) E0 h fun v16 h =>
    (wi F L (.bin .gtr (.c v16) (.c (.int .i64 0))) E0 h fun v18 h =>
    (wb v18
    (wi F L (.call i_control_Parse [(.c v15)]) E0 h fun v21 h =>
    (k_control_Of_3 L K v2 v21 h))
    (k_control_Of_0 L K a0 v2 h)))))))
theorem run_control_Of {L : FuncId → List V → V → Prop} {K : V → Heap → Prop} {a0 : V} {h : Heap} (hp : p_control_Of L K a0 h) : Cf F L i_control_Of [a0] h K :=
  wcallp F_control_Of (show 1 ≤ 44 by decide) (p := p_control_Of L K a0 h) (by kernel_rfl) hp
def k_storing_Of_1_0 (L : FuncId → List V → V → Prop) (K : V → Heap → Prop) (h : Heap) : Prop :=
    (∃ v, some (.int .i64 (-1)) = some v ∧ K v h)
def p_storing_Of_1 (L : FuncId → List V → V → Prop) (K : V → Heap → Prop) (a0 a1 : V) (h : Heap) : Prop :=
    (wi F L (.faddr 3 (.c a1)) E0 h fun v5 h =>
    (wi F L (.load false 1 (.c v5)) E0 h fun v6 h =>
    (wi F L (.call i_storing_dated [(.c v6), (.c a0)]) E0 h fun v8 h =>
    (wi F L (.boxz [(.int .i64 0), (.bool false), (.bool false)]) E0 h fun v4 h =>
    (wi F L (.store 3 (.c v4) (.c v8)) E0 h fun _ h =>
    (wi F L (.faddr 2 (.c v4)) E0 h fun v9 h =>
    (wi F L (.load false 1 (.c v9)) E0 h fun v10 h =>
    (wb v10
    (wi F L (.faddr 0 (.c v4)) E0 h fun v11 h =>
    (wi F L (.load false 1 (.c v11)) E0 h fun v12 h =>
    (∃ v, some v12 = some v ∧ K v h)))
    (k_storing_Of_1_0 L K  h)))))))))
theorem run_storing_Of_1 {L : FuncId → List V → V → Prop} {K : V → Heap → Prop} {a0 a1 : V} {h : Heap} (hp : p_storing_Of_1 L K a0 a1 h) : Cf F L i_storing_Of_1 [a0, a1] h K :=
  wcallp F_storing_Of_1 (show 2 ≤ 13 by decide) (p := p_storing_Of_1 L K a0 a1 h) (by kernel_rfl) hp
def k_storing_dated_0 (L : FuncId → List V → V → Prop) (K : V → Heap → Prop) (v4 v6 v7 v8 : V) (h : Heap) : Prop :=
    (wg v8 true (wi F L (.mv (.c v6)) E0 h) h fun v26 h =>
    (wg v8 true (wi F L (.bin .eql (.c v26) (.c (.int .i64 1))) E0 h) h fun v27 h =>
    (wi F L (.pick (.c v8) (.c v27) (.c (.bool false))) E0 h fun v28 h =>
    (wi F L (.build [(.int .i64 0), (.bool false), (.bool false)] [(0, 1, (.c v7)), (1, 1, (.c (.bool true))), (2, 1, (.c v28))]) E0 h fun v29 h =>
    (wi F L (.store 3 (.c v4) (.c v29)) E0 h fun _ h =>
    (∃ v, resultsV h (enterE [v4]) [.cell 0 true 3] = some v ∧ K v h))))))
def p_storing_dated (L : FuncId → List V → V → Prop) (K : V → Heap → Prop) (a0 a1 : V) (h : Heap) : Prop :=
    (wi F L (.boxz [(.int .i64 0), (.bool false), (.bool false)]) E0 h fun v4 h =>
    (wi F L (.call i_field_Get [(.c a0), (.c a1)]) E0 h fun v12 h =>
    (wi F L (.ext 0 (.c v12)) E0 h fun v13 h =>
    (wi F L (.ext 1 (.c v12)) E0 h fun v14 h =>
    (wi F L (.call i_date_Parse [(.c v13)]) E0 h fun v17 h =>
    (wi F L (.ext 0 (.c v17)) E0 h fun v18 h =>
    (wi F L (.ext 1 (.c v17)) E0 h fun v19 h =>
    (wi F L (.bin .eql (.c v14) (.c (.int .i64 0))) E0 h fun v21 h =>
    (wb v21
    (wi F L (.build [(.int .i64 0), (.bool false), (.bool false)] []) E0 h fun v22 h =>
    (wi F L (.store 3 (.c v4) (.c v22)) E0 h fun _ h =>
    (∃ v, resultsV h (enterE [v4]) [.cell 0 true 3] = some v ∧ K v h)))
    (k_storing_dated_0 L K v4 v14 v18 v19 h))))))))))
theorem run_storing_dated {L : FuncId → List V → V → Prop} {K : V → Heap → Prop} {a0 a1 : V} {h : Heap} (hp : p_storing_dated L K a0 a1 h) : Cf F L i_storing_dated [a0, a1] h K :=
  wcallp F_storing_dated (show 2 ≤ 30 by decide) (p := p_storing_dated L K a0 a1 h) (by kernel_rfl) hp
def k_field_Get_0 (L : FuncId → List V → V → Prop) (K : V → Heap → Prop) (v6 : V) (h : Heap) : Prop :=
    (wi F L (.call i_strings_Join [(.c v6), (.c (.str [44, 32]))]) E0 h fun v26 h =>
    (wi F L (.len 1 (.c v6)) E0 h fun v28 h =>
    (∃ v, resultsV h (enterE [v26, v28]) [.tmp 0, .tmp 1] = some v ∧ K v h)))
def k_field_Get_2 (L : FuncId → List V → V → Prop) (K : V → Heap → Prop) (N0 : Env → Heap → Prop) (e : Env) (v11 : V) (h : Heap) : Prop :=
    (wi F L (.bin .add (.c v11) (.c (.int .i64 1))) E0 h fun v24 h =>
    (N0 (upd (upd e 24 v24) 11 v24) h))
def k_field_Get_1 (L : FuncId → List V → V → Prop) (K : V → Heap → Prop) (N0 : Env → Heap → Prop) (e : Env) (v1 v6 v9 v11 : V) (h : Heap) : Prop :=
    (wi F L (.ixaSl 2 (.c v9) (.c v11)) E0 h fun v13 h =>
    (wi F L (.load true 2 (.c v13)) E0 h fun v14 h =>
    (wi F L (.boxz [(.str []), (.str [])]) E0 h fun v8 h =>
    (wi F L (.store 2 (.c v8) (.c v14)) E0 h fun _ h =>
    (wi F L (.faddr 0 (.c v8)) E0 h fun v15 h =>
    (wi F L (.load false 1 (.c v15)) E0 h fun v16 h =>
    (wi F L (.call i_token_Same [(.c v16), (.c v1)]) E0 h fun v18 h =>
    (wb v18
    (wi F L (.faddr 1 (.c v8)) E0 h fun v20 h =>
    (wi F L (.load false 1 (.c v20)) E0 h fun v21 h =>
    (wi F L (.bsl 1 [(.c v21)]) E0 h fun v22 h =>
    (wi F L (.app 1 16 false (.c v6) (.c v22)) E0 h fun v23 h =>
    (k_field_Get_2 L K N0 (upd (upd (upd (upd (upd (upd (upd (upd (upd (upd (upd (upd (upd e 13 v13) 14 v14) 8 v8) 15 v15) 16 v16) 17 v1) 18 v18) 19 v6) 20 v20) 21 v21) 22 v22) 23 v23) 6 v23) v11 h)))))
    (k_field_Get_2 L K N0 (upd (upd (upd (upd (upd (upd (upd e 13 v13) 14 v14) 8 v8) 15 v15) 16 v16) 17 v1) 18 v18) v11 h)))))))))
def q_field_Get_0 (L : FuncId → List V → V → Prop) (K : V → Heap → Prop) : X → Env → Heap → Prop := (fun x => (seqX (fun e h => k_field_Get_0 L K (e 6) h) (retX c_field_Get.results K)) (X.out 0 x))
def lc_field_Get_0 : C :=
  (.seq (.region [⟨(some 12), none, .bin .lss (.t 11) (.t 10)⟩])
  (.seq (.cond (.t 12)
    .skip
    (.exit 0))
  (.seq (.block 1 (.seq (.region [⟨(some 13), none, .ixaSl 2 (.t 9) (.t 11)⟩, ⟨(some 14), none, .load true 2 (.t 13)⟩, ⟨(some 8), none, .boxz [(.str []), (.str [])]⟩, ⟨none, none, .store 2 (.t 8) (.t 14)⟩])
  (.seq (.region [⟨(some 15), none, .faddr 0 (.t 8)⟩, ⟨(some 16), none, .load false 1 (.t 15)⟩, ⟨(some 17), none, .mv (.t 1)⟩, ⟨(some 18), none, .call i_token_Same [(.t 16), (.t 17)]⟩])
  (.cond (.t 18)
    (.region [⟨(some 19), none, .mv (.t 6)⟩, ⟨(some 20), none, .faddr 1 (.t 8)⟩, ⟨(some 21), none, .load false 1 (.t 20)⟩, ⟨(some 22), none, .bsl 1 [(.t 21)]⟩, ⟨(some 23), none, .app 1 16 false (.t 19) (.t 22)⟩, ⟨(some 6), none, .mv (.t 23)⟩])
    .skip))))
  (.region [⟨(some 24), none, .bin .add (.t 11) (.c (.int .i64 1))⟩, ⟨(some 11), none, .mv (.t 24)⟩]))))
def b_field_Get_0 (L : FuncId → List V → V → Prop) (K : V → Heap → Prop) (N0 : Env → Heap → Prop) (e : Env) (h : Heap) : Prop :=
    (wi F L (.bin .lss (.c (e 11)) (.c (e 10))) E0 h fun v12 h =>
    (wb v12
    (k_field_Get_1 L K N0 (upd e 12 v12) (e 1) (e 6) (e 9) (e 11) h)
    (k_field_Get_0 L K (e 6) h)))
theorem l_field_Get_0 {L : FuncId → List V → V → Prop} {K : V → Heap → Prop} (I : Nat → Env → Heap → Prop) (hr : ∀ n e h, I n e h → b_field_Get_0 L K (fun e' h' => ∃ m, m < n ∧ I m e' h') e h) {n : Nat} {e : Env} {h : Heap} (hi : I n e h) : Wl F L lc_field_Get_0 (q_field_Get_0 L K) e h :=
  wloopp (b := b_field_Get_0 L K) I (fun _ _ _ => by kernel_rfl) hr hi
def p_field_Get (L : FuncId → List V → V → Prop) (K : V → Heap → Prop) (a0 a1 : V) (h : Heap) : Prop :=
    (wi F L (.len 1 (.c a0)) E0 h fun v10 h =>
    (Wl F L lc_field_Get_0 (q_field_Get_0 L K) (upd (upd (upd (upd (upd (upd (enterE [a0, a1]) 4 (.str [])) 5 (.int .i64 0)) 6 .nsl) 9 a0) 10 v10) 11 (.int .i64 0)) h))
theorem run_field_Get {L : FuncId → List V → V → Prop} {K : V → Heap → Prop} {a0 a1 : V} {h : Heap} (hp : p_field_Get L K a0 a1 h) : Cf F L i_field_Get [a0, a1] h K :=
  wcallp F_field_Get (show 2 ≤ 29 by decide) (p := p_field_Get L K a0 a1 h) (by kernel_rfl) hp
def k_token_Split_1 (L : FuncId → List V → V → Prop) (K : V → Heap → Prop) (v1 v4 v6 : V) (h : Heap) : Prop :=
    (wi F L (.load false 1 (.c v1)) E0 h fun v45 h =>
    (wi F L (.len 0 (.c v45)) E0 h fun v46 h =>
    (wi F L (.callv (.c v6) [(.c v46)]) E0 h fun v47 h =>
    (wi F L (.load false 1 (.c v4)) E0 h fun v48 h =>
    (wi F L (.load false 1 (.c v4)) E0 h fun v49 h =>
    (wi F L (.len 1 (.c v49)) E0 h fun v50 h =>
    (wi F L (.load false 1 (.c v4)) E0 h fun v51 h =>
    (wi F L (.len 1 (.c v51)) E0 h fun v52 h =>
    (wi F L (.slsl 1 (.c v48) none (some (.c v50)) (some (.c v52))) E0 h fun v53 h =>
    (∃ v, resultsV h (enterE [v53, (.bool true)]) [.tmp 0, .tmp 1] = some v ∧ K v h))))))))))
def k_token_Split_0 (L : FuncId → List V → V → Prop) (K : V → Heap → Prop) (v1 v4 v6 v7 : V) (h : Heap) : Prop :=
    (wb v7
    (∃ v, resultsV h (enterE [.nsl, (.bool false)]) [.tmp 0, .tmp 1] = some v ∧ K v h)
    (k_token_Split_1 L K v1 v4 v6 h))
def k_token_Split_3 (L : FuncId → List V → V → Prop) (K : V → Heap → Prop) (N0 : Env → Heap → Prop) (e : Env) (v8 : V) (h : Heap) : Prop :=
    (wi F L (.bin .add (.c v8) (.c (.int .i64 1))) E0 h fun v16 h =>
    (N0 (upd (upd (upd e 15 v8) 16 v16) 8 v16) h))
def k_token_Split_2 (L : FuncId → List V → V → Prop) (K : V → Heap → Prop) (N0 : Env → Heap → Prop) (e : Env) (v1 v6 v7 v8 : V) (h : Heap) : Prop :=
    (wi F L (.load false 1 (.c v1)) E0 h fun v17 h =>
    (wi F L (.ixStr (.c v17) (.c v8)) E0 h fun v19 h =>
    (wi F L (.bin .eql (.c v19) (.c (.int .u8 34))) E0 h fun v22 h =>
    (wb v22
    (wi F L (.un .not (.c v7)) E0 h fun v24 h =>
    (k_token_Split_3 L K N0 (upd (upd (upd (upd (upd (upd (upd (upd (upd (upd e 17 v17) 18 v8) 19 v19) 9 v19) 21 v19) 22 v22) 20 v22) 23 v7) 24 v24) 7 v24) v8 h))
    (wg v7 true (wi F L (.mv (.c v19)) E0 h) h fun v28 h =>
    (wg v7 true (wi F L (.bin .eql (.c v28) (.c (.int .u8 92))) E0 h) h fun v29 h =>
    (wi F L (.pick (.c v7) (.c v29) (.c (.bool false))) E0 h fun v30 h =>
    (wb v30
    (wi F L (.bin .add (.c v8) (.c (.int .i64 1))) E0 h fun v32 h =>
    (k_token_Split_3 L K N0 (upd (upd (upd (upd (upd (upd (upd (upd (upd (upd (upd (upd (upd (upd (upd (upd e 17 v17) 18 v8) 19 v19) 9 v19) 21 v19) 22 v22) 20 v22) 26 v7) 27 v7) 28 v28) 29 v29) 30 v30) 25 v30) 31 v8) 32 v32) 8 v32) v32 h))
    (wi F L (.un .not (.c v7)) E0 h fun v35 h =>
    (wg v35 true (wi F L (.mv (.c v19)) E0 h) h fun v37 h =>
    (wg v35 true (wi F L (.bin .eql (.c v37) (.c (.int .u8 44))) E0 h) h fun v38 h =>
    (wi F L (.pick (.c v35) (.c v38) (.c (.bool false))) E0 h fun v39 h =>
    (wb v39
    (wi F L (.callv (.c v6) [(.c v8)]) E0 h fun v42 h =>
    (k_token_Split_3 L K N0 (upd (upd (upd (upd (upd (upd (upd (upd (upd (upd (upd (upd (upd (upd (upd (upd (upd (upd (upd (upd (upd (upd (upd e 17 v17) 18 v8) 19 v19) 9 v19) 21 v19) 22 v22) 20 v22) 26 v7) 27 v7) 28 v28) 29 v29) 30 v30) 25 v30) 34 v7) 35 v35) 36 v35) 37 v37) 38 v38) 39 v39) 33 v39) 40 v6) 41 v8) 42 v42) v8 h))
    (k_token_Split_3 L K N0 (upd (upd (upd (upd (upd (upd (upd (upd (upd (upd (upd (upd (upd (upd (upd (upd (upd (upd (upd (upd e 17 v17) 18 v8) 19 v19) 9 v19) 21 v19) 22 v22) 20 v22) 26 v7) 27 v7) 28 v28) 29 v29) 30 v30) 25 v30) 34 v7) 35 v35) 36 v35) 37 v37) 38 v38) 39 v39) 33 v39) v8 h))))))))))))))
def q_token_Split_0 (L : FuncId → List V → V → Prop) (K : V → Heap → Prop) : X → Env → Heap → Prop := (fun x => (seqX (fun e h => k_token_Split_0 L K (e 1) (e 4) (e 6) (e 7) h) (retX c_token_Split.results K)) (X.out 0 x))
def lc_token_Split_0 : C :=
  (.seq (.seq (.region [⟨(some 11), none, .mv (.t 8)⟩, ⟨(some 12), none, .load false 1 (.t 1)⟩, ⟨(some 13), none, .len 0 (.t 12)⟩, ⟨(some 14), none, .bin .lss (.t 11) (.t 13)⟩])
  (.cond (.t 14)
    .skip
    (.exit 0)))
  (.seq (.block 1 (.seq (.region [⟨(some 17), none, .load false 1 (.t 1)⟩, ⟨(some 18), none, .mv (.t 8)⟩, ⟨(some 19), none, .ixStr (.t 17) (.t 18)⟩, ⟨(some 9), none, .mv (.t 19)⟩])
  (.block 2 (.seq (.region [⟨(some 21), none, .mv (.t 9)⟩, ⟨(some 22), none, .bin .eql (.t 21) (.c (.int .u8 34))⟩, ⟨(some 20), none, .mv (.t 22)⟩])
  (.cond (.t 20)
    (.region [⟨(some 23), none, .mv (.t 7)⟩, ⟨(some 24), none, .un .not (.t 23)⟩, ⟨(some 7), none, .mv (.t 24)⟩])
    (.seq (.region [⟨(some 26), none, .mv (.t 7)⟩, ⟨(some 27), none, .mv (.t 26)⟩, ⟨(some 28), (some (27, true)), .mv (.t 9)⟩, ⟨(some 29), (some (27, true)), .bin .eql (.t 28) (.c (.int .u8 92))⟩, ⟨(some 30), none, .pick (.t 27) (.t 29) (.c (.bool false))⟩, ⟨(some 25), none, .mv (.t 30)⟩])
    (.cond (.t 25)
      (.region [⟨(some 31), none, .mv (.t 8)⟩, ⟨(some 32), none, .bin .add (.t 31) (.c (.int .i64 1))⟩, ⟨(some 8), none, .mv (.t 32)⟩])
      (.seq (.region [⟨(some 34), none, .mv (.t 7)⟩, ⟨(some 35), none, .un .not (.t 34)⟩, ⟨(some 36), none, .mv (.t 35)⟩, ⟨(some 37), (some (36, true)), .mv (.t 9)⟩, ⟨(some 38), (some (36, true)), .bin .eql (.t 37) (.c (.int .u8 44))⟩, ⟨(some 39), none, .pick (.t 36) (.t 38) (.c (.bool false))⟩, ⟨(some 33), none, .mv (.t 39)⟩])
      (.cond (.t 33)
        (.region [⟨(some 40), none, .mv (.t 6)⟩, ⟨(some 41), none, .mv (.t 8)⟩, ⟨(some 42), none, .callv (.t 40) [(.t 41)]⟩])
        .skip)))))))))
  (.region [⟨(some 15), none, .mv (.t 8)⟩, ⟨(some 16), none, .bin .add (.t 15) (.c (.int .i64 1))⟩, ⟨(some 8), none, .mv (.t 16)⟩])))
def b_token_Split_0 (L : FuncId → List V → V → Prop) (K : V → Heap → Prop) (N0 : Env → Heap → Prop) (e : Env) (h : Heap) : Prop :=
    (wi F L (.load false 1 (.c (e 1))) E0 h fun v12 h =>
    (wi F L (.len 0 (.c v12)) E0 h fun v13 h =>
    (wi F L (.bin .lss (.c (e 8)) (.c v13)) E0 h fun v14 h =>
    (wb v14
    (k_token_Split_2 L K N0 (upd (upd (upd (upd e 11 (e 8)) 12 v12) 13 v13) 14 v14) (e 1) (e 6) (e 7) (e 8) h)
    (k_token_Split_0 L K (e 1) (e 4) (e 6) (e 7) h)))))
theorem l_token_Split_0 {L : FuncId → List V → V → Prop} {K : V → Heap → Prop} (I : Nat → Env → Heap → Prop) (hr : ∀ n e h, I n e h → b_token_Split_0 L K (fun e' h' => ∃ m, m < n ∧ I m e' h') e h) {n : Nat} {e : Env} {h : Heap} (hi : I n e h) : Wl F L lc_token_Split_0 (q_token_Split_0 L K) e h :=
  wloopp (b := b_token_Split_0 L K) I (fun _ _ _ => by kernel_rfl) hr hi
def p_token_Split (L : FuncId → List V → V → Prop) (K : V → Heap → Prop) (a0 : V) (h : Heap) : Prop :=
    (wi F L (.box (.c a0)) E0 h fun v1 h =>
    (wi F L (.boxz [.nsl]) E0 h fun v4 h =>
    (wi F L (.boxz [(.int .i64 0)]) E0 h fun v5 h =>
    (wi F L (.store 1 (.c v5) (.c (.int .i64 0))) E0 h fun _ h =>
    (wi F L (.mkfn i_token_Split_1 [(.c v1), (.c v5), (.c v4)]) E0 h fun v10 h =>
    (Wl F L lc_token_Split_0 (q_token_Split_0 L K) (upd (upd (upd (upd (upd (upd (upd (upd (upd (enterE [a0]) 1 v1) 2 .nsl) 3 (.bool false)) 4 v4) 5 v5) 10 v10) 6 v10) 7 (.bool false)) 8 (.int .i64 0)) h))))))
theorem run_token_Split {L : FuncId → List V → V → Prop} {K : V → Heap → Prop} {a0 : V} {h : Heap} (hp : p_token_Split L K a0 h) : Cf F L i_token_Split [a0] h K :=
  wcallp F_token_Split (show 1 ≤ 54 by decide) (p := p_token_Split L K a0 h) (by kernel_rfl) hp
def k_token_Number_1 (L : FuncId → List V → V → Prop) (K : V → Heap → Prop) (v6 : V) (h : Heap) : Prop :=
    (∃ v, resultsV h (enterE [v6, (.bool true)]) [.tmp 0, .tmp 1] = some v ∧ K v h)
def k_token_Number_3 (L : FuncId → List V → V → Prop) (K : V → Heap → Prop) (N0 : Env → Heap → Prop) (e : Env) (v22 : V) (h : Heap) : Prop :=
    (wi F L (.bin .add (.c v22) (.c (.int .i64 1))) E0 h fun v46 h =>
    (N0 (upd (upd e 46 v46) 22 v46) h))
def k_token_Number_4 (L : FuncId → List V → V → Prop) (K : V → Heap → Prop) (N0 : Env → Heap → Prop) (e : Env) (v6 v8 v22 : V) (h : Heap) : Prop :=
    (wi F L (.bin .mul (.c (.int .i64 10)) (.c v6)) E0 h fun v43 h =>
    (wi F L (.bin .add (.c v43) (.c v8)) E0 h fun v45 h =>
    (k_token_Number_3 L K N0 (upd (upd (upd (upd (upd e 42 v6) 43 v43) 44 v8) 45 v45) 6 v45) v22 h)))
def k_token_Number_2 (L : FuncId → List V → V → Prop) (K : V → Heap → Prop) (N0 : Env → Heap → Prop) (e : Env) (v0 v1 v6 v22 : V) (h : Heap) : Prop :=
    (wi F L (.ixStr (.c v0) (.c v22)) E0 h fun v27 h =>
    (wi F L (.bin .sub (.c v27) (.c (.int .u8 48))) E0 h fun v28 h =>
    (wi F L (.toInt .i64 (.c v28)) E0 h fun v29 h =>
    (wi F L (.bin .gtr (.c v29) (.c v1)) E0 h fun v32 h =>
    (wg v32 false (wi F L (.mv (.c v6)) E0 h) h fun v34 h =>
    (wg v32 false (wi F L (.mv (.c v1)) E0 h) h fun v35 h =>
    (wg v32 false (wi F L (.mv (.c v29)) E0 h) h fun v36 h =>
    (wg v32 false (wi F L (.bin .sub (.c v35) (.c v36)) E0 h) h fun v37 h =>
    (wg v32 false (wi F L (.bin .quo (.c v37) (.c (.int .i64 10))) E0 h) h fun v38 h =>
    (wg v32 false (wi F L (.bin .gtr (.c v34) (.c v38)) E0 h) h fun v39 h =>
    (wi F L (.pick (.c v32) (.c (.bool true)) (.c v39)) E0 h fun v40 h =>
    (wb v40
    (∃ v, resultsV h (enterE [v1, (.bool true)]) [.tmp 0, .tmp 1] = some v ∧ K v h)
    (k_token_Number_4 L K N0 (upd (upd (upd (upd (upd (upd (upd (upd (upd (upd (upd (upd (upd (upd (upd (upd (upd (upd (upd e 24 v22) 7 v22) 25 v0) 26 v22) 27 v27) 28 v28) 29 v29) 8 v29) 30 v29) 31 v1) 32 v32) 33 v32) 34 v34) 35 v35) 36 v36) 37 v37) 38 v38) 39 v39) 40 v40) v6 v29 v22 h)))))))))))))
def q_token_Number_0 (L : FuncId → List V → V → Prop) (K : V → Heap → Prop) : X → Env → Heap → Prop := (fun x => (seqX (fun e h => k_token_Number_1 L K (e 6) h) (retX c_token_Number.results K)) (X.out 0 x))
def lc_token_Number_0 : C :=
  (.seq (.region [⟨(some 23), none, .bin .lss (.t 22) (.t 21)⟩])
  (.seq (.cond (.t 23)
    .skip
    (.exit 0))
  (.seq (.block 1 (.seq (.region [⟨(some 24), none, .mv (.t 22)⟩, ⟨(some 7), none, .mv (.t 24)⟩])
  (.seq (.region [⟨(some 25), none, .mv (.t 0)⟩, ⟨(some 26), none, .mv (.t 7)⟩, ⟨(some 27), none, .ixStr (.t 25) (.t 26)⟩, ⟨(some 28), none, .bin .sub (.t 27) (.c (.int .u8 48))⟩, ⟨(some 29), none, .toInt .i64 (.t 28)⟩, ⟨(some 8), none, .mv (.t 29)⟩])
  (.seq (.seq (.region [⟨(some 30), none, .mv (.t 8)⟩, ⟨(some 31), none, .mv (.t 1)⟩, ⟨(some 32), none, .bin .gtr (.t 30) (.t 31)⟩, ⟨(some 33), none, .mv (.t 32)⟩, ⟨(some 34), (some (33, false)), .mv (.t 6)⟩, ⟨(some 35), (some (33, false)), .mv (.t 1)⟩, ⟨(some 36), (some (33, false)), .mv (.t 8)⟩, ⟨(some 37), (some (33, false)), .bin .sub (.t 35) (.t 36)⟩, ⟨(some 38), (some (33, false)), .bin .quo (.t 37) (.c (.int .i64 10))⟩, ⟨(some 39), (some (33, false)), .bin .gtr (.t 34) (.t 38)⟩, ⟨(some 40), none, .pick (.t 33) (.c (.bool true)) (.t 39)⟩])
  (.cond (.t 40)
    (.seq (.region [⟨(some 41), none, .mv (.t 1)⟩, ⟨(some 4), none, .mv (.t 41)⟩, ⟨(some 5), none, .mv (.c (.bool true))⟩])
    .ret)
    .skip))
  (.region [⟨(some 42), none, .mv (.t 6)⟩, ⟨(some 43), none, .bin .mul (.c (.int .i64 10)) (.t 42)⟩, ⟨(some 44), none, .mv (.t 8)⟩, ⟨(some 45), none, .bin .add (.t 43) (.t 44)⟩, ⟨(some 6), none, .mv (.t 45)⟩])))))
  (.region [⟨(some 46), none, .bin .add (.t 22) (.c (.int .i64 1))⟩, ⟨(some 22), none, .mv (.t 46)⟩]))))
def b_token_Number_0 (L : FuncId → List V → V → Prop) (K : V → Heap → Prop) (N0 : Env → Heap → Prop) (e : Env) (h : Heap) : Prop :=
    (wi F L (.bin .lss (.c (e 22)) (.c (e 21))) E0 h fun v23 h =>
    (wb v23
    (k_token_Number_2 L K N0 (upd e 23 v23) (e 0) (e 1) (e 6) (e 22) h)
    (k_token_Number_1 L K (e 6) h)))
theorem l_token_Number_0 {L : FuncId → List V → V → Prop} {K : V → Heap → Prop} (I : Nat → Env → Heap → Prop) (hr : ∀ n e h, I n e h → b_token_Number_0 L K (fun e' h' => ∃ m, m < n ∧ I m e' h') e h) {n : Nat} {e : Env} {h : Heap} (hi : I n e h) : Wl F L lc_token_Number_0 (q_token_Number_0 L K) e h :=
  wloopp (b := b_token_Number_0 L K) I (fun _ _ _ => by kernel_rfl) hr hi
def k_token_Number_0 (L : FuncId → List V → V → Prop) (K : V → Heap → Prop) (e : Env) (v0 : V) (h : Heap) : Prop :=
    (wi F L (.len 0 (.c v0)) E0 h fun v21 h =>
    (Wl F L lc_token_Number_0 (q_token_Number_0 L K) (upd (upd (upd (upd e 6 (.int .i64 0)) 20 v0) 21 v21) 22 (.int .i64 0)) h))
def p_token_Number (L : FuncId → List V → V → Prop) (K : V → Heap → Prop) (a0 a1 : V) (h : Heap) : Prop :=
    (wi F L (.bin .eql (.c a0) (.c (.str []))) E0 h fun v10 h =>
    (wg v10 false (wi F L (.mv (.c a1)) E0 h) h fun v12 h =>
    (wg v10 false (wi F L (.bin .lss (.c v12) (.c (.int .i64 0))) E0 h) h fun v13 h =>
    (wi F L (.pick (.c v10) (.c (.bool true)) (.c v13)) E0 h fun v14 h =>
    (wg v14 false (wi F L (.mv (.c a0)) E0 h) h fun v16 h =>
    (wg v14 false (wi F L (.call i_token_all [(.c v16), (.c (.fn i_token_Number_1 []))]) E0 h) h fun v17 h =>
    (wg v14 false (wi F L (.un .not (.c v17)) E0 h) h fun v18 h =>
    (wi F L (.pick (.c v14) (.c (.bool true)) (.c v18)) E0 h fun v19 h =>
    (wb v19
    (∃ v, resultsV h (enterE [(.int .i64 0), (.bool false)]) [.tmp 0, .tmp 1] = some v ∧ K v h)
    (k_token_Number_0 L K (upd (upd (upd (upd (upd (upd (upd (upd (upd (upd (upd (upd (upd (enterE [a0, a1]) 4 (.int .i64 0)) 5 (.bool false)) 9 a0) 10 v10) 11 v10) 12 v12) 13 v13) 14 v14) 15 v14) 16 v16) 17 v17) 18 v18) 19 v19) a0 h))))))))))
theorem run_token_Number {L : FuncId → List V → V → Prop} {K : V → Heap → Prop} {a0 a1 : V} {h : Heap} (hp : p_token_Number L K a0 a1 h) : Cf F L i_token_Number [a0, a1] h K :=
  wcallp F_token_Number (show 2 ≤ 48 by decide) (p := p_token_Number L K a0 a1 h) (by kernel_rfl) hp
def k_field_Names_1 (L : FuncId → List V → V → Prop) (K : V → Heap → Prop) (v10 : V) (h : Heap) : Prop :=
    (∃ v, resultsV h (enterE [v10, (.bool true)]) [.tmp 0, .tmp 1] = some v ∧ K v h)
def k_field_Names_0 (L : FuncId → List V → V → Prop) (K : V → Heap → Prop) (v9 v10 : V) (h : Heap) : Prop :=
    (wi F L (.un .not (.c v9)) E0 h fun v42 h =>
    (wb v42
    (∃ v, resultsV h (enterE [.nsl, (.bool false)]) [.tmp 0, .tmp 1] = some v ∧ K v h)
    (k_field_Names_1 L K v10 h)))
def k_field_Names_3 (L : FuncId → List V → V → Prop) (K : V → Heap → Prop) (N0 : Env → Heap → Prop) (e : Env) (v26 : V) (h : Heap) : Prop :=
    (wi F L (.bin .add (.c v26) (.c (.int .i64 1))) E0 h fun v40 h =>
    (N0 (upd (upd e 40 v40) 26 v40) h))
def k_field_Names_2 (L : FuncId → List V → V → Prop) (K : V → Heap → Prop) (N0 : Env → Heap → Prop) (e : Env) (v9 v10 v24 v26 : V) (h : Heap) : Prop :=
    (wi F L (.ixaSl 1 (.c v24) (.c v26)) E0 h fun v28 h =>
    (wi F L (.load false 1 (.c v28)) E0 h fun v29 h =>
    (wg v9 true (wi F L (.mv (.c v29)) E0 h) h fun v32 h =>
    (wg v9 true (wi F L (.call i_token_Is [(.c v32)]) E0 h) h fun v33 h =>
    (wi F L (.pick (.c v9) (.c v33) (.c (.bool false))) E0 h fun v34 h =>
    (wi F L (.call i_token_Lower [(.c v29)]) E0 h fun v37 h =>
    (wi F L (.bsl 1 [(.c v37)]) E0 h fun v38 h =>
    (wi F L (.app 1 16 false (.c v10) (.c v38)) E0 h fun v39 h =>
    (k_field_Names_3 L K N0 (upd (upd (upd (upd (upd (upd (upd (upd (upd (upd (upd (upd (upd (upd (upd e 28 v28) 29 v29) 12 v29) 30 v9) 31 v9) 32 v32) 33 v33) 34 v34) 9 v34) 35 v10) 36 v29) 37 v37) 38 v38) 39 v39) 10 v39) v26 h)))))))))
def q_field_Names_0 (L : FuncId → List V → V → Prop) (K : V → Heap → Prop) : X → Env → Heap → Prop := (fun x => (seqX (fun e h => k_field_Names_0 L K (e 9) (e 10) h) (retX c_field_Names.results K)) (X.out 0 x))
def lc_field_Names_0 : C :=
  (.seq (.region [⟨(some 27), none, .bin .lss (.t 26) (.t 25)⟩])
  (.seq (.cond (.t 27)
    .skip
    (.exit 0))
  (.seq (.block 1 (.seq (.region [⟨(some 28), none, .ixaSl 1 (.t 24) (.t 26)⟩, ⟨(some 29), none, .load false 1 (.t 28)⟩, ⟨(some 12), none, .mv (.t 29)⟩])
  (.seq (.region [⟨(some 30), none, .mv (.t 9)⟩, ⟨(some 31), none, .mv (.t 30)⟩, ⟨(some 32), (some (31, true)), .mv (.t 12)⟩, ⟨(some 33), (some (31, true)), .call i_token_Is [(.t 32)]⟩, ⟨(some 34), none, .pick (.t 31) (.t 33) (.c (.bool false))⟩, ⟨(some 9), none, .mv (.t 34)⟩])
  (.region [⟨(some 35), none, .mv (.t 10)⟩, ⟨(some 36), none, .mv (.t 12)⟩, ⟨(some 37), none, .call i_token_Lower [(.t 36)]⟩, ⟨(some 38), none, .bsl 1 [(.t 37)]⟩, ⟨(some 39), none, .app 1 16 false (.t 35) (.t 38)⟩, ⟨(some 10), none, .mv (.t 39)⟩]))))
  (.region [⟨(some 40), none, .bin .add (.t 26) (.c (.int .i64 1))⟩, ⟨(some 26), none, .mv (.t 40)⟩]))))
def b_field_Names_0 (L : FuncId → List V → V → Prop) (K : V → Heap → Prop) (N0 : Env → Heap → Prop) (e : Env) (h : Heap) : Prop :=
    (wi F L (.bin .lss (.c (e 26)) (.c (e 25))) E0 h fun v27 h =>
    (wb v27
    (k_field_Names_2 L K N0 (upd e 27 v27) (e 9) (e 10) (e 24) (e 26) h)
    (k_field_Names_0 L K (e 9) (e 10) h)))
theorem l_field_Names_0 {L : FuncId → List V → V → Prop} {K : V → Heap → Prop} (I : Nat → Env → Heap → Prop) (hr : ∀ n e h, I n e h → b_field_Names_0 L K (fun e' h' => ∃ m, m < n ∧ I m e' h') e h) {n : Nat} {e : Env} {h : Heap} (hi : I n e h) : Wl F L lc_field_Names_0 (q_field_Names_0 L K) e h :=
  wloopp (b := b_field_Names_0 L K) I (fun _ _ _ => by kernel_rfl) hr hi
def p_field_Names (L : FuncId → List V → V → Prop) (K : V → Heap → Prop) (a0 a1 : V) (h : Heap) : Prop :=
    (wi F L (.call i_field_Get [(.c a0), (.c a1)]) E0 h fun v16 h =>
    (wi F L (.ext 0 (.c v16)) E0 h fun v17 h =>
    (wi F L (.ext 1 (.c v16)) E0 h fun v18 h =>
    (wi F L (.call i_token_Split [(.c v17)]) E0 h fun v21 h =>
    (wi F L (.ext 0 (.c v21)) E0 h fun v22 h =>
    (wi F L (.ext 1 (.c v21)) E0 h fun v23 h =>
    (wi F L (.len 1 (.c v22)) E0 h fun v25 h =>
    (Wl F L lc_field_Names_0 (q_field_Names_0 L K) (upd (upd (upd (upd (upd (upd (upd (upd (upd (upd (upd (upd (upd (upd (upd (upd (upd (upd (upd (upd (upd (enterE [a0, a1]) 4 .nsl) 5 (.bool false)) 14 a0) 15 a1) 16 v16) 13 v16) 17 v17) 18 v18) 6 v17) 7 v18) 20 v17) 21 v21) 19 v21) 22 v22) 23 v23) 8 v22) 9 v23) 10 .nsl) 24 v22) 25 v25) 26 (.int .i64 0)) h))))))))
theorem run_field_Names {L : FuncId → List V → V → Prop} {K : V → Heap → Prop} {a0 a1 : V} {h : Heap} (hp : p_field_Names L K a0 a1 h) : Cf F L i_field_Names [a0, a1] h K :=
  wcallp F_field_Names (show 2 ≤ 44 by decide) (p := p_field_Names L K a0 a1 h) (by kernel_rfl) hp
def k_field_without_0 (L : FuncId → List V → V → Prop) (K : V → Heap → Prop) (v0 v5 : V) (h : Heap) : Prop :=
    (wi F L (.mkfn i_field_without_1 [(.c v5)]) E0 h fun v20 h =>
    (wi F L (.call i_field_keep [(.c v0), (.c v20)]) E0 h fun v21 h =>
    (∃ v, some v21 = some v ∧ K v h)))
def k_field_without_2 (L : FuncId → List V → V → Prop) (K : V → Heap → Prop) (N0 : Env → Heap → Prop) (e : Env) (v11 : V) (h : Heap) : Prop :=
    (wi F L (.bin .add (.c v11) (.c (.int .i64 1))) E0 h fun v18 h =>
    (N0 (upd (upd e 18 v18) 11 v18) h))
def k_field_without_1 (L : FuncId → List V → V → Prop) (K : V → Heap → Prop) (N0 : Env → Heap → Prop) (e : Env) (v5 v9 v11 : V) (h : Heap) : Prop :=
    (wi F L (.ixaSl 1 (.c v9) (.c v11)) E0 h fun v13 h =>
    (wi F L (.load false 1 (.c v13)) E0 h fun v14 h =>
    (wi F L (.load false 1 (.c v5)) E0 h fun v15 h' => Ext h h' ∧
    (wi F L (.call i_token_Lower [(.c v14)]) E0 h' fun v17 h => Ext h' h ∧
    (wi F L (.mapset .s (.c v15) (.c v17) (.c (.bool true))) E0 h fun _ h =>
    (k_field_without_2 L K N0 (upd (upd (upd (upd (upd (upd e 13 v13) 14 v14) 7 v14) 15 v15) 16 v14) 17 v17) v11 h))))))
def q_field_without_0 (L : FuncId → List V → V → Prop) (K : V → Heap → Prop) : X → Env → Heap → Prop := (fun x => (seqX (fun e h => k_field_without_0 L K (e 0) (e 5) h) (retX c_field_without.results K)) (X.out 0 x))
def lc_field_without_0 : C :=
  (.seq (.region [⟨(some 12), none, .bin .lss (.t 11) (.t 10)⟩])
  (.seq (.cond (.t 12)
    .skip
    (.exit 0))
  (.seq (.block 1 (.seq (.region [⟨(some 13), none, .ixaSl 1 (.t 9) (.t 11)⟩, ⟨(some 14), none, .load false 1 (.t 13)⟩, ⟨(some 7), none, .mv (.t 14)⟩])
  (.dregion [⟨(some 15), none, .load false 1 (.t 5)⟩, ⟨(some 16), none, .mv (.t 7)⟩, ⟨(some 17), none, .call i_token_Lower [(.t 16)]⟩] [⟨none, none, .mapset .s (.t 15) (.t 17) (.c (.bool true))⟩])))
  (.region [⟨(some 18), none, .bin .add (.t 11) (.c (.int .i64 1))⟩, ⟨(some 11), none, .mv (.t 18)⟩]))))
def b_field_without_0 (L : FuncId → List V → V → Prop) (K : V → Heap → Prop) (N0 : Env → Heap → Prop) (e : Env) (h : Heap) : Prop :=
    (wi F L (.bin .lss (.c (e 11)) (.c (e 10))) E0 h fun v12 h =>
    (wb v12
    (k_field_without_1 L K N0 (upd e 12 v12) (e 5) (e 9) (e 11) h)
    (k_field_without_0 L K (e 0) (e 5) h)))
theorem l_field_without_0 {L : FuncId → List V → V → Prop} {K : V → Heap → Prop} (I : Nat → Env → Heap → Prop) (hr : ∀ n e h, I n e h → b_field_without_0 L K (fun e' h' => ∃ m, m < n ∧ I m e' h') e h) {n : Nat} {e : Env} {h : Heap} (hi : I n e h) : Wl F L lc_field_without_0 (q_field_without_0 L K) e h :=
  wloopp (b := b_field_without_0 L K) I (fun _ _ _ => by kernel_rfl) hr hi
def p_field_without (L : FuncId → List V → V → Prop) (K : V → Heap → Prop) (a0 a1 : V) (h : Heap) : Prop :=
    (wi F L (.mkmap) E0 h fun v8 h =>
    (wi F L (.boxz [.nmap]) E0 h fun v5 h =>
    (wi F L (.store 1 (.c v5) (.c v8)) E0 h fun _ h =>
    (wi F L (.len 1 (.c a1)) E0 h fun v10 h =>
    (Wl F L lc_field_without_0 (q_field_without_0 L K) (upd (upd (upd (upd (upd (upd (enterE [a0, a1]) 4 .nsl) 8 v8) 5 v5) 9 a1) 10 v10) 11 (.int .i64 0)) h)))))
theorem run_field_without {L : FuncId → List V → V → Prop} {K : V → Heap → Prop} {a0 a1 : V} {h : Heap} (hp : p_field_without L K a0 a1 h) : Cf F L i_field_without [a0, a1] h K :=
  wcallp F_field_without (show 2 ≤ 22 by decide) (p := p_field_without L K a0 a1 h) (by kernel_rfl) hp
def p_slices_ContainsFunc___gatepost_api_Field_gatepost_api_Field_ (L : FuncId → List V → V → Prop) (K : V → Heap → Prop) (a0 a1 : V) (h : Heap) : Prop :=
    (wi F L (.call i_slices_IndexFunc___gatepost_api_Field_gatepost_api_Field_ [(.c a0), (.c a1)]) E0 h fun v7 h =>
    (wi F L (.bin .geq (.c v7) (.c (.int .i64 0))) E0 h fun v8 h =>
    (∃ v, some v8 = some v ∧ K v h)))
theorem run_slices_ContainsFunc___gatepost_api_Field_gatepost_api_Field_ {L : FuncId → List V → V → Prop} {K : V → Heap → Prop} {a0 a1 : V} {h : Heap} (hp : p_slices_ContainsFunc___gatepost_api_Field_gatepost_api_Field_ L K a0 a1 h) : Cf F L i_slices_ContainsFunc___gatepost_api_Field_gatepost_api_Field_ [a0, a1] h K :=
  wcallp F_slices_ContainsFunc___gatepost_api_Field_gatepost_api_Field_ (show 2 ≤ 9 by decide) (p := p_slices_ContainsFunc___gatepost_api_Field_gatepost_api_Field_ L K a0 a1 h) (by kernel_rfl) hp
def p_storing_has_1 (L : FuncId → List V → V → Prop) (K : V → Heap → Prop) (a0 a1 : V) (h : Heap) : Prop :=
    (wi F L (.box (.c a0)) E0 h fun v2 h =>
    (wi F L (.faddr 0 (.c v2)) E0 h fun v4 h =>
    (wi F L (.load false 1 (.c v4)) E0 h fun v5 h =>
    (wi F L (.load false 1 (.c a1)) E0 h fun v6 h =>
    (wi F L (.call i_token_Same [(.c v5), (.c v6)]) E0 h fun v7 h =>
    (∃ v, some v7 = some v ∧ K v h))))))
theorem run_storing_has_1 {L : FuncId → List V → V → Prop} {K : V → Heap → Prop} {a0 a1 : V} {h : Heap} (hp : p_storing_has_1 L K a0 a1 h) : Cf F L i_storing_has_1 [a0, a1] h K :=
  wcallp F_storing_has_1 (show 2 ≤ 8 by decide) (p := p_storing_has_1 L K a0 a1 h) (by kernel_rfl) hp
def k_control_Parse_1 (L : FuncId → List V → V → Prop) (K : V → Heap → Prop) (v2 v4 : V) (h : Heap) : Prop :=
    (wi F L (.load true 13 (.c v4)) E0 h fun v83 h =>
    (wi F L (.store 13 (.c v2) (.c v83)) E0 h fun _ h =>
    (∃ v, resultsV h (enterE [v2, (.bool true)]) [.cell 0 true 13, .tmp 1] = some v ∧ K v h)))
def k_control_Parse_3 (L : FuncId → List V → V → Prop) (K : V → Heap → Prop) (N0 : Env → Heap → Prop) (e : Env) (v31 : V) (h : Heap) : Prop :=
    (wi F L (.bin .add (.c v31) (.c (.int .i64 1))) E0 h fun v82 h =>
    (N0 (upd (upd e 82 v82) 31 v82) h))
def k_control_Parse_4 (L : FuncId → List V → V → Prop) (K : V → Heap → Prop) (N0 : Env → Heap → Prop) (e : Env) (v7 v14 v31 v33 v34 v37 v38 v39 v40 v41 v44 v45 v47 v48 v49 v54 v55 v56 v57 v58 v59 v60 v63 : V) (h : Heap) : Prop :=
    (wi F L (.bin .neq (.c v63) (.c (.int .i64 (-1)))) E0 h fun v65 h =>
    (wg v65 true (wi F L (.mv (.c v59)) E0 h) h fun v67 h =>
    (wg v65 true (wi F L (.nilck (.c v67)) E0 h) h fun v68 h =>
    (wg v65 true (wi F L (.load false 1 (.c v68)) E0 h) h fun v69 h =>
    (wg v65 true (wi F L (.bin .eql (.c v69) (.c (.int .i64 (-1)))) E0 h) h fun v70 h =>
    (wg v65 true (wi F L (.mv (.c v70)) E0 h) h fun v71 h =>
    (wg v71 false (wi F L (.mv (.c v63)) E0 h) h fun v72 h =>
    (wg v71 false (wi F L (.mv (.c v59)) E0 h) h fun v73 h =>
    (wg v71 false (wi F L (.nilck (.c v73)) E0 h) h fun v74 h =>
    (wg v71 false (wi F L (.load false 1 (.c v74)) E0 h) h fun v75 h =>
    (wg v71 false (wi F L (.bin .lss (.c v72) (.c v75)) E0 h) h fun v76 h =>
    (wg v65 true (wi F L (.pick (.c v71) (.c (.bool true)) (.c v76)) E0 h) h fun v77 h =>
    (wi F L (.pick (.c v65) (.c v77) (.c (.bool false))) E0 h fun v78 h =>
    (wb v78
    (wi F L (.nilck (.c v59)) E0 h fun v81 h =>
    (wi F L (.store 1 (.c v81) (.c v63)) E0 h fun _ h =>
    (k_control_Parse_3 L K N0 (upd (upd (upd (upd (upd (upd (upd (upd (upd (upd (upd (upd (upd (upd (upd (upd (upd (upd (upd (upd (upd (upd (upd (upd (upd (upd (upd (upd (upd (upd (upd (upd (upd (upd (upd (upd (upd (upd (upd (upd (upd (upd (upd (upd (upd (upd (upd (upd (upd (upd (upd (upd (upd (upd e 33 v33) 34 v34) 9 v34) 36 v34) 37 v37) 35 v37) 38 v38) 39 v39) 40 v40) 41 v41) 10 v38) 11 v39) 12 v40) 13 v41) 42 v7) 43 v38) 44 v44) 45 v45) 14 v14) 47 v47) 48 v48) 49 v49) 46 v49) 54 v54) 55 v55) 56 v56) 53 v56) 57 v57) 58 v58) 59 v59) 60 v60) 61 v39) 62 v40) 63 v63) 15 v59) 16 v63) 64 v63) 65 v65) 66 v65) 67 v67) 68 v68) 69 v69) 70 v70) 71 v71) 72 v72) 73 v73) 74 v74) 75 v75) 76 v76) 77 v77) 78 v78) 79 v59) 80 v63) 81 v81) v31 h)))
    (k_control_Parse_3 L K N0 (upd (upd (upd (upd (upd (upd (upd (upd (upd (upd (upd (upd (upd (upd (upd (upd (upd (upd (upd (upd (upd (upd (upd (upd (upd (upd (upd (upd (upd (upd (upd (upd (upd (upd (upd (upd (upd (upd (upd (upd (upd (upd (upd (upd (upd (upd (upd (upd (upd (upd (upd e 33 v33) 34 v34) 9 v34) 36 v34) 37 v37) 35 v37) 38 v38) 39 v39) 40 v40) 41 v41) 10 v38) 11 v39) 12 v40) 13 v41) 42 v7) 43 v38) 44 v44) 45 v45) 14 v14) 47 v47) 48 v48) 49 v49) 46 v49) 54 v54) 55 v55) 56 v56) 53 v56) 57 v57) 58 v58) 59 v59) 60 v60) 61 v39) 62 v40) 63 v63) 15 v59) 16 v63) 64 v63) 65 v65) 66 v65) 67 v67) 68 v68) 69 v69) 70 v70) 71 v71) 72 v72) 73 v73) 74 v74) 75 v75) 76 v76) 77 v77) 78 v78) v31 h)))))))))))))))
def k_control_Parse_5 (L : FuncId → List V → V → Prop) (K : V → Heap → Prop) (N0 : Env → Heap → Prop) (e : Env) (v4 v7 v31 v33 v34 v37 v38 v39 v40 v41 v44 v45 : V) (h : Heap) : Prop :=
    (wi F L (.boxz [.nfn, .nfn, (.int .i64 0), (.int .i64 0)]) E0 h fun v14 h =>
    (wi F L (.store 4 (.c v14) (.c v45)) E0 h fun _ h =>
    (wi F L (.faddr 0 (.c v14)) E0 h fun v47 h =>
    (wi F L (.load false 1 (.c v47)) E0 h fun v48 h =>
    (wi F L (.eq (.nil 2) true (.c v48) (.c .nfn)) E0 h fun v49 h =>
    (wb v49
    (wi F L (.faddr 0 (.c v14)) E0 h fun v50 h =>
    (wi F L (.load false 1 (.c v50)) E0 h fun v51 h =>
    (wi F L (.callv (.c v51) [(.c v4)]) E0 h fun v52 h =>
    (k_control_Parse_3 L K N0 (upd (upd (upd (upd (upd (upd (upd (upd (upd (upd (upd (upd (upd (upd (upd (upd (upd (upd (upd (upd (upd (upd (upd (upd (upd (upd e 33 v33) 34 v34) 9 v34) 36 v34) 37 v37) 35 v37) 38 v38) 39 v39) 40 v40) 41 v41) 10 v38) 11 v39) 12 v40) 13 v41) 42 v7) 43 v38) 44 v44) 45 v45) 14 v14) 47 v47) 48 v48) 49 v49) 46 v49) 50 v50) 51 v51) 52 v52) v31 h))))
    (wi F L (.faddr 1 (.c v14)) E0 h fun v54 h =>
    (wi F L (.load false 1 (.c v54)) E0 h fun v55 h =>
    (wi F L (.eq (.nil 2) true (.c v55) (.c .nfn)) E0 h fun v56 h =>
    (wb v56
    (wi F L (.faddr 1 (.c v14)) E0 h fun v57 h' => Ext h h' ∧
    (wi F L (.load false 1 (.c v57)) E0 h' fun v58 h => Ext h' h ∧
    (wi F L (.callv (.c v58) [(.c v4)]) E0 h fun v59 h' => Ext h h' ∧
    (wi F L (.load true 4 (.c v14)) E0 h' fun v60 h => Ext h' h ∧
    (wi F L (.call i__gatepost_control_rule__value [(.c v60), (.c v39), (.c v40)]) E0 h fun v63 h =>
    (k_control_Parse_4 L K N0 e v7 v14 v31 v33 v34 v37 v38 v39 v40 v41 v44 v45 v47 v48 v49 v54 v55 v56 v57 v58 v59 v60 v63 h))))))
    (k_control_Parse_3 L K N0 (upd (upd (upd (upd (upd (upd (upd (upd (upd (upd (upd (upd (upd (upd (upd (upd (upd (upd (upd (upd (upd (upd (upd (upd (upd (upd (upd e 33 v33) 34 v34) 9 v34) 36 v34) 37 v37) 35 v37) 38 v38) 39 v39) 40 v40) 41 v41) 10 v38) 11 v39) 12 v40) 13 v41) 42 v7) 43 v38) 44 v44) 45 v45) 14 v14) 47 v47) 48 v48) 49 v49) 46 v49) 54 v54) 55 v55) 56 v56) 53 v56) v31 h)))))))))))
def k_control_Parse_6 (L : FuncId → List V → V → Prop) (K : V → Heap → Prop) (N0 : Env → Heap → Prop) (e : Env) (v4 v7 v31 v33 v34 v37 : V) (h : Heap) : Prop :=
    (wi F L (.ext 0 (.c v37)) E0 h fun v38 h =>
    (wi F L (.ext 1 (.c v37)) E0 h fun v39 h =>
    (wi F L (.ext 2 (.c v37)) E0 h fun v40 h =>
    (wi F L (.ext 3 (.c v37)) E0 h fun v41 h =>
    (wi F L (.call i_token_Lower [(.c v38)]) E0 h fun v44 h =>
    (wi F L (.lookup .s (.agg [.nfn, .nfn, (.int .i64 0), (.int .i64 0)]) false (.c v7) (.c v44)) E0 h fun v45 h =>
    (k_control_Parse_5 L K N0 e v4 v7 v31 v33 v34 v37 v38 v39 v40 v41 v44 v45 h)))))))
def k_control_Parse_2 (L : FuncId → List V → V → Prop) (K : V → Heap → Prop) (N0 : Env → Heap → Prop) (e : Env) (v4 v7 v29 v31 : V) (h : Heap) : Prop :=
    (wi F L (.ixaSl 1 (.c v29) (.c v31)) E0 h fun v33 h =>
    (wi F L (.load false 1 (.c v33)) E0 h fun v34 h =>
    (wi F L (.call i_token_Pair [(.c v34)]) E0 h fun v37 h =>
    (k_control_Parse_6 L K N0 e v4 v7 v31 v33 v34 v37 h))))
def q_control_Parse_0 (L : FuncId → List V → V → Prop) (K : V → Heap → Prop) : X → Env → Heap → Prop := (fun x => (seqX (fun e h => k_control_Parse_1 L K (e 2) (e 4) h) (retX c_control_Parse.results K)) (X.out 0 x))
def lc_control_Parse_0 : C :=
  (.seq (.region [⟨(some 32), none, .bin .lss (.t 31) (.t 30)⟩])
  (.seq (.cond (.t 32)
    .skip
    (.exit 0))
  (.seq (.block 1 (.seq (.region [⟨(some 33), none, .ixaSl 1 (.t 29) (.t 31)⟩, ⟨(some 34), none, .load false 1 (.t 33)⟩, ⟨(some 9), none, .mv (.t 34)⟩])
  (.seq (.region [⟨(some 36), none, .mv (.t 9)⟩, ⟨(some 37), none, .call i_token_Pair [(.t 36)]⟩, ⟨(some 35), none, .mv (.t 37)⟩, ⟨(some 38), none, .ext 0 (.t 35)⟩, ⟨(some 39), none, .ext 1 (.t 35)⟩, ⟨(some 40), none, .ext 2 (.t 35)⟩, ⟨(some 41), none, .ext 3 (.t 35)⟩, ⟨(some 10), none, .mv (.t 38)⟩, ⟨(some 11), none, .mv (.t 39)⟩, ⟨(some 12), none, .mv (.t 40)⟩, ⟨(some 13), none, .mv (.t 41)⟩])
  (.seq (.region [⟨(some 42), none, .mv (.t 7)⟩, ⟨(some 43), none, .mv (.t 10)⟩, ⟨(some 44), none, .call i_token_Lower [(.t 43)]⟩, ⟨(some 45), none, .lookup .s (.agg [.nfn, .nfn, (.int .i64 0), (.int .i64 0)]) false (.t 42) (.t 44)⟩, ⟨(some 14), none, .boxz [.nfn, .nfn, (.int .i64 0), (.int .i64 0)]⟩, ⟨none, none, .store 4 (.t 14) (.t 45)⟩])
  (.block 2 (.seq (.region [⟨(some 47), none, .faddr 0 (.t 14)⟩, ⟨(some 48), none, .load false 1 (.t 47)⟩, ⟨(some 49), none, .eq (.nil 2) true (.t 48) (.c .nfn)⟩, ⟨(some 46), none, .mv (.t 49)⟩])
  (.cond (.t 46)
    (.region [⟨(some 50), none, .faddr 0 (.t 14)⟩, ⟨(some 51), none, .load false 1 (.t 50)⟩, ⟨(some 52), none, .callv (.t 51) [(.t 4)]⟩])
    (.seq (.region [⟨(some 54), none, .faddr 1 (.t 14)⟩, ⟨(some 55), none, .load false 1 (.t 54)⟩, ⟨(some 56), none, .eq (.nil 2) true (.t 55) (.c .nfn)⟩, ⟨(some 53), none, .mv (.t 56)⟩])
    (.cond (.t 53)
      (.seq (.dregion [⟨(some 57), none, .faddr 1 (.t 14)⟩, ⟨(some 58), none, .load false 1 (.t 57)⟩, ⟨(some 59), none, .callv (.t 58) [(.t 4)]⟩, ⟨(some 60), none, .load true 4 (.t 14)⟩, ⟨(some 61), none, .mv (.t 11)⟩, ⟨(some 62), none, .mv (.t 12)⟩] [⟨(some 63), none, .call i__gatepost_control_rule__value [(.t 60), (.t 61), (.t 62)]⟩, ⟨(some 15), none, .mv (.t 59)⟩, ⟨(some 16), none, .mv (.t 63)⟩])
      (.seq (.region [⟨(some 64), none, .mv (.t 16)⟩, ⟨(some 65), none, .bin .neq (.t 64) (.c (.int .i64 (-1)))⟩, ⟨(some 66), none, .mv (.t 65)⟩, ⟨(some 67), (some (66, true)), .mv (.t 15)⟩, ⟨(some 68), (some (66, true)), .nilck (.t 67)⟩, ⟨(some 69), (some (66, true)), .load false 1 (.t 68)⟩, ⟨(some 70), (some (66, true)), .bin .eql (.t 69) (.c (.int .i64 (-1)))⟩, ⟨(some 71), (some (66, true)), .mv (.t 70)⟩, ⟨(some 72), (some (71, false)), .mv (.t 16)⟩, ⟨(some 73), (some (71, false)), .mv (.t 15)⟩, ⟨(some 74), (some (71, false)), .nilck (.t 73)⟩, ⟨(some 75), (some (71, false)), .load false 1 (.t 74)⟩, ⟨(some 76), (some (71, false)), .bin .lss (.t 72) (.t 75)⟩, ⟨(some 77), (some (66, true)), .pick (.t 71) (.c (.bool true)) (.t 76)⟩, ⟨(some 78), none, .pick (.t 66) (.t 77) (.c (.bool false))⟩])
      (.cond (.t 78)
        (.region [⟨(some 79), none, .mv (.t 15)⟩, ⟨(some 80), none, .mv (.t 16)⟩, ⟨(some 81), none, .nilck (.t 79)⟩, ⟨none, none, .store 1 (.t 81) (.t 80)⟩])
        .skip)))
      .skip)))))))))
  (.region [⟨(some 82), none, .bin .add (.t 31) (.c (.int .i64 1))⟩, ⟨(some 31), none, .mv (.t 82)⟩]))))
def b_control_Parse_0 (L : FuncId → List V → V → Prop) (K : V → Heap → Prop) (N0 : Env → Heap → Prop) (e : Env) (h : Heap) : Prop :=
    (wi F L (.bin .lss (.c (e 31)) (.c (e 30))) E0 h fun v32 h =>
    (wb v32
    (k_control_Parse_2 L K N0 (upd e 32 v32) (e 4) (e 7) (e 29) (e 31) h)
    (k_control_Parse_1 L K (e 2) (e 4) h)))
theorem l_control_Parse_0 {L : FuncId → List V → V → Prop} {K : V → Heap → Prop} (I : Nat → Env → Heap → Prop) (hr : ∀ n e h, I n e h → b_control_Parse_0 L K (fun e' h' => ∃ m, m < n ∧ I m e' h') e h) {n : Nat} {e : Env} {h : Heap} (hi : I n e h) : Wl F L lc_control_Parse_0 (q_control_Parse_0 L K) e h :=
  wloopp (b := b_control_Parse_0 L K) I (fun _ _ _ => by kernel_rfl) hr hi
def k_control_Parse_0 (L : FuncId → List V → V → Prop) (K : V → Heap → Prop) (e : Env) (v5 : V) (h : Heap) : Prop :=
    (wi F L (.call i_control_rules []) E0 h fun v28 h =>
    (wi F L (.len 1 (.c v5)) E0 h fun v30 h =>
    (Wl F L lc_control_Parse_0 (q_control_Parse_0 L K) (upd (upd (upd (upd (upd e 28 v28) 7 v28) 29 v5) 30 v30) 31 (.int .i64 0)) h)))
def k_control_Parse_7 (L : FuncId → List V → V → Prop) (K : V → Heap → Prop) (a0 v2 v4 v17 v20 : V) (h : Heap) : Prop :=
    (wi F L (.ext 0 (.c v20)) E0 h fun v21 h =>
    (wi F L (.ext 1 (.c v20)) E0 h fun v22 h =>
    (wi F L (.un .not (.c v22)) E0 h fun v24 h =>
    (wb v24
    (wi F L (.faddr 0 (.c v4)) E0 h fun v25 h =>
    (wi F L (.store 1 (.c v25) (.c (.bool true))) E0 h fun _ h =>
    (wi F L (.faddr 1 (.c v4)) E0 h fun v26 h =>
    (wi F L (.store 1 (.c v26) (.c (.bool true))) E0 h fun _ h =>
    (wi F L (.load true 13 (.c v4)) E0 h fun v27 h =>
    (wi F L (.store 13 (.c v2) (.c v27)) E0 h fun _ h =>
    (∃ v, resultsV h (enterE [v2, (.bool false)]) [.cell 0 true 13, .tmp 1] = some v ∧ K v h)))))))
    (k_control_Parse_0 L K (upd (upd (upd (upd (upd (upd (upd (upd (upd (upd (upd (upd (upd (enterE [a0]) 2 v2) 3 (.bool false)) 17 v17) 4 v4) 19 a0) 20 v20) 18 v20) 21 v21) 22 v22) 5 v21) 6 v22) 23 v22) 24 v24) v21 h)))))
def p_control_Parse (L : FuncId → List V → V → Prop) (K : V → Heap → Prop) (a0 : V) (h : Heap) : Prop :=
    (wi F L (.boxz [(.bool false), (.bool false), (.bool false), (.bool false), (.bool false), (.bool false), (.bool false), (.int .i64 0), (.int .i64 0), (.int .i64 0), (.int .i64 0), (.int .i64 0), (.int .i64 0)]) E0 h fun v2 h =>
    (wi F L (.call i_control_nothing []) E0 h fun v17 h =>
    (wi F L (.boxz [(.bool false), (.bool false), (.bool false), (.bool false), (.bool false), (.bool false), (.bool false), (.int .i64 0), (.int .i64 0), (.int .i64 0), (.int .i64 0), (.int .i64 0), (.int .i64 0)]) E0 h fun v4 h =>
    (wi F L (.store 13 (.c v4) (.c v17)) E0 h fun _ h =>
    (wi F L (.call i_token_Split [(.c a0)]) E0 h fun v20 h =>
    (k_control_Parse_7 L K a0 v2 v4 v17 v20 h))))))
theorem run_control_Parse {L : FuncId → List V → V → Prop} {K : V → Heap → Prop} {a0 : V} {h : Heap} (hp : p_control_Parse L K a0 h) : Cf F L i_control_Parse [a0] h K :=
  wcallp F_control_Parse (show 1 ≤ 84 by decide) (p := p_control_Parse L K a0 h) (by kernel_rfl) hp
def p_control_nothing (L : FuncId → List V → V → Prop) (K : V → Heap → Prop) (h : Heap) : Prop :=
    (wi F L (.boxz [(.bool false), (.bool false), (.bool false), (.bool false), (.bool false), (.bool false), (.bool false), (.int .i64 0), (.int .i64 0), (.int .i64 0), (.int .i64 0), (.int .i64 0), (.int .i64 0)]) E0 h fun v0 h =>
    (wi F L (.build [(.bool false), (.bool false), (.bool false), (.bool false), (.bool false), (.bool false), (.bool false), (.int .i64 0), (.int .i64 0), (.int .i64 0), (.int .i64 0), (.int .i64 0), (.int .i64 0)] [(7, 1, (.c (.int .i64 (-1)))), (8, 1, (.c (.int .i64 (-1)))), (9, 1, (.c (.int .i64 (-1)))), (10, 1, (.c (.int .i64 (-1)))), (11, 1, (.c (.int .i64 (-1)))), (12, 1, (.c (.int .i64 (-1))))]) E0 h fun v1 h =>
    (wi F L (.store 13 (.c v0) (.c v1)) E0 h fun _ h =>
    (∃ v, resultsV h (enterE [v0]) [.cell 0 true 13] = some v ∧ K v h))))
theorem run_control_nothing {L : FuncId → List V → V → Prop} {K : V → Heap → Prop} {h : Heap} (hp : p_control_nothing L K  h) : Cf F L i_control_nothing [] h K :=
  wcallp F_control_nothing (show 0 ≤ 2 by decide) (p := p_control_nothing L K  h) (by kernel_rfl) hp
def p_slices_Contains___string_string_ (L : FuncId → List V → V → Prop) (K : V → Heap → Prop) (a0 a1 : V) (h : Heap) : Prop :=
    (wi F L (.call i_slices_Index___string_string_ [(.c a0), (.c a1)]) E0 h fun v7 h =>
    (wi F L (.bin .geq (.c v7) (.c (.int .i64 0))) E0 h fun v8 h =>
    (∃ v, some v8 = some v ∧ K v h)))
theorem run_slices_Contains___string_string_ {L : FuncId → List V → V → Prop} {K : V → Heap → Prop} {a0 a1 : V} {h : Heap} (hp : p_slices_Contains___string_string_ L K a0 a1 h) : Cf F L i_slices_Contains___string_string_ [a0, a1] h K :=
  wcallp F_slices_Contains___string_string_ (show 2 ≤ 9 by decide) (p := p_slices_Contains___string_string_ L K a0 a1 h) (by kernel_rfl) hp
def k_date_Parse_0 (L : FuncId → List V → V → Prop) (K : V → Heap → Prop) (h : Heap) : Prop :=
    (∃ v, resultsV h (enterE [(.int .i64 0), (.bool false)]) [.tmp 0, .tmp 1] = some v ∧ K v h)
def k_date_Parse_2 (L : FuncId → List V → V → Prop) (K : V → Heap → Prop) (N0 : Env → Heap → Prop) (e : Env) (v9 : V) (h : Heap) : Prop :=
    (wi F L (.bin .add (.c v9) (.c (.int .i64 1))) E0 h fun v22 h =>
    (N0 (upd (upd e 22 v22) 9 v22) h))
def k_date_Parse_1 (L : FuncId → List V → V → Prop) (K : V → Heap → Prop) (N0 : Env → Heap → Prop) (e : Env) (v0 v8 v9 : V) (h : Heap) : Prop :=
    (wi F L (.ixArr 3 1 false (.c v8) (.c v9)) E0 h fun v11 h =>
    (wi F L (.build [(.str []), (.bool false)] [(0, 1, (.c v0)), (1, 1, (.c (.bool true)))]) E0 h fun v15 h =>
    (wi F L (.box (.c v15)) E0 h fun v16 h =>
    (wi F L (.callv (.c v11) [(.c v16)]) E0 h fun v17 h =>
    (wi F L (.ext 0 (.c v17)) E0 h fun v18 h =>
    (wi F L (.ext 1 (.c v17)) E0 h fun v19 h =>
    (wb v19
    (∃ v, resultsV h (enterE [v18, (.bool true)]) [.tmp 0, .tmp 1] = some v ∧ K v h)
    (k_date_Parse_2 L K N0 (upd (upd (upd (upd (upd (upd (upd (upd (upd (upd (upd (upd (upd e 11 v11) 5 v11) 13 v11) 14 v0) 15 v15) 16 v16) 17 v17) 12 v17) 18 v18) 19 v19) 6 v18) 7 v19) 20 v19) v9 h))))))))
def q_date_Parse_0 (L : FuncId → List V → V → Prop) (K : V → Heap → Prop) : X → Env → Heap → Prop := (fun x => (seqX (fun e h => k_date_Parse_0 L K  h) (retX c_date_Parse.results K)) (X.out 0 x))
def lc_date_Parse_0 : C :=
  (.seq (.region [⟨(some 10), none, .bin .lss (.t 9) (.c (.int .i64 3))⟩])
  (.seq (.cond (.t 10)
    .skip
    (.exit 0))
  (.seq (.block 1 (.seq (.region [⟨(some 11), none, .ixArr 3 1 false (.t 8) (.t 9)⟩, ⟨(some 5), none, .mv (.t 11)⟩])
  (.seq (.region [⟨(some 13), none, .mv (.t 5)⟩, ⟨(some 14), none, .mv (.t 0)⟩, ⟨(some 15), none, .build [(.str []), (.bool false)] [(0, 1, (.t 14)), (1, 1, (.c (.bool true)))]⟩, ⟨(some 16), none, .box (.t 15)⟩, ⟨(some 17), none, .callv (.t 13) [(.t 16)]⟩, ⟨(some 12), none, .mv (.t 17)⟩, ⟨(some 18), none, .ext 0 (.t 12)⟩, ⟨(some 19), none, .ext 1 (.t 12)⟩, ⟨(some 6), none, .mv (.t 18)⟩, ⟨(some 7), none, .mv (.t 19)⟩])
  (.seq (.region [⟨(some 20), none, .mv (.t 7)⟩])
  (.cond (.t 20)
    (.seq (.region [⟨(some 21), none, .mv (.t 6)⟩, ⟨(some 2), none, .mv (.t 21)⟩, ⟨(some 3), none, .mv (.c (.bool true))⟩])
    .ret)
    .skip)))))
  (.region [⟨(some 22), none, .bin .add (.t 9) (.c (.int .i64 1))⟩, ⟨(some 9), none, .mv (.t 22)⟩]))))
def b_date_Parse_0 (L : FuncId → List V → V → Prop) (K : V → Heap → Prop) (N0 : Env → Heap → Prop) (e : Env) (h : Heap) : Prop :=
    (wi F L (.bin .lss (.c (e 9)) (.c (.int .i64 3))) E0 h fun v10 h =>
    (wb v10
    (k_date_Parse_1 L K N0 (upd e 10 v10) (e 0) (e 8) (e 9) h)
    (k_date_Parse_0 L K  h)))
theorem l_date_Parse_0 {L : FuncId → List V → V → Prop} {K : V → Heap → Prop} (I : Nat → Env → Heap → Prop) (hr : ∀ n e h, I n e h → b_date_Parse_0 L K (fun e' h' => ∃ m, m < n ∧ I m e' h') e h) {n : Nat} {e : Env} {h : Heap} (hi : I n e h) : Wl F L lc_date_Parse_0 (q_date_Parse_0 L K) e h :=
  wloopp (b := b_date_Parse_0 L K) I (fun _ _ _ => by kernel_rfl) hr hi
def p_date_Parse (L : FuncId → List V → V → Prop) (K : V → Heap → Prop) (a0 : V) (h : Heap) : Prop :=
    (wi F L (.build [.nfn, .nfn, .nfn] [(0, 1, (.c (.fn i_date_fixed []))), (1, 1, (.c (.fn i_date_old []))), (2, 1, (.c (.fn i_date_plain [])))]) E0 h fun v8 h =>
    (Wl F L lc_date_Parse_0 (q_date_Parse_0 L K) (upd (upd (upd (upd (enterE [a0]) 2 (.int .i64 0)) 3 (.bool false)) 8 v8) 9 (.int .i64 0)) h))
theorem run_date_Parse {L : FuncId → List V → V → Prop} {K : V → Heap → Prop} {a0 : V} {h : Heap} (hp : p_date_Parse L K a0 h) : Cf F L i_date_Parse [a0] h K :=
  wcallp F_date_Parse (show 1 ≤ 23 by decide) (p := p_date_Parse L K a0 h) (by kernel_rfl) hp
def k_token_Split_1_0 (L : FuncId → List V → V → Prop) (K : V → Heap → Prop) (v0 v2 : V) (h : Heap) : Prop :=
    (wi F L (.bin .add (.c v0) (.c (.int .i64 1))) E0 h fun v18 h =>
    (wi F L (.store 1 (.c v2) (.c v18)) E0 h fun _ h =>
    (∃ v, resultsV h (enterE []) [] = some v ∧ K v h)))
def p_token_Split_1 (L : FuncId → List V → V → Prop) (K : V → Heap → Prop) (a0 a1 a2 a3 : V) (h : Heap) : Prop :=
    (wi F L (.load false 1 (.c a1)) E0 h fun v6 h =>
    (wi F L (.load false 1 (.c a2)) E0 h fun v7 h =>
    (wi F L (.slstr (.c v6) (some (.c v7)) (some (.c a0))) E0 h fun v9 h =>
    (wi F L (.call i_token_Trim [(.c v9)]) E0 h fun v10 h =>
    (wi F L (.bin .neq (.c v10) (.c (.str []))) E0 h fun v12 h =>
    (wb v12
    (wi F L (.load false 1 (.c a3)) E0 h fun v13 h =>
    (wi F L (.bsl 1 [(.c v10)]) E0 h fun v15 h =>
    (wi F L (.app 1 16 false (.c v13) (.c v15)) E0 h fun v16 h =>
    (wi F L (.store 1 (.c a3) (.c v16)) E0 h fun _ h =>
    (k_token_Split_1_0 L K a0 a2 h)))))
    (k_token_Split_1_0 L K a0 a2 h)))))))
theorem run_token_Split_1 {L : FuncId → List V → V → Prop} {K : V → Heap → Prop} {a0 a1 a2 a3 : V} {h : Heap} (hp : p_token_Split_1 L K a0 a1 a2 a3 h) : Cf F L i_token_Split_1 [a0, a1, a2, a3] h K :=
  wcallp F_token_Split_1 (show 4 ≤ 19 by decide) (p := p_token_Split_1 L K a0 a1 a2 a3 h) (by kernel_rfl) hp
def p_token_Trim (L : FuncId → List V → V → Prop) (K : V → Heap → Prop) (a0 : V) (h : Heap) : Prop :=
    (wi F L (.call i_strings_Trim [(.c a0), (.c (.str [32, 9]))]) E0 h fun v4 h =>
    (∃ v, some v4 = some v ∧ K v h))
theorem run_token_Trim {L : FuncId → List V → V → Prop} {K : V → Heap → Prop} {a0 : V} {h : Heap} (hp : p_token_Trim L K a0 h) : Cf F L i_token_Trim [a0] h K :=
  wcallp F_token_Trim (show 1 ≤ 5 by decide) (p := p_token_Trim L K a0 h) (by kernel_rfl) hp
def k_token_all_0 (L : FuncId → List V → V → Prop) (K : V → Heap → Prop) (h : Heap) : Prop :=
    (∃ v, some (.bool true) = some v ∧ K v h)
def k_token_all_2 (L : FuncId → List V → V → Prop) (K : V → Heap → Prop) (N0 : Env → Heap → Prop) (e : Env) (v8 : V) (h : Heap) : Prop :=
    (wi F L (.bin .add (.c v8) (.c (.int .i64 1))) E0 h fun v17 h =>
    (N0 (upd (upd e 17 v17) 8 v17) h))
def k_token_all_1 (L : FuncId → List V → V → Prop) (K : V → Heap → Prop) (N0 : Env → Heap → Prop) (e : Env) (v0 v1 v8 : V) (h : Heap) : Prop :=
    (wi F L (.ixStr (.c v0) (.c v8)) E0 h fun v14 h =>
    (wi F L (.callv (.c v1) [(.c v14)]) E0 h fun v15 h =>
    (wi F L (.un .not (.c v15)) E0 h fun v16 h =>
    (wb v16
    (∃ v, some (.bool false) = some v ∧ K v h)
    (k_token_all_2 L K N0 (upd (upd (upd (upd (upd (upd (upd (upd e 10 v8) 5 v8) 11 v1) 12 v0) 13 v8) 14 v14) 15 v15) 16 v16) v8 h)))))
def q_token_all_0 (L : FuncId → List V → V → Prop) (K : V → Heap → Prop) : X → Env → Heap → Prop := (fun x => (seqX (fun e h => k_token_all_0 L K  h) (retX c_token_all.results K)) (X.out 0 x))
def lc_token_all_0 : C :=
  (.seq (.region [⟨(some 9), none, .bin .lss (.t 8) (.t 7)⟩])
  (.seq (.cond (.t 9)
    .skip
    (.exit 0))
  (.seq (.block 1 (.seq (.region [⟨(some 10), none, .mv (.t 8)⟩, ⟨(some 5), none, .mv (.t 10)⟩])
  (.seq (.region [⟨(some 11), none, .mv (.t 1)⟩, ⟨(some 12), none, .mv (.t 0)⟩, ⟨(some 13), none, .mv (.t 5)⟩, ⟨(some 14), none, .ixStr (.t 12) (.t 13)⟩, ⟨(some 15), none, .callv (.t 11) [(.t 14)]⟩, ⟨(some 16), none, .un .not (.t 15)⟩])
  (.cond (.t 16)
    (.seq (.region [⟨(some 4), none, .mv (.c (.bool false))⟩])
    .ret)
    .skip))))
  (.region [⟨(some 17), none, .bin .add (.t 8) (.c (.int .i64 1))⟩, ⟨(some 8), none, .mv (.t 17)⟩]))))
def b_token_all_0 (L : FuncId → List V → V → Prop) (K : V → Heap → Prop) (N0 : Env → Heap → Prop) (e : Env) (h : Heap) : Prop :=
    (wi F L (.bin .lss (.c (e 8)) (.c (e 7))) E0 h fun v9 h =>
    (wb v9
    (k_token_all_1 L K N0 (upd e 9 v9) (e 0) (e 1) (e 8) h)
    (k_token_all_0 L K  h)))
theorem l_token_all_0 {L : FuncId → List V → V → Prop} {K : V → Heap → Prop} (I : Nat → Env → Heap → Prop) (hr : ∀ n e h, I n e h → b_token_all_0 L K (fun e' h' => ∃ m, m < n ∧ I m e' h') e h) {n : Nat} {e : Env} {h : Heap} (hi : I n e h) : Wl F L lc_token_all_0 (q_token_all_0 L K) e h :=
  wloopp (b := b_token_all_0 L K) I (fun _ _ _ => by kernel_rfl) hr hi
def p_token_all (L : FuncId → List V → V → Prop) (K : V → Heap → Prop) (a0 a1 : V) (h : Heap) : Prop :=
    (wi F L (.len 0 (.c a0)) E0 h fun v7 h =>
    (Wl F L lc_token_all_0 (q_token_all_0 L K) (upd (upd (upd (upd (enterE [a0, a1]) 4 (.bool false)) 6 a0) 7 v7) 8 (.int .i64 0)) h))
theorem run_token_all {L : FuncId → List V → V → Prop} {K : V → Heap → Prop} {a0 a1 : V} {h : Heap} (hp : p_token_all L K a0 a1 h) : Cf F L i_token_all [a0, a1] h K :=
  wcallp F_token_all (show 2 ≤ 18 by decide) (p := p_token_all L K a0 a1 h) (by kernel_rfl) hp
def p_token_Number_1 (L : FuncId → List V → V → Prop) (K : V → Heap → Prop) (a0 : V) (h : Heap) : Prop :=
    (wi F L (.bin .geq (.c a0) (.c (.int .u8 48))) E0 h fun v4 h =>
    (wg v4 true (wi F L (.mv (.c a0)) E0 h) h fun v6 h =>
    (wg v4 true (wi F L (.bin .leq (.c v6) (.c (.int .u8 57))) E0 h) h fun v7 h =>
    (wi F L (.pick (.c v4) (.c v7) (.c (.bool false))) E0 h fun v8 h =>
    (∃ v, some v8 = some v ∧ K v h)))))
theorem run_token_Number_1 {L : FuncId → List V → V → Prop} {K : V → Heap → Prop} {a0 : V} {h : Heap} (hp : p_token_Number_1 L K a0 h) : Cf F L i_token_Number_1 [a0] h K :=
  wcallp F_token_Number_1 (show 1 ≤ 9 by decide) (p := p_token_Number_1 L K a0 h) (by kernel_rfl) hp
def p_token_Is (L : FuncId → List V → V → Prop) (K : V → Heap → Prop) (a0 : V) (h : Heap) : Prop :=
    (wi F L (.bin .neq (.c a0) (.c (.str []))) E0 h fun v4 h =>
    (wg v4 true (wi F L (.mv (.c a0)) E0 h) h fun v6 h =>
    (wg v4 true (wi F L (.call i_token_all [(.c v6), (.c (.fn i_token_inToken []))]) E0 h) h fun v7 h =>
    (wi F L (.pick (.c v4) (.c v7) (.c (.bool false))) E0 h fun v8 h =>
    (∃ v, some v8 = some v ∧ K v h)))))
theorem run_token_Is {L : FuncId → List V → V → Prop} {K : V → Heap → Prop} {a0 : V} {h : Heap} (hp : p_token_Is L K a0 h) : Cf F L i_token_Is [a0] h K :=
  wcallp F_token_Is (show 1 ≤ 9 by decide) (p := p_token_Is L K a0 h) (by kernel_rfl) hp
def k_field_keep_0 (L : FuncId → List V → V → Prop) (K : V → Heap → Prop) (v5 : V) (h : Heap) : Prop :=
    (∃ v, some v5 = some v ∧ K v h)
def k_field_keep_2 (L : FuncId → List V → V → Prop) (K : V → Heap → Prop) (N0 : Env → Heap → Prop) (e : Env) (v10 : V) (h : Heap) : Prop :=
    (wi F L (.bin .add (.c v10) (.c (.int .i64 1))) E0 h fun v21 h =>
    (N0 (upd (upd e 21 v21) 10 v21) h))
def k_field_keep_1 (L : FuncId → List V → V → Prop) (K : V → Heap → Prop) (N0 : Env → Heap → Prop) (e : Env) (v1 v5 v8 v10 : V) (h : Heap) : Prop :=
    (wi F L (.ixaSl 2 (.c v8) (.c v10)) E0 h fun v12 h =>
    (wi F L (.load true 2 (.c v12)) E0 h fun v13 h =>
    (wi F L (.boxz [(.str []), (.str [])]) E0 h fun v7 h =>
    (wi F L (.store 2 (.c v7) (.c v13)) E0 h fun _ h =>
    (wi F L (.load true 2 (.c v7)) E0 h fun v15 h =>
    (wi F L (.callv (.c v1) [(.c v15)]) E0 h fun v16 h =>
    (wb v16
    (wi F L (.load true 2 (.c v7)) E0 h fun v18 h =>
    (wi F L (.bsl 2 [(.c v18)]) E0 h fun v19 h =>
    (wi F L (.app 2 32 false (.c v5) (.c v19)) E0 h fun v20 h =>
    (k_field_keep_2 L K N0 (upd (upd (upd (upd (upd (upd (upd (upd (upd (upd (upd e 12 v12) 13 v13) 7 v7) 14 v1) 15 v15) 16 v16) 17 v5) 18 v18) 19 v19) 20 v20) 5 v20) v10 h))))
    (k_field_keep_2 L K N0 (upd (upd (upd (upd (upd (upd e 12 v12) 13 v13) 7 v7) 14 v1) 15 v15) 16 v16) v10 h))))))))
def q_field_keep_0 (L : FuncId → List V → V → Prop) (K : V → Heap → Prop) : X → Env → Heap → Prop := (fun x => (seqX (fun e h => k_field_keep_0 L K (e 5) h) (retX c_field_keep.results K)) (X.out 0 x))
def lc_field_keep_0 : C :=
  (.seq (.region [⟨(some 11), none, .bin .lss (.t 10) (.t 9)⟩])
  (.seq (.cond (.t 11)
    .skip
    (.exit 0))
  (.seq (.block 1 (.seq (.region [⟨(some 12), none, .ixaSl 2 (.t 8) (.t 10)⟩, ⟨(some 13), none, .load true 2 (.t 12)⟩, ⟨(some 7), none, .boxz [(.str []), (.str [])]⟩, ⟨none, none, .store 2 (.t 7) (.t 13)⟩])
  (.seq (.region [⟨(some 14), none, .mv (.t 1)⟩, ⟨(some 15), none, .load true 2 (.t 7)⟩, ⟨(some 16), none, .callv (.t 14) [(.t 15)]⟩])
  (.cond (.t 16)
    (.region [⟨(some 17), none, .mv (.t 5)⟩, ⟨(some 18), none, .load true 2 (.t 7)⟩, ⟨(some 19), none, .bsl 2 [(.t 18)]⟩, ⟨(some 20), none, .app 2 32 false (.t 17) (.t 19)⟩, ⟨(some 5), none, .mv (.t 20)⟩])
    .skip))))
  (.region [⟨(some 21), none, .bin .add (.t 10) (.c (.int .i64 1))⟩, ⟨(some 10), none, .mv (.t 21)⟩]))))
def b_field_keep_0 (L : FuncId → List V → V → Prop) (K : V → Heap → Prop) (N0 : Env → Heap → Prop) (e : Env) (h : Heap) : Prop :=
    (wi F L (.bin .lss (.c (e 10)) (.c (e 9))) E0 h fun v11 h =>
    (wb v11
    (k_field_keep_1 L K N0 (upd e 11 v11) (e 1) (e 5) (e 8) (e 10) h)
    (k_field_keep_0 L K (e 5) h)))
theorem l_field_keep_0 {L : FuncId → List V → V → Prop} {K : V → Heap → Prop} (I : Nat → Env → Heap → Prop) (hr : ∀ n e h, I n e h → b_field_keep_0 L K (fun e' h' => ∃ m, m < n ∧ I m e' h') e h) {n : Nat} {e : Env} {h : Heap} (hi : I n e h) : Wl F L lc_field_keep_0 (q_field_keep_0 L K) e h :=
  wloopp (b := b_field_keep_0 L K) I (fun _ _ _ => by kernel_rfl) hr hi
def p_field_keep (L : FuncId → List V → V → Prop) (K : V → Heap → Prop) (a0 a1 : V) (h : Heap) : Prop :=
    (wi F L (.len 1 (.c a0)) E0 h fun v9 h =>
    (Wl F L lc_field_keep_0 (q_field_keep_0 L K) (upd (upd (upd (upd (upd (enterE [a0, a1]) 4 .nsl) 5 .nsl) 8 a0) 9 v9) 10 (.int .i64 0)) h))
theorem run_field_keep {L : FuncId → List V → V → Prop} {K : V → Heap → Prop} {a0 a1 : V} {h : Heap} (hp : p_field_keep L K a0 a1 h) : Cf F L i_field_keep [a0, a1] h K :=
  wcallp F_field_keep (show 2 ≤ 23 by decide) (p := p_field_keep L K a0 a1 h) (by kernel_rfl) hp
def p_field_without_1 (L : FuncId → List V → V → Prop) (K : V → Heap → Prop) (a0 a1 : V) (h : Heap) : Prop :=
    (wi F L (.box (.c a0)) E0 h fun v2 h =>
    (wi F L (.load false 1 (.c a1)) E0 h fun v4 h' => Ext h h' ∧
    (wi F L (.faddr 0 (.c v2)) E0 h' fun v5 h => Ext h' h ∧
    (wi F L (.load false 1 (.c v5)) E0 h fun v6 h' => Ext h h' ∧
    (wi F L (.call i_token_Lower [(.c v6)]) E0 h' fun v7 h => Ext h' h ∧
    (wi F L (.lookup .s (.bool false) false (.c v4) (.c v7)) E0 h fun v8 h =>
    (wi F L (.un .not (.c v8)) E0 h fun v9 h =>
    (∃ v, some v9 = some v ∧ K v h))))))))
theorem run_field_without_1 {L : FuncId → List V → V → Prop} {K : V → Heap → Prop} {a0 a1 : V} {h : Heap} (hp : p_field_without_1 L K a0 a1 h) : Cf F L i_field_without_1 [a0, a1] h K :=
  wcallp F_field_without_1 (show 2 ≤ 10 by decide) (p := p_field_without_1 L K a0 a1 h) (by kernel_rfl) hp
def k_slices_IndexFunc___gatepost_api_Field_gatepost_api_Field__0 (L : FuncId → List V → V → Prop) (K : V → Heap → Prop) (h : Heap) : Prop :=
    (∃ v, some (.int .i64 (-1)) = some v ∧ K v h)
def k_slices_IndexFunc___gatepost_api_Field_gatepost_api_Field__2 (L : FuncId → List V → V → Prop) (K : V → Heap → Prop) (N0 : Env → Heap → Prop) (e : Env) (v8 : V) (h : Heap) : Prop :=
    (wi F L (.bin .add (.c v8) (.c (.int .i64 1))) E0 h fun v18 h =>
    (N0 (upd (upd e 18 v18) 8 v18) h))
def k_slices_IndexFunc___gatepost_api_Field_gatepost_api_Field__1 (L : FuncId → List V → V → Prop) (K : V → Heap → Prop) (N0 : Env → Heap → Prop) (e : Env) (v0 v1 v8 : V) (h : Heap) : Prop :=
    (wi F L (.ixaSl 2 (.c v0) (.c v8)) E0 h fun v14 h =>
    (wi F L (.load true 2 (.c v14)) E0 h fun v15 h =>
    (wi F L (.callv (.c v1) [(.c v15)]) E0 h fun v16 h =>
    (wb v16
    (∃ v, some v8 = some v ∧ K v h)
    (k_slices_IndexFunc___gatepost_api_Field_gatepost_api_Field__2 L K N0 (upd (upd (upd (upd (upd (upd (upd (upd e 10 v8) 5 v8) 11 v1) 12 v0) 13 v8) 14 v14) 15 v15) 16 v16) v8 h)))))
def q_slices_IndexFunc___gatepost_api_Field_gatepost_api_Field__0 (L : FuncId → List V → V → Prop) (K : V → Heap → Prop) : X → Env → Heap → Prop := (fun x => (seqX (fun e h => k_slices_IndexFunc___gatepost_api_Field_gatepost_api_Field__0 L K  h) (retX c_slices_IndexFunc___gatepost_api_Field_gatepost_api_Field_.results K)) (X.out 0 x))
def lc_slices_IndexFunc___gatepost_api_Field_gatepost_api_Field__0 : C :=
  (.seq (.region [⟨(some 9), none, .bin .lss (.t 8) (.t 7)⟩])
  (.seq (.cond (.t 9)
    .skip
    (.exit 0))
  (.seq (.block 1 (.seq (.region [⟨(some 10), none, .mv (.t 8)⟩, ⟨(some 5), none, .mv (.t 10)⟩])
  (.seq (.region [⟨(some 11), none, .mv (.t 1)⟩, ⟨(some 12), none, .mv (.t 0)⟩, ⟨(some 13), none, .mv (.t 5)⟩, ⟨(some 14), none, .ixaSl 2 (.t 12) (.t 13)⟩, ⟨(some 15), none, .load true 2 (.t 14)⟩, ⟨(some 16), none, .callv (.t 11) [(.t 15)]⟩])
  (.cond (.t 16)
    (.seq (.region [⟨(some 17), none, .mv (.t 5)⟩, ⟨(some 4), none, .mv (.t 17)⟩])
    .ret)
    .skip))))
  (.region [⟨(some 18), none, .bin .add (.t 8) (.c (.int .i64 1))⟩, ⟨(some 8), none, .mv (.t 18)⟩]))))
def b_slices_IndexFunc___gatepost_api_Field_gatepost_api_Field__0 (L : FuncId → List V → V → Prop) (K : V → Heap → Prop) (N0 : Env → Heap → Prop) (e : Env) (h : Heap) : Prop :=
    (wi F L (.bin .lss (.c (e 8)) (.c (e 7))) E0 h fun v9 h =>
    (wb v9
    (k_slices_IndexFunc___gatepost_api_Field_gatepost_api_Field__1 L K N0 (upd e 9 v9) (e 0) (e 1) (e 8) h)
    (k_slices_IndexFunc___gatepost_api_Field_gatepost_api_Field__0 L K  h)))
theorem l_slices_IndexFunc___gatepost_api_Field_gatepost_api_Field__0 {L : FuncId → List V → V → Prop} {K : V → Heap → Prop} (I : Nat → Env → Heap → Prop) (hr : ∀ n e h, I n e h → b_slices_IndexFunc___gatepost_api_Field_gatepost_api_Field__0 L K (fun e' h' => ∃ m, m < n ∧ I m e' h') e h) {n : Nat} {e : Env} {h : Heap} (hi : I n e h) : Wl F L lc_slices_IndexFunc___gatepost_api_Field_gatepost_api_Field__0 (q_slices_IndexFunc___gatepost_api_Field_gatepost_api_Field__0 L K) e h :=
  wloopp (b := b_slices_IndexFunc___gatepost_api_Field_gatepost_api_Field__0 L K) I (fun _ _ _ => by kernel_rfl) hr hi
def p_slices_IndexFunc___gatepost_api_Field_gatepost_api_Field_ (L : FuncId → List V → V → Prop) (K : V → Heap → Prop) (a0 a1 : V) (h : Heap) : Prop :=
    (wi F L (.len 1 (.c a0)) E0 h fun v7 h =>
    (Wl F L lc_slices_IndexFunc___gatepost_api_Field_gatepost_api_Field__0 (q_slices_IndexFunc___gatepost_api_Field_gatepost_api_Field__0 L K) (upd (upd (upd (upd (enterE [a0, a1]) 4 (.int .i64 0)) 6 a0) 7 v7) 8 (.int .i64 0)) h))
theorem run_slices_IndexFunc___gatepost_api_Field_gatepost_api_Field_ {L : FuncId → List V → V → Prop} {K : V → Heap → Prop} {a0 a1 : V} {h : Heap} (hp : p_slices_IndexFunc___gatepost_api_Field_gatepost_api_Field_ L K a0 a1 h) : Cf F L i_slices_IndexFunc___gatepost_api_Field_gatepost_api_Field_ [a0, a1] h K :=
  wcallp F_slices_IndexFunc___gatepost_api_Field_gatepost_api_Field_ (show 2 ≤ 19 by decide) (p := p_slices_IndexFunc___gatepost_api_Field_gatepost_api_Field_ L K a0 a1 h) (by kernel_rfl) hp
def p_control_rules (L : FuncId → List V → V → Prop) (K : V → Heap → Prop) (h : Heap) : Prop :=
    (wi F L (.mkmap) E0 h fun v4 h =>
    (wi F L (.boxz [.nmap]) E0 h fun v1 h =>
    (wi F L (.store 1 (.c v1) (.c v4)) E0 h fun _ h =>
    (wi F L (.mkfn i_control_rules_1 [(.c v1)]) E0 h fun v5 h =>
    (wi F L (.mkfn i_control_rules_2 [(.c v1)]) E0 h fun v6 h =>
    (wi F L (.callv (.c v5) [(.c (.str [110, 111, 45, 115, 116, 111, 114, 101])), (.c (.fn i_control_rules_3 []))]) E0 h fun v8 h =>
    (wi F L (.callv (.c v5) [(.c (.str [110, 111, 45, 99, 97, 99, 104, 101])), (.c (.fn i_control_rules_4 []))]) E0 h fun v10 h =>
    (wi F L (.callv (.c v5) [(.c (.str [112, 114, 105, 118, 97, 116, 101])), (.c (.fn i_control_rules_5 []))]) E0 h fun v12 h =>
    (wi F L (.callv (.c v5) [(.c (.str [112, 117, 98, 108, 105, 99])), (.c (.fn i_control_rules_6 []))]) E0 h fun v14 h =>
    (wi F L (.callv (.c v5) [(.c (.str [109, 117, 115, 116, 45, 114, 101, 118, 97, 108, 105, 100, 97, 116, 101])), (.c (.fn i_control_rules_7 []))]) E0 h fun v16 h =>
    (wi F L (.callv (.c v5) [(.c (.str [112, 114, 111, 120, 121, 45, 114, 101, 118, 97, 108, 105, 100, 97, 116, 101])), (.c (.fn i_control_rules_8 []))]) E0 h fun v18 h =>
    (wi F L (.callv (.c v5) [(.c (.str [111, 110, 108, 121, 45, 105, 102, 45, 99, 97, 99, 104, 101, 100])), (.c (.fn i_control_rules_9 []))]) E0 h fun v20 h =>
    (wi F L (.callv (.c v6) [(.c (.str [109, 97, 120, 45, 97, 103, 101])), (.c (.int .i64 0)), (.c (.int .i64 0)), (.c (.fn i_control_rules_10 []))]) E0 h fun v22 h =>
    (wi F L (.callv (.c v6) [(.c (.str [115, 45, 109, 97, 120, 97, 103, 101])), (.c (.int .i64 0)), (.c (.int .i64 0)), (.c (.fn i_control_rules_11 []))]) E0 h fun v24 h =>
    (wi F L (.callv (.c v6) [(.c (.str [115, 116, 97, 108, 101, 45, 119, 104, 105, 108, 101, 45, 114, 101, 118, 97, 108, 105, 100, 97, 116, 101])), (.c (.int .i64 (-1))), (.c (.int .i64 (-1))), (.c (.fn i_control_rules_12 []))]) E0 h fun v26 h =>
    (wi F L (.callv (.c v6) [(.c (.str [115, 116, 97, 108, 101, 45, 105, 102, 45, 101, 114, 114, 111, 114])), (.c (.int .i64 (-1))), (.c (.int .i64 (-1))), (.c (.fn i_control_rules_13 []))]) E0 h fun v28 h =>
    (wi F L (.callv (.c v6) [(.c (.str [109, 105, 110, 45, 102, 114, 101, 115, 104])), (.c (.int .i64 (-1))), (.c (.int .i64 (-1))), (.c (.fn i_control_rules_14 []))]) E0 h fun v30 h =>
    (wi F L (.callv (.c v6) [(.c (.str [109, 97, 120, 45, 115, 116, 97, 108, 101])), (.c (.int .i64 2147483648)), (.c (.int .i64 (-1))), (.c (.fn i_control_rules_15 []))]) E0 h fun v32 h =>
    (wi F L (.load false 1 (.c v1)) E0 h fun v33 h =>
    (∃ v, some v33 = some v ∧ K v h))))))))))))))))))))
theorem run_control_rules {L : FuncId → List V → V → Prop} {K : V → Heap → Prop} {h : Heap} (hp : p_control_rules L K  h) : Cf F L i_control_rules [] h K :=
  wcallp F_control_rules (show 0 ≤ 34 by decide) (p := p_control_rules L K  h) (by kernel_rfl) hp
def k_token_Pair_2 (L : FuncId → List V → V → Prop) (K : V → Heap → Prop) (v2 v3 : V) (h : Heap) : Prop :=
    (∃ v, resultsV h (enterE [v2, v3, (.bool true), (.bool true)]) [.tmp 0, .tmp 1, .tmp 2, .tmp 3] = some v ∧ K v h)
def k_token_Pair_1 (L : FuncId → List V → V → Prop) (K : V → Heap → Prop) (v2 v3 : V) (h : Heap) : Prop :=
    (wi F L (.call i_token_unquote [(.c v3)]) E0 h fun v26 h =>
    (wi F L (.ext 0 (.c v26)) E0 h fun v27 h =>
    (wi F L (.ext 1 (.c v26)) E0 h fun v28 h =>
    (wi F L (.un .not (.c v28)) E0 h fun v30 h =>
    (wb v30
    (∃ v, resultsV h (enterE [(.str []), (.str []), (.bool false), (.bool false)]) [.tmp 0, .tmp 1, .tmp 2, .tmp 3] = some v ∧ K v h)
    (k_token_Pair_2 L K v2 v27 h))))))
def k_token_Pair_0 (L : FuncId → List V → V → Prop) (K : V → Heap → Prop) (v2 v3 v4 : V) (h : Heap) : Prop :=
    (wi F L (.un .not (.c v4)) E0 h fun v16 h =>
    (wg v16 false (wi F L (.mv (.c v3)) E0 h) h fun v18 h =>
    (wg v16 false (wi F L (.call i_token_Is [(.c v18)]) E0 h) h fun v19 h =>
    (wi F L (.pick (.c v16) (.c (.bool true)) (.c v19)) E0 h fun v20 h =>
    (wb v20
    (∃ v, resultsV h (enterE [v2, v3, v4, (.bool true)]) [.tmp 0, .tmp 1, .tmp 2, .tmp 3] = some v ∧ K v h)
    (k_token_Pair_1 L K v2 v3 h))))))
def p_token_Pair (L : FuncId → List V → V → Prop) (K : V → Heap → Prop) (a0 : V) (h : Heap) : Prop :=
    (wi F L (.call i_strings_Cut [(.c a0), (.c (.str [61]))]) E0 h fun v8 h =>
    (wi F L (.ext 0 (.c v8)) E0 h fun v9 h =>
    (wi F L (.ext 1 (.c v8)) E0 h fun v10 h =>
    (wi F L (.ext 2 (.c v8)) E0 h fun v11 h =>
    (wi F L (.call i_token_Is [(.c v9)]) E0 h fun v13 h =>
    (wi F L (.un .not (.c v13)) E0 h fun v14 h =>
    (wb v14
    (∃ v, resultsV h (enterE [(.str []), (.str []), (.bool false), (.bool false)]) [.tmp 0, .tmp 1, .tmp 2, .tmp 3] = some v ∧ K v h)
    (k_token_Pair_0 L K v9 v10 v11 h))))))))
theorem run_token_Pair {L : FuncId → List V → V → Prop} {K : V → Heap → Prop} {a0 : V} {h : Heap} (hp : p_token_Pair L K a0 h) : Cf F L i_token_Pair [a0] h K :=
  wcallp F_token_Pair (show 1 ≤ 33 by decide) (p := p_token_Pair L K a0 h) (by kernel_rfl) hp
def k__gatepost_control_rule__value_1 (L : FuncId → List V → V → Prop) (K : V → Heap → Prop) (v3 : V) (h : Heap) : Prop :=
    (wi F L (.faddr 3 (.c v3)) E0 h fun v20 h =>
    (wi F L (.load false 1 (.c v20)) E0 h fun v21 h =>
    (∃ v, some v21 = some v ∧ K v h)))
def k__gatepost_control_rule__value_0 (L : FuncId → List V → V → Prop) (K : V → Heap → Prop) (v1 v3 : V) (h : Heap) : Prop :=
    (wi F L (.call i_token_Number [(.c v1), (.c (.int .i64 2147483648))]) E0 h fun v15 h =>
    (wi F L (.ext 0 (.c v15)) E0 h fun v16 h =>
    (wi F L (.ext 1 (.c v15)) E0 h fun v17 h =>
    (wb v17
    (∃ v, some v16 = some v ∧ K v h)
    (k__gatepost_control_rule__value_1 L K v3 h)))))
def p__gatepost_control_rule__value (L : FuncId → List V → V → Prop) (K : V → Heap → Prop) (a0 a1 a2 : V) (h : Heap) : Prop :=
    (wi F L (.box (.c a0)) E0 h fun v3 h =>
    (wi F L (.un .not (.c a2)) E0 h fun v10 h =>
    (wb v10
    (wi F L (.faddr 2 (.c v3)) E0 h fun v11 h =>
    (wi F L (.load false 1 (.c v11)) E0 h fun v12 h =>
    (∃ v, some v12 = some v ∧ K v h)))
    (k__gatepost_control_rule__value_0 L K a1 v3 h))))
theorem run__gatepost_control_rule__value {L : FuncId → List V → V → Prop} {K : V → Heap → Prop} {a0 a1 a2 : V} {h : Heap} (hp : p__gatepost_control_rule__value L K a0 a1 a2 h) : Cf F L i__gatepost_control_rule__value [a0, a1, a2] h K :=
  wcallp F__gatepost_control_rule__value (show 3 ≤ 22 by decide) (p := p__gatepost_control_rule__value L K a0 a1 a2 h) (by kernel_rfl) hp
def k_slices_Index___string_string__0 (L : FuncId → List V → V → Prop) (K : V → Heap → Prop) (h : Heap) : Prop :=
    (∃ v, some (.int .i64 (-1)) = some v ∧ K v h)
def k_slices_Index___string_string__2 (L : FuncId → List V → V → Prop) (K : V → Heap → Prop) (N0 : Env → Heap → Prop) (e : Env) (v8 : V) (h : Heap) : Prop :=
    (wi F L (.bin .add (.c v8) (.c (.int .i64 1))) E0 h fun v18 h =>
    (N0 (upd (upd e 18 v18) 8 v18) h))
def k_slices_Index___string_string__1 (L : FuncId → List V → V → Prop) (K : V → Heap → Prop) (N0 : Env → Heap → Prop) (e : Env) (v0 v1 v8 : V) (h : Heap) : Prop :=
    (wi F L (.ixaSl 1 (.c v0) (.c v8)) E0 h fun v14 h =>
    (wi F L (.load false 1 (.c v14)) E0 h fun v15 h =>
    (wi F L (.bin .eql (.c v1) (.c v15)) E0 h fun v16 h =>
    (wb v16
    (∃ v, some v8 = some v ∧ K v h)
    (k_slices_Index___string_string__2 L K N0 (upd (upd (upd (upd (upd (upd (upd (upd e 10 v8) 5 v8) 11 v1) 12 v0) 13 v8) 14 v14) 15 v15) 16 v16) v8 h)))))
def q_slices_Index___string_string__0 (L : FuncId → List V → V → Prop) (K : V → Heap → Prop) : X → Env → Heap → Prop := (fun x => (seqX (fun e h => k_slices_Index___string_string__0 L K  h) (retX c_slices_Index___string_string_.results K)) (X.out 0 x))
def lc_slices_Index___string_string__0 : C :=
  (.seq (.region [⟨(some 9), none, .bin .lss (.t 8) (.t 7)⟩])
  (.seq (.cond (.t 9)
    .skip
    (.exit 0))
  (.seq (.block 1 (.seq (.region [⟨(some 10), none, .mv (.t 8)⟩, ⟨(some 5), none, .mv (.t 10)⟩])
  (.seq (.region [⟨(some 11), none, .mv (.t 1)⟩, ⟨(some 12), none, .mv (.t 0)⟩, ⟨(some 13), none, .mv (.t 5)⟩, ⟨(some 14), none, .ixaSl 1 (.t 12) (.t 13)⟩, ⟨(some 15), none, .load false 1 (.t 14)⟩, ⟨(some 16), none, .bin .eql (.t 11) (.t 15)⟩])
  (.cond (.t 16)
    (.seq (.region [⟨(some 17), none, .mv (.t 5)⟩, ⟨(some 4), none, .mv (.t 17)⟩])
    .ret)
    .skip))))
  (.region [⟨(some 18), none, .bin .add (.t 8) (.c (.int .i64 1))⟩, ⟨(some 8), none, .mv (.t 18)⟩]))))
def b_slices_Index___string_string__0 (L : FuncId → List V → V → Prop) (K : V → Heap → Prop) (N0 : Env → Heap → Prop) (e : Env) (h : Heap) : Prop :=
    (wi F L (.bin .lss (.c (e 8)) (.c (e 7))) E0 h fun v9 h =>
    (wb v9
    (k_slices_Index___string_string__1 L K N0 (upd e 9 v9) (e 0) (e 1) (e 8) h)
    (k_slices_Index___string_string__0 L K  h)))
theorem l_slices_Index___string_string__0 {L : FuncId → List V → V → Prop} {K : V → Heap → Prop} (I : Nat → Env → Heap → Prop) (hr : ∀ n e h, I n e h → b_slices_Index___string_string__0 L K (fun e' h' => ∃ m, m < n ∧ I m e' h') e h) {n : Nat} {e : Env} {h : Heap} (hi : I n e h) : Wl F L lc_slices_Index___string_string__0 (q_slices_Index___string_string__0 L K) e h :=
  wloopp (b := b_slices_Index___string_string__0 L K) I (fun _ _ _ => by kernel_rfl) hr hi
def p_slices_Index___string_string_ (L : FuncId → List V → V → Prop) (K : V → Heap → Prop) (a0 a1 : V) (h : Heap) : Prop :=
    (wi F L (.len 1 (.c a0)) E0 h fun v7 h =>
    (Wl F L lc_slices_Index___string_string__0 (q_slices_Index___string_string__0 L K) (upd (upd (upd (upd (enterE [a0, a1]) 4 (.int .i64 0)) 6 a0) 7 v7) 8 (.int .i64 0)) h))
theorem run_slices_Index___string_string_ {L : FuncId → List V → V → Prop} {K : V → Heap → Prop} {a0 a1 : V} {h : Heap} (hp : p_slices_Index___string_string_ L K a0 a1 h) : Cf F L i_slices_Index___string_string_ [a0, a1] h K :=
  wcallp F_slices_Index___string_string_ (show 2 ≤ 19 by decide) (p := p_slices_Index___string_string_ L K a0 a1 h) (by kernel_rfl) hp
def p_date_fixed (L : FuncId → List V → V → Prop) (K : V → Heap → Prop) (a0 : V) (h : Heap) : Prop :=
    (wi F L (.call i___gatepost_date_reader__day [(.c a0), (.c (.bool false))]) E0 h fun v10 h =>
    (wi F L (.call i___gatepost_date_reader__need [(.c a0), (.c (.str [44, 32]))]) E0 h fun v12 h =>
    (wi F L (.call i___gatepost_date_reader__number [(.c a0), (.c (.int .i64 2))]) E0 h fun v14 h =>
    (wi F L (.call i___gatepost_date_reader__need [(.c a0), (.c (.str [32]))]) E0 h fun v16 h =>
    (wi F L (.call i___gatepost_date_reader__month [(.c a0)]) E0 h fun v18 h =>
    (wi F L (.call i___gatepost_date_reader__need [(.c a0), (.c (.str [32]))]) E0 h fun v20 h =>
    (wi F L (.call i___gatepost_date_reader__number [(.c a0), (.c (.int .i64 4))]) E0 h fun v22 h =>
    (wi F L (.call i___gatepost_date_reader__need [(.c a0), (.c (.str [32]))]) E0 h fun v24 h =>
    (wi F L (.call i___gatepost_date_reader__clock [(.c a0)]) E0 h fun v26 h =>
    (wi F L (.call i___gatepost_date_reader__need [(.c a0), (.c (.str [32, 71, 77, 84]))]) E0 h fun v28 h =>
    (wi F L (.call i___gatepost_date_reader__second [(.c a0), (.c v10), (.c v22), (.c v18), (.c v14), (.c v26)]) E0 h fun v35 h =>
    (wi F L (.ext 0 (.c v35)) E0 h fun v36 h =>
    (wi F L (.ext 1 (.c v35)) E0 h fun v37 h =>
    (∃ v, resultsV h (enterE [v36, v37]) [.tmp 0, .tmp 1] = some v ∧ K v h))))))))))))))
theorem run_date_fixed {L : FuncId → List V → V → Prop} {K : V → Heap → Prop} {a0 : V} {h : Heap} (hp : p_date_fixed L K a0 h) : Cf F L i_date_fixed [a0] h K :=
  wcallp F_date_fixed (show 1 ≤ 38 by decide) (p := p_date_fixed L K a0 h) (by kernel_rfl) hp
def k_date_old_0 (L : FuncId → List V → V → Prop) (K : V → Heap → Prop) (v0 v4 v5 v6 v7 v8 : V) (h : Heap) : Prop :=
    (wi F L (.call i___gatepost_date_reader__second [(.c v0), (.c v4), (.c v7), (.c v6), (.c v5), (.c v8)]) E0 h fun v41 h =>
    (wi F L (.ext 0 (.c v41)) E0 h fun v42 h =>
    (wi F L (.ext 1 (.c v41)) E0 h fun v43 h =>
    (∃ v, resultsV h (enterE [v42, v43]) [.tmp 0, .tmp 1] = some v ∧ K v h))))
def p_date_old (L : FuncId → List V → V → Prop) (K : V → Heap → Prop) (a0 : V) (h : Heap) : Prop :=
    (wi F L (.call i___gatepost_date_reader__day [(.c a0), (.c (.bool true))]) E0 h fun v10 h =>
    (wi F L (.call i___gatepost_date_reader__need [(.c a0), (.c (.str [44, 32]))]) E0 h fun v12 h =>
    (wi F L (.call i___gatepost_date_reader__number [(.c a0), (.c (.int .i64 2))]) E0 h fun v14 h =>
    (wi F L (.call i___gatepost_date_reader__need [(.c a0), (.c (.str [45]))]) E0 h fun v16 h =>
    (wi F L (.call i___gatepost_date_reader__month [(.c a0)]) E0 h fun v18 h =>
    (wi F L (.call i___gatepost_date_reader__need [(.c a0), (.c (.str [45]))]) E0 h fun v20 h =>
    (wi F L (.call i___gatepost_date_reader__number [(.c a0), (.c (.int .i64 2))]) E0 h fun v22 h =>
    (wi F L (.call i___gatepost_date_reader__need [(.c a0), (.c (.str [32]))]) E0 h fun v24 h =>
    (wi F L (.call i___gatepost_date_reader__clock [(.c a0)]) E0 h fun v26 h =>
    (wi F L (.call i___gatepost_date_reader__need [(.c a0), (.c (.str [32, 71, 77, 84]))]) E0 h fun v28 h =>
    (wi F L (.bin .geq (.c v22) (.c (.int .i64 70))) E0 h fun v30 h =>
    (wb v30
    (wi F L (.bin .add (.c v22) (.c (.int .i64 1900))) E0 h fun v32 h =>
    (k_date_old_0 L K a0 v10 v14 v18 v32 v26 h))
    (wi F L (.bin .add (.c v22) (.c (.int .i64 2000))) E0 h fun v34 h =>
    (k_date_old_0 L K a0 v10 v14 v18 v34 v26 h))))))))))))))
theorem run_date_old {L : FuncId → List V → V → Prop} {K : V → Heap → Prop} {a0 : V} {h : Heap} (hp : p_date_old L K a0 h) : Cf F L i_date_old [a0] h K :=
  wcallp F_date_old (show 1 ≤ 44 by decide) (p := p_date_old L K a0 h) (by kernel_rfl) hp
def k_date_plain_0 (L : FuncId → List V → V → Prop) (K : V → Heap → Prop) (v0 v4 v5 v6 : V) (h : Heap) : Prop :=
    (wi F L (.call i___gatepost_date_reader__number [(.c v0), (.c v6)]) E0 h fun v36 h =>
    (wi F L (.call i___gatepost_date_reader__need [(.c v0), (.c (.str [32]))]) E0 h fun v38 h =>
    (wi F L (.call i___gatepost_date_reader__clock [(.c v0)]) E0 h fun v40 h =>
    (wi F L (.call i___gatepost_date_reader__need [(.c v0), (.c (.str [32]))]) E0 h fun v42 h =>
    (wi F L (.call i___gatepost_date_reader__number [(.c v0), (.c (.int .i64 4))]) E0 h fun v44 h =>
    (wi F L (.call i___gatepost_date_reader__second [(.c v0), (.c v4), (.c v44), (.c v5), (.c v36), (.c v40)]) E0 h fun v51 h =>
    (wi F L (.ext 0 (.c v51)) E0 h fun v52 h =>
    (wi F L (.ext 1 (.c v51)) E0 h fun v53 h =>
    (∃ v, resultsV h (enterE [v52, v53]) [.tmp 0, .tmp 1] = some v ∧ K v h)))))))))
def p_date_plain (L : FuncId → List V → V → Prop) (K : V → Heap → Prop) (a0 : V) (h : Heap) : Prop :=
    (wi F L (.call i___gatepost_date_reader__day [(.c a0), (.c (.bool false))]) E0 h fun v11 h =>
    (wi F L (.call i___gatepost_date_reader__need [(.c a0), (.c (.str [32]))]) E0 h fun v13 h =>
    (wi F L (.call i___gatepost_date_reader__month [(.c a0)]) E0 h fun v15 h =>
    (wi F L (.call i___gatepost_date_reader__need [(.c a0), (.c (.str [32]))]) E0 h fun v17 h =>
    (wi F L (.nilck (.c a0)) E0 h fun v19 h =>
    (wi F L (.faddr 0 (.c v19)) E0 h fun v20 h =>
    (wi F L (.load false 1 (.c v20)) E0 h fun v21 h =>
    (wi F L (.len 0 (.c v21)) E0 h fun v22 h =>
    (wi F L (.bin .gtr (.c v22) (.c (.int .i64 0))) E0 h fun v23 h =>
    (wg v23 true (wi F L (.mv (.c a0)) E0 h) h fun v25 h =>
    (wg v23 true (wi F L (.nilck (.c v25)) E0 h) h fun v26 h =>
    (wg v23 true (wi F L (.faddr 0 (.c v26)) E0 h) h fun v27 h =>
    (wg v23 true (wi F L (.load false 1 (.c v27)) E0 h) h fun v28 h =>
    (wg v23 true (wi F L (.ixStr (.c v28) (.c (.int .i64 0))) E0 h) h fun v29 h =>
    (wg v23 true (wi F L (.bin .eql (.c v29) (.c (.int .u8 32))) E0 h) h fun v30 h =>
    (wi F L (.pick (.c v23) (.c v30) (.c (.bool false))) E0 h fun v31 h =>
    (wb v31
    (wi F L (.call i___gatepost_date_reader__take [(.c a0), (.c (.int .i64 1))]) E0 h fun v33 h =>
    (k_date_plain_0 L K a0 v11 v15 (.int .i64 1) h))
    (k_date_plain_0 L K a0 v11 v15 (.int .i64 2) h))))))))))))))))))
theorem run_date_plain {L : FuncId → List V → V → Prop} {K : V → Heap → Prop} {a0 : V} {h : Heap} (hp : p_date_plain L K a0 h) : Cf F L i_date_plain [a0] h K :=
  wcallp F_date_plain (show 1 ≤ 54 by decide) (p := p_date_plain L K a0 h) (by kernel_rfl) hp
def k_strings_Trim_2 (L : FuncId → List V → V → Prop) (K : V → Heap → Prop) (v0 v1 : V) (h : Heap) : Prop :=
    (wi F L (.call i_strings_trimRightUnicode [(.c v0), (.c v1)]) E0 h fun v40 h =>
    (wi F L (.call i_strings_trimLeftUnicode [(.c v40), (.c v1)]) E0 h fun v42 h =>
    (∃ v, some v42 = some v ∧ K v h)))
def k_strings_Trim_1 (L : FuncId → List V → V → Prop) (K : V → Heap → Prop) (v0 v1 : V) (h : Heap) : Prop :=
    (wi F L (.call i_strings_makeASCIISet [(.c v1)]) E0 h fun v31 h =>
    (wi F L (.ext 0 (.c v31)) E0 h fun v32 h =>
    (wi F L (.ext 1 (.c v31)) E0 h fun v33 h =>
    (wi F L (.boxz (List.replicate 256 (.bool false))) E0 h fun v5 h =>
    (wi F L (.store 256 (.c v5) (.c v32)) E0 h fun _ h =>
    (wb v33
    (wi F L (.call i_strings_trimRightASCII [(.c v0), (.c v5)]) E0 h fun v36 h =>
    (wi F L (.call i_strings_trimLeftASCII [(.c v36), (.c v5)]) E0 h fun v37 h =>
    (∃ v, some v37 = some v ∧ K v h)))
    (k_strings_Trim_2 L K v0 v1 h)))))))
def k_strings_Trim_0 (L : FuncId → List V → V → Prop) (K : V → Heap → Prop) (v0 v1 : V) (h : Heap) : Prop :=
    (wi F L (.len 0 (.c v1)) E0 h fun v15 h =>
    (wi F L (.bin .eql (.c v15) (.c (.int .i64 1))) E0 h fun v16 h =>
    (wg v16 true (wi F L (.mv (.c v1)) E0 h) h fun v18 h =>
    (wg v16 true (wi F L (.ixStr (.c v18) (.c (.int .i64 0))) E0 h) h fun v19 h =>
    (wg v16 true (wi F L (.bin .lss (.c v19) (.c (.int .u8 128))) E0 h) h fun v20 h =>
    (wi F L (.pick (.c v16) (.c v20) (.c (.bool false))) E0 h fun v21 h =>
    (wb v21
    (wi F L (.ixStr (.c v1) (.c (.int .i64 0))) E0 h fun v24 h' => Ext h h' ∧
    (wi F L (.call i_strings_trimRightByte [(.c v0), (.c v24)]) E0 h' fun v25 h => Ext h' h ∧
    (wi F L (.ixStr (.c v1) (.c (.int .i64 0))) E0 h fun v27 h' => Ext h h' ∧
    (wi F L (.call i_strings_trimLeftByte [(.c v25), (.c v27)]) E0 h' fun v28 h =>
    (∃ v, some v28 = some v ∧ K v h)))))
    (k_strings_Trim_1 L K v0 v1 h))))))))
def p_strings_Trim (L : FuncId → List V → V → Prop) (K : V → Heap → Prop) (a0 a1 : V) (h : Heap) : Prop :=
    (wi F L (.bin .eql (.c a0) (.c (.str []))) E0 h fun v8 h =>
    (wg v8 false (wi F L (.mv (.c a1)) E0 h) h fun v10 h =>
    (wg v8 false (wi F L (.bin .eql (.c v10) (.c (.str []))) E0 h) h fun v11 h =>
    (wi F L (.pick (.c v8) (.c (.bool true)) (.c v11)) E0 h fun v12 h =>
    (wb v12
    (∃ v, some a0 = some v ∧ K v h)
    (k_strings_Trim_0 L K a0 a1 h))))))
theorem run_strings_Trim {L : FuncId → List V → V → Prop} {K : V → Heap → Prop} {a0 a1 : V} {h : Heap} (hp : p_strings_Trim L K a0 a1 h) : Cf F L i_strings_Trim [a0, a1] h K :=
  wcallp F_strings_Trim (show 2 ≤ 43 by decide) (p := p_strings_Trim L K a0 a1 h) (by kernel_rfl) hp
def k_token_inToken_1 (L : FuncId → List V → V → Prop) (K : V → Heap → Prop) (h : Heap) : Prop :=
    (∃ v, some (.bool false) = some v ∧ K v h)
def k_token_inToken_3 (L : FuncId → List V → V → Prop) (K : V → Heap → Prop) (N0 : Env → Heap → Prop) (e : Env) (v23 : V) (h : Heap) : Prop :=
    (wi F L (.bin .add (.c v23) (.c (.int .i64 1))) E0 h fun v29 h =>
    (N0 (upd (upd e 29 v29) 23 v29) h))
def k_token_inToken_2 (L : FuncId → List V → V → Prop) (K : V → Heap → Prop) (N0 : Env → Heap → Prop) (e : Env) (v0 v22 v23 : V) (h : Heap) : Prop :=
    (wi F L (.ixArr 15 1 false (.c v22) (.c v23)) E0 h fun v25 h =>
    (wi F L (.bin .eql (.c v25) (.c v0)) E0 h fun v28 h =>
    (wb v28
    (∃ v, some (.bool true) = some v ∧ K v h)
    (k_token_inToken_3 L K N0 (upd (upd (upd (upd (upd e 25 v25) 5 v25) 26 v25) 27 v0) 28 v28) v23 h))))
def q_token_inToken_0 (L : FuncId → List V → V → Prop) (K : V → Heap → Prop) : X → Env → Heap → Prop := (fun x => (seqX (fun e h => k_token_inToken_1 L K  h) (retX c_token_inToken.results K)) (X.out 0 x))
def lc_token_inToken_0 : C :=
  (.seq (.region [⟨(some 24), none, .bin .lss (.t 23) (.c (.int .i64 15))⟩])
  (.seq (.cond (.t 24)
    .skip
    (.exit 0))
  (.seq (.block 1 (.seq (.region [⟨(some 25), none, .ixArr 15 1 false (.t 22) (.t 23)⟩, ⟨(some 5), none, .mv (.t 25)⟩])
  (.seq (.region [⟨(some 26), none, .mv (.t 5)⟩, ⟨(some 27), none, .mv (.t 0)⟩, ⟨(some 28), none, .bin .eql (.t 26) (.t 27)⟩])
  (.cond (.t 28)
    (.seq (.region [⟨(some 2), none, .mv (.c (.bool true))⟩])
    .ret)
    .skip))))
  (.region [⟨(some 29), none, .bin .add (.t 23) (.c (.int .i64 1))⟩, ⟨(some 23), none, .mv (.t 29)⟩]))))
def b_token_inToken_0 (L : FuncId → List V → V → Prop) (K : V → Heap → Prop) (N0 : Env → Heap → Prop) (e : Env) (h : Heap) : Prop :=
    (wi F L (.bin .lss (.c (e 23)) (.c (.int .i64 15))) E0 h fun v24 h =>
    (wb v24
    (k_token_inToken_2 L K N0 (upd e 24 v24) (e 0) (e 22) (e 23) h)
    (k_token_inToken_1 L K  h)))
theorem l_token_inToken_0 {L : FuncId → List V → V → Prop} {K : V → Heap → Prop} (I : Nat → Env → Heap → Prop) (hr : ∀ n e h, I n e h → b_token_inToken_0 L K (fun e' h' => ∃ m, m < n ∧ I m e' h') e h) {n : Nat} {e : Env} {h : Heap} (hi : I n e h) : Wl F L lc_token_inToken_0 (q_token_inToken_0 L K) e h :=
  wloopp (b := b_token_inToken_0 L K) I (fun _ _ _ => by kernel_rfl) hr hi
def k_token_inToken_0 (L : FuncId → List V → V → Prop) (K : V → Heap → Prop) (e : Env) (h : Heap) : Prop :=
    (wi F L (.call i_token_marks []) E0 h fun v22 h =>
    (Wl F L lc_token_inToken_0 (q_token_inToken_0 L K) (upd (upd e 22 v22) 23 (.int .i64 0)) h))
def p_token_inToken (L : FuncId → List V → V → Prop) (K : V → Heap → Prop) (a0 : V) (h : Heap) : Prop :=
    (wi F L (.bin .or (.c a0) (.c (.int .u8 32))) E0 h fun v7 h =>
    (wi F L (.bin .geq (.c v7) (.c (.int .u8 97))) E0 h fun v9 h =>
    (wg v9 true (wi F L (.mv (.c v7)) E0 h) h fun v11 h =>
    (wg v9 true (wi F L (.bin .leq (.c v11) (.c (.int .u8 122))) E0 h) h fun v12 h =>
    (wi F L (.pick (.c v9) (.c v12) (.c (.bool false))) E0 h fun v13 h =>
    (wg v13 false (wi F L (.mv (.c a0)) E0 h) h fun v15 h =>
    (wg v13 false (wi F L (.bin .geq (.c v15) (.c (.int .u8 48))) E0 h) h fun v16 h =>
    (wg v13 false (wi F L (.mv (.c v16)) E0 h) h fun v17 h =>
    (wg v17 true (wi F L (.mv (.c a0)) E0 h) h fun v18 h =>
    (wg v17 true (wi F L (.bin .leq (.c v18) (.c (.int .u8 57))) E0 h) h fun v19 h =>
    (wg v13 false (wi F L (.pick (.c v17) (.c v19) (.c (.bool false))) E0 h) h fun v20 h =>
    (wi F L (.pick (.c v13) (.c (.bool true)) (.c v20)) E0 h fun v21 h =>
    (wb v21
    (∃ v, some (.bool true) = some v ∧ K v h)
    (k_token_inToken_0 L K (upd (upd (upd (upd (upd (upd (upd (upd (upd (upd (upd (upd (upd (upd (upd (upd (upd (upd (enterE [a0]) 2 (.bool false)) 6 a0) 7 v7) 3 v7) 8 v7) 9 v9) 10 v9) 11 v11) 12 v12) 13 v13) 14 v13) 15 v15) 16 v16) 17 v17) 18 v18) 19 v19) 20 v20) 21 v21)  h))))))))))))))
theorem run_token_inToken {L : FuncId → List V → V → Prop} {K : V → Heap → Prop} {a0 : V} {h : Heap} (hp : p_token_inToken L K a0 h) : Cf F L i_token_inToken [a0] h K :=
  wcallp F_token_inToken (show 1 ≤ 30 by decide) (p := p_token_inToken L K a0 h) (by kernel_rfl) hp
def p_control_rules_1 (L : FuncId → List V → V → Prop) (K : V → Heap → Prop) (a0 a1 a2 : V) (h : Heap) : Prop :=
    (wi F L (.load false 1 (.c a2)) E0 h fun v5 h =>
    (wi F L (.build [.nfn, .nfn, (.int .i64 0), (.int .i64 0)] [(0, 1, (.c a1))]) E0 h fun v8 h =>
    (wi F L (.mapset .s (.c v5) (.c a0) (.c v8)) E0 h fun _ h =>
    (∃ v, resultsV h (enterE []) [] = some v ∧ K v h))))
theorem run_control_rules_1 {L : FuncId → List V → V → Prop} {K : V → Heap → Prop} {a0 a1 a2 : V} {h : Heap} (hp : p_control_rules_1 L K a0 a1 a2 h) : Cf F L i_control_rules_1 [a0, a1, a2] h K :=
  wcallp F_control_rules_1 (show 3 ≤ 9 by decide) (p := p_control_rules_1 L K a0 a1 a2 h) (by kernel_rfl) hp
def p_control_rules_2 (L : FuncId → List V → V → Prop) (K : V → Heap → Prop) (a0 a1 a2 a3 a4 : V) (h : Heap) : Prop :=
    (wi F L (.load false 1 (.c a4)) E0 h fun v9 h =>
    (wi F L (.build [.nfn, .nfn, (.int .i64 0), (.int .i64 0)] [(1, 1, (.c a3)), (2, 1, (.c a1)), (3, 1, (.c a2))]) E0 h fun v14 h =>
    (wi F L (.mapset .s (.c v9) (.c a0) (.c v14)) E0 h fun _ h =>
    (∃ v, resultsV h (enterE []) [] = some v ∧ K v h))))
theorem run_control_rules_2 {L : FuncId → List V → V → Prop} {K : V → Heap → Prop} {a0 a1 a2 a3 a4 : V} {h : Heap} (hp : p_control_rules_2 L K a0 a1 a2 a3 a4 h) : Cf F L i_control_rules_2 [a0, a1, a2, a3, a4] h K :=
  wcallp F_control_rules_2 (show 5 ≤ 15 by decide) (p := p_control_rules_2 L K a0 a1 a2 a3 a4 h) (by kernel_rfl) hp
def p_control_rules_3 (L : FuncId → List V → V → Prop) (K : V → Heap → Prop) (a0 : V) (h : Heap) : Prop :=
    (wi F L (.nilck (.c a0)) E0 h fun v3 h =>
    (wi F L (.faddr 0 (.c v3)) E0 h fun v4 h =>
    (wi F L (.store 1 (.c v4) (.c (.bool true))) E0 h fun _ h =>
    (∃ v, resultsV h (enterE []) [] = some v ∧ K v h))))
theorem run_control_rules_3 {L : FuncId → List V → V → Prop} {K : V → Heap → Prop} {a0 : V} {h : Heap} (hp : p_control_rules_3 L K a0 h) : Cf F L i_control_rules_3 [a0] h K :=
  wcallp F_control_rules_3 (show 1 ≤ 5 by decide) (p := p_control_rules_3 L K a0 h) (by kernel_rfl) hp
def p_control_rules_4 (L : FuncId → List V → V → Prop) (K : V → Heap → Prop) (a0 : V) (h : Heap) : Prop :=
    (wi F L (.nilck (.c a0)) E0 h fun v3 h =>
    (wi F L (.faddr 1 (.c v3)) E0 h fun v4 h =>
    (wi F L (.store 1 (.c v4) (.c (.bool true))) E0 h fun _ h =>
    (∃ v, resultsV h (enterE []) [] = some v ∧ K v h))))
theorem run_control_rules_4 {L : FuncId → List V → V → Prop} {K : V → Heap → Prop} {a0 : V} {h : Heap} (hp : p_control_rules_4 L K a0 h) : Cf F L i_control_rules_4 [a0] h K :=
  wcallp F_control_rules_4 (show 1 ≤ 5 by decide) (p := p_control_rules_4 L K a0 h) (by kernel_rfl) hp
def p_control_rules_5 (L : FuncId → List V → V → Prop) (K : V → Heap → Prop) (a0 : V) (h : Heap) : Prop :=
    (wi F L (.nilck (.c a0)) E0 h fun v3 h =>
    (wi F L (.faddr 2 (.c v3)) E0 h fun v4 h =>
    (wi F L (.store 1 (.c v4) (.c (.bool true))) E0 h fun _ h =>
    (∃ v, resultsV h (enterE []) [] = some v ∧ K v h))))
theorem run_control_rules_5 {L : FuncId → List V → V → Prop} {K : V → Heap → Prop} {a0 : V} {h : Heap} (hp : p_control_rules_5 L K a0 h) : Cf F L i_control_rules_5 [a0] h K :=
  wcallp F_control_rules_5 (show 1 ≤ 5 by decide) (p := p_control_rules_5 L K a0 h) (by kernel_rfl) hp
def p_control_rules_6 (L : FuncId → List V → V → Prop) (K : V → Heap → Prop) (a0 : V) (h : Heap) : Prop :=
    (wi F L (.nilck (.c a0)) E0 h fun v3 h =>
    (wi F L (.faddr 3 (.c v3)) E0 h fun v4 h =>
    (wi F L (.store 1 (.c v4) (.c (.bool true))) E0 h fun _ h =>
    (∃ v, resultsV h (enterE []) [] = some v ∧ K v h))))
theorem run_control_rules_6 {L : FuncId → List V → V → Prop} {K : V → Heap → Prop} {a0 : V} {h : Heap} (hp : p_control_rules_6 L K a0 h) : Cf F L i_control_rules_6 [a0] h K :=
  wcallp F_control_rules_6 (show 1 ≤ 5 by decide) (p := p_control_rules_6 L K a0 h) (by kernel_rfl) hp
def p_control_rules_7 (L : FuncId → List V → V → Prop) (K : V → Heap → Prop) (a0 : V) (h : Heap) : Prop :=
    (wi F L (.nilck (.c a0)) E0 h fun v3 h =>
    (wi F L (.faddr 4 (.c v3)) E0 h fun v4 h =>
    (wi F L (.store 1 (.c v4) (.c (.bool true))) E0 h fun _ h =>
    (∃ v, resultsV h (enterE []) [] = some v ∧ K v h))))
theorem run_control_rules_7 {L : FuncId → List V → V → Prop} {K : V → Heap → Prop} {a0 : V} {h : Heap} (hp : p_control_rules_7 L K a0 h) : Cf F L i_control_rules_7 [a0] h K :=
  wcallp F_control_rules_7 (show 1 ≤ 5 by decide) (p := p_control_rules_7 L K a0 h) (by kernel_rfl) hp
def p_control_rules_8 (L : FuncId → List V → V → Prop) (K : V → Heap → Prop) (a0 : V) (h : Heap) : Prop :=
    (wi F L (.nilck (.c a0)) E0 h fun v3 h =>
    (wi F L (.faddr 5 (.c v3)) E0 h fun v4 h =>
    (wi F L (.store 1 (.c v4) (.c (.bool true))) E0 h fun _ h =>
    (∃ v, resultsV h (enterE []) [] = some v ∧ K v h))))
theorem run_control_rules_8 {L : FuncId → List V → V → Prop} {K : V → Heap → Prop} {a0 : V} {h : Heap} (hp : p_control_rules_8 L K a0 h) : Cf F L i_control_rules_8 [a0] h K :=
  wcallp F_control_rules_8 (show 1 ≤ 5 by decide) (p := p_control_rules_8 L K a0 h) (by kernel_rfl) hp
def p_control_rules_9 (L : FuncId → List V → V → Prop) (K : V → Heap → Prop) (a0 : V) (h : Heap) : Prop :=
    (wi F L (.nilck (.c a0)) E0 h fun v3 h =>
    (wi F L (.faddr 6 (.c v3)) E0 h fun v4 h =>
    (wi F L (.store 1 (.c v4) (.c (.bool true))) E0 h fun _ h =>
    (∃ v, resultsV h (enterE []) [] = some v ∧ K v h))))
theorem run_control_rules_9 {L : FuncId → List V → V → Prop} {K : V → Heap → Prop} {a0 : V} {h : Heap} (hp : p_control_rules_9 L K a0 h) : Cf F L i_control_rules_9 [a0] h K :=
  wcallp F_control_rules_9 (show 1 ≤ 5 by decide) (p := p_control_rules_9 L K a0 h) (by kernel_rfl) hp
def p_control_rules_10 (L : FuncId → List V → V → Prop) (K : V → Heap → Prop) (a0 : V) (h : Heap) : Prop :=
    (wi F L (.nilck (.c a0)) E0 h fun v4 h =>
    (wi F L (.faddr 7 (.c v4)) E0 h fun v5 h =>
    (∃ v, some v5 = some v ∧ K v h)))
theorem run_control_rules_10 {L : FuncId → List V → V → Prop} {K : V → Heap → Prop} {a0 : V} {h : Heap} (hp : p_control_rules_10 L K a0 h) : Cf F L i_control_rules_10 [a0] h K :=
  wcallp F_control_rules_10 (show 1 ≤ 6 by decide) (p := p_control_rules_10 L K a0 h) (by kernel_rfl) hp
def p_control_rules_11 (L : FuncId → List V → V → Prop) (K : V → Heap → Prop) (a0 : V) (h : Heap) : Prop :=
    (wi F L (.nilck (.c a0)) E0 h fun v4 h =>
    (wi F L (.faddr 8 (.c v4)) E0 h fun v5 h =>
    (∃ v, some v5 = some v ∧ K v h)))
theorem run_control_rules_11 {L : FuncId → List V → V → Prop} {K : V → Heap → Prop} {a0 : V} {h : Heap} (hp : p_control_rules_11 L K a0 h) : Cf F L i_control_rules_11 [a0] h K :=
  wcallp F_control_rules_11 (show 1 ≤ 6 by decide) (p := p_control_rules_11 L K a0 h) (by kernel_rfl) hp
def p_control_rules_12 (L : FuncId → List V → V → Prop) (K : V → Heap → Prop) (a0 : V) (h : Heap) : Prop :=
    (wi F L (.nilck (.c a0)) E0 h fun v4 h =>
    (wi F L (.faddr 9 (.c v4)) E0 h fun v5 h =>
    (∃ v, some v5 = some v ∧ K v h)))
theorem run_control_rules_12 {L : FuncId → List V → V → Prop} {K : V → Heap → Prop} {a0 : V} {h : Heap} (hp : p_control_rules_12 L K a0 h) : Cf F L i_control_rules_12 [a0] h K :=
  wcallp F_control_rules_12 (show 1 ≤ 6 by decide) (p := p_control_rules_12 L K a0 h) (by kernel_rfl) hp
def p_control_rules_13 (L : FuncId → List V → V → Prop) (K : V → Heap → Prop) (a0 : V) (h : Heap) : Prop :=
    (wi F L (.nilck (.c a0)) E0 h fun v4 h =>
    (wi F L (.faddr 10 (.c v4)) E0 h fun v5 h =>
    (∃ v, some v5 = some v ∧ K v h)))
theorem run_control_rules_13 {L : FuncId → List V → V → Prop} {K : V → Heap → Prop} {a0 : V} {h : Heap} (hp : p_control_rules_13 L K a0 h) : Cf F L i_control_rules_13 [a0] h K :=
  wcallp F_control_rules_13 (show 1 ≤ 6 by decide) (p := p_control_rules_13 L K a0 h) (by kernel_rfl) hp
def p_control_rules_14 (L : FuncId → List V → V → Prop) (K : V → Heap → Prop) (a0 : V) (h : Heap) : Prop :=
    (wi F L (.nilck (.c a0)) E0 h fun v4 h =>
    (wi F L (.faddr 11 (.c v4)) E0 h fun v5 h =>
    (∃ v, some v5 = some v ∧ K v h)))
theorem run_control_rules_14 {L : FuncId → List V → V → Prop} {K : V → Heap → Prop} {a0 : V} {h : Heap} (hp : p_control_rules_14 L K a0 h) : Cf F L i_control_rules_14 [a0] h K :=
  wcallp F_control_rules_14 (show 1 ≤ 6 by decide) (p := p_control_rules_14 L K a0 h) (by kernel_rfl) hp
def p_control_rules_15 (L : FuncId → List V → V → Prop) (K : V → Heap → Prop) (a0 : V) (h : Heap) : Prop :=
    (wi F L (.nilck (.c a0)) E0 h fun v4 h =>
    (wi F L (.faddr 12 (.c v4)) E0 h fun v5 h =>
    (∃ v, some v5 = some v ∧ K v h)))
theorem run_control_rules_15 {L : FuncId → List V → V → Prop} {K : V → Heap → Prop} {a0 : V} {h : Heap} (hp : p_control_rules_15 L K a0 h) : Cf F L i_control_rules_15 [a0] h K :=
  wcallp F_control_rules_15 (show 1 ≤ 6 by decide) (p := p_control_rules_15 L K a0 h) (by kernel_rfl) hp
def p_strings_Cut (L : FuncId → List V → V → Prop) (K : V → Heap → Prop) (a0 a1 : V) (h : Heap) : Prop :=
    (wi F L (.call i_internal_stringslite_Cut [(.c a0), (.c a1)]) E0 h fun v9 h =>
    (wi F L (.ext 0 (.c v9)) E0 h fun v10 h =>
    (wi F L (.ext 1 (.c v9)) E0 h fun v11 h =>
    (wi F L (.ext 2 (.c v9)) E0 h fun v12 h =>
    (∃ v, resultsV h (enterE [v10, v11, v12]) [.tmp 0, .tmp 1, .tmp 2] = some v ∧ K v h)))))
theorem run_strings_Cut {L : FuncId → List V → V → Prop} {K : V → Heap → Prop} {a0 a1 : V} {h : Heap} (hp : p_strings_Cut L K a0 a1 h) : Cf F L i_strings_Cut [a0, a1] h K :=
  wcallp F_strings_Cut (show 2 ≤ 13 by decide) (p := p_strings_Cut L K a0 a1 h) (by kernel_rfl) hp
def k___gatepost_date_reader__day_0 (L : FuncId → List V → V → Prop) (K : V → Heap → Prop) (v0 : V) (h : Heap) : Prop :=
    (wi F L (.nilck (.c v0)) E0 h fun v42 h =>
    (wi F L (.faddr 1 (.c v42)) E0 h fun v43 h =>
    (wi F L (.store 1 (.c v43) (.c (.bool false))) E0 h fun _ h =>
    (∃ v, some (.int .i64 0) = some v ∧ K v h))))
def k___gatepost_date_reader__day_2 (L : FuncId → List V → V → Prop) (K : V → Heap → Prop) (N0 : Env → Heap → Prop) (e : Env) (v8 : V) (h : Heap) : Prop :=
    (wi F L (.bin .add (.c v8) (.c (.int .i64 1))) E0 h fun v40 h =>
    (N0 (upd (upd e 40 v40) 8 v40) h))
def k___gatepost_date_reader__day_3 (L : FuncId → List V → V → Prop) (K : V → Heap → Prop) (N0 : Env → Heap → Prop) (e : Env) (v0 v5 v6 v8 : V) (h : Heap) : Prop :=
    (wi F L (.nilck (.c v0)) E0 h fun v17 h =>
    (wi F L (.faddr 0 (.c v17)) E0 h fun v18 h =>
    (wi F L (.load false 1 (.c v18)) E0 h fun v19 h =>
    (wi F L (.len 0 (.c v19)) E0 h fun v20 h =>
    (wi F L (.len 0 (.c v6)) E0 h fun v22 h =>
    (wi F L (.bin .gtr (.c v20) (.c v22)) E0 h fun v23 h =>
    (wg v23 true (wi F L (.mv (.c v0)) E0 h) h fun v25 h =>
    (wg v23 true (wi F L (.nilck (.c v25)) E0 h) h fun v26 h =>
    (wg v23 true (wi F L (.faddr 0 (.c v26)) E0 h) h fun v27 h =>
    (wg v23 true (wi F L (.load false 1 (.c v27)) E0 h) h fun v28 h =>
    (wg v23 true (wi F L (.mv (.c v6)) E0 h) h fun v29 h =>
    (wg v23 true (wi F L (.len 0 (.c v29)) E0 h) h fun v30 h =>
    (wg v23 true (wi F L (.slstr (.c v28) none (some (.c v30))) E0 h) h fun v31 h =>
    (wg v23 true (wi F L (.mv (.c v6)) E0 h) h fun v32 h =>
    (wg v23 true (wi F L (.bin .eql (.c v31) (.c v32)) E0 h) h fun v33 h =>
    (wi F L (.pick (.c v23) (.c v33) (.c (.bool false))) E0 h fun v34 h =>
    (wb v34
    (wi F L (.len 0 (.c v6)) E0 h fun v37 h =>
    (wi F L (.call i___gatepost_date_reader__take [(.c v0), (.c v37)]) E0 h fun v38 h =>
    (∃ v, some v5 = some v ∧ K v h)))
    (k___gatepost_date_reader__day_2 L K N0 (upd (upd (upd (upd (upd (upd (upd (upd (upd (upd (upd (upd (upd (upd (upd (upd (upd (upd (upd e 16 v0) 17 v17) 18 v18) 19 v19) 20 v20) 21 v6) 22 v22) 23 v23) 24 v23) 25 v25) 26 v26) 27 v27) 28 v28) 29 v29) 30 v30) 31 v31) 32 v32) 33 v33) 34 v34) v8 h))))))))))))))))))
def k___gatepost_date_reader__day_1 (L : FuncId → List V → V → Prop) (K : V → Heap → Prop) (N0 : Env → Heap → Prop) (e : Env) (v0 v1 v7 v8 : V) (h : Heap) : Prop :=
    (wi F L (.ixArr 7 1 false (.c v7) (.c v8)) E0 h fun v11 h =>
    (wi F L (.un .not (.c v1)) E0 h fun v13 h =>
    (wb v13
    (wi F L (.slstr (.c v11) none (some (.c (.int .i64 3)))) E0 h fun v15 h =>
    (k___gatepost_date_reader__day_3 L K N0 (upd (upd (upd (upd (upd (upd (upd (upd (upd e 10 v8) 11 v11) 5 v8) 6 v11) 12 v1) 13 v13) 14 v11) 15 v15) 6 v15) v0 v8 v15 v8 h))
    (k___gatepost_date_reader__day_3 L K N0 (upd (upd (upd (upd (upd (upd e 10 v8) 11 v11) 5 v8) 6 v11) 12 v1) 13 v13) v0 v8 v11 v8 h))))
def q___gatepost_date_reader__day_0 (L : FuncId → List V → V → Prop) (K : V → Heap → Prop) : X → Env → Heap → Prop := (fun x => (seqX (fun e h => k___gatepost_date_reader__day_0 L K (e 0) h) (retX c___gatepost_date_reader__day.results K)) (X.out 0 x))
def lc___gatepost_date_reader__day_0 : C :=
  (.seq (.region [⟨(some 9), none, .bin .lss (.t 8) (.c (.int .i64 7))⟩])
  (.seq (.cond (.t 9)
    .skip
    (.exit 0))
  (.seq (.block 1 (.seq (.region [⟨(some 10), none, .mv (.t 8)⟩, ⟨(some 11), none, .ixArr 7 1 false (.t 7) (.t 8)⟩, ⟨(some 5), none, .mv (.t 10)⟩, ⟨(some 6), none, .mv (.t 11)⟩])
  (.seq (.seq (.region [⟨(some 12), none, .mv (.t 1)⟩, ⟨(some 13), none, .un .not (.t 12)⟩])
  (.cond (.t 13)
    (.region [⟨(some 14), none, .mv (.t 6)⟩, ⟨(some 15), none, .slstr (.t 14) none (some (.c (.int .i64 3)))⟩, ⟨(some 6), none, .mv (.t 15)⟩])
    .skip))
  (.seq (.region [⟨(some 16), none, .mv (.t 0)⟩, ⟨(some 17), none, .nilck (.t 16)⟩, ⟨(some 18), none, .faddr 0 (.t 17)⟩, ⟨(some 19), none, .load false 1 (.t 18)⟩, ⟨(some 20), none, .len 0 (.t 19)⟩, ⟨(some 21), none, .mv (.t 6)⟩, ⟨(some 22), none, .len 0 (.t 21)⟩, ⟨(some 23), none, .bin .gtr (.t 20) (.t 22)⟩, ⟨(some 24), none, .mv (.t 23)⟩, ⟨(some 25), (some (24, true)), .mv (.t 0)⟩, ⟨(some 26), (some (24, true)), .nilck (.t 25)⟩, ⟨(some 27), (some (24, true)), .faddr 0 (.t 26)⟩, ⟨(some 28), (some (24, true)), .load false 1 (.t 27)⟩, ⟨(some 29), (some (24, true)), .mv (.t 6)⟩, ⟨(some 30), (some (24, true)), .len 0 (.t 29)⟩, ⟨(some 31), (some (24, true)), .slstr (.t 28) none (some (.t 30))⟩, ⟨(some 32), (some (24, true)), .mv (.t 6)⟩, ⟨(some 33), (some (24, true)), .bin .eql (.t 31) (.t 32)⟩, ⟨(some 34), none, .pick (.t 24) (.t 33) (.c (.bool false))⟩])
  (.cond (.t 34)
    (.seq (.region [⟨(some 35), none, .mv (.t 0)⟩, ⟨(some 36), none, .mv (.t 6)⟩, ⟨(some 37), none, .len 0 (.t 36)⟩, ⟨(some 38), none, .call i___gatepost_date_reader__take [(.t 35), (.t 37)]⟩])
    (.seq (.region [⟨(some 39), none, .mv (.t 5)⟩, ⟨(some 4), none, .mv (.t 39)⟩])
    .ret))
    .skip)))))
  (.region [⟨(some 40), none, .bin .add (.t 8) (.c (.int .i64 1))⟩, ⟨(some 8), none, .mv (.t 40)⟩]))))
def b___gatepost_date_reader__day_0 (L : FuncId → List V → V → Prop) (K : V → Heap → Prop) (N0 : Env → Heap → Prop) (e : Env) (h : Heap) : Prop :=
    (wi F L (.bin .lss (.c (e 8)) (.c (.int .i64 7))) E0 h fun v9 h =>
    (wb v9
    (k___gatepost_date_reader__day_1 L K N0 (upd e 9 v9) (e 0) (e 1) (e 7) (e 8) h)
    (k___gatepost_date_reader__day_0 L K (e 0) h)))
theorem l___gatepost_date_reader__day_0 {L : FuncId → List V → V → Prop} {K : V → Heap → Prop} (I : Nat → Env → Heap → Prop) (hr : ∀ n e h, I n e h → b___gatepost_date_reader__day_0 L K (fun e' h' => ∃ m, m < n ∧ I m e' h') e h) {n : Nat} {e : Env} {h : Heap} (hi : I n e h) : Wl F L lc___gatepost_date_reader__day_0 (q___gatepost_date_reader__day_0 L K) e h :=
  wloopp (b := b___gatepost_date_reader__day_0 L K) I (fun _ _ _ => by kernel_rfl) hr hi
def p___gatepost_date_reader__day (L : FuncId → List V → V → Prop) (K : V → Heap → Prop) (a0 a1 : V) (h : Heap) : Prop :=
    (wi F L (.call i_date_longDays []) E0 h fun v7 h =>
    (Wl F L lc___gatepost_date_reader__day_0 (q___gatepost_date_reader__day_0 L K) (upd (upd (upd (enterE [a0, a1]) 4 (.int .i64 0)) 7 v7) 8 (.int .i64 0)) h))
theorem run___gatepost_date_reader__day {L : FuncId → List V → V → Prop} {K : V → Heap → Prop} {a0 a1 : V} {h : Heap} (hp : p___gatepost_date_reader__day L K a0 a1 h) : Cf F L i___gatepost_date_reader__day [a0, a1] h K :=
  wcallp F___gatepost_date_reader__day (show 2 ≤ 44 by decide) (p := p___gatepost_date_reader__day L K a0 a1 h) (by kernel_rfl) hp
def p___gatepost_date_reader__need (L : FuncId → List V → V → Prop) (K : V → Heap → Prop) (a0 a1 : V) (h : Heap) : Prop :=
    (wi F L (.len 0 (.c a1)) E0 h fun v6 h =>
    (wi F L (.call i___gatepost_date_reader__take [(.c a0), (.c v6)]) E0 h fun v7 h =>
    (wi F L (.bin .neq (.c v7) (.c a1)) E0 h fun v9 h =>
    (wb v9
    (wi F L (.nilck (.c a0)) E0 h fun v11 h =>
    (wi F L (.faddr 1 (.c v11)) E0 h fun v12 h =>
    (wi F L (.store 1 (.c v12) (.c (.bool false))) E0 h fun _ h =>
    (∃ v, resultsV h (enterE []) [] = some v ∧ K v h))))
    (∃ v, resultsV h (enterE []) [] = some v ∧ K v h)))))
theorem run___gatepost_date_reader__need {L : FuncId → List V → V → Prop} {K : V → Heap → Prop} {a0 a1 : V} {h : Heap} (hp : p___gatepost_date_reader__need L K a0 a1 h) : Cf F L i___gatepost_date_reader__need [a0, a1] h K :=
  wcallp F___gatepost_date_reader__need (show 2 ≤ 13 by decide) (p := p___gatepost_date_reader__need L K a0 a1 h) (by kernel_rfl) hp
def k___gatepost_date_reader__number_0 (L : FuncId → List V → V → Prop) (K : V → Heap → Prop) (v6 : V) (h : Heap) : Prop :=
    (wi F L (.load false 1 (.c v6)) E0 h fun v24 h =>
    (∃ v, some v24 = some v ∧ K v h))
def k___gatepost_date_reader__number_2 (L : FuncId → List V → V → Prop) (K : V → Heap → Prop) (N0 : Env → Heap → Prop) (e : Env) (v15 : V) (h : Heap) : Prop :=
    (wi F L (.bin .add (.c v15) (.c (.int .i64 1))) E0 h fun v23 h =>
    (N0 (upd (upd e 23 v23) 15 v23) h))
def k___gatepost_date_reader__number_1 (L : FuncId → List V → V → Prop) (K : V → Heap → Prop) (N0 : Env → Heap → Prop) (e : Env) (v5 v7 v15 : V) (h : Heap) : Prop :=
    (wi F L (.ixStr (.c v5) (.c v15)) E0 h fun v21 h =>
    (wi F L (.callv (.c v7) [(.c v21)]) E0 h fun v22 h =>
    (k___gatepost_date_reader__number_2 L K N0 (upd (upd (upd (upd (upd (upd (upd e 17 v15) 8 v15) 18 v7) 19 v5) 20 v15) 21 v21) 22 v22) v15 h)))
def q___gatepost_date_reader__number_0 (L : FuncId → List V → V → Prop) (K : V → Heap → Prop) : X → Env → Heap → Prop := (fun x => (seqX (fun e h => k___gatepost_date_reader__number_0 L K (e 6) h) (retX c___gatepost_date_reader__number.results K)) (X.out 0 x))
def lc___gatepost_date_reader__number_0 : C :=
  (.seq (.region [⟨(some 16), none, .bin .lss (.t 15) (.t 14)⟩])
  (.seq (.cond (.t 16)
    .skip
    (.exit 0))
  (.seq (.block 1 (.seq (.region [⟨(some 17), none, .mv (.t 15)⟩, ⟨(some 8), none, .mv (.t 17)⟩])
  (.region [⟨(some 18), none, .mv (.t 7)⟩, ⟨(some 19), none, .mv (.t 5)⟩, ⟨(some 20), none, .mv (.t 8)⟩, ⟨(some 21), none, .ixStr (.t 19) (.t 20)⟩, ⟨(some 22), none, .callv (.t 18) [(.t 21)]⟩])))
  (.region [⟨(some 23), none, .bin .add (.t 15) (.c (.int .i64 1))⟩, ⟨(some 15), none, .mv (.t 23)⟩]))))
def b___gatepost_date_reader__number_0 (L : FuncId → List V → V → Prop) (K : V → Heap → Prop) (N0 : Env → Heap → Prop) (e : Env) (h : Heap) : Prop :=
    (wi F L (.bin .lss (.c (e 15)) (.c (e 14))) E0 h fun v16 h =>
    (wb v16
    (k___gatepost_date_reader__number_1 L K N0 (upd e 16 v16) (e 5) (e 7) (e 15) h)
    (k___gatepost_date_reader__number_0 L K (e 6) h)))
theorem l___gatepost_date_reader__number_0 {L : FuncId → List V → V → Prop} {K : V → Heap → Prop} (I : Nat → Env → Heap → Prop) (hr : ∀ n e h, I n e h → b___gatepost_date_reader__number_0 L K (fun e' h' => ∃ m, m < n ∧ I m e' h') e h) {n : Nat} {e : Env} {h : Heap} (hi : I n e h) : Wl F L lc___gatepost_date_reader__number_0 (q___gatepost_date_reader__number_0 L K) e h :=
  wloopp (b := b___gatepost_date_reader__number_0 L K) I (fun _ _ _ => by kernel_rfl) hr hi
def p___gatepost_date_reader__number (L : FuncId → List V → V → Prop) (K : V → Heap → Prop) (a0 a1 : V) (h : Heap) : Prop :=
    (wi F L (.box (.c a0)) E0 h fun v2 h =>
    (wi F L (.load false 1 (.c v2)) E0 h fun v9 h =>
    (wi F L (.call i___gatepost_date_reader__take [(.c v9), (.c a1)]) E0 h fun v11 h =>
    (wi F L (.boxz [(.int .i64 0)]) E0 h fun v6 h =>
    (wi F L (.store 1 (.c v6) (.c (.int .i64 0))) E0 h fun _ h =>
    (wi F L (.mkfn i___gatepost_date_reader__number_1 [(.c v2), (.c v6)]) E0 h fun v12 h =>
    (wi F L (.len 0 (.c v11)) E0 h fun v14 h =>
    (Wl F L lc___gatepost_date_reader__number_0 (q___gatepost_date_reader__number_0 L K) (upd (upd (upd (upd (upd (upd (upd (upd (upd (upd (upd (upd (enterE [a0, a1]) 2 v2) 4 (.int .i64 0)) 9 v9) 10 a1) 11 v11) 5 v11) 6 v6) 12 v12) 7 v12) 13 v11) 14 v14) 15 (.int .i64 0)) h))))))))
theorem run___gatepost_date_reader__number {L : FuncId → List V → V → Prop} {K : V → Heap → Prop} {a0 a1 : V} {h : Heap} (hp : p___gatepost_date_reader__number L K a0 a1 h) : Cf F L i___gatepost_date_reader__number [a0, a1] h K :=
  wcallp F___gatepost_date_reader__number (show 2 ≤ 25 by decide) (p := p___gatepost_date_reader__number L K a0 a1 h) (by kernel_rfl) hp
def k___gatepost_date_reader__month_0 (L : FuncId → List V → V → Prop) (K : V → Heap → Prop) (v0 : V) (h : Heap) : Prop :=
    (wi F L (.nilck (.c v0)) E0 h fun v20 h =>
    (wi F L (.faddr 1 (.c v20)) E0 h fun v21 h =>
    (wi F L (.store 1 (.c v21) (.c (.bool false))) E0 h fun _ h =>
    (∃ v, some (.int .i64 0) = some v ∧ K v h))))
def k___gatepost_date_reader__month_2 (L : FuncId → List V → V → Prop) (K : V → Heap → Prop) (N0 : Env → Heap → Prop) (e : Env) (v9 : V) (h : Heap) : Prop :=
    (wi F L (.bin .add (.c v9) (.c (.int .i64 1))) E0 h fun v18 h =>
    (N0 (upd (upd e 18 v18) 9 v18) h))
def k___gatepost_date_reader__month_1 (L : FuncId → List V → V → Prop) (K : V → Heap → Prop) (N0 : Env → Heap → Prop) (e : Env) (v3 v8 v9 : V) (h : Heap) : Prop :=
    (wi F L (.ixArr 12 1 false (.c v8) (.c v9)) E0 h fun v12 h =>
    (wi F L (.bin .eql (.c v12) (.c v3)) E0 h fun v15 h =>
    (wb v15
    (wi F L (.bin .add (.c v9) (.c (.int .i64 1))) E0 h fun v17 h =>
    (∃ v, some v17 = some v ∧ K v h))
    (k___gatepost_date_reader__month_2 L K N0 (upd (upd (upd (upd (upd (upd (upd e 11 v9) 12 v12) 4 v9) 5 v12) 13 v12) 14 v3) 15 v15) v9 h))))
def q___gatepost_date_reader__month_0 (L : FuncId → List V → V → Prop) (K : V → Heap → Prop) : X → Env → Heap → Prop := (fun x => (seqX (fun e h => k___gatepost_date_reader__month_0 L K (e 0) h) (retX c___gatepost_date_reader__month.results K)) (X.out 0 x))
def lc___gatepost_date_reader__month_0 : C :=
  (.seq (.region [⟨(some 10), none, .bin .lss (.t 9) (.c (.int .i64 12))⟩])
  (.seq (.cond (.t 10)
    .skip
    (.exit 0))
  (.seq (.block 1 (.seq (.region [⟨(some 11), none, .mv (.t 9)⟩, ⟨(some 12), none, .ixArr 12 1 false (.t 8) (.t 9)⟩, ⟨(some 4), none, .mv (.t 11)⟩, ⟨(some 5), none, .mv (.t 12)⟩])
  (.seq (.region [⟨(some 13), none, .mv (.t 5)⟩, ⟨(some 14), none, .mv (.t 3)⟩, ⟨(some 15), none, .bin .eql (.t 13) (.t 14)⟩])
  (.cond (.t 15)
    (.seq (.region [⟨(some 16), none, .mv (.t 4)⟩, ⟨(some 17), none, .bin .add (.t 16) (.c (.int .i64 1))⟩, ⟨(some 2), none, .mv (.t 17)⟩])
    .ret)
    .skip))))
  (.region [⟨(some 18), none, .bin .add (.t 9) (.c (.int .i64 1))⟩, ⟨(some 9), none, .mv (.t 18)⟩]))))
def b___gatepost_date_reader__month_0 (L : FuncId → List V → V → Prop) (K : V → Heap → Prop) (N0 : Env → Heap → Prop) (e : Env) (h : Heap) : Prop :=
    (wi F L (.bin .lss (.c (e 9)) (.c (.int .i64 12))) E0 h fun v10 h =>
    (wb v10
    (k___gatepost_date_reader__month_1 L K N0 (upd e 10 v10) (e 3) (e 8) (e 9) h)
    (k___gatepost_date_reader__month_0 L K (e 0) h)))
theorem l___gatepost_date_reader__month_0 {L : FuncId → List V → V → Prop} {K : V → Heap → Prop} (I : Nat → Env → Heap → Prop) (hr : ∀ n e h, I n e h → b___gatepost_date_reader__month_0 L K (fun e' h' => ∃ m, m < n ∧ I m e' h') e h) {n : Nat} {e : Env} {h : Heap} (hi : I n e h) : Wl F L lc___gatepost_date_reader__month_0 (q___gatepost_date_reader__month_0 L K) e h :=
  wloopp (b := b___gatepost_date_reader__month_0 L K) I (fun _ _ _ => by kernel_rfl) hr hi
def p___gatepost_date_reader__month (L : FuncId → List V → V → Prop) (K : V → Heap → Prop) (a0 : V) (h : Heap) : Prop :=
    (wi F L (.call i___gatepost_date_reader__take [(.c a0), (.c (.int .i64 3))]) E0 h fun v7 h =>
    (wi F L (.call i_date_monthNames []) E0 h fun v8 h =>
    (Wl F L lc___gatepost_date_reader__month_0 (q___gatepost_date_reader__month_0 L K) (upd (upd (upd (upd (upd (upd (enterE [a0]) 2 (.int .i64 0)) 6 a0) 7 v7) 3 v7) 8 v8) 9 (.int .i64 0)) h)))
theorem run___gatepost_date_reader__month {L : FuncId → List V → V → Prop} {K : V → Heap → Prop} {a0 : V} {h : Heap} (hp : p___gatepost_date_reader__month L K a0 h) : Cf F L i___gatepost_date_reader__month [a0] h K :=
  wcallp F___gatepost_date_reader__month (show 1 ≤ 22 by decide) (p := p___gatepost_date_reader__month L K a0 h) (by kernel_rfl) hp
def k___gatepost_date_reader__clock_0 (L : FuncId → List V → V → Prop) (K : V → Heap → Prop) (v3 v4 v5 : V) (h : Heap) : Prop :=
    (wi F L (.bin .mul (.c v3) (.c (.int .i64 3600))) E0 h fun v30 h =>
    (wi F L (.bin .mul (.c v4) (.c (.int .i64 60))) E0 h fun v32 h =>
    (wi F L (.bin .add (.c v30) (.c v32)) E0 h fun v33 h =>
    (wi F L (.mn [(.c v5), (.c (.int .i64 59))]) E0 h fun v35 h =>
    (wi F L (.bin .add (.c v33) (.c v35)) E0 h fun v36 h =>
    (∃ v, some v36 = some v ∧ K v h))))))
def p___gatepost_date_reader__clock (L : FuncId → List V → V → Prop) (K : V → Heap → Prop) (a0 : V) (h : Heap) : Prop :=
    (wi F L (.call i___gatepost_date_reader__number [(.c a0), (.c (.int .i64 2))]) E0 h fun v7 h =>
    (wi F L (.call i___gatepost_date_reader__need [(.c a0), (.c (.str [58]))]) E0 h fun v9 h =>
    (wi F L (.call i___gatepost_date_reader__number [(.c a0), (.c (.int .i64 2))]) E0 h fun v11 h =>
    (wi F L (.call i___gatepost_date_reader__need [(.c a0), (.c (.str [58]))]) E0 h fun v13 h =>
    (wi F L (.call i___gatepost_date_reader__number [(.c a0), (.c (.int .i64 2))]) E0 h fun v15 h =>
    (wi F L (.bin .geq (.c v7) (.c (.int .i64 24))) E0 h fun v17 h =>
    (wg v17 false (wi F L (.mv (.c v11)) E0 h) h fun v19 h =>
    (wg v17 false (wi F L (.bin .geq (.c v19) (.c (.int .i64 60))) E0 h) h fun v20 h =>
    (wi F L (.pick (.c v17) (.c (.bool true)) (.c v20)) E0 h fun v21 h =>
    (wg v21 false (wi F L (.mv (.c v15)) E0 h) h fun v23 h =>
    (wg v21 false (wi F L (.bin .gtr (.c v23) (.c (.int .i64 60))) E0 h) h fun v24 h =>
    (wi F L (.pick (.c v21) (.c (.bool true)) (.c v24)) E0 h fun v25 h =>
    (wb v25
    (wi F L (.nilck (.c a0)) E0 h fun v27 h =>
    (wi F L (.faddr 1 (.c v27)) E0 h fun v28 h =>
    (wi F L (.store 1 (.c v28) (.c (.bool false))) E0 h fun _ h =>
    (k___gatepost_date_reader__clock_0 L K v7 v11 v15 h))))
    (k___gatepost_date_reader__clock_0 L K v7 v11 v15 h))))))))))))))
theorem run___gatepost_date_reader__clock {L : FuncId → List V → V → Prop} {K : V → Heap → Prop} {a0 : V} {h : Heap} (hp : p___gatepost_date_reader__clock L K a0 h) : Cf F L i___gatepost_date_reader__clock [a0] h K :=
  wcallp F___gatepost_date_reader__clock (show 1 ≤ 37 by decide) (p := p___gatepost_date_reader__clock L K a0 h) (by kernel_rfl) hp
def k___gatepost_date_reader__second_0 (L : FuncId → List V → V → Prop) (K : V → Heap → Prop) (v5 v14 : V) (h : Heap) : Prop :=
    (wi F L (.bin .mul (.c v14) (.c (.int .i64 86400))) E0 h fun v43 h =>
    (wi F L (.bin .add (.c v43) (.c v5)) E0 h fun v45 h =>
    (∃ v, resultsV h (enterE [v45, (.bool true)]) [.tmp 0, .tmp 1] = some v ∧ K v h)))
def p___gatepost_date_reader__second (L : FuncId → List V → V → Prop) (K : V → Heap → Prop) (a0 a1 a2 a3 a4 a5 : V) (h : Heap) : Prop :=
    (wi F L (.call i_date_Days [(.c a2), (.c a3), (.c a4)]) E0 h fun v18 h =>
    (wi F L (.nilck (.c a0)) E0 h fun v20 h =>
    (wi F L (.faddr 1 (.c v20)) E0 h fun v21 h =>
    (wi F L (.load false 1 (.c v21)) E0 h fun v22 h =>
    (wi F L (.un .not (.c v22)) E0 h fun v23 h =>
    (wg v23 false (wi F L (.mv (.c a0)) E0 h) h fun v25 h =>
    (wg v23 false (wi F L (.nilck (.c v25)) E0 h) h fun v26 h =>
    (wg v23 false (wi F L (.faddr 0 (.c v26)) E0 h) h fun v27 h =>
    (wg v23 false (wi F L (.load false 1 (.c v27)) E0 h) h fun v28 h =>
    (wg v23 false (wi F L (.bin .neq (.c v28) (.c (.str []))) E0 h) h fun v29 h =>
    (wi F L (.pick (.c v23) (.c (.bool true)) (.c v29)) E0 h fun v30 h =>
    (wg v30 false (wi F L (.mv (.c v18)) E0 h) h fun v32 h =>
    (wg v30 false (wi F L (.bin .lss (.c v32) (.c (.int .i64 0))) E0 h) h fun v33 h =>
    (wi F L (.pick (.c v30) (.c (.bool true)) (.c v33)) E0 h fun v34 h =>
    (wg v34 false (wi F L (.mv (.c v18)) E0 h) h fun v36 h =>
    (wg v34 false (wi F L (.bin .add (.c v36) (.c (.int .i64 3))) E0 h) h fun v37 h =>
    (wg v34 false (wi F L (.bin .rem (.c v37) (.c (.int .i64 7))) E0 h) h fun v38 h =>
    (wg v34 false (wi F L (.mv (.c a1)) E0 h) h fun v39 h =>
    (wg v34 false (wi F L (.bin .neq (.c v38) (.c v39)) E0 h) h fun v40 h =>
    (wi F L (.pick (.c v34) (.c (.bool true)) (.c v40)) E0 h fun v41 h =>
    (wb v41
    (∃ v, resultsV h (enterE [(.int .i64 0), (.bool false)]) [.tmp 0, .tmp 1] = some v ∧ K v h)
    (k___gatepost_date_reader__second_0 L K a5 v18 h))))))))))))))))))))))
theorem run___gatepost_date_reader__second {L : FuncId → List V → V → Prop} {K : V → Heap → Prop} {a0 a1 a2 a3 a4 a5 : V} {h : Heap} (hp : p___gatepost_date_reader__second L K a0 a1 a2 a3 a4 a5 h) : Cf F L i___gatepost_date_reader__second [a0, a1, a2, a3, a4, a5] h K :=
  wcallp F___gatepost_date_reader__second (show 6 ≤ 46 by decide) (p := p___gatepost_date_reader__second L K a0 a1 a2 a3 a4 a5 h) (by kernel_rfl) hp
def k___gatepost_date_reader__take_0 (L : FuncId → List V → V → Prop) (K : V → Heap → Prop) (v0 v1 : V) (h : Heap) : Prop :=
    (wi F L (.nilck (.c v0)) E0 h fun v17 h =>
    (wi F L (.faddr 0 (.c v17)) E0 h fun v18 h =>
    (wi F L (.load false 1 (.c v18)) E0 h fun v19 h =>
    (wi F L (.slstr (.c v19) none (some (.c v1))) E0 h fun v21 h =>
    (wi F L (.nilck (.c v0)) E0 h fun v24 h =>
    (wi F L (.faddr 0 (.c v24)) E0 h fun v25 h =>
    (wi F L (.load false 1 (.c v25)) E0 h fun v26 h =>
    (wi F L (.slstr (.c v26) (some (.c v1)) none) E0 h fun v28 h =>
    (wi F L (.nilck (.c v0)) E0 h fun v29 h =>
    (wi F L (.faddr 0 (.c v29)) E0 h fun v30 h =>
    (wi F L (.store 1 (.c v30) (.c v28)) E0 h fun _ h =>
    (∃ v, some v21 = some v ∧ K v h))))))))))))
def p___gatepost_date_reader__take (L : FuncId → List V → V → Prop) (K : V → Heap → Prop) (a0 a1 : V) (h : Heap) : Prop :=
    (wi F L (.nilck (.c a0)) E0 h fun v7 h =>
    (wi F L (.faddr 0 (.c v7)) E0 h fun v8 h =>
    (wi F L (.load false 1 (.c v8)) E0 h fun v9 h =>
    (wi F L (.len 0 (.c v9)) E0 h fun v10 h =>
    (wi F L (.bin .lss (.c v10) (.c a1)) E0 h fun v12 h =>
    (wb v12
    (wi F L (.nilck (.c a0)) E0 h fun v14 h =>
    (wi F L (.faddr 1 (.c v14)) E0 h fun v15 h =>
    (wi F L (.store 1 (.c v15) (.c (.bool false))) E0 h fun _ h =>
    (∃ v, some (.str []) = some v ∧ K v h))))
    (k___gatepost_date_reader__take_0 L K a0 a1 h)))))))
theorem run___gatepost_date_reader__take {L : FuncId → List V → V → Prop} {K : V → Heap → Prop} {a0 a1 : V} {h : Heap} (hp : p___gatepost_date_reader__take L K a0 a1 h) : Cf F L i___gatepost_date_reader__take [a0, a1] h K :=
  wcallp F___gatepost_date_reader__take (show 2 ≤ 32 by decide) (p := p___gatepost_date_reader__take L K a0 a1 h) (by kernel_rfl) hp
def k_strings_makeASCIISet_0 (L : FuncId → List V → V → Prop) (K : V → Heap → Prop) (v2 : V) (h : Heap) : Prop :=
    (wi F L (.load true 256 (.c v2)) E0 h fun v20 h =>
    (wi F L (.store 256 (.c v2) (.c v20)) E0 h fun _ h =>
    (∃ v, resultsV h (enterE [v2, (.bool true)]) [.cell 0 true 256, .tmp 1] = some v ∧ K v h)))
def k_strings_makeASCIISet_2 (L : FuncId → List V → V → Prop) (K : V → Heap → Prop) (N0 : Env → Heap → Prop) (e : Env) (v4 : V) (h : Heap) : Prop :=
    (wi F L (.bin .add (.c v4) (.c (.int .i64 1))) E0 h fun v11 h =>
    (N0 (upd (upd (upd e 10 v4) 11 v11) 4 v11) h))
def k_strings_makeASCIISet_3 (L : FuncId → List V → V → Prop) (K : V → Heap → Prop) (N0 : Env → Heap → Prop) (e : Env) (v2 v4 v5 : V) (h : Heap) : Prop :=
    (wi F L (.ixaArr 256 1 (.c v2) (.c v5)) E0 h fun v19 h =>
    (wi F L (.store 1 (.c v19) (.c (.bool true))) E0 h fun _ h =>
    (k_strings_makeASCIISet_2 L K N0 (upd (upd e 18 v5) 19 v19) v4 h)))
def k_strings_makeASCIISet_1 (L : FuncId → List V → V → Prop) (K : V → Heap → Prop) (N0 : Env → Heap → Prop) (e : Env) (v0 v2 v4 : V) (h : Heap) : Prop :=
    (wi F L (.ixStr (.c v0) (.c v4)) E0 h fun v14 h =>
    (wi F L (.bin .geq (.c v14) (.c (.int .u8 128))) E0 h fun v16 h =>
    (wb v16
    (wi F L (.load true 256 (.c v2)) E0 h fun v17 h =>
    (wi F L (.store 256 (.c v2) (.c v17)) E0 h fun _ h =>
    (∃ v, resultsV h (enterE [v2, (.bool false)]) [.cell 0 true 256, .tmp 1] = some v ∧ K v h)))
    (k_strings_makeASCIISet_3 L K N0 (upd (upd (upd (upd (upd (upd e 12 v0) 13 v4) 14 v14) 5 v14) 15 v14) 16 v16) v2 v4 v14 h))))
def q_strings_makeASCIISet_0 (L : FuncId → List V → V → Prop) (K : V → Heap → Prop) : X → Env → Heap → Prop := (fun x => (seqX (fun e h => k_strings_makeASCIISet_0 L K (e 2) h) (retX c_strings_makeASCIISet.results K)) (X.out 0 x))
def lc_strings_makeASCIISet_0 : C :=
  (.seq (.seq (.region [⟨(some 6), none, .mv (.t 4)⟩, ⟨(some 7), none, .mv (.t 0)⟩, ⟨(some 8), none, .len 0 (.t 7)⟩, ⟨(some 9), none, .bin .lss (.t 6) (.t 8)⟩])
  (.cond (.t 9)
    .skip
    (.exit 0)))
  (.seq (.block 1 (.seq (.region [⟨(some 12), none, .mv (.t 0)⟩, ⟨(some 13), none, .mv (.t 4)⟩, ⟨(some 14), none, .ixStr (.t 12) (.t 13)⟩, ⟨(some 5), none, .mv (.t 14)⟩])
  (.seq (.seq (.region [⟨(some 15), none, .mv (.t 5)⟩, ⟨(some 16), none, .bin .geq (.t 15) (.c (.int .u8 128))⟩])
  (.cond (.t 16)
    (.seq (.region [⟨(some 17), none, .load true 256 (.t 2)⟩, ⟨none, none, .store 256 (.t 2) (.t 17)⟩, ⟨(some 3), none, .mv (.c (.bool false))⟩])
    .ret)
    .skip))
  (.region [⟨(some 18), none, .mv (.t 5)⟩, ⟨(some 19), none, .ixaArr 256 1 (.t 2) (.t 18)⟩, ⟨none, none, .store 1 (.t 19) (.c (.bool true))⟩]))))
  (.region [⟨(some 10), none, .mv (.t 4)⟩, ⟨(some 11), none, .bin .add (.t 10) (.c (.int .i64 1))⟩, ⟨(some 4), none, .mv (.t 11)⟩])))
def b_strings_makeASCIISet_0 (L : FuncId → List V → V → Prop) (K : V → Heap → Prop) (N0 : Env → Heap → Prop) (e : Env) (h : Heap) : Prop :=
    (wi F L (.len 0 (.c (e 0))) E0 h fun v8 h =>
    (wi F L (.bin .lss (.c (e 4)) (.c v8)) E0 h fun v9 h =>
    (wb v9
    (k_strings_makeASCIISet_1 L K N0 (upd (upd (upd (upd e 6 (e 4)) 7 (e 0)) 8 v8) 9 v9) (e 0) (e 2) (e 4) h)
    (k_strings_makeASCIISet_0 L K (e 2) h))))
theorem l_strings_makeASCIISet_0 {L : FuncId → List V → V → Prop} {K : V → Heap → Prop} (I : Nat → Env → Heap → Prop) (hr : ∀ n e h, I n e h → b_strings_makeASCIISet_0 L K (fun e' h' => ∃ m, m < n ∧ I m e' h') e h) {n : Nat} {e : Env} {h : Heap} (hi : I n e h) : Wl F L lc_strings_makeASCIISet_0 (q_strings_makeASCIISet_0 L K) e h :=
  wloopp (b := b_strings_makeASCIISet_0 L K) I (fun _ _ _ => by kernel_rfl) hr hi
def p_strings_makeASCIISet (L : FuncId → List V → V → Prop) (K : V → Heap → Prop) (a0 : V) (h : Heap) : Prop :=
    (wi F L (.boxz (List.replicate 256 (.bool false))) E0 h fun v2 h =>
    (Wl F L lc_strings_makeASCIISet_0 (q_strings_makeASCIISet_0 L K) (upd (upd (upd (enterE [a0]) 2 v2) 3 (.bool false)) 4 (.int .i64 0)) h))
theorem run_strings_makeASCIISet {L : FuncId → List V → V → Prop} {K : V → Heap → Prop} {a0 : V} {h : Heap} (hp : p_strings_makeASCIISet L K a0 h) : Cf F L i_strings_makeASCIISet [a0] h K :=
  wcallp F_strings_makeASCIISet (show 1 ≤ 21 by decide) (p := p_strings_makeASCIISet L K a0 h) (by kernel_rfl) hp
def k_strings_trimLeftASCII_0 (L : FuncId → List V → V → Prop) (K : V → Heap → Prop) (v0 : V) (h : Heap) : Prop :=
    (∃ v, some v0 = some v ∧ K v h)
def k_strings_trimLeftASCII_2 (L : FuncId → List V → V → Prop) (K : V → Heap → Prop) (N0 : Env → Heap → Prop) (e : Env) (v0 : V) (h : Heap) : Prop :=
    (wi F L (.slstr (.c v0) (some (.c (.int .i64 1))) none) E0 h fun v14 h =>
    (N0 (upd (upd (upd e 13 v0) 14 v14) 0 v14) h))
def k_strings_trimLeftASCII_1 (L : FuncId → List V → V → Prop) (K : V → Heap → Prop) (N0 : Env → Heap → Prop) (e : Env) (v0 v1 : V) (h : Heap) : Prop :=
    (wi F L (.ixStr (.c v0) (.c (.int .i64 0))) E0 h fun v10 h =>
    (wi F L (.call i___strings_asciiSet__contains [(.c v1), (.c v10)]) E0 h fun v11 h =>
    (wi F L (.un .not (.c v11)) E0 h fun v12 h =>
    (wb v12
    (k_strings_trimLeftASCII_0 L K v0 h)
    (k_strings_trimLeftASCII_2 L K N0 (upd (upd (upd (upd (upd e 8 v1) 9 v0) 10 v10) 11 v11) 12 v12) v0 h)))))
def q_strings_trimLeftASCII_0 (L : FuncId → List V → V → Prop) (K : V → Heap → Prop) : X → Env → Heap → Prop := (fun x => (seqX (fun e h => k_strings_trimLeftASCII_0 L K (e 0) h) (retX c_strings_trimLeftASCII.results K)) (X.out 0 x))
def lc_strings_trimLeftASCII_0 : C :=
  (.seq (.seq (.region [⟨(some 5), none, .mv (.t 0)⟩, ⟨(some 6), none, .len 0 (.t 5)⟩, ⟨(some 7), none, .bin .gtr (.t 6) (.c (.int .i64 0))⟩])
  (.cond (.t 7)
    .skip
    (.exit 0)))
  (.block 1 (.seq (.seq (.region [⟨(some 8), none, .mv (.t 1)⟩, ⟨(some 9), none, .mv (.t 0)⟩, ⟨(some 10), none, .ixStr (.t 9) (.c (.int .i64 0))⟩, ⟨(some 11), none, .call i___strings_asciiSet__contains [(.t 8), (.t 10)]⟩, ⟨(some 12), none, .un .not (.t 11)⟩])
  (.cond (.t 12)
    (.exit 0)
    .skip))
  (.region [⟨(some 13), none, .mv (.t 0)⟩, ⟨(some 14), none, .slstr (.t 13) (some (.c (.int .i64 1))) none⟩, ⟨(some 0), none, .mv (.t 14)⟩]))))
def b_strings_trimLeftASCII_0 (L : FuncId → List V → V → Prop) (K : V → Heap → Prop) (N0 : Env → Heap → Prop) (e : Env) (h : Heap) : Prop :=
    (wi F L (.len 0 (.c (e 0))) E0 h fun v6 h =>
    (wi F L (.bin .gtr (.c v6) (.c (.int .i64 0))) E0 h fun v7 h =>
    (wb v7
    (k_strings_trimLeftASCII_1 L K N0 (upd (upd (upd e 5 (e 0)) 6 v6) 7 v7) (e 0) (e 1) h)
    (k_strings_trimLeftASCII_0 L K (e 0) h))))
theorem l_strings_trimLeftASCII_0 {L : FuncId → List V → V → Prop} {K : V → Heap → Prop} (I : Nat → Env → Heap → Prop) (hr : ∀ n e h, I n e h → b_strings_trimLeftASCII_0 L K (fun e' h' => ∃ m, m < n ∧ I m e' h') e h) {n : Nat} {e : Env} {h : Heap} (hi : I n e h) : Wl F L lc_strings_trimLeftASCII_0 (q_strings_trimLeftASCII_0 L K) e h :=
  wloopp (b := b_strings_trimLeftASCII_0 L K) I (fun _ _ _ => by kernel_rfl) hr hi
def p_strings_trimLeftASCII (L : FuncId → List V → V → Prop) (K : V → Heap → Prop) (a0 a1 : V) (h : Heap) : Prop :=
    (Wl F L lc_strings_trimLeftASCII_0 (q_strings_trimLeftASCII_0 L K) (upd (enterE [a0, a1]) 4 (.str [])) h)
theorem run_strings_trimLeftASCII {L : FuncId → List V → V → Prop} {K : V → Heap → Prop} {a0 a1 : V} {h : Heap} (hp : p_strings_trimLeftASCII L K a0 a1 h) : Cf F L i_strings_trimLeftASCII [a0, a1] h K :=
  wcallp F_strings_trimLeftASCII (show 2 ≤ 16 by decide) (p := p_strings_trimLeftASCII L K a0 a1 h) (by kernel_rfl) hp
def k_strings_trimRightASCII_0 (L : FuncId → List V → V → Prop) (K : V → Heap → Prop) (v0 : V) (h : Heap) : Prop :=
    (∃ v, some v0 = some v ∧ K v h)
def k_strings_trimRightASCII_2 (L : FuncId → List V → V → Prop) (K : V → Heap → Prop) (N0 : Env → Heap → Prop) (e : Env) (v0 : V) (h : Heap) : Prop :=
    (wi F L (.len 0 (.c v0)) E0 h fun v18 h =>
    (wi F L (.bin .sub (.c v18) (.c (.int .i64 1))) E0 h fun v19 h =>
    (wi F L (.slstr (.c v0) none (some (.c v19))) E0 h fun v20 h =>
    (N0 (upd (upd (upd (upd (upd (upd e 16 v0) 17 v0) 18 v18) 19 v19) 20 v20) 0 v20) h))))
def k_strings_trimRightASCII_1 (L : FuncId → List V → V → Prop) (K : V → Heap → Prop) (N0 : Env → Heap → Prop) (e : Env) (v0 v1 : V) (h : Heap) : Prop :=
    (wi F L (.len 0 (.c v0)) E0 h fun v11 h =>
    (wi F L (.bin .sub (.c v11) (.c (.int .i64 1))) E0 h fun v12 h =>
    (wi F L (.ixStr (.c v0) (.c v12)) E0 h fun v13 h =>
    (wi F L (.call i___strings_asciiSet__contains [(.c v1), (.c v13)]) E0 h fun v14 h =>
    (wi F L (.un .not (.c v14)) E0 h fun v15 h =>
    (wb v15
    (k_strings_trimRightASCII_0 L K v0 h)
    (k_strings_trimRightASCII_2 L K N0 (upd (upd (upd (upd (upd (upd (upd (upd e 8 v1) 9 v0) 10 v0) 11 v11) 12 v12) 13 v13) 14 v14) 15 v15) v0 h)))))))
def q_strings_trimRightASCII_0 (L : FuncId → List V → V → Prop) (K : V → Heap → Prop) : X → Env → Heap → Prop := (fun x => (seqX (fun e h => k_strings_trimRightASCII_0 L K (e 0) h) (retX c_strings_trimRightASCII.results K)) (X.out 0 x))
def lc_strings_trimRightASCII_0 : C :=
  (.seq (.seq (.region [⟨(some 5), none, .mv (.t 0)⟩, ⟨(some 6), none, .len 0 (.t 5)⟩, ⟨(some 7), none, .bin .gtr (.t 6) (.c (.int .i64 0))⟩])
  (.cond (.t 7)
    .skip
    (.exit 0)))
  (.block 1 (.seq (.seq (.region [⟨(some 8), none, .mv (.t 1)⟩, ⟨(some 9), none, .mv (.t 0)⟩, ⟨(some 10), none, .mv (.t 0)⟩, ⟨(some 11), none, .len 0 (.t 10)⟩, ⟨(some 12), none, .bin .sub (.t 11) (.c (.int .i64 1))⟩, ⟨(some 13), none, .ixStr (.t 9) (.t 12)⟩, ⟨(some 14), none, .call i___strings_asciiSet__contains [(.t 8), (.t 13)]⟩, ⟨(some 15), none, .un .not (.t 14)⟩])
  (.cond (.t 15)
    (.exit 0)
    .skip))
  (.region [⟨(some 16), none, .mv (.t 0)⟩, ⟨(some 17), none, .mv (.t 0)⟩, ⟨(some 18), none, .len 0 (.t 17)⟩, ⟨(some 19), none, .bin .sub (.t 18) (.c (.int .i64 1))⟩, ⟨(some 20), none, .slstr (.t 16) none (some (.t 19))⟩, ⟨(some 0), none, .mv (.t 20)⟩]))))
def b_strings_trimRightASCII_0 (L : FuncId → List V → V → Prop) (K : V → Heap → Prop) (N0 : Env → Heap → Prop) (e : Env) (h : Heap) : Prop :=
    (wi F L (.len 0 (.c (e 0))) E0 h fun v6 h =>
    (wi F L (.bin .gtr (.c v6) (.c (.int .i64 0))) E0 h fun v7 h =>
    (wb v7
    (k_strings_trimRightASCII_1 L K N0 (upd (upd (upd e 5 (e 0)) 6 v6) 7 v7) (e 0) (e 1) h)
    (k_strings_trimRightASCII_0 L K (e 0) h))))
theorem l_strings_trimRightASCII_0 {L : FuncId → List V → V → Prop} {K : V → Heap → Prop} (I : Nat → Env → Heap → Prop) (hr : ∀ n e h, I n e h → b_strings_trimRightASCII_0 L K (fun e' h' => ∃ m, m < n ∧ I m e' h') e h) {n : Nat} {e : Env} {h : Heap} (hi : I n e h) : Wl F L lc_strings_trimRightASCII_0 (q_strings_trimRightASCII_0 L K) e h :=
  wloopp (b := b_strings_trimRightASCII_0 L K) I (fun _ _ _ => by kernel_rfl) hr hi
def p_strings_trimRightASCII (L : FuncId → List V → V → Prop) (K : V → Heap → Prop) (a0 a1 : V) (h : Heap) : Prop :=
    (Wl F L lc_strings_trimRightASCII_0 (q_strings_trimRightASCII_0 L K) (upd (enterE [a0, a1]) 4 (.str [])) h)
theorem run_strings_trimRightASCII {L : FuncId → List V → V → Prop} {K : V → Heap → Prop} {a0 a1 : V} {h : Heap} (hp : p_strings_trimRightASCII L K a0 a1 h) : Cf F L i_strings_trimRightASCII [a0, a1] h K :=
  wcallp F_strings_trimRightASCII (show 2 ≤ 22 by decide) (p := p_strings_trimRightASCII L K a0 a1 h) (by kernel_rfl) hp
def p_token_marks (L : FuncId → List V → V → Prop) (K : V → Heap → Prop) (h : Heap) : Prop :=
    (wi F L (.boxz [(.int .u8 0), (.int .u8 0), (.int .u8 0), (.int .u8 0), (.int .u8 0), (.int .u8 0), (.int .u8 0), (.int .u8 0), (.int .u8 0), (.int .u8 0), (.int .u8 0), (.int .u8 0), (.int .u8 0), (.int .u8 0), (.int .u8 0)]) E0 h fun v0 h =>
    (wi F L (.build [(.int .u8 0), (.int .u8 0), (.int .u8 0), (.int .u8 0), (.int .u8 0), (.int .u8 0), (.int .u8 0), (.int .u8 0), (.int .u8 0), (.int .u8 0), (.int .u8 0), (.int .u8 0), (.int .u8 0), (.int .u8 0), (.int .u8 0)] [(0, 1, (.c (.int .u8 33))), (1, 1, (.c (.int .u8 35))), (2, 1, (.c (.int .u8 36))), (3, 1, (.c (.int .u8 37))), (4, 1, (.c (.int .u8 38))), (5, 1, (.c (.int .u8 39))), (6, 1, (.c (.int .u8 42))), (7, 1, (.c (.int .u8 43))), (8, 1, (.c (.int .u8 45))), (9, 1, (.c (.int .u8 46))), (10, 1, (.c (.int .u8 94))), (11, 1, (.c (.int .u8 95))), (12, 1, (.c (.int .u8 96))), (13, 1, (.c (.int .u8 124))), (14, 1, (.c (.int .u8 126)))]) E0 h fun v1 h =>
    (wi F L (.store 15 (.c v0) (.c v1)) E0 h fun _ h =>
    (∃ v, resultsV h (enterE [v0]) [.cell 0 true 15] = some v ∧ K v h))))
theorem run_token_marks {L : FuncId → List V → V → Prop} {K : V → Heap → Prop} {h : Heap} (hp : p_token_marks L K  h) : Cf F L i_token_marks [] h K :=
  wcallp F_token_marks (show 0 ≤ 2 by decide) (p := p_token_marks L K  h) (by kernel_rfl) hp
def k_internal_stringslite_Cut_0 (L : FuncId → List V → V → Prop) (K : V → Heap → Prop) (v0 : V) (h : Heap) : Prop :=
    (∃ v, resultsV h (enterE [v0, (.str []), (.bool false)]) [.tmp 0, .tmp 1, .tmp 2] = some v ∧ K v h)
def p_internal_stringslite_Cut (L : FuncId → List V → V → Prop) (K : V → Heap → Prop) (a0 a1 : V) (h : Heap) : Prop :=
    (wi F L (.call i_internal_stringslite_Index [(.c a0), (.c a1)]) E0 h fun v10 h =>
    (wi F L (.bin .geq (.c v10) (.c (.int .i64 0))) E0 h fun v12 h =>
    (wb v12
    (wi F L (.slstr (.c a0) none (some (.c v10))) E0 h fun v15 h' => Ext h h' ∧
    (wi F L (.len 0 (.c a1)) E0 h' fun v19 h => Ext h' h ∧
    (wi F L (.bin .add (.c v10) (.c v19)) E0 h fun v20 h' => Ext h h' ∧
    (wi F L (.slstr (.c a0) (some (.c v20)) none) E0 h' fun v21 h => Ext h' h ∧
    (∃ v, resultsV h (enterE [v15, v21, (.bool true)]) [.tmp 0, .tmp 1, .tmp 2] = some v ∧ K v h)))))
    (k_internal_stringslite_Cut_0 L K a0 h))))
theorem run_internal_stringslite_Cut {L : FuncId → List V → V → Prop} {K : V → Heap → Prop} {a0 a1 : V} {h : Heap} (hp : p_internal_stringslite_Cut L K a0 a1 h) : Cf F L i_internal_stringslite_Cut [a0, a1] h K :=
  wcallp F_internal_stringslite_Cut (show 2 ≤ 23 by decide) (p := p_internal_stringslite_Cut L K a0 a1 h) (by kernel_rfl) hp
def p_date_longDays (L : FuncId → List V → V → Prop) (K : V → Heap → Prop) (h : Heap) : Prop :=
    (wi F L (.boxz [(.str []), (.str []), (.str []), (.str []), (.str []), (.str []), (.str [])]) E0 h fun v0 h =>
    (wi F L (.build [(.str []), (.str []), (.str []), (.str []), (.str []), (.str []), (.str [])] [(0, 1, (.c (.str [77, 111, 110, 100, 97, 121]))), (1, 1, (.c (.str [84, 117, 101, 115, 100, 97, 121]))), (2, 1, (.c (.str [87, 101, 100, 110, 101, 115, 100, 97, 121]))), (3, 1, (.c (.str [84, 104, 117, 114, 115, 100, 97, 121]))), (4, 1, (.c (.str [70, 114, 105, 100, 97, 121]))), (5, 1, (.c (.str [83, 97, 116, 117, 114, 100, 97, 121]))), (6, 1, (.c (.str [83, 117, 110, 100, 97, 121])))]) E0 h fun v1 h =>
    (wi F L (.store 7 (.c v0) (.c v1)) E0 h fun _ h =>
    (∃ v, resultsV h (enterE [v0]) [.cell 0 true 7] = some v ∧ K v h))))
theorem run_date_longDays {L : FuncId → List V → V → Prop} {K : V → Heap → Prop} {h : Heap} (hp : p_date_longDays L K  h) : Cf F L i_date_longDays [] h K :=
  wcallp F_date_longDays (show 0 ≤ 2 by decide) (p := p_date_longDays L K  h) (by kernel_rfl) hp
def k___gatepost_date_reader__number_1_0 (L : FuncId → List V → V → Prop) (K : V → Heap → Prop) (v0 v2 : V) (h : Heap) : Prop :=
    (wi F L (.load false 1 (.c v2)) E0 h fun v13 h =>
    (wi F L (.bin .mul (.c (.int .i64 10)) (.c v13)) E0 h fun v14 h =>
    (wi F L (.bin .sub (.c v0) (.c (.int .u8 48))) E0 h fun v16 h =>
    (wi F L (.toInt .i64 (.c v16)) E0 h fun v17 h =>
    (wi F L (.bin .add (.c v14) (.c v17)) E0 h fun v18 h =>
    (wi F L (.store 1 (.c v2) (.c v18)) E0 h fun _ h =>
    (∃ v, resultsV h (enterE []) [] = some v ∧ K v h)))))))
def p___gatepost_date_reader__number_1 (L : FuncId → List V → V → Prop) (K : V → Heap → Prop) (a0 a1 a2 : V) (h : Heap) : Prop :=
    (wi F L (.bin .lss (.c a0) (.c (.int .u8 48))) E0 h fun v5 h =>
    (wg v5 false (wi F L (.mv (.c a0)) E0 h) h fun v7 h =>
    (wg v5 false (wi F L (.bin .gtr (.c v7) (.c (.int .u8 57))) E0 h) h fun v8 h =>
    (wi F L (.pick (.c v5) (.c (.bool true)) (.c v8)) E0 h fun v9 h =>
    (wb v9
    (wi F L (.load false 1 (.c a1)) E0 h fun v10 h =>
    (wi F L (.nilck (.c v10)) E0 h fun v11 h =>
    (wi F L (.faddr 1 (.c v11)) E0 h fun v12 h =>
    (wi F L (.store 1 (.c v12) (.c (.bool false))) E0 h fun _ h =>
    (k___gatepost_date_reader__number_1_0 L K a0 a2 h)))))
    (k___gatepost_date_reader__number_1_0 L K a0 a2 h))))))
theorem run___gatepost_date_reader__number_1 {L : FuncId → List V → V → Prop} {K : V → Heap → Prop} {a0 a1 a2 : V} {h : Heap} (hp : p___gatepost_date_reader__number_1 L K a0 a1 a2 h) : Cf F L i___gatepost_date_reader__number_1 [a0, a1, a2] h K :=
  wcallp F___gatepost_date_reader__number_1 (show 3 ≤ 19 by decide) (p := p___gatepost_date_reader__number_1 L K a0 a1 a2 h) (by kernel_rfl) hp
def p_date_monthNames (L : FuncId → List V → V → Prop) (K : V → Heap → Prop) (h : Heap) : Prop :=
    (wi F L (.boxz [(.str []), (.str []), (.str []), (.str []), (.str []), (.str []), (.str []), (.str []), (.str []), (.str []), (.str []), (.str [])]) E0 h fun v0 h =>
    (wi F L (.build [(.str []), (.str []), (.str []), (.str []), (.str []), (.str []), (.str []), (.str []), (.str []), (.str []), (.str []), (.str [])] [(0, 1, (.c (.str [74, 97, 110]))), (1, 1, (.c (.str [70, 101, 98]))), (2, 1, (.c (.str [77, 97, 114]))), (3, 1, (.c (.str [65, 112, 114]))), (4, 1, (.c (.str [77, 97, 121]))), (5, 1, (.c (.str [74, 117, 110]))), (6, 1, (.c (.str [74, 117, 108]))), (7, 1, (.c (.str [65, 117, 103]))), (8, 1, (.c (.str [83, 101, 112]))), (9, 1, (.c (.str [79, 99, 116]))), (10, 1, (.c (.str [78, 111, 118]))), (11, 1, (.c (.str [68, 101, 99])))]) E0 h fun v1 h =>
    (wi F L (.store 12 (.c v0) (.c v1)) E0 h fun _ h =>
    (∃ v, resultsV h (enterE [v0]) [.cell 0 true 12] = some v ∧ K v h))))
theorem run_date_monthNames {L : FuncId → List V → V → Prop} {K : V → Heap → Prop} {h : Heap} (hp : p_date_monthNames L K  h) : Cf F L i_date_monthNames [] h K :=
  wcallp F_date_monthNames (show 0 ≤ 2 by decide) (p := p_date_monthNames L K  h) (by kernel_rfl) hp
def k_date_Days_2 (L : FuncId → List V → V → Prop) (K : V → Heap → Prop) (v11 : V) (h : Heap) : Prop :=
    (∃ v, some v11 = some v ∧ K v h)
def k_date_Days_1 (L : FuncId → List V → V → Prop) (K : V → Heap → Prop) (v0 v1 v2 v7 v8 : V) (h : Heap) : Prop :=
    (wi F L (.bin .quo (.c v7) (.c (.int .i64 400))) E0 h fun v47 h =>
    (wi F L (.bin .rem (.c v7) (.c (.int .i64 400))) E0 h fun v49 h =>
    (wi F L (.bin .mul (.c v47) (.c (.int .i64 146097))) E0 h fun v51 h =>
    (wi F L (.bin .mul (.c v49) (.c (.int .i64 365))) E0 h fun v53 h =>
    (wi F L (.bin .add (.c v51) (.c v53)) E0 h fun v54 h =>
    (wi F L (.bin .quo (.c v49) (.c (.int .i64 4))) E0 h fun v56 h =>
    (wi F L (.bin .add (.c v54) (.c v56)) E0 h fun v57 h =>
    (wi F L (.bin .quo (.c v49) (.c (.int .i64 100))) E0 h fun v59 h =>
    (wi F L (.bin .sub (.c v57) (.c v59)) E0 h fun v60 h =>
    (wi F L (.bin .mul (.c (.int .i64 153)) (.c v8)) E0 h fun v62 h =>
    (wi F L (.bin .add (.c v62) (.c (.int .i64 2))) E0 h fun v63 h =>
    (wi F L (.bin .quo (.c v63) (.c (.int .i64 5))) E0 h fun v64 h =>
    (wi F L (.bin .add (.c v60) (.c v64)) E0 h fun v65 h =>
    (wi F L (.bin .add (.c v65) (.c v2)) E0 h fun v67 h =>
    (wi F L (.bin .sub (.c v67) (.c (.int .i64 1))) E0 h fun v68 h =>
    (wi F L (.bin .sub (.c v68) (.c (.int .i64 719468))) E0 h fun v69 h =>
    (wi F L (.call i_date_Civil [(.c v69)]) E0 h fun v72 h =>
    (wi F L (.ext 0 (.c v72)) E0 h fun v73 h =>
    (wi F L (.ext 1 (.c v72)) E0 h fun v74 h =>
    (wi F L (.ext 2 (.c v72)) E0 h fun v75 h =>
    (wi F L (.bin .neq (.c v73) (.c v0)) E0 h fun v78 h =>
    (wg v78 false (wi F L (.mv (.c v74)) E0 h) h fun v80 h =>
    (wg v78 false (wi F L (.mv (.c v1)) E0 h) h fun v81 h =>
    (wg v78 false (wi F L (.bin .neq (.c v80) (.c v81)) E0 h) h fun v82 h =>
    (wi F L (.pick (.c v78) (.c (.bool true)) (.c v82)) E0 h fun v83 h =>
    (wg v83 false (wi F L (.mv (.c v75)) E0 h) h fun v85 h =>
    (wg v83 false (wi F L (.mv (.c v2)) E0 h) h fun v86 h =>
    (wg v83 false (wi F L (.bin .neq (.c v85) (.c v86)) E0 h) h fun v87 h =>
    (wi F L (.pick (.c v83) (.c (.bool true)) (.c v87)) E0 h fun v88 h =>
    (wb v88
    (∃ v, some (.int .i64 (-1)) = some v ∧ K v h)
    (k_date_Days_2 L K v69 h)))))))))))))))))))))))))))))))
def k_date_Days_0 (L : FuncId → List V → V → Prop) (K : V → Heap → Prop) (v0 v1 v2 : V) (h : Heap) : Prop :=
    (wi F L (.bin .sub (.c v1) (.c (.int .i64 3))) E0 h fun v39 h =>
    (wi F L (.bin .leq (.c v1) (.c (.int .i64 2))) E0 h fun v41 h =>
    (wb v41
    (wi F L (.bin .sub (.c v0) (.c (.int .i64 1))) E0 h fun v43 h =>
    (wi F L (.bin .add (.c v1) (.c (.int .i64 9))) E0 h fun v45 h =>
    (k_date_Days_1 L K v0 v1 v2 v43 v45 h)))
    (k_date_Days_1 L K v0 v1 v2 v0 v39 h))))
def p_date_Days (L : FuncId → List V → V → Prop) (K : V → Heap → Prop) (a0 a1 a2 : V) (h : Heap) : Prop :=
    (wi F L (.bin .lss (.c a0) (.c (.int .i64 1970))) E0 h fun v16 h =>
    (wg v16 false (wi F L (.mv (.c a0)) E0 h) h fun v18 h =>
    (wg v16 false (wi F L (.bin .gtr (.c v18) (.c (.int .i64 9999))) E0 h) h fun v19 h =>
    (wi F L (.pick (.c v16) (.c (.bool true)) (.c v19)) E0 h fun v20 h =>
    (wg v20 false (wi F L (.mv (.c a1)) E0 h) h fun v22 h =>
    (wg v20 false (wi F L (.bin .lss (.c v22) (.c (.int .i64 1))) E0 h) h fun v23 h =>
    (wi F L (.pick (.c v20) (.c (.bool true)) (.c v23)) E0 h fun v24 h =>
    (wg v24 false (wi F L (.mv (.c a1)) E0 h) h fun v26 h =>
    (wg v24 false (wi F L (.bin .gtr (.c v26) (.c (.int .i64 12))) E0 h) h fun v27 h =>
    (wi F L (.pick (.c v24) (.c (.bool true)) (.c v27)) E0 h fun v28 h =>
    (wg v28 false (wi F L (.mv (.c a2)) E0 h) h fun v30 h =>
    (wg v28 false (wi F L (.bin .lss (.c v30) (.c (.int .i64 1))) E0 h) h fun v31 h =>
    (wi F L (.pick (.c v28) (.c (.bool true)) (.c v31)) E0 h fun v32 h =>
    (wg v32 false (wi F L (.mv (.c a2)) E0 h) h fun v34 h =>
    (wg v32 false (wi F L (.bin .gtr (.c v34) (.c (.int .i64 31))) E0 h) h fun v35 h =>
    (wi F L (.pick (.c v32) (.c (.bool true)) (.c v35)) E0 h fun v36 h =>
    (wb v36
    (∃ v, some (.int .i64 (-1)) = some v ∧ K v h)
    (k_date_Days_0 L K a0 a1 a2 h))))))))))))))))))
theorem run_date_Days {L : FuncId → List V → V → Prop} {K : V → Heap → Prop} {a0 a1 a2 : V} {h : Heap} (hp : p_date_Days L K a0 a1 a2 h) : Cf F L i_date_Days [a0, a1, a2] h K :=
  wcallp F_date_Days (show 3 ≤ 90 by decide) (p := p_date_Days L K a0 a1 a2 h) (by kernel_rfl) hp
def p___strings_asciiSet__contains (L : FuncId → List V → V → Prop) (K : V → Heap → Prop) (a0 a1 : V) (h : Heap) : Prop :=
    (wi F L (.nilck (.c a0)) E0 h fun v7 h =>
    (wi F L (.ixaArr 256 1 (.c v7) (.c a1)) E0 h fun v8 h =>
    (wi F L (.load false 1 (.c v8)) E0 h fun v9 h =>
    (∃ v, some v9 = some v ∧ K v h))))
theorem run___strings_asciiSet__contains {L : FuncId → List V → V → Prop} {K : V → Heap → Prop} {a0 a1 : V} {h : Heap} (hp : p___strings_asciiSet__contains L K a0 a1 h) : Cf F L i___strings_asciiSet__contains [a0, a1] h K :=
  wcallp F___strings_asciiSet__contains (show 2 ≤ 10 by decide) (p := p___strings_asciiSet__contains L K a0 a1 h) (by kernel_rfl) hp
def k_date_Civil_1 (L : FuncId → List V → V → Prop) (K : V → Heap → Prop) (v2 v3 v4 : V) (h : Heap) : Prop :=
    (∃ v, resultsV h (enterE [v2, v3, v4]) [.tmp 0, .tmp 1, .tmp 2] = some v ∧ K v h)
def k_date_Civil_0 (L : FuncId → List V → V → Prop) (K : V → Heap → Prop) (v0 : V) (h : Heap) : Prop :=
    (wi F L (.bin .add (.c v0) (.c (.int .i64 719468))) E0 h fun v18 h =>
    (wi F L (.bin .quo (.c v18) (.c (.int .i64 146097))) E0 h fun v20 h =>
    (wi F L (.bin .rem (.c v18) (.c (.int .i64 146097))) E0 h fun v22 h =>
    (wi F L (.bin .quo (.c v22) (.c (.int .i64 1460))) E0 h fun v25 h =>
    (wi F L (.bin .sub (.c v22) (.c v25)) E0 h fun v26 h =>
    (wi F L (.bin .quo (.c v22) (.c (.int .i64 36524))) E0 h fun v28 h =>
    (wi F L (.bin .add (.c v26) (.c v28)) E0 h fun v29 h =>
    (wi F L (.bin .quo (.c v22) (.c (.int .i64 146096))) E0 h fun v31 h =>
    (wi F L (.bin .sub (.c v29) (.c v31)) E0 h fun v32 h =>
    (wi F L (.bin .quo (.c v32) (.c (.int .i64 365))) E0 h fun v33 h =>
    (wi F L (.bin .mul (.c (.int .i64 365)) (.c v33)) E0 h fun v36 h =>
    (wi F L (.bin .quo (.c v33) (.c (.int .i64 4))) E0 h fun v38 h =>
    (wi F L (.bin .add (.c v36) (.c v38)) E0 h fun v39 h =>
    (wi F L (.bin .quo (.c v33) (.c (.int .i64 100))) E0 h fun v41 h =>
    (wi F L (.bin .sub (.c v39) (.c v41)) E0 h fun v42 h =>
    (wi F L (.bin .sub (.c v22) (.c v42)) E0 h fun v43 h =>
    (wi F L (.bin .mul (.c (.int .i64 5)) (.c v43)) E0 h fun v45 h =>
    (wi F L (.bin .add (.c v45) (.c (.int .i64 2))) E0 h fun v46 h =>
    (wi F L (.bin .quo (.c v46) (.c (.int .i64 153))) E0 h fun v47 h =>
    (wi F L (.bin .mul (.c (.int .i64 153)) (.c v47)) E0 h fun v50 h =>
    (wi F L (.bin .add (.c v50) (.c (.int .i64 2))) E0 h fun v51 h =>
    (wi F L (.bin .quo (.c v51) (.c (.int .i64 5))) E0 h fun v52 h =>
    (wi F L (.bin .sub (.c v43) (.c v52)) E0 h fun v53 h =>
    (wi F L (.bin .add (.c v53) (.c (.int .i64 1))) E0 h fun v54 h =>
    (wi F L (.bin .add (.c v47) (.c (.int .i64 3))) E0 h fun v56 h =>
    (wi F L (.bin .mul (.c (.int .i64 400)) (.c v20)) E0 h fun v59 h =>
    (wi F L (.bin .add (.c v33) (.c v59)) E0 h fun v60 h =>
    (wi F L (.bin .gtr (.c v56) (.c (.int .i64 12))) E0 h fun v62 h =>
    (wb v62
    (wi F L (.bin .sub (.c v56) (.c (.int .i64 12))) E0 h fun v64 h =>
    (wi F L (.bin .add (.c v60) (.c (.int .i64 1))) E0 h fun v66 h =>
    (k_date_Civil_1 L K v66 v64 v54 h)))
    (k_date_Civil_1 L K v60 v56 v54 h))))))))))))))))))))))))))))))
def p_date_Civil (L : FuncId → List V → V → Prop) (K : V → Heap → Prop) (a0 : V) (h : Heap) : Prop :=
    (wi F L (.bin .lss (.c a0) (.c (.int .i64 0))) E0 h fun v12 h =>
    (wg v12 false (wi F L (.mv (.c a0)) E0 h) h fun v14 h =>
    (wg v12 false (wi F L (.bin .gtr (.c v14) (.c (.int .i64 2932896))) E0 h) h fun v15 h =>
    (wi F L (.pick (.c v12) (.c (.bool true)) (.c v15)) E0 h fun v16 h =>
    (wb v16
    (∃ v, resultsV h (enterE [(.int .i64 0), (.int .i64 0), (.int .i64 0)]) [.tmp 0, .tmp 1, .tmp 2] = some v ∧ K v h)
    (k_date_Civil_0 L K a0 h))))))
theorem run_date_Civil {L : FuncId → List V → V → Prop} {K : V → Heap → Prop} {a0 : V} {h : Heap} (hp : p_date_Civil L K a0 h) : Cf F L i_date_Civil [a0] h K :=
  wcallp F_date_Civil (show 1 ≤ 70 by decide) (p := p_date_Civil L K a0 h) (by kernel_rfl) hp
theorem hF : ∀ f fn, F f = some fn → compF Tryz.prog f = some fn := lookup_all ⟨kc_gatepostlaw10_StoringKeeps, kc_gatepostlaw10_StoringTells, kc_gatepostlaw10_few, kc_token_Same, kc_storing_Refresh, kc_storing_Of, kc_gatepostref10_Of, kc_storing_May, kc_gatepostref10_May, kc_gatepostref10_Refresh, kc_gatepostref04_Same, kc_token_Lower, kc_field_Strip, kc_storing_stays, kc_field_Del, kc_storing_has, kc_control_Of, kc_storing_Of_1, kc_storing_dated, kc_field_Get, kc_token_Split, kc_token_Number, kc_gatepostref08_Of, kc_gatepostref10_second, kc_gatepostref04_Get, kc_gatepostref01_Split, kc_gatepostref01_Number, kc_storing_known, kc_storing_varies, kc_fresh_Heuristic, kc_gatepostref10_has, kc_gatepostref09_Heuristic, kc_gatepostref04_Strip, kc_gatepostref04_Del, kc_field_Names, kc_field_without, kc_slices_ContainsFunc___gatepost_api_Field_gatepost_api_Field_, kc_storing_has_1, kc_control_Parse, kc_control_nothing, kc_slices_Contains___string_string_, kc_date_Parse, kc_token_Split_1, kc_token_Trim, kc_token_all, kc_token_Number_1, kc_gatepostref08_Parse, kc_gatepostref08_None, kc_gatepostref01_Lower, kc_gatepostref02_Parse, kc_gatepostref01_Same, kc_gatepostref01_Trim, kc_fresh_keeps, kc_gatepostref04_Names, kc_token_Is, kc_field_keep, kc_field_without_1, kc_slices_IndexFunc___gatepost_api_Field_gatepost_api_Field_, kc_control_rules, kc_token_Pair, kc__gatepost_control_rule__value, kc_slices_Index___string_string_, kc_date_fixed, kc_date_old, kc_date_plain, kc_strings_Trim, kc_gatepostref01_Pair, kc_gatepostref08_least, kc_gatepostref02_second, kc_gatepostref02_find, kc_gatepostref02_short, kc_gatepostref02_number, kc_gatepostref02_months, kc_gatepostref02_clock, kc_gatepostref01_blank, kc_gatepostref01_Is, kc_token_inToken, kc_control_rules_1, kc_control_rules_2, kc_control_rules_3, kc_control_rules_4, kc_control_rules_5, kc_control_rules_6, kc_control_rules_7, kc_control_rules_8, kc_control_rules_9, kc_control_rules_10, kc_control_rules_11, kc_control_rules_12, kc_control_rules_13, kc_control_rules_14, kc_control_rules_15, kc_strings_Cut, kc_token_unquote, kc___gatepost_date_reader__day, kc___gatepost_date_reader__need, kc___gatepost_date_reader__number, kc___gatepost_date_reader__month, kc___gatepost_date_reader__clock, kc___gatepost_date_reader__second, kc___gatepost_date_reader__take, kc_strings_makeASCIISet, kc_strings_trimLeftASCII, kc_strings_trimRightASCII, kc_gatepostref01_unquote, kc_gatepostref02_Days, kc_gatepostref01_tchar, kc_token_marks, kc_internal_stringslite_Cut, kc_strings_CutPrefix, kc_token_inQuotes, kc_date_longDays, kc___gatepost_date_reader__number_1, kc_date_monthNames, kc_date_Days, kc___strings_asciiSet__contains, kc_gatepostref01_text, kc_gatepostref02_long, kc_gatepostref02_year, kc_internal_stringslite_CutPrefix, kc_date_Civil, kc_gatepostref02_leap, kc_internal_stringslite_HasPrefix, trivial⟩
theorem hm : Tryz.prog.follows .mixedOrders = true := by kernel_rfl
end Go.Proofs.YtaahialaegfjgaaGreatDoor.Vh
end
