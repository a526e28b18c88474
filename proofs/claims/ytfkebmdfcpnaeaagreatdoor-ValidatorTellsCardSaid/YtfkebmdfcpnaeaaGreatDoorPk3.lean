/- The functions of a seat, compiled for the small machine. Printed by Print.lean. -/
import Derived.Test.YtfkebmdfcpnaeaaGreatDoorPk2
import Derived.KernelRfl
section
set_option maxRecDepth 100000
set_option linter.unusedVariables false
namespace Go.Proofs.YtfkebmdfcpnaeaaGreatDoor.Vh
open Go.Vm
theorem kc_gatepostlaw12_ValidatorTells : compF Tryz.prog i_gatepostlaw12_ValidatorTells = some c_gatepostlaw12_ValidatorTells := by kernel_rfl
theorem F_gatepostlaw12_few : F i_gatepostlaw12_few = some c_gatepostlaw12_few := rfl
theorem kc_gatepostlaw12_few : compF Tryz.prog i_gatepostlaw12_few = some c_gatepostlaw12_few := by kernel_rfl
theorem F_validator_Unchanged : F i_validator_Unchanged = some c_validator_Unchanged := rfl
theorem kc_validator_Unchanged : compF Tryz.prog i_validator_Unchanged = some c_validator_Unchanged := by kernel_rfl
theorem F_gatepostref12_Unchanged : F i_gatepostref12_Unchanged = some c_gatepostref12_Unchanged := rfl
theorem kc_gatepostref12_Unchanged : compF Tryz.prog i_gatepostref12_Unchanged = some c_gatepostref12_Unchanged := by kernel_rfl
theorem F_validator_Applies : F i_validator_Applies = some c_validator_Applies := rfl
theorem kc_validator_Applies : compF Tryz.prog i_validator_Applies = some c_validator_Applies := by kernel_rfl
theorem F_gatepostref12_Applies : F i_gatepostref12_Applies = some c_gatepostref12_Applies := rfl
theorem kc_gatepostref12_Applies : compF Tryz.prog i_gatepostref12_Applies = some c_gatepostref12_Applies := by kernel_rfl
theorem F_gatepostref04_Same : F i_gatepostref04_Same = some c_gatepostref04_Same := rfl
theorem kc_gatepostref04_Same : compF Tryz.prog i_gatepostref04_Same = some c_gatepostref04_Same := by kernel_rfl
theorem F_validator_Asks : F i_validator_Asks = some c_validator_Asks := rfl
theorem kc_validator_Asks : compF Tryz.prog i_validator_Asks = some c_validator_Asks := by kernel_rfl
theorem F_gatepostref12_Asks : F i_gatepostref12_Asks = some c_gatepostref12_Asks := rfl
theorem kc_gatepostref12_Asks : compF Tryz.prog i_gatepostref12_Asks = some c_gatepostref12_Asks := by kernel_rfl
theorem F_field_Get : F i_field_Get = some c_field_Get := rfl
theorem kc_field_Get : compF Tryz.prog i_field_Get = some c_field_Get := by kernel_rfl
theorem F_validator_matches : F i_validator_matches = some c_validator_matches := rfl
theorem kc_validator_matches : compF Tryz.prog i_validator_matches = some c_validator_matches := by kernel_rfl
theorem F_validator_one : F i_validator_one = some c_validator_one := rfl
theorem kc_validator_one : compF Tryz.prog i_validator_one = some c_validator_one := by kernel_rfl
theorem F_date_Parse : F i_date_Parse = some c_date_Parse := rfl
theorem kc_date_Parse : compF Tryz.prog i_date_Parse = some c_date_Parse := by kernel_rfl
theorem F_gatepostref04_Get : F i_gatepostref04_Get = some c_gatepostref04_Get := rfl
theorem kc_gatepostref04_Get : compF Tryz.prog i_gatepostref04_Get = some c_gatepostref04_Get := by kernel_rfl
theorem F_gatepostref12_Parse : F i_gatepostref12_Parse = some c_gatepostref12_Parse := rfl
theorem kc_gatepostref12_Parse : compF Tryz.prog i_gatepostref12_Parse = some c_gatepostref12_Parse := by kernel_rfl
theorem F_gatepostref01_Split : F i_gatepostref01_Split = some c_gatepostref01_Split := rfl
theorem kc_gatepostref01_Split : compF Tryz.prog i_gatepostref01_Split = some c_gatepostref01_Split := by kernel_rfl
theorem F_gatepostref02_Parse : F i_gatepostref02_Parse = some c_gatepostref02_Parse := rfl
theorem kc_gatepostref02_Parse : compF Tryz.prog i_gatepostref02_Parse = some c_gatepostref02_Parse := by kernel_rfl
theorem F_validator_Parse : F i_validator_Parse = some c_validator_Parse := rfl
theorem kc_validator_Parse : compF Tryz.prog i_validator_Parse = some c_validator_Parse := by kernel_rfl
theorem F_validator_Strong : F i_validator_Strong = some c_validator_Strong := rfl
theorem kc_validator_Strong : compF Tryz.prog i_validator_Strong = some c_validator_Strong := by kernel_rfl
theorem F_date_Format : F i_date_Format = some c_date_Format := rfl
theorem kc_date_Format : compF Tryz.prog i_date_Format = some c_date_Format := by kernel_rfl
theorem F_gatepostref02_Format : F i_gatepostref02_Format = some c_gatepostref02_Format := rfl
theorem kc_gatepostref02_Format : compF Tryz.prog i_gatepostref02_Format = some c_gatepostref02_Format := by kernel_rfl
theorem F_token_Same : F i_token_Same = some c_token_Same := rfl
theorem kc_token_Same : compF Tryz.prog i_token_Same = some c_token_Same := by kernel_rfl
theorem F_token_Split : F i_token_Split = some c_token_Split := rfl
theorem kc_token_Split : compF Tryz.prog i_token_Split = some c_token_Split := by kernel_rfl
theorem F_slices_ContainsFunc___string_string_ : F i_slices_ContainsFunc___string_string_ = some c_slices_ContainsFunc___string_string_ := rfl
theorem kc_slices_ContainsFunc___string_string_ : compF Tryz.prog i_slices_ContainsFunc___string_string_ = some c_slices_ContainsFunc___string_string_ := by kernel_rfl
theorem F_validator_matches_1 : F i_validator_matches_1 = some c_validator_matches_1 := rfl
theorem kc_validator_matches_1 : compF Tryz.prog i_validator_matches_1 = some c_validator_matches_1 := by kernel_rfl
theorem F_validator_Weak : F i_validator_Weak = some c_validator_Weak := rfl
theorem kc_validator_Weak : compF Tryz.prog i_validator_Weak = some c_validator_Weak := by kernel_rfl
theorem F_date_fixed : F i_date_fixed = some c_date_fixed := rfl
theorem kc_date_fixed : compF Tryz.prog i_date_fixed = some c_date_fixed := by kernel_rfl
theorem F_date_old : F i_date_old = some c_date_old := rfl
theorem kc_date_old : compF Tryz.prog i_date_old = some c_date_old := by kernel_rfl
theorem F_date_plain : F i_date_plain = some c_date_plain := rfl
theorem kc_date_plain : compF Tryz.prog i_date_plain = some c_date_plain := by kernel_rfl
theorem F_gatepostref01_Same : F i_gatepostref01_Same = some c_gatepostref01_Same := rfl
theorem kc_gatepostref01_Same : compF Tryz.prog i_gatepostref01_Same = some c_gatepostref01_Same := by kernel_rfl
theorem F_gatepostref01_Trim : F i_gatepostref01_Trim = some c_gatepostref01_Trim := rfl
theorem kc_gatepostref01_Trim : compF Tryz.prog i_gatepostref01_Trim = some c_gatepostref01_Trim := by kernel_rfl
theorem F_gatepostref02_second : F i_gatepostref02_second = some c_gatepostref02_second := rfl
theorem kc_gatepostref02_second : compF Tryz.prog i_gatepostref02_second = some c_gatepostref02_second := by kernel_rfl
theorem F_gatepostref02_find : F i_gatepostref02_find = some c_gatepostref02_find := rfl
theorem kc_gatepostref02_find : compF Tryz.prog i_gatepostref02_find = some c_gatepostref02_find := by kernel_rfl
theorem F_gatepostref02_short : F i_gatepostref02_short = some c_gatepostref02_short := rfl
theorem kc_gatepostref02_short : compF Tryz.prog i_gatepostref02_short = some c_gatepostref02_short := by kernel_rfl
theorem F_gatepostref02_number : F i_gatepostref02_number = some c_gatepostref02_number := rfl
theorem kc_gatepostref02_number : compF Tryz.prog i_gatepostref02_number = some c_gatepostref02_number := by kernel_rfl
theorem F_gatepostref02_months : F i_gatepostref02_months = some c_gatepostref02_months := rfl
theorem kc_gatepostref02_months : compF Tryz.prog i_gatepostref02_months = some c_gatepostref02_months := by kernel_rfl
theorem F_gatepostref02_clock : F i_gatepostref02_clock = some c_gatepostref02_clock := rfl
theorem kc_gatepostref02_clock : compF Tryz.prog i_gatepostref02_clock = some c_gatepostref02_clock := by kernel_rfl
theorem F_strings_CutPrefix : F i_strings_CutPrefix = some c_strings_CutPrefix := rfl
theorem kc_strings_CutPrefix : compF Tryz.prog i_strings_CutPrefix = some c_strings_CutPrefix := by kernel_rfl
theorem F_strings_CutSuffix : F i_strings_CutSuffix = some c_strings_CutSuffix := rfl
theorem kc_strings_CutSuffix : compF Tryz.prog i_strings_CutSuffix = some c_strings_CutSuffix := by kernel_rfl
theorem F_date_Civil : F i_date_Civil = some c_date_Civil := rfl
theorem kc_date_Civil : compF Tryz.prog i_date_Civil = some c_date_Civil := by kernel_rfl
theorem F_date_longDays : F i_date_longDays = some c_date_longDays := rfl
theorem kc_date_longDays : compF Tryz.prog i_date_longDays = some c_date_longDays := by kernel_rfl
theorem F_date_pad : F i_date_pad = some c_date_pad := rfl
theorem kc_date_pad : compF Tryz.prog i_date_pad = some c_date_pad := by kernel_rfl
theorem F_date_monthNames : F i_date_monthNames = some c_date_monthNames := rfl
theorem kc_date_monthNames : compF Tryz.prog i_date_monthNames = some c_date_monthNames := by kernel_rfl
theorem F_gatepostref02_Civil : F i_gatepostref02_Civil = some c_gatepostref02_Civil := rfl
theorem kc_gatepostref02_Civil : compF Tryz.prog i_gatepostref02_Civil = some c_gatepostref02_Civil := by kernel_rfl
theorem F_gatepostref02_two : F i_gatepostref02_two = some c_gatepostref02_two := rfl
theorem kc_gatepostref02_two : compF Tryz.prog i_gatepostref02_two = some c_gatepostref02_two := by kernel_rfl
theorem F_token_Lower : F i_token_Lower = some c_token_Lower := rfl
theorem kc_token_Lower : compF Tryz.prog i_token_Lower = some c_token_Lower := by kernel_rfl
theorem F_token_Split_1 : F i_token_Split_1 = some c_token_Split_1 := rfl
theorem kc_token_Split_1 : compF Tryz.prog i_token_Split_1 = some c_token_Split_1 := by kernel_rfl
theorem F_token_Trim : F i_token_Trim = some c_token_Trim := rfl
theorem kc_token_Trim : compF Tryz.prog i_token_Trim = some c_token_Trim := by kernel_rfl
theorem F_slices_IndexFunc___string_string_ : F i_slices_IndexFunc___string_string_ = some c_slices_IndexFunc___string_string_ := rfl
theorem kc_slices_IndexFunc___string_string_ : compF Tryz.prog i_slices_IndexFunc___string_string_ = some c_slices_IndexFunc___string_string_ := by kernel_rfl
theorem F___gatepost_date_reader__day : F i___gatepost_date_reader__day = some c___gatepost_date_reader__day := rfl
theorem kc___gatepost_date_reader__day : compF Tryz.prog i___gatepost_date_reader__day = some c___gatepost_date_reader__day := by kernel_rfl
theorem F___gatepost_date_reader__need : F i___gatepost_date_reader__need = some c___gatepost_date_reader__need := rfl
theorem kc___gatepost_date_reader__need : compF Tryz.prog i___gatepost_date_reader__need = some c___gatepost_date_reader__need := by kernel_rfl
theorem F___gatepost_date_reader__number : F i___gatepost_date_reader__number = some c___gatepost_date_reader__number := rfl
theorem kc___gatepost_date_reader__number : compF Tryz.prog i___gatepost_date_reader__number = some c___gatepost_date_reader__number := by kernel_rfl
theorem F___gatepost_date_reader__month : F i___gatepost_date_reader__month = some c___gatepost_date_reader__month := rfl
theorem kc___gatepost_date_reader__month : compF Tryz.prog i___gatepost_date_reader__month = some c___gatepost_date_reader__month := by kernel_rfl
theorem F___gatepost_date_reader__clock : F i___gatepost_date_reader__clock = some c___gatepost_date_reader__clock := rfl
theorem kc___gatepost_date_reader__clock : compF Tryz.prog i___gatepost_date_reader__clock = some c___gatepost_date_reader__clock := by kernel_rfl
theorem F___gatepost_date_reader__second : F i___gatepost_date_reader__second = some c___gatepost_date_reader__second := rfl
theorem kc___gatepost_date_reader__second : compF Tryz.prog i___gatepost_date_reader__second = some c___gatepost_date_reader__second := by kernel_rfl
theorem F___gatepost_date_reader__take : F i___gatepost_date_reader__take = some c___gatepost_date_reader__take := rfl
theorem kc___gatepost_date_reader__take : compF Tryz.prog i___gatepost_date_reader__take = some c___gatepost_date_reader__take := by kernel_rfl
theorem F_gatepostref01_Lower : F i_gatepostref01_Lower = some c_gatepostref01_Lower := rfl
theorem kc_gatepostref01_Lower : compF Tryz.prog i_gatepostref01_Lower = some c_gatepostref01_Lower := by kernel_rfl
theorem F_gatepostref01_blank : F i_gatepostref01_blank = some c_gatepostref01_blank := rfl
theorem kc_gatepostref01_blank : compF Tryz.prog i_gatepostref01_blank = some c_gatepostref01_blank := by kernel_rfl
theorem F_gatepostref02_Days : F i_gatepostref02_Days = some c_gatepostref02_Days := rfl
theorem kc_gatepostref02_Days : compF Tryz.prog i_gatepostref02_Days = some c_gatepostref02_Days := by kernel_rfl
theorem F_internal_stringslite_CutPrefix : F i_internal_stringslite_CutPrefix = some c_internal_stringslite_CutPrefix := rfl
theorem kc_internal_stringslite_CutPrefix : compF Tryz.prog i_internal_stringslite_CutPrefix = some c_internal_stringslite_CutPrefix := by kernel_rfl
theorem F_internal_stringslite_CutSuffix : F i_internal_stringslite_CutSuffix = some c_internal_stringslite_CutSuffix := rfl
theorem kc_internal_stringslite_CutSuffix : compF Tryz.prog i_internal_stringslite_CutSuffix = some c_internal_stringslite_CutSuffix := by kernel_rfl
theorem F_gatepostref02_year : F i_gatepostref02_year = some c_gatepostref02_year := rfl
theorem kc_gatepostref02_year : compF Tryz.prog i_gatepostref02_year = some c_gatepostref02_year := by kernel_rfl
theorem F_gatepostref02_long : F i_gatepostref02_long = some c_gatepostref02_long := rfl
theorem kc_gatepostref02_long : compF Tryz.prog i_gatepostref02_long = some c_gatepostref02_long := by kernel_rfl
theorem F_strings_Trim : F i_strings_Trim = some c_strings_Trim := rfl
theorem kc_strings_Trim : compF Tryz.prog i_strings_Trim = some c_strings_Trim := by kernel_rfl
theorem F___gatepost_date_reader__number_1 : F i___gatepost_date_reader__number_1 = some c___gatepost_date_reader__number_1 := rfl
theorem kc___gatepost_date_reader__number_1 : compF Tryz.prog i___gatepost_date_reader__number_1 = some c___gatepost_date_reader__number_1 := by kernel_rfl
theorem F_date_Days : F i_date_Days = some c_date_Days := rfl
theorem kc_date_Days : compF Tryz.prog i_date_Days = some c_date_Days := by kernel_rfl
theorem F_internal_stringslite_HasPrefix : F i_internal_stringslite_HasPrefix = some c_internal_stringslite_HasPrefix := rfl
theorem kc_internal_stringslite_HasPrefix : compF Tryz.prog i_internal_stringslite_HasPrefix = some c_internal_stringslite_HasPrefix := by kernel_rfl
theorem F_internal_stringslite_HasSuffix : F i_internal_stringslite_HasSuffix = some c_internal_stringslite_HasSuffix := rfl
theorem kc_internal_stringslite_HasSuffix : compF Tryz.prog i_internal_stringslite_HasSuffix = some c_internal_stringslite_HasSuffix := by kernel_rfl
theorem F_gatepostref02_leap : F i_gatepostref02_leap = some c_gatepostref02_leap := rfl
theorem kc_gatepostref02_leap : compF Tryz.prog i_gatepostref02_leap = some c_gatepostref02_leap := by kernel_rfl
theorem F_strings_makeASCIISet : F i_strings_makeASCIISet = some c_strings_makeASCIISet := rfl
theorem kc_strings_makeASCIISet : compF Tryz.prog i_strings_makeASCIISet = some c_strings_makeASCIISet := by kernel_rfl
theorem F_strings_trimLeftASCII : F i_strings_trimLeftASCII = some c_strings_trimLeftASCII := rfl
theorem kc_strings_trimLeftASCII : compF Tryz.prog i_strings_trimLeftASCII = some c_strings_trimLeftASCII := by kernel_rfl
theorem F_strings_trimRightASCII : F i_strings_trimRightASCII = some c_strings_trimRightASCII := rfl
theorem kc_strings_trimRightASCII : compF Tryz.prog i_strings_trimRightASCII = some c_strings_trimRightASCII := by kernel_rfl
theorem F___strings_asciiSet__contains : F i___strings_asciiSet__contains = some c___strings_asciiSet__contains := rfl
theorem kc___strings_asciiSet__contains : compF Tryz.prog i___strings_asciiSet__contains = some c___strings_asciiSet__contains := by kernel_rfl
def k_gatepostlaw12_ValidatorTells_0 (L : FuncId → List V → V → Prop) (K : V → Heap → Prop) (v2 v3 : V) (h : Heap) : Prop :=
    (wi F L (.load true 4 (.c v2)) E0 h fun v15 h' => Ext h h' ∧
    (wi F L (.load true 21 (.c v3)) E0 h' fun v16 h => Ext h' h ∧
    (wi F L (.call i_validator_Unchanged [(.c v15), (.c v16)]) E0 h fun v17 h' => Ext h h' ∧
    (wi F L (.load true 4 (.c v2)) E0 h' fun v18 h => Ext h' h ∧
    (wi F L (.load true 21 (.c v3)) E0 h fun v19 h' => Ext h h' ∧
    (wi F L (.call i_gatepostref12_Unchanged [(.c v18), (.c v19)]) E0 h' fun v20 h => Ext h' h ∧
    (wi F L (.eq .bool false (.c v17) (.c v20)) E0 h fun v21 h' => Ext h h' ∧
    (wgd v21 true (wi F L (.load true 4 (.c v2)) E0 h') h' fun v23 h =>
    (wgd v21 true (wi F L (.load true 21 (.c v3)) E0 h) h fun v24 h' =>
    (wgd v21 true (wi F L (.call i_validator_Applies [(.c v23), (.c v24)]) E0 h') h' fun v25 h =>
    (wgd v21 true (wi F L (.load true 4 (.c v2)) E0 h) h fun v26 h' =>
    (wgd v21 true (wi F L (.load true 21 (.c v3)) E0 h') h' fun v27 h =>
    (wgd v21 true (wi F L (.call i_gatepostref12_Applies [(.c v26), (.c v27)]) E0 h) h fun v28 h' =>
    (wgd v21 true (wi F L (.eq .bool false (.c v25) (.c v28)) E0 h') h' fun v29 h =>
    (wi F L (.pick (.c v21) (.c v29) (.c (.bool false))) E0 h fun v30 h' => Ext h h' ∧
    (wgd v30 true (wi F L (.load true 21 (.c v3)) E0 h') h' fun v32 h =>
    (wgd v30 true (wi F L (.call i_validator_Asks [(.c v32)]) E0 h) h fun v33 h' =>
    (wgd v30 true (wi F L (.load true 21 (.c v3)) E0 h') h' fun v34 h =>
    (wg v30 true (wi F L (.call i_gatepostref12_Asks [(.c v34)]) E0 h) h fun v35 h =>
    (wg v30 true (wi F L (.call i_gatepostref04_Same [(.c v33), (.c v35)]) E0 h) h fun v36 h =>
    (wi F L (.pick (.c v30) (.c v36) (.c (.bool false))) E0 h fun v37 h =>
    (wg v37 true (wi F L (.build [(.int .i64 0), (.bool false), (.bool false), (.bool false), (.bool false), (.bool false), (.bool false), (.bool false), (.int .i64 0), (.int .i64 0), (.int .i64 0), (.int .i64 0), (.int .i64 0), (.int .i64 0), (.int .i64 0), (.int .i64 0), (.int .i64 0), (.int .i64 0), (.int .i64 0), (.int .i64 0), (.str [])] [(20, 1, (.c (.str [34, 97, 34])))]) E0 h) h fun v39 h =>
    (wg v37 true (wi F L (.call i_validator_Asks [(.c v39)]) E0 h) h fun v40 h =>
    (wg v37 true (wi F L (.len 1 (.c v40)) E0 h) h fun v41 h =>
    (wg v37 true (wi F L (.bin .eql (.c v41) (.c (.int .i64 2))) E0 h) h fun v42 h =>
    (wi F L (.pick (.c v37) (.c v42) (.c (.bool false))) E0 h fun v43 h =>
    (∃ v, some v43 = some v ∧ K v h)))))))))))))))))))))))))))
def p_gatepostlaw12_ValidatorTells (L : FuncId → List V → V → Prop) (K : V → Heap → Prop) (a0 a1 : V) (h : Heap) : Prop :=
    (wi F L (.box (.c a0)) E0 h fun v2 h =>
    (wi F L (.box (.c a1)) E0 h fun v3 h =>
    (wi F L (.faddr 3 (.c v2)) E0 h fun v5 h =>
    (wi F L (.load false 1 (.c v5)) E0 h fun v6 h =>
    (wi F L (.call i_gatepostlaw12_few [(.c v6)]) E0 h fun v7 h =>
    (wi F L (.un .not (.c v7)) E0 h fun v8 h =>
    (wg v8 false (wi F L (.faddr 20 (.c v3)) E0 h) h fun v10 h =>
    (wg v8 false (wi F L (.load false 1 (.c v10)) E0 h) h fun v11 h =>
    (wg v8 false (wi F L (.len 0 (.c v11)) E0 h) h fun v12 h =>
    (wg v8 false (wi F L (.bin .gtr (.c v12) (.c (.int .i64 500))) E0 h) h fun v13 h =>
    (wi F L (.pick (.c v8) (.c (.bool true)) (.c v13)) E0 h fun v14 h =>
    (wb v14
    (∃ v, some (.bool true) = some v ∧ K v h)
    (k_gatepostlaw12_ValidatorTells_0 L K v2 v3 h)))))))))))))
theorem run_gatepostlaw12_ValidatorTells {L : FuncId → List V → V → Prop} {K : V → Heap → Prop} {a0 a1 : V} {h : Heap} (hp : p_gatepostlaw12_ValidatorTells L K a0 a1 h) : Cf F L i_gatepostlaw12_ValidatorTells [a0, a1] h K :=
  wcallp F_gatepostlaw12_ValidatorTells (show 2 ≤ 44 by decide) (p := p_gatepostlaw12_ValidatorTells L K a0 a1 h) (by kernel_rfl) hp
def k_gatepostlaw12_few_0 (L : FuncId → List V → V → Prop) (K : V → Heap → Prop) (v3 : V) (h : Heap) : Prop :=
    (wi F L (.bin .lss (.c v3) (.c (.int .i64 3000))) E0 h fun v34 h =>
    (∃ v, some v34 = some v ∧ K v h))
def k_gatepostlaw12_few_2 (L : FuncId → List V → V → Prop) (K : V → Heap → Prop) (N0 : Env → Heap → Prop) (e : Env) (v4 : V) (h : Heap) : Prop :=
    (wi F L (.bin .add (.c v4) (.c (.int .i64 1))) E0 h fun v17 h =>
    (N0 (upd (upd (upd e 16 v4) 17 v17) 4 v17) h))
def k_gatepostlaw12_few_1 (L : FuncId → List V → V → Prop) (K : V → Heap → Prop) (N0 : Env → Heap → Prop) (e : Env) (v0 v3 v4 : V) (h : Heap) : Prop :=
    (wi F L (.ixaSl 2 (.c v0) (.c v4)) E0 h fun v21 h' => Ext h h' ∧
    (wi F L (.faddr 0 (.c v21)) E0 h' fun v22 h => Ext h' h ∧
    (wi F L (.load false 1 (.c v22)) E0 h fun v23 h' => Ext h h' ∧
    (wi F L (.len 0 (.c v23)) E0 h' fun v24 h => Ext h' h ∧
    (wi F L (.bin .add (.c v3) (.c v24)) E0 h fun v25 h' => Ext h h' ∧
    (wi F L (.ixaSl 2 (.c v0) (.c v4)) E0 h' fun v28 h => Ext h' h ∧
    (wi F L (.faddr 1 (.c v28)) E0 h fun v29 h' => Ext h h' ∧
    (wi F L (.load false 1 (.c v29)) E0 h' fun v30 h => Ext h' h ∧
    (wi F L (.len 0 (.c v30)) E0 h fun v31 h' => Ext h h' ∧
    (wi F L (.bin .add (.c v25) (.c v31)) E0 h' fun v32 h =>
    (k_gatepostlaw12_few_2 L K N0 (upd (upd (upd (upd (upd (upd (upd (upd (upd (upd (upd (upd (upd (upd (upd (upd e 18 v3) 19 v0) 20 v4) 21 v21) 22 v22) 23 v23) 24 v24) 25 v25) 26 v0) 27 v4) 28 v28) 29 v29) 30 v30) 31 v31) 32 v32) 3 v32) v4 h)))))))))))
def q_gatepostlaw12_few_0 (L : FuncId → List V → V → Prop) (K : V → Heap → Prop) : X → Env → Heap → Prop := (fun x => (seqX (fun e h => k_gatepostlaw12_few_0 L K (e 3) h) (retX c_gatepostlaw12_few.results K)) (X.out 0 x))
def lc_gatepostlaw12_few_0 : C :=
  (.seq (.seq (.region [⟨(some 8), none, .mv (.t 4)⟩, ⟨(some 9), none, .mv (.t 0)⟩, ⟨(some 10), none, .len 1 (.t 9)⟩, ⟨(some 11), none, .bin .lss (.t 8) (.t 10)⟩, ⟨(some 12), none, .mv (.t 11)⟩, ⟨(some 13), (some (12, true)), .mv (.t 3)⟩, ⟨(some 14), (some (12, true)), .bin .lss (.t 13) (.c (.int .i64 3000))⟩, ⟨(some 15), none, .pick (.t 12) (.t 14) (.c (.bool false))⟩])
  (.cond (.t 15)
    .skip
    (.exit 0)))
  (.seq (.block 1 (.dregion [⟨(some 18), none, .mv (.t 3)⟩, ⟨(some 19), none, .mv (.t 0)⟩, ⟨(some 20), none, .mv (.t 4)⟩, ⟨(some 21), none, .ixaSl 2 (.t 19) (.t 20)⟩, ⟨(some 22), none, .faddr 0 (.t 21)⟩, ⟨(some 23), none, .load false 1 (.t 22)⟩, ⟨(some 24), none, .len 0 (.t 23)⟩, ⟨(some 25), none, .bin .add (.t 18) (.t 24)⟩, ⟨(some 26), none, .mv (.t 0)⟩, ⟨(some 27), none, .mv (.t 4)⟩, ⟨(some 28), none, .ixaSl 2 (.t 26) (.t 27)⟩, ⟨(some 29), none, .faddr 1 (.t 28)⟩, ⟨(some 30), none, .load false 1 (.t 29)⟩, ⟨(some 31), none, .len 0 (.t 30)⟩] [⟨(some 32), none, .bin .add (.t 25) (.t 31)⟩, ⟨(some 3), none, .mv (.t 32)⟩]))
  (.region [⟨(some 16), none, .mv (.t 4)⟩, ⟨(some 17), none, .bin .add (.t 16) (.c (.int .i64 1))⟩, ⟨(some 4), none, .mv (.t 17)⟩])))
def b_gatepostlaw12_few_0 (L : FuncId → List V → V → Prop) (K : V → Heap → Prop) (N0 : Env → Heap → Prop) (e : Env) (h : Heap) : Prop :=
    (wi F L (.len 1 (.c (e 0))) E0 h fun v10 h =>
    (wi F L (.bin .lss (.c (e 4)) (.c v10)) E0 h fun v11 h =>
    (wg v11 true (wi F L (.mv (.c (e 3))) E0 h) h fun v13 h =>
    (wg v11 true (wi F L (.bin .lss (.c v13) (.c (.int .i64 3000))) E0 h) h fun v14 h =>
    (wi F L (.pick (.c v11) (.c v14) (.c (.bool false))) E0 h fun v15 h =>
    (wb v15
    (k_gatepostlaw12_few_1 L K N0 (upd (upd (upd (upd (upd (upd (upd (upd e 8 (e 4)) 9 (e 0)) 10 v10) 11 v11) 12 v11) 13 v13) 14 v14) 15 v15) (e 0) (e 3) (e 4) h)
    (k_gatepostlaw12_few_0 L K (e 3) h)))))))
theorem l_gatepostlaw12_few_0 {L : FuncId → List V → V → Prop} {K : V → Heap → Prop} (I : Nat → Env → Heap → Prop) (hr : ∀ n e h, I n e h → b_gatepostlaw12_few_0 L K (fun e' h' => ∃ m, m < n ∧ I m e' h') e h) {n : Nat} {e : Env} {h : Heap} (hi : I n e h) : Wl F L lc_gatepostlaw12_few_0 (q_gatepostlaw12_few_0 L K) e h :=
  wloopp (b := b_gatepostlaw12_few_0 L K) I (fun _ _ _ => by kernel_rfl) hr hi
def p_gatepostlaw12_few (L : FuncId → List V → V → Prop) (K : V → Heap → Prop) (a0 : V) (h : Heap) : Prop :=
    (wi F L (.len 1 (.c a0)) E0 h fun v6 h =>
    (wi F L (.bin .mul (.c (.int .i64 20)) (.c v6)) E0 h fun v7 h =>
    (Wl F L lc_gatepostlaw12_few_0 (q_gatepostlaw12_few_0 L K) (upd (upd (upd (upd (upd (upd (enterE [a0]) 2 (.bool false)) 5 a0) 6 v6) 7 v7) 3 v7) 4 (.int .i64 0)) h)))
theorem run_gatepostlaw12_few {L : FuncId → List V → V → Prop} {K : V → Heap → Prop} {a0 : V} {h : Heap} (hp : p_gatepostlaw12_few L K a0 h) : Cf F L i_gatepostlaw12_few [a0] h K :=
  wcallp F_gatepostlaw12_few (show 1 ≤ 35 by decide) (p := p_gatepostlaw12_few L K a0 h) (by kernel_rfl) hp
def k_validator_Unchanged_1 (L : FuncId → List V → V → Prop) (K : V → Heap → Prop) (v2 v3 : V) (h : Heap) : Prop :=
    (wi F L (.faddr 3 (.c v2)) E0 h fun v32 h =>
    (wi F L (.load false 1 (.c v32)) E0 h fun v33 h =>
    (wi F L (.call i_validator_one [(.c v33), (.c (.str [73, 102, 45, 77, 111, 100, 105, 102, 105, 101, 100, 45, 83, 105, 110, 99, 101]))]) E0 h fun v34 h =>
    (wi F L (.ext 0 (.c v34)) E0 h fun v35 h =>
    (wi F L (.ext 1 (.c v34)) E0 h fun v36 h =>
    (wi F L (.call i_date_Parse [(.c v35)]) E0 h fun v39 h =>
    (wi F L (.ext 0 (.c v39)) E0 h fun v40 h =>
    (wi F L (.ext 1 (.c v39)) E0 h fun v41 h =>
    (wg v36 true (wi F L (.mv (.c v41)) E0 h) h fun v44 h =>
    (wi F L (.pick (.c v36) (.c v44) (.c (.bool false))) E0 h fun v45 h =>
    (wg v45 true (wi F L (.faddr 16 (.c v3)) E0 h) h fun v47 h =>
    (wg v45 true (wi F L (.load false 1 (.c v47)) E0 h) h fun v48 h =>
    (wg v45 true (wi F L (.bin .geq (.c v48) (.c (.int .i64 0))) E0 h) h fun v49 h =>
    (wi F L (.pick (.c v45) (.c v49) (.c (.bool false))) E0 h fun v50 h =>
    (wg v50 true (wi F L (.faddr 16 (.c v3)) E0 h) h fun v52 h =>
    (wg v50 true (wi F L (.load false 1 (.c v52)) E0 h) h fun v53 h =>
    (wg v50 true (wi F L (.mv (.c v40)) E0 h) h fun v54 h =>
    (wg v50 true (wi F L (.bin .leq (.c v53) (.c v54)) E0 h) h fun v55 h =>
    (wi F L (.pick (.c v50) (.c v55) (.c (.bool false))) E0 h fun v56 h =>
    (∃ v, some v56 = some v ∧ K v h))))))))))))))))))))
def k_validator_Unchanged_0 (L : FuncId → List V → V → Prop) (K : V → Heap → Prop) (v2 v3 : V) (h : Heap) : Prop :=
    (wi F L (.faddr 3 (.c v2)) E0 h fun v20 h =>
    (wi F L (.load false 1 (.c v20)) E0 h fun v21 h =>
    (wi F L (.call i_field_Get [(.c v21), (.c (.str [73, 102, 45, 78, 111, 110, 101, 45, 77, 97, 116, 99, 104]))]) E0 h fun v22 h =>
    (wi F L (.ext 0 (.c v22)) E0 h fun v23 h =>
    (wi F L (.ext 1 (.c v22)) E0 h fun v24 h =>
    (wi F L (.bin .gtr (.c v24) (.c (.int .i64 0))) E0 h fun v26 h =>
    (wb v26
    (wi F L (.faddr 20 (.c v3)) E0 h fun v28 h =>
    (wi F L (.load false 1 (.c v28)) E0 h fun v29 h =>
    (wi F L (.call i_validator_matches [(.c v23), (.c v29)]) E0 h fun v30 h =>
    (∃ v, some v30 = some v ∧ K v h))))
    (k_validator_Unchanged_1 L K v2 v3 h))))))))
def p_validator_Unchanged (L : FuncId → List V → V → Prop) (K : V → Heap → Prop) (a0 a1 : V) (h : Heap) : Prop :=
    (wi F L (.box (.c a0)) E0 h fun v2 h =>
    (wi F L (.box (.c a1)) E0 h fun v3 h =>
    (wi F L (.faddr 0 (.c v2)) E0 h fun v11 h =>
    (wi F L (.load false 1 (.c v11)) E0 h fun v12 h =>
    (wi F L (.bin .neq (.c v12) (.c (.str [71, 69, 84]))) E0 h fun v13 h =>
    (wg v13 true (wi F L (.faddr 0 (.c v2)) E0 h) h fun v15 h =>
    (wg v13 true (wi F L (.load false 1 (.c v15)) E0 h) h fun v16 h =>
    (wg v13 true (wi F L (.bin .neq (.c v16) (.c (.str [72, 69, 65, 68]))) E0 h) h fun v17 h =>
    (wi F L (.pick (.c v13) (.c v17) (.c (.bool false))) E0 h fun v18 h =>
    (wb v18
    (∃ v, some (.bool false) = some v ∧ K v h)
    (k_validator_Unchanged_0 L K v2 v3 h)))))))))))
theorem run_validator_Unchanged {L : FuncId → List V → V → Prop} {K : V → Heap → Prop} {a0 a1 : V} {h : Heap} (hp : p_validator_Unchanged L K a0 a1 h) : Cf F L i_validator_Unchanged [a0, a1] h K :=
  wcallp F_validator_Unchanged (show 2 ≤ 57 by decide) (p := p_validator_Unchanged L K a0 a1 h) (by kernel_rfl) hp
def k_gatepostref12_Unchanged_1 (L : FuncId → List V → V → Prop) (K : V → Heap → Prop) (v2 v3 : V) (h : Heap) : Prop :=
    (wi F L (.faddr 3 (.c v2)) E0 h fun v74 h =>
    (wi F L (.load false 1 (.c v74)) E0 h fun v75 h =>
    (wi F L (.call i_gatepostref04_Get [(.c v75), (.c (.str [105, 102, 45, 109, 111, 100, 105, 102, 105, 101, 100, 45, 115, 105, 110, 99, 101]))]) E0 h fun v76 h =>
    (wi F L (.ext 0 (.c v76)) E0 h fun v77 h =>
    (wi F L (.ext 1 (.c v76)) E0 h fun v78 h =>
    (wi F L (.call i_gatepostref02_Parse [(.c v77)]) E0 h fun v81 h =>
    (wi F L (.ext 0 (.c v81)) E0 h fun v82 h =>
    (wi F L (.ext 1 (.c v81)) E0 h fun v83 h =>
    (wi F L (.bin .eql (.c v78) (.c (.int .i64 1))) E0 h fun v85 h =>
    (wg v85 true (wi F L (.mv (.c v83)) E0 h) h fun v87 h =>
    (wi F L (.pick (.c v85) (.c v87) (.c (.bool false))) E0 h fun v88 h =>
    (wg v88 true (wi F L (.faddr 16 (.c v3)) E0 h) h fun v90 h =>
    (wg v88 true (wi F L (.load false 1 (.c v90)) E0 h) h fun v91 h =>
    (wg v88 true (wi F L (.bin .geq (.c v91) (.c (.int .i64 0))) E0 h) h fun v92 h =>
    (wi F L (.pick (.c v88) (.c v92) (.c (.bool false))) E0 h fun v93 h =>
    (wg v93 true (wi F L (.faddr 16 (.c v3)) E0 h) h fun v95 h =>
    (wg v93 true (wi F L (.load false 1 (.c v95)) E0 h) h fun v96 h =>
    (wg v93 true (wi F L (.mv (.c v82)) E0 h) h fun v97 h =>
    (wg v93 true (wi F L (.bin .leq (.c v96) (.c v97)) E0 h) h fun v98 h =>
    (wi F L (.pick (.c v93) (.c v98) (.c (.bool false))) E0 h fun v99 h =>
    (∃ v, some v99 = some v ∧ K v h)))))))))))))))))))))
def k_gatepostref12_Unchanged_3 (L : FuncId → List V → V → Prop) (K : V → Heap → Prop) (h : Heap) : Prop :=
    (∃ v, some (.bool false) = some v ∧ K v h)
def k_gatepostref12_Unchanged_5 (L : FuncId → List V → V → Prop) (K : V → Heap → Prop) (N0 : Env → Heap → Prop) (e : Env) (v11 : V) (h : Heap) : Prop :=
    (wi F L (.bin .add (.c v11) (.c (.int .i64 1))) E0 h fun v56 h =>
    (N0 (upd (upd (upd e 55 v11) 56 v56) 11 v56) h))
def k_gatepostref12_Unchanged_4 (L : FuncId → List V → V → Prop) (K : V → Heap → Prop) (N0 : Env → Heap → Prop) (e : Env) (v7 v9 v11 : V) (h : Heap) : Prop :=
    (wi F L (.ixaSl 1 (.c v9) (.c v11)) E0 h fun v60 h =>
    (wi F L (.load false 1 (.c v60)) E0 h fun v61 h =>
    (wi F L (.call i_gatepostref12_Parse [(.c v61)]) E0 h fun v62 h =>
    (wi F L (.ext 0 (.c v62)) E0 h fun v63 h =>
    (wi F L (.ext 1 (.c v62)) E0 h fun v64 h =>
    (wi F L (.boxz [(.bool false), (.str [])]) E0 h fun v12 h =>
    (wi F L (.store 2 (.c v12) (.c v63)) E0 h fun _ h =>
    (wg v64 true (wi F L (.faddr 1 (.c v12)) E0 h) h fun v67 h =>
    (wg v64 true (wi F L (.load false 1 (.c v67)) E0 h) h fun v68 h =>
    (wg v64 true (wi F L (.faddr 1 (.c v7)) E0 h) h fun v69 h =>
    (wg v64 true (wi F L (.load false 1 (.c v69)) E0 h) h fun v70 h =>
    (wg v64 true (wi F L (.bin .eql (.c v68) (.c v70)) E0 h) h fun v71 h =>
    (wi F L (.pick (.c v64) (.c v71) (.c (.bool false))) E0 h fun v72 h =>
    (wb v72
    (∃ v, some (.bool true) = some v ∧ K v h)
    (k_gatepostref12_Unchanged_5 L K N0 (upd (upd (upd (upd (upd (upd (upd (upd (upd (upd (upd (upd (upd (upd (upd (upd (upd (upd e 58 v9) 59 v11) 60 v60) 61 v61) 62 v62) 57 v62) 63 v63) 64 v64) 12 v12) 13 v64) 65 v64) 66 v64) 67 v67) 68 v68) 69 v69) 70 v70) 71 v71) 72 v72) v11 h)))))))))))))))
def q_gatepostref12_Unchanged_0 (L : FuncId → List V → V → Prop) (K : V → Heap → Prop) : X → Env → Heap → Prop := (fun x => (seqX (fun e h => k_gatepostref12_Unchanged_3 L K  h) (seqX (fun e h => k_gatepostref12_Unchanged_1 L K (e 2) (e 3) h) (retX c_gatepostref12_Unchanged.results K))) (X.out 0 x))
def lc_gatepostref12_Unchanged_0 : C :=
  (.seq (.seq (.region [⟨(some 45), none, .mv (.t 11)⟩, ⟨(some 46), none, .mv (.t 9)⟩, ⟨(some 47), none, .len 1 (.t 46)⟩, ⟨(some 48), none, .bin .lss (.t 45) (.t 47)⟩, ⟨(some 49), none, .mv (.t 48)⟩, ⟨(some 50), (some (49, true)), .mv (.t 8)⟩, ⟨(some 51), none, .pick (.t 49) (.t 50) (.c (.bool false))⟩, ⟨(some 52), none, .mv (.t 51)⟩, ⟨(some 53), (some (52, true)), .mv (.t 10)⟩, ⟨(some 54), none, .pick (.t 52) (.t 53) (.c (.bool false))⟩])
  (.cond (.t 54)
    .skip
    (.exit 0)))
  (.seq (.block 1 (.seq (.region [⟨(some 58), none, .mv (.t 9)⟩, ⟨(some 59), none, .mv (.t 11)⟩, ⟨(some 60), none, .ixaSl 1 (.t 58) (.t 59)⟩, ⟨(some 61), none, .load false 1 (.t 60)⟩, ⟨(some 62), none, .call i_gatepostref12_Parse [(.t 61)]⟩, ⟨(some 57), none, .mv (.t 62)⟩, ⟨(some 63), none, .ext 0 (.t 57)⟩, ⟨(some 64), none, .ext 1 (.t 57)⟩, ⟨(some 12), none, .boxz [(.bool false), (.str [])]⟩, ⟨none, none, .store 2 (.t 12) (.t 63)⟩, ⟨(some 13), none, .mv (.t 64)⟩])
  (.seq (.region [⟨(some 65), none, .mv (.t 13)⟩, ⟨(some 66), none, .mv (.t 65)⟩, ⟨(some 67), (some (66, true)), .faddr 1 (.t 12)⟩, ⟨(some 68), (some (66, true)), .load false 1 (.t 67)⟩, ⟨(some 69), (some (66, true)), .faddr 1 (.t 7)⟩, ⟨(some 70), (some (66, true)), .load false 1 (.t 69)⟩, ⟨(some 71), (some (66, true)), .bin .eql (.t 68) (.t 70)⟩, ⟨(some 72), none, .pick (.t 66) (.t 71) (.c (.bool false))⟩])
  (.cond (.t 72)
    (.seq (.region [⟨(some 4), none, .mv (.c (.bool true))⟩])
    .ret)
    .skip))))
  (.region [⟨(some 55), none, .mv (.t 11)⟩, ⟨(some 56), none, .bin .add (.t 55) (.c (.int .i64 1))⟩, ⟨(some 11), none, .mv (.t 56)⟩])))
def b_gatepostref12_Unchanged_0 (L : FuncId → List V → V → Prop) (K : V → Heap → Prop) (N0 : Env → Heap → Prop) (e : Env) (h : Heap) : Prop :=
    (wi F L (.len 1 (.c (e 9))) E0 h fun v47 h =>
    (wi F L (.bin .lss (.c (e 11)) (.c v47)) E0 h fun v48 h =>
    (wg v48 true (wi F L (.mv (.c (e 8))) E0 h) h fun v50 h =>
    (wi F L (.pick (.c v48) (.c v50) (.c (.bool false))) E0 h fun v51 h =>
    (wg v51 true (wi F L (.mv (.c (e 10))) E0 h) h fun v53 h =>
    (wi F L (.pick (.c v51) (.c v53) (.c (.bool false))) E0 h fun v54 h =>
    (wb v54
    (k_gatepostref12_Unchanged_4 L K N0 (upd (upd (upd (upd (upd (upd (upd (upd (upd (upd e 45 (e 11)) 46 (e 9)) 47 v47) 48 v48) 49 v48) 50 v50) 51 v51) 52 v51) 53 v53) 54 v54) (e 7) (e 9) (e 11) h)
    (k_gatepostref12_Unchanged_3 L K  h))))))))
theorem l_gatepostref12_Unchanged_0 {L : FuncId → List V → V → Prop} {K : V → Heap → Prop} (I : Nat → Env → Heap → Prop) (hr : ∀ n e h, I n e h → b_gatepostref12_Unchanged_0 L K (fun e' h' => ∃ m, m < n ∧ I m e' h') e h) {n : Nat} {e : Env} {h : Heap} (hi : I n e h) : Wl F L lc_gatepostref12_Unchanged_0 (q_gatepostref12_Unchanged_0 L K) e h :=
  wloopp (b := b_gatepostref12_Unchanged_0 L K) I (fun _ _ _ => by kernel_rfl) hr hi
def k_gatepostref12_Unchanged_2 (L : FuncId → List V → V → Prop) (K : V → Heap → Prop) (e : Env) (v3 v5 : V) (h : Heap) : Prop :=
    (wi F L (.faddr 20 (.c v3)) E0 h fun v35 h =>
    (wi F L (.load false 1 (.c v35)) E0 h fun v36 h =>
    (wi F L (.call i_gatepostref12_Parse [(.c v36)]) E0 h fun v37 h =>
    (wi F L (.ext 0 (.c v37)) E0 h fun v38 h =>
    (wi F L (.ext 1 (.c v37)) E0 h fun v39 h =>
    (wi F L (.boxz [(.bool false), (.str [])]) E0 h fun v7 h =>
    (wi F L (.store 2 (.c v7) (.c v38)) E0 h fun _ h =>
    (wi F L (.call i_gatepostref01_Split [(.c v5)]) E0 h fun v42 h =>
    (wi F L (.ext 0 (.c v42)) E0 h fun v43 h =>
    (wi F L (.ext 1 (.c v42)) E0 h fun v44 h =>
    (Wl F L lc_gatepostref12_Unchanged_0 (q_gatepostref12_Unchanged_0 L K) (upd (upd (upd (upd (upd (upd (upd (upd (upd (upd (upd (upd (upd (upd (upd (upd e 35 v35) 36 v36) 37 v37) 34 v37) 38 v38) 39 v39) 7 v7) 8 v39) 41 v5) 42 v42) 40 v42) 43 v43) 44 v44) 9 v43) 10 v44) 11 (.int .i64 0)) h)))))))))))
def k_gatepostref12_Unchanged_0 (L : FuncId → List V → V → Prop) (K : V → Heap → Prop) (e : Env) (v2 v3 : V) (h : Heap) : Prop :=
    (wi F L (.faddr 3 (.c v2)) E0 h fun v25 h =>
    (wi F L (.load false 1 (.c v25)) E0 h fun v26 h =>
    (wi F L (.call i_gatepostref04_Get [(.c v26), (.c (.str [105, 102, 45, 110, 111, 110, 101, 45, 109, 97, 116, 99, 104]))]) E0 h fun v27 h =>
    (wi F L (.ext 0 (.c v27)) E0 h fun v28 h =>
    (wi F L (.ext 1 (.c v27)) E0 h fun v29 h =>
    (wi F L (.bin .gtr (.c v29) (.c (.int .i64 0))) E0 h fun v31 h =>
    (wb v31
    (wi F L (.bin .eql (.c v28) (.c (.str [42]))) E0 h fun v33 h =>
    (wb v33
    (∃ v, some (.bool true) = some v ∧ K v h)
    (k_gatepostref12_Unchanged_2 L K (upd (upd (upd (upd (upd (upd (upd (upd (upd (upd (upd (upd e 25 v25) 26 v26) 27 v27) 24 v27) 28 v28) 29 v29) 5 v28) 6 v29) 30 v29) 31 v31) 32 v28) 33 v33) v3 v28 h)))
    (k_gatepostref12_Unchanged_1 L K v2 v3 h))))))))
def p_gatepostref12_Unchanged (L : FuncId → List V → V → Prop) (K : V → Heap → Prop) (a0 a1 : V) (h : Heap) : Prop :=
    (wi F L (.box (.c a0)) E0 h fun v2 h =>
    (wi F L (.box (.c a1)) E0 h fun v3 h =>
    (wi F L (.faddr 0 (.c v2)) E0 h fun v16 h =>
    (wi F L (.load false 1 (.c v16)) E0 h fun v17 h =>
    (wi F L (.bin .neq (.c v17) (.c (.str [71, 69, 84]))) E0 h fun v18 h =>
    (wg v18 true (wi F L (.faddr 0 (.c v2)) E0 h) h fun v20 h =>
    (wg v18 true (wi F L (.load false 1 (.c v20)) E0 h) h fun v21 h =>
    (wg v18 true (wi F L (.bin .neq (.c v21) (.c (.str [72, 69, 65, 68]))) E0 h) h fun v22 h =>
    (wi F L (.pick (.c v18) (.c v22) (.c (.bool false))) E0 h fun v23 h =>
    (wb v23
    (∃ v, some (.bool false) = some v ∧ K v h)
    (k_gatepostref12_Unchanged_0 L K (upd (upd (upd (upd (upd (upd (upd (upd (upd (upd (upd (enterE [a0, a1]) 2 v2) 3 v3) 4 (.bool false)) 16 v16) 17 v17) 18 v18) 19 v18) 20 v20) 21 v21) 22 v22) 23 v23) v2 v3 h)))))))))))
theorem run_gatepostref12_Unchanged {L : FuncId → List V → V → Prop} {K : V → Heap → Prop} {a0 a1 : V} {h : Heap} (hp : p_gatepostref12_Unchanged L K a0 a1 h) : Cf F L i_gatepostref12_Unchanged [a0, a1] h K :=
  wcallp F_gatepostref12_Unchanged (show 2 ≤ 100 by decide) (p := p_gatepostref12_Unchanged L K a0 a1 h) (by kernel_rfl) hp
def k_validator_Applies_2 (L : FuncId → List V → V → Prop) (K : V → Heap → Prop) (v3 v7 : V) (h : Heap) : Prop :=
    (wi F L (.call i_date_Parse [(.c v7)]) E0 h fun v58 h =>
    (wi F L (.ext 0 (.c v58)) E0 h fun v59 h =>
    (wi F L (.ext 1 (.c v58)) E0 h fun v60 h =>
    (wg v60 true (wi F L (.mv (.c v59)) E0 h) h fun v63 h =>
    (wg v60 true (wi F L (.faddr 16 (.c v3)) E0 h) h fun v64 h =>
    (wg v60 true (wi F L (.load false 1 (.c v64)) E0 h) h fun v65 h =>
    (wg v60 true (wi F L (.bin .eql (.c v63) (.c v65)) E0 h) h fun v66 h =>
    (wi F L (.pick (.c v60) (.c v66) (.c (.bool false))) E0 h fun v67 h =>
    (∃ v, some v67 = some v ∧ K v h)))))))))
def k_validator_Applies_1 (L : FuncId → List V → V → Prop) (K : V → Heap → Prop) (v3 v7 : V) (h : Heap) : Prop :=
    (wi F L (.faddr 20 (.c v3)) E0 h fun v39 h =>
    (wi F L (.load false 1 (.c v39)) E0 h fun v40 h =>
    (wi F L (.call i_validator_Parse [(.c v40)]) E0 h fun v41 h =>
    (wi F L (.ext 0 (.c v41)) E0 h fun v42 h =>
    (wi F L (.ext 1 (.c v41)) E0 h fun v43 h =>
    (wi F L (.boxz [(.bool false), (.str [])]) E0 h fun v9 h =>
    (wi F L (.store 2 (.c v9) (.c v42)) E0 h fun _ h =>
    (wi F L (.call i_validator_Parse [(.c v7)]) E0 h fun v46 h =>
    (wi F L (.ext 0 (.c v46)) E0 h fun v47 h =>
    (wi F L (.ext 1 (.c v46)) E0 h fun v48 h =>
    (wi F L (.boxz [(.bool false), (.str [])]) E0 h fun v11 h =>
    (wi F L (.store 2 (.c v11) (.c v47)) E0 h fun _ h =>
    (wb v48
    (wg v43 true (wi F L (.load true 2 (.c v11)) E0 h) h fun v52 h =>
    (wg v43 true (wi F L (.load true 2 (.c v9)) E0 h) h fun v53 h =>
    (wg v43 true (wi F L (.call i_validator_Strong [(.c v52), (.c v53)]) E0 h) h fun v54 h =>
    (wi F L (.pick (.c v43) (.c v54) (.c (.bool false))) E0 h fun v55 h =>
    (∃ v, some v55 = some v ∧ K v h)))))
    (k_validator_Applies_2 L K v3 v7 h))))))))))))))
def k_validator_Applies_0 (L : FuncId → List V → V → Prop) (K : V → Heap → Prop) (v2 v3 : V) (h : Heap) : Prop :=
    (wi F L (.faddr 3 (.c v2)) E0 h fun v29 h =>
    (wi F L (.load false 1 (.c v29)) E0 h fun v30 h =>
    (wi F L (.call i_field_Get [(.c v30), (.c (.str [73, 102, 45, 82, 97, 110, 103, 101]))]) E0 h fun v31 h =>
    (wi F L (.ext 0 (.c v31)) E0 h fun v32 h =>
    (wi F L (.ext 1 (.c v31)) E0 h fun v33 h =>
    (wi F L (.bin .neq (.c v33) (.c (.int .i64 1))) E0 h fun v35 h =>
    (wb v35
    (wi F L (.bin .eql (.c v33) (.c (.int .i64 0))) E0 h fun v37 h =>
    (∃ v, some v37 = some v ∧ K v h))
    (k_validator_Applies_1 L K v3 v32 h))))))))
def p_validator_Applies (L : FuncId → List V → V → Prop) (K : V → Heap → Prop) (a0 a1 : V) (h : Heap) : Prop :=
    (wi F L (.box (.c a0)) E0 h fun v2 h =>
    (wi F L (.box (.c a1)) E0 h fun v3 h =>
    (wi F L (.faddr 3 (.c v2)) E0 h fun v16 h =>
    (wi F L (.load false 1 (.c v16)) E0 h fun v17 h =>
    (wi F L (.call i_validator_one [(.c v17), (.c (.str [82, 97, 110, 103, 101]))]) E0 h fun v18 h =>
    (wi F L (.ext 0 (.c v18)) E0 h fun v19 h =>
    (wi F L (.ext 1 (.c v18)) E0 h fun v20 h =>
    (wi F L (.un .not (.c v20)) E0 h fun v22 h =>
    (wg v22 false (wi F L (.faddr 0 (.c v2)) E0 h) h fun v24 h =>
    (wg v22 false (wi F L (.load false 1 (.c v24)) E0 h) h fun v25 h =>
    (wg v22 false (wi F L (.bin .neq (.c v25) (.c (.str [71, 69, 84]))) E0 h) h fun v26 h =>
    (wi F L (.pick (.c v22) (.c (.bool true)) (.c v26)) E0 h fun v27 h =>
    (wb v27
    (∃ v, some (.bool false) = some v ∧ K v h)
    (k_validator_Applies_0 L K v2 v3 h))))))))))))))
theorem run_validator_Applies {L : FuncId → List V → V → Prop} {K : V → Heap → Prop} {a0 a1 : V} {h : Heap} (hp : p_validator_Applies L K a0 a1 h) : Cf F L i_validator_Applies [a0, a1] h K :=
  wcallp F_validator_Applies (show 2 ≤ 68 by decide) (p := p_validator_Applies L K a0 a1 h) (by kernel_rfl) hp
def k_gatepostref12_Applies_2 (L : FuncId → List V → V → Prop) (K : V → Heap → Prop) (v3 v7 : V) (h : Heap) : Prop :=
    (wi F L (.call i_gatepostref02_Parse [(.c v7)]) E0 h fun v69 h =>
    (wi F L (.ext 0 (.c v69)) E0 h fun v70 h =>
    (wi F L (.ext 1 (.c v69)) E0 h fun v71 h =>
    (wg v71 true (wi F L (.faddr 16 (.c v3)) E0 h) h fun v74 h =>
    (wg v71 true (wi F L (.load false 1 (.c v74)) E0 h) h fun v75 h =>
    (wg v71 true (wi F L (.mv (.c v70)) E0 h) h fun v76 h =>
    (wg v71 true (wi F L (.bin .eql (.c v75) (.c v76)) E0 h) h fun v77 h =>
    (wi F L (.pick (.c v71) (.c v77) (.c (.bool false))) E0 h fun v78 h =>
    (∃ v, some v78 = some v ∧ K v h)))))))))
def k_gatepostref12_Applies_1 (L : FuncId → List V → V → Prop) (K : V → Heap → Prop) (v3 v7 : V) (h : Heap) : Prop :=
    (wi F L (.call i_gatepostref12_Parse [(.c v7)]) E0 h fun v39 h =>
    (wi F L (.ext 0 (.c v39)) E0 h fun v40 h =>
    (wi F L (.ext 1 (.c v39)) E0 h fun v41 h =>
    (wi F L (.boxz [(.bool false), (.str [])]) E0 h fun v9 h =>
    (wi F L (.store 2 (.c v9) (.c v40)) E0 h fun _ h =>
    (wi F L (.faddr 20 (.c v3)) E0 h fun v43 h =>
    (wi F L (.load false 1 (.c v43)) E0 h fun v44 h =>
    (wi F L (.call i_gatepostref12_Parse [(.c v44)]) E0 h fun v45 h =>
    (wi F L (.ext 0 (.c v45)) E0 h fun v46 h =>
    (wi F L (.ext 1 (.c v45)) E0 h fun v47 h =>
    (wi F L (.boxz [(.bool false), (.str [])]) E0 h fun v11 h =>
    (wi F L (.store 2 (.c v11) (.c v46)) E0 h fun _ h =>
    (wb v41
    (wg v47 true (wi F L (.faddr 0 (.c v9)) E0 h) h fun v51 h =>
    (wg v47 true (wi F L (.load false 1 (.c v51)) E0 h) h fun v52 h =>
    (wg v47 true (wi F L (.un .not (.c v52)) E0 h) h fun v53 h =>
    (wi F L (.pick (.c v47) (.c v53) (.c (.bool false))) E0 h fun v54 h =>
    (wg v54 true (wi F L (.faddr 0 (.c v11)) E0 h) h fun v56 h =>
    (wg v54 true (wi F L (.load false 1 (.c v56)) E0 h) h fun v57 h =>
    (wg v54 true (wi F L (.un .not (.c v57)) E0 h) h fun v58 h =>
    (wi F L (.pick (.c v54) (.c v58) (.c (.bool false))) E0 h fun v59 h =>
    (wg v59 true (wi F L (.faddr 1 (.c v9)) E0 h) h fun v61 h =>
    (wg v59 true (wi F L (.load false 1 (.c v61)) E0 h) h fun v62 h =>
    (wg v59 true (wi F L (.faddr 1 (.c v11)) E0 h) h fun v63 h =>
    (wg v59 true (wi F L (.load false 1 (.c v63)) E0 h) h fun v64 h =>
    (wg v59 true (wi F L (.bin .eql (.c v62) (.c v64)) E0 h) h fun v65 h =>
    (wi F L (.pick (.c v59) (.c v65) (.c (.bool false))) E0 h fun v66 h =>
    (∃ v, some v66 = some v ∧ K v h)))))))))))))))
    (k_gatepostref12_Applies_2 L K v3 v7 h))))))))))))))
def k_gatepostref12_Applies_0 (L : FuncId → List V → V → Prop) (K : V → Heap → Prop) (v2 v3 : V) (h : Heap) : Prop :=
    (wi F L (.faddr 3 (.c v2)) E0 h fun v28 h =>
    (wi F L (.load false 1 (.c v28)) E0 h fun v29 h =>
    (wi F L (.call i_gatepostref04_Get [(.c v29), (.c (.str [105, 102, 45, 114, 97, 110, 103, 101]))]) E0 h fun v30 h =>
    (wi F L (.ext 0 (.c v30)) E0 h fun v31 h =>
    (wi F L (.ext 1 (.c v30)) E0 h fun v32 h =>
    (wi F L (.bin .neq (.c v32) (.c (.int .i64 1))) E0 h fun v34 h =>
    (wb v34
    (wi F L (.bin .eql (.c v32) (.c (.int .i64 0))) E0 h fun v36 h =>
    (∃ v, some v36 = some v ∧ K v h))
    (k_gatepostref12_Applies_1 L K v3 v31 h))))))))
def p_gatepostref12_Applies (L : FuncId → List V → V → Prop) (K : V → Heap → Prop) (a0 a1 : V) (h : Heap) : Prop :=
    (wi F L (.box (.c a0)) E0 h fun v2 h =>
    (wi F L (.box (.c a1)) E0 h fun v3 h =>
    (wi F L (.faddr 3 (.c v2)) E0 h fun v15 h =>
    (wi F L (.load false 1 (.c v15)) E0 h fun v16 h =>
    (wi F L (.call i_gatepostref04_Get [(.c v16), (.c (.str [114, 97, 110, 103, 101]))]) E0 h fun v17 h =>
    (wi F L (.ext 0 (.c v17)) E0 h fun v18 h =>
    (wi F L (.ext 1 (.c v17)) E0 h fun v19 h =>
    (wi F L (.faddr 0 (.c v2)) E0 h fun v20 h =>
    (wi F L (.load false 1 (.c v20)) E0 h fun v21 h =>
    (wi F L (.bin .neq (.c v21) (.c (.str [71, 69, 84]))) E0 h fun v22 h =>
    (wg v22 false (wi F L (.mv (.c v19)) E0 h) h fun v24 h =>
    (wg v22 false (wi F L (.bin .neq (.c v24) (.c (.int .i64 1))) E0 h) h fun v25 h =>
    (wi F L (.pick (.c v22) (.c (.bool true)) (.c v25)) E0 h fun v26 h =>
    (wb v26
    (∃ v, some (.bool false) = some v ∧ K v h)
    (k_gatepostref12_Applies_0 L K v2 v3 h)))))))))))))))
theorem run_gatepostref12_Applies {L : FuncId → List V → V → Prop} {K : V → Heap → Prop} {a0 a1 : V} {h : Heap} (hp : p_gatepostref12_Applies L K a0 a1 h) : Cf F L i_gatepostref12_Applies [a0, a1] h K :=
  wcallp F_gatepostref12_Applies (show 2 ≤ 79 by decide) (p := p_gatepostref12_Applies L K a0 a1 h) (by kernel_rfl) hp
def k_gatepostref04_Same_1 (L : FuncId → List V → V → Prop) (K : V → Heap → Prop) (h : Heap) : Prop :=
    (∃ v, some (.bool true) = some v ∧ K v h)
def k_gatepostref04_Same_3 (L : FuncId → List V → V → Prop) (K : V → Heap → Prop) (N0 : Env → Heap → Prop) (e : Env) (v5 : V) (h : Heap) : Prop :=
    (wi F L (.bin .add (.c v5) (.c (.int .i64 1))) E0 h fun v16 h =>
    (N0 (upd (upd (upd e 15 v5) 16 v16) 5 v16) h))
def k_gatepostref04_Same_2 (L : FuncId → List V → V → Prop) (K : V → Heap → Prop) (N0 : Env → Heap → Prop) (e : Env) (v0 v1 v5 : V) (h : Heap) : Prop :=
    (wi F L (.ixaSl 2 (.c v0) (.c v5)) E0 h fun v19 h' => Ext h h' ∧
    (wi F L (.faddr 0 (.c v19)) E0 h' fun v20 h => Ext h' h ∧
    (wi F L (.load false 1 (.c v20)) E0 h fun v21 h' => Ext h h' ∧
    (wi F L (.ixaSl 2 (.c v1) (.c v5)) E0 h' fun v24 h => Ext h' h ∧
    (wi F L (.faddr 0 (.c v24)) E0 h fun v25 h' => Ext h h' ∧
    (wi F L (.load false 1 (.c v25)) E0 h' fun v26 h => Ext h' h ∧
    (wi F L (.bin .neq (.c v21) (.c v26)) E0 h fun v27 h' => Ext h h' ∧
    (wgd v27 false (wi F L (.mv (.c v0)) E0 h') h' fun v29 h =>
    (wgd v27 false (wi F L (.mv (.c v5)) E0 h) h fun v30 h' =>
    (wgd v27 false (wi F L (.ixaSl 2 (.c v29) (.c v30)) E0 h') h' fun v31 h =>
    (wgd v27 false (wi F L (.faddr 1 (.c v31)) E0 h) h fun v32 h' =>
    (wgd v27 false (wi F L (.load false 1 (.c v32)) E0 h') h' fun v33 h =>
    (wgd v27 false (wi F L (.mv (.c v1)) E0 h) h fun v34 h' =>
    (wgd v27 false (wi F L (.mv (.c v5)) E0 h') h' fun v35 h =>
    (wgd v27 false (wi F L (.ixaSl 2 (.c v34) (.c v35)) E0 h) h fun v36 h' =>
    (wgd v27 false (wi F L (.faddr 1 (.c v36)) E0 h') h' fun v37 h =>
    (wgd v27 false (wi F L (.load false 1 (.c v37)) E0 h) h fun v38 h' =>
    (wg v27 false (wi F L (.bin .neq (.c v33) (.c v38)) E0 h') h' fun v39 h =>
    (wi F L (.pick (.c v27) (.c (.bool true)) (.c v39)) E0 h fun v40 h =>
    (wb v40
    (∃ v, some (.bool false) = some v ∧ K v h)
    (k_gatepostref04_Same_3 L K N0 (upd (upd (upd (upd (upd (upd (upd (upd (upd (upd (upd (upd (upd (upd (upd (upd (upd (upd (upd (upd (upd (upd (upd (upd e 17 v0) 18 v5) 19 v19) 20 v20) 21 v21) 22 v1) 23 v5) 24 v24) 25 v25) 26 v26) 27 v27) 28 v27) 29 v29) 30 v30) 31 v31) 32 v32) 33 v33) 34 v34) 35 v35) 36 v36) 37 v37) 38 v38) 39 v39) 40 v40) v5 h)))))))))))))))))))))
def q_gatepostref04_Same_0 (L : FuncId → List V → V → Prop) (K : V → Heap → Prop) : X → Env → Heap → Prop := (fun x => (seqX (fun e h => k_gatepostref04_Same_1 L K  h) (retX c_gatepostref04_Same.results K)) (X.out 0 x))
def lc_gatepostref04_Same_0 : C :=
  (.seq (.seq (.region [⟨(some 11), none, .mv (.t 5)⟩, ⟨(some 12), none, .mv (.t 0)⟩, ⟨(some 13), none, .len 1 (.t 12)⟩, ⟨(some 14), none, .bin .lss (.t 11) (.t 13)⟩])
  (.cond (.t 14)
    .skip
    (.exit 0)))
  (.seq (.block 1 (.seq (.dregion [⟨(some 17), none, .mv (.t 0)⟩, ⟨(some 18), none, .mv (.t 5)⟩, ⟨(some 19), none, .ixaSl 2 (.t 17) (.t 18)⟩, ⟨(some 20), none, .faddr 0 (.t 19)⟩, ⟨(some 21), none, .load false 1 (.t 20)⟩, ⟨(some 22), none, .mv (.t 1)⟩, ⟨(some 23), none, .mv (.t 5)⟩, ⟨(some 24), none, .ixaSl 2 (.t 22) (.t 23)⟩, ⟨(some 25), none, .faddr 0 (.t 24)⟩, ⟨(some 26), none, .load false 1 (.t 25)⟩, ⟨(some 27), none, .bin .neq (.t 21) (.t 26)⟩, ⟨(some 28), none, .mv (.t 27)⟩, ⟨(some 29), (some (28, false)), .mv (.t 0)⟩, ⟨(some 30), (some (28, false)), .mv (.t 5)⟩, ⟨(some 31), (some (28, false)), .ixaSl 2 (.t 29) (.t 30)⟩, ⟨(some 32), (some (28, false)), .faddr 1 (.t 31)⟩, ⟨(some 33), (some (28, false)), .load false 1 (.t 32)⟩, ⟨(some 34), (some (28, false)), .mv (.t 1)⟩, ⟨(some 35), (some (28, false)), .mv (.t 5)⟩, ⟨(some 36), (some (28, false)), .ixaSl 2 (.t 34) (.t 35)⟩, ⟨(some 37), (some (28, false)), .faddr 1 (.t 36)⟩, ⟨(some 38), (some (28, false)), .load false 1 (.t 37)⟩] [⟨(some 39), (some (28, false)), .bin .neq (.t 33) (.t 38)⟩, ⟨(some 40), none, .pick (.t 28) (.c (.bool true)) (.t 39)⟩])
  (.cond (.t 40)
    (.seq (.region [⟨(some 4), none, .mv (.c (.bool false))⟩])
    .ret)
    .skip)))
  (.region [⟨(some 15), none, .mv (.t 5)⟩, ⟨(some 16), none, .bin .add (.t 15) (.c (.int .i64 1))⟩, ⟨(some 5), none, .mv (.t 16)⟩])))
def b_gatepostref04_Same_0 (L : FuncId → List V → V → Prop) (K : V → Heap → Prop) (N0 : Env → Heap → Prop) (e : Env) (h : Heap) : Prop :=
    (wi F L (.len 1 (.c (e 0))) E0 h fun v13 h =>
    (wi F L (.bin .lss (.c (e 5)) (.c v13)) E0 h fun v14 h =>
    (wb v14
    (k_gatepostref04_Same_2 L K N0 (upd (upd (upd (upd e 11 (e 5)) 12 (e 0)) 13 v13) 14 v14) (e 0) (e 1) (e 5) h)
    (k_gatepostref04_Same_1 L K  h))))
theorem l_gatepostref04_Same_0 {L : FuncId → List V → V → Prop} {K : V → Heap → Prop} (I : Nat → Env → Heap → Prop) (hr : ∀ n e h, I n e h → b_gatepostref04_Same_0 L K (fun e' h' => ∃ m, m < n ∧ I m e' h') e h) {n : Nat} {e : Env} {h : Heap} (hi : I n e h) : Wl F L lc_gatepostref04_Same_0 (q_gatepostref04_Same_0 L K) e h :=
  wloopp (b := b_gatepostref04_Same_0 L K) I (fun _ _ _ => by kernel_rfl) hr hi
def k_gatepostref04_Same_0 (L : FuncId → List V → V → Prop) (K : V → Heap → Prop) (e : Env) (h : Heap) : Prop :=
    (Wl F L lc_gatepostref04_Same_0 (q_gatepostref04_Same_0 L K) (upd e 5 (.int .i64 0)) h)
def p_gatepostref04_Same (L : FuncId → List V → V → Prop) (K : V → Heap → Prop) (a0 a1 : V) (h : Heap) : Prop :=
    (wi F L (.len 1 (.c a0)) E0 h fun v7 h =>
    (wi F L (.len 1 (.c a1)) E0 h fun v9 h =>
    (wi F L (.bin .neq (.c v7) (.c v9)) E0 h fun v10 h =>
    (wb v10
    (∃ v, some (.bool false) = some v ∧ K v h)
    (k_gatepostref04_Same_0 L K (upd (upd (upd (upd (upd (upd (enterE [a0, a1]) 4 (.bool false)) 6 a0) 7 v7) 8 a1) 9 v9) 10 v10)  h)))))
theorem run_gatepostref04_Same {L : FuncId → List V → V → Prop} {K : V → Heap → Prop} {a0 a1 : V} {h : Heap} (hp : p_gatepostref04_Same L K a0 a1 h) : Cf F L i_gatepostref04_Same [a0, a1] h K :=
  wcallp F_gatepostref04_Same (show 2 ≤ 41 by decide) (p := p_gatepostref04_Same L K a0 a1 h) (by kernel_rfl) hp
def k_validator_Asks_1 (L : FuncId → List V → V → Prop) (K : V → Heap → Prop) (v3 : V) (h : Heap) : Prop :=
    (∃ v, some v3 = some v ∧ K v h)
def k_validator_Asks_0 (L : FuncId → List V → V → Prop) (K : V → Heap → Prop) (v1 v3 : V) (h : Heap) : Prop :=
    (wi F L (.faddr 16 (.c v1)) E0 h fun v19 h =>
    (wi F L (.load false 1 (.c v19)) E0 h fun v20 h =>
    (wi F L (.bin .geq (.c v20) (.c (.int .i64 0))) E0 h fun v21 h =>
    (wg v21 true (wi F L (.faddr 16 (.c v1)) E0 h) h fun v23 h =>
    (wg v21 true (wi F L (.load false 1 (.c v23)) E0 h) h fun v24 h =>
    (wg v21 true (wi F L (.bin .lss (.c v24) (.c (.int .i64 253402300800))) E0 h) h fun v25 h =>
    (wi F L (.pick (.c v21) (.c v25) (.c (.bool false))) E0 h fun v26 h =>
    (wb v26
    (wi F L (.faddr 16 (.c v1)) E0 h fun v28 h =>
    (wi F L (.load false 1 (.c v28)) E0 h fun v29 h =>
    (wi F L (.call i_date_Format [(.c v29)]) E0 h fun v30 h =>
    (wi F L (.build [(.str []), (.str [])] [(0, 1, (.c (.str [73, 102, 45, 77, 111, 100, 105, 102, 105, 101, 100, 45, 83, 105, 110, 99, 101]))), (1, 1, (.c v30))]) E0 h fun v31 h =>
    (wi F L (.bsl 2 [(.c v31)]) E0 h fun v32 h =>
    (wi F L (.app 2 32 false (.c v3) (.c v32)) E0 h fun v33 h =>
    (k_validator_Asks_1 L K v33 h)))))))
    (k_validator_Asks_1 L K v3 h)))))))))
def p_validator_Asks (L : FuncId → List V → V → Prop) (K : V → Heap → Prop) (a0 : V) (h : Heap) : Prop :=
    (wi F L (.box (.c a0)) E0 h fun v1 h =>
    (wi F L (.faddr 20 (.c v1)) E0 h fun v7 h =>
    (wi F L (.load false 1 (.c v7)) E0 h fun v8 h =>
    (wi F L (.call i_validator_Parse [(.c v8)]) E0 h fun v9 h =>
    (wi F L (.ext 0 (.c v9)) E0 h fun v10 h =>
    (wi F L (.ext 1 (.c v9)) E0 h fun v11 h =>
    (wi F L (.boxz [(.bool false), (.str [])]) E0 h fun v4 h =>
    (wi F L (.store 2 (.c v4) (.c v10)) E0 h fun _ h =>
    (wb v11
    (wi F L (.faddr 20 (.c v1)) E0 h fun v14 h =>
    (wi F L (.load false 1 (.c v14)) E0 h fun v15 h =>
    (wi F L (.build [(.str []), (.str [])] [(0, 1, (.c (.str [73, 102, 45, 78, 111, 110, 101, 45, 77, 97, 116, 99, 104]))), (1, 1, (.c v15))]) E0 h fun v16 h =>
    (wi F L (.bsl 2 [(.c v16)]) E0 h fun v17 h =>
    (wi F L (.app 2 32 false (.c .nsl) (.c v17)) E0 h fun v18 h =>
    (k_validator_Asks_0 L K v1 v18 h))))))
    (k_validator_Asks_0 L K v1 .nsl h))))))))))
theorem run_validator_Asks {L : FuncId → List V → V → Prop} {K : V → Heap → Prop} {a0 : V} {h : Heap} (hp : p_validator_Asks L K a0 h) : Cf F L i_validator_Asks [a0] h K :=
  wcallp F_validator_Asks (show 1 ≤ 35 by decide) (p := p_validator_Asks L K a0 h) (by kernel_rfl) hp
def k_gatepostref12_Asks_1 (L : FuncId → List V → V → Prop) (K : V → Heap → Prop) (v3 : V) (h : Heap) : Prop :=
    (∃ v, some v3 = some v ∧ K v h)
def k_gatepostref12_Asks_0 (L : FuncId → List V → V → Prop) (K : V → Heap → Prop) (v1 v3 : V) (h : Heap) : Prop :=
    (wi F L (.faddr 16 (.c v1)) E0 h fun v19 h =>
    (wi F L (.load false 1 (.c v19)) E0 h fun v20 h =>
    (wi F L (.bin .geq (.c v20) (.c (.int .i64 0))) E0 h fun v21 h =>
    (wg v21 true (wi F L (.faddr 16 (.c v1)) E0 h) h fun v23 h =>
    (wg v21 true (wi F L (.load false 1 (.c v23)) E0 h) h fun v24 h =>
    (wg v21 true (wi F L (.bin .lss (.c v24) (.c (.int .i64 253402300800))) E0 h) h fun v25 h =>
    (wi F L (.pick (.c v21) (.c v25) (.c (.bool false))) E0 h fun v26 h =>
    (wb v26
    (wi F L (.faddr 16 (.c v1)) E0 h fun v28 h =>
    (wi F L (.load false 1 (.c v28)) E0 h fun v29 h =>
    (wi F L (.call i_gatepostref02_Format [(.c v29)]) E0 h fun v30 h =>
    (wi F L (.build [(.str []), (.str [])] [(0, 1, (.c (.str [73, 102, 45, 77, 111, 100, 105, 102, 105, 101, 100, 45, 83, 105, 110, 99, 101]))), (1, 1, (.c v30))]) E0 h fun v31 h =>
    (wi F L (.bsl 2 [(.c v31)]) E0 h fun v32 h =>
    (wi F L (.app 2 32 false (.c v3) (.c v32)) E0 h fun v33 h =>
    (k_gatepostref12_Asks_1 L K v33 h)))))))
    (k_gatepostref12_Asks_1 L K v3 h)))))))))
def p_gatepostref12_Asks (L : FuncId → List V → V → Prop) (K : V → Heap → Prop) (a0 : V) (h : Heap) : Prop :=
    (wi F L (.box (.c a0)) E0 h fun v1 h =>
    (wi F L (.faddr 20 (.c v1)) E0 h fun v7 h =>
    (wi F L (.load false 1 (.c v7)) E0 h fun v8 h =>
    (wi F L (.call i_gatepostref12_Parse [(.c v8)]) E0 h fun v9 h =>
    (wi F L (.ext 0 (.c v9)) E0 h fun v10 h =>
    (wi F L (.ext 1 (.c v9)) E0 h fun v11 h =>
    (wi F L (.boxz [(.bool false), (.str [])]) E0 h fun v4 h =>
    (wi F L (.store 2 (.c v4) (.c v10)) E0 h fun _ h =>
    (wb v11
    (wi F L (.faddr 20 (.c v1)) E0 h fun v14 h =>
    (wi F L (.load false 1 (.c v14)) E0 h fun v15 h =>
    (wi F L (.build [(.str []), (.str [])] [(0, 1, (.c (.str [73, 102, 45, 78, 111, 110, 101, 45, 77, 97, 116, 99, 104]))), (1, 1, (.c v15))]) E0 h fun v16 h =>
    (wi F L (.bsl 2 [(.c v16)]) E0 h fun v17 h =>
    (wi F L (.app 2 32 false (.c .nsl) (.c v17)) E0 h fun v18 h =>
    (k_gatepostref12_Asks_0 L K v1 v18 h))))))
    (k_gatepostref12_Asks_0 L K v1 .nsl h))))))))))
theorem run_gatepostref12_Asks {L : FuncId → List V → V → Prop} {K : V → Heap → Prop} {a0 : V} {h : Heap} (hp : p_gatepostref12_Asks L K a0 h) : Cf F L i_gatepostref12_Asks [a0] h K :=
  wcallp F_gatepostref12_Asks (show 1 ≤ 35 by decide) (p := p_gatepostref12_Asks L K a0 h) (by kernel_rfl) hp
def k_field_Get_0 (L : FuncId → List V → V → Prop) (K : V → Heap → Prop) (v6 : V) (h : Heap) : Prop :=
    (wi F L (.call i_strings_Join [(.c v6), (.c (.str [44, 32]))]) E0 h fun v26 h =>
    (wi F L (.len 1 (.c v6)) E0 h fun v28 h =>
    (∃ v, resultsV h (enterE [v26, v28]) [.tmp 0, .tmp 1] = some v ∧ K v h)))
def k_field_Get_2 (L : FuncId → List V → V → Prop) (K : V → Heap → Prop) (N0 : Env → Heap → Prop) (e : Env) (v11 : V) (h : Heap) : Prop :=
    (wi F L (.bin .add (.c v11) (.c (.int .i64 1))) E0 h fun v24 h =>
    (N0 (upd (upd e 24 v24) 11 v24) h))
def k_field_Get_1 (L : FuncId → List V → V → Prop) (K : V → Heap → Prop) (N0 : Env → Heap → Prop) (e : Env) (v1 v6 v9 v11 : V) (h : Heap) : Prop :=
    (wi F L (.ixaSl 2 (.c v9) (.c v11)) E0 h fun v13 h =>
    (wi F L (.load true 2 (.c v13)) E0 h fun v14 h =>
    (wi F L (.boxz [(.str []), (.str [])]) E0 h fun v8 h =>
    (wi F L (.store 2 (.c v8) (.c v14)) E0 h fun _ h =>
    (wi F L (.faddr 0 (.c v8)) E0 h fun v15 h =>
    (wi F L (.load false 1 (.c v15)) E0 h fun v16 h =>
    (wi F L (.call i_token_Same [(.c v16), (.c v1)]) E0 h fun v18 h =>
    (wb v18
    (wi F L (.faddr 1 (.c v8)) E0 h fun v20 h =>
    (wi F L (.load false 1 (.c v20)) E0 h fun v21 h =>
    (wi F L (.bsl 1 [(.c v21)]) E0 h fun v22 h =>
    (wi F L (.app 1 16 false (.c v6) (.c v22)) E0 h fun v23 h =>
    (k_field_Get_2 L K N0 (upd (upd (upd (upd (upd (upd (upd (upd (upd (upd (upd (upd (upd e 13 v13) 14 v14) 8 v8) 15 v15) 16 v16) 17 v1) 18 v18) 19 v6) 20 v20) 21 v21) 22 v22) 23 v23) 6 v23) v11 h)))))
    (k_field_Get_2 L K N0 (upd (upd (upd (upd (upd (upd (upd e 13 v13) 14 v14) 8 v8) 15 v15) 16 v16) 17 v1) 18 v18) v11 h)))))))))
def q_field_Get_0 (L : FuncId → List V → V → Prop) (K : V → Heap → Prop) : X → Env → Heap → Prop := (fun x => (seqX (fun e h => k_field_Get_0 L K (e 6) h) (retX c_field_Get.results K)) (X.out 0 x))
def lc_field_Get_0 : C :=
  (.seq (.region [⟨(some 12), none, .bin .lss (.t 11) (.t 10)⟩])
  (.seq (.cond (.t 12)
    .skip
    (.exit 0))
  (.seq (.block 1 (.seq (.region [⟨(some 13), none, .ixaSl 2 (.t 9) (.t 11)⟩, ⟨(some 14), none, .load true 2 (.t 13)⟩, ⟨(some 8), none, .boxz [(.str []), (.str [])]⟩, ⟨none, none, .store 2 (.t 8) (.t 14)⟩])
  (.seq (.region [⟨(some 15), none, .faddr 0 (.t 8)⟩, ⟨(some 16), none, .load false 1 (.t 15)⟩, ⟨(some 17), none, .mv (.t 1)⟩, ⟨(some 18), none, .call i_token_Same [(.t 16), (.t 17)]⟩])
  (.cond (.t 18)
    (.region [⟨(some 19), none, .mv (.t 6)⟩, ⟨(some 20), none, .faddr 1 (.t 8)⟩, ⟨(some 21), none, .load false 1 (.t 20)⟩, ⟨(some 22), none, .bsl 1 [(.t 21)]⟩, ⟨(some 23), none, .app 1 16 false (.t 19) (.t 22)⟩, ⟨(some 6), none, .mv (.t 23)⟩])
    .skip))))
  (.region [⟨(some 24), none, .bin .add (.t 11) (.c (.int .i64 1))⟩, ⟨(some 11), none, .mv (.t 24)⟩]))))
def b_field_Get_0 (L : FuncId → List V → V → Prop) (K : V → Heap → Prop) (N0 : Env → Heap → Prop) (e : Env) (h : Heap) : Prop :=
    (wi F L (.bin .lss (.c (e 11)) (.c (e 10))) E0 h fun v12 h =>
    (wb v12
    (k_field_Get_1 L K N0 (upd e 12 v12) (e 1) (e 6) (e 9) (e 11) h)
    (k_field_Get_0 L K (e 6) h)))
theorem l_field_Get_0 {L : FuncId → List V → V → Prop} {K : V → Heap → Prop} (I : Nat → Env → Heap → Prop) (hr : ∀ n e h, I n e h → b_field_Get_0 L K (fun e' h' => ∃ m, m < n ∧ I m e' h') e h) {n : Nat} {e : Env} {h : Heap} (hi : I n e h) : Wl F L lc_field_Get_0 (q_field_Get_0 L K) e h :=
  wloopp (b := b_field_Get_0 L K) I (fun _ _ _ => by kernel_rfl) hr hi
def p_field_Get (L : FuncId → List V → V → Prop) (K : V → Heap → Prop) (a0 a1 : V) (h : Heap) : Prop :=
    (wi F L (.len 1 (.c a0)) E0 h fun v10 h =>
    (Wl F L lc_field_Get_0 (q_field_Get_0 L K) (upd (upd (upd (upd (upd (upd (enterE [a0, a1]) 4 (.str [])) 5 (.int .i64 0)) 6 .nsl) 9 a0) 10 v10) 11 (.int .i64 0)) h))
theorem run_field_Get {L : FuncId → List V → V → Prop} {K : V → Heap → Prop} {a0 a1 : V} {h : Heap} (hp : p_field_Get L K a0 a1 h) : Cf F L i_field_Get [a0, a1] h K :=
  wcallp F_field_Get (show 2 ≤ 29 by decide) (p := p_field_Get L K a0 a1 h) (by kernel_rfl) hp
def k_validator_matches_0 (L : FuncId → List V → V → Prop) (K : V → Heap → Prop) (v0 v1 : V) (h : Heap) : Prop :=
    (wi F L (.call i_validator_Parse [(.c v1)]) E0 h fun v13 h =>
    (wi F L (.ext 0 (.c v13)) E0 h fun v14 h =>
    (wi F L (.ext 1 (.c v13)) E0 h fun v15 h =>
    (wi F L (.boxz [(.bool false), (.str [])]) E0 h fun v5 h =>
    (wi F L (.store 2 (.c v5) (.c v14)) E0 h fun _ h =>
    (wi F L (.call i_token_Split [(.c v0)]) E0 h fun v18 h =>
    (wi F L (.ext 0 (.c v18)) E0 h fun v19 h =>
    (wi F L (.ext 1 (.c v18)) E0 h fun v20 h =>
    (wg v15 true (wi F L (.mv (.c v20)) E0 h) h fun v23 h =>
    (wi F L (.pick (.c v15) (.c v23) (.c (.bool false))) E0 h fun v24 h =>
    (wg v24 true (wi F L (.mv (.c v19)) E0 h) h fun v26 h =>
    (wg v24 true (wi F L (.mkfn i_validator_matches_1 [(.c v5)]) E0 h) h fun v27 h =>
    (wg v24 true (wi F L (.call i_slices_ContainsFunc___string_string_ [(.c v26), (.c v27)]) E0 h) h fun v28 h =>
    (wi F L (.pick (.c v24) (.c v28) (.c (.bool false))) E0 h fun v29 h =>
    (∃ v, some v29 = some v ∧ K v h)))))))))))))))
def p_validator_matches (L : FuncId → List V → V → Prop) (K : V → Heap → Prop) (a0 a1 : V) (h : Heap) : Prop :=
    (wi F L (.bin .eql (.c a0) (.c (.str [42]))) E0 h fun v10 h =>
    (wb v10
    (∃ v, some (.bool true) = some v ∧ K v h)
    (k_validator_matches_0 L K a0 a1 h)))
theorem run_validator_matches {L : FuncId → List V → V → Prop} {K : V → Heap → Prop} {a0 a1 : V} {h : Heap} (hp : p_validator_matches L K a0 a1 h) : Cf F L i_validator_matches [a0, a1] h K :=
  wcallp F_validator_matches (show 2 ≤ 30 by decide) (p := p_validator_matches L K a0 a1 h) (by kernel_rfl) hp
def p_validator_one (L : FuncId → List V → V → Prop) (K : V → Heap → Prop) (a0 a1 : V) (h : Heap) : Prop :=
    (wi F L (.call i_field_Get [(.c a0), (.c a1)]) E0 h fun v11 h =>
    (wi F L (.ext 0 (.c v11)) E0 h fun v12 h =>
    (wi F L (.ext 1 (.c v11)) E0 h fun v13 h =>
    (wi F L (.bin .eql (.c v13) (.c (.int .i64 1))) E0 h fun v16 h =>
    (∃ v, resultsV h (enterE [v12, v16]) [.tmp 0, .tmp 1] = some v ∧ K v h)))))
theorem run_validator_one {L : FuncId → List V → V → Prop} {K : V → Heap → Prop} {a0 a1 : V} {h : Heap} (hp : p_validator_one L K a0 a1 h) : Cf F L i_validator_one [a0, a1] h K :=
  wcallp F_validator_one (show 2 ≤ 17 by decide) (p := p_validator_one L K a0 a1 h) (by kernel_rfl) hp
def k_date_Parse_0 (L : FuncId → List V → V → Prop) (K : V → Heap → Prop) (h : Heap) : Prop :=
    (∃ v, resultsV h (enterE [(.int .i64 0), (.bool false)]) [.tmp 0, .tmp 1] = some v ∧ K v h)
def k_date_Parse_2 (L : FuncId → List V → V → Prop) (K : V → Heap → Prop) (N0 : Env → Heap → Prop) (e : Env) (v9 : V) (h : Heap) : Prop :=
    (wi F L (.bin .add (.c v9) (.c (.int .i64 1))) E0 h fun v22 h =>
    (N0 (upd (upd e 22 v22) 9 v22) h))
def k_date_Parse_1 (L : FuncId → List V → V → Prop) (K : V → Heap → Prop) (N0 : Env → Heap → Prop) (e : Env) (v0 v8 v9 : V) (h : Heap) : Prop :=
    (wi F L (.ixArr 3 1 false (.c v8) (.c v9)) E0 h fun v11 h =>
    (wi F L (.build [(.str []), (.bool false)] [(0, 1, (.c v0)), (1, 1, (.c (.bool true)))]) E0 h fun v15 h =>
    (wi F L (.box (.c v15)) E0 h fun v16 h =>
    (wi F L (.callv (.c v11) [(.c v16)]) E0 h fun v17 h =>
    (wi F L (.ext 0 (.c v17)) E0 h fun v18 h =>
    (wi F L (.ext 1 (.c v17)) E0 h fun v19 h =>
    (wb v19
    (∃ v, resultsV h (enterE [v18, (.bool true)]) [.tmp 0, .tmp 1] = some v ∧ K v h)
    (k_date_Parse_2 L K N0 (upd (upd (upd (upd (upd (upd (upd (upd (upd (upd (upd (upd (upd e 11 v11) 5 v11) 13 v11) 14 v0) 15 v15) 16 v16) 17 v17) 12 v17) 18 v18) 19 v19) 6 v18) 7 v19) 20 v19) v9 h))))))))
def q_date_Parse_0 (L : FuncId → List V → V → Prop) (K : V → Heap → Prop) : X → Env → Heap → Prop := (fun x => (seqX (fun e h => k_date_Parse_0 L K  h) (retX c_date_Parse.results K)) (X.out 0 x))
def lc_date_Parse_0 : C :=
  (.seq (.region [⟨(some 10), none, .bin .lss (.t 9) (.c (.int .i64 3))⟩])
  (.seq (.cond (.t 10)
    .skip
    (.exit 0))
  (.seq (.block 1 (.seq (.region [⟨(some 11), none, .ixArr 3 1 false (.t 8) (.t 9)⟩, ⟨(some 5), none, .mv (.t 11)⟩])
  (.seq (.region [⟨(some 13), none, .mv (.t 5)⟩, ⟨(some 14), none, .mv (.t 0)⟩, ⟨(some 15), none, .build [(.str []), (.bool false)] [(0, 1, (.t 14)), (1, 1, (.c (.bool true)))]⟩, ⟨(some 16), none, .box (.t 15)⟩, ⟨(some 17), none, .callv (.t 13) [(.t 16)]⟩, ⟨(some 12), none, .mv (.t 17)⟩, ⟨(some 18), none, .ext 0 (.t 12)⟩, ⟨(some 19), none, .ext 1 (.t 12)⟩, ⟨(some 6), none, .mv (.t 18)⟩, ⟨(some 7), none, .mv (.t 19)⟩])
  (.seq (.region [⟨(some 20), none, .mv (.t 7)⟩])
  (.cond (.t 20)
    (.seq (.region [⟨(some 21), none, .mv (.t 6)⟩, ⟨(some 2), none, .mv (.t 21)⟩, ⟨(some 3), none, .mv (.c (.bool true))⟩])
    .ret)
    .skip)))))
  (.region [⟨(some 22), none, .bin .add (.t 9) (.c (.int .i64 1))⟩, ⟨(some 9), none, .mv (.t 22)⟩]))))
def b_date_Parse_0 (L : FuncId → List V → V → Prop) (K : V → Heap → Prop) (N0 : Env → Heap → Prop) (e : Env) (h : Heap) : Prop :=
    (wi F L (.bin .lss (.c (e 9)) (.c (.int .i64 3))) E0 h fun v10 h =>
    (wb v10
    (k_date_Parse_1 L K N0 (upd e 10 v10) (e 0) (e 8) (e 9) h)
    (k_date_Parse_0 L K  h)))
theorem l_date_Parse_0 {L : FuncId → List V → V → Prop} {K : V → Heap → Prop} (I : Nat → Env → Heap → Prop) (hr : ∀ n e h, I n e h → b_date_Parse_0 L K (fun e' h' => ∃ m, m < n ∧ I m e' h') e h) {n : Nat} {e : Env} {h : Heap} (hi : I n e h) : Wl F L lc_date_Parse_0 (q_date_Parse_0 L K) e h :=
  wloopp (b := b_date_Parse_0 L K) I (fun _ _ _ => by kernel_rfl) hr hi
def p_date_Parse (L : FuncId → List V → V → Prop) (K : V → Heap → Prop) (a0 : V) (h : Heap) : Prop :=
    (wi F L (.build [.nfn, .nfn, .nfn] [(0, 1, (.c (.fn i_date_fixed []))), (1, 1, (.c (.fn i_date_old []))), (2, 1, (.c (.fn i_date_plain [])))]) E0 h fun v8 h =>
    (Wl F L lc_date_Parse_0 (q_date_Parse_0 L K) (upd (upd (upd (upd (enterE [a0]) 2 (.int .i64 0)) 3 (.bool false)) 8 v8) 9 (.int .i64 0)) h))
theorem run_date_Parse {L : FuncId → List V → V → Prop} {K : V → Heap → Prop} {a0 : V} {h : Heap} (hp : p_date_Parse L K a0 h) : Cf F L i_date_Parse [a0] h K :=
  wcallp F_date_Parse (show 1 ≤ 23 by decide) (p := p_date_Parse L K a0 h) (by kernel_rfl) hp
def k_gatepostref04_Get_0 (L : FuncId → List V → V → Prop) (K : V → Heap → Prop) (v6 v7 : V) (h : Heap) : Prop :=
    (∃ v, resultsV h (enterE [v6, v7]) [.tmp 0, .tmp 1] = some v ∧ K v h)
def k_gatepostref04_Get_2 (L : FuncId → List V → V → Prop) (K : V → Heap → Prop) (N0 : Env → Heap → Prop) (e : Env) (v8 : V) (h : Heap) : Prop :=
    (wi F L (.bin .add (.c v8) (.c (.int .i64 1))) E0 h fun v14 h =>
    (N0 (upd (upd (upd e 13 v8) 14 v14) 8 v14) h))
def k_gatepostref04_Get_3 (L : FuncId → List V → V → Prop) (K : V → Heap → Prop) (N0 : Env → Heap → Prop) (e : Env) (v0 v6 v7 v8 : V) (h : Heap) : Prop :=
    (wi F L (.ixaSl 2 (.c v0) (.c v8)) E0 h fun v29 h =>
    (wi F L (.faddr 1 (.c v29)) E0 h fun v30 h =>
    (wi F L (.load false 1 (.c v30)) E0 h fun v31 h =>
    (wi F L (.bin .add (.c v6) (.c v31)) E0 h fun v32 h =>
    (wi F L (.bin .add (.c v7) (.c (.int .i64 1))) E0 h fun v34 h =>
    (k_gatepostref04_Get_2 L K N0 (upd (upd (upd (upd (upd (upd (upd (upd (upd (upd (upd e 26 v6) 27 v0) 28 v8) 29 v29) 30 v30) 31 v31) 32 v32) 6 v32) 33 v7) 34 v34) 7 v34) v8 h))))))
def k_gatepostref04_Get_1 (L : FuncId → List V → V → Prop) (K : V → Heap → Prop) (N0 : Env → Heap → Prop) (e : Env) (v0 v1 v6 v7 v8 : V) (h : Heap) : Prop :=
    (wi F L (.ixaSl 2 (.c v0) (.c v8)) E0 h fun v17 h =>
    (wi F L (.faddr 0 (.c v17)) E0 h fun v18 h =>
    (wi F L (.load false 1 (.c v18)) E0 h fun v19 h =>
    (wi F L (.call i_gatepostref01_Same [(.c v19), (.c v1)]) E0 h fun v21 h =>
    (wb v21
    (wi F L (.bin .gtr (.c v7) (.c (.int .i64 0))) E0 h fun v23 h =>
    (wb v23
    (wi F L (.bin .add (.c v6) (.c (.str [44, 32]))) E0 h fun v25 h =>
    (k_gatepostref04_Get_3 L K N0 (upd (upd (upd (upd (upd (upd (upd (upd (upd (upd (upd (upd e 15 v0) 16 v8) 17 v17) 18 v18) 19 v19) 20 v1) 21 v21) 22 v7) 23 v23) 24 v6) 25 v25) 6 v25) v0 v25 v7 v8 h))
    (k_gatepostref04_Get_3 L K N0 (upd (upd (upd (upd (upd (upd (upd (upd (upd e 15 v0) 16 v8) 17 v17) 18 v18) 19 v19) 20 v1) 21 v21) 22 v7) 23 v23) v0 v6 v7 v8 h)))
    (k_gatepostref04_Get_2 L K N0 (upd (upd (upd (upd (upd (upd (upd e 15 v0) 16 v8) 17 v17) 18 v18) 19 v19) 20 v1) 21 v21) v8 h))))))
def q_gatepostref04_Get_0 (L : FuncId → List V → V → Prop) (K : V → Heap → Prop) : X → Env → Heap → Prop := (fun x => (seqX (fun e h => k_gatepostref04_Get_0 L K (e 6) (e 7) h) (retX c_gatepostref04_Get.results K)) (X.out 0 x))
def lc_gatepostref04_Get_0 : C :=
  (.seq (.seq (.region [⟨(some 9), none, .mv (.t 8)⟩, ⟨(some 10), none, .mv (.t 0)⟩, ⟨(some 11), none, .len 1 (.t 10)⟩, ⟨(some 12), none, .bin .lss (.t 9) (.t 11)⟩])
  (.cond (.t 12)
    .skip
    (.exit 0)))
  (.seq (.block 1 (.seq (.region [⟨(some 15), none, .mv (.t 0)⟩, ⟨(some 16), none, .mv (.t 8)⟩, ⟨(some 17), none, .ixaSl 2 (.t 15) (.t 16)⟩, ⟨(some 18), none, .faddr 0 (.t 17)⟩, ⟨(some 19), none, .load false 1 (.t 18)⟩, ⟨(some 20), none, .mv (.t 1)⟩, ⟨(some 21), none, .call i_gatepostref01_Same [(.t 19), (.t 20)]⟩])
  (.cond (.t 21)
    (.seq (.seq (.region [⟨(some 22), none, .mv (.t 7)⟩, ⟨(some 23), none, .bin .gtr (.t 22) (.c (.int .i64 0))⟩])
    (.cond (.t 23)
      (.region [⟨(some 24), none, .mv (.t 6)⟩, ⟨(some 25), none, .bin .add (.t 24) (.c (.str [44, 32]))⟩, ⟨(some 6), none, .mv (.t 25)⟩])
      .skip))
    (.seq (.region [⟨(some 26), none, .mv (.t 6)⟩, ⟨(some 27), none, .mv (.t 0)⟩, ⟨(some 28), none, .mv (.t 8)⟩, ⟨(some 29), none, .ixaSl 2 (.t 27) (.t 28)⟩, ⟨(some 30), none, .faddr 1 (.t 29)⟩, ⟨(some 31), none, .load false 1 (.t 30)⟩, ⟨(some 32), none, .bin .add (.t 26) (.t 31)⟩, ⟨(some 6), none, .mv (.t 32)⟩])
    (.region [⟨(some 33), none, .mv (.t 7)⟩, ⟨(some 34), none, .bin .add (.t 33) (.c (.int .i64 1))⟩, ⟨(some 7), none, .mv (.t 34)⟩])))
    .skip)))
  (.region [⟨(some 13), none, .mv (.t 8)⟩, ⟨(some 14), none, .bin .add (.t 13) (.c (.int .i64 1))⟩, ⟨(some 8), none, .mv (.t 14)⟩])))
def b_gatepostref04_Get_0 (L : FuncId → List V → V → Prop) (K : V → Heap → Prop) (N0 : Env → Heap → Prop) (e : Env) (h : Heap) : Prop :=
    (wi F L (.len 1 (.c (e 0))) E0 h fun v11 h =>
    (wi F L (.bin .lss (.c (e 8)) (.c v11)) E0 h fun v12 h =>
    (wb v12
    (k_gatepostref04_Get_1 L K N0 (upd (upd (upd (upd e 9 (e 8)) 10 (e 0)) 11 v11) 12 v12) (e 0) (e 1) (e 6) (e 7) (e 8) h)
    (k_gatepostref04_Get_0 L K (e 6) (e 7) h))))
theorem l_gatepostref04_Get_0 {L : FuncId → List V → V → Prop} {K : V → Heap → Prop} (I : Nat → Env → Heap → Prop) (hr : ∀ n e h, I n e h → b_gatepostref04_Get_0 L K (fun e' h' => ∃ m, m < n ∧ I m e' h') e h) {n : Nat} {e : Env} {h : Heap} (hi : I n e h) : Wl F L lc_gatepostref04_Get_0 (q_gatepostref04_Get_0 L K) e h :=
  wloopp (b := b_gatepostref04_Get_0 L K) I (fun _ _ _ => by kernel_rfl) hr hi
def p_gatepostref04_Get (L : FuncId → List V → V → Prop) (K : V → Heap → Prop) (a0 a1 : V) (h : Heap) : Prop :=
    (Wl F L lc_gatepostref04_Get_0 (q_gatepostref04_Get_0 L K) (upd (upd (upd (upd (upd (enterE [a0, a1]) 4 (.str [])) 5 (.int .i64 0)) 6 (.str [])) 7 (.int .i64 0)) 8 (.int .i64 0)) h)
theorem run_gatepostref04_Get {L : FuncId → List V → V → Prop} {K : V → Heap → Prop} {a0 a1 : V} {h : Heap} (hp : p_gatepostref04_Get L K a0 a1 h) : Cf F L i_gatepostref04_Get [a0, a1] h K :=
  wcallp F_gatepostref04_Get (show 2 ≤ 37 by decide) (p := p_gatepostref04_Get L K a0 a1 h) (by kernel_rfl) hp
def k_gatepostref12_Parse_2 (L : FuncId → List V → V → Prop) (K : V → Heap → Prop) (v0 v2 v4 : V) (h : Heap) : Prop :=
    (wi F L (.len 0 (.c v0)) E0 h fun v72 h =>
    (wi F L (.bin .sub (.c v72) (.c (.int .i64 1))) E0 h fun v73 h =>
    (wi F L (.slstr (.c v0) (some (.c (.int .i64 1))) (some (.c v73))) E0 h fun v74 h =>
    (wi F L (.faddr 1 (.c v4)) E0 h fun v75 h =>
    (wi F L (.store 1 (.c v75) (.c v74)) E0 h fun _ h =>
    (wi F L (.load true 2 (.c v4)) E0 h fun v76 h =>
    (wi F L (.store 2 (.c v2) (.c v76)) E0 h fun _ h =>
    (∃ v, resultsV h (enterE [v2, (.bool true)]) [.cell 0 true 2, .tmp 1] = some v ∧ K v h))))))))
def k_gatepostref12_Parse_4 (L : FuncId → List V → V → Prop) (K : V → Heap → Prop) (N0 : Env → Heap → Prop) (e : Env) (v5 : V) (h : Heap) : Prop :=
    (wi F L (.bin .add (.c v5) (.c (.int .i64 1))) E0 h fun v46 h =>
    (N0 (upd (upd (upd e 45 v5) 46 v46) 5 v46) h))
def k_gatepostref12_Parse_3 (L : FuncId → List V → V → Prop) (K : V → Heap → Prop) (N0 : Env → Heap → Prop) (e : Env) (v0 v2 v5 : V) (h : Heap) : Prop :=
    (wi F L (.ixStr (.c v0) (.c v5)) E0 h fun v49 h =>
    (wi F L (.bin .lss (.c v49) (.c (.int .u8 33))) E0 h fun v50 h =>
    (wg v50 false (wi F L (.mv (.c v0)) E0 h) h fun v52 h =>
    (wg v50 false (wi F L (.mv (.c v5)) E0 h) h fun v53 h =>
    (wg v50 false (wi F L (.ixStr (.c v52) (.c v53)) E0 h) h fun v54 h =>
    (wg v50 false (wi F L (.bin .eql (.c v54) (.c (.int .u8 34))) E0 h) h fun v55 h =>
    (wi F L (.pick (.c v50) (.c (.bool true)) (.c v55)) E0 h fun v56 h =>
    (wg v56 false (wi F L (.mv (.c v0)) E0 h) h fun v58 h =>
    (wg v56 false (wi F L (.mv (.c v5)) E0 h) h fun v59 h =>
    (wg v56 false (wi F L (.ixStr (.c v58) (.c v59)) E0 h) h fun v60 h =>
    (wg v56 false (wi F L (.bin .eql (.c v60) (.c (.int .u8 92))) E0 h) h fun v61 h =>
    (wi F L (.pick (.c v56) (.c (.bool true)) (.c v61)) E0 h fun v62 h =>
    (wg v62 false (wi F L (.mv (.c v0)) E0 h) h fun v64 h =>
    (wg v62 false (wi F L (.mv (.c v5)) E0 h) h fun v65 h =>
    (wg v62 false (wi F L (.ixStr (.c v64) (.c v65)) E0 h) h fun v66 h =>
    (wg v62 false (wi F L (.bin .eql (.c v66) (.c (.int .u8 127))) E0 h) h fun v67 h =>
    (wi F L (.pick (.c v62) (.c (.bool true)) (.c v67)) E0 h fun v68 h =>
    (wb v68
    (wi F L (.build [(.bool false), (.str [])] []) E0 h fun v69 h =>
    (wi F L (.store 2 (.c v2) (.c v69)) E0 h fun _ h =>
    (∃ v, resultsV h (enterE [v2, (.bool false)]) [.cell 0 true 2, .tmp 1] = some v ∧ K v h)))
    (k_gatepostref12_Parse_4 L K N0 (upd (upd (upd (upd (upd (upd (upd (upd (upd (upd (upd (upd (upd (upd (upd (upd (upd (upd (upd (upd (upd (upd e 47 v0) 48 v5) 49 v49) 50 v50) 51 v50) 52 v52) 53 v53) 54 v54) 55 v55) 56 v56) 57 v56) 58 v58) 59 v59) 60 v60) 61 v61) 62 v62) 63 v62) 64 v64) 65 v65) 66 v66) 67 v67) 68 v68) v5 h)))))))))))))))))))
def q_gatepostref12_Parse_0 (L : FuncId → List V → V → Prop) (K : V → Heap → Prop) : X → Env → Heap → Prop := (fun x => (seqX (fun e h => k_gatepostref12_Parse_2 L K (e 0) (e 2) (e 4) h) (retX c_gatepostref12_Parse.results K)) (X.out 0 x))
def lc_gatepostref12_Parse_0 : C :=
  (.seq (.seq (.region [⟨(some 40), none, .mv (.t 5)⟩, ⟨(some 41), none, .mv (.t 0)⟩, ⟨(some 42), none, .len 0 (.t 41)⟩, ⟨(some 43), none, .bin .sub (.t 42) (.c (.int .i64 1))⟩, ⟨(some 44), none, .bin .lss (.t 40) (.t 43)⟩])
  (.cond (.t 44)
    .skip
    (.exit 0)))
  (.seq (.block 1 (.seq (.region [⟨(some 47), none, .mv (.t 0)⟩, ⟨(some 48), none, .mv (.t 5)⟩, ⟨(some 49), none, .ixStr (.t 47) (.t 48)⟩, ⟨(some 50), none, .bin .lss (.t 49) (.c (.int .u8 33))⟩, ⟨(some 51), none, .mv (.t 50)⟩, ⟨(some 52), (some (51, false)), .mv (.t 0)⟩, ⟨(some 53), (some (51, false)), .mv (.t 5)⟩, ⟨(some 54), (some (51, false)), .ixStr (.t 52) (.t 53)⟩, ⟨(some 55), (some (51, false)), .bin .eql (.t 54) (.c (.int .u8 34))⟩, ⟨(some 56), none, .pick (.t 51) (.c (.bool true)) (.t 55)⟩, ⟨(some 57), none, .mv (.t 56)⟩, ⟨(some 58), (some (57, false)), .mv (.t 0)⟩, ⟨(some 59), (some (57, false)), .mv (.t 5)⟩, ⟨(some 60), (some (57, false)), .ixStr (.t 58) (.t 59)⟩, ⟨(some 61), (some (57, false)), .bin .eql (.t 60) (.c (.int .u8 92))⟩, ⟨(some 62), none, .pick (.t 57) (.c (.bool true)) (.t 61)⟩, ⟨(some 63), none, .mv (.t 62)⟩, ⟨(some 64), (some (63, false)), .mv (.t 0)⟩, ⟨(some 65), (some (63, false)), .mv (.t 5)⟩, ⟨(some 66), (some (63, false)), .ixStr (.t 64) (.t 65)⟩, ⟨(some 67), (some (63, false)), .bin .eql (.t 66) (.c (.int .u8 127))⟩, ⟨(some 68), none, .pick (.t 63) (.c (.bool true)) (.t 67)⟩])
  (.cond (.t 68)
    (.seq (.region [⟨(some 69), none, .build [(.bool false), (.str [])] []⟩, ⟨none, none, .store 2 (.t 2) (.t 69)⟩, ⟨(some 3), none, .mv (.c (.bool false))⟩])
    .ret)
    .skip)))
  (.region [⟨(some 45), none, .mv (.t 5)⟩, ⟨(some 46), none, .bin .add (.t 45) (.c (.int .i64 1))⟩, ⟨(some 5), none, .mv (.t 46)⟩])))
def b_gatepostref12_Parse_0 (L : FuncId → List V → V → Prop) (K : V → Heap → Prop) (N0 : Env → Heap → Prop) (e : Env) (h : Heap) : Prop :=
    (wi F L (.len 0 (.c (e 0))) E0 h fun v42 h =>
    (wi F L (.bin .sub (.c v42) (.c (.int .i64 1))) E0 h fun v43 h =>
    (wi F L (.bin .lss (.c (e 5)) (.c v43)) E0 h fun v44 h =>
    (wb v44
    (k_gatepostref12_Parse_3 L K N0 (upd (upd (upd (upd (upd e 40 (e 5)) 41 (e 0)) 42 v42) 43 v43) 44 v44) (e 0) (e 2) (e 5) h)
    (k_gatepostref12_Parse_2 L K (e 0) (e 2) (e 4) h)))))
theorem l_gatepostref12_Parse_0 {L : FuncId → List V → V → Prop} {K : V → Heap → Prop} (I : Nat → Env → Heap → Prop) (hr : ∀ n e h, I n e h → b_gatepostref12_Parse_0 L K (fun e' h' => ∃ m, m < n ∧ I m e' h') e h) {n : Nat} {e : Env} {h : Heap} (hi : I n e h) : Wl F L lc_gatepostref12_Parse_0 (q_gatepostref12_Parse_0 L K) e h :=
  wloopp (b := b_gatepostref12_Parse_0 L K) I (fun _ _ _ => by kernel_rfl) hr hi
def k_gatepostref12_Parse_1 (L : FuncId → List V → V → Prop) (K : V → Heap → Prop) (e : Env) (h : Heap) : Prop :=
    (Wl F L lc_gatepostref12_Parse_0 (q_gatepostref12_Parse_0 L K) (upd e 5 (.int .i64 1)) h)
def k_gatepostref12_Parse_0 (L : FuncId → List V → V → Prop) (K : V → Heap → Prop) (e : Env) (v0 v2 : V) (h : Heap) : Prop :=
    (wi F L (.len 0 (.c v0)) E0 h fun v24 h =>
    (wi F L (.bin .lss (.c v24) (.c (.int .i64 2))) E0 h fun v25 h =>
    (wg v25 false (wi F L (.mv (.c v0)) E0 h) h fun v27 h =>
    (wg v25 false (wi F L (.ixStr (.c v27) (.c (.int .i64 0))) E0 h) h fun v28 h =>
    (wg v25 false (wi F L (.bin .neq (.c v28) (.c (.int .u8 34))) E0 h) h fun v29 h =>
    (wi F L (.pick (.c v25) (.c (.bool true)) (.c v29)) E0 h fun v30 h =>
    (wg v30 false (wi F L (.mv (.c v0)) E0 h) h fun v32 h =>
    (wg v30 false (wi F L (.mv (.c v0)) E0 h) h fun v33 h =>
    (wg v30 false (wi F L (.len 0 (.c v33)) E0 h) h fun v34 h =>
    (wg v30 false (wi F L (.bin .sub (.c v34) (.c (.int .i64 1))) E0 h) h fun v35 h =>
    (wg v30 false (wi F L (.ixStr (.c v32) (.c v35)) E0 h) h fun v36 h =>
    (wg v30 false (wi F L (.bin .neq (.c v36) (.c (.int .u8 34))) E0 h) h fun v37 h =>
    (wi F L (.pick (.c v30) (.c (.bool true)) (.c v37)) E0 h fun v38 h =>
    (wb v38
    (wi F L (.build [(.bool false), (.str [])] []) E0 h fun v39 h =>
    (wi F L (.store 2 (.c v2) (.c v39)) E0 h fun _ h =>
    (∃ v, resultsV h (enterE [v2, (.bool false)]) [.cell 0 true 2, .tmp 1] = some v ∧ K v h)))
    (k_gatepostref12_Parse_1 L K (upd (upd (upd (upd (upd (upd (upd (upd (upd (upd (upd (upd (upd (upd (upd (upd e 23 v0) 24 v24) 25 v25) 26 v25) 27 v27) 28 v28) 29 v29) 30 v30) 31 v30) 32 v32) 33 v33) 34 v34) 35 v35) 36 v36) 37 v37) 38 v38)  h)))))))))))))))
def p_gatepostref12_Parse (L : FuncId → List V → V → Prop) (K : V → Heap → Prop) (a0 : V) (h : Heap) : Prop :=
    (wi F L (.boxz [(.bool false), (.str [])]) E0 h fun v2 h =>
    (wi F L (.build [(.bool false), (.str [])] []) E0 h fun v6 h =>
    (wi F L (.boxz [(.bool false), (.str [])]) E0 h fun v4 h =>
    (wi F L (.store 2 (.c v4) (.c v6)) E0 h fun _ h =>
    (wi F L (.len 0 (.c a0)) E0 h fun v8 h =>
    (wi F L (.bin .gtr (.c v8) (.c (.int .i64 2))) E0 h fun v9 h =>
    (wg v9 true (wi F L (.mv (.c a0)) E0 h) h fun v11 h =>
    (wg v9 true (wi F L (.ixStr (.c v11) (.c (.int .i64 0))) E0 h) h fun v12 h =>
    (wg v9 true (wi F L (.bin .eql (.c v12) (.c (.int .u8 87))) E0 h) h fun v13 h =>
    (wi F L (.pick (.c v9) (.c v13) (.c (.bool false))) E0 h fun v14 h =>
    (wg v14 true (wi F L (.mv (.c a0)) E0 h) h fun v16 h =>
    (wg v14 true (wi F L (.ixStr (.c v16) (.c (.int .i64 1))) E0 h) h fun v17 h =>
    (wg v14 true (wi F L (.bin .eql (.c v17) (.c (.int .u8 47))) E0 h) h fun v18 h =>
    (wi F L (.pick (.c v14) (.c v18) (.c (.bool false))) E0 h fun v19 h =>
    (wb v19
    (wi F L (.faddr 0 (.c v4)) E0 h fun v20 h =>
    (wi F L (.store 1 (.c v20) (.c (.bool true))) E0 h fun _ h =>
    (wi F L (.slstr (.c a0) (some (.c (.int .i64 2))) none) E0 h fun v22 h =>
    (k_gatepostref12_Parse_0 L K (upd (upd (upd (upd (upd (upd (upd (upd (upd (upd (upd (upd (upd (upd (upd (upd (upd (upd (upd (upd (upd (enterE [a0]) 2 v2) 3 (.bool false)) 6 v6) 4 v4) 7 a0) 8 v8) 9 v9) 10 v9) 11 v11) 12 v12) 13 v13) 14 v14) 15 v14) 16 v16) 17 v17) 18 v18) 19 v19) 20 v20) 21 a0) 22 v22) 0 v22) v22 v2 h))))
    (k_gatepostref12_Parse_0 L K (upd (upd (upd (upd (upd (upd (upd (upd (upd (upd (upd (upd (upd (upd (upd (upd (upd (enterE [a0]) 2 v2) 3 (.bool false)) 6 v6) 4 v4) 7 a0) 8 v8) 9 v9) 10 v9) 11 v11) 12 v12) 13 v13) 14 v14) 15 v14) 16 v16) 17 v17) 18 v18) 19 v19) a0 v2 h))))))))))))))))
theorem run_gatepostref12_Parse {L : FuncId → List V → V → Prop} {K : V → Heap → Prop} {a0 : V} {h : Heap} (hp : p_gatepostref12_Parse L K a0 h) : Cf F L i_gatepostref12_Parse [a0] h K :=
  wcallp F_gatepostref12_Parse (show 1 ≤ 77 by decide) (p := p_gatepostref12_Parse L K a0 h) (by kernel_rfl) hp
def k_gatepostref01_Split_2 (L : FuncId → List V → V → Prop) (K : V → Heap → Prop) (v4 : V) (h : Heap) : Prop :=
    (∃ v, resultsV h (enterE [v4, (.bool true)]) [.tmp 0, .tmp 1] = some v ∧ K v h)
def k_gatepostref01_Split_1 (L : FuncId → List V → V → Prop) (K : V → Heap → Prop) (v4 v5 : V) (h : Heap) : Prop :=
    (wi F L (.bin .neq (.c v5) (.c (.str []))) E0 h fun v68 h =>
    (wb v68
    (wi F L (.bsl 1 [(.c v5)]) E0 h fun v71 h =>
    (wi F L (.app 1 16 false (.c v4) (.c v71)) E0 h fun v72 h =>
    (k_gatepostref01_Split_2 L K v72 h)))
    (k_gatepostref01_Split_2 L K v4 h)))
def k_gatepostref01_Split_0 (L : FuncId → List V → V → Prop) (K : V → Heap → Prop) (v4 v5 v6 : V) (h : Heap) : Prop :=
    (wi F L (.call i_gatepostref01_Trim [(.c v5)]) E0 h fun v65 h =>
    (wb v6
    (∃ v, resultsV h (enterE [.nsl, (.bool false)]) [.tmp 0, .tmp 1] = some v ∧ K v h)
    (k_gatepostref01_Split_1 L K v4 v65 h)))
def k_gatepostref01_Split_4 (L : FuncId → List V → V → Prop) (K : V → Heap → Prop) (N0 : Env → Heap → Prop) (e : Env) (v7 : V) (h : Heap) : Prop :=
    (wi F L (.bin .add (.c v7) (.c (.int .i64 1))) E0 h fun v14 h =>
    (N0 (upd (upd (upd e 13 v7) 14 v14) 7 v14) h))
def k_gatepostref01_Split_6 (L : FuncId → List V → V → Prop) (K : V → Heap → Prop) (N0 : Env → Heap → Prop) (e : Env) (v0 v5 v6 v7 v8 : V) (h : Heap) : Prop :=
    (wg v6 true (wi F L (.mv (.c v8)) E0 h) h fun v45 h =>
    (wg v6 true (wi F L (.bin .eql (.c v45) (.c (.int .u8 92))) E0 h) h fun v46 h =>
    (wi F L (.pick (.c v6) (.c v46) (.c (.bool false))) E0 h fun v47 h =>
    (wg v47 true (wi F L (.mv (.c v7)) E0 h) h fun v49 h =>
    (wg v47 true (wi F L (.bin .add (.c v49) (.c (.int .i64 1))) E0 h) h fun v50 h =>
    (wg v47 true (wi F L (.mv (.c v0)) E0 h) h fun v51 h =>
    (wg v47 true (wi F L (.len 0 (.c v51)) E0 h) h fun v52 h =>
    (wg v47 true (wi F L (.bin .lss (.c v50) (.c v52)) E0 h) h fun v53 h =>
    (wi F L (.pick (.c v47) (.c v53) (.c (.bool false))) E0 h fun v54 h =>
    (wb v54
    (wi F L (.bin .add (.c v7) (.c (.int .i64 1))) E0 h fun v56 h =>
    (wi F L (.bin .add (.c v56) (.c (.int .i64 1))) E0 h fun v61 h =>
    (wi F L (.slstr (.c v0) (some (.c v56)) (some (.c v61))) E0 h fun v62 h =>
    (wi F L (.bin .add (.c v5) (.c v62)) E0 h fun v63 h =>
    (k_gatepostref01_Split_4 L K N0 (upd (upd (upd (upd (upd (upd (upd (upd (upd (upd (upd (upd (upd (upd (upd (upd (upd (upd (upd (upd (upd (upd (upd e 43 v6) 44 v6) 45 v45) 46 v46) 47 v47) 48 v47) 49 v49) 50 v50) 51 v51) 52 v52) 53 v53) 54 v54) 55 v7) 56 v56) 7 v56) 57 v5) 58 v0) 59 v56) 60 v56) 61 v61) 62 v62) 63 v63) 5 v63) v56 h)))))
    (k_gatepostref01_Split_4 L K N0 (upd (upd (upd (upd (upd (upd (upd (upd (upd (upd (upd (upd e 43 v6) 44 v6) 45 v45) 46 v46) 47 v47) 48 v47) 49 v49) 50 v50) 51 v51) 52 v52) 53 v53) 54 v54) v7 h)))))))))))
def k_gatepostref01_Split_5 (L : FuncId → List V → V → Prop) (K : V → Heap → Prop) (N0 : Env → Heap → Prop) (e : Env) (v0 v5 v6 v7 v8 : V) (h : Heap) : Prop :=
    (wi F L (.bin .add (.c v7) (.c (.int .i64 1))) E0 h fun v36 h =>
    (wi F L (.slstr (.c v0) (some (.c v7)) (some (.c v36))) E0 h fun v37 h =>
    (wi F L (.bin .add (.c v5) (.c v37)) E0 h fun v38 h =>
    (wi F L (.bin .eql (.c v8) (.c (.int .u8 34))) E0 h fun v40 h =>
    (wb v40
    (wi F L (.un .not (.c v6)) E0 h fun v42 h =>
    (k_gatepostref01_Split_6 L K N0 (upd (upd (upd (upd (upd (upd (upd (upd (upd (upd (upd (upd (upd e 32 v5) 33 v0) 34 v7) 35 v7) 36 v36) 37 v37) 38 v38) 5 v38) 39 v8) 40 v40) 41 v6) 42 v42) 6 v42) v0 v38 v42 v7 v8 h))
    (k_gatepostref01_Split_6 L K N0 (upd (upd (upd (upd (upd (upd (upd (upd (upd (upd e 32 v5) 33 v0) 34 v7) 35 v7) 36 v36) 37 v37) 38 v38) 5 v38) 39 v8) 40 v40) v0 v38 v6 v7 v8 h))))))
def k_gatepostref01_Split_7 (L : FuncId → List V → V → Prop) (K : V → Heap → Prop) (N0 : Env → Heap → Prop) (e : Env) (v7 : V) (h : Heap) : Prop :=
    (k_gatepostref01_Split_4 L K N0 (upd e 5 (.str [])) v7 h)
def k_gatepostref01_Split_3 (L : FuncId → List V → V → Prop) (K : V → Heap → Prop) (N0 : Env → Heap → Prop) (e : Env) (v0 v4 v5 v6 v7 : V) (h : Heap) : Prop :=
    (wi F L (.ixStr (.c v0) (.c v7)) E0 h fun v17 h =>
    (wi F L (.un .not (.c v6)) E0 h fun v19 h =>
    (wg v19 true (wi F L (.mv (.c v17)) E0 h) h fun v21 h =>
    (wg v19 true (wi F L (.bin .eql (.c v21) (.c (.int .u8 44))) E0 h) h fun v22 h =>
    (wi F L (.pick (.c v19) (.c v22) (.c (.bool false))) E0 h fun v23 h =>
    (wb v23
    (wi F L (.call i_gatepostref01_Trim [(.c v5)]) E0 h fun v25 h =>
    (wi F L (.bin .neq (.c v25) (.c (.str []))) E0 h fun v27 h =>
    (wb v27
    (wi F L (.bsl 1 [(.c v25)]) E0 h fun v30 h =>
    (wi F L (.app 1 16 false (.c v4) (.c v30)) E0 h fun v31 h =>
    (k_gatepostref01_Split_7 L K N0 (upd (upd (upd (upd (upd (upd (upd (upd (upd (upd (upd (upd (upd (upd (upd (upd (upd (upd (upd (upd e 15 v0) 16 v7) 17 v17) 8 v17) 18 v6) 19 v19) 20 v19) 21 v21) 22 v22) 23 v23) 24 v5) 25 v25) 5 v25) 26 v25) 27 v27) 28 v4) 29 v25) 30 v30) 31 v31) 4 v31) v7 h)))
    (k_gatepostref01_Split_7 L K N0 (upd (upd (upd (upd (upd (upd (upd (upd (upd (upd (upd (upd (upd (upd (upd e 15 v0) 16 v7) 17 v17) 8 v17) 18 v6) 19 v19) 20 v19) 21 v21) 22 v22) 23 v23) 24 v5) 25 v25) 5 v25) 26 v25) 27 v27) v7 h))))
    (k_gatepostref01_Split_5 L K N0 (upd (upd (upd (upd (upd (upd (upd (upd (upd (upd e 15 v0) 16 v7) 17 v17) 8 v17) 18 v6) 19 v19) 20 v19) 21 v21) 22 v22) 23 v23) v0 v5 v6 v7 v17 h)))))))
def q_gatepostref01_Split_0 (L : FuncId → List V → V → Prop) (K : V → Heap → Prop) : X → Env → Heap → Prop := (fun x => (seqX (fun e h => k_gatepostref01_Split_0 L K (e 4) (e 5) (e 6) h) (retX c_gatepostref01_Split.results K)) (X.out 0 x))
def lc_gatepostref01_Split_0 : C :=
  (.seq (.seq (.region [⟨(some 9), none, .mv (.t 7)⟩, ⟨(some 10), none, .mv (.t 0)⟩, ⟨(some 11), none, .len 0 (.t 10)⟩, ⟨(some 12), none, .bin .lss (.t 9) (.t 11)⟩])
  (.cond (.t 12)
    .skip
    (.exit 0)))
  (.seq (.block 1 (.seq (.region [⟨(some 15), none, .mv (.t 0)⟩, ⟨(some 16), none, .mv (.t 7)⟩, ⟨(some 17), none, .ixStr (.t 15) (.t 16)⟩, ⟨(some 8), none, .mv (.t 17)⟩])
  (.seq (.seq (.region [⟨(some 18), none, .mv (.t 6)⟩, ⟨(some 19), none, .un .not (.t 18)⟩, ⟨(some 20), none, .mv (.t 19)⟩, ⟨(some 21), (some (20, true)), .mv (.t 8)⟩, ⟨(some 22), (some (20, true)), .bin .eql (.t 21) (.c (.int .u8 44))⟩, ⟨(some 23), none, .pick (.t 20) (.t 22) (.c (.bool false))⟩])
  (.cond (.t 23)
    (.seq (.region [⟨(some 24), none, .mv (.t 5)⟩, ⟨(some 25), none, .call i_gatepostref01_Trim [(.t 24)]⟩, ⟨(some 5), none, .mv (.t 25)⟩])
    (.seq (.seq (.region [⟨(some 26), none, .mv (.t 5)⟩, ⟨(some 27), none, .bin .neq (.t 26) (.c (.str []))⟩])
    (.cond (.t 27)
      (.region [⟨(some 28), none, .mv (.t 4)⟩, ⟨(some 29), none, .mv (.t 5)⟩, ⟨(some 30), none, .bsl 1 [(.t 29)]⟩, ⟨(some 31), none, .app 1 16 false (.t 28) (.t 30)⟩, ⟨(some 4), none, .mv (.t 31)⟩])
      .skip))
    (.seq (.region [⟨(some 5), none, .mv (.c (.str []))⟩])
    (.exit 1))))
    .skip))
  (.seq (.region [⟨(some 32), none, .mv (.t 5)⟩, ⟨(some 33), none, .mv (.t 0)⟩, ⟨(some 34), none, .mv (.t 7)⟩, ⟨(some 35), none, .mv (.t 7)⟩, ⟨(some 36), none, .bin .add (.t 35) (.c (.int .i64 1))⟩, ⟨(some 37), none, .slstr (.t 33) (some (.t 34)) (some (.t 36))⟩, ⟨(some 38), none, .bin .add (.t 32) (.t 37)⟩, ⟨(some 5), none, .mv (.t 38)⟩])
  (.seq (.seq (.region [⟨(some 39), none, .mv (.t 8)⟩, ⟨(some 40), none, .bin .eql (.t 39) (.c (.int .u8 34))⟩])
  (.cond (.t 40)
    (.region [⟨(some 41), none, .mv (.t 6)⟩, ⟨(some 42), none, .un .not (.t 41)⟩, ⟨(some 6), none, .mv (.t 42)⟩])
    .skip))
  (.seq (.region [⟨(some 43), none, .mv (.t 6)⟩, ⟨(some 44), none, .mv (.t 43)⟩, ⟨(some 45), (some (44, true)), .mv (.t 8)⟩, ⟨(some 46), (some (44, true)), .bin .eql (.t 45) (.c (.int .u8 92))⟩, ⟨(some 47), none, .pick (.t 44) (.t 46) (.c (.bool false))⟩, ⟨(some 48), none, .mv (.t 47)⟩, ⟨(some 49), (some (48, true)), .mv (.t 7)⟩, ⟨(some 50), (some (48, true)), .bin .add (.t 49) (.c (.int .i64 1))⟩, ⟨(some 51), (some (48, true)), .mv (.t 0)⟩, ⟨(some 52), (some (48, true)), .len 0 (.t 51)⟩, ⟨(some 53), (some (48, true)), .bin .lss (.t 50) (.t 52)⟩, ⟨(some 54), none, .pick (.t 48) (.t 53) (.c (.bool false))⟩])
  (.cond (.t 54)
    (.seq (.region [⟨(some 55), none, .mv (.t 7)⟩, ⟨(some 56), none, .bin .add (.t 55) (.c (.int .i64 1))⟩, ⟨(some 7), none, .mv (.t 56)⟩])
    (.region [⟨(some 57), none, .mv (.t 5)⟩, ⟨(some 58), none, .mv (.t 0)⟩, ⟨(some 59), none, .mv (.t 7)⟩, ⟨(some 60), none, .mv (.t 7)⟩, ⟨(some 61), none, .bin .add (.t 60) (.c (.int .i64 1))⟩, ⟨(some 62), none, .slstr (.t 58) (some (.t 59)) (some (.t 61))⟩, ⟨(some 63), none, .bin .add (.t 57) (.t 62)⟩, ⟨(some 5), none, .mv (.t 63)⟩]))
    .skip)))))))
  (.region [⟨(some 13), none, .mv (.t 7)⟩, ⟨(some 14), none, .bin .add (.t 13) (.c (.int .i64 1))⟩, ⟨(some 7), none, .mv (.t 14)⟩])))
def b_gatepostref01_Split_0 (L : FuncId → List V → V → Prop) (K : V → Heap → Prop) (N0 : Env → Heap → Prop) (e : Env) (h : Heap) : Prop :=
    (wi F L (.len 0 (.c (e 0))) E0 h fun v11 h =>
    (wi F L (.bin .lss (.c (e 7)) (.c v11)) E0 h fun v12 h =>
    (wb v12
    (k_gatepostref01_Split_3 L K N0 (upd (upd (upd (upd e 9 (e 7)) 10 (e 0)) 11 v11) 12 v12) (e 0) (e 4) (e 5) (e 6) (e 7) h)
    (k_gatepostref01_Split_0 L K (e 4) (e 5) (e 6) h))))
theorem l_gatepostref01_Split_0 {L : FuncId → List V → V → Prop} {K : V → Heap → Prop} (I : Nat → Env → Heap → Prop) (hr : ∀ n e h, I n e h → b_gatepostref01_Split_0 L K (fun e' h' => ∃ m, m < n ∧ I m e' h') e h) {n : Nat} {e : Env} {h : Heap} (hi : I n e h) : Wl F L lc_gatepostref01_Split_0 (q_gatepostref01_Split_0 L K) e h :=
  wloopp (b := b_gatepostref01_Split_0 L K) I (fun _ _ _ => by kernel_rfl) hr hi
def p_gatepostref01_Split (L : FuncId → List V → V → Prop) (K : V → Heap → Prop) (a0 : V) (h : Heap) : Prop :=
    (Wl F L lc_gatepostref01_Split_0 (q_gatepostref01_Split_0 L K) (upd (upd (upd (upd (upd (upd (enterE [a0]) 2 .nsl) 3 (.bool false)) 4 .nsl) 5 (.str [])) 6 (.bool false)) 7 (.int .i64 0)) h)
theorem run_gatepostref01_Split {L : FuncId → List V → V → Prop} {K : V → Heap → Prop} {a0 : V} {h : Heap} (hp : p_gatepostref01_Split L K a0 h) : Cf F L i_gatepostref01_Split [a0] h K :=
  wcallp F_gatepostref01_Split (show 1 ≤ 74 by decide) (p := p_gatepostref01_Split L K a0 h) (by kernel_rfl) hp
def k_gatepostref02_Parse_2 (L : FuncId → List V → V → Prop) (K : V → Heap → Prop) (h : Heap) : Prop :=
    (∃ v, resultsV h (enterE [(.int .i64 0), (.bool false)]) [.tmp 0, .tmp 1] = some v ∧ K v h)
def k_gatepostref02_Parse_4 (L : FuncId → List V → V → Prop) (K : V → Heap → Prop) (N0 : Env → Heap → Prop) (e : Env) (v6 : V) (h : Heap) : Prop :=
    (wi F L (.bin .add (.c v6) (.c (.int .i64 1))) E0 h fun v113 h =>
    (N0 (upd (upd (upd e 112 v6) 113 v113) 6 v113) h))
def k_gatepostref02_Parse_7 (L : FuncId → List V → V → Prop) (K : V → Heap → Prop) (N0 : Env → Heap → Prop) (e : Env) (v6 v8 v9 : V) (h : Heap) : Prop :=
    (wi F L (.call i_gatepostref02_months []) E0 h fun v173 h' => Ext h h' ∧
    (wi F L (.slstr (.c v8) (some (.c (.int .i64 5))) (some (.c (.int .i64 8)))) E0 h' fun v175 h => Ext h' h ∧
    (wi F L (.call i_gatepostref02_find [(.c v173), (.c v175)]) E0 h fun v176 h' => Ext h h' ∧
    (wi F L (.bin .add (.c v176) (.c (.int .i64 1))) E0 h' fun v177 h => Ext h' h ∧
    (wi F L (.slstr (.c v8) (some (.c (.int .i64 2))) (some (.c (.int .i64 4)))) E0 h fun v179 h' => Ext h h' ∧
    (wi F L (.call i_gatepostref02_number [(.c v179)]) E0 h' fun v180 h => Ext h' h ∧
    (wi F L (.slstr (.c v8) (some (.c (.int .i64 12))) (some (.c (.int .i64 20)))) E0 h fun v182 h' => Ext h h' ∧
    (wi F L (.call i_gatepostref02_clock [(.c v182)]) E0 h' fun v183 h => Ext h' h ∧
    (wi F L (.call i_gatepostref02_second [(.c v6), (.c v9), (.c v177), (.c v180), (.c v183)]) E0 h fun v184 h' => Ext h h' ∧
    (wi F L (.ext 0 (.c v184)) E0 h' fun v185 h => Ext h' h ∧
    (wi F L (.ext 1 (.c v184)) E0 h fun v186 h' => Ext h h' ∧
    (∃ v, resultsV h' (enterE [v185, v186]) [.tmp 0, .tmp 1] = some v ∧ K v h'))))))))))))
def k_gatepostref02_Parse_6 (L : FuncId → List V → V → Prop) (K : V → Heap → Prop) (N0 : Env → Heap → Prop) (e : Env) (v6 v8 : V) (h : Heap) : Prop :=
    (wi F L (.slstr (.c v8) (some (.c (.int .i64 9))) (some (.c (.int .i64 11)))) E0 h fun v161 h =>
    (wi F L (.call i_gatepostref02_number [(.c v161)]) E0 h fun v162 h =>
    (wi F L (.bin .geq (.c v162) (.c (.int .i64 70))) E0 h fun v164 h =>
    (wb v164
    (wi F L (.bin .add (.c v162) (.c (.int .i64 1900))) E0 h fun v166 h =>
    (k_gatepostref02_Parse_7 L K N0 (upd (upd (upd (upd (upd (upd (upd (upd (upd e 160 v8) 161 v161) 162 v162) 9 v162) 163 v162) 164 v164) 165 v162) 166 v166) 9 v166) v6 v8 v166 h))
    (wi F L (.bin .geq (.c v162) (.c (.int .i64 0))) E0 h fun v168 h =>
    (wb v168
    (wi F L (.bin .add (.c v162) (.c (.int .i64 2000))) E0 h fun v170 h =>
    (k_gatepostref02_Parse_7 L K N0 (upd (upd (upd (upd (upd (upd (upd (upd (upd (upd (upd e 160 v8) 161 v161) 162 v162) 9 v162) 163 v162) 164 v164) 167 v162) 168 v168) 169 v162) 170 v170) 9 v170) v6 v8 v170 h))
    (k_gatepostref02_Parse_7 L K N0 (upd (upd (upd (upd (upd (upd (upd (upd e 160 v8) 161 v161) 162 v162) 9 v162) 163 v162) 164 v164) 167 v162) 168 v168) v6 v8 v162 h)))))))
def k_gatepostref02_Parse_5 (L : FuncId → List V → V → Prop) (K : V → Heap → Prop) (N0 : Env → Heap → Prop) (e : Env) (v0 v6 v7 : V) (h : Heap) : Prop :=
    (wi F L (.slstr (.c v0) (some (.c v7)) none) E0 h fun v136 h =>
    (wi F L (.slstr (.c v136) none (some (.c (.int .i64 2)))) E0 h fun v138 h =>
    (wi F L (.bin .neq (.c v138) (.c (.str [44, 32]))) E0 h fun v139 h =>
    (wg v139 false (wi F L (.mv (.c v136)) E0 h) h fun v141 h =>
    (wg v139 false (wi F L (.ixStr (.c v141) (.c (.int .i64 4))) E0 h) h fun v142 h =>
    (wg v139 false (wi F L (.bin .neq (.c v142) (.c (.int .u8 45))) E0 h) h fun v143 h =>
    (wi F L (.pick (.c v139) (.c (.bool true)) (.c v143)) E0 h fun v144 h =>
    (wg v144 false (wi F L (.mv (.c v136)) E0 h) h fun v146 h =>
    (wg v144 false (wi F L (.ixStr (.c v146) (.c (.int .i64 8))) E0 h) h fun v147 h =>
    (wg v144 false (wi F L (.bin .neq (.c v147) (.c (.int .u8 45))) E0 h) h fun v148 h =>
    (wi F L (.pick (.c v144) (.c (.bool true)) (.c v148)) E0 h fun v149 h =>
    (wg v149 false (wi F L (.mv (.c v136)) E0 h) h fun v151 h =>
    (wg v149 false (wi F L (.ixStr (.c v151) (.c (.int .i64 11))) E0 h) h fun v152 h =>
    (wg v149 false (wi F L (.bin .neq (.c v152) (.c (.int .u8 32))) E0 h) h fun v153 h =>
    (wi F L (.pick (.c v149) (.c (.bool true)) (.c v153)) E0 h fun v154 h =>
    (wg v154 false (wi F L (.mv (.c v136)) E0 h) h fun v156 h =>
    (wg v154 false (wi F L (.slstr (.c v156) (some (.c (.int .i64 20))) none) E0 h) h fun v157 h =>
    (wg v154 false (wi F L (.bin .neq (.c v157) (.c (.str [32, 71, 77, 84]))) E0 h) h fun v158 h =>
    (wi F L (.pick (.c v154) (.c (.bool true)) (.c v158)) E0 h fun v159 h =>
    (wb v159
    (∃ v, resultsV h (enterE [(.int .i64 0), (.bool false)]) [.tmp 0, .tmp 1] = some v ∧ K v h)
    (k_gatepostref02_Parse_6 L K N0 (upd (upd (upd (upd (upd (upd (upd (upd (upd (upd (upd (upd (upd (upd (upd (upd (upd (upd (upd (upd (upd (upd (upd (upd (upd (upd (upd e 134 v0) 135 v7) 136 v136) 8 v136) 137 v136) 138 v138) 139 v139) 140 v139) 141 v141) 142 v142) 143 v143) 144 v144) 145 v144) 146 v146) 147 v147) 148 v148) 149 v149) 150 v149) 151 v151) 152 v152) 153 v153) 154 v154) 155 v154) 156 v156) 157 v157) 158 v158) 159 v159) v6 v136 h)))))))))))))))))))))
def k_gatepostref02_Parse_3 (L : FuncId → List V → V → Prop) (K : V → Heap → Prop) (N0 : Env → Heap → Prop) (e : Env) (v0 v5 v6 : V) (h : Heap) : Prop :=
    (wi F L (.ixaSl 1 (.c v5) (.c v6)) E0 h fun v116 h =>
    (wi F L (.load false 1 (.c v116)) E0 h fun v117 h =>
    (wi F L (.len 0 (.c v117)) E0 h fun v118 h =>
    (wi F L (.len 0 (.c v0)) E0 h fun v120 h' => Ext h h' ∧
    (wi F L (.bin .add (.c v118) (.c (.int .i64 24))) E0 h' fun v122 h => Ext h' h ∧
    (wi F L (.bin .neq (.c v120) (.c v122)) E0 h fun v123 h' => Ext h h' ∧
    (wgd v123 false (wi F L (.mv (.c v0)) E0 h') h' fun v125 h =>
    (wgd v123 false (wi F L (.mv (.c v118)) E0 h) h fun v126 h' =>
    (wgd v123 false (wi F L (.slstr (.c v125) none (some (.c v126))) E0 h') h' fun v127 h =>
    (wgd v123 false (wi F L (.mv (.c v5)) E0 h) h fun v128 h' =>
    (wgd v123 false (wi F L (.mv (.c v6)) E0 h') h' fun v129 h =>
    (wgd v123 false (wi F L (.ixaSl 1 (.c v128) (.c v129)) E0 h) h fun v130 h' =>
    (wgd v123 false (wi F L (.load false 1 (.c v130)) E0 h') h' fun v131 h =>
    (wg v123 false (wi F L (.bin .neq (.c v127) (.c v131)) E0 h) h fun v132 h =>
    (wi F L (.pick (.c v123) (.c (.bool true)) (.c v132)) E0 h fun v133 h =>
    (wb v133
    (k_gatepostref02_Parse_4 L K N0 (upd (upd (upd (upd (upd (upd (upd (upd (upd (upd (upd (upd (upd (upd (upd (upd (upd (upd (upd (upd (upd e 114 v5) 115 v6) 116 v116) 117 v117) 118 v118) 7 v118) 119 v0) 120 v120) 121 v118) 122 v122) 123 v123) 124 v123) 125 v125) 126 v126) 127 v127) 128 v128) 129 v129) 130 v130) 131 v131) 132 v132) 133 v133) v6 h)
    (k_gatepostref02_Parse_5 L K N0 (upd (upd (upd (upd (upd (upd (upd (upd (upd (upd (upd (upd (upd (upd (upd (upd (upd (upd (upd (upd (upd e 114 v5) 115 v6) 116 v116) 117 v117) 118 v118) 7 v118) 119 v0) 120 v120) 121 v118) 122 v122) 123 v123) 124 v123) 125 v125) 126 v126) 127 v127) 128 v128) 129 v129) 130 v130) 131 v131) 132 v132) 133 v133) v0 v6 v118 h)))))))))))))))))
def q_gatepostref02_Parse_0 (L : FuncId → List V → V → Prop) (K : V → Heap → Prop) : X → Env → Heap → Prop := (fun x => (seqX (fun e h => k_gatepostref02_Parse_2 L K  h) (retX c_gatepostref02_Parse.results K)) (X.out 0 x))
def lc_gatepostref02_Parse_0 : C :=
  (.seq (.seq (.region [⟨(some 110), none, .mv (.t 6)⟩, ⟨(some 111), none, .bin .lss (.t 110) (.c (.int .i64 7))⟩])
  (.cond (.t 111)
    .skip
    (.exit 0)))
  (.seq (.block 1 (.seq (.region [⟨(some 114), none, .mv (.t 5)⟩, ⟨(some 115), none, .mv (.t 6)⟩, ⟨(some 116), none, .ixaSl 1 (.t 114) (.t 115)⟩, ⟨(some 117), none, .load false 1 (.t 116)⟩, ⟨(some 118), none, .len 0 (.t 117)⟩, ⟨(some 7), none, .mv (.t 118)⟩])
  (.seq (.seq (.dregion [⟨(some 119), none, .mv (.t 0)⟩, ⟨(some 120), none, .len 0 (.t 119)⟩, ⟨(some 121), none, .mv (.t 7)⟩, ⟨(some 122), none, .bin .add (.t 121) (.c (.int .i64 24))⟩, ⟨(some 123), none, .bin .neq (.t 120) (.t 122)⟩, ⟨(some 124), none, .mv (.t 123)⟩, ⟨(some 125), (some (124, false)), .mv (.t 0)⟩, ⟨(some 126), (some (124, false)), .mv (.t 7)⟩, ⟨(some 127), (some (124, false)), .slstr (.t 125) none (some (.t 126))⟩, ⟨(some 128), (some (124, false)), .mv (.t 5)⟩, ⟨(some 129), (some (124, false)), .mv (.t 6)⟩, ⟨(some 130), (some (124, false)), .ixaSl 1 (.t 128) (.t 129)⟩, ⟨(some 131), (some (124, false)), .load false 1 (.t 130)⟩] [⟨(some 132), (some (124, false)), .bin .neq (.t 127) (.t 131)⟩, ⟨(some 133), none, .pick (.t 124) (.c (.bool true)) (.t 132)⟩])
  (.cond (.t 133)
    (.exit 1)
    .skip))
  (.seq (.region [⟨(some 134), none, .mv (.t 0)⟩, ⟨(some 135), none, .mv (.t 7)⟩, ⟨(some 136), none, .slstr (.t 134) (some (.t 135)) none⟩, ⟨(some 8), none, .mv (.t 136)⟩])
  (.seq (.seq (.region [⟨(some 137), none, .mv (.t 8)⟩, ⟨(some 138), none, .slstr (.t 137) none (some (.c (.int .i64 2)))⟩, ⟨(some 139), none, .bin .neq (.t 138) (.c (.str [44, 32]))⟩, ⟨(some 140), none, .mv (.t 139)⟩, ⟨(some 141), (some (140, false)), .mv (.t 8)⟩, ⟨(some 142), (some (140, false)), .ixStr (.t 141) (.c (.int .i64 4))⟩, ⟨(some 143), (some (140, false)), .bin .neq (.t 142) (.c (.int .u8 45))⟩, ⟨(some 144), none, .pick (.t 140) (.c (.bool true)) (.t 143)⟩, ⟨(some 145), none, .mv (.t 144)⟩, ⟨(some 146), (some (145, false)), .mv (.t 8)⟩, ⟨(some 147), (some (145, false)), .ixStr (.t 146) (.c (.int .i64 8))⟩, ⟨(some 148), (some (145, false)), .bin .neq (.t 147) (.c (.int .u8 45))⟩, ⟨(some 149), none, .pick (.t 145) (.c (.bool true)) (.t 148)⟩, ⟨(some 150), none, .mv (.t 149)⟩, ⟨(some 151), (some (150, false)), .mv (.t 8)⟩, ⟨(some 152), (some (150, false)), .ixStr (.t 151) (.c (.int .i64 11))⟩, ⟨(some 153), (some (150, false)), .bin .neq (.t 152) (.c (.int .u8 32))⟩, ⟨(some 154), none, .pick (.t 150) (.c (.bool true)) (.t 153)⟩, ⟨(some 155), none, .mv (.t 154)⟩, ⟨(some 156), (some (155, false)), .mv (.t 8)⟩, ⟨(some 157), (some (155, false)), .slstr (.t 156) (some (.c (.int .i64 20))) none⟩, ⟨(some 158), (some (155, false)), .bin .neq (.t 157) (.c (.str [32, 71, 77, 84]))⟩, ⟨(some 159), none, .pick (.t 155) (.c (.bool true)) (.t 158)⟩])
  (.cond (.t 159)
    (.seq (.region [⟨(some 2), none, .mv (.c (.int .i64 0))⟩, ⟨(some 3), none, .mv (.c (.bool false))⟩])
    .ret)
    .skip))
  (.seq (.region [⟨(some 160), none, .mv (.t 8)⟩, ⟨(some 161), none, .slstr (.t 160) (some (.c (.int .i64 9))) (some (.c (.int .i64 11)))⟩, ⟨(some 162), none, .call i_gatepostref02_number [(.t 161)]⟩, ⟨(some 9), none, .mv (.t 162)⟩])
  (.seq (.seq (.region [⟨(some 163), none, .mv (.t 9)⟩, ⟨(some 164), none, .bin .geq (.t 163) (.c (.int .i64 70))⟩])
  (.cond (.t 164)
    (.region [⟨(some 165), none, .mv (.t 9)⟩, ⟨(some 166), none, .bin .add (.t 165) (.c (.int .i64 1900))⟩, ⟨(some 9), none, .mv (.t 166)⟩])
    (.seq (.region [⟨(some 167), none, .mv (.t 9)⟩, ⟨(some 168), none, .bin .geq (.t 167) (.c (.int .i64 0))⟩])
    (.cond (.t 168)
      (.region [⟨(some 169), none, .mv (.t 9)⟩, ⟨(some 170), none, .bin .add (.t 169) (.c (.int .i64 2000))⟩, ⟨(some 9), none, .mv (.t 170)⟩])
      .skip))))
  (.seq (.dregion [⟨(some 171), none, .mv (.t 6)⟩, ⟨(some 172), none, .mv (.t 9)⟩, ⟨(some 173), none, .call i_gatepostref02_months []⟩, ⟨(some 174), none, .mv (.t 8)⟩, ⟨(some 175), none, .slstr (.t 174) (some (.c (.int .i64 5))) (some (.c (.int .i64 8)))⟩, ⟨(some 176), none, .call i_gatepostref02_find [(.t 173), (.t 175)]⟩, ⟨(some 177), none, .bin .add (.t 176) (.c (.int .i64 1))⟩, ⟨(some 178), none, .mv (.t 8)⟩, ⟨(some 179), none, .slstr (.t 178) (some (.c (.int .i64 2))) (some (.c (.int .i64 4)))⟩, ⟨(some 180), none, .call i_gatepostref02_number [(.t 179)]⟩, ⟨(some 181), none, .mv (.t 8)⟩, ⟨(some 182), none, .slstr (.t 181) (some (.c (.int .i64 12))) (some (.c (.int .i64 20)))⟩, ⟨(some 183), none, .call i_gatepostref02_clock [(.t 182)]⟩, ⟨(some 184), none, .call i_gatepostref02_second [(.t 171), (.t 172), (.t 177), (.t 180), (.t 183)]⟩, ⟨(some 185), none, .ext 0 (.t 184)⟩, ⟨(some 186), none, .ext 1 (.t 184)⟩] [⟨(some 2), none, .mv (.t 185)⟩, ⟨(some 3), none, .mv (.t 186)⟩])
  .ret))))))))
  (.region [⟨(some 112), none, .mv (.t 6)⟩, ⟨(some 113), none, .bin .add (.t 112) (.c (.int .i64 1))⟩, ⟨(some 6), none, .mv (.t 113)⟩])))
def b_gatepostref02_Parse_0 (L : FuncId → List V → V → Prop) (K : V → Heap → Prop) (N0 : Env → Heap → Prop) (e : Env) (h : Heap) : Prop :=
    (wi F L (.bin .lss (.c (e 6)) (.c (.int .i64 7))) E0 h fun v111 h =>
    (wb v111
    (k_gatepostref02_Parse_3 L K N0 (upd (upd e 110 (e 6)) 111 v111) (e 0) (e 5) (e 6) h)
    (k_gatepostref02_Parse_2 L K  h)))
theorem l_gatepostref02_Parse_0 {L : FuncId → List V → V → Prop} {K : V → Heap → Prop} (I : Nat → Env → Heap → Prop) (hr : ∀ n e h, I n e h → b_gatepostref02_Parse_0 L K (fun e' h' => ∃ m, m < n ∧ I m e' h') e h) {n : Nat} {e : Env} {h : Heap} (hi : I n e h) : Wl F L lc_gatepostref02_Parse_0 (q_gatepostref02_Parse_0 L K) e h :=
  wloopp (b := b_gatepostref02_Parse_0 L K) I (fun _ _ _ => by kernel_rfl) hr hi
def k_gatepostref02_Parse_1 (L : FuncId → List V → V → Prop) (K : V → Heap → Prop) (e : Env) (h : Heap) : Prop :=
    (wi F L (.bsl 1 [(.c (.str [77, 111, 110, 100, 97, 121])), (.c (.str [84, 117, 101, 115, 100, 97, 121])), (.c (.str [87, 101, 100, 110, 101, 115, 100, 97, 121])), (.c (.str [84, 104, 117, 114, 115, 100, 97, 121])), (.c (.str [70, 114, 105, 100, 97, 121])), (.c (.str [83, 97, 116, 117, 114, 100, 97, 121])), (.c (.str [83, 117, 110, 100, 97, 121]))]) E0 h fun v109 h =>
    (Wl F L lc_gatepostref02_Parse_0 (q_gatepostref02_Parse_0 L K) (upd (upd (upd e 109 v109) 5 v109) 6 (.int .i64 0)) h))
def k_gatepostref02_Parse_8 (L : FuncId → List V → V → Prop) (K : V → Heap → Prop) (e : Env) (v0 v4 : V) (h : Heap) : Prop :=
    (wi F L (.call i_gatepostref02_short []) E0 h fun v89 h' => Ext h h' ∧
    (wi F L (.slstr (.c v0) none (some (.c (.int .i64 3)))) E0 h' fun v91 h => Ext h' h ∧
    (wi F L (.call i_gatepostref02_find [(.c v89), (.c v91)]) E0 h fun v92 h' => Ext h h' ∧
    (wi F L (.slstr (.c v0) (some (.c (.int .i64 20))) none) E0 h' fun v94 h => Ext h' h ∧
    (wi F L (.call i_gatepostref02_number [(.c v94)]) E0 h fun v95 h' => Ext h h' ∧
    (wi F L (.call i_gatepostref02_months []) E0 h' fun v96 h => Ext h' h ∧
    (wi F L (.slstr (.c v0) (some (.c (.int .i64 4))) (some (.c (.int .i64 7)))) E0 h fun v98 h' => Ext h h' ∧
    (wi F L (.call i_gatepostref02_find [(.c v96), (.c v98)]) E0 h' fun v99 h => Ext h' h ∧
    (wi F L (.bin .add (.c v99) (.c (.int .i64 1))) E0 h fun v100 h' => Ext h h' ∧
    (wi F L (.call i_gatepostref02_number [(.c v4)]) E0 h' fun v102 h => Ext h' h ∧
    (wi F L (.slstr (.c v0) (some (.c (.int .i64 11))) (some (.c (.int .i64 19)))) E0 h fun v104 h' => Ext h h' ∧
    (wi F L (.call i_gatepostref02_clock [(.c v104)]) E0 h' fun v105 h => Ext h' h ∧
    (wi F L (.call i_gatepostref02_second [(.c v92), (.c v95), (.c v100), (.c v102), (.c v105)]) E0 h fun v106 h' => Ext h h' ∧
    (wi F L (.ext 0 (.c v106)) E0 h' fun v107 h => Ext h' h ∧
    (wi F L (.ext 1 (.c v106)) E0 h fun v108 h' => Ext h h' ∧
    (∃ v, resultsV h' (enterE [v107, v108]) [.tmp 0, .tmp 1] = some v ∧ K v h'))))))))))))))))
def k_gatepostref02_Parse_0 (L : FuncId → List V → V → Prop) (K : V → Heap → Prop) (e : Env) (v0 : V) (h : Heap) : Prop :=
    (wi F L (.len 0 (.c v0)) E0 h fun v60 h =>
    (wi F L (.bin .eql (.c v60) (.c (.int .i64 24))) E0 h fun v61 h =>
    (wg v61 true (wi F L (.mv (.c v0)) E0 h) h fun v63 h =>
    (wg v61 true (wi F L (.ixStr (.c v63) (.c (.int .i64 3))) E0 h) h fun v64 h =>
    (wg v61 true (wi F L (.bin .eql (.c v64) (.c (.int .u8 32))) E0 h) h fun v65 h =>
    (wi F L (.pick (.c v61) (.c v65) (.c (.bool false))) E0 h fun v66 h =>
    (wg v66 true (wi F L (.mv (.c v0)) E0 h) h fun v68 h =>
    (wg v66 true (wi F L (.ixStr (.c v68) (.c (.int .i64 7))) E0 h) h fun v69 h =>
    (wg v66 true (wi F L (.bin .eql (.c v69) (.c (.int .u8 32))) E0 h) h fun v70 h =>
    (wi F L (.pick (.c v66) (.c v70) (.c (.bool false))) E0 h fun v71 h =>
    (wg v71 true (wi F L (.mv (.c v0)) E0 h) h fun v73 h =>
    (wg v71 true (wi F L (.ixStr (.c v73) (.c (.int .i64 10))) E0 h) h fun v74 h =>
    (wg v71 true (wi F L (.bin .eql (.c v74) (.c (.int .u8 32))) E0 h) h fun v75 h =>
    (wi F L (.pick (.c v71) (.c v75) (.c (.bool false))) E0 h fun v76 h =>
    (wg v76 true (wi F L (.mv (.c v0)) E0 h) h fun v78 h =>
    (wg v76 true (wi F L (.ixStr (.c v78) (.c (.int .i64 19))) E0 h) h fun v79 h =>
    (wg v76 true (wi F L (.bin .eql (.c v79) (.c (.int .u8 32))) E0 h) h fun v80 h =>
    (wi F L (.pick (.c v76) (.c v80) (.c (.bool false))) E0 h fun v81 h =>
    (wb v81
    (wi F L (.slstr (.c v0) (some (.c (.int .i64 8))) (some (.c (.int .i64 10)))) E0 h fun v83 h =>
    (wi F L (.ixStr (.c v83) (.c (.int .i64 0))) E0 h fun v85 h =>
    (wi F L (.bin .eql (.c v85) (.c (.int .u8 32))) E0 h fun v86 h =>
    (wb v86
    (wi F L (.slstr (.c v83) (some (.c (.int .i64 1))) none) E0 h fun v88 h =>
    (k_gatepostref02_Parse_8 L K (upd (upd (upd (upd (upd (upd (upd (upd (upd (upd (upd (upd (upd (upd (upd (upd (upd (upd (upd (upd (upd (upd (upd (upd (upd (upd (upd (upd (upd (upd (upd (upd e 59 v0) 60 v60) 61 v61) 62 v61) 63 v63) 64 v64) 65 v65) 66 v66) 67 v66) 68 v68) 69 v69) 70 v70) 71 v71) 72 v71) 73 v73) 74 v74) 75 v75) 76 v76) 77 v76) 78 v78) 79 v79) 80 v80) 81 v81) 82 v0) 83 v83) 4 v83) 84 v83) 85 v85) 86 v86) 87 v83) 88 v88) 4 v88) v0 v88 h))
    (k_gatepostref02_Parse_8 L K (upd (upd (upd (upd (upd (upd (upd (upd (upd (upd (upd (upd (upd (upd (upd (upd (upd (upd (upd (upd (upd (upd (upd (upd (upd (upd (upd (upd (upd e 59 v0) 60 v60) 61 v61) 62 v61) 63 v63) 64 v64) 65 v65) 66 v66) 67 v66) 68 v68) 69 v69) 70 v70) 71 v71) 72 v71) 73 v73) 74 v74) 75 v75) 76 v76) 77 v76) 78 v78) 79 v79) 80 v80) 81 v81) 82 v0) 83 v83) 4 v83) 84 v83) 85 v85) 86 v86) v0 v83 h)))))
    (k_gatepostref02_Parse_1 L K (upd (upd (upd (upd (upd (upd (upd (upd (upd (upd (upd (upd (upd (upd (upd (upd (upd (upd (upd (upd (upd (upd (upd e 59 v0) 60 v60) 61 v61) 62 v61) 63 v63) 64 v64) 65 v65) 66 v66) 67 v66) 68 v68) 69 v69) 70 v70) 71 v71) 72 v71) 73 v73) 74 v74) 75 v75) 76 v76) 77 v76) 78 v78) 79 v79) 80 v80) 81 v81)  h))))))))))))))))))))
def p_gatepostref02_Parse (L : FuncId → List V → V → Prop) (K : V → Heap → Prop) (a0 : V) (h : Heap) : Prop :=
    (wi F L (.len 0 (.c a0)) E0 h fun v11 h =>
    (wi F L (.bin .eql (.c v11) (.c (.int .i64 29))) E0 h fun v12 h =>
    (wg v12 true (wi F L (.mv (.c a0)) E0 h) h fun v14 h =>
    (wg v12 true (wi F L (.slstr (.c v14) (some (.c (.int .i64 3))) (some (.c (.int .i64 5)))) E0 h) h fun v15 h =>
    (wg v12 true (wi F L (.bin .eql (.c v15) (.c (.str [44, 32]))) E0 h) h fun v16 h =>
    (wi F L (.pick (.c v12) (.c v16) (.c (.bool false))) E0 h fun v17 h =>
    (wg v17 true (wi F L (.mv (.c a0)) E0 h) h fun v19 h =>
    (wg v17 true (wi F L (.ixStr (.c v19) (.c (.int .i64 7))) E0 h) h fun v20 h =>
    (wg v17 true (wi F L (.bin .eql (.c v20) (.c (.int .u8 32))) E0 h) h fun v21 h =>
    (wi F L (.pick (.c v17) (.c v21) (.c (.bool false))) E0 h fun v22 h =>
    (wg v22 true (wi F L (.mv (.c a0)) E0 h) h fun v24 h =>
    (wg v22 true (wi F L (.ixStr (.c v24) (.c (.int .i64 11))) E0 h) h fun v25 h =>
    (wg v22 true (wi F L (.bin .eql (.c v25) (.c (.int .u8 32))) E0 h) h fun v26 h =>
    (wi F L (.pick (.c v22) (.c v26) (.c (.bool false))) E0 h fun v27 h =>
    (wg v27 true (wi F L (.mv (.c a0)) E0 h) h fun v29 h =>
    (wg v27 true (wi F L (.ixStr (.c v29) (.c (.int .i64 16))) E0 h) h fun v30 h =>
    (wg v27 true (wi F L (.bin .eql (.c v30) (.c (.int .u8 32))) E0 h) h fun v31 h =>
    (wi F L (.pick (.c v27) (.c v31) (.c (.bool false))) E0 h fun v32 h =>
    (wg v32 true (wi F L (.mv (.c a0)) E0 h) h fun v34 h =>
    (wg v32 true (wi F L (.slstr (.c v34) (some (.c (.int .i64 25))) none) E0 h) h fun v35 h =>
    (wg v32 true (wi F L (.bin .eql (.c v35) (.c (.str [32, 71, 77, 84]))) E0 h) h fun v36 h =>
    (wi F L (.pick (.c v32) (.c v36) (.c (.bool false))) E0 h fun v37 h =>
    (wb v37
    (wi F L (.call i_gatepostref02_short []) E0 h fun v38 h' => Ext h h' ∧
    (wi F L (.slstr (.c a0) none (some (.c (.int .i64 3)))) E0 h' fun v40 h => Ext h' h ∧
    (wi F L (.call i_gatepostref02_find [(.c v38), (.c v40)]) E0 h fun v41 h' => Ext h h' ∧
    (wi F L (.slstr (.c a0) (some (.c (.int .i64 12))) (some (.c (.int .i64 16)))) E0 h' fun v43 h => Ext h' h ∧
    (wi F L (.call i_gatepostref02_number [(.c v43)]) E0 h fun v44 h' => Ext h h' ∧
    (wi F L (.call i_gatepostref02_months []) E0 h' fun v45 h => Ext h' h ∧
    (wi F L (.slstr (.c a0) (some (.c (.int .i64 8))) (some (.c (.int .i64 11)))) E0 h fun v47 h' => Ext h h' ∧
    (wi F L (.call i_gatepostref02_find [(.c v45), (.c v47)]) E0 h' fun v48 h => Ext h' h ∧
    (wi F L (.bin .add (.c v48) (.c (.int .i64 1))) E0 h fun v49 h' => Ext h h' ∧
    (wi F L (.slstr (.c a0) (some (.c (.int .i64 5))) (some (.c (.int .i64 7)))) E0 h' fun v51 h => Ext h' h ∧
    (wi F L (.call i_gatepostref02_number [(.c v51)]) E0 h fun v52 h' => Ext h h' ∧
    (wi F L (.slstr (.c a0) (some (.c (.int .i64 17))) (some (.c (.int .i64 25)))) E0 h' fun v54 h => Ext h' h ∧
    (wi F L (.call i_gatepostref02_clock [(.c v54)]) E0 h fun v55 h' => Ext h h' ∧
    (wi F L (.call i_gatepostref02_second [(.c v41), (.c v44), (.c v49), (.c v52), (.c v55)]) E0 h' fun v56 h => Ext h' h ∧
    (wi F L (.ext 0 (.c v56)) E0 h fun v57 h' => Ext h h' ∧
    (wi F L (.ext 1 (.c v56)) E0 h' fun v58 h => Ext h' h ∧
    (∃ v, resultsV h (enterE [v57, v58]) [.tmp 0, .tmp 1] = some v ∧ K v h)))))))))))))))))
    (k_gatepostref02_Parse_0 L K (upd (upd (upd (upd (upd (upd (upd (upd (upd (upd (upd (upd (upd (upd (upd (upd (upd (upd (upd (upd (upd (upd (upd (upd (upd (upd (upd (upd (upd (upd (enterE [a0]) 2 (.int .i64 0)) 3 (.bool false)) 10 a0) 11 v11) 12 v12) 13 v12) 14 v14) 15 v15) 16 v16) 17 v17) 18 v17) 19 v19) 20 v20) 21 v21) 22 v22) 23 v22) 24 v24) 25 v25) 26 v26) 27 v27) 28 v27) 29 v29) 30 v30) 31 v31) 32 v32) 33 v32) 34 v34) 35 v35) 36 v36) 37 v37) a0 h))))))))))))))))))))))))
theorem run_gatepostref02_Parse {L : FuncId → List V → V → Prop} {K : V → Heap → Prop} {a0 : V} {h : Heap} (hp : p_gatepostref02_Parse L K a0 h) : Cf F L i_gatepostref02_Parse [a0] h K :=
  wcallp F_gatepostref02_Parse (show 1 ≤ 187 by decide) (p := p_gatepostref02_Parse L K a0 h) (by kernel_rfl) hp
def k_validator_Parse_1 (L : FuncId → List V → V → Prop) (K : V → Heap → Prop) (v2 v4 v5 : V) (h : Heap) : Prop :=
    (wi F L (.build [(.bool false), (.str [])] [(0, 1, (.c v4)), (1, 1, (.c v5))]) E0 h fun v58 h =>
    (wi F L (.store 2 (.c v2) (.c v58)) E0 h fun _ h =>
    (∃ v, resultsV h (enterE [v2, (.bool true)]) [.cell 0 true 2, .tmp 1] = some v ∧ K v h)))
def k_validator_Parse_3 (L : FuncId → List V → V → Prop) (K : V → Heap → Prop) (N0 : Env → Heap → Prop) (e : Env) (v34 : V) (h : Heap) : Prop :=
    (wi F L (.bin .add (.c v34) (.c (.int .i64 1))) E0 h fun v55 h =>
    (N0 (upd (upd e 55 v55) 34 v55) h))
def k_validator_Parse_2 (L : FuncId → List V → V → Prop) (K : V → Heap → Prop) (N0 : Env → Heap → Prop) (e : Env) (v2 v5 v34 : V) (h : Heap) : Prop :=
    (wi F L (.ixStr (.c v5) (.c v34)) E0 h fun v39 h =>
    (wi F L (.bin .leq (.c v39) (.c (.int .u8 32))) E0 h fun v41 h =>
    (wg v41 false (wi F L (.mv (.c v39)) E0 h) h fun v43 h =>
    (wg v41 false (wi F L (.bin .eql (.c v43) (.c (.int .u8 34))) E0 h) h fun v44 h =>
    (wi F L (.pick (.c v41) (.c (.bool true)) (.c v44)) E0 h fun v45 h =>
    (wg v45 false (wi F L (.mv (.c v39)) E0 h) h fun v47 h =>
    (wg v45 false (wi F L (.bin .eql (.c v47) (.c (.int .u8 92))) E0 h) h fun v48 h =>
    (wi F L (.pick (.c v45) (.c (.bool true)) (.c v48)) E0 h fun v49 h =>
    (wg v49 false (wi F L (.mv (.c v39)) E0 h) h fun v51 h =>
    (wg v49 false (wi F L (.bin .eql (.c v51) (.c (.int .u8 127))) E0 h) h fun v52 h =>
    (wi F L (.pick (.c v49) (.c (.bool true)) (.c v52)) E0 h fun v53 h =>
    (wb v53
    (wi F L (.build [(.bool false), (.str [])] []) E0 h fun v54 h =>
    (wi F L (.store 2 (.c v2) (.c v54)) E0 h fun _ h =>
    (∃ v, resultsV h (enterE [v2, (.bool false)]) [.cell 0 true 2, .tmp 1] = some v ∧ K v h)))
    (k_validator_Parse_3 L K N0 (upd (upd (upd (upd (upd (upd (upd (upd (upd (upd (upd (upd (upd (upd (upd (upd (upd (upd (upd (upd e 36 v34) 8 v34) 37 v5) 38 v34) 39 v39) 9 v39) 40 v39) 41 v41) 42 v41) 43 v43) 44 v44) 45 v45) 46 v45) 47 v47) 48 v48) 49 v49) 50 v49) 51 v51) 52 v52) 53 v53) v34 h)))))))))))))
def q_validator_Parse_0 (L : FuncId → List V → V → Prop) (K : V → Heap → Prop) : X → Env → Heap → Prop := (fun x => (seqX (fun e h => k_validator_Parse_1 L K (e 2) (e 4) (e 5) h) (retX c_validator_Parse.results K)) (X.out 0 x))
def lc_validator_Parse_0 : C :=
  (.seq (.region [⟨(some 35), none, .bin .lss (.t 34) (.t 33)⟩])
  (.seq (.cond (.t 35)
    .skip
    (.exit 0))
  (.seq (.block 1 (.seq (.region [⟨(some 36), none, .mv (.t 34)⟩, ⟨(some 8), none, .mv (.t 36)⟩])
  (.seq (.region [⟨(some 37), none, .mv (.t 5)⟩, ⟨(some 38), none, .mv (.t 8)⟩, ⟨(some 39), none, .ixStr (.t 37) (.t 38)⟩, ⟨(some 9), none, .mv (.t 39)⟩])
  (.seq (.region [⟨(some 40), none, .mv (.t 9)⟩, ⟨(some 41), none, .bin .leq (.t 40) (.c (.int .u8 32))⟩, ⟨(some 42), none, .mv (.t 41)⟩, ⟨(some 43), (some (42, false)), .mv (.t 9)⟩, ⟨(some 44), (some (42, false)), .bin .eql (.t 43) (.c (.int .u8 34))⟩, ⟨(some 45), none, .pick (.t 42) (.c (.bool true)) (.t 44)⟩, ⟨(some 46), none, .mv (.t 45)⟩, ⟨(some 47), (some (46, false)), .mv (.t 9)⟩, ⟨(some 48), (some (46, false)), .bin .eql (.t 47) (.c (.int .u8 92))⟩, ⟨(some 49), none, .pick (.t 46) (.c (.bool true)) (.t 48)⟩, ⟨(some 50), none, .mv (.t 49)⟩, ⟨(some 51), (some (50, false)), .mv (.t 9)⟩, ⟨(some 52), (some (50, false)), .bin .eql (.t 51) (.c (.int .u8 127))⟩, ⟨(some 53), none, .pick (.t 50) (.c (.bool true)) (.t 52)⟩])
  (.cond (.t 53)
    (.seq (.region [⟨(some 54), none, .build [(.bool false), (.str [])] []⟩, ⟨none, none, .store 2 (.t 2) (.t 54)⟩, ⟨(some 3), none, .mv (.c (.bool false))⟩])
    .ret)
    .skip)))))
  (.region [⟨(some 55), none, .bin .add (.t 34) (.c (.int .i64 1))⟩, ⟨(some 34), none, .mv (.t 55)⟩]))))
def b_validator_Parse_0 (L : FuncId → List V → V → Prop) (K : V → Heap → Prop) (N0 : Env → Heap → Prop) (e : Env) (h : Heap) : Prop :=
    (wi F L (.bin .lss (.c (e 34)) (.c (e 33))) E0 h fun v35 h =>
    (wb v35
    (k_validator_Parse_2 L K N0 (upd e 35 v35) (e 2) (e 5) (e 34) h)
    (k_validator_Parse_1 L K (e 2) (e 4) (e 5) h)))
theorem l_validator_Parse_0 {L : FuncId → List V → V → Prop} {K : V → Heap → Prop} (I : Nat → Env → Heap → Prop) (hr : ∀ n e h, I n e h → b_validator_Parse_0 L K (fun e' h' => ∃ m, m < n ∧ I m e' h') e h) {n : Nat} {e : Env} {h : Heap} (hi : I n e h) : Wl F L lc_validator_Parse_0 (q_validator_Parse_0 L K) e h :=
  wloopp (b := b_validator_Parse_0 L K) I (fun _ _ _ => by kernel_rfl) hr hi
def k_validator_Parse_0 (L : FuncId → List V → V → Prop) (K : V → Heap → Prop) (e : Env) (v5 : V) (h : Heap) : Prop :=
    (wi F L (.len 0 (.c v5)) E0 h fun v33 h =>
    (Wl F L lc_validator_Parse_0 (q_validator_Parse_0 L K) (upd (upd (upd e 32 v5) 33 v33) 34 (.int .i64 0)) h))
def p_validator_Parse (L : FuncId → List V → V → Prop) (K : V → Heap → Prop) (a0 : V) (h : Heap) : Prop :=
    (wi F L (.boxz [(.bool false), (.str [])]) E0 h fun v2 h =>
    (wi F L (.call i_strings_CutPrefix [(.c a0), (.c (.str [87, 47]))]) E0 h fun v12 h =>
    (wi F L (.ext 0 (.c v12)) E0 h fun v13 h =>
    (wi F L (.ext 1 (.c v12)) E0 h fun v14 h =>
    (wi F L (.call i_strings_CutPrefix [(.c v13), (.c (.str [34]))]) E0 h fun v17 h =>
    (wi F L (.ext 0 (.c v17)) E0 h fun v18 h =>
    (wi F L (.ext 1 (.c v17)) E0 h fun v19 h =>
    (wi F L (.call i_strings_CutSuffix [(.c v18), (.c (.str [34]))]) E0 h fun v22 h =>
    (wi F L (.ext 0 (.c v22)) E0 h fun v23 h =>
    (wi F L (.ext 1 (.c v22)) E0 h fun v24 h =>
    (wi F L (.un .not (.c v19)) E0 h fun v26 h =>
    (wg v26 false (wi F L (.mv (.c v24)) E0 h) h fun v28 h =>
    (wg v26 false (wi F L (.un .not (.c v28)) E0 h) h fun v29 h =>
    (wi F L (.pick (.c v26) (.c (.bool true)) (.c v29)) E0 h fun v30 h =>
    (wb v30
    (wi F L (.build [(.bool false), (.str [])] []) E0 h fun v31 h =>
    (wi F L (.store 2 (.c v2) (.c v31)) E0 h fun _ h =>
    (∃ v, resultsV h (enterE [v2, (.bool false)]) [.cell 0 true 2, .tmp 1] = some v ∧ K v h)))
    (k_validator_Parse_0 L K (upd (upd (upd (upd (upd (upd (upd (upd (upd (upd (upd (upd (upd (upd (upd (upd (upd (upd (upd (upd (upd (upd (upd (upd (upd (upd (upd (upd (upd (enterE [a0]) 2 v2) 3 (.bool false)) 11 a0) 12 v12) 10 v12) 13 v13) 14 v14) 0 v13) 4 v14) 16 v13) 17 v17) 15 v17) 18 v18) 19 v19) 5 v18) 6 v19) 21 v18) 22 v22) 20 v22) 23 v23) 24 v24) 5 v23) 7 v24) 25 v19) 26 v26) 27 v26) 28 v28) 29 v29) 30 v30) v23 h))))))))))))))))
theorem run_validator_Parse {L : FuncId → List V → V → Prop} {K : V → Heap → Prop} {a0 : V} {h : Heap} (hp : p_validator_Parse L K a0 h) : Cf F L i_validator_Parse [a0] h K :=
  wcallp F_validator_Parse (show 1 ≤ 59 by decide) (p := p_validator_Parse L K a0 h) (by kernel_rfl) hp
def p_validator_Strong (L : FuncId → List V → V → Prop) (K : V → Heap → Prop) (a0 a1 : V) (h : Heap) : Prop :=
    (wi F L (.box (.c a0)) E0 h fun v2 h =>
    (wi F L (.box (.c a1)) E0 h fun v3 h =>
    (wi F L (.load true 2 (.c v2)) E0 h fun v5 h =>
    (wi F L (.load true 2 (.c v3)) E0 h fun v6 h =>
    (wi F L (.eq (.agg [.b, .s]) false (.c v5) (.c v6)) E0 h fun v7 h =>
    (wg v7 true (wi F L (.faddr 0 (.c v2)) E0 h) h fun v9 h =>
    (wg v7 true (wi F L (.load false 1 (.c v9)) E0 h) h fun v10 h =>
    (wg v7 true (wi F L (.un .not (.c v10)) E0 h) h fun v11 h =>
    (wi F L (.pick (.c v7) (.c v11) (.c (.bool false))) E0 h fun v12 h =>
    (∃ v, some v12 = some v ∧ K v h))))))))))
theorem run_validator_Strong {L : FuncId → List V → V → Prop} {K : V → Heap → Prop} {a0 a1 : V} {h : Heap} (hp : p_validator_Strong L K a0 a1 h) : Cf F L i_validator_Strong [a0, a1] h K :=
  wcallp F_validator_Strong (show 2 ≤ 13 by decide) (p := p_validator_Strong L K a0 a1 h) (by kernel_rfl) hp
def k_date_Format_0 (L : FuncId → List V → V → Prop) (K : V → Heap → Prop) (v0 : V) (h : Heap) : Prop :=
    (wi F L (.bin .quo (.c v0) (.c (.int .i64 86400))) E0 h fun v16 h =>
    (wi F L (.bin .rem (.c v0) (.c (.int .i64 86400))) E0 h fun v18 h =>
    (wi F L (.call i_date_Civil [(.c v16)]) E0 h fun v21 h =>
    (wi F L (.ext 0 (.c v21)) E0 h fun v22 h =>
    (wi F L (.ext 1 (.c v21)) E0 h fun v23 h =>
    (wi F L (.ext 2 (.c v21)) E0 h fun v24 h =>
    (wi F L (.call i_date_longDays []) E0 h fun v25 h' => Ext h h' ∧
    (wi F L (.bin .add (.c v16) (.c (.int .i64 3))) E0 h' fun v27 h => Ext h' h ∧
    (wi F L (.bin .rem (.c v27) (.c (.int .i64 7))) E0 h fun v28 h' => Ext h h' ∧
    (wi F L (.ixArr 7 1 false (.c v25) (.c v28)) E0 h' fun v29 h => Ext h' h ∧
    (wi F L (.slstr (.c v29) none (some (.c (.int .i64 3)))) E0 h fun v30 h' => Ext h h' ∧
    (wi F L (.bin .add (.c v30) (.c (.str [44, 32]))) E0 h' fun v31 h => Ext h' h ∧
    (wi F L (.call i_date_pad [(.c v24), (.c (.int .i64 2))]) E0 h fun v33 h' => Ext h h' ∧
    (wi F L (.bin .add (.c v31) (.c v33)) E0 h' fun v34 h => Ext h' h ∧
    (wi F L (.bin .add (.c v34) (.c (.str [32]))) E0 h fun v35 h' => Ext h h' ∧
    (wi F L (.call i_date_monthNames []) E0 h' fun v36 h => Ext h' h ∧
    (wi F L (.bin .sub (.c v23) (.c (.int .i64 1))) E0 h fun v38 h' => Ext h h' ∧
    (wi F L (.ixArr 12 1 false (.c v36) (.c v38)) E0 h' fun v39 h => Ext h' h ∧
    (wi F L (.bin .add (.c v35) (.c v39)) E0 h fun v40 h' => Ext h h' ∧
    (wi F L (.bin .add (.c v40) (.c (.str [32]))) E0 h' fun v41 h => Ext h' h ∧
    (wi F L (.call i_date_pad [(.c v22), (.c (.int .i64 4))]) E0 h fun v43 h' => Ext h h' ∧
    (wi F L (.bin .add (.c v41) (.c v43)) E0 h' fun v44 h => Ext h' h ∧
    (wi F L (.bin .add (.c v44) (.c (.str [32]))) E0 h fun v45 h' => Ext h h' ∧
    (wi F L (.bin .quo (.c v18) (.c (.int .i64 3600))) E0 h' fun v47 h => Ext h' h ∧
    (wi F L (.call i_date_pad [(.c v47), (.c (.int .i64 2))]) E0 h fun v48 h' => Ext h h' ∧
    (wi F L (.bin .add (.c v45) (.c v48)) E0 h' fun v49 h => Ext h' h ∧
    (wi F L (.bin .add (.c v49) (.c (.str [58]))) E0 h fun v50 h' => Ext h h' ∧
    (wi F L (.bin .quo (.c v18) (.c (.int .i64 60))) E0 h' fun v52 h => Ext h' h ∧
    (wi F L (.bin .rem (.c v52) (.c (.int .i64 60))) E0 h fun v53 h' => Ext h h' ∧
    (wi F L (.call i_date_pad [(.c v53), (.c (.int .i64 2))]) E0 h' fun v54 h => Ext h' h ∧
    (wi F L (.bin .add (.c v50) (.c v54)) E0 h fun v55 h' => Ext h h' ∧
    (wi F L (.bin .add (.c v55) (.c (.str [58]))) E0 h' fun v56 h => Ext h' h ∧
    (wi F L (.bin .rem (.c v18) (.c (.int .i64 60))) E0 h fun v58 h' => Ext h h' ∧
    (wi F L (.call i_date_pad [(.c v58), (.c (.int .i64 2))]) E0 h' fun v59 h => Ext h' h ∧
    (wi F L (.bin .add (.c v56) (.c v59)) E0 h fun v60 h =>
    (wi F L (.bin .add (.c v60) (.c (.str [32, 71, 77, 84]))) E0 h fun v61 h =>
    (∃ v, some v61 = some v ∧ K v h)))))))))))))))))))))))))))))))))))))
def p_date_Format (L : FuncId → List V → V → Prop) (K : V → Heap → Prop) (a0 : V) (h : Heap) : Prop :=
    (wi F L (.bin .lss (.c a0) (.c (.int .i64 0))) E0 h fun v9 h =>
    (wg v9 false (wi F L (.mv (.c a0)) E0 h) h fun v11 h =>
    (wg v9 false (wi F L (.bin .quo (.c v11) (.c (.int .i64 86400))) E0 h) h fun v12 h =>
    (wg v9 false (wi F L (.bin .gtr (.c v12) (.c (.int .i64 2932896))) E0 h) h fun v13 h =>
    (wi F L (.pick (.c v9) (.c (.bool true)) (.c v13)) E0 h fun v14 h =>
    (wb v14
    (k_date_Format_0 L K (.int .i64 0) h)
    (k_date_Format_0 L K a0 h)))))))
theorem run_date_Format {L : FuncId → List V → V → Prop} {K : V → Heap → Prop} {a0 : V} {h : Heap} (hp : p_date_Format L K a0 h) : Cf F L i_date_Format [a0] h K :=
  wcallp F_date_Format (show 1 ≤ 62 by decide) (p := p_date_Format L K a0 h) (by kernel_rfl) hp
def k_gatepostref02_Format_0 (L : FuncId → List V → V → Prop) (K : V → Heap → Prop) (v0 : V) (h : Heap) : Prop :=
    (wi F L (.bin .quo (.c v0) (.c (.int .i64 86400))) E0 h fun v15 h =>
    (wi F L (.bin .rem (.c v0) (.c (.int .i64 86400))) E0 h fun v17 h =>
    (wi F L (.call i_gatepostref02_Civil [(.c v15)]) E0 h fun v20 h =>
    (wi F L (.ext 0 (.c v20)) E0 h fun v21 h =>
    (wi F L (.ext 1 (.c v20)) E0 h fun v22 h =>
    (wi F L (.ext 2 (.c v20)) E0 h fun v23 h =>
    (wi F L (.call i_gatepostref02_short []) E0 h fun v24 h' => Ext h h' ∧
    (wi F L (.bin .add (.c v15) (.c (.int .i64 3))) E0 h' fun v26 h => Ext h' h ∧
    (wi F L (.bin .rem (.c v26) (.c (.int .i64 7))) E0 h fun v27 h' => Ext h h' ∧
    (wi F L (.ixaSl 1 (.c v24) (.c v27)) E0 h' fun v28 h => Ext h' h ∧
    (wi F L (.load false 1 (.c v28)) E0 h fun v29 h' => Ext h h' ∧
    (wi F L (.bin .add (.c v29) (.c (.str [44, 32]))) E0 h' fun v30 h => Ext h' h ∧
    (wi F L (.call i_gatepostref02_two [(.c v23)]) E0 h fun v32 h' => Ext h h' ∧
    (wi F L (.bin .add (.c v30) (.c v32)) E0 h' fun v33 h => Ext h' h ∧
    (wi F L (.bin .add (.c v33) (.c (.str [32]))) E0 h fun v34 h' => Ext h h' ∧
    (wi F L (.call i_gatepostref02_months []) E0 h' fun v35 h => Ext h' h ∧
    (wi F L (.bin .sub (.c v22) (.c (.int .i64 1))) E0 h fun v37 h' => Ext h h' ∧
    (wi F L (.ixaSl 1 (.c v35) (.c v37)) E0 h' fun v38 h => Ext h' h ∧
    (wi F L (.load false 1 (.c v38)) E0 h fun v39 h' => Ext h h' ∧
    (wi F L (.bin .add (.c v34) (.c v39)) E0 h' fun v40 h => Ext h' h ∧
    (wi F L (.bin .add (.c v40) (.c (.str [32]))) E0 h fun v41 h' => Ext h h' ∧
    (wi F L (.bin .quo (.c v21) (.c (.int .i64 100))) E0 h' fun v43 h => Ext h' h ∧
    (wi F L (.call i_gatepostref02_two [(.c v43)]) E0 h fun v44 h' => Ext h h' ∧
    (wi F L (.bin .add (.c v41) (.c v44)) E0 h' fun v45 h => Ext h' h ∧
    (wi F L (.bin .rem (.c v21) (.c (.int .i64 100))) E0 h fun v47 h' => Ext h h' ∧
    (wi F L (.call i_gatepostref02_two [(.c v47)]) E0 h' fun v48 h => Ext h' h ∧
    (wi F L (.bin .add (.c v45) (.c v48)) E0 h fun v49 h' => Ext h h' ∧
    (wi F L (.bin .add (.c v49) (.c (.str [32]))) E0 h' fun v50 h => Ext h' h ∧
    (wi F L (.bin .quo (.c v17) (.c (.int .i64 3600))) E0 h fun v52 h' => Ext h h' ∧
    (wi F L (.call i_gatepostref02_two [(.c v52)]) E0 h' fun v53 h => Ext h' h ∧
    (wi F L (.bin .add (.c v50) (.c v53)) E0 h fun v54 h' => Ext h h' ∧
    (wi F L (.bin .add (.c v54) (.c (.str [58]))) E0 h' fun v55 h => Ext h' h ∧
    (wi F L (.bin .quo (.c v17) (.c (.int .i64 60))) E0 h fun v57 h' => Ext h h' ∧
    (wi F L (.bin .rem (.c v57) (.c (.int .i64 60))) E0 h' fun v58 h => Ext h' h ∧
    (wi F L (.call i_gatepostref02_two [(.c v58)]) E0 h fun v59 h' => Ext h h' ∧
    (wi F L (.bin .add (.c v55) (.c v59)) E0 h' fun v60 h => Ext h' h ∧
    (wi F L (.bin .add (.c v60) (.c (.str [58]))) E0 h fun v61 h' => Ext h h' ∧
    (wi F L (.bin .rem (.c v17) (.c (.int .i64 60))) E0 h' fun v63 h => Ext h' h ∧
    (wi F L (.call i_gatepostref02_two [(.c v63)]) E0 h fun v64 h' => Ext h h' ∧
    (wi F L (.bin .add (.c v61) (.c v64)) E0 h' fun v65 h =>
    (wi F L (.bin .add (.c v65) (.c (.str [32, 71, 77, 84]))) E0 h fun v66 h =>
    (∃ v, some v66 = some v ∧ K v h))))))))))))))))))))))))))))))))))))))))))
def p_gatepostref02_Format (L : FuncId → List V → V → Prop) (K : V → Heap → Prop) (a0 : V) (h : Heap) : Prop :=
    (wi F L (.bin .lss (.c a0) (.c (.int .i64 0))) E0 h fun v9 h =>
    (wg v9 false (wi F L (.mv (.c a0)) E0 h) h fun v11 h =>
    (wg v9 false (wi F L (.bin .geq (.c v11) (.c (.int .i64 253402300800))) E0 h) h fun v12 h =>
    (wi F L (.pick (.c v9) (.c (.bool true)) (.c v12)) E0 h fun v13 h =>
    (wb v13
    (k_gatepostref02_Format_0 L K (.int .i64 0) h)
    (k_gatepostref02_Format_0 L K a0 h))))))
theorem run_gatepostref02_Format {L : FuncId → List V → V → Prop} {K : V → Heap → Prop} {a0 : V} {h : Heap} (hp : p_gatepostref02_Format L K a0 h) : Cf F L i_gatepostref02_Format [a0] h K :=
  wcallp F_gatepostref02_Format (show 1 ≤ 67 by decide) (p := p_gatepostref02_Format L K a0 h) (by kernel_rfl) hp
def p_token_Same (L : FuncId → List V → V → Prop) (K : V → Heap → Prop) (a0 a1 : V) (h : Heap) : Prop :=
    (wi F L (.len 0 (.c a0)) E0 h fun v6 h =>
    (wi F L (.len 0 (.c a1)) E0 h fun v8 h =>
    (wi F L (.bin .eql (.c v6) (.c v8)) E0 h fun v9 h =>
    (wg v9 true (wi F L (.mv (.c a0)) E0 h) h fun v11 h =>
    (wg v9 true (wi F L (.call i_token_Lower [(.c v11)]) E0 h) h fun v12 h =>
    (wg v9 true (wi F L (.mv (.c a1)) E0 h) h fun v13 h =>
    (wg v9 true (wi F L (.call i_token_Lower [(.c v13)]) E0 h) h fun v14 h =>
    (wg v9 true (wi F L (.bin .eql (.c v12) (.c v14)) E0 h) h fun v15 h =>
    (wi F L (.pick (.c v9) (.c v15) (.c (.bool false))) E0 h fun v16 h =>
    (∃ v, some v16 = some v ∧ K v h))))))))))
theorem run_token_Same {L : FuncId → List V → V → Prop} {K : V → Heap → Prop} {a0 a1 : V} {h : Heap} (hp : p_token_Same L K a0 a1 h) : Cf F L i_token_Same [a0, a1] h K :=
  wcallp F_token_Same (show 2 ≤ 17 by decide) (p := p_token_Same L K a0 a1 h) (by kernel_rfl) hp
def k_token_Split_1 (L : FuncId → List V → V → Prop) (K : V → Heap → Prop) (v1 v4 v6 : V) (h : Heap) : Prop :=
    (wi F L (.load false 1 (.c v1)) E0 h fun v45 h =>
    (wi F L (.len 0 (.c v45)) E0 h fun v46 h =>
    (wi F L (.callv (.c v6) [(.c v46)]) E0 h fun v47 h =>
    (wi F L (.load false 1 (.c v4)) E0 h fun v48 h =>
    (wi F L (.load false 1 (.c v4)) E0 h fun v49 h =>
    (wi F L (.len 1 (.c v49)) E0 h fun v50 h =>
    (wi F L (.load false 1 (.c v4)) E0 h fun v51 h =>
    (wi F L (.len 1 (.c v51)) E0 h fun v52 h =>
    (wi F L (.slsl 1 (.c v48) none (some (.c v50)) (some (.c v52))) E0 h fun v53 h =>
    (∃ v, resultsV h (enterE [v53, (.bool true)]) [.tmp 0, .tmp 1] = some v ∧ K v h))))))))))
def k_token_Split_0 (L : FuncId → List V → V → Prop) (K : V → Heap → Prop) (v1 v4 v6 v7 : V) (h : Heap) : Prop :=
    (wb v7
    (∃ v, resultsV h (enterE [.nsl, (.bool false)]) [.tmp 0, .tmp 1] = some v ∧ K v h)
    (k_token_Split_1 L K v1 v4 v6 h))
def k_token_Split_3 (L : FuncId → List V → V → Prop) (K : V → Heap → Prop) (N0 : Env → Heap → Prop) (e : Env) (v8 : V) (h : Heap) : Prop :=
    (wi F L (.bin .add (.c v8) (.c (.int .i64 1))) E0 h fun v16 h =>
    (N0 (upd (upd (upd e 15 v8) 16 v16) 8 v16) h))
def k_token_Split_2 (L : FuncId → List V → V → Prop) (K : V → Heap → Prop) (N0 : Env → Heap → Prop) (e : Env) (v1 v6 v7 v8 : V) (h : Heap) : Prop :=
    (wi F L (.load false 1 (.c v1)) E0 h fun v17 h =>
    (wi F L (.ixStr (.c v17) (.c v8)) E0 h fun v19 h =>
    (wi F L (.bin .eql (.c v19) (.c (.int .u8 34))) E0 h fun v22 h =>
    (wb v22
    (wi F L (.un .not (.c v7)) E0 h fun v24 h =>
    (k_token_Split_3 L K N0 (upd (upd (upd (upd (upd (upd (upd (upd (upd (upd e 17 v17) 18 v8) 19 v19) 9 v19) 21 v19) 22 v22) 20 v22) 23 v7) 24 v24) 7 v24) v8 h))
    (wg v7 true (wi F L (.mv (.c v19)) E0 h) h fun v28 h =>
    (wg v7 true (wi F L (.bin .eql (.c v28) (.c (.int .u8 92))) E0 h) h fun v29 h =>
    (wi F L (.pick (.c v7) (.c v29) (.c (.bool false))) E0 h fun v30 h =>
    (wb v30
    (wi F L (.bin .add (.c v8) (.c (.int .i64 1))) E0 h fun v32 h =>
    (k_token_Split_3 L K N0 (upd (upd (upd (upd (upd (upd (upd (upd (upd (upd (upd (upd (upd (upd (upd (upd e 17 v17) 18 v8) 19 v19) 9 v19) 21 v19) 22 v22) 20 v22) 26 v7) 27 v7) 28 v28) 29 v29) 30 v30) 25 v30) 31 v8) 32 v32) 8 v32) v32 h))
    (wi F L (.un .not (.c v7)) E0 h fun v35 h =>
    (wg v35 true (wi F L (.mv (.c v19)) E0 h) h fun v37 h =>
    (wg v35 true (wi F L (.bin .eql (.c v37) (.c (.int .u8 44))) E0 h) h fun v38 h =>
    (wi F L (.pick (.c v35) (.c v38) (.c (.bool false))) E0 h fun v39 h =>
    (wb v39
    (wi F L (.callv (.c v6) [(.c v8)]) E0 h fun v42 h =>
    (k_token_Split_3 L K N0 (upd (upd (upd (upd (upd (upd (upd (upd (upd (upd (upd (upd (upd (upd (upd (upd (upd (upd (upd (upd (upd (upd (upd e 17 v17) 18 v8) 19 v19) 9 v19) 21 v19) 22 v22) 20 v22) 26 v7) 27 v7) 28 v28) 29 v29) 30 v30) 25 v30) 34 v7) 35 v35) 36 v35) 37 v37) 38 v38) 39 v39) 33 v39) 40 v6) 41 v8) 42 v42) v8 h))
    (k_token_Split_3 L K N0 (upd (upd (upd (upd (upd (upd (upd (upd (upd (upd (upd (upd (upd (upd (upd (upd (upd (upd (upd (upd e 17 v17) 18 v8) 19 v19) 9 v19) 21 v19) 22 v22) 20 v22) 26 v7) 27 v7) 28 v28) 29 v29) 30 v30) 25 v30) 34 v7) 35 v35) 36 v35) 37 v37) 38 v38) 39 v39) 33 v39) v8 h))))))))))))))
def q_token_Split_0 (L : FuncId → List V → V → Prop) (K : V → Heap → Prop) : X → Env → Heap → Prop := (fun x => (seqX (fun e h => k_token_Split_0 L K (e 1) (e 4) (e 6) (e 7) h) (retX c_token_Split.results K)) (X.out 0 x))
def lc_token_Split_0 : C :=
  (.seq (.seq (.region [⟨(some 11), none, .mv (.t 8)⟩, ⟨(some 12), none, .load false 1 (.t 1)⟩, ⟨(some 13), none, .len 0 (.t 12)⟩, ⟨(some 14), none, .bin .lss (.t 11) (.t 13)⟩])
  (.cond (.t 14)
    .skip
    (.exit 0)))
  (.seq (.block 1 (.seq (.region [⟨(some 17), none, .load false 1 (.t 1)⟩, ⟨(some 18), none, .mv (.t 8)⟩, ⟨(some 19), none, .ixStr (.t 17) (.t 18)⟩, ⟨(some 9), none, .mv (.t 19)⟩])
  (.block 2 (.seq (.region [⟨(some 21), none, .mv (.t 9)⟩, ⟨(some 22), none, .bin .eql (.t 21) (.c (.int .u8 34))⟩, ⟨(some 20), none, .mv (.t 22)⟩])
  (.cond (.t 20)
    (.region [⟨(some 23), none, .mv (.t 7)⟩, ⟨(some 24), none, .un .not (.t 23)⟩, ⟨(some 7), none, .mv (.t 24)⟩])
    (.seq (.region [⟨(some 26), none, .mv (.t 7)⟩, ⟨(some 27), none, .mv (.t 26)⟩, ⟨(some 28), (some (27, true)), .mv (.t 9)⟩, ⟨(some 29), (some (27, true)), .bin .eql (.t 28) (.c (.int .u8 92))⟩, ⟨(some 30), none, .pick (.t 27) (.t 29) (.c (.bool false))⟩, ⟨(some 25), none, .mv (.t 30)⟩])
    (.cond (.t 25)
      (.region [⟨(some 31), none, .mv (.t 8)⟩, ⟨(some 32), none, .bin .add (.t 31) (.c (.int .i64 1))⟩, ⟨(some 8), none, .mv (.t 32)⟩])
      (.seq (.region [⟨(some 34), none, .mv (.t 7)⟩, ⟨(some 35), none, .un .not (.t 34)⟩, ⟨(some 36), none, .mv (.t 35)⟩, ⟨(some 37), (some (36, true)), .mv (.t 9)⟩, ⟨(some 38), (some (36, true)), .bin .eql (.t 37) (.c (.int .u8 44))⟩, ⟨(some 39), none, .pick (.t 36) (.t 38) (.c (.bool false))⟩, ⟨(some 33), none, .mv (.t 39)⟩])
      (.cond (.t 33)
        (.region [⟨(some 40), none, .mv (.t 6)⟩, ⟨(some 41), none, .mv (.t 8)⟩, ⟨(some 42), none, .callv (.t 40) [(.t 41)]⟩])
        .skip)))))))))
  (.region [⟨(some 15), none, .mv (.t 8)⟩, ⟨(some 16), none, .bin .add (.t 15) (.c (.int .i64 1))⟩, ⟨(some 8), none, .mv (.t 16)⟩])))
def b_token_Split_0 (L : FuncId → List V → V → Prop) (K : V → Heap → Prop) (N0 : Env → Heap → Prop) (e : Env) (h : Heap) : Prop :=
    (wi F L (.load false 1 (.c (e 1))) E0 h fun v12 h =>
    (wi F L (.len 0 (.c v12)) E0 h fun v13 h =>
    (wi F L (.bin .lss (.c (e 8)) (.c v13)) E0 h fun v14 h =>
    (wb v14
    (k_token_Split_2 L K N0 (upd (upd (upd (upd e 11 (e 8)) 12 v12) 13 v13) 14 v14) (e 1) (e 6) (e 7) (e 8) h)
    (k_token_Split_0 L K (e 1) (e 4) (e 6) (e 7) h)))))
theorem l_token_Split_0 {L : FuncId → List V → V → Prop} {K : V → Heap → Prop} (I : Nat → Env → Heap → Prop) (hr : ∀ n e h, I n e h → b_token_Split_0 L K (fun e' h' => ∃ m, m < n ∧ I m e' h') e h) {n : Nat} {e : Env} {h : Heap} (hi : I n e h) : Wl F L lc_token_Split_0 (q_token_Split_0 L K) e h :=
  wloopp (b := b_token_Split_0 L K) I (fun _ _ _ => by kernel_rfl) hr hi
def p_token_Split (L : FuncId → List V → V → Prop) (K : V → Heap → Prop) (a0 : V) (h : Heap) : Prop :=
    (wi F L (.box (.c a0)) E0 h fun v1 h =>
    (wi F L (.boxz [.nsl]) E0 h fun v4 h =>
    (wi F L (.boxz [(.int .i64 0)]) E0 h fun v5 h =>
    (wi F L (.store 1 (.c v5) (.c (.int .i64 0))) E0 h fun _ h =>
    (wi F L (.mkfn i_token_Split_1 [(.c v1), (.c v5), (.c v4)]) E0 h fun v10 h =>
    (Wl F L lc_token_Split_0 (q_token_Split_0 L K) (upd (upd (upd (upd (upd (upd (upd (upd (upd (enterE [a0]) 1 v1) 2 .nsl) 3 (.bool false)) 4 v4) 5 v5) 10 v10) 6 v10) 7 (.bool false)) 8 (.int .i64 0)) h))))))
theorem run_token_Split {L : FuncId → List V → V → Prop} {K : V → Heap → Prop} {a0 : V} {h : Heap} (hp : p_token_Split L K a0 h) : Cf F L i_token_Split [a0] h K :=
  wcallp F_token_Split (show 1 ≤ 54 by decide) (p := p_token_Split L K a0 h) (by kernel_rfl) hp
def p_slices_ContainsFunc___string_string_ (L : FuncId → List V → V → Prop) (K : V → Heap → Prop) (a0 a1 : V) (h : Heap) : Prop :=
    (wi F L (.call i_slices_IndexFunc___string_string_ [(.c a0), (.c a1)]) E0 h fun v7 h =>
    (wi F L (.bin .geq (.c v7) (.c (.int .i64 0))) E0 h fun v8 h =>
    (∃ v, some v8 = some v ∧ K v h)))
theorem run_slices_ContainsFunc___string_string_ {L : FuncId → List V → V → Prop} {K : V → Heap → Prop} {a0 a1 : V} {h : Heap} (hp : p_slices_ContainsFunc___string_string_ L K a0 a1 h) : Cf F L i_slices_ContainsFunc___string_string_ [a0, a1] h K :=
  wcallp F_slices_ContainsFunc___string_string_ (show 2 ≤ 9 by decide) (p := p_slices_ContainsFunc___string_string_ L K a0 a1 h) (by kernel_rfl) hp
def p_validator_matches_1 (L : FuncId → List V → V → Prop) (K : V → Heap → Prop) (a0 a1 : V) (h : Heap) : Prop :=
    (wi F L (.call i_validator_Parse [(.c a0)]) E0 h fun v8 h =>
    (wi F L (.ext 0 (.c v8)) E0 h fun v9 h =>
    (wi F L (.ext 1 (.c v8)) E0 h fun v10 h =>
    (wi F L (.boxz [(.bool false), (.str [])]) E0 h fun v4 h =>
    (wi F L (.store 2 (.c v4) (.c v9)) E0 h fun _ h =>
    (wg v10 true (wi F L (.load true 2 (.c v4)) E0 h) h fun v13 h =>
    (wg v10 true (wi F L (.load true 2 (.c a1)) E0 h) h fun v14 h =>
    (wg v10 true (wi F L (.call i_validator_Weak [(.c v13), (.c v14)]) E0 h) h fun v15 h =>
    (wi F L (.pick (.c v10) (.c v15) (.c (.bool false))) E0 h fun v16 h =>
    (∃ v, some v16 = some v ∧ K v h))))))))))
theorem run_validator_matches_1 {L : FuncId → List V → V → Prop} {K : V → Heap → Prop} {a0 a1 : V} {h : Heap} (hp : p_validator_matches_1 L K a0 a1 h) : Cf F L i_validator_matches_1 [a0, a1] h K :=
  wcallp F_validator_matches_1 (show 2 ≤ 17 by decide) (p := p_validator_matches_1 L K a0 a1 h) (by kernel_rfl) hp
def p_validator_Weak (L : FuncId → List V → V → Prop) (K : V → Heap → Prop) (a0 a1 : V) (h : Heap) : Prop :=
    (wi F L (.box (.c a0)) E0 h fun v2 h =>
    (wi F L (.box (.c a1)) E0 h fun v3 h =>
    (wi F L (.faddr 1 (.c v2)) E0 h fun v5 h =>
    (wi F L (.load false 1 (.c v5)) E0 h fun v6 h =>
    (wi F L (.faddr 1 (.c v3)) E0 h fun v7 h =>
    (wi F L (.load false 1 (.c v7)) E0 h fun v8 h =>
    (wi F L (.bin .eql (.c v6) (.c v8)) E0 h fun v9 h =>
    (∃ v, some v9 = some v ∧ K v h))))))))
theorem run_validator_Weak {L : FuncId → List V → V → Prop} {K : V → Heap → Prop} {a0 a1 : V} {h : Heap} (hp : p_validator_Weak L K a0 a1 h) : Cf F L i_validator_Weak [a0, a1] h K :=
  wcallp F_validator_Weak (show 2 ≤ 10 by decide) (p := p_validator_Weak L K a0 a1 h) (by kernel_rfl) hp
def p_date_fixed (L : FuncId → List V → V → Prop) (K : V → Heap → Prop) (a0 : V) (h : Heap) : Prop :=
    (wi F L (.call i___gatepost_date_reader__day [(.c a0), (.c (.bool false))]) E0 h fun v10 h =>
    (wi F L (.call i___gatepost_date_reader__need [(.c a0), (.c (.str [44, 32]))]) E0 h fun v12 h =>
    (wi F L (.call i___gatepost_date_reader__number [(.c a0), (.c (.int .i64 2))]) E0 h fun v14 h =>
    (wi F L (.call i___gatepost_date_reader__need [(.c a0), (.c (.str [32]))]) E0 h fun v16 h =>
    (wi F L (.call i___gatepost_date_reader__month [(.c a0)]) E0 h fun v18 h =>
    (wi F L (.call i___gatepost_date_reader__need [(.c a0), (.c (.str [32]))]) E0 h fun v20 h =>
    (wi F L (.call i___gatepost_date_reader__number [(.c a0), (.c (.int .i64 4))]) E0 h fun v22 h =>
    (wi F L (.call i___gatepost_date_reader__need [(.c a0), (.c (.str [32]))]) E0 h fun v24 h =>
    (wi F L (.call i___gatepost_date_reader__clock [(.c a0)]) E0 h fun v26 h =>
    (wi F L (.call i___gatepost_date_reader__need [(.c a0), (.c (.str [32, 71, 77, 84]))]) E0 h fun v28 h =>
    (wi F L (.call i___gatepost_date_reader__second [(.c a0), (.c v10), (.c v22), (.c v18), (.c v14), (.c v26)]) E0 h fun v35 h =>
    (wi F L (.ext 0 (.c v35)) E0 h fun v36 h =>
    (wi F L (.ext 1 (.c v35)) E0 h fun v37 h =>
    (∃ v, resultsV h (enterE [v36, v37]) [.tmp 0, .tmp 1] = some v ∧ K v h))))))))))))))
theorem run_date_fixed {L : FuncId → List V → V → Prop} {K : V → Heap → Prop} {a0 : V} {h : Heap} (hp : p_date_fixed L K a0 h) : Cf F L i_date_fixed [a0] h K :=
  wcallp F_date_fixed (show 1 ≤ 38 by decide) (p := p_date_fixed L K a0 h) (by kernel_rfl) hp
def k_date_old_0 (L : FuncId → List V → V → Prop) (K : V → Heap → Prop) (v0 v4 v5 v6 v7 v8 : V) (h : Heap) : Prop :=
    (wi F L (.call i___gatepost_date_reader__second [(.c v0), (.c v4), (.c v7), (.c v6), (.c v5), (.c v8)]) E0 h fun v41 h =>
    (wi F L (.ext 0 (.c v41)) E0 h fun v42 h =>
    (wi F L (.ext 1 (.c v41)) E0 h fun v43 h =>
    (∃ v, resultsV h (enterE [v42, v43]) [.tmp 0, .tmp 1] = some v ∧ K v h))))
def p_date_old (L : FuncId → List V → V → Prop) (K : V → Heap → Prop) (a0 : V) (h : Heap) : Prop :=
    (wi F L (.call i___gatepost_date_reader__day [(.c a0), (.c (.bool true))]) E0 h fun v10 h =>
    (wi F L (.call i___gatepost_date_reader__need [(.c a0), (.c (.str [44, 32]))]) E0 h fun v12 h =>
    (wi F L (.call i___gatepost_date_reader__number [(.c a0), (.c (.int .i64 2))]) E0 h fun v14 h =>
    (wi F L (.call i___gatepost_date_reader__need [(.c a0), (.c (.str [45]))]) E0 h fun v16 h =>
    (wi F L (.call i___gatepost_date_reader__month [(.c a0)]) E0 h fun v18 h =>
    (wi F L (.call i___gatepost_date_reader__need [(.c a0), (.c (.str [45]))]) E0 h fun v20 h =>
    (wi F L (.call i___gatepost_date_reader__number [(.c a0), (.c (.int .i64 2))]) E0 h fun v22 h =>
    (wi F L (.call i___gatepost_date_reader__need [(.c a0), (.c (.str [32]))]) E0 h fun v24 h =>
    (wi F L (.call i___gatepost_date_reader__clock [(.c a0)]) E0 h fun v26 h =>
    (wi F L (.call i___gatepost_date_reader__need [(.c a0), (.c (.str [32, 71, 77, 84]))]) E0 h fun v28 h =>
    (wi F L (.bin .geq (.c v22) (.c (.int .i64 70))) E0 h fun v30 h =>
    (wb v30
    (wi F L (.bin .add (.c v22) (.c (.int .i64 1900))) E0 h fun v32 h =>
    (k_date_old_0 L K a0 v10 v14 v18 v32 v26 h))
    (wi F L (.bin .add (.c v22) (.c (.int .i64 2000))) E0 h fun v34 h =>
    (k_date_old_0 L K a0 v10 v14 v18 v34 v26 h))))))))))))))
theorem run_date_old {L : FuncId → List V → V → Prop} {K : V → Heap → Prop} {a0 : V} {h : Heap} (hp : p_date_old L K a0 h) : Cf F L i_date_old [a0] h K :=
  wcallp F_date_old (show 1 ≤ 44 by decide) (p := p_date_old L K a0 h) (by kernel_rfl) hp
def k_date_plain_0 (L : FuncId → List V → V → Prop) (K : V → Heap → Prop) (v0 v4 v5 v6 : V) (h : Heap) : Prop :=
    (wi F L (.call i___gatepost_date_reader__number [(.c v0), (.c v6)]) E0 h fun v36 h =>
    (wi F L (.call i___gatepost_date_reader__need [(.c v0), (.c (.str [32]))]) E0 h fun v38 h =>
    (wi F L (.call i___gatepost_date_reader__clock [(.c v0)]) E0 h fun v40 h =>
    (wi F L (.call i___gatepost_date_reader__need [(.c v0), (.c (.str [32]))]) E0 h fun v42 h =>
    (wi F L (.call i___gatepost_date_reader__number [(.c v0), (.c (.int .i64 4))]) E0 h fun v44 h =>
    (wi F L (.call i___gatepost_date_reader__second [(.c v0), (.c v4), (.c v44), (.c v5), (.c v36), (.c v40)]) E0 h fun v51 h =>
    (wi F L (.ext 0 (.c v51)) E0 h fun v52 h =>
    (wi F L (.ext 1 (.c v51)) E0 h fun v53 h =>
    (∃ v, resultsV h (enterE [v52, v53]) [.tmp 0, .tmp 1] = some v ∧ K v h)))))))))
def p_date_plain (L : FuncId → List V → V → Prop) (K : V → Heap → Prop) (a0 : V) (h : Heap) : Prop :=
    (wi F L (.call i___gatepost_date_reader__day [(.c a0), (.c (.bool false))]) E0 h fun v11 h =>
    (wi F L (.call i___gatepost_date_reader__need [(.c a0), (.c (.str [32]))]) E0 h fun v13 h =>
    (wi F L (.call i___gatepost_date_reader__month [(.c a0)]) E0 h fun v15 h =>
    (wi F L (.call i___gatepost_date_reader__need [(.c a0), (.c (.str [32]))]) E0 h fun v17 h =>
    (wi F L (.nilck (.c a0)) E0 h fun v19 h =>
    (wi F L (.faddr 0 (.c v19)) E0 h fun v20 h =>
    (wi F L (.load false 1 (.c v20)) E0 h fun v21 h =>
    (wi F L (.len 0 (.c v21)) E0 h fun v22 h =>
    (wi F L (.bin .gtr (.c v22) (.c (.int .i64 0))) E0 h fun v23 h =>
    (wg v23 true (wi F L (.mv (.c a0)) E0 h) h fun v25 h =>
    (wg v23 true (wi F L (.nilck (.c v25)) E0 h) h fun v26 h =>
    (wg v23 true (wi F L (.faddr 0 (.c v26)) E0 h) h fun v27 h =>
    (wg v23 true (wi F L (.load false 1 (.c v27)) E0 h) h fun v28 h =>
    (wg v23 true (wi F L (.ixStr (.c v28) (.c (.int .i64 0))) E0 h) h fun v29 h =>
    (wg v23 true (wi F L (.bin .eql (.c v29) (.c (.int .u8 32))) E0 h) h fun v30 h =>
    (wi F L (.pick (.c v23) (.c v30) (.c (.bool false))) E0 h fun v31 h =>
    (wb v31
    (wi F L (.call i___gatepost_date_reader__take [(.c a0), (.c (.int .i64 1))]) E0 h fun v33 h =>
    (k_date_plain_0 L K a0 v11 v15 (.int .i64 1) h))
    (k_date_plain_0 L K a0 v11 v15 (.int .i64 2) h))))))))))))))))))
theorem run_date_plain {L : FuncId → List V → V → Prop} {K : V → Heap → Prop} {a0 : V} {h : Heap} (hp : p_date_plain L K a0 h) : Cf F L i_date_plain [a0] h K :=
  wcallp F_date_plain (show 1 ≤ 54 by decide) (p := p_date_plain L K a0 h) (by kernel_rfl) hp
def p_gatepostref01_Same (L : FuncId → List V → V → Prop) (K : V → Heap → Prop) (a0 a1 : V) (h : Heap) : Prop :=
    (wi F L (.call i_gatepostref01_Lower [(.c a0)]) E0 h fun v6 h =>
    (wi F L (.call i_gatepostref01_Lower [(.c a1)]) E0 h fun v8 h =>
    (wi F L (.bin .eql (.c v6) (.c v8)) E0 h fun v9 h =>
    (∃ v, some v9 = some v ∧ K v h))))
theorem run_gatepostref01_Same {L : FuncId → List V → V → Prop} {K : V → Heap → Prop} {a0 a1 : V} {h : Heap} (hp : p_gatepostref01_Same L K a0 a1 h) : Cf F L i_gatepostref01_Same [a0, a1] h K :=
  wcallp F_gatepostref01_Same (show 2 ≤ 10 by decide) (p := p_gatepostref01_Same L K a0 a1 h) (by kernel_rfl) hp
def k_gatepostref01_Trim_1 (L : FuncId → List V → V → Prop) (K : V → Heap → Prop) (v0 : V) (h : Heap) : Prop :=
    (∃ v, some v0 = some v ∧ K v h)
def k_gatepostref01_Trim_2 (L : FuncId → List V → V → Prop) (K : V → Heap → Prop) (N0 : Env → Heap → Prop) (e : Env) (v0 : V) (h : Heap) : Prop :=
    (wi F L (.len 0 (.c v0)) E0 h fun v26 h =>
    (wi F L (.bin .sub (.c v26) (.c (.int .i64 1))) E0 h fun v27 h =>
    (wi F L (.slstr (.c v0) none (some (.c v27))) E0 h fun v28 h =>
    (N0 (upd (upd (upd (upd (upd (upd e 24 v0) 25 v0) 26 v26) 27 v27) 28 v28) 0 v28) h))))
def q_gatepostref01_Trim_0 (L : FuncId → List V → V → Prop) (K : V → Heap → Prop) : X → Env → Heap → Prop := (fun x => (seqX (fun e h => k_gatepostref01_Trim_1 L K (e 0) h) (retX c_gatepostref01_Trim.results K)) (X.out 2 x))
def lc_gatepostref01_Trim_0 : C :=
  (.seq (.seq (.region [⟨(some 13), none, .mv (.t 0)⟩, ⟨(some 14), none, .len 0 (.t 13)⟩, ⟨(some 15), none, .bin .gtr (.t 14) (.c (.int .i64 0))⟩, ⟨(some 16), none, .mv (.t 15)⟩, ⟨(some 17), (some (16, true)), .mv (.t 0)⟩, ⟨(some 18), (some (16, true)), .mv (.t 0)⟩, ⟨(some 19), (some (16, true)), .len 0 (.t 18)⟩, ⟨(some 20), (some (16, true)), .bin .sub (.t 19) (.c (.int .i64 1))⟩, ⟨(some 21), (some (16, true)), .ixStr (.t 17) (.t 20)⟩, ⟨(some 22), (some (16, true)), .call i_gatepostref01_blank [(.t 21)]⟩, ⟨(some 23), none, .pick (.t 16) (.t 22) (.c (.bool false))⟩])
  (.cond (.t 23)
    .skip
    (.exit 2)))
  (.block 3 (.region [⟨(some 24), none, .mv (.t 0)⟩, ⟨(some 25), none, .mv (.t 0)⟩, ⟨(some 26), none, .len 0 (.t 25)⟩, ⟨(some 27), none, .bin .sub (.t 26) (.c (.int .i64 1))⟩, ⟨(some 28), none, .slstr (.t 24) none (some (.t 27))⟩, ⟨(some 0), none, .mv (.t 28)⟩])))
def b_gatepostref01_Trim_0 (L : FuncId → List V → V → Prop) (K : V → Heap → Prop) (N0 : Env → Heap → Prop) (e : Env) (h : Heap) : Prop :=
    (wi F L (.len 0 (.c (e 0))) E0 h fun v14 h =>
    (wi F L (.bin .gtr (.c v14) (.c (.int .i64 0))) E0 h fun v15 h =>
    (wg v15 true (wi F L (.mv (.c (e 0))) E0 h) h fun v17 h =>
    (wg v15 true (wi F L (.mv (.c (e 0))) E0 h) h fun v18 h =>
    (wg v15 true (wi F L (.len 0 (.c v18)) E0 h) h fun v19 h =>
    (wg v15 true (wi F L (.bin .sub (.c v19) (.c (.int .i64 1))) E0 h) h fun v20 h =>
    (wg v15 true (wi F L (.ixStr (.c v17) (.c v20)) E0 h) h fun v21 h =>
    (wg v15 true (wi F L (.call i_gatepostref01_blank [(.c v21)]) E0 h) h fun v22 h =>
    (wi F L (.pick (.c v15) (.c v22) (.c (.bool false))) E0 h fun v23 h =>
    (wb v23
    (k_gatepostref01_Trim_2 L K N0 (upd (upd (upd (upd (upd (upd (upd (upd (upd (upd (upd e 13 (e 0)) 14 v14) 15 v15) 16 v15) 17 v17) 18 v18) 19 v19) 20 v20) 21 v21) 22 v22) 23 v23) (e 0) h)
    (k_gatepostref01_Trim_1 L K (e 0) h)))))))))))
theorem l_gatepostref01_Trim_0 {L : FuncId → List V → V → Prop} {K : V → Heap → Prop} (I : Nat → Env → Heap → Prop) (hr : ∀ n e h, I n e h → b_gatepostref01_Trim_0 L K (fun e' h' => ∃ m, m < n ∧ I m e' h') e h) {n : Nat} {e : Env} {h : Heap} (hi : I n e h) : Wl F L lc_gatepostref01_Trim_0 (q_gatepostref01_Trim_0 L K) e h :=
  wloopp (b := b_gatepostref01_Trim_0 L K) I (fun _ _ _ => by kernel_rfl) hr hi
def k_gatepostref01_Trim_0 (L : FuncId → List V → V → Prop) (K : V → Heap → Prop) (e : Env) (h : Heap) : Prop :=
    (Wl F L lc_gatepostref01_Trim_0 (q_gatepostref01_Trim_0 L K) e h)
def k_gatepostref01_Trim_3 (L : FuncId → List V → V → Prop) (K : V → Heap → Prop) (N0 : Env → Heap → Prop) (e : Env) (v0 : V) (h : Heap) : Prop :=
    (wi F L (.slstr (.c v0) (some (.c (.int .i64 1))) none) E0 h fun v12 h =>
    (N0 (upd (upd (upd e 11 v0) 12 v12) 0 v12) h))
def q_gatepostref01_Trim_1 (L : FuncId → List V → V → Prop) (K : V → Heap → Prop) : X → Env → Heap → Prop := (fun x => (seqX (fun e h => k_gatepostref01_Trim_0 L K e  h) (retX c_gatepostref01_Trim.results K)) (X.out 0 x))
def lc_gatepostref01_Trim_1 : C :=
  (.seq (.seq (.region [⟨(some 3), none, .mv (.t 0)⟩, ⟨(some 4), none, .len 0 (.t 3)⟩, ⟨(some 5), none, .bin .gtr (.t 4) (.c (.int .i64 0))⟩, ⟨(some 6), none, .mv (.t 5)⟩, ⟨(some 7), (some (6, true)), .mv (.t 0)⟩, ⟨(some 8), (some (6, true)), .ixStr (.t 7) (.c (.int .i64 0))⟩, ⟨(some 9), (some (6, true)), .call i_gatepostref01_blank [(.t 8)]⟩, ⟨(some 10), none, .pick (.t 6) (.t 9) (.c (.bool false))⟩])
  (.cond (.t 10)
    .skip
    (.exit 0)))
  (.block 1 (.region [⟨(some 11), none, .mv (.t 0)⟩, ⟨(some 12), none, .slstr (.t 11) (some (.c (.int .i64 1))) none⟩, ⟨(some 0), none, .mv (.t 12)⟩])))
def b_gatepostref01_Trim_1 (L : FuncId → List V → V → Prop) (K : V → Heap → Prop) (N0 : Env → Heap → Prop) (e : Env) (h : Heap) : Prop :=
    (wi F L (.len 0 (.c (e 0))) E0 h fun v4 h =>
    (wi F L (.bin .gtr (.c v4) (.c (.int .i64 0))) E0 h fun v5 h =>
    (wg v5 true (wi F L (.mv (.c (e 0))) E0 h) h fun v7 h =>
    (wg v5 true (wi F L (.ixStr (.c v7) (.c (.int .i64 0))) E0 h) h fun v8 h =>
    (wg v5 true (wi F L (.call i_gatepostref01_blank [(.c v8)]) E0 h) h fun v9 h =>
    (wi F L (.pick (.c v5) (.c v9) (.c (.bool false))) E0 h fun v10 h =>
    (wb v10
    (k_gatepostref01_Trim_3 L K N0 (upd (upd (upd (upd (upd (upd (upd (upd e 3 (e 0)) 4 v4) 5 v5) 6 v5) 7 v7) 8 v8) 9 v9) 10 v10) (e 0) h)
    (k_gatepostref01_Trim_0 L K (upd (upd (upd (upd (upd (upd (upd (upd e 3 (e 0)) 4 v4) 5 v5) 6 v5) 7 v7) 8 v8) 9 v9) 10 v10)  h))))))))
theorem l_gatepostref01_Trim_1 {L : FuncId → List V → V → Prop} {K : V → Heap → Prop} (I : Nat → Env → Heap → Prop) (hr : ∀ n e h, I n e h → b_gatepostref01_Trim_1 L K (fun e' h' => ∃ m, m < n ∧ I m e' h') e h) {n : Nat} {e : Env} {h : Heap} (hi : I n e h) : Wl F L lc_gatepostref01_Trim_1 (q_gatepostref01_Trim_1 L K) e h :=
  wloopp (b := b_gatepostref01_Trim_1 L K) I (fun _ _ _ => by kernel_rfl) hr hi
def p_gatepostref01_Trim (L : FuncId → List V → V → Prop) (K : V → Heap → Prop) (a0 : V) (h : Heap) : Prop :=
    (Wl F L lc_gatepostref01_Trim_1 (q_gatepostref01_Trim_1 L K) (upd (enterE [a0]) 2 (.str [])) h)
theorem run_gatepostref01_Trim {L : FuncId → List V → V → Prop} {K : V → Heap → Prop} {a0 : V} {h : Heap} (hp : p_gatepostref01_Trim L K a0 h) : Cf F L i_gatepostref01_Trim [a0] h K :=
  wcallp F_gatepostref01_Trim (show 1 ≤ 30 by decide) (p := p_gatepostref01_Trim L K a0 h) (by kernel_rfl) hp
def k_gatepostref02_second_0 (L : FuncId → List V → V → Prop) (K : V → Heap → Prop) (v4 v12 : V) (h : Heap) : Prop :=
    (wi F L (.bin .mul (.c v12) (.c (.int .i64 86400))) E0 h fun v31 h =>
    (wi F L (.bin .add (.c v31) (.c v4)) E0 h fun v33 h =>
    (∃ v, resultsV h (enterE [v33, (.bool true)]) [.tmp 0, .tmp 1] = some v ∧ K v h)))
def p_gatepostref02_second (L : FuncId → List V → V → Prop) (K : V → Heap → Prop) (a0 a1 a2 a3 a4 : V) (h : Heap) : Prop :=
    (wi F L (.call i_gatepostref02_Days [(.c a1), (.c a2), (.c a3)]) E0 h fun v16 h =>
    (wi F L (.bin .lss (.c v16) (.c (.int .i64 0))) E0 h fun v18 h =>
    (wg v18 false (wi F L (.mv (.c a4)) E0 h) h fun v20 h =>
    (wg v18 false (wi F L (.bin .lss (.c v20) (.c (.int .i64 0))) E0 h) h fun v21 h =>
    (wi F L (.pick (.c v18) (.c (.bool true)) (.c v21)) E0 h fun v22 h =>
    (wg v22 false (wi F L (.mv (.c a0)) E0 h) h fun v24 h =>
    (wg v22 false (wi F L (.mv (.c v16)) E0 h) h fun v25 h =>
    (wg v22 false (wi F L (.bin .add (.c v25) (.c (.int .i64 3))) E0 h) h fun v26 h =>
    (wg v22 false (wi F L (.bin .rem (.c v26) (.c (.int .i64 7))) E0 h) h fun v27 h =>
    (wg v22 false (wi F L (.bin .neq (.c v24) (.c v27)) E0 h) h fun v28 h =>
    (wi F L (.pick (.c v22) (.c (.bool true)) (.c v28)) E0 h fun v29 h =>
    (wb v29
    (∃ v, resultsV h (enterE [(.int .i64 0), (.bool false)]) [.tmp 0, .tmp 1] = some v ∧ K v h)
    (k_gatepostref02_second_0 L K a4 v16 h)))))))))))))
theorem run_gatepostref02_second {L : FuncId → List V → V → Prop} {K : V → Heap → Prop} {a0 a1 a2 a3 a4 : V} {h : Heap} (hp : p_gatepostref02_second L K a0 a1 a2 a3 a4 h) : Cf F L i_gatepostref02_second [a0, a1, a2, a3, a4] h K :=
  wcallp F_gatepostref02_second (show 5 ≤ 34 by decide) (p := p_gatepostref02_second L K a0 a1 a2 a3 a4 h) (by kernel_rfl) hp
def k_gatepostref02_find_0 (L : FuncId → List V → V → Prop) (K : V → Heap → Prop) (h : Heap) : Prop :=
    (∃ v, some (.int .i64 (-1)) = some v ∧ K v h)
def k_gatepostref02_find_2 (L : FuncId → List V → V → Prop) (K : V → Heap → Prop) (N0 : Env → Heap → Prop) (e : Env) (v5 : V) (h : Heap) : Prop :=
    (wi F L (.bin .add (.c v5) (.c (.int .i64 1))) E0 h fun v11 h =>
    (N0 (upd (upd (upd e 10 v5) 11 v11) 5 v11) h))
def k_gatepostref02_find_1 (L : FuncId → List V → V → Prop) (K : V → Heap → Prop) (N0 : Env → Heap → Prop) (e : Env) (v0 v1 v5 : V) (h : Heap) : Prop :=
    (wi F L (.ixaSl 1 (.c v0) (.c v5)) E0 h fun v14 h =>
    (wi F L (.load false 1 (.c v14)) E0 h fun v15 h =>
    (wi F L (.bin .eql (.c v15) (.c v1)) E0 h fun v17 h =>
    (wb v17
    (∃ v, some v5 = some v ∧ K v h)
    (k_gatepostref02_find_2 L K N0 (upd (upd (upd (upd (upd (upd e 12 v0) 13 v5) 14 v14) 15 v15) 16 v1) 17 v17) v5 h)))))
def q_gatepostref02_find_0 (L : FuncId → List V → V → Prop) (K : V → Heap → Prop) : X → Env → Heap → Prop := (fun x => (seqX (fun e h => k_gatepostref02_find_0 L K  h) (retX c_gatepostref02_find.results K)) (X.out 0 x))
def lc_gatepostref02_find_0 : C :=
  (.seq (.seq (.region [⟨(some 6), none, .mv (.t 5)⟩, ⟨(some 7), none, .mv (.t 0)⟩, ⟨(some 8), none, .len 1 (.t 7)⟩, ⟨(some 9), none, .bin .lss (.t 6) (.t 8)⟩])
  (.cond (.t 9)
    .skip
    (.exit 0)))
  (.seq (.block 1 (.seq (.region [⟨(some 12), none, .mv (.t 0)⟩, ⟨(some 13), none, .mv (.t 5)⟩, ⟨(some 14), none, .ixaSl 1 (.t 12) (.t 13)⟩, ⟨(some 15), none, .load false 1 (.t 14)⟩, ⟨(some 16), none, .mv (.t 1)⟩, ⟨(some 17), none, .bin .eql (.t 15) (.t 16)⟩])
  (.cond (.t 17)
    (.seq (.region [⟨(some 18), none, .mv (.t 5)⟩, ⟨(some 4), none, .mv (.t 18)⟩])
    .ret)
    .skip)))
  (.region [⟨(some 10), none, .mv (.t 5)⟩, ⟨(some 11), none, .bin .add (.t 10) (.c (.int .i64 1))⟩, ⟨(some 5), none, .mv (.t 11)⟩])))
def b_gatepostref02_find_0 (L : FuncId → List V → V → Prop) (K : V → Heap → Prop) (N0 : Env → Heap → Prop) (e : Env) (h : Heap) : Prop :=
    (wi F L (.len 1 (.c (e 0))) E0 h fun v8 h =>
    (wi F L (.bin .lss (.c (e 5)) (.c v8)) E0 h fun v9 h =>
    (wb v9
    (k_gatepostref02_find_1 L K N0 (upd (upd (upd (upd e 6 (e 5)) 7 (e 0)) 8 v8) 9 v9) (e 0) (e 1) (e 5) h)
    (k_gatepostref02_find_0 L K  h))))
theorem l_gatepostref02_find_0 {L : FuncId → List V → V → Prop} {K : V → Heap → Prop} (I : Nat → Env → Heap → Prop) (hr : ∀ n e h, I n e h → b_gatepostref02_find_0 L K (fun e' h' => ∃ m, m < n ∧ I m e' h') e h) {n : Nat} {e : Env} {h : Heap} (hi : I n e h) : Wl F L lc_gatepostref02_find_0 (q_gatepostref02_find_0 L K) e h :=
  wloopp (b := b_gatepostref02_find_0 L K) I (fun _ _ _ => by kernel_rfl) hr hi
def p_gatepostref02_find (L : FuncId → List V → V → Prop) (K : V → Heap → Prop) (a0 a1 : V) (h : Heap) : Prop :=
    (Wl F L lc_gatepostref02_find_0 (q_gatepostref02_find_0 L K) (upd (upd (enterE [a0, a1]) 4 (.int .i64 0)) 5 (.int .i64 0)) h)
theorem run_gatepostref02_find {L : FuncId → List V → V → Prop} {K : V → Heap → Prop} {a0 a1 : V} {h : Heap} (hp : p_gatepostref02_find L K a0 a1 h) : Cf F L i_gatepostref02_find [a0, a1] h K :=
  wcallp F_gatepostref02_find (show 2 ≤ 19 by decide) (p := p_gatepostref02_find L K a0 a1 h) (by kernel_rfl) hp
def p_gatepostref02_short (L : FuncId → List V → V → Prop) (K : V → Heap → Prop) (h : Heap) : Prop :=
    (wi F L (.bsl 1 [(.c (.str [77, 111, 110])), (.c (.str [84, 117, 101])), (.c (.str [87, 101, 100])), (.c (.str [84, 104, 117])), (.c (.str [70, 114, 105])), (.c (.str [83, 97, 116])), (.c (.str [83, 117, 110]))]) E0 h fun v1 h =>
    (∃ v, some v1 = some v ∧ K v h))
theorem run_gatepostref02_short {L : FuncId → List V → V → Prop} {K : V → Heap → Prop} {h : Heap} (hp : p_gatepostref02_short L K  h) : Cf F L i_gatepostref02_short [] h K :=
  wcallp F_gatepostref02_short (show 0 ≤ 2 by decide) (p := p_gatepostref02_short L K  h) (by kernel_rfl) hp
def k_gatepostref02_number_0 (L : FuncId → List V → V → Prop) (K : V → Heap → Prop) (v3 : V) (h : Heap) : Prop :=
    (∃ v, some v3 = some v ∧ K v h)
def k_gatepostref02_number_2 (L : FuncId → List V → V → Prop) (K : V → Heap → Prop) (N0 : Env → Heap → Prop) (e : Env) (v4 : V) (h : Heap) : Prop :=
    (wi F L (.bin .add (.c v4) (.c (.int .i64 1))) E0 h fun v10 h =>
    (N0 (upd (upd (upd e 9 v4) 10 v10) 4 v10) h))
def k_gatepostref02_number_3 (L : FuncId → List V → V → Prop) (K : V → Heap → Prop) (N0 : Env → Heap → Prop) (e : Env) (v0 v3 v4 : V) (h : Heap) : Prop :=
    (wi F L (.bin .mul (.c v3) (.c (.int .i64 10))) E0 h fun v22 h =>
    (wi F L (.ixStr (.c v0) (.c v4)) E0 h fun v25 h =>
    (wi F L (.bin .sub (.c v25) (.c (.int .u8 48))) E0 h fun v26 h =>
    (wi F L (.toInt .i64 (.c v26)) E0 h fun v27 h =>
    (wi F L (.bin .add (.c v22) (.c v27)) E0 h fun v28 h =>
    (k_gatepostref02_number_2 L K N0 (upd (upd (upd (upd (upd (upd (upd (upd (upd e 21 v3) 22 v22) 23 v0) 24 v4) 25 v25) 26 v26) 27 v27) 28 v28) 3 v28) v4 h))))))
def k_gatepostref02_number_1 (L : FuncId → List V → V → Prop) (K : V → Heap → Prop) (N0 : Env → Heap → Prop) (e : Env) (v0 v3 v4 : V) (h : Heap) : Prop :=
    (wi F L (.ixStr (.c v0) (.c v4)) E0 h fun v13 h =>
    (wi F L (.bin .lss (.c v13) (.c (.int .u8 48))) E0 h fun v14 h =>
    (wg v14 false (wi F L (.mv (.c v0)) E0 h) h fun v16 h =>
    (wg v14 false (wi F L (.mv (.c v4)) E0 h) h fun v17 h =>
    (wg v14 false (wi F L (.ixStr (.c v16) (.c v17)) E0 h) h fun v18 h =>
    (wg v14 false (wi F L (.bin .gtr (.c v18) (.c (.int .u8 57))) E0 h) h fun v19 h =>
    (wi F L (.pick (.c v14) (.c (.bool true)) (.c v19)) E0 h fun v20 h =>
    (wb v20
    (∃ v, some (.int .i64 (-1)) = some v ∧ K v h)
    (k_gatepostref02_number_3 L K N0 (upd (upd (upd (upd (upd (upd (upd (upd (upd (upd e 11 v0) 12 v4) 13 v13) 14 v14) 15 v14) 16 v16) 17 v17) 18 v18) 19 v19) 20 v20) v0 v3 v4 h)))))))))
def q_gatepostref02_number_0 (L : FuncId → List V → V → Prop) (K : V → Heap → Prop) : X → Env → Heap → Prop := (fun x => (seqX (fun e h => k_gatepostref02_number_0 L K (e 3) h) (retX c_gatepostref02_number.results K)) (X.out 0 x))
def lc_gatepostref02_number_0 : C :=
  (.seq (.seq (.region [⟨(some 5), none, .mv (.t 4)⟩, ⟨(some 6), none, .mv (.t 0)⟩, ⟨(some 7), none, .len 0 (.t 6)⟩, ⟨(some 8), none, .bin .lss (.t 5) (.t 7)⟩])
  (.cond (.t 8)
    .skip
    (.exit 0)))
  (.seq (.block 1 (.seq (.seq (.region [⟨(some 11), none, .mv (.t 0)⟩, ⟨(some 12), none, .mv (.t 4)⟩, ⟨(some 13), none, .ixStr (.t 11) (.t 12)⟩, ⟨(some 14), none, .bin .lss (.t 13) (.c (.int .u8 48))⟩, ⟨(some 15), none, .mv (.t 14)⟩, ⟨(some 16), (some (15, false)), .mv (.t 0)⟩, ⟨(some 17), (some (15, false)), .mv (.t 4)⟩, ⟨(some 18), (some (15, false)), .ixStr (.t 16) (.t 17)⟩, ⟨(some 19), (some (15, false)), .bin .gtr (.t 18) (.c (.int .u8 57))⟩, ⟨(some 20), none, .pick (.t 15) (.c (.bool true)) (.t 19)⟩])
  (.cond (.t 20)
    (.seq (.region [⟨(some 2), none, .mv (.c (.int .i64 (-1)))⟩])
    .ret)
    .skip))
  (.region [⟨(some 21), none, .mv (.t 3)⟩, ⟨(some 22), none, .bin .mul (.t 21) (.c (.int .i64 10))⟩, ⟨(some 23), none, .mv (.t 0)⟩, ⟨(some 24), none, .mv (.t 4)⟩, ⟨(some 25), none, .ixStr (.t 23) (.t 24)⟩, ⟨(some 26), none, .bin .sub (.t 25) (.c (.int .u8 48))⟩, ⟨(some 27), none, .toInt .i64 (.t 26)⟩, ⟨(some 28), none, .bin .add (.t 22) (.t 27)⟩, ⟨(some 3), none, .mv (.t 28)⟩])))
  (.region [⟨(some 9), none, .mv (.t 4)⟩, ⟨(some 10), none, .bin .add (.t 9) (.c (.int .i64 1))⟩, ⟨(some 4), none, .mv (.t 10)⟩])))
def b_gatepostref02_number_0 (L : FuncId → List V → V → Prop) (K : V → Heap → Prop) (N0 : Env → Heap → Prop) (e : Env) (h : Heap) : Prop :=
    (wi F L (.len 0 (.c (e 0))) E0 h fun v7 h =>
    (wi F L (.bin .lss (.c (e 4)) (.c v7)) E0 h fun v8 h =>
    (wb v8
    (k_gatepostref02_number_1 L K N0 (upd (upd (upd (upd e 5 (e 4)) 6 (e 0)) 7 v7) 8 v8) (e 0) (e 3) (e 4) h)
    (k_gatepostref02_number_0 L K (e 3) h))))
theorem l_gatepostref02_number_0 {L : FuncId → List V → V → Prop} {K : V → Heap → Prop} (I : Nat → Env → Heap → Prop) (hr : ∀ n e h, I n e h → b_gatepostref02_number_0 L K (fun e' h' => ∃ m, m < n ∧ I m e' h') e h) {n : Nat} {e : Env} {h : Heap} (hi : I n e h) : Wl F L lc_gatepostref02_number_0 (q_gatepostref02_number_0 L K) e h :=
  wloopp (b := b_gatepostref02_number_0 L K) I (fun _ _ _ => by kernel_rfl) hr hi
def p_gatepostref02_number (L : FuncId → List V → V → Prop) (K : V → Heap → Prop) (a0 : V) (h : Heap) : Prop :=
    (Wl F L lc_gatepostref02_number_0 (q_gatepostref02_number_0 L K) (upd (upd (upd (enterE [a0]) 2 (.int .i64 0)) 3 (.int .i64 0)) 4 (.int .i64 0)) h)
theorem run_gatepostref02_number {L : FuncId → List V → V → Prop} {K : V → Heap → Prop} {a0 : V} {h : Heap} (hp : p_gatepostref02_number L K a0 h) : Cf F L i_gatepostref02_number [a0] h K :=
  wcallp F_gatepostref02_number (show 1 ≤ 30 by decide) (p := p_gatepostref02_number L K a0 h) (by kernel_rfl) hp
def p_gatepostref02_months (L : FuncId → List V → V → Prop) (K : V → Heap → Prop) (h : Heap) : Prop :=
    (wi F L (.bsl 1 [(.c (.str [74, 97, 110])), (.c (.str [70, 101, 98])), (.c (.str [77, 97, 114])), (.c (.str [65, 112, 114])), (.c (.str [77, 97, 121])), (.c (.str [74, 117, 110])), (.c (.str [74, 117, 108])), (.c (.str [65, 117, 103])), (.c (.str [83, 101, 112])), (.c (.str [79, 99, 116])), (.c (.str [78, 111, 118])), (.c (.str [68, 101, 99]))]) E0 h fun v1 h =>
    (∃ v, some v1 = some v ∧ K v h))
theorem run_gatepostref02_months {L : FuncId → List V → V → Prop} {K : V → Heap → Prop} {h : Heap} (hp : p_gatepostref02_months L K  h) : Cf F L i_gatepostref02_months [] h K :=
  wcallp F_gatepostref02_months (show 0 ≤ 2 by decide) (p := p_gatepostref02_months L K  h) (by kernel_rfl) hp
def k_gatepostref02_clock_2 (L : FuncId → List V → V → Prop) (K : V → Heap → Prop) (v3 v4 v5 : V) (h : Heap) : Prop :=
    (wi F L (.bin .mul (.c v3) (.c (.int .i64 3600))) E0 h fun v53 h =>
    (wi F L (.bin .mul (.c v4) (.c (.int .i64 60))) E0 h fun v55 h =>
    (wi F L (.bin .add (.c v53) (.c v55)) E0 h fun v56 h =>
    (wi F L (.bin .add (.c v56) (.c v5)) E0 h fun v58 h =>
    (∃ v, some v58 = some v ∧ K v h)))))
def k_gatepostref02_clock_1 (L : FuncId → List V → V → Prop) (K : V → Heap → Prop) (v3 v4 v5 : V) (h : Heap) : Prop :=
    (wi F L (.bin .eql (.c v5) (.c (.int .i64 60))) E0 h fun v51 h =>
    (wb v51
    (k_gatepostref02_clock_2 L K v3 v4 (.int .i64 59) h)
    (k_gatepostref02_clock_2 L K v3 v4 v5 h)))
def k_gatepostref02_clock_0 (L : FuncId → List V → V → Prop) (K : V → Heap → Prop) (v0 : V) (h : Heap) : Prop :=
    (wi F L (.slstr (.c v0) none (some (.c (.int .i64 2)))) E0 h fun v20 h =>
    (wi F L (.call i_gatepostref02_number [(.c v20)]) E0 h fun v21 h =>
    (wi F L (.slstr (.c v0) (some (.c (.int .i64 3))) (some (.c (.int .i64 5)))) E0 h fun v23 h =>
    (wi F L (.call i_gatepostref02_number [(.c v23)]) E0 h fun v24 h =>
    (wi F L (.slstr (.c v0) (some (.c (.int .i64 6))) none) E0 h fun v26 h =>
    (wi F L (.call i_gatepostref02_number [(.c v26)]) E0 h fun v27 h =>
    (wi F L (.bin .lss (.c v21) (.c (.int .i64 0))) E0 h fun v29 h =>
    (wg v29 false (wi F L (.mv (.c v21)) E0 h) h fun v31 h =>
    (wg v29 false (wi F L (.bin .gtr (.c v31) (.c (.int .i64 23))) E0 h) h fun v32 h =>
    (wi F L (.pick (.c v29) (.c (.bool true)) (.c v32)) E0 h fun v33 h =>
    (wg v33 false (wi F L (.mv (.c v24)) E0 h) h fun v35 h =>
    (wg v33 false (wi F L (.bin .lss (.c v35) (.c (.int .i64 0))) E0 h) h fun v36 h =>
    (wi F L (.pick (.c v33) (.c (.bool true)) (.c v36)) E0 h fun v37 h =>
    (wg v37 false (wi F L (.mv (.c v24)) E0 h) h fun v39 h =>
    (wg v37 false (wi F L (.bin .gtr (.c v39) (.c (.int .i64 59))) E0 h) h fun v40 h =>
    (wi F L (.pick (.c v37) (.c (.bool true)) (.c v40)) E0 h fun v41 h =>
    (wg v41 false (wi F L (.mv (.c v27)) E0 h) h fun v43 h =>
    (wg v41 false (wi F L (.bin .lss (.c v43) (.c (.int .i64 0))) E0 h) h fun v44 h =>
    (wi F L (.pick (.c v41) (.c (.bool true)) (.c v44)) E0 h fun v45 h =>
    (wg v45 false (wi F L (.mv (.c v27)) E0 h) h fun v47 h =>
    (wg v45 false (wi F L (.bin .gtr (.c v47) (.c (.int .i64 60))) E0 h) h fun v48 h =>
    (wi F L (.pick (.c v45) (.c (.bool true)) (.c v48)) E0 h fun v49 h =>
    (wb v49
    (∃ v, some (.int .i64 (-1)) = some v ∧ K v h)
    (k_gatepostref02_clock_1 L K v21 v24 v27 h))))))))))))))))))))))))
def p_gatepostref02_clock (L : FuncId → List V → V → Prop) (K : V → Heap → Prop) (a0 : V) (h : Heap) : Prop :=
    (wi F L (.len 0 (.c a0)) E0 h fun v7 h =>
    (wi F L (.bin .neq (.c v7) (.c (.int .i64 8))) E0 h fun v8 h =>
    (wg v8 false (wi F L (.mv (.c a0)) E0 h) h fun v10 h =>
    (wg v8 false (wi F L (.ixStr (.c v10) (.c (.int .i64 2))) E0 h) h fun v11 h =>
    (wg v8 false (wi F L (.bin .neq (.c v11) (.c (.int .u8 58))) E0 h) h fun v12 h =>
    (wi F L (.pick (.c v8) (.c (.bool true)) (.c v12)) E0 h fun v13 h =>
    (wg v13 false (wi F L (.mv (.c a0)) E0 h) h fun v15 h =>
    (wg v13 false (wi F L (.ixStr (.c v15) (.c (.int .i64 5))) E0 h) h fun v16 h =>
    (wg v13 false (wi F L (.bin .neq (.c v16) (.c (.int .u8 58))) E0 h) h fun v17 h =>
    (wi F L (.pick (.c v13) (.c (.bool true)) (.c v17)) E0 h fun v18 h =>
    (wb v18
    (∃ v, some (.int .i64 (-1)) = some v ∧ K v h)
    (k_gatepostref02_clock_0 L K a0 h))))))))))))
theorem run_gatepostref02_clock {L : FuncId → List V → V → Prop} {K : V → Heap → Prop} {a0 : V} {h : Heap} (hp : p_gatepostref02_clock L K a0 h) : Cf F L i_gatepostref02_clock [a0] h K :=
  wcallp F_gatepostref02_clock (show 1 ≤ 59 by decide) (p := p_gatepostref02_clock L K a0 h) (by kernel_rfl) hp
def p_strings_CutPrefix (L : FuncId → List V → V → Prop) (K : V → Heap → Prop) (a0 a1 : V) (h : Heap) : Prop :=
    (wi F L (.call i_internal_stringslite_CutPrefix [(.c a0), (.c a1)]) E0 h fun v8 h =>
    (wi F L (.ext 0 (.c v8)) E0 h fun v9 h =>
    (wi F L (.ext 1 (.c v8)) E0 h fun v10 h =>
    (∃ v, resultsV h (enterE [v9, v10]) [.tmp 0, .tmp 1] = some v ∧ K v h))))
theorem run_strings_CutPrefix {L : FuncId → List V → V → Prop} {K : V → Heap → Prop} {a0 a1 : V} {h : Heap} (hp : p_strings_CutPrefix L K a0 a1 h) : Cf F L i_strings_CutPrefix [a0, a1] h K :=
  wcallp F_strings_CutPrefix (show 2 ≤ 11 by decide) (p := p_strings_CutPrefix L K a0 a1 h) (by kernel_rfl) hp
def p_strings_CutSuffix (L : FuncId → List V → V → Prop) (K : V → Heap → Prop) (a0 a1 : V) (h : Heap) : Prop :=
    (wi F L (.call i_internal_stringslite_CutSuffix [(.c a0), (.c a1)]) E0 h fun v8 h =>
    (wi F L (.ext 0 (.c v8)) E0 h fun v9 h =>
    (wi F L (.ext 1 (.c v8)) E0 h fun v10 h =>
    (∃ v, resultsV h (enterE [v9, v10]) [.tmp 0, .tmp 1] = some v ∧ K v h))))
theorem run_strings_CutSuffix {L : FuncId → List V → V → Prop} {K : V → Heap → Prop} {a0 a1 : V} {h : Heap} (hp : p_strings_CutSuffix L K a0 a1 h) : Cf F L i_strings_CutSuffix [a0, a1] h K :=
  wcallp F_strings_CutSuffix (show 2 ≤ 11 by decide) (p := p_strings_CutSuffix L K a0 a1 h) (by kernel_rfl) hp
def k_date_Civil_1 (L : FuncId → List V → V → Prop) (K : V → Heap → Prop) (v2 v3 v4 : V) (h : Heap) : Prop :=
    (∃ v, resultsV h (enterE [v2, v3, v4]) [.tmp 0, .tmp 1, .tmp 2] = some v ∧ K v h)
def k_date_Civil_0 (L : FuncId → List V → V → Prop) (K : V → Heap → Prop) (v0 : V) (h : Heap) : Prop :=
    (wi F L (.bin .add (.c v0) (.c (.int .i64 719468))) E0 h fun v18 h =>
    (wi F L (.bin .quo (.c v18) (.c (.int .i64 146097))) E0 h fun v20 h =>
    (wi F L (.bin .rem (.c v18) (.c (.int .i64 146097))) E0 h fun v22 h =>
    (wi F L (.bin .quo (.c v22) (.c (.int .i64 1460))) E0 h fun v25 h =>
    (wi F L (.bin .sub (.c v22) (.c v25)) E0 h fun v26 h =>
    (wi F L (.bin .quo (.c v22) (.c (.int .i64 36524))) E0 h fun v28 h =>
    (wi F L (.bin .add (.c v26) (.c v28)) E0 h fun v29 h =>
    (wi F L (.bin .quo (.c v22) (.c (.int .i64 146096))) E0 h fun v31 h =>
    (wi F L (.bin .sub (.c v29) (.c v31)) E0 h fun v32 h =>
    (wi F L (.bin .quo (.c v32) (.c (.int .i64 365))) E0 h fun v33 h =>
    (wi F L (.bin .mul (.c (.int .i64 365)) (.c v33)) E0 h fun v36 h =>
    (wi F L (.bin .quo (.c v33) (.c (.int .i64 4))) E0 h fun v38 h =>
    (wi F L (.bin .add (.c v36) (.c v38)) E0 h fun v39 h =>
    (wi F L (.bin .quo (.c v33) (.c (.int .i64 100))) E0 h fun v41 h =>
    (wi F L (.bin .sub (.c v39) (.c v41)) E0 h fun v42 h =>
    (wi F L (.bin .sub (.c v22) (.c v42)) E0 h fun v43 h =>
    (wi F L (.bin .mul (.c (.int .i64 5)) (.c v43)) E0 h fun v45 h =>
    (wi F L (.bin .add (.c v45) (.c (.int .i64 2))) E0 h fun v46 h =>
    (wi F L (.bin .quo (.c v46) (.c (.int .i64 153))) E0 h fun v47 h =>
    (wi F L (.bin .mul (.c (.int .i64 153)) (.c v47)) E0 h fun v50 h =>
    (wi F L (.bin .add (.c v50) (.c (.int .i64 2))) E0 h fun v51 h =>
    (wi F L (.bin .quo (.c v51) (.c (.int .i64 5))) E0 h fun v52 h =>
    (wi F L (.bin .sub (.c v43) (.c v52)) E0 h fun v53 h =>
    (wi F L (.bin .add (.c v53) (.c (.int .i64 1))) E0 h fun v54 h =>
    (wi F L (.bin .add (.c v47) (.c (.int .i64 3))) E0 h fun v56 h =>
    (wi F L (.bin .mul (.c (.int .i64 400)) (.c v20)) E0 h fun v59 h =>
    (wi F L (.bin .add (.c v33) (.c v59)) E0 h fun v60 h =>
    (wi F L (.bin .gtr (.c v56) (.c (.int .i64 12))) E0 h fun v62 h =>
    (wb v62
    (wi F L (.bin .sub (.c v56) (.c (.int .i64 12))) E0 h fun v64 h =>
    (wi F L (.bin .add (.c v60) (.c (.int .i64 1))) E0 h fun v66 h =>
    (k_date_Civil_1 L K v66 v64 v54 h)))
    (k_date_Civil_1 L K v60 v56 v54 h))))))))))))))))))))))))))))))
def p_date_Civil (L : FuncId → List V → V → Prop) (K : V → Heap → Prop) (a0 : V) (h : Heap) : Prop :=
    (wi F L (.bin .lss (.c a0) (.c (.int .i64 0))) E0 h fun v12 h =>
    (wg v12 false (wi F L (.mv (.c a0)) E0 h) h fun v14 h =>
    (wg v12 false (wi F L (.bin .gtr (.c v14) (.c (.int .i64 2932896))) E0 h) h fun v15 h =>
    (wi F L (.pick (.c v12) (.c (.bool true)) (.c v15)) E0 h fun v16 h =>
    (wb v16
    (∃ v, resultsV h (enterE [(.int .i64 0), (.int .i64 0), (.int .i64 0)]) [.tmp 0, .tmp 1, .tmp 2] = some v ∧ K v h)
    (k_date_Civil_0 L K a0 h))))))
theorem run_date_Civil {L : FuncId → List V → V → Prop} {K : V → Heap → Prop} {a0 : V} {h : Heap} (hp : p_date_Civil L K a0 h) : Cf F L i_date_Civil [a0] h K :=
  wcallp F_date_Civil (show 1 ≤ 70 by decide) (p := p_date_Civil L K a0 h) (by kernel_rfl) hp
def p_date_longDays (L : FuncId → List V → V → Prop) (K : V → Heap → Prop) (h : Heap) : Prop :=
    (wi F L (.boxz [(.str []), (.str []), (.str []), (.str []), (.str []), (.str []), (.str [])]) E0 h fun v0 h =>
    (wi F L (.build [(.str []), (.str []), (.str []), (.str []), (.str []), (.str []), (.str [])] [(0, 1, (.c (.str [77, 111, 110, 100, 97, 121]))), (1, 1, (.c (.str [84, 117, 101, 115, 100, 97, 121]))), (2, 1, (.c (.str [87, 101, 100, 110, 101, 115, 100, 97, 121]))), (3, 1, (.c (.str [84, 104, 117, 114, 115, 100, 97, 121]))), (4, 1, (.c (.str [70, 114, 105, 100, 97, 121]))), (5, 1, (.c (.str [83, 97, 116, 117, 114, 100, 97, 121]))), (6, 1, (.c (.str [83, 117, 110, 100, 97, 121])))]) E0 h fun v1 h =>
    (wi F L (.store 7 (.c v0) (.c v1)) E0 h fun _ h =>
    (∃ v, resultsV h (enterE [v0]) [.cell 0 true 7] = some v ∧ K v h))))
theorem run_date_longDays {L : FuncId → List V → V → Prop} {K : V → Heap → Prop} {h : Heap} (hp : p_date_longDays L K  h) : Cf F L i_date_longDays [] h K :=
  wcallp F_date_longDays (show 0 ≤ 2 by decide) (p := p_date_longDays L K  h) (by kernel_rfl) hp
def k_date_pad_0 (L : FuncId → List V → V → Prop) (K : V → Heap → Prop) (v5 : V) (h : Heap) : Prop :=
    (∃ v, some v5 = some v ∧ K v h)
def k_date_pad_1 (L : FuncId → List V → V → Prop) (K : V → Heap → Prop) (N0 : Env → Heap → Prop) (e : Env) (v5 : V) (h : Heap) : Prop :=
    (wi F L (.bin .add (.c (.str [48])) (.c v5)) E0 h fun v13 h =>
    (N0 (upd (upd (upd e 12 v5) 13 v13) 5 v13) h))
def q_date_pad_0 (L : FuncId → List V → V → Prop) (K : V → Heap → Prop) : X → Env → Heap → Prop := (fun x => (seqX (fun e h => k_date_pad_0 L K (e 5) h) (retX c_date_pad.results K)) (X.out 0 x))
def lc_date_pad_0 : C :=
  (.seq (.seq (.region [⟨(some 8), none, .mv (.t 5)⟩, ⟨(some 9), none, .len 0 (.t 8)⟩, ⟨(some 10), none, .mv (.t 1)⟩, ⟨(some 11), none, .bin .lss (.t 9) (.t 10)⟩])
  (.cond (.t 11)
    .skip
    (.exit 0)))
  (.block 1 (.region [⟨(some 12), none, .mv (.t 5)⟩, ⟨(some 13), none, .bin .add (.c (.str [48])) (.t 12)⟩, ⟨(some 5), none, .mv (.t 13)⟩])))
def b_date_pad_0 (L : FuncId → List V → V → Prop) (K : V → Heap → Prop) (N0 : Env → Heap → Prop) (e : Env) (h : Heap) : Prop :=
    (wi F L (.len 0 (.c (e 5))) E0 h fun v9 h =>
    (wi F L (.bin .lss (.c v9) (.c (e 1))) E0 h fun v11 h =>
    (wb v11
    (k_date_pad_1 L K N0 (upd (upd (upd (upd e 8 (e 5)) 9 v9) 10 (e 1)) 11 v11) (e 5) h)
    (k_date_pad_0 L K (e 5) h))))
theorem l_date_pad_0 {L : FuncId → List V → V → Prop} {K : V → Heap → Prop} (I : Nat → Env → Heap → Prop) (hr : ∀ n e h, I n e h → b_date_pad_0 L K (fun e' h' => ∃ m, m < n ∧ I m e' h') e h) {n : Nat} {e : Env} {h : Heap} (hi : I n e h) : Wl F L lc_date_pad_0 (q_date_pad_0 L K) e h :=
  wloopp (b := b_date_pad_0 L K) I (fun _ _ _ => by kernel_rfl) hr hi
def p_date_pad (L : FuncId → List V → V → Prop) (K : V → Heap → Prop) (a0 a1 : V) (h : Heap) : Prop :=
    (wi F L (.call i_strconv_Itoa [(.c a0)]) E0 h fun v7 h =>
    (Wl F L lc_date_pad_0 (q_date_pad_0 L K) (upd (upd (upd (upd (enterE [a0, a1]) 4 (.str [])) 6 a0) 7 v7) 5 v7) h))
theorem run_date_pad {L : FuncId → List V → V → Prop} {K : V → Heap → Prop} {a0 a1 : V} {h : Heap} (hp : p_date_pad L K a0 a1 h) : Cf F L i_date_pad [a0, a1] h K :=
  wcallp F_date_pad (show 2 ≤ 15 by decide) (p := p_date_pad L K a0 a1 h) (by kernel_rfl) hp
def p_date_monthNames (L : FuncId → List V → V → Prop) (K : V → Heap → Prop) (h : Heap) : Prop :=
    (wi F L (.boxz [(.str []), (.str []), (.str []), (.str []), (.str []), (.str []), (.str []), (.str []), (.str []), (.str []), (.str []), (.str [])]) E0 h fun v0 h =>
    (wi F L (.build [(.str []), (.str []), (.str []), (.str []), (.str []), (.str []), (.str []), (.str []), (.str []), (.str []), (.str []), (.str [])] [(0, 1, (.c (.str [74, 97, 110]))), (1, 1, (.c (.str [70, 101, 98]))), (2, 1, (.c (.str [77, 97, 114]))), (3, 1, (.c (.str [65, 112, 114]))), (4, 1, (.c (.str [77, 97, 121]))), (5, 1, (.c (.str [74, 117, 110]))), (6, 1, (.c (.str [74, 117, 108]))), (7, 1, (.c (.str [65, 117, 103]))), (8, 1, (.c (.str [83, 101, 112]))), (9, 1, (.c (.str [79, 99, 116]))), (10, 1, (.c (.str [78, 111, 118]))), (11, 1, (.c (.str [68, 101, 99])))]) E0 h fun v1 h =>
    (wi F L (.store 12 (.c v0) (.c v1)) E0 h fun _ h =>
    (∃ v, resultsV h (enterE [v0]) [.cell 0 true 12] = some v ∧ K v h))))
theorem run_date_monthNames {L : FuncId → List V → V → Prop} {K : V → Heap → Prop} {h : Heap} (hp : p_date_monthNames L K  h) : Cf F L i_date_monthNames [] h K :=
  wcallp F_date_monthNames (show 0 ≤ 2 by decide) (p := p_date_monthNames L K  h) (by kernel_rfl) hp
def k_gatepostref02_Civil_2 (L : FuncId → List V → V → Prop) (K : V → Heap → Prop) (v0 v5 v6 : V) (h : Heap) : Prop :=
    (wi F L (.bin .add (.c v0) (.c (.int .i64 1))) E0 h fun v38 h =>
    (∃ v, resultsV h (enterE [v5, v6, v38]) [.tmp 0, .tmp 1, .tmp 2] = some v ∧ K v h))
def k_gatepostref02_Civil_3 (L : FuncId → List V → V → Prop) (K : V → Heap → Prop) (N0 : Env → Heap → Prop) (e : Env) (v0 v5 v6 : V) (h : Heap) : Prop :=
    (wi F L (.call i_gatepostref02_long [(.c v5), (.c v6)]) E0 h fun v31 h =>
    (wi F L (.bin .sub (.c v0) (.c v31)) E0 h fun v32 h =>
    (wi F L (.bin .add (.c v6) (.c (.int .i64 1))) E0 h fun v34 h =>
    (N0 (upd (upd (upd (upd (upd (upd (upd (upd (upd e 28 v0) 29 v5) 30 v6) 31 v31) 32 v32) 0 v32) 33 v6) 34 v34) 6 v34) h))))
def q_gatepostref02_Civil_0 (L : FuncId → List V → V → Prop) (K : V → Heap → Prop) : X → Env → Heap → Prop := (fun x => (seqX (fun e h => k_gatepostref02_Civil_2 L K (e 0) (e 5) (e 6) h) (retX c_gatepostref02_Civil.results K)) (X.out 2 x))
def lc_gatepostref02_Civil_0 : C :=
  (.seq (.seq (.region [⟨(some 23), none, .mv (.t 0)⟩, ⟨(some 24), none, .mv (.t 5)⟩, ⟨(some 25), none, .mv (.t 6)⟩, ⟨(some 26), none, .call i_gatepostref02_long [(.t 24), (.t 25)]⟩, ⟨(some 27), none, .bin .geq (.t 23) (.t 26)⟩])
  (.cond (.t 27)
    .skip
    (.exit 2)))
  (.block 3 (.seq (.region [⟨(some 28), none, .mv (.t 0)⟩, ⟨(some 29), none, .mv (.t 5)⟩, ⟨(some 30), none, .mv (.t 6)⟩, ⟨(some 31), none, .call i_gatepostref02_long [(.t 29), (.t 30)]⟩, ⟨(some 32), none, .bin .sub (.t 28) (.t 31)⟩, ⟨(some 0), none, .mv (.t 32)⟩])
  (.region [⟨(some 33), none, .mv (.t 6)⟩, ⟨(some 34), none, .bin .add (.t 33) (.c (.int .i64 1))⟩, ⟨(some 6), none, .mv (.t 34)⟩]))))
def b_gatepostref02_Civil_0 (L : FuncId → List V → V → Prop) (K : V → Heap → Prop) (N0 : Env → Heap → Prop) (e : Env) (h : Heap) : Prop :=
    (wi F L (.call i_gatepostref02_long [(.c (e 5)), (.c (e 6))]) E0 h fun v26 h =>
    (wi F L (.bin .geq (.c (e 0)) (.c v26)) E0 h fun v27 h =>
    (wb v27
    (k_gatepostref02_Civil_3 L K N0 (upd (upd (upd (upd (upd e 23 (e 0)) 24 (e 5)) 25 (e 6)) 26 v26) 27 v27) (e 0) (e 5) (e 6) h)
    (k_gatepostref02_Civil_2 L K (e 0) (e 5) (e 6) h))))
theorem l_gatepostref02_Civil_0 {L : FuncId → List V → V → Prop} {K : V → Heap → Prop} (I : Nat → Env → Heap → Prop) (hr : ∀ n e h, I n e h → b_gatepostref02_Civil_0 L K (fun e' h' => ∃ m, m < n ∧ I m e' h') e h) {n : Nat} {e : Env} {h : Heap} (hi : I n e h) : Wl F L lc_gatepostref02_Civil_0 (q_gatepostref02_Civil_0 L K) e h :=
  wloopp (b := b_gatepostref02_Civil_0 L K) I (fun _ _ _ => by kernel_rfl) hr hi
def k_gatepostref02_Civil_1 (L : FuncId → List V → V → Prop) (K : V → Heap → Prop) (e : Env) (h : Heap) : Prop :=
    (Wl F L lc_gatepostref02_Civil_0 (q_gatepostref02_Civil_0 L K) (upd e 6 (.int .i64 1)) h)
def k_gatepostref02_Civil_4 (L : FuncId → List V → V → Prop) (K : V → Heap → Prop) (N0 : Env → Heap → Prop) (e : Env) (v0 v5 : V) (h : Heap) : Prop :=
    (wi F L (.call i_gatepostref02_year [(.c v5)]) E0 h fun v19 h =>
    (wi F L (.bin .sub (.c v0) (.c v19)) E0 h fun v20 h =>
    (wi F L (.bin .add (.c v5) (.c (.int .i64 1))) E0 h fun v22 h =>
    (N0 (upd (upd (upd (upd (upd (upd (upd (upd e 17 v0) 18 v5) 19 v19) 20 v20) 0 v20) 21 v5) 22 v22) 5 v22) h))))
def q_gatepostref02_Civil_1 (L : FuncId → List V → V → Prop) (K : V → Heap → Prop) : X → Env → Heap → Prop := (fun x => (seqX (fun e h => k_gatepostref02_Civil_1 L K e  h) (retX c_gatepostref02_Civil.results K)) (X.out 0 x))
def lc_gatepostref02_Civil_1 : C :=
  (.seq (.seq (.region [⟨(some 13), none, .mv (.t 0)⟩, ⟨(some 14), none, .mv (.t 5)⟩, ⟨(some 15), none, .call i_gatepostref02_year [(.t 14)]⟩, ⟨(some 16), none, .bin .geq (.t 13) (.t 15)⟩])
  (.cond (.t 16)
    .skip
    (.exit 0)))
  (.block 1 (.seq (.region [⟨(some 17), none, .mv (.t 0)⟩, ⟨(some 18), none, .mv (.t 5)⟩, ⟨(some 19), none, .call i_gatepostref02_year [(.t 18)]⟩, ⟨(some 20), none, .bin .sub (.t 17) (.t 19)⟩, ⟨(some 0), none, .mv (.t 20)⟩])
  (.region [⟨(some 21), none, .mv (.t 5)⟩, ⟨(some 22), none, .bin .add (.t 21) (.c (.int .i64 1))⟩, ⟨(some 5), none, .mv (.t 22)⟩]))))
def b_gatepostref02_Civil_1 (L : FuncId → List V → V → Prop) (K : V → Heap → Prop) (N0 : Env → Heap → Prop) (e : Env) (h : Heap) : Prop :=
    (wi F L (.call i_gatepostref02_year [(.c (e 5))]) E0 h fun v15 h =>
    (wi F L (.bin .geq (.c (e 0)) (.c v15)) E0 h fun v16 h =>
    (wb v16
    (k_gatepostref02_Civil_4 L K N0 (upd (upd (upd (upd e 13 (e 0)) 14 (e 5)) 15 v15) 16 v16) (e 0) (e 5) h)
    (k_gatepostref02_Civil_1 L K (upd (upd (upd (upd e 13 (e 0)) 14 (e 5)) 15 v15) 16 v16)  h))))
theorem l_gatepostref02_Civil_1 {L : FuncId → List V → V → Prop} {K : V → Heap → Prop} (I : Nat → Env → Heap → Prop) (hr : ∀ n e h, I n e h → b_gatepostref02_Civil_1 L K (fun e' h' => ∃ m, m < n ∧ I m e' h') e h) {n : Nat} {e : Env} {h : Heap} (hi : I n e h) : Wl F L lc_gatepostref02_Civil_1 (q_gatepostref02_Civil_1 L K) e h :=
  wloopp (b := b_gatepostref02_Civil_1 L K) I (fun _ _ _ => by kernel_rfl) hr hi
def k_gatepostref02_Civil_0 (L : FuncId → List V → V → Prop) (K : V → Heap → Prop) (e : Env) (h : Heap) : Prop :=
    (Wl F L lc_gatepostref02_Civil_1 (q_gatepostref02_Civil_1 L K) (upd e 5 (.int .i64 1970)) h)
def p_gatepostref02_Civil (L : FuncId → List V → V → Prop) (K : V → Heap → Prop) (a0 : V) (h : Heap) : Prop :=
    (wi F L (.bin .lss (.c a0) (.c (.int .i64 0))) E0 h fun v8 h =>
    (wg v8 false (wi F L (.mv (.c a0)) E0 h) h fun v10 h =>
    (wg v8 false (wi F L (.bin .gtr (.c v10) (.c (.int .i64 2932896))) E0 h) h fun v11 h =>
    (wi F L (.pick (.c v8) (.c (.bool true)) (.c v11)) E0 h fun v12 h =>
    (wb v12
    (∃ v, resultsV h (enterE [(.int .i64 0), (.int .i64 0), (.int .i64 0)]) [.tmp 0, .tmp 1, .tmp 2] = some v ∧ K v h)
    (k_gatepostref02_Civil_0 L K (upd (upd (upd (upd (upd (upd (upd (upd (upd (enterE [a0]) 2 (.int .i64 0)) 3 (.int .i64 0)) 4 (.int .i64 0)) 7 a0) 8 v8) 9 v8) 10 v10) 11 v11) 12 v12)  h))))))
theorem run_gatepostref02_Civil {L : FuncId → List V → V → Prop} {K : V → Heap → Prop} {a0 : V} {h : Heap} (hp : p_gatepostref02_Civil L K a0 h) : Cf F L i_gatepostref02_Civil [a0] h K :=
  wcallp F_gatepostref02_Civil (show 1 ≤ 39 by decide) (p := p_gatepostref02_Civil L K a0 h) (by kernel_rfl) hp
def p_gatepostref02_two (L : FuncId → List V → V → Prop) (K : V → Heap → Prop) (a0 : V) (h : Heap) : Prop :=
    (wi F L (.bin .quo (.c a0) (.c (.int .i64 10))) E0 h fun v4 h' => Ext h h' ∧
    (wi F L (.bin .quo (.c a0) (.c (.int .i64 10))) E0 h' fun v6 h => Ext h' h ∧
    (wi F L (.bin .add (.c v6) (.c (.int .i64 1))) E0 h fun v7 h' => Ext h h' ∧
    (wi F L (.slstr (.c (.str [48, 49, 50, 51, 52, 53, 54, 55, 56, 57])) (some (.c v4)) (some (.c v7))) E0 h' fun v8 h => Ext h' h ∧
    (wi F L (.bin .rem (.c a0) (.c (.int .i64 10))) E0 h fun v10 h' => Ext h h' ∧
    (wi F L (.bin .rem (.c a0) (.c (.int .i64 10))) E0 h' fun v12 h => Ext h' h ∧
    (wi F L (.bin .add (.c v12) (.c (.int .i64 1))) E0 h fun v13 h' => Ext h h' ∧
    (wi F L (.slstr (.c (.str [48, 49, 50, 51, 52, 53, 54, 55, 56, 57])) (some (.c v10)) (some (.c v13))) E0 h' fun v14 h => Ext h' h ∧
    (wi F L (.bin .add (.c v8) (.c v14)) E0 h fun v15 h =>
    (∃ v, some v15 = some v ∧ K v h))))))))))
theorem run_gatepostref02_two {L : FuncId → List V → V → Prop} {K : V → Heap → Prop} {a0 : V} {h : Heap} (hp : p_gatepostref02_two L K a0 h) : Cf F L i_gatepostref02_two [a0] h K :=
  wcallp F_gatepostref02_two (show 1 ≤ 16 by decide) (p := p_gatepostref02_two L K a0 h) (by kernel_rfl) hp
def k_token_Lower_0 (L : FuncId → List V → V → Prop) (K : V → Heap → Prop) (v3 : V) (h : Heap) : Prop :=
    (wi F L (.toStr (.c v3)) E0 h fun v28 h =>
    (∃ v, some v28 = some v ∧ K v h))
def k_token_Lower_2 (L : FuncId → List V → V → Prop) (K : V → Heap → Prop) (N0 : Env → Heap → Prop) (e : Env) (v10 : V) (h : Heap) : Prop :=
    (wi F L (.bin .add (.c v10) (.c (.int .i64 1))) E0 h fun v26 h =>
    (N0 (upd (upd e 26 v26) 10 v26) h))
def k_token_Lower_1 (L : FuncId → List V → V → Prop) (K : V → Heap → Prop) (N0 : Env → Heap → Prop) (e : Env) (v3 v8 v10 : V) (h : Heap) : Prop :=
    (wi F L (.ixaSl 1 (.c v8) (.c v10)) E0 h fun v13 h =>
    (wi F L (.load false 1 (.c v13)) E0 h fun v14 h =>
    (wi F L (.bin .geq (.c v14) (.c (.int .u8 65))) E0 h fun v16 h =>
    (wg v16 true (wi F L (.mv (.c v14)) E0 h) h fun v18 h =>
    (wg v16 true (wi F L (.bin .leq (.c v18) (.c (.int .u8 90))) E0 h) h fun v19 h =>
    (wi F L (.pick (.c v16) (.c v19) (.c (.bool false))) E0 h fun v20 h =>
    (wb v20
    (wi F L (.bin .or (.c v14) (.c (.int .u8 32))) E0 h fun v24 h =>
    (wi F L (.ixaSl 1 (.c v3) (.c v10)) E0 h fun v25 h =>
    (wi F L (.store 1 (.c v25) (.c v24)) E0 h fun _ h =>
    (k_token_Lower_2 L K N0 (upd (upd (upd (upd (upd (upd (upd (upd (upd (upd (upd (upd (upd (upd (upd (upd e 12 v10) 13 v13) 14 v14) 4 v10) 5 v14) 15 v14) 16 v16) 17 v16) 18 v18) 19 v19) 20 v20) 21 v3) 22 v10) 23 v14) 24 v24) 25 v25) v10 h))))
    (k_token_Lower_2 L K N0 (upd (upd (upd (upd (upd (upd (upd (upd (upd (upd (upd e 12 v10) 13 v13) 14 v14) 4 v10) 5 v14) 15 v14) 16 v16) 17 v16) 18 v18) 19 v19) 20 v20) v10 h))))))))
def q_token_Lower_0 (L : FuncId → List V → V → Prop) (K : V → Heap → Prop) : X → Env → Heap → Prop := (fun x => (seqX (fun e h => k_token_Lower_0 L K (e 3) h) (retX c_token_Lower.results K)) (X.out 0 x))
def lc_token_Lower_0 : C :=
  (.seq (.region [⟨(some 11), none, .bin .lss (.t 10) (.t 9)⟩])
  (.seq (.cond (.t 11)
    .skip
    (.exit 0))
  (.seq (.block 1 (.seq (.region [⟨(some 12), none, .mv (.t 10)⟩, ⟨(some 13), none, .ixaSl 1 (.t 8) (.t 10)⟩, ⟨(some 14), none, .load false 1 (.t 13)⟩, ⟨(some 4), none, .mv (.t 12)⟩, ⟨(some 5), none, .mv (.t 14)⟩])
  (.seq (.region [⟨(some 15), none, .mv (.t 5)⟩, ⟨(some 16), none, .bin .geq (.t 15) (.c (.int .u8 65))⟩, ⟨(some 17), none, .mv (.t 16)⟩, ⟨(some 18), (some (17, true)), .mv (.t 5)⟩, ⟨(some 19), (some (17, true)), .bin .leq (.t 18) (.c (.int .u8 90))⟩, ⟨(some 20), none, .pick (.t 17) (.t 19) (.c (.bool false))⟩])
  (.cond (.t 20)
    (.region [⟨(some 21), none, .mv (.t 3)⟩, ⟨(some 22), none, .mv (.t 4)⟩, ⟨(some 23), none, .mv (.t 5)⟩, ⟨(some 24), none, .bin .or (.t 23) (.c (.int .u8 32))⟩, ⟨(some 25), none, .ixaSl 1 (.t 21) (.t 22)⟩, ⟨none, none, .store 1 (.t 25) (.t 24)⟩])
    .skip))))
  (.region [⟨(some 26), none, .bin .add (.t 10) (.c (.int .i64 1))⟩, ⟨(some 10), none, .mv (.t 26)⟩]))))
def b_token_Lower_0 (L : FuncId → List V → V → Prop) (K : V → Heap → Prop) (N0 : Env → Heap → Prop) (e : Env) (h : Heap) : Prop :=
    (wi F L (.bin .lss (.c (e 10)) (.c (e 9))) E0 h fun v11 h =>
    (wb v11
    (k_token_Lower_1 L K N0 (upd e 11 v11) (e 3) (e 8) (e 10) h)
    (k_token_Lower_0 L K (e 3) h)))
theorem l_token_Lower_0 {L : FuncId → List V → V → Prop} {K : V → Heap → Prop} (I : Nat → Env → Heap → Prop) (hr : ∀ n e h, I n e h → b_token_Lower_0 L K (fun e' h' => ∃ m, m < n ∧ I m e' h') e h) {n : Nat} {e : Env} {h : Heap} (hi : I n e h) : Wl F L lc_token_Lower_0 (q_token_Lower_0 L K) e h :=
  wloopp (b := b_token_Lower_0 L K) I (fun _ _ _ => by kernel_rfl) hr hi
def p_token_Lower (L : FuncId → List V → V → Prop) (K : V → Heap → Prop) (a0 : V) (h : Heap) : Prop :=
    (wi F L (.toBytes (.c a0)) E0 h fun v7 h =>
    (wi F L (.len 1 (.c v7)) E0 h fun v9 h =>
    (Wl F L lc_token_Lower_0 (q_token_Lower_0 L K) (upd (upd (upd (upd (upd (upd (upd (enterE [a0]) 2 (.str [])) 6 a0) 7 v7) 3 v7) 8 v7) 9 v9) 10 (.int .i64 0)) h)))
theorem run_token_Lower {L : FuncId → List V → V → Prop} {K : V → Heap → Prop} {a0 : V} {h : Heap} (hp : p_token_Lower L K a0 h) : Cf F L i_token_Lower [a0] h K :=
  wcallp F_token_Lower (show 1 ≤ 29 by decide) (p := p_token_Lower L K a0 h) (by kernel_rfl) hp
def k_token_Split_1_0 (L : FuncId → List V → V → Prop) (K : V → Heap → Prop) (v0 v2 : V) (h : Heap) : Prop :=
    (wi F L (.bin .add (.c v0) (.c (.int .i64 1))) E0 h fun v18 h =>
    (wi F L (.store 1 (.c v2) (.c v18)) E0 h fun _ h =>
    (∃ v, resultsV h (enterE []) [] = some v ∧ K v h)))
def p_token_Split_1 (L : FuncId → List V → V → Prop) (K : V → Heap → Prop) (a0 a1 a2 a3 : V) (h : Heap) : Prop :=
    (wi F L (.load false 1 (.c a1)) E0 h fun v6 h =>
    (wi F L (.load false 1 (.c a2)) E0 h fun v7 h =>
    (wi F L (.slstr (.c v6) (some (.c v7)) (some (.c a0))) E0 h fun v9 h =>
    (wi F L (.call i_token_Trim [(.c v9)]) E0 h fun v10 h =>
    (wi F L (.bin .neq (.c v10) (.c (.str []))) E0 h fun v12 h =>
    (wb v12
    (wi F L (.load false 1 (.c a3)) E0 h fun v13 h =>
    (wi F L (.bsl 1 [(.c v10)]) E0 h fun v15 h =>
    (wi F L (.app 1 16 false (.c v13) (.c v15)) E0 h fun v16 h =>
    (wi F L (.store 1 (.c a3) (.c v16)) E0 h fun _ h =>
    (k_token_Split_1_0 L K a0 a2 h)))))
    (k_token_Split_1_0 L K a0 a2 h)))))))
theorem run_token_Split_1 {L : FuncId → List V → V → Prop} {K : V → Heap → Prop} {a0 a1 a2 a3 : V} {h : Heap} (hp : p_token_Split_1 L K a0 a1 a2 a3 h) : Cf F L i_token_Split_1 [a0, a1, a2, a3] h K :=
  wcallp F_token_Split_1 (show 4 ≤ 19 by decide) (p := p_token_Split_1 L K a0 a1 a2 a3 h) (by kernel_rfl) hp
def p_token_Trim (L : FuncId → List V → V → Prop) (K : V → Heap → Prop) (a0 : V) (h : Heap) : Prop :=
    (wi F L (.call i_strings_Trim [(.c a0), (.c (.str [32, 9]))]) E0 h fun v4 h =>
    (∃ v, some v4 = some v ∧ K v h))
theorem run_token_Trim {L : FuncId → List V → V → Prop} {K : V → Heap → Prop} {a0 : V} {h : Heap} (hp : p_token_Trim L K a0 h) : Cf F L i_token_Trim [a0] h K :=
  wcallp F_token_Trim (show 1 ≤ 5 by decide) (p := p_token_Trim L K a0 h) (by kernel_rfl) hp
def k_slices_IndexFunc___string_string__0 (L : FuncId → List V → V → Prop) (K : V → Heap → Prop) (h : Heap) : Prop :=
    (∃ v, some (.int .i64 (-1)) = some v ∧ K v h)
def k_slices_IndexFunc___string_string__2 (L : FuncId → List V → V → Prop) (K : V → Heap → Prop) (N0 : Env → Heap → Prop) (e : Env) (v8 : V) (h : Heap) : Prop :=
    (wi F L (.bin .add (.c v8) (.c (.int .i64 1))) E0 h fun v18 h =>
    (N0 (upd (upd e 18 v18) 8 v18) h))
def k_slices_IndexFunc___string_string__1 (L : FuncId → List V → V → Prop) (K : V → Heap → Prop) (N0 : Env → Heap → Prop) (e : Env) (v0 v1 v8 : V) (h : Heap) : Prop :=
    (wi F L (.ixaSl 1 (.c v0) (.c v8)) E0 h fun v14 h =>
    (wi F L (.load false 1 (.c v14)) E0 h fun v15 h =>
    (wi F L (.callv (.c v1) [(.c v15)]) E0 h fun v16 h =>
    (wb v16
    (∃ v, some v8 = some v ∧ K v h)
    (k_slices_IndexFunc___string_string__2 L K N0 (upd (upd (upd (upd (upd (upd (upd (upd e 10 v8) 5 v8) 11 v1) 12 v0) 13 v8) 14 v14) 15 v15) 16 v16) v8 h)))))
def q_slices_IndexFunc___string_string__0 (L : FuncId → List V → V → Prop) (K : V → Heap → Prop) : X → Env → Heap → Prop := (fun x => (seqX (fun e h => k_slices_IndexFunc___string_string__0 L K  h) (retX c_slices_IndexFunc___string_string_.results K)) (X.out 0 x))
def lc_slices_IndexFunc___string_string__0 : C :=
  (.seq (.region [⟨(some 9), none, .bin .lss (.t 8) (.t 7)⟩])
  (.seq (.cond (.t 9)
    .skip
    (.exit 0))
  (.seq (.block 1 (.seq (.region [⟨(some 10), none, .mv (.t 8)⟩, ⟨(some 5), none, .mv (.t 10)⟩])
  (.seq (.region [⟨(some 11), none, .mv (.t 1)⟩, ⟨(some 12), none, .mv (.t 0)⟩, ⟨(some 13), none, .mv (.t 5)⟩, ⟨(some 14), none, .ixaSl 1 (.t 12) (.t 13)⟩, ⟨(some 15), none, .load false 1 (.t 14)⟩, ⟨(some 16), none, .callv (.t 11) [(.t 15)]⟩])
  (.cond (.t 16)
    (.seq (.region [⟨(some 17), none, .mv (.t 5)⟩, ⟨(some 4), none, .mv (.t 17)⟩])
    .ret)
    .skip))))
  (.region [⟨(some 18), none, .bin .add (.t 8) (.c (.int .i64 1))⟩, ⟨(some 8), none, .mv (.t 18)⟩]))))
def b_slices_IndexFunc___string_string__0 (L : FuncId → List V → V → Prop) (K : V → Heap → Prop) (N0 : Env → Heap → Prop) (e : Env) (h : Heap) : Prop :=
    (wi F L (.bin .lss (.c (e 8)) (.c (e 7))) E0 h fun v9 h =>
    (wb v9
    (k_slices_IndexFunc___string_string__1 L K N0 (upd e 9 v9) (e 0) (e 1) (e 8) h)
    (k_slices_IndexFunc___string_string__0 L K  h)))
theorem l_slices_IndexFunc___string_string__0 {L : FuncId → List V → V → Prop} {K : V → Heap → Prop} (I : Nat → Env → Heap → Prop) (hr : ∀ n e h, I n e h → b_slices_IndexFunc___string_string__0 L K (fun e' h' => ∃ m, m < n ∧ I m e' h') e h) {n : Nat} {e : Env} {h : Heap} (hi : I n e h) : Wl F L lc_slices_IndexFunc___string_string__0 (q_slices_IndexFunc___string_string__0 L K) e h :=
  wloopp (b := b_slices_IndexFunc___string_string__0 L K) I (fun _ _ _ => by kernel_rfl) hr hi
def p_slices_IndexFunc___string_string_ (L : FuncId → List V → V → Prop) (K : V → Heap → Prop) (a0 a1 : V) (h : Heap) : Prop :=
    (wi F L (.len 1 (.c a0)) E0 h fun v7 h =>
    (Wl F L lc_slices_IndexFunc___string_string__0 (q_slices_IndexFunc___string_string__0 L K) (upd (upd (upd (upd (enterE [a0, a1]) 4 (.int .i64 0)) 6 a0) 7 v7) 8 (.int .i64 0)) h))
theorem run_slices_IndexFunc___string_string_ {L : FuncId → List V → V → Prop} {K : V → Heap → Prop} {a0 a1 : V} {h : Heap} (hp : p_slices_IndexFunc___string_string_ L K a0 a1 h) : Cf F L i_slices_IndexFunc___string_string_ [a0, a1] h K :=
  wcallp F_slices_IndexFunc___string_string_ (show 2 ≤ 19 by decide) (p := p_slices_IndexFunc___string_string_ L K a0 a1 h) (by kernel_rfl) hp
def k___gatepost_date_reader__day_0 (L : FuncId → List V → V → Prop) (K : V → Heap → Prop) (v0 : V) (h : Heap) : Prop :=
    (wi F L (.nilck (.c v0)) E0 h fun v42 h =>
    (wi F L (.faddr 1 (.c v42)) E0 h fun v43 h =>
    (wi F L (.store 1 (.c v43) (.c (.bool false))) E0 h fun _ h =>
    (∃ v, some (.int .i64 0) = some v ∧ K v h))))
def k___gatepost_date_reader__day_2 (L : FuncId → List V → V → Prop) (K : V → Heap → Prop) (N0 : Env → Heap → Prop) (e : Env) (v8 : V) (h : Heap) : Prop :=
    (wi F L (.bin .add (.c v8) (.c (.int .i64 1))) E0 h fun v40 h =>
    (N0 (upd (upd e 40 v40) 8 v40) h))
def k___gatepost_date_reader__day_3 (L : FuncId → List V → V → Prop) (K : V → Heap → Prop) (N0 : Env → Heap → Prop) (e : Env) (v0 v5 v6 v8 : V) (h : Heap) : Prop :=
    (wi F L (.nilck (.c v0)) E0 h fun v17 h =>
    (wi F L (.faddr 0 (.c v17)) E0 h fun v18 h =>
    (wi F L (.load false 1 (.c v18)) E0 h fun v19 h =>
    (wi F L (.len 0 (.c v19)) E0 h fun v20 h =>
    (wi F L (.len 0 (.c v6)) E0 h fun v22 h =>
    (wi F L (.bin .gtr (.c v20) (.c v22)) E0 h fun v23 h =>
    (wg v23 true (wi F L (.mv (.c v0)) E0 h) h fun v25 h =>
    (wg v23 true (wi F L (.nilck (.c v25)) E0 h) h fun v26 h =>
    (wg v23 true (wi F L (.faddr 0 (.c v26)) E0 h) h fun v27 h =>
    (wg v23 true (wi F L (.load false 1 (.c v27)) E0 h) h fun v28 h =>
    (wg v23 true (wi F L (.mv (.c v6)) E0 h) h fun v29 h =>
    (wg v23 true (wi F L (.len 0 (.c v29)) E0 h) h fun v30 h =>
    (wg v23 true (wi F L (.slstr (.c v28) none (some (.c v30))) E0 h) h fun v31 h =>
    (wg v23 true (wi F L (.mv (.c v6)) E0 h) h fun v32 h =>
    (wg v23 true (wi F L (.bin .eql (.c v31) (.c v32)) E0 h) h fun v33 h =>
    (wi F L (.pick (.c v23) (.c v33) (.c (.bool false))) E0 h fun v34 h =>
    (wb v34
    (wi F L (.len 0 (.c v6)) E0 h fun v37 h =>
    (wi F L (.call i___gatepost_date_reader__take [(.c v0), (.c v37)]) E0 h fun v38 h =>
    (∃ v, some v5 = some v ∧ K v h)))
    (k___gatepost_date_reader__day_2 L K N0 (upd (upd (upd (upd (upd (upd (upd (upd (upd (upd (upd (upd (upd (upd (upd (upd (upd (upd (upd e 16 v0) 17 v17) 18 v18) 19 v19) 20 v20) 21 v6) 22 v22) 23 v23) 24 v23) 25 v25) 26 v26) 27 v27) 28 v28) 29 v29) 30 v30) 31 v31) 32 v32) 33 v33) 34 v34) v8 h))))))))))))))))))
def k___gatepost_date_reader__day_1 (L : FuncId → List V → V → Prop) (K : V → Heap → Prop) (N0 : Env → Heap → Prop) (e : Env) (v0 v1 v7 v8 : V) (h : Heap) : Prop :=
    (wi F L (.ixArr 7 1 false (.c v7) (.c v8)) E0 h fun v11 h =>
    (wi F L (.un .not (.c v1)) E0 h fun v13 h =>
    (wb v13
    (wi F L (.slstr (.c v11) none (some (.c (.int .i64 3)))) E0 h fun v15 h =>
    (k___gatepost_date_reader__day_3 L K N0 (upd (upd (upd (upd (upd (upd (upd (upd (upd e 10 v8) 11 v11) 5 v8) 6 v11) 12 v1) 13 v13) 14 v11) 15 v15) 6 v15) v0 v8 v15 v8 h))
    (k___gatepost_date_reader__day_3 L K N0 (upd (upd (upd (upd (upd (upd e 10 v8) 11 v11) 5 v8) 6 v11) 12 v1) 13 v13) v0 v8 v11 v8 h))))
def q___gatepost_date_reader__day_0 (L : FuncId → List V → V → Prop) (K : V → Heap → Prop) : X → Env → Heap → Prop := (fun x => (seqX (fun e h => k___gatepost_date_reader__day_0 L K (e 0) h) (retX c___gatepost_date_reader__day.results K)) (X.out 0 x))
def lc___gatepost_date_reader__day_0 : C :=
  (.seq (.region [⟨(some 9), none, .bin .lss (.t 8) (.c (.int .i64 7))⟩])
  (.seq (.cond (.t 9)
    .skip
    (.exit 0))
  (.seq (.block 1 (.seq (.region [⟨(some 10), none, .mv (.t 8)⟩, ⟨(some 11), none, .ixArr 7 1 false (.t 7) (.t 8)⟩, ⟨(some 5), none, .mv (.t 10)⟩, ⟨(some 6), none, .mv (.t 11)⟩])
  (.seq (.seq (.region [⟨(some 12), none, .mv (.t 1)⟩, ⟨(some 13), none, .un .not (.t 12)⟩])
  (.cond (.t 13)
    (.region [⟨(some 14), none, .mv (.t 6)⟩, ⟨(some 15), none, .slstr (.t 14) none (some (.c (.int .i64 3)))⟩, ⟨(some 6), none, .mv (.t 15)⟩])
    .skip))
  (.seq (.region [⟨(some 16), none, .mv (.t 0)⟩, ⟨(some 17), none, .nilck (.t 16)⟩, ⟨(some 18), none, .faddr 0 (.t 17)⟩, ⟨(some 19), none, .load false 1 (.t 18)⟩, ⟨(some 20), none, .len 0 (.t 19)⟩, ⟨(some 21), none, .mv (.t 6)⟩, ⟨(some 22), none, .len 0 (.t 21)⟩, ⟨(some 23), none, .bin .gtr (.t 20) (.t 22)⟩, ⟨(some 24), none, .mv (.t 23)⟩, ⟨(some 25), (some (24, true)), .mv (.t 0)⟩, ⟨(some 26), (some (24, true)), .nilck (.t 25)⟩, ⟨(some 27), (some (24, true)), .faddr 0 (.t 26)⟩, ⟨(some 28), (some (24, true)), .load false 1 (.t 27)⟩, ⟨(some 29), (some (24, true)), .mv (.t 6)⟩, ⟨(some 30), (some (24, true)), .len 0 (.t 29)⟩, ⟨(some 31), (some (24, true)), .slstr (.t 28) none (some (.t 30))⟩, ⟨(some 32), (some (24, true)), .mv (.t 6)⟩, ⟨(some 33), (some (24, true)), .bin .eql (.t 31) (.t 32)⟩, ⟨(some 34), none, .pick (.t 24) (.t 33) (.c (.bool false))⟩])
  (.cond (.t 34)
    (.seq (.region [⟨(some 35), none, .mv (.t 0)⟩, ⟨(some 36), none, .mv (.t 6)⟩, ⟨(some 37), none, .len 0 (.t 36)⟩, ⟨(some 38), none, .call i___gatepost_date_reader__take [(.t 35), (.t 37)]⟩])
    (.seq (.region [⟨(some 39), none, .mv (.t 5)⟩, ⟨(some 4), none, .mv (.t 39)⟩])
    .ret))
    .skip)))))
  (.region [⟨(some 40), none, .bin .add (.t 8) (.c (.int .i64 1))⟩, ⟨(some 8), none, .mv (.t 40)⟩]))))
def b___gatepost_date_reader__day_0 (L : FuncId → List V → V → Prop) (K : V → Heap → Prop) (N0 : Env → Heap → Prop) (e : Env) (h : Heap) : Prop :=
    (wi F L (.bin .lss (.c (e 8)) (.c (.int .i64 7))) E0 h fun v9 h =>
    (wb v9
    (k___gatepost_date_reader__day_1 L K N0 (upd e 9 v9) (e 0) (e 1) (e 7) (e 8) h)
    (k___gatepost_date_reader__day_0 L K (e 0) h)))
theorem l___gatepost_date_reader__day_0 {L : FuncId → List V → V → Prop} {K : V → Heap → Prop} (I : Nat → Env → Heap → Prop) (hr : ∀ n e h, I n e h → b___gatepost_date_reader__day_0 L K (fun e' h' => ∃ m, m < n ∧ I m e' h') e h) {n : Nat} {e : Env} {h : Heap} (hi : I n e h) : Wl F L lc___gatepost_date_reader__day_0 (q___gatepost_date_reader__day_0 L K) e h :=
  wloopp (b := b___gatepost_date_reader__day_0 L K) I (fun _ _ _ => by kernel_rfl) hr hi
def p___gatepost_date_reader__day (L : FuncId → List V → V → Prop) (K : V → Heap → Prop) (a0 a1 : V) (h : Heap) : Prop :=
    (wi F L (.call i_date_longDays []) E0 h fun v7 h =>
    (Wl F L lc___gatepost_date_reader__day_0 (q___gatepost_date_reader__day_0 L K) (upd (upd (upd (enterE [a0, a1]) 4 (.int .i64 0)) 7 v7) 8 (.int .i64 0)) h))
theorem run___gatepost_date_reader__day {L : FuncId → List V → V → Prop} {K : V → Heap → Prop} {a0 a1 : V} {h : Heap} (hp : p___gatepost_date_reader__day L K a0 a1 h) : Cf F L i___gatepost_date_reader__day [a0, a1] h K :=
  wcallp F___gatepost_date_reader__day (show 2 ≤ 44 by decide) (p := p___gatepost_date_reader__day L K a0 a1 h) (by kernel_rfl) hp
def p___gatepost_date_reader__need (L : FuncId → List V → V → Prop) (K : V → Heap → Prop) (a0 a1 : V) (h : Heap) : Prop :=
    (wi F L (.len 0 (.c a1)) E0 h fun v6 h =>
    (wi F L (.call i___gatepost_date_reader__take [(.c a0), (.c v6)]) E0 h fun v7 h =>
    (wi F L (.bin .neq (.c v7) (.c a1)) E0 h fun v9 h =>
    (wb v9
    (wi F L (.nilck (.c a0)) E0 h fun v11 h =>
    (wi F L (.faddr 1 (.c v11)) E0 h fun v12 h =>
    (wi F L (.store 1 (.c v12) (.c (.bool false))) E0 h fun _ h =>
    (∃ v, resultsV h (enterE []) [] = some v ∧ K v h))))
    (∃ v, resultsV h (enterE []) [] = some v ∧ K v h)))))
theorem run___gatepost_date_reader__need {L : FuncId → List V → V → Prop} {K : V → Heap → Prop} {a0 a1 : V} {h : Heap} (hp : p___gatepost_date_reader__need L K a0 a1 h) : Cf F L i___gatepost_date_reader__need [a0, a1] h K :=
  wcallp F___gatepost_date_reader__need (show 2 ≤ 13 by decide) (p := p___gatepost_date_reader__need L K a0 a1 h) (by kernel_rfl) hp
def k___gatepost_date_reader__number_0 (L : FuncId → List V → V → Prop) (K : V → Heap → Prop) (v6 : V) (h : Heap) : Prop :=
    (wi F L (.load false 1 (.c v6)) E0 h fun v24 h =>
    (∃ v, some v24 = some v ∧ K v h))
def k___gatepost_date_reader__number_2 (L : FuncId → List V → V → Prop) (K : V → Heap → Prop) (N0 : Env → Heap → Prop) (e : Env) (v15 : V) (h : Heap) : Prop :=
    (wi F L (.bin .add (.c v15) (.c (.int .i64 1))) E0 h fun v23 h =>
    (N0 (upd (upd e 23 v23) 15 v23) h))
def k___gatepost_date_reader__number_1 (L : FuncId → List V → V → Prop) (K : V → Heap → Prop) (N0 : Env → Heap → Prop) (e : Env) (v5 v7 v15 : V) (h : Heap) : Prop :=
    (wi F L (.ixStr (.c v5) (.c v15)) E0 h fun v21 h =>
    (wi F L (.callv (.c v7) [(.c v21)]) E0 h fun v22 h =>
    (k___gatepost_date_reader__number_2 L K N0 (upd (upd (upd (upd (upd (upd (upd e 17 v15) 8 v15) 18 v7) 19 v5) 20 v15) 21 v21) 22 v22) v15 h)))
def q___gatepost_date_reader__number_0 (L : FuncId → List V → V → Prop) (K : V → Heap → Prop) : X → Env → Heap → Prop := (fun x => (seqX (fun e h => k___gatepost_date_reader__number_0 L K (e 6) h) (retX c___gatepost_date_reader__number.results K)) (X.out 0 x))
def lc___gatepost_date_reader__number_0 : C :=
  (.seq (.region [⟨(some 16), none, .bin .lss (.t 15) (.t 14)⟩])
  (.seq (.cond (.t 16)
    .skip
    (.exit 0))
  (.seq (.block 1 (.seq (.region [⟨(some 17), none, .mv (.t 15)⟩, ⟨(some 8), none, .mv (.t 17)⟩])
  (.region [⟨(some 18), none, .mv (.t 7)⟩, ⟨(some 19), none, .mv (.t 5)⟩, ⟨(some 20), none, .mv (.t 8)⟩, ⟨(some 21), none, .ixStr (.t 19) (.t 20)⟩, ⟨(some 22), none, .callv (.t 18) [(.t 21)]⟩])))
  (.region [⟨(some 23), none, .bin .add (.t 15) (.c (.int .i64 1))⟩, ⟨(some 15), none, .mv (.t 23)⟩]))))
def b___gatepost_date_reader__number_0 (L : FuncId → List V → V → Prop) (K : V → Heap → Prop) (N0 : Env → Heap → Prop) (e : Env) (h : Heap) : Prop :=
    (wi F L (.bin .lss (.c (e 15)) (.c (e 14))) E0 h fun v16 h =>
    (wb v16
    (k___gatepost_date_reader__number_1 L K N0 (upd e 16 v16) (e 5) (e 7) (e 15) h)
    (k___gatepost_date_reader__number_0 L K (e 6) h)))
theorem l___gatepost_date_reader__number_0 {L : FuncId → List V → V → Prop} {K : V → Heap → Prop} (I : Nat → Env → Heap → Prop) (hr : ∀ n e h, I n e h → b___gatepost_date_reader__number_0 L K (fun e' h' => ∃ m, m < n ∧ I m e' h') e h) {n : Nat} {e : Env} {h : Heap} (hi : I n e h) : Wl F L lc___gatepost_date_reader__number_0 (q___gatepost_date_reader__number_0 L K) e h :=
  wloopp (b := b___gatepost_date_reader__number_0 L K) I (fun _ _ _ => by kernel_rfl) hr hi
def p___gatepost_date_reader__number (L : FuncId → List V → V → Prop) (K : V → Heap → Prop) (a0 a1 : V) (h : Heap) : Prop :=
    (wi F L (.box (.c a0)) E0 h fun v2 h =>
    (wi F L (.load false 1 (.c v2)) E0 h fun v9 h =>
    (wi F L (.call i___gatepost_date_reader__take [(.c v9), (.c a1)]) E0 h fun v11 h =>
    (wi F L (.boxz [(.int .i64 0)]) E0 h fun v6 h =>
    (wi F L (.store 1 (.c v6) (.c (.int .i64 0))) E0 h fun _ h =>
    (wi F L (.mkfn i___gatepost_date_reader__number_1 [(.c v2), (.c v6)]) E0 h fun v12 h =>
    (wi F L (.len 0 (.c v11)) E0 h fun v14 h =>
    (Wl F L lc___gatepost_date_reader__number_0 (q___gatepost_date_reader__number_0 L K) (upd (upd (upd (upd (upd (upd (upd (upd (upd (upd (upd (upd (enterE [a0, a1]) 2 v2) 4 (.int .i64 0)) 9 v9) 10 a1) 11 v11) 5 v11) 6 v6) 12 v12) 7 v12) 13 v11) 14 v14) 15 (.int .i64 0)) h))))))))
theorem run___gatepost_date_reader__number {L : FuncId → List V → V → Prop} {K : V → Heap → Prop} {a0 a1 : V} {h : Heap} (hp : p___gatepost_date_reader__number L K a0 a1 h) : Cf F L i___gatepost_date_reader__number [a0, a1] h K :=
  wcallp F___gatepost_date_reader__number (show 2 ≤ 25 by decide) (p := p___gatepost_date_reader__number L K a0 a1 h) (by kernel_rfl) hp
def k___gatepost_date_reader__month_0 (L : FuncId → List V → V → Prop) (K : V → Heap → Prop) (v0 : V) (h : Heap) : Prop :=
    (wi F L (.nilck (.c v0)) E0 h fun v20 h =>
    (wi F L (.faddr 1 (.c v20)) E0 h fun v21 h =>
    (wi F L (.store 1 (.c v21) (.c (.bool false))) E0 h fun _ h =>
    (∃ v, some (.int .i64 0) = some v ∧ K v h))))
def k___gatepost_date_reader__month_2 (L : FuncId → List V → V → Prop) (K : V → Heap → Prop) (N0 : Env → Heap → Prop) (e : Env) (v9 : V) (h : Heap) : Prop :=
    (wi F L (.bin .add (.c v9) (.c (.int .i64 1))) E0 h fun v18 h =>
    (N0 (upd (upd e 18 v18) 9 v18) h))
def k___gatepost_date_reader__month_1 (L : FuncId → List V → V → Prop) (K : V → Heap → Prop) (N0 : Env → Heap → Prop) (e : Env) (v3 v8 v9 : V) (h : Heap) : Prop :=
    (wi F L (.ixArr 12 1 false (.c v8) (.c v9)) E0 h fun v12 h =>
    (wi F L (.bin .eql (.c v12) (.c v3)) E0 h fun v15 h =>
    (wb v15
    (wi F L (.bin .add (.c v9) (.c (.int .i64 1))) E0 h fun v17 h =>
    (∃ v, some v17 = some v ∧ K v h))
    (k___gatepost_date_reader__month_2 L K N0 (upd (upd (upd (upd (upd (upd (upd e 11 v9) 12 v12) 4 v9) 5 v12) 13 v12) 14 v3) 15 v15) v9 h))))
def q___gatepost_date_reader__month_0 (L : FuncId → List V → V → Prop) (K : V → Heap → Prop) : X → Env → Heap → Prop := (fun x => (seqX (fun e h => k___gatepost_date_reader__month_0 L K (e 0) h) (retX c___gatepost_date_reader__month.results K)) (X.out 0 x))
def lc___gatepost_date_reader__month_0 : C :=
  (.seq (.region [⟨(some 10), none, .bin .lss (.t 9) (.c (.int .i64 12))⟩])
  (.seq (.cond (.t 10)
    .skip
    (.exit 0))
  (.seq (.block 1 (.seq (.region [⟨(some 11), none, .mv (.t 9)⟩, ⟨(some 12), none, .ixArr 12 1 false (.t 8) (.t 9)⟩, ⟨(some 4), none, .mv (.t 11)⟩, ⟨(some 5), none, .mv (.t 12)⟩])
  (.seq (.region [⟨(some 13), none, .mv (.t 5)⟩, ⟨(some 14), none, .mv (.t 3)⟩, ⟨(some 15), none, .bin .eql (.t 13) (.t 14)⟩])
  (.cond (.t 15)
    (.seq (.region [⟨(some 16), none, .mv (.t 4)⟩, ⟨(some 17), none, .bin .add (.t 16) (.c (.int .i64 1))⟩, ⟨(some 2), none, .mv (.t 17)⟩])
    .ret)
    .skip))))
  (.region [⟨(some 18), none, .bin .add (.t 9) (.c (.int .i64 1))⟩, ⟨(some 9), none, .mv (.t 18)⟩]))))
def b___gatepost_date_reader__month_0 (L : FuncId → List V → V → Prop) (K : V → Heap → Prop) (N0 : Env → Heap → Prop) (e : Env) (h : Heap) : Prop :=
    (wi F L (.bin .lss (.c (e 9)) (.c (.int .i64 12))) E0 h fun v10 h =>
    (wb v10
    (k___gatepost_date_reader__month_1 L K N0 (upd e 10 v10) (e 3) (e 8) (e 9) h)
    (k___gatepost_date_reader__month_0 L K (e 0) h)))
theorem l___gatepost_date_reader__month_0 {L : FuncId → List V → V → Prop} {K : V → Heap → Prop} (I : Nat → Env → Heap → Prop) (hr : ∀ n e h, I n e h → b___gatepost_date_reader__month_0 L K (fun e' h' => ∃ m, m < n ∧ I m e' h') e h) {n : Nat} {e : Env} {h : Heap} (hi : I n e h) : Wl F L lc___gatepost_date_reader__month_0 (q___gatepost_date_reader__month_0 L K) e h :=
  wloopp (b := b___gatepost_date_reader__month_0 L K) I (fun _ _ _ => by kernel_rfl) hr hi
def p___gatepost_date_reader__month (L : FuncId → List V → V → Prop) (K : V → Heap → Prop) (a0 : V) (h : Heap) : Prop :=
    (wi F L (.call i___gatepost_date_reader__take [(.c a0), (.c (.int .i64 3))]) E0 h fun v7 h =>
    (wi F L (.call i_date_monthNames []) E0 h fun v8 h =>
    (Wl F L lc___gatepost_date_reader__month_0 (q___gatepost_date_reader__month_0 L K) (upd (upd (upd (upd (upd (upd (enterE [a0]) 2 (.int .i64 0)) 6 a0) 7 v7) 3 v7) 8 v8) 9 (.int .i64 0)) h)))
theorem run___gatepost_date_reader__month {L : FuncId → List V → V → Prop} {K : V → Heap → Prop} {a0 : V} {h : Heap} (hp : p___gatepost_date_reader__month L K a0 h) : Cf F L i___gatepost_date_reader__month [a0] h K :=
  wcallp F___gatepost_date_reader__month (show 1 ≤ 22 by decide) (p := p___gatepost_date_reader__month L K a0 h) (by kernel_rfl) hp
def k___gatepost_date_reader__clock_0 (L : FuncId → List V → V → Prop) (K : V → Heap → Prop) (v3 v4 v5 : V) (h : Heap) : Prop :=
    (wi F L (.bin .mul (.c v3) (.c (.int .i64 3600))) E0 h fun v30 h =>
    (wi F L (.bin .mul (.c v4) (.c (.int .i64 60))) E0 h fun v32 h =>
    (wi F L (.bin .add (.c v30) (.c v32)) E0 h fun v33 h =>
    (wi F L (.mn [(.c v5), (.c (.int .i64 59))]) E0 h fun v35 h =>
    (wi F L (.bin .add (.c v33) (.c v35)) E0 h fun v36 h =>
    (∃ v, some v36 = some v ∧ K v h))))))
def p___gatepost_date_reader__clock (L : FuncId → List V → V → Prop) (K : V → Heap → Prop) (a0 : V) (h : Heap) : Prop :=
    (wi F L (.call i___gatepost_date_reader__number [(.c a0), (.c (.int .i64 2))]) E0 h fun v7 h =>
    (wi F L (.call i___gatepost_date_reader__need [(.c a0), (.c (.str [58]))]) E0 h fun v9 h =>
    (wi F L (.call i___gatepost_date_reader__number [(.c a0), (.c (.int .i64 2))]) E0 h fun v11 h =>
    (wi F L (.call i___gatepost_date_reader__need [(.c a0), (.c (.str [58]))]) E0 h fun v13 h =>
    (wi F L (.call i___gatepost_date_reader__number [(.c a0), (.c (.int .i64 2))]) E0 h fun v15 h =>
    (wi F L (.bin .geq (.c v7) (.c (.int .i64 24))) E0 h fun v17 h =>
    (wg v17 false (wi F L (.mv (.c v11)) E0 h) h fun v19 h =>
    (wg v17 false (wi F L (.bin .geq (.c v19) (.c (.int .i64 60))) E0 h) h fun v20 h =>
    (wi F L (.pick (.c v17) (.c (.bool true)) (.c v20)) E0 h fun v21 h =>
    (wg v21 false (wi F L (.mv (.c v15)) E0 h) h fun v23 h =>
    (wg v21 false (wi F L (.bin .gtr (.c v23) (.c (.int .i64 60))) E0 h) h fun v24 h =>
    (wi F L (.pick (.c v21) (.c (.bool true)) (.c v24)) E0 h fun v25 h =>
    (wb v25
    (wi F L (.nilck (.c a0)) E0 h fun v27 h =>
    (wi F L (.faddr 1 (.c v27)) E0 h fun v28 h =>
    (wi F L (.store 1 (.c v28) (.c (.bool false))) E0 h fun _ h =>
    (k___gatepost_date_reader__clock_0 L K v7 v11 v15 h))))
    (k___gatepost_date_reader__clock_0 L K v7 v11 v15 h))))))))))))))
theorem run___gatepost_date_reader__clock {L : FuncId → List V → V → Prop} {K : V → Heap → Prop} {a0 : V} {h : Heap} (hp : p___gatepost_date_reader__clock L K a0 h) : Cf F L i___gatepost_date_reader__clock [a0] h K :=
  wcallp F___gatepost_date_reader__clock (show 1 ≤ 37 by decide) (p := p___gatepost_date_reader__clock L K a0 h) (by kernel_rfl) hp
def k___gatepost_date_reader__second_0 (L : FuncId → List V → V → Prop) (K : V → Heap → Prop) (v5 v14 : V) (h : Heap) : Prop :=
    (wi F L (.bin .mul (.c v14) (.c (.int .i64 86400))) E0 h fun v43 h =>
    (wi F L (.bin .add (.c v43) (.c v5)) E0 h fun v45 h =>
    (∃ v, resultsV h (enterE [v45, (.bool true)]) [.tmp 0, .tmp 1] = some v ∧ K v h)))
def p___gatepost_date_reader__second (L : FuncId → List V → V → Prop) (K : V → Heap → Prop) (a0 a1 a2 a3 a4 a5 : V) (h : Heap) : Prop :=
    (wi F L (.call i_date_Days [(.c a2), (.c a3), (.c a4)]) E0 h fun v18 h =>
    (wi F L (.nilck (.c a0)) E0 h fun v20 h =>
    (wi F L (.faddr 1 (.c v20)) E0 h fun v21 h =>
    (wi F L (.load false 1 (.c v21)) E0 h fun v22 h =>
    (wi F L (.un .not (.c v22)) E0 h fun v23 h =>
    (wg v23 false (wi F L (.mv (.c a0)) E0 h) h fun v25 h =>
    (wg v23 false (wi F L (.nilck (.c v25)) E0 h) h fun v26 h =>
    (wg v23 false (wi F L (.faddr 0 (.c v26)) E0 h) h fun v27 h =>
    (wg v23 false (wi F L (.load false 1 (.c v27)) E0 h) h fun v28 h =>
    (wg v23 false (wi F L (.bin .neq (.c v28) (.c (.str []))) E0 h) h fun v29 h =>
    (wi F L (.pick (.c v23) (.c (.bool true)) (.c v29)) E0 h fun v30 h =>
    (wg v30 false (wi F L (.mv (.c v18)) E0 h) h fun v32 h =>
    (wg v30 false (wi F L (.bin .lss (.c v32) (.c (.int .i64 0))) E0 h) h fun v33 h =>
    (wi F L (.pick (.c v30) (.c (.bool true)) (.c v33)) E0 h fun v34 h =>
    (wg v34 false (wi F L (.mv (.c v18)) E0 h) h fun v36 h =>
    (wg v34 false (wi F L (.bin .add (.c v36) (.c (.int .i64 3))) E0 h) h fun v37 h =>
    (wg v34 false (wi F L (.bin .rem (.c v37) (.c (.int .i64 7))) E0 h) h fun v38 h =>
    (wg v34 false (wi F L (.mv (.c a1)) E0 h) h fun v39 h =>
    (wg v34 false (wi F L (.bin .neq (.c v38) (.c v39)) E0 h) h fun v40 h =>
    (wi F L (.pick (.c v34) (.c (.bool true)) (.c v40)) E0 h fun v41 h =>
    (wb v41
    (∃ v, resultsV h (enterE [(.int .i64 0), (.bool false)]) [.tmp 0, .tmp 1] = some v ∧ K v h)
    (k___gatepost_date_reader__second_0 L K a5 v18 h))))))))))))))))))))))
theorem run___gatepost_date_reader__second {L : FuncId → List V → V → Prop} {K : V → Heap → Prop} {a0 a1 a2 a3 a4 a5 : V} {h : Heap} (hp : p___gatepost_date_reader__second L K a0 a1 a2 a3 a4 a5 h) : Cf F L i___gatepost_date_reader__second [a0, a1, a2, a3, a4, a5] h K :=
  wcallp F___gatepost_date_reader__second (show 6 ≤ 46 by decide) (p := p___gatepost_date_reader__second L K a0 a1 a2 a3 a4 a5 h) (by kernel_rfl) hp
def k___gatepost_date_reader__take_0 (L : FuncId → List V → V → Prop) (K : V → Heap → Prop) (v0 v1 : V) (h : Heap) : Prop :=
    (wi F L (.nilck (.c v0)) E0 h fun v17 h =>
    (wi F L (.faddr 0 (.c v17)) E0 h fun v18 h =>
    (wi F L (.load false 1 (.c v18)) E0 h fun v19 h =>
    (wi F L (.slstr (.c v19) none (some (.c v1))) E0 h fun v21 h =>
    (wi F L (.nilck (.c v0)) E0 h fun v24 h =>
    (wi F L (.faddr 0 (.c v24)) E0 h fun v25 h =>
    (wi F L (.load false 1 (.c v25)) E0 h fun v26 h =>
    (wi F L (.slstr (.c v26) (some (.c v1)) none) E0 h fun v28 h =>
    (wi F L (.nilck (.c v0)) E0 h fun v29 h =>
    (wi F L (.faddr 0 (.c v29)) E0 h fun v30 h =>
    (wi F L (.store 1 (.c v30) (.c v28)) E0 h fun _ h =>
    (∃ v, some v21 = some v ∧ K v h))))))))))))
def p___gatepost_date_reader__take (L : FuncId → List V → V → Prop) (K : V → Heap → Prop) (a0 a1 : V) (h : Heap) : Prop :=
    (wi F L (.nilck (.c a0)) E0 h fun v7 h =>
    (wi F L (.faddr 0 (.c v7)) E0 h fun v8 h =>
    (wi F L (.load false 1 (.c v8)) E0 h fun v9 h =>
    (wi F L (.len 0 (.c v9)) E0 h fun v10 h =>
    (wi F L (.bin .lss (.c v10) (.c a1)) E0 h fun v12 h =>
    (wb v12
    (wi F L (.nilck (.c a0)) E0 h fun v14 h =>
    (wi F L (.faddr 1 (.c v14)) E0 h fun v15 h =>
    (wi F L (.store 1 (.c v15) (.c (.bool false))) E0 h fun _ h =>
    (∃ v, some (.str []) = some v ∧ K v h))))
    (k___gatepost_date_reader__take_0 L K a0 a1 h)))))))
theorem run___gatepost_date_reader__take {L : FuncId → List V → V → Prop} {K : V → Heap → Prop} {a0 a1 : V} {h : Heap} (hp : p___gatepost_date_reader__take L K a0 a1 h) : Cf F L i___gatepost_date_reader__take [a0, a1] h K :=
  wcallp F___gatepost_date_reader__take (show 2 ≤ 32 by decide) (p := p___gatepost_date_reader__take L K a0 a1 h) (by kernel_rfl) hp
def k_gatepostref01_Lower_0 (L : FuncId → List V → V → Prop) (K : V → Heap → Prop) (v3 : V) (h : Heap) : Prop :=
    (∃ v, some v3 = some v ∧ K v h)
def k_gatepostref01_Lower_2 (L : FuncId → List V → V → Prop) (K : V → Heap → Prop) (N0 : Env → Heap → Prop) (e : Env) (v4 : V) (h : Heap) : Prop :=
    (wi F L (.bin .add (.c v4) (.c (.int .i64 1))) E0 h fun v11 h =>
    (N0 (upd (upd (upd e 10 v4) 11 v11) 4 v11) h))
def k_gatepostref01_Lower_3 (L : FuncId → List V → V → Prop) (K : V → Heap → Prop) (N0 : Env → Heap → Prop) (e : Env) (v3 v4 v5 : V) (h : Heap) : Prop :=
    (wi F L (.bsl 1 [(.c v5)]) E0 h fun v25 h =>
    (wi F L (.toStr (.c v25)) E0 h fun v26 h =>
    (wi F L (.bin .add (.c v3) (.c v26)) E0 h fun v27 h =>
    (k_gatepostref01_Lower_2 L K N0 (upd (upd (upd (upd (upd (upd e 23 v3) 24 v5) 25 v25) 26 v26) 27 v27) 3 v27) v4 h))))
def k_gatepostref01_Lower_1 (L : FuncId → List V → V → Prop) (K : V → Heap → Prop) (N0 : Env → Heap → Prop) (e : Env) (v0 v3 v4 : V) (h : Heap) : Prop :=
    (wi F L (.ixStr (.c v0) (.c v4)) E0 h fun v14 h =>
    (wi F L (.bin .geq (.c v14) (.c (.int .u8 65))) E0 h fun v16 h =>
    (wg v16 true (wi F L (.mv (.c v14)) E0 h) h fun v18 h =>
    (wg v16 true (wi F L (.bin .leq (.c v18) (.c (.int .u8 90))) E0 h) h fun v19 h =>
    (wi F L (.pick (.c v16) (.c v19) (.c (.bool false))) E0 h fun v20 h =>
    (wb v20
    (wi F L (.bin .add (.c v14) (.c (.int .u8 32))) E0 h fun v22 h =>
    (k_gatepostref01_Lower_3 L K N0 (upd (upd (upd (upd (upd (upd (upd (upd (upd (upd (upd (upd (upd e 12 v0) 13 v4) 14 v14) 5 v14) 15 v14) 16 v16) 17 v16) 18 v18) 19 v19) 20 v20) 21 v14) 22 v22) 5 v22) v3 v4 v22 h))
    (k_gatepostref01_Lower_3 L K N0 (upd (upd (upd (upd (upd (upd (upd (upd (upd (upd e 12 v0) 13 v4) 14 v14) 5 v14) 15 v14) 16 v16) 17 v16) 18 v18) 19 v19) 20 v20) v3 v4 v14 h)))))))
def q_gatepostref01_Lower_0 (L : FuncId → List V → V → Prop) (K : V → Heap → Prop) : X → Env → Heap → Prop := (fun x => (seqX (fun e h => k_gatepostref01_Lower_0 L K (e 3) h) (retX c_gatepostref01_Lower.results K)) (X.out 0 x))
def lc_gatepostref01_Lower_0 : C :=
  (.seq (.seq (.region [⟨(some 6), none, .mv (.t 4)⟩, ⟨(some 7), none, .mv (.t 0)⟩, ⟨(some 8), none, .len 0 (.t 7)⟩, ⟨(some 9), none, .bin .lss (.t 6) (.t 8)⟩])
  (.cond (.t 9)
    .skip
    (.exit 0)))
  (.seq (.block 1 (.seq (.region [⟨(some 12), none, .mv (.t 0)⟩, ⟨(some 13), none, .mv (.t 4)⟩, ⟨(some 14), none, .ixStr (.t 12) (.t 13)⟩, ⟨(some 5), none, .mv (.t 14)⟩])
  (.seq (.seq (.region [⟨(some 15), none, .mv (.t 5)⟩, ⟨(some 16), none, .bin .geq (.t 15) (.c (.int .u8 65))⟩, ⟨(some 17), none, .mv (.t 16)⟩, ⟨(some 18), (some (17, true)), .mv (.t 5)⟩, ⟨(some 19), (some (17, true)), .bin .leq (.t 18) (.c (.int .u8 90))⟩, ⟨(some 20), none, .pick (.t 17) (.t 19) (.c (.bool false))⟩])
  (.cond (.t 20)
    (.region [⟨(some 21), none, .mv (.t 5)⟩, ⟨(some 22), none, .bin .add (.t 21) (.c (.int .u8 32))⟩, ⟨(some 5), none, .mv (.t 22)⟩])
    .skip))
  (.region [⟨(some 23), none, .mv (.t 3)⟩, ⟨(some 24), none, .mv (.t 5)⟩, ⟨(some 25), none, .bsl 1 [(.t 24)]⟩, ⟨(some 26), none, .toStr (.t 25)⟩, ⟨(some 27), none, .bin .add (.t 23) (.t 26)⟩, ⟨(some 3), none, .mv (.t 27)⟩]))))
  (.region [⟨(some 10), none, .mv (.t 4)⟩, ⟨(some 11), none, .bin .add (.t 10) (.c (.int .i64 1))⟩, ⟨(some 4), none, .mv (.t 11)⟩])))
def b_gatepostref01_Lower_0 (L : FuncId → List V → V → Prop) (K : V → Heap → Prop) (N0 : Env → Heap → Prop) (e : Env) (h : Heap) : Prop :=
    (wi F L (.len 0 (.c (e 0))) E0 h fun v8 h =>
    (wi F L (.bin .lss (.c (e 4)) (.c v8)) E0 h fun v9 h =>
    (wb v9
    (k_gatepostref01_Lower_1 L K N0 (upd (upd (upd (upd e 6 (e 4)) 7 (e 0)) 8 v8) 9 v9) (e 0) (e 3) (e 4) h)
    (k_gatepostref01_Lower_0 L K (e 3) h))))
theorem l_gatepostref01_Lower_0 {L : FuncId → List V → V → Prop} {K : V → Heap → Prop} (I : Nat → Env → Heap → Prop) (hr : ∀ n e h, I n e h → b_gatepostref01_Lower_0 L K (fun e' h' => ∃ m, m < n ∧ I m e' h') e h) {n : Nat} {e : Env} {h : Heap} (hi : I n e h) : Wl F L lc_gatepostref01_Lower_0 (q_gatepostref01_Lower_0 L K) e h :=
  wloopp (b := b_gatepostref01_Lower_0 L K) I (fun _ _ _ => by kernel_rfl) hr hi
def p_gatepostref01_Lower (L : FuncId → List V → V → Prop) (K : V → Heap → Prop) (a0 : V) (h : Heap) : Prop :=
    (Wl F L lc_gatepostref01_Lower_0 (q_gatepostref01_Lower_0 L K) (upd (upd (upd (enterE [a0]) 2 (.str [])) 3 (.str [])) 4 (.int .i64 0)) h)
theorem run_gatepostref01_Lower {L : FuncId → List V → V → Prop} {K : V → Heap → Prop} {a0 : V} {h : Heap} (hp : p_gatepostref01_Lower L K a0 h) : Cf F L i_gatepostref01_Lower [a0] h K :=
  wcallp F_gatepostref01_Lower (show 1 ≤ 29 by decide) (p := p_gatepostref01_Lower L K a0 h) (by kernel_rfl) hp
def p_gatepostref01_blank (L : FuncId → List V → V → Prop) (K : V → Heap → Prop) (a0 : V) (h : Heap) : Prop :=
    (wi F L (.bin .eql (.c a0) (.c (.int .u8 32))) E0 h fun v4 h =>
    (wg v4 false (wi F L (.mv (.c a0)) E0 h) h fun v6 h =>
    (wg v4 false (wi F L (.bin .eql (.c v6) (.c (.int .u8 9))) E0 h) h fun v7 h =>
    (wi F L (.pick (.c v4) (.c (.bool true)) (.c v7)) E0 h fun v8 h =>
    (∃ v, some v8 = some v ∧ K v h)))))
theorem run_gatepostref01_blank {L : FuncId → List V → V → Prop} {K : V → Heap → Prop} {a0 : V} {h : Heap} (hp : p_gatepostref01_blank L K a0 h) : Cf F L i_gatepostref01_blank [a0] h K :=
  wcallp F_gatepostref01_blank (show 1 ≤ 9 by decide) (p := p_gatepostref01_blank L K a0 h) (by kernel_rfl) hp
def k_gatepostref02_Days_2 (L : FuncId → List V → V → Prop) (K : V → Heap → Prop) (v7 : V) (h : Heap) : Prop :=
    (∃ v, some v7 = some v ∧ K v h)
def k_gatepostref02_Days_4 (L : FuncId → List V → V → Prop) (K : V → Heap → Prop) (N0 : Env → Heap → Prop) (e : Env) (v9 : V) (h : Heap) : Prop :=
    (wi F L (.bin .add (.c v9) (.c (.int .i64 1))) E0 h fun v50 h =>
    (N0 (upd (upd (upd e 49 v9) 50 v50) 9 v50) h))
def k_gatepostref02_Days_3 (L : FuncId → List V → V → Prop) (K : V → Heap → Prop) (N0 : Env → Heap → Prop) (e : Env) (v0 v7 v9 : V) (h : Heap) : Prop :=
    (wi F L (.call i_gatepostref02_long [(.c v0), (.c v9)]) E0 h fun v54 h =>
    (wi F L (.bin .add (.c v7) (.c v54)) E0 h fun v55 h =>
    (k_gatepostref02_Days_4 L K N0 (upd (upd (upd (upd (upd (upd e 51 v7) 52 v0) 53 v9) 54 v54) 55 v55) 7 v55) v9 h)))
def q_gatepostref02_Days_0 (L : FuncId → List V → V → Prop) (K : V → Heap → Prop) : X → Env → Heap → Prop := (fun x => (seqX (fun e h => k_gatepostref02_Days_2 L K (e 7) h) (retX c_gatepostref02_Days.results K)) (X.out 2 x))
def lc_gatepostref02_Days_0 : C :=
  (.seq (.seq (.region [⟨(some 46), none, .mv (.t 9)⟩, ⟨(some 47), none, .mv (.t 1)⟩, ⟨(some 48), none, .bin .lss (.t 46) (.t 47)⟩])
  (.cond (.t 48)
    .skip
    (.exit 2)))
  (.seq (.block 3 (.region [⟨(some 51), none, .mv (.t 7)⟩, ⟨(some 52), none, .mv (.t 0)⟩, ⟨(some 53), none, .mv (.t 9)⟩, ⟨(some 54), none, .call i_gatepostref02_long [(.t 52), (.t 53)]⟩, ⟨(some 55), none, .bin .add (.t 51) (.t 54)⟩, ⟨(some 7), none, .mv (.t 55)⟩]))
  (.region [⟨(some 49), none, .mv (.t 9)⟩, ⟨(some 50), none, .bin .add (.t 49) (.c (.int .i64 1))⟩, ⟨(some 9), none, .mv (.t 50)⟩])))
def b_gatepostref02_Days_0 (L : FuncId → List V → V → Prop) (K : V → Heap → Prop) (N0 : Env → Heap → Prop) (e : Env) (h : Heap) : Prop :=
    (wi F L (.bin .lss (.c (e 9)) (.c (e 1))) E0 h fun v48 h =>
    (wb v48
    (k_gatepostref02_Days_3 L K N0 (upd (upd (upd e 46 (e 9)) 47 (e 1)) 48 v48) (e 0) (e 7) (e 9) h)
    (k_gatepostref02_Days_2 L K (e 7) h)))
theorem l_gatepostref02_Days_0 {L : FuncId → List V → V → Prop} {K : V → Heap → Prop} (I : Nat → Env → Heap → Prop) (hr : ∀ n e h, I n e h → b_gatepostref02_Days_0 L K (fun e' h' => ∃ m, m < n ∧ I m e' h') e h) {n : Nat} {e : Env} {h : Heap} (hi : I n e h) : Wl F L lc_gatepostref02_Days_0 (q_gatepostref02_Days_0 L K) e h :=
  wloopp (b := b_gatepostref02_Days_0 L K) I (fun _ _ _ => by kernel_rfl) hr hi
def k_gatepostref02_Days_1 (L : FuncId → List V → V → Prop) (K : V → Heap → Prop) (e : Env) (h : Heap) : Prop :=
    (Wl F L lc_gatepostref02_Days_0 (q_gatepostref02_Days_0 L K) (upd e 9 (.int .i64 1)) h)
def k_gatepostref02_Days_6 (L : FuncId → List V → V → Prop) (K : V → Heap → Prop) (N0 : Env → Heap → Prop) (e : Env) (v8 : V) (h : Heap) : Prop :=
    (wi F L (.bin .add (.c v8) (.c (.int .i64 1))) E0 h fun v41 h =>
    (N0 (upd (upd (upd e 40 v8) 41 v41) 8 v41) h))
def k_gatepostref02_Days_5 (L : FuncId → List V → V → Prop) (K : V → Heap → Prop) (N0 : Env → Heap → Prop) (e : Env) (v7 v8 : V) (h : Heap) : Prop :=
    (wi F L (.call i_gatepostref02_year [(.c v8)]) E0 h fun v44 h =>
    (wi F L (.bin .add (.c v7) (.c v44)) E0 h fun v45 h =>
    (k_gatepostref02_Days_6 L K N0 (upd (upd (upd (upd (upd e 42 v7) 43 v8) 44 v44) 45 v45) 7 v45) v8 h)))
def q_gatepostref02_Days_1 (L : FuncId → List V → V → Prop) (K : V → Heap → Prop) : X → Env → Heap → Prop := (fun x => (seqX (fun e h => k_gatepostref02_Days_1 L K e  h) (retX c_gatepostref02_Days.results K)) (X.out 0 x))
def lc_gatepostref02_Days_1 : C :=
  (.seq (.seq (.region [⟨(some 37), none, .mv (.t 8)⟩, ⟨(some 38), none, .mv (.t 0)⟩, ⟨(some 39), none, .bin .lss (.t 37) (.t 38)⟩])
  (.cond (.t 39)
    .skip
    (.exit 0)))
  (.seq (.block 1 (.region [⟨(some 42), none, .mv (.t 7)⟩, ⟨(some 43), none, .mv (.t 8)⟩, ⟨(some 44), none, .call i_gatepostref02_year [(.t 43)]⟩, ⟨(some 45), none, .bin .add (.t 42) (.t 44)⟩, ⟨(some 7), none, .mv (.t 45)⟩]))
  (.region [⟨(some 40), none, .mv (.t 8)⟩, ⟨(some 41), none, .bin .add (.t 40) (.c (.int .i64 1))⟩, ⟨(some 8), none, .mv (.t 41)⟩])))
def b_gatepostref02_Days_1 (L : FuncId → List V → V → Prop) (K : V → Heap → Prop) (N0 : Env → Heap → Prop) (e : Env) (h : Heap) : Prop :=
    (wi F L (.bin .lss (.c (e 8)) (.c (e 0))) E0 h fun v39 h =>
    (wb v39
    (k_gatepostref02_Days_5 L K N0 (upd (upd (upd e 37 (e 8)) 38 (e 0)) 39 v39) (e 7) (e 8) h)
    (k_gatepostref02_Days_1 L K (upd (upd (upd e 37 (e 8)) 38 (e 0)) 39 v39)  h)))
theorem l_gatepostref02_Days_1 {L : FuncId → List V → V → Prop} {K : V → Heap → Prop} (I : Nat → Env → Heap → Prop) (hr : ∀ n e h, I n e h → b_gatepostref02_Days_1 L K (fun e' h' => ∃ m, m < n ∧ I m e' h') e h) {n : Nat} {e : Env} {h : Heap} (hi : I n e h) : Wl F L lc_gatepostref02_Days_1 (q_gatepostref02_Days_1 L K) e h :=
  wloopp (b := b_gatepostref02_Days_1 L K) I (fun _ _ _ => by kernel_rfl) hr hi
def k_gatepostref02_Days_0 (L : FuncId → List V → V → Prop) (K : V → Heap → Prop) (e : Env) (v2 : V) (h : Heap) : Prop :=
    (wi F L (.bin .sub (.c v2) (.c (.int .i64 1))) E0 h fun v36 h =>
    (Wl F L lc_gatepostref02_Days_1 (q_gatepostref02_Days_1 L K) (upd (upd (upd (upd e 35 v2) 36 v36) 7 v36) 8 (.int .i64 1970)) h))
def p_gatepostref02_Days (L : FuncId → List V → V → Prop) (K : V → Heap → Prop) (a0 a1 a2 : V) (h : Heap) : Prop :=
    (wi F L (.bin .lss (.c a0) (.c (.int .i64 1970))) E0 h fun v11 h =>
    (wg v11 false (wi F L (.mv (.c a0)) E0 h) h fun v13 h =>
    (wg v11 false (wi F L (.bin .gtr (.c v13) (.c (.int .i64 9999))) E0 h) h fun v14 h =>
    (wi F L (.pick (.c v11) (.c (.bool true)) (.c v14)) E0 h fun v15 h =>
    (wg v15 false (wi F L (.mv (.c a1)) E0 h) h fun v17 h =>
    (wg v15 false (wi F L (.bin .lss (.c v17) (.c (.int .i64 1))) E0 h) h fun v18 h =>
    (wi F L (.pick (.c v15) (.c (.bool true)) (.c v18)) E0 h fun v19 h =>
    (wg v19 false (wi F L (.mv (.c a1)) E0 h) h fun v21 h =>
    (wg v19 false (wi F L (.bin .gtr (.c v21) (.c (.int .i64 12))) E0 h) h fun v22 h =>
    (wi F L (.pick (.c v19) (.c (.bool true)) (.c v22)) E0 h fun v23 h =>
    (wg v23 false (wi F L (.mv (.c a2)) E0 h) h fun v25 h =>
    (wg v23 false (wi F L (.bin .lss (.c v25) (.c (.int .i64 1))) E0 h) h fun v26 h =>
    (wi F L (.pick (.c v23) (.c (.bool true)) (.c v26)) E0 h fun v27 h =>
    (wg v27 false (wi F L (.mv (.c a2)) E0 h) h fun v29 h =>
    (wg v27 false (wi F L (.mv (.c a0)) E0 h) h fun v30 h =>
    (wg v27 false (wi F L (.mv (.c a1)) E0 h) h fun v31 h =>
    (wg v27 false (wi F L (.call i_gatepostref02_long [(.c v30), (.c v31)]) E0 h) h fun v32 h =>
    (wg v27 false (wi F L (.bin .gtr (.c v29) (.c v32)) E0 h) h fun v33 h =>
    (wi F L (.pick (.c v27) (.c (.bool true)) (.c v33)) E0 h fun v34 h =>
    (wb v34
    (∃ v, some (.int .i64 (-1)) = some v ∧ K v h)
    (k_gatepostref02_Days_0 L K (upd (upd (upd (upd (upd (upd (upd (upd (upd (upd (upd (upd (upd (upd (upd (upd (upd (upd (upd (upd (upd (upd (upd (upd (upd (upd (enterE [a0, a1, a2]) 6 (.int .i64 0)) 10 a0) 11 v11) 12 v11) 13 v13) 14 v14) 15 v15) 16 v15) 17 v17) 18 v18) 19 v19) 20 v19) 21 v21) 22 v22) 23 v23) 24 v23) 25 v25) 26 v26) 27 v27) 28 v27) 29 v29) 30 v30) 31 v31) 32 v32) 33 v33) 34 v34) a2 h)))))))))))))))))))))
theorem run_gatepostref02_Days {L : FuncId → List V → V → Prop} {K : V → Heap → Prop} {a0 a1 a2 : V} {h : Heap} (hp : p_gatepostref02_Days L K a0 a1 a2 h) : Cf F L i_gatepostref02_Days [a0, a1, a2] h K :=
  wcallp F_gatepostref02_Days (show 3 ≤ 57 by decide) (p := p_gatepostref02_Days L K a0 a1 a2 h) (by kernel_rfl) hp
def k_internal_stringslite_CutPrefix_0 (L : FuncId → List V → V → Prop) (K : V → Heap → Prop) (v0 v1 : V) (h : Heap) : Prop :=
    (wi F L (.len 0 (.c v1)) E0 h fun v13 h =>
    (wi F L (.slstr (.c v0) (some (.c v13)) none) E0 h fun v14 h =>
    (∃ v, resultsV h (enterE [v14, (.bool true)]) [.tmp 0, .tmp 1] = some v ∧ K v h)))
def p_internal_stringslite_CutPrefix (L : FuncId → List V → V → Prop) (K : V → Heap → Prop) (a0 a1 : V) (h : Heap) : Prop :=
    (wi F L (.call i_internal_stringslite_HasPrefix [(.c a0), (.c a1)]) E0 h fun v8 h =>
    (wi F L (.un .not (.c v8)) E0 h fun v9 h =>
    (wb v9
    (∃ v, resultsV h (enterE [a0, (.bool false)]) [.tmp 0, .tmp 1] = some v ∧ K v h)
    (k_internal_stringslite_CutPrefix_0 L K a0 a1 h))))
theorem run_internal_stringslite_CutPrefix {L : FuncId → List V → V → Prop} {K : V → Heap → Prop} {a0 a1 : V} {h : Heap} (hp : p_internal_stringslite_CutPrefix L K a0 a1 h) : Cf F L i_internal_stringslite_CutPrefix [a0, a1] h K :=
  wcallp F_internal_stringslite_CutPrefix (show 2 ≤ 15 by decide) (p := p_internal_stringslite_CutPrefix L K a0 a1 h) (by kernel_rfl) hp
def k_internal_stringslite_CutSuffix_0 (L : FuncId → List V → V → Prop) (K : V → Heap → Prop) (v0 v1 : V) (h : Heap) : Prop :=
    (wi F L (.len 0 (.c v0)) E0 h fun v13 h =>
    (wi F L (.len 0 (.c v1)) E0 h fun v15 h =>
    (wi F L (.bin .sub (.c v13) (.c v15)) E0 h fun v16 h =>
    (wi F L (.slstr (.c v0) none (some (.c v16))) E0 h fun v17 h =>
    (∃ v, resultsV h (enterE [v17, (.bool true)]) [.tmp 0, .tmp 1] = some v ∧ K v h)))))
def p_internal_stringslite_CutSuffix (L : FuncId → List V → V → Prop) (K : V → Heap → Prop) (a0 a1 : V) (h : Heap) : Prop :=
    (wi F L (.call i_internal_stringslite_HasSuffix [(.c a0), (.c a1)]) E0 h fun v8 h =>
    (wi F L (.un .not (.c v8)) E0 h fun v9 h =>
    (wb v9
    (∃ v, resultsV h (enterE [a0, (.bool false)]) [.tmp 0, .tmp 1] = some v ∧ K v h)
    (k_internal_stringslite_CutSuffix_0 L K a0 a1 h))))
theorem run_internal_stringslite_CutSuffix {L : FuncId → List V → V → Prop} {K : V → Heap → Prop} {a0 a1 : V} {h : Heap} (hp : p_internal_stringslite_CutSuffix L K a0 a1 h) : Cf F L i_internal_stringslite_CutSuffix [a0, a1] h K :=
  wcallp F_internal_stringslite_CutSuffix (show 2 ≤ 18 by decide) (p := p_internal_stringslite_CutSuffix L K a0 a1 h) (by kernel_rfl) hp
def k_gatepostref02_year_0 (L : FuncId → List V → V → Prop) (K : V → Heap → Prop) (h : Heap) : Prop :=
    (∃ v, some (.int .i64 365) = some v ∧ K v h)
def p_gatepostref02_year (L : FuncId → List V → V → Prop) (K : V → Heap → Prop) (a0 : V) (h : Heap) : Prop :=
    (wi F L (.call i_gatepostref02_leap [(.c a0)]) E0 h fun v4 h =>
    (wb v4
    (∃ v, some (.int .i64 366) = some v ∧ K v h)
    (k_gatepostref02_year_0 L K  h)))
theorem run_gatepostref02_year {L : FuncId → List V → V → Prop} {K : V → Heap → Prop} {a0 : V} {h : Heap} (hp : p_gatepostref02_year L K a0 h) : Cf F L i_gatepostref02_year [a0] h K :=
  wcallp F_gatepostref02_year (show 1 ≤ 5 by decide) (p := p_gatepostref02_year L K a0 h) (by kernel_rfl) hp
def k_gatepostref02_long_0 (L : FuncId → List V → V → Prop) (K : V → Heap → Prop) (h : Heap) : Prop :=
    (∃ v, some (.int .i64 31) = some v ∧ K v h)
def k_gatepostref02_long_1 (L : FuncId → List V → V → Prop) (K : V → Heap → Prop) (h : Heap) : Prop :=
    (∃ v, some (.int .i64 28) = some v ∧ K v h)
def k_gatepostref02_long_2 (L : FuncId → List V → V → Prop) (K : V → Heap → Prop) (v10 : V) (h : Heap) : Prop :=
    (wb v10
    (∃ v, some (.int .i64 30) = some v ∧ K v h)
    (k_gatepostref02_long_0 L K  h))
def p_gatepostref02_long (L : FuncId → List V → V → Prop) (K : V → Heap → Prop) (a0 a1 : V) (h : Heap) : Prop :=
    (wi F L (.bin .eql (.c a1) (.c (.int .i64 2))) E0 h fun v7 h =>
    (wb v7
    (wi F L (.call i_gatepostref02_leap [(.c a0)]) E0 h fun v9 h =>
    (wb v9
    (∃ v, some (.int .i64 29) = some v ∧ K v h)
    (k_gatepostref02_long_1 L K  h)))
    (wi F L (.bin .eql (.c a1) (.c (.int .i64 4))) E0 h fun v11 h =>
    (wb v11
    (k_gatepostref02_long_2 L K v11 h)
    (wi F L (.bin .eql (.c a1) (.c (.int .i64 6))) E0 h fun v12 h =>
    (wb v12
    (k_gatepostref02_long_2 L K v12 h)
    (wi F L (.bin .eql (.c a1) (.c (.int .i64 9))) E0 h fun v13 h =>
    (wb v13
    (k_gatepostref02_long_2 L K v13 h)
    (wi F L (.bin .eql (.c a1) (.c (.int .i64 11))) E0 h fun v14 h =>
    (k_gatepostref02_long_2 L K v14 h))))))))))
theorem run_gatepostref02_long {L : FuncId → List V → V → Prop} {K : V → Heap → Prop} {a0 a1 : V} {h : Heap} (hp : p_gatepostref02_long L K a0 a1 h) : Cf F L i_gatepostref02_long [a0, a1] h K :=
  wcallp F_gatepostref02_long (show 2 ≤ 15 by decide) (p := p_gatepostref02_long L K a0 a1 h) (by kernel_rfl) hp
def k_strings_Trim_2 (L : FuncId → List V → V → Prop) (K : V → Heap → Prop) (v0 v1 : V) (h : Heap) : Prop :=
    (wi F L (.call i_strings_trimRightUnicode [(.c v0), (.c v1)]) E0 h fun v40 h =>
    (wi F L (.call i_strings_trimLeftUnicode [(.c v40), (.c v1)]) E0 h fun v42 h =>
    (∃ v, some v42 = some v ∧ K v h)))
def k_strings_Trim_1 (L : FuncId → List V → V → Prop) (K : V → Heap → Prop) (v0 v1 : V) (h : Heap) : Prop :=
    (wi F L (.call i_strings_makeASCIISet [(.c v1)]) E0 h fun v31 h =>
    (wi F L (.ext 0 (.c v31)) E0 h fun v32 h =>
    (wi F L (.ext 1 (.c v31)) E0 h fun v33 h =>
    (wi F L (.boxz (List.replicate 256 (.bool false))) E0 h fun v5 h =>
    (wi F L (.store 256 (.c v5) (.c v32)) E0 h fun _ h =>
    (wb v33
    (wi F L (.call i_strings_trimRightASCII [(.c v0), (.c v5)]) E0 h fun v36 h =>
    (wi F L (.call i_strings_trimLeftASCII [(.c v36), (.c v5)]) E0 h fun v37 h =>
    (∃ v, some v37 = some v ∧ K v h)))
    (k_strings_Trim_2 L K v0 v1 h)))))))
def k_strings_Trim_0 (L : FuncId → List V → V → Prop) (K : V → Heap → Prop) (v0 v1 : V) (h : Heap) : Prop :=
    (wi F L (.len 0 (.c v1)) E0 h fun v15 h =>
    (wi F L (.bin .eql (.c v15) (.c (.int .i64 1))) E0 h fun v16 h =>
    (wg v16 true (wi F L (.mv (.c v1)) E0 h) h fun v18 h =>
    (wg v16 true (wi F L (.ixStr (.c v18) (.c (.int .i64 0))) E0 h) h fun v19 h =>
    (wg v16 true (wi F L (.bin .lss (.c v19) (.c (.int .u8 128))) E0 h) h fun v20 h =>
    (wi F L (.pick (.c v16) (.c v20) (.c (.bool false))) E0 h fun v21 h =>
    (wb v21
    (wi F L (.ixStr (.c v1) (.c (.int .i64 0))) E0 h fun v24 h' => Ext h h' ∧
    (wi F L (.call i_strings_trimRightByte [(.c v0), (.c v24)]) E0 h' fun v25 h => Ext h' h ∧
    (wi F L (.ixStr (.c v1) (.c (.int .i64 0))) E0 h fun v27 h' => Ext h h' ∧
    (wi F L (.call i_strings_trimLeftByte [(.c v25), (.c v27)]) E0 h' fun v28 h =>
    (∃ v, some v28 = some v ∧ K v h)))))
    (k_strings_Trim_1 L K v0 v1 h))))))))
def p_strings_Trim (L : FuncId → List V → V → Prop) (K : V → Heap → Prop) (a0 a1 : V) (h : Heap) : Prop :=
    (wi F L (.bin .eql (.c a0) (.c (.str []))) E0 h fun v8 h =>
    (wg v8 false (wi F L (.mv (.c a1)) E0 h) h fun v10 h =>
    (wg v8 false (wi F L (.bin .eql (.c v10) (.c (.str []))) E0 h) h fun v11 h =>
    (wi F L (.pick (.c v8) (.c (.bool true)) (.c v11)) E0 h fun v12 h =>
    (wb v12
    (∃ v, some a0 = some v ∧ K v h)
    (k_strings_Trim_0 L K a0 a1 h))))))
theorem run_strings_Trim {L : FuncId → List V → V → Prop} {K : V → Heap → Prop} {a0 a1 : V} {h : Heap} (hp : p_strings_Trim L K a0 a1 h) : Cf F L i_strings_Trim [a0, a1] h K :=
  wcallp F_strings_Trim (show 2 ≤ 43 by decide) (p := p_strings_Trim L K a0 a1 h) (by kernel_rfl) hp
def k___gatepost_date_reader__number_1_0 (L : FuncId → List V → V → Prop) (K : V → Heap → Prop) (v0 v2 : V) (h : Heap) : Prop :=
    (wi F L (.load false 1 (.c v2)) E0 h fun v13 h =>
    (wi F L (.bin .mul (.c (.int .i64 10)) (.c v13)) E0 h fun v14 h =>
    (wi F L (.bin .sub (.c v0) (.c (.int .u8 48))) E0 h fun v16 h =>
    (wi F L (.toInt .i64 (.c v16)) E0 h fun v17 h =>
    (wi F L (.bin .add (.c v14) (.c v17)) E0 h fun v18 h =>
    (wi F L (.store 1 (.c v2) (.c v18)) E0 h fun _ h =>
    (∃ v, resultsV h (enterE []) [] = some v ∧ K v h)))))))
def p___gatepost_date_reader__number_1 (L : FuncId → List V → V → Prop) (K : V → Heap → Prop) (a0 a1 a2 : V) (h : Heap) : Prop :=
    (wi F L (.bin .lss (.c a0) (.c (.int .u8 48))) E0 h fun v5 h =>
    (wg v5 false (wi F L (.mv (.c a0)) E0 h) h fun v7 h =>
    (wg v5 false (wi F L (.bin .gtr (.c v7) (.c (.int .u8 57))) E0 h) h fun v8 h =>
    (wi F L (.pick (.c v5) (.c (.bool true)) (.c v8)) E0 h fun v9 h =>
    (wb v9
    (wi F L (.load false 1 (.c a1)) E0 h fun v10 h =>
    (wi F L (.nilck (.c v10)) E0 h fun v11 h =>
    (wi F L (.faddr 1 (.c v11)) E0 h fun v12 h =>
    (wi F L (.store 1 (.c v12) (.c (.bool false))) E0 h fun _ h =>
    (k___gatepost_date_reader__number_1_0 L K a0 a2 h)))))
    (k___gatepost_date_reader__number_1_0 L K a0 a2 h))))))
theorem run___gatepost_date_reader__number_1 {L : FuncId → List V → V → Prop} {K : V → Heap → Prop} {a0 a1 a2 : V} {h : Heap} (hp : p___gatepost_date_reader__number_1 L K a0 a1 a2 h) : Cf F L i___gatepost_date_reader__number_1 [a0, a1, a2] h K :=
  wcallp F___gatepost_date_reader__number_1 (show 3 ≤ 19 by decide) (p := p___gatepost_date_reader__number_1 L K a0 a1 a2 h) (by kernel_rfl) hp
def k_date_Days_2 (L : FuncId → List V → V → Prop) (K : V → Heap → Prop) (v11 : V) (h : Heap) : Prop :=
    (∃ v, some v11 = some v ∧ K v h)
def k_date_Days_1 (L : FuncId → List V → V → Prop) (K : V → Heap → Prop) (v0 v1 v2 v7 v8 : V) (h : Heap) : Prop :=
    (wi F L (.bin .quo (.c v7) (.c (.int .i64 400))) E0 h fun v47 h =>
    (wi F L (.bin .rem (.c v7) (.c (.int .i64 400))) E0 h fun v49 h =>
    (wi F L (.bin .mul (.c v47) (.c (.int .i64 146097))) E0 h fun v51 h =>
    (wi F L (.bin .mul (.c v49) (.c (.int .i64 365))) E0 h fun v53 h =>
    (wi F L (.bin .add (.c v51) (.c v53)) E0 h fun v54 h =>
    (wi F L (.bin .quo (.c v49) (.c (.int .i64 4))) E0 h fun v56 h =>
    (wi F L (.bin .add (.c v54) (.c v56)) E0 h fun v57 h =>
    (wi F L (.bin .quo (.c v49) (.c (.int .i64 100))) E0 h fun v59 h =>
    (wi F L (.bin .sub (.c v57) (.c v59)) E0 h fun v60 h =>
    (wi F L (.bin .mul (.c (.int .i64 153)) (.c v8)) E0 h fun v62 h =>
    (wi F L (.bin .add (.c v62) (.c (.int .i64 2))) E0 h fun v63 h =>
    (wi F L (.bin .quo (.c v63) (.c (.int .i64 5))) E0 h fun v64 h =>
    (wi F L (.bin .add (.c v60) (.c v64)) E0 h fun v65 h =>
    (wi F L (.bin .add (.c v65) (.c v2)) E0 h fun v67 h =>
    (wi F L (.bin .sub (.c v67) (.c (.int .i64 1))) E0 h fun v68 h =>
    (wi F L (.bin .sub (.c v68) (.c (.int .i64 719468))) E0 h fun v69 h =>
    (wi F L (.call i_date_Civil [(.c v69)]) E0 h fun v72 h =>
    (wi F L (.ext 0 (.c v72)) E0 h fun v73 h =>
    (wi F L (.ext 1 (.c v72)) E0 h fun v74 h =>
    (wi F L (.ext 2 (.c v72)) E0 h fun v75 h =>
    (wi F L (.bin .neq (.c v73) (.c v0)) E0 h fun v78 h =>
    (wg v78 false (wi F L (.mv (.c v74)) E0 h) h fun v80 h =>
    (wg v78 false (wi F L (.mv (.c v1)) E0 h) h fun v81 h =>
    (wg v78 false (wi F L (.bin .neq (.c v80) (.c v81)) E0 h) h fun v82 h =>
    (wi F L (.pick (.c v78) (.c (.bool true)) (.c v82)) E0 h fun v83 h =>
    (wg v83 false (wi F L (.mv (.c v75)) E0 h) h fun v85 h =>
    (wg v83 false (wi F L (.mv (.c v2)) E0 h) h fun v86 h =>
    (wg v83 false (wi F L (.bin .neq (.c v85) (.c v86)) E0 h) h fun v87 h =>
    (wi F L (.pick (.c v83) (.c (.bool true)) (.c v87)) E0 h fun v88 h =>
    (wb v88
    (∃ v, some (.int .i64 (-1)) = some v ∧ K v h)
    (k_date_Days_2 L K v69 h)))))))))))))))))))))))))))))))
def k_date_Days_0 (L : FuncId → List V → V → Prop) (K : V → Heap → Prop) (v0 v1 v2 : V) (h : Heap) : Prop :=
    (wi F L (.bin .sub (.c v1) (.c (.int .i64 3))) E0 h fun v39 h =>
    (wi F L (.bin .leq (.c v1) (.c (.int .i64 2))) E0 h fun v41 h =>
    (wb v41
    (wi F L (.bin .sub (.c v0) (.c (.int .i64 1))) E0 h fun v43 h =>
    (wi F L (.bin .add (.c v1) (.c (.int .i64 9))) E0 h fun v45 h =>
    (k_date_Days_1 L K v0 v1 v2 v43 v45 h)))
    (k_date_Days_1 L K v0 v1 v2 v0 v39 h))))
def p_date_Days (L : FuncId → List V → V → Prop) (K : V → Heap → Prop) (a0 a1 a2 : V) (h : Heap) : Prop :=
    (wi F L (.bin .lss (.c a0) (.c (.int .i64 1970))) E0 h fun v16 h =>
    (wg v16 false (wi F L (.mv (.c a0)) E0 h) h fun v18 h =>
    (wg v16 false (wi F L (.bin .gtr (.c v18) (.c (.int .i64 9999))) E0 h) h fun v19 h =>
    (wi F L (.pick (.c v16) (.c (.bool true)) (.c v19)) E0 h fun v20 h =>
    (wg v20 false (wi F L (.mv (.c a1)) E0 h) h fun v22 h =>
    (wg v20 false (wi F L (.bin .lss (.c v22) (.c (.int .i64 1))) E0 h) h fun v23 h =>
    (wi F L (.pick (.c v20) (.c (.bool true)) (.c v23)) E0 h fun v24 h =>
    (wg v24 false (wi F L (.mv (.c a1)) E0 h) h fun v26 h =>
    (wg v24 false (wi F L (.bin .gtr (.c v26) (.c (.int .i64 12))) E0 h) h fun v27 h =>
    (wi F L (.pick (.c v24) (.c (.bool true)) (.c v27)) E0 h fun v28 h =>
    (wg v28 false (wi F L (.mv (.c a2)) E0 h) h fun v30 h =>
    (wg v28 false (wi F L (.bin .lss (.c v30) (.c (.int .i64 1))) E0 h) h fun v31 h =>
    (wi F L (.pick (.c v28) (.c (.bool true)) (.c v31)) E0 h fun v32 h =>
    (wg v32 false (wi F L (.mv (.c a2)) E0 h) h fun v34 h =>
    (wg v32 false (wi F L (.bin .gtr (.c v34) (.c (.int .i64 31))) E0 h) h fun v35 h =>
    (wi F L (.pick (.c v32) (.c (.bool true)) (.c v35)) E0 h fun v36 h =>
    (wb v36
    (∃ v, some (.int .i64 (-1)) = some v ∧ K v h)
    (k_date_Days_0 L K a0 a1 a2 h))))))))))))))))))
theorem run_date_Days {L : FuncId → List V → V → Prop} {K : V → Heap → Prop} {a0 a1 a2 : V} {h : Heap} (hp : p_date_Days L K a0 a1 a2 h) : Cf F L i_date_Days [a0, a1, a2] h K :=
  wcallp F_date_Days (show 3 ≤ 90 by decide) (p := p_date_Days L K a0 a1 a2 h) (by kernel_rfl) hp
def p_internal_stringslite_HasPrefix (L : FuncId → List V → V → Prop) (K : V → Heap → Prop) (a0 a1 : V) (h : Heap) : Prop :=
    (wi F L (.len 0 (.c a0)) E0 h fun v6 h =>
    (wi F L (.len 0 (.c a1)) E0 h fun v8 h =>
    (wi F L (.bin .geq (.c v6) (.c v8)) E0 h fun v9 h =>
    (wg v9 true (wi F L (.mv (.c a0)) E0 h) h fun v11 h =>
    (wg v9 true (wi F L (.mv (.c a1)) E0 h) h fun v12 h =>
    (wg v9 true (wi F L (.len 0 (.c v12)) E0 h) h fun v13 h =>
    (wg v9 true (wi F L (.slstr (.c v11) none (some (.c v13))) E0 h) h fun v14 h =>
    (wg v9 true (wi F L (.mv (.c a1)) E0 h) h fun v15 h =>
    (wg v9 true (wi F L (.bin .eql (.c v14) (.c v15)) E0 h) h fun v16 h =>
    (wi F L (.pick (.c v9) (.c v16) (.c (.bool false))) E0 h fun v17 h =>
    (∃ v, some v17 = some v ∧ K v h)))))))))))
theorem run_internal_stringslite_HasPrefix {L : FuncId → List V → V → Prop} {K : V → Heap → Prop} {a0 a1 : V} {h : Heap} (hp : p_internal_stringslite_HasPrefix L K a0 a1 h) : Cf F L i_internal_stringslite_HasPrefix [a0, a1] h K :=
  wcallp F_internal_stringslite_HasPrefix (show 2 ≤ 18 by decide) (p := p_internal_stringslite_HasPrefix L K a0 a1 h) (by kernel_rfl) hp
def p_internal_stringslite_HasSuffix (L : FuncId → List V → V → Prop) (K : V → Heap → Prop) (a0 a1 : V) (h : Heap) : Prop :=
    (wi F L (.len 0 (.c a0)) E0 h fun v6 h =>
    (wi F L (.len 0 (.c a1)) E0 h fun v8 h =>
    (wi F L (.bin .geq (.c v6) (.c v8)) E0 h fun v9 h =>
    (wg v9 true (wi F L (.mv (.c a0)) E0 h) h fun v11 h =>
    (wg v9 true (wi F L (.mv (.c a0)) E0 h) h fun v12 h =>
    (wg v9 true (wi F L (.len 0 (.c v12)) E0 h) h fun v13 h =>
    (wg v9 true (wi F L (.mv (.c a1)) E0 h) h fun v14 h =>
    (wg v9 true (wi F L (.len 0 (.c v14)) E0 h) h fun v15 h =>
    (wg v9 true (wi F L (.bin .sub (.c v13) (.c v15)) E0 h) h fun v16 h =>
    (wg v9 true (wi F L (.slstr (.c v11) (some (.c v16)) none) E0 h) h fun v17 h =>
    (wg v9 true (wi F L (.mv (.c a1)) E0 h) h fun v18 h =>
    (wg v9 true (wi F L (.bin .eql (.c v17) (.c v18)) E0 h) h fun v19 h =>
    (wi F L (.pick (.c v9) (.c v19) (.c (.bool false))) E0 h fun v20 h =>
    (∃ v, some v20 = some v ∧ K v h))))))))))))))
theorem run_internal_stringslite_HasSuffix {L : FuncId → List V → V → Prop} {K : V → Heap → Prop} {a0 a1 : V} {h : Heap} (hp : p_internal_stringslite_HasSuffix L K a0 a1 h) : Cf F L i_internal_stringslite_HasSuffix [a0, a1] h K :=
  wcallp F_internal_stringslite_HasSuffix (show 2 ≤ 21 by decide) (p := p_internal_stringslite_HasSuffix L K a0 a1 h) (by kernel_rfl) hp
def p_gatepostref02_leap (L : FuncId → List V → V → Prop) (K : V → Heap → Prop) (a0 : V) (h : Heap) : Prop :=
    (wi F L (.bin .rem (.c a0) (.c (.int .i64 4))) E0 h fun v4 h =>
    (wi F L (.bin .eql (.c v4) (.c (.int .i64 0))) E0 h fun v5 h =>
    (wg v5 true (wi F L (.mv (.c a0)) E0 h) h fun v7 h =>
    (wg v5 true (wi F L (.bin .rem (.c v7) (.c (.int .i64 100))) E0 h) h fun v8 h =>
    (wg v5 true (wi F L (.bin .neq (.c v8) (.c (.int .i64 0))) E0 h) h fun v9 h =>
    (wg v5 true (wi F L (.mv (.c v9)) E0 h) h fun v10 h =>
    (wg v10 false (wi F L (.mv (.c a0)) E0 h) h fun v11 h =>
    (wg v10 false (wi F L (.bin .rem (.c v11) (.c (.int .i64 400))) E0 h) h fun v12 h =>
    (wg v10 false (wi F L (.bin .eql (.c v12) (.c (.int .i64 0))) E0 h) h fun v13 h =>
    (wg v5 true (wi F L (.pick (.c v10) (.c (.bool true)) (.c v13)) E0 h) h fun v14 h =>
    (wi F L (.pick (.c v5) (.c v14) (.c (.bool false))) E0 h fun v15 h =>
    (∃ v, some v15 = some v ∧ K v h))))))))))))
theorem run_gatepostref02_leap {L : FuncId → List V → V → Prop} {K : V → Heap → Prop} {a0 : V} {h : Heap} (hp : p_gatepostref02_leap L K a0 h) : Cf F L i_gatepostref02_leap [a0] h K :=
  wcallp F_gatepostref02_leap (show 1 ≤ 16 by decide) (p := p_gatepostref02_leap L K a0 h) (by kernel_rfl) hp
def k_strings_makeASCIISet_0 (L : FuncId → List V → V → Prop) (K : V → Heap → Prop) (v2 : V) (h : Heap) : Prop :=
    (wi F L (.load true 256 (.c v2)) E0 h fun v20 h =>
    (wi F L (.store 256 (.c v2) (.c v20)) E0 h fun _ h =>
    (∃ v, resultsV h (enterE [v2, (.bool true)]) [.cell 0 true 256, .tmp 1] = some v ∧ K v h)))
def k_strings_makeASCIISet_2 (L : FuncId → List V → V → Prop) (K : V → Heap → Prop) (N0 : Env → Heap → Prop) (e : Env) (v4 : V) (h : Heap) : Prop :=
    (wi F L (.bin .add (.c v4) (.c (.int .i64 1))) E0 h fun v11 h =>
    (N0 (upd (upd (upd e 10 v4) 11 v11) 4 v11) h))
def k_strings_makeASCIISet_3 (L : FuncId → List V → V → Prop) (K : V → Heap → Prop) (N0 : Env → Heap → Prop) (e : Env) (v2 v4 v5 : V) (h : Heap) : Prop :=
    (wi F L (.ixaArr 256 1 (.c v2) (.c v5)) E0 h fun v19 h =>
    (wi F L (.store 1 (.c v19) (.c (.bool true))) E0 h fun _ h =>
    (k_strings_makeASCIISet_2 L K N0 (upd (upd e 18 v5) 19 v19) v4 h)))
def k_strings_makeASCIISet_1 (L : FuncId → List V → V → Prop) (K : V → Heap → Prop) (N0 : Env → Heap → Prop) (e : Env) (v0 v2 v4 : V) (h : Heap) : Prop :=
    (wi F L (.ixStr (.c v0) (.c v4)) E0 h fun v14 h =>
    (wi F L (.bin .geq (.c v14) (.c (.int .u8 128))) E0 h fun v16 h =>
    (wb v16
    (wi F L (.load true 256 (.c v2)) E0 h fun v17 h =>
    (wi F L (.store 256 (.c v2) (.c v17)) E0 h fun _ h =>
    (∃ v, resultsV h (enterE [v2, (.bool false)]) [.cell 0 true 256, .tmp 1] = some v ∧ K v h)))
    (k_strings_makeASCIISet_3 L K N0 (upd (upd (upd (upd (upd (upd e 12 v0) 13 v4) 14 v14) 5 v14) 15 v14) 16 v16) v2 v4 v14 h))))
def q_strings_makeASCIISet_0 (L : FuncId → List V → V → Prop) (K : V → Heap → Prop) : X → Env → Heap → Prop := (fun x => (seqX (fun e h => k_strings_makeASCIISet_0 L K (e 2) h) (retX c_strings_makeASCIISet.results K)) (X.out 0 x))
def lc_strings_makeASCIISet_0 : C :=
  (.seq (.seq (.region [⟨(some 6), none, .mv (.t 4)⟩, ⟨(some 7), none, .mv (.t 0)⟩, ⟨(some 8), none, .len 0 (.t 7)⟩, ⟨(some 9), none, .bin .lss (.t 6) (.t 8)⟩])
  (.cond (.t 9)
    .skip
    (.exit 0)))
  (.seq (.block 1 (.seq (.region [⟨(some 12), none, .mv (.t 0)⟩, ⟨(some 13), none, .mv (.t 4)⟩, ⟨(some 14), none, .ixStr (.t 12) (.t 13)⟩, ⟨(some 5), none, .mv (.t 14)⟩])
  (.seq (.seq (.region [⟨(some 15), none, .mv (.t 5)⟩, ⟨(some 16), none, .bin .geq (.t 15) (.c (.int .u8 128))⟩])
  (.cond (.t 16)
    (.seq (.region [⟨(some 17), none, .load true 256 (.t 2)⟩, ⟨none, none, .store 256 (.t 2) (.t 17)⟩, ⟨(some 3), none, .mv (.c (.bool false))⟩])
    .ret)
    .skip))
  (.region [⟨(some 18), none, .mv (.t 5)⟩, ⟨(some 19), none, .ixaArr 256 1 (.t 2) (.t 18)⟩, ⟨none, none, .store 1 (.t 19) (.c (.bool true))⟩]))))
  (.region [⟨(some 10), none, .mv (.t 4)⟩, ⟨(some 11), none, .bin .add (.t 10) (.c (.int .i64 1))⟩, ⟨(some 4), none, .mv (.t 11)⟩])))
def b_strings_makeASCIISet_0 (L : FuncId → List V → V → Prop) (K : V → Heap → Prop) (N0 : Env → Heap → Prop) (e : Env) (h : Heap) : Prop :=
    (wi F L (.len 0 (.c (e 0))) E0 h fun v8 h =>
    (wi F L (.bin .lss (.c (e 4)) (.c v8)) E0 h fun v9 h =>
    (wb v9
    (k_strings_makeASCIISet_1 L K N0 (upd (upd (upd (upd e 6 (e 4)) 7 (e 0)) 8 v8) 9 v9) (e 0) (e 2) (e 4) h)
    (k_strings_makeASCIISet_0 L K (e 2) h))))
theorem l_strings_makeASCIISet_0 {L : FuncId → List V → V → Prop} {K : V → Heap → Prop} (I : Nat → Env → Heap → Prop) (hr : ∀ n e h, I n e h → b_strings_makeASCIISet_0 L K (fun e' h' => ∃ m, m < n ∧ I m e' h') e h) {n : Nat} {e : Env} {h : Heap} (hi : I n e h) : Wl F L lc_strings_makeASCIISet_0 (q_strings_makeASCIISet_0 L K) e h :=
  wloopp (b := b_strings_makeASCIISet_0 L K) I (fun _ _ _ => by kernel_rfl) hr hi
def p_strings_makeASCIISet (L : FuncId → List V → V → Prop) (K : V → Heap → Prop) (a0 : V) (h : Heap) : Prop :=
    (wi F L (.boxz (List.replicate 256 (.bool false))) E0 h fun v2 h =>
    (Wl F L lc_strings_makeASCIISet_0 (q_strings_makeASCIISet_0 L K) (upd (upd (upd (enterE [a0]) 2 v2) 3 (.bool false)) 4 (.int .i64 0)) h))
theorem run_strings_makeASCIISet {L : FuncId → List V → V → Prop} {K : V → Heap → Prop} {a0 : V} {h : Heap} (hp : p_strings_makeASCIISet L K a0 h) : Cf F L i_strings_makeASCIISet [a0] h K :=
  wcallp F_strings_makeASCIISet (show 1 ≤ 21 by decide) (p := p_strings_makeASCIISet L K a0 h) (by kernel_rfl) hp
def k_strings_trimLeftASCII_0 (L : FuncId → List V → V → Prop) (K : V → Heap → Prop) (v0 : V) (h : Heap) : Prop :=
    (∃ v, some v0 = some v ∧ K v h)
def k_strings_trimLeftASCII_2 (L : FuncId → List V → V → Prop) (K : V → Heap → Prop) (N0 : Env → Heap → Prop) (e : Env) (v0 : V) (h : Heap) : Prop :=
    (wi F L (.slstr (.c v0) (some (.c (.int .i64 1))) none) E0 h fun v14 h =>
    (N0 (upd (upd (upd e 13 v0) 14 v14) 0 v14) h))
def k_strings_trimLeftASCII_1 (L : FuncId → List V → V → Prop) (K : V → Heap → Prop) (N0 : Env → Heap → Prop) (e : Env) (v0 v1 : V) (h : Heap) : Prop :=
    (wi F L (.ixStr (.c v0) (.c (.int .i64 0))) E0 h fun v10 h =>
    (wi F L (.call i___strings_asciiSet__contains [(.c v1), (.c v10)]) E0 h fun v11 h =>
    (wi F L (.un .not (.c v11)) E0 h fun v12 h =>
    (wb v12
    (k_strings_trimLeftASCII_0 L K v0 h)
    (k_strings_trimLeftASCII_2 L K N0 (upd (upd (upd (upd (upd e 8 v1) 9 v0) 10 v10) 11 v11) 12 v12) v0 h)))))
def q_strings_trimLeftASCII_0 (L : FuncId → List V → V → Prop) (K : V → Heap → Prop) : X → Env → Heap → Prop := (fun x => (seqX (fun e h => k_strings_trimLeftASCII_0 L K (e 0) h) (retX c_strings_trimLeftASCII.results K)) (X.out 0 x))
def lc_strings_trimLeftASCII_0 : C :=
  (.seq (.seq (.region [⟨(some 5), none, .mv (.t 0)⟩, ⟨(some 6), none, .len 0 (.t 5)⟩, ⟨(some 7), none, .bin .gtr (.t 6) (.c (.int .i64 0))⟩])
  (.cond (.t 7)
    .skip
    (.exit 0)))
  (.block 1 (.seq (.seq (.region [⟨(some 8), none, .mv (.t 1)⟩, ⟨(some 9), none, .mv (.t 0)⟩, ⟨(some 10), none, .ixStr (.t 9) (.c (.int .i64 0))⟩, ⟨(some 11), none, .call i___strings_asciiSet__contains [(.t 8), (.t 10)]⟩, ⟨(some 12), none, .un .not (.t 11)⟩])
  (.cond (.t 12)
    (.exit 0)
    .skip))
  (.region [⟨(some 13), none, .mv (.t 0)⟩, ⟨(some 14), none, .slstr (.t 13) (some (.c (.int .i64 1))) none⟩, ⟨(some 0), none, .mv (.t 14)⟩]))))
def b_strings_trimLeftASCII_0 (L : FuncId → List V → V → Prop) (K : V → Heap → Prop) (N0 : Env → Heap → Prop) (e : Env) (h : Heap) : Prop :=
    (wi F L (.len 0 (.c (e 0))) E0 h fun v6 h =>
    (wi F L (.bin .gtr (.c v6) (.c (.int .i64 0))) E0 h fun v7 h =>
    (wb v7
    (k_strings_trimLeftASCII_1 L K N0 (upd (upd (upd e 5 (e 0)) 6 v6) 7 v7) (e 0) (e 1) h)
    (k_strings_trimLeftASCII_0 L K (e 0) h))))
theorem l_strings_trimLeftASCII_0 {L : FuncId → List V → V → Prop} {K : V → Heap → Prop} (I : Nat → Env → Heap → Prop) (hr : ∀ n e h, I n e h → b_strings_trimLeftASCII_0 L K (fun e' h' => ∃ m, m < n ∧ I m e' h') e h) {n : Nat} {e : Env} {h : Heap} (hi : I n e h) : Wl F L lc_strings_trimLeftASCII_0 (q_strings_trimLeftASCII_0 L K) e h :=
  wloopp (b := b_strings_trimLeftASCII_0 L K) I (fun _ _ _ => by kernel_rfl) hr hi
def p_strings_trimLeftASCII (L : FuncId → List V → V → Prop) (K : V → Heap → Prop) (a0 a1 : V) (h : Heap) : Prop :=
    (Wl F L lc_strings_trimLeftASCII_0 (q_strings_trimLeftASCII_0 L K) (upd (enterE [a0, a1]) 4 (.str [])) h)
theorem run_strings_trimLeftASCII {L : FuncId → List V → V → Prop} {K : V → Heap → Prop} {a0 a1 : V} {h : Heap} (hp : p_strings_trimLeftASCII L K a0 a1 h) : Cf F L i_strings_trimLeftASCII [a0, a1] h K :=
  wcallp F_strings_trimLeftASCII (show 2 ≤ 16 by decide) (p := p_strings_trimLeftASCII L K a0 a1 h) (by kernel_rfl) hp
def k_strings_trimRightASCII_0 (L : FuncId → List V → V → Prop) (K : V → Heap → Prop) (v0 : V) (h : Heap) : Prop :=
    (∃ v, some v0 = some v ∧ K v h)
def k_strings_trimRightASCII_2 (L : FuncId → List V → V → Prop) (K : V → Heap → Prop) (N0 : Env → Heap → Prop) (e : Env) (v0 : V) (h : Heap) : Prop :=
    (wi F L (.len 0 (.c v0)) E0 h fun v18 h =>
    (wi F L (.bin .sub (.c v18) (.c (.int .i64 1))) E0 h fun v19 h =>
    (wi F L (.slstr (.c v0) none (some (.c v19))) E0 h fun v20 h =>
    (N0 (upd (upd (upd (upd (upd (upd e 16 v0) 17 v0) 18 v18) 19 v19) 20 v20) 0 v20) h))))
def k_strings_trimRightASCII_1 (L : FuncId → List V → V → Prop) (K : V → Heap → Prop) (N0 : Env → Heap → Prop) (e : Env) (v0 v1 : V) (h : Heap) : Prop :=
    (wi F L (.len 0 (.c v0)) E0 h fun v11 h =>
    (wi F L (.bin .sub (.c v11) (.c (.int .i64 1))) E0 h fun v12 h =>
    (wi F L (.ixStr (.c v0) (.c v12)) E0 h fun v13 h =>
    (wi F L (.call i___strings_asciiSet__contains [(.c v1), (.c v13)]) E0 h fun v14 h =>
    (wi F L (.un .not (.c v14)) E0 h fun v15 h =>
    (wb v15
    (k_strings_trimRightASCII_0 L K v0 h)
    (k_strings_trimRightASCII_2 L K N0 (upd (upd (upd (upd (upd (upd (upd (upd e 8 v1) 9 v0) 10 v0) 11 v11) 12 v12) 13 v13) 14 v14) 15 v15) v0 h)))))))
def q_strings_trimRightASCII_0 (L : FuncId → List V → V → Prop) (K : V → Heap → Prop) : X → Env → Heap → Prop := (fun x => (seqX (fun e h => k_strings_trimRightASCII_0 L K (e 0) h) (retX c_strings_trimRightASCII.results K)) (X.out 0 x))
def lc_strings_trimRightASCII_0 : C :=
  (.seq (.seq (.region [⟨(some 5), none, .mv (.t 0)⟩, ⟨(some 6), none, .len 0 (.t 5)⟩, ⟨(some 7), none, .bin .gtr (.t 6) (.c (.int .i64 0))⟩])
  (.cond (.t 7)
    .skip
    (.exit 0)))
  (.block 1 (.seq (.seq (.region [⟨(some 8), none, .mv (.t 1)⟩, ⟨(some 9), none, .mv (.t 0)⟩, ⟨(some 10), none, .mv (.t 0)⟩, ⟨(some 11), none, .len 0 (.t 10)⟩, ⟨(some 12), none, .bin .sub (.t 11) (.c (.int .i64 1))⟩, ⟨(some 13), none, .ixStr (.t 9) (.t 12)⟩, ⟨(some 14), none, .call i___strings_asciiSet__contains [(.t 8), (.t 13)]⟩, ⟨(some 15), none, .un .not (.t 14)⟩])
  (.cond (.t 15)
    (.exit 0)
    .skip))
  (.region [⟨(some 16), none, .mv (.t 0)⟩, ⟨(some 17), none, .mv (.t 0)⟩, ⟨(some 18), none, .len 0 (.t 17)⟩, ⟨(some 19), none, .bin .sub (.t 18) (.c (.int .i64 1))⟩, ⟨(some 20), none, .slstr (.t 16) none (some (.t 19))⟩, ⟨(some 0), none, .mv (.t 20)⟩]))))
def b_strings_trimRightASCII_0 (L : FuncId → List V → V → Prop) (K : V → Heap → Prop) (N0 : Env → Heap → Prop) (e : Env) (h : Heap) : Prop :=
    (wi F L (.len 0 (.c (e 0))) E0 h fun v6 h =>
    (wi F L (.bin .gtr (.c v6) (.c (.int .i64 0))) E0 h fun v7 h =>
    (wb v7
    (k_strings_trimRightASCII_1 L K N0 (upd (upd (upd e 5 (e 0)) 6 v6) 7 v7) (e 0) (e 1) h)
    (k_strings_trimRightASCII_0 L K (e 0) h))))
theorem l_strings_trimRightASCII_0 {L : FuncId → List V → V → Prop} {K : V → Heap → Prop} (I : Nat → Env → Heap → Prop) (hr : ∀ n e h, I n e h → b_strings_trimRightASCII_0 L K (fun e' h' => ∃ m, m < n ∧ I m e' h') e h) {n : Nat} {e : Env} {h : Heap} (hi : I n e h) : Wl F L lc_strings_trimRightASCII_0 (q_strings_trimRightASCII_0 L K) e h :=
  wloopp (b := b_strings_trimRightASCII_0 L K) I (fun _ _ _ => by kernel_rfl) hr hi
def p_strings_trimRightASCII (L : FuncId → List V → V → Prop) (K : V → Heap → Prop) (a0 a1 : V) (h : Heap) : Prop :=
    (Wl F L lc_strings_trimRightASCII_0 (q_strings_trimRightASCII_0 L K) (upd (enterE [a0, a1]) 4 (.str [])) h)
theorem run_strings_trimRightASCII {L : FuncId → List V → V → Prop} {K : V → Heap → Prop} {a0 a1 : V} {h : Heap} (hp : p_strings_trimRightASCII L K a0 a1 h) : Cf F L i_strings_trimRightASCII [a0, a1] h K :=
  wcallp F_strings_trimRightASCII (show 2 ≤ 22 by decide) (p := p_strings_trimRightASCII L K a0 a1 h) (by kernel_rfl) hp
def p___strings_asciiSet__contains (L : FuncId → List V → V → Prop) (K : V → Heap → Prop) (a0 a1 : V) (h : Heap) : Prop :=
    (wi F L (.nilck (.c a0)) E0 h fun v7 h =>
    (wi F L (.ixaArr 256 1 (.c v7) (.c a1)) E0 h fun v8 h =>
    (wi F L (.load false 1 (.c v8)) E0 h fun v9 h =>
    (∃ v, some v9 = some v ∧ K v h))))
theorem run___strings_asciiSet__contains {L : FuncId → List V → V → Prop} {K : V → Heap → Prop} {a0 a1 : V} {h : Heap} (hp : p___strings_asciiSet__contains L K a0 a1 h) : Cf F L i___strings_asciiSet__contains [a0, a1] h K :=
  wcallp F___strings_asciiSet__contains (show 2 ≤ 10 by decide) (p := p___strings_asciiSet__contains L K a0 a1 h) (by kernel_rfl) hp
theorem hF : ∀ f fn, F f = some fn → compF Tryz.prog f = some fn := lookup_all ⟨kc_gatepostlaw12_ValidatorTells, kc_gatepostlaw12_few, kc_validator_Unchanged, kc_gatepostref12_Unchanged, kc_validator_Applies, kc_gatepostref12_Applies, kc_gatepostref04_Same, kc_validator_Asks, kc_gatepostref12_Asks, kc_field_Get, kc_validator_matches, kc_validator_one, kc_date_Parse, kc_gatepostref04_Get, kc_gatepostref12_Parse, kc_gatepostref01_Split, kc_gatepostref02_Parse, kc_validator_Parse, kc_validator_Strong, kc_date_Format, kc_gatepostref02_Format, kc_token_Same, kc_token_Split, kc_slices_ContainsFunc___string_string_, kc_validator_matches_1, kc_validator_Weak, kc_date_fixed, kc_date_old, kc_date_plain, kc_gatepostref01_Same, kc_gatepostref01_Trim, kc_gatepostref02_second, kc_gatepostref02_find, kc_gatepostref02_short, kc_gatepostref02_number, kc_gatepostref02_months, kc_gatepostref02_clock, kc_strings_CutPrefix, kc_strings_CutSuffix, kc_date_Civil, kc_date_longDays, kc_date_pad, kc_date_monthNames, kc_gatepostref02_Civil, kc_gatepostref02_two, kc_token_Lower, kc_token_Split_1, kc_token_Trim, kc_slices_IndexFunc___string_string_, kc___gatepost_date_reader__day, kc___gatepost_date_reader__need, kc___gatepost_date_reader__number, kc___gatepost_date_reader__month, kc___gatepost_date_reader__clock, kc___gatepost_date_reader__second, kc___gatepost_date_reader__take, kc_gatepostref01_Lower, kc_gatepostref01_blank, kc_gatepostref02_Days, kc_internal_stringslite_CutPrefix, kc_internal_stringslite_CutSuffix, kc_gatepostref02_year, kc_gatepostref02_long, kc_strings_Trim, kc___gatepost_date_reader__number_1, kc_date_Days, kc_internal_stringslite_HasPrefix, kc_internal_stringslite_HasSuffix, kc_gatepostref02_leap, kc_strings_makeASCIISet, kc_strings_trimLeftASCII, kc_strings_trimRightASCII, kc___strings_asciiSet__contains, trivial⟩
theorem hm : Tryz.prog.follows .mixedOrders = true := by kernel_rfl
end Go.Proofs.YtfkebmdfcpnaeaaGreatDoor.Vh
end
