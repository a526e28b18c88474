/- The functions of a seat, compiled for the small machine. Printed by Print.lean. -/
import Derived.Test.YtgplldjcopfjpaaDoorPk2
import Derived.KernelRfl
section
set_option maxRecDepth 100000
set_option linter.unusedVariables false
namespace Go.Proofs.YtgplldjcopfjpaaDoor.Vh
open Go.Vm
theorem kc_gatepostlaw08_ControlJoins : compF Tryd.prog i_gatepostlaw08_ControlJoins = some c_gatepostlaw08_ControlJoins := by kernel_rfl
theorem kc_gatepostlaw08_ControlNumbers : compF Tryd.prog i_gatepostlaw08_ControlNumbers = some c_gatepostlaw08_ControlNumbers := by kernel_rfl
theorem F_gatepostlaw08_ControlTells : F i_gatepostlaw08_ControlTells = some c_gatepostlaw08_ControlTells := rfl
theorem kc_gatepostlaw08_ControlTells : compF Tryd.prog i_gatepostlaw08_ControlTells = some c_gatepostlaw08_ControlTells := by kernel_rfl
theorem F_control_Parse : F i_control_Parse = some c_control_Parse := rfl
theorem kc_control_Parse : compF Tryd.prog i_control_Parse = some c_control_Parse := by kernel_rfl
theorem kc_gatepostlaw08_less : compF Tryd.prog i_gatepostlaw08_less = some c_gatepostlaw08_less := by kernel_rfl
theorem kc_gatepostlaw08_number : compF Tryd.prog i_gatepostlaw08_number = some c_gatepostlaw08_number := by kernel_rfl
theorem F_gatepostref08_Parse : F i_gatepostref08_Parse = some c_gatepostref08_Parse := rfl
theorem kc_gatepostref08_Parse : compF Tryd.prog i_gatepostref08_Parse = some c_gatepostref08_Parse := by kernel_rfl
theorem F_control_Of : F i_control_Of = some c_control_Of := rfl
theorem kc_control_Of : compF Tryd.prog i_control_Of = some c_control_Of := by kernel_rfl
theorem F_gatepostref08_Of : F i_gatepostref08_Of = some c_gatepostref08_Of := rfl
theorem kc_gatepostref08_Of : compF Tryd.prog i_gatepostref08_Of = some c_gatepostref08_Of := by kernel_rfl
theorem F_control_nothing : F i_control_nothing = some c_control_nothing := rfl
theorem kc_control_nothing : compF Tryd.prog i_control_nothing = some c_control_nothing := by kernel_rfl
theorem F_token_Split : F i_token_Split = some c_token_Split := rfl
theorem kc_token_Split : compF Tryd.prog i_token_Split = some c_token_Split := by kernel_rfl
theorem F_control_rules : F i_control_rules = some c_control_rules := rfl
theorem kc_control_rules : compF Tryd.prog i_control_rules = some c_control_rules := by kernel_rfl
theorem F_token_Pair : F i_token_Pair = some c_token_Pair := rfl
theorem kc_token_Pair : compF Tryd.prog i_token_Pair = some c_token_Pair := by kernel_rfl
theorem F_token_Lower : F i_token_Lower = some c_token_Lower := rfl
theorem kc_token_Lower : compF Tryd.prog i_token_Lower = some c_token_Lower := by kernel_rfl
theorem F__gatepost_control_rule__value : F i__gatepost_control_rule__value = some c__gatepost_control_rule__value := rfl
theorem kc__gatepost_control_rule__value : compF Tryd.prog i__gatepost_control_rule__value = some c__gatepost_control_rule__value := by kernel_rfl
theorem F_gatepostref08_None : F i_gatepostref08_None = some c_gatepostref08_None := rfl
theorem kc_gatepostref08_None : compF Tryd.prog i_gatepostref08_None = some c_gatepostref08_None := by kernel_rfl
theorem F_gatepostref01_Split : F i_gatepostref01_Split = some c_gatepostref01_Split := rfl
theorem kc_gatepostref01_Split : compF Tryd.prog i_gatepostref01_Split = some c_gatepostref01_Split := by kernel_rfl
theorem F_gatepostref01_Pair : F i_gatepostref01_Pair = some c_gatepostref01_Pair := rfl
theorem kc_gatepostref01_Pair : compF Tryd.prog i_gatepostref01_Pair = some c_gatepostref01_Pair := by kernel_rfl
theorem F_gatepostref01_Number : F i_gatepostref01_Number = some c_gatepostref01_Number := rfl
theorem kc_gatepostref01_Number : compF Tryd.prog i_gatepostref01_Number = some c_gatepostref01_Number := by kernel_rfl
theorem F_gatepostref01_Lower : F i_gatepostref01_Lower = some c_gatepostref01_Lower := rfl
theorem kc_gatepostref01_Lower : compF Tryd.prog i_gatepostref01_Lower = some c_gatepostref01_Lower := by kernel_rfl
theorem F_gatepostref08_least : F i_gatepostref08_least = some c_gatepostref08_least := rfl
theorem kc_gatepostref08_least : compF Tryd.prog i_gatepostref08_least = some c_gatepostref08_least := by kernel_rfl
theorem F_field_Get : F i_field_Get = some c_field_Get := rfl
theorem kc_field_Get : compF Tryd.prog i_field_Get = some c_field_Get := by kernel_rfl
theorem F_slices_Contains___string_string_ : F i_slices_Contains___string_string_ = some c_slices_Contains___string_string_ := rfl
theorem kc_slices_Contains___string_string_ : compF Tryd.prog i_slices_Contains___string_string_ = some c_slices_Contains___string_string_ := by kernel_rfl
theorem F_gatepostref04_Get : F i_gatepostref04_Get = some c_gatepostref04_Get := rfl
theorem kc_gatepostref04_Get : compF Tryd.prog i_gatepostref04_Get = some c_gatepostref04_Get := by kernel_rfl
theorem F_token_Split_1 : F i_token_Split_1 = some c_token_Split_1 := rfl
theorem kc_token_Split_1 : compF Tryd.prog i_token_Split_1 = some c_token_Split_1 := by kernel_rfl
theorem F_token_Trim : F i_token_Trim = some c_token_Trim := rfl
theorem kc_token_Trim : compF Tryd.prog i_token_Trim = some c_token_Trim := by kernel_rfl
theorem F_control_rules_1 : F i_control_rules_1 = some c_control_rules_1 := rfl
theorem kc_control_rules_1 : compF Tryd.prog i_control_rules_1 = some c_control_rules_1 := by kernel_rfl
theorem F_control_rules_2 : F i_control_rules_2 = some c_control_rules_2 := rfl
theorem kc_control_rules_2 : compF Tryd.prog i_control_rules_2 = some c_control_rules_2 := by kernel_rfl
theorem F_control_rules_3 : F i_control_rules_3 = some c_control_rules_3 := rfl
theorem kc_control_rules_3 : compF Tryd.prog i_control_rules_3 = some c_control_rules_3 := by kernel_rfl
theorem F_control_rules_4 : F i_control_rules_4 = some c_control_rules_4 := rfl
theorem kc_control_rules_4 : compF Tryd.prog i_control_rules_4 = some c_control_rules_4 := by kernel_rfl
theorem F_control_rules_5 : F i_control_rules_5 = some c_control_rules_5 := rfl
theorem kc_control_rules_5 : compF Tryd.prog i_control_rules_5 = some c_control_rules_5 := by kernel_rfl
theorem F_control_rules_6 : F i_control_rules_6 = some c_control_rules_6 := rfl
theorem kc_control_rules_6 : compF Tryd.prog i_control_rules_6 = some c_control_rules_6 := by kernel_rfl
theorem F_control_rules_7 : F i_control_rules_7 = some c_control_rules_7 := rfl
theorem kc_control_rules_7 : compF Tryd.prog i_control_rules_7 = some c_control_rules_7 := by kernel_rfl
theorem F_control_rules_8 : F i_control_rules_8 = some c_control_rules_8 := rfl
theorem kc_control_rules_8 : compF Tryd.prog i_control_rules_8 = some c_control_rules_8 := by kernel_rfl
theorem F_control_rules_9 : F i_control_rules_9 = some c_control_rules_9 := rfl
theorem kc_control_rules_9 : compF Tryd.prog i_control_rules_9 = some c_control_rules_9 := by kernel_rfl
theorem F_control_rules_10 : F i_control_rules_10 = some c_control_rules_10 := rfl
theorem kc_control_rules_10 : compF Tryd.prog i_control_rules_10 = some c_control_rules_10 := by kernel_rfl
theorem F_control_rules_11 : F i_control_rules_11 = some c_control_rules_11 := rfl
theorem kc_control_rules_11 : compF Tryd.prog i_control_rules_11 = some c_control_rules_11 := by kernel_rfl
theorem F_control_rules_12 : F i_control_rules_12 = some c_control_rules_12 := rfl
theorem kc_control_rules_12 : compF Tryd.prog i_control_rules_12 = some c_control_rules_12 := by kernel_rfl
theorem F_control_rules_13 : F i_control_rules_13 = some c_control_rules_13 := rfl
theorem kc_control_rules_13 : compF Tryd.prog i_control_rules_13 = some c_control_rules_13 := by kernel_rfl
theorem F_control_rules_14 : F i_control_rules_14 = some c_control_rules_14 := rfl
theorem kc_control_rules_14 : compF Tryd.prog i_control_rules_14 = some c_control_rules_14 := by kernel_rfl
theorem F_control_rules_15 : F i_control_rules_15 = some c_control_rules_15 := rfl
theorem kc_control_rules_15 : compF Tryd.prog i_control_rules_15 = some c_control_rules_15 := by kernel_rfl
theorem F_strings_Cut : F i_strings_Cut = some c_strings_Cut := rfl
theorem kc_strings_Cut : compF Tryd.prog i_strings_Cut = some c_strings_Cut := by kernel_rfl
theorem F_token_Is : F i_token_Is = some c_token_Is := rfl
theorem kc_token_Is : compF Tryd.prog i_token_Is = some c_token_Is := by kernel_rfl
theorem kc_token_unquote : compF Tryd.prog i_token_unquote = some c_token_unquote := by kernel_rfl
theorem F_token_Number : F i_token_Number = some c_token_Number := rfl
theorem kc_token_Number : compF Tryd.prog i_token_Number = some c_token_Number := by kernel_rfl
theorem F_gatepostref01_Trim : F i_gatepostref01_Trim = some c_gatepostref01_Trim := rfl
theorem kc_gatepostref01_Trim : compF Tryd.prog i_gatepostref01_Trim = some c_gatepostref01_Trim := by kernel_rfl
theorem F_gatepostref01_Is : F i_gatepostref01_Is = some c_gatepostref01_Is := rfl
theorem kc_gatepostref01_Is : compF Tryd.prog i_gatepostref01_Is = some c_gatepostref01_Is := by kernel_rfl
theorem F_gatepostref01_unquote : F i_gatepostref01_unquote = some c_gatepostref01_unquote := rfl
theorem kc_gatepostref01_unquote : compF Tryd.prog i_gatepostref01_unquote = some c_gatepostref01_unquote := by kernel_rfl
theorem F_token_Same : F i_token_Same = some c_token_Same := rfl
theorem kc_token_Same : compF Tryd.prog i_token_Same = some c_token_Same := by kernel_rfl
theorem F_slices_Index___string_string_ : F i_slices_Index___string_string_ = some c_slices_Index___string_string_ := rfl
theorem kc_slices_Index___string_string_ : compF Tryd.prog i_slices_Index___string_string_ = some c_slices_Index___string_string_ := by kernel_rfl
theorem F_gatepostref01_Same : F i_gatepostref01_Same = some c_gatepostref01_Same := rfl
theorem kc_gatepostref01_Same : compF Tryd.prog i_gatepostref01_Same = some c_gatepostref01_Same := by kernel_rfl
theorem F_strings_Trim : F i_strings_Trim = some c_strings_Trim := rfl
theorem kc_strings_Trim : compF Tryd.prog i_strings_Trim = some c_strings_Trim := by kernel_rfl
theorem F_internal_stringslite_Cut : F i_internal_stringslite_Cut = some c_internal_stringslite_Cut := rfl
theorem kc_internal_stringslite_Cut : compF Tryd.prog i_internal_stringslite_Cut = some c_internal_stringslite_Cut := by kernel_rfl
theorem F_token_all : F i_token_all = some c_token_all := rfl
theorem kc_token_all : compF Tryd.prog i_token_all = some c_token_all := by kernel_rfl
theorem F_token_inToken : F i_token_inToken = some c_token_inToken := rfl
theorem kc_token_inToken : compF Tryd.prog i_token_inToken = some c_token_inToken := by kernel_rfl
theorem kc_token_inQuotes : compF Tryd.prog i_token_inQuotes = some c_token_inQuotes := by kernel_rfl
theorem F_token_Number_1 : F i_token_Number_1 = some c_token_Number_1 := rfl
theorem kc_token_Number_1 : compF Tryd.prog i_token_Number_1 = some c_token_Number_1 := by kernel_rfl
theorem F_gatepostref01_blank : F i_gatepostref01_blank = some c_gatepostref01_blank := rfl
theorem kc_gatepostref01_blank : compF Tryd.prog i_gatepostref01_blank = some c_gatepostref01_blank := by kernel_rfl
theorem F_gatepostref01_tchar : F i_gatepostref01_tchar = some c_gatepostref01_tchar := rfl
theorem kc_gatepostref01_tchar : compF Tryd.prog i_gatepostref01_tchar = some c_gatepostref01_tchar := by kernel_rfl
theorem F_gatepostref01_text : F i_gatepostref01_text = some c_gatepostref01_text := rfl
theorem kc_gatepostref01_text : compF Tryd.prog i_gatepostref01_text = some c_gatepostref01_text := by kernel_rfl
theorem F_strings_makeASCIISet : F i_strings_makeASCIISet = some c_strings_makeASCIISet := rfl
theorem kc_strings_makeASCIISet : compF Tryd.prog i_strings_makeASCIISet = some c_strings_makeASCIISet := by kernel_rfl
theorem F_strings_trimLeftASCII : F i_strings_trimLeftASCII = some c_strings_trimLeftASCII := rfl
theorem kc_strings_trimLeftASCII : compF Tryd.prog i_strings_trimLeftASCII = some c_strings_trimLeftASCII := by kernel_rfl
theorem F_strings_trimRightASCII : F i_strings_trimRightASCII = some c_strings_trimRightASCII := rfl
theorem kc_strings_trimRightASCII : compF Tryd.prog i_strings_trimRightASCII = some c_strings_trimRightASCII := by kernel_rfl
theorem F_token_marks : F i_token_marks = some c_token_marks := rfl
theorem kc_token_marks : compF Tryd.prog i_token_marks = some c_token_marks := by kernel_rfl
theorem F___strings_asciiSet__contains : F i___strings_asciiSet__contains = some c___strings_asciiSet__contains := rfl
theorem kc___strings_asciiSet__contains : compF Tryd.prog i___strings_asciiSet__contains = some c___strings_asciiSet__contains := by kernel_rfl
def k_gatepostlaw08_ControlTells_2 (L : FuncId → List V → V → Prop) (K : V → Heap → Prop) (v10 v61 v64 v66 : V) (h : Heap) : Prop :=
    (wg v61 true (wi F L (.eq (.agg [.b, .b, .b, .b, .b, .b, .b, .i, .i, .i, .i, .i, .i]) false (.c v64) (.c v66)) E0 h) h fun v67 h =>
    (wi F L (.pick (.c v61) (.c v67) (.c (.bool false))) E0 h fun v68 h =>
    (wg v68 true (wi F L (.faddr 7 (.c v10)) E0 h) h fun v70 h =>
    (wg v68 true (wi F L (.load false 1 (.c v70)) E0 h) h fun v71 h =>
    (wg v68 true (wi F L (.bin .eql (.c v71) (.c (.int .i64 7))) E0 h) h fun v72 h =>
    (wi F L (.pick (.c v68) (.c v72) (.c (.bool false))) E0 h fun v73 h =>
    (wg v73 true (wi F L (.faddr 8 (.c v10)) E0 h) h fun v75 h =>
    (wg v73 true (wi F L (.load false 1 (.c v75)) E0 h) h fun v76 h =>
    (wg v73 true (wi F L (.bin .eql (.c v76) (.c (.int .i64 (-1)))) E0 h) h fun v77 h =>
    (wi F L (.pick (.c v73) (.c v77) (.c (.bool false))) E0 h fun v78 h =>
    (∃ v, some v78 = some v ∧ K v h)))))))))))
def k_gatepostlaw08_ControlTells_3 (L : FuncId → List V → V → Prop) (K : V → Heap → Prop) (v1 v6 v8 v44 v49 v51 : V) (h : Heap) : Prop :=
    (wi F L (.ext 0 (.c v51)) E0 h fun v52 h =>
    (wi F L (.ext 1 (.c v51)) E0 h fun v53 h =>
    (wi F L (.boxz [(.bool false), (.bool false), (.bool false), (.bool false), (.bool false), (.bool false), (.bool false), (.int .i64 0), (.int .i64 0), (.int .i64 0), (.int .i64 0), (.int .i64 0), (.int .i64 0)]) E0 h fun v10 h =>
    (wi F L (.store 13 (.c v10) (.c v52)) E0 h fun _ h =>
    (wi F L (.load true 13 (.c v6)) E0 h fun v54 h =>
    (wi F L (.load true 13 (.c v8)) E0 h fun v55 h =>
    (wi F L (.eq (.agg [.b, .b, .b, .b, .b, .b, .b, .i, .i, .i, .i, .i, .i]) false (.c v54) (.c v55)) E0 h fun v56 h =>
    (wg v56 true (wi F L (.mv (.c v44)) E0 h) h fun v58 h =>
    (wg v56 true (wi F L (.mv (.c v49)) E0 h) h fun v59 h =>
    (wg v56 true (wi F L (.eq .bool false (.c v58) (.c v59)) E0 h) h fun v60 h =>
    (wi F L (.pick (.c v56) (.c v60) (.c (.bool false))) E0 h fun v61 h =>
    (wg v61 true (wi F L (.mv (.c v1)) E0 h) h fun v63 h =>
    (wg v61 true (wi F L (.call i_control_Of [(.c v63)]) E0 h) h fun v64 h =>
    (wg v61 true (wi F L (.mv (.c v1)) E0 h) h fun v65 h =>
    (wg v61 true (wi F L (.call i_gatepostref08_Of [(.c v65)]) E0 h) h fun v66 h =>
    (k_gatepostlaw08_ControlTells_2 L K v10 v61 v64 v66 h))))))))))))))))
def k_gatepostlaw08_ControlTells_4 (L : FuncId → List V → V → Prop) (K : V → Heap → Prop) (v1 v6 v44 v47 : V) (h : Heap) : Prop :=
    (wi F L (.ext 0 (.c v47)) E0 h fun v48 h =>
    (wi F L (.ext 1 (.c v47)) E0 h fun v49 h =>
    (wi F L (.boxz [(.bool false), (.bool false), (.bool false), (.bool false), (.bool false), (.bool false), (.bool false), (.int .i64 0), (.int .i64 0), (.int .i64 0), (.int .i64 0), (.int .i64 0), (.int .i64 0)]) E0 h fun v8 h =>
    (wi F L (.store 13 (.c v8) (.c v48)) E0 h fun _ h =>
    (wi F L (.call i_control_Parse [(.c (.str [109, 97, 120, 45, 97, 103, 101, 61, 55]))]) E0 h fun v51 h =>
    (k_gatepostlaw08_ControlTells_3 L K v1 v6 v8 v44 v49 v51 h))))))
def k_gatepostlaw08_ControlTells_5 (L : FuncId → List V → V → Prop) (K : V → Heap → Prop) (v0 v1 v42 : V) (h : Heap) : Prop :=
    (wi F L (.ext 0 (.c v42)) E0 h fun v43 h =>
    (wi F L (.ext 1 (.c v42)) E0 h fun v44 h =>
    (wi F L (.boxz [(.bool false), (.bool false), (.bool false), (.bool false), (.bool false), (.bool false), (.bool false), (.int .i64 0), (.int .i64 0), (.int .i64 0), (.int .i64 0), (.int .i64 0), (.int .i64 0)]) E0 h fun v6 h =>
    (wi F L (.store 13 (.c v6) (.c v43)) E0 h fun _ h =>
    (wi F L (.call i_gatepostref08_Parse [(.c v0)]) E0 h fun v47 h =>
    (k_gatepostlaw08_ControlTells_4 L K v1 v6 v44 v47 h))))))
def k_gatepostlaw08_ControlTells_1 (L : FuncId → List V → V → Prop) (K : V → Heap → Prop) (v0 v1 : V) (h : Heap) : Prop :=
    (wi F L (.call i_control_Parse [(.c v0)]) E0 h fun v42 h =>
    (k_gatepostlaw08_ControlTells_5 L K v0 v1 v42 h))
def k_gatepostlaw08_ControlTells_7 (L : FuncId → List V → V → Prop) (K : V → Heap → Prop) (N0 : Env → Heap → Prop) (e : Env) (v5 : V) (h : Heap) : Prop :=
    (wi F L (.bin .add (.c v5) (.c (.int .i64 1))) E0 h fun v25 h =>
    (N0 (upd (upd (upd e 24 v5) 25 v25) 5 v25) h))
def k_gatepostlaw08_ControlTells_6 (L : FuncId → List V → V → Prop) (K : V → Heap → Prop) (N0 : Env → Heap → Prop) (e : Env) (v1 v5 : V) (h : Heap) : Prop :=
    (wi F L (.ixaSl 2 (.c v1) (.c v5)) E0 h fun v28 h' => Ext h h' ∧
    (wi F L (.faddr 0 (.c v28)) E0 h' fun v29 h => Ext h' h ∧
    (wi F L (.load false 1 (.c v29)) E0 h fun v30 h' => Ext h h' ∧
    (wi F L (.len 0 (.c v30)) E0 h' fun v31 h => Ext h' h ∧
    (wi F L (.ixaSl 2 (.c v1) (.c v5)) E0 h fun v34 h' => Ext h h' ∧
    (wi F L (.faddr 1 (.c v34)) E0 h' fun v35 h => Ext h' h ∧
    (wi F L (.load false 1 (.c v35)) E0 h fun v36 h' => Ext h h' ∧
    (wi F L (.len 0 (.c v36)) E0 h' fun v37 h => Ext h' h ∧
    (wi F L (.bin .add (.c v31) (.c v37)) E0 h fun v38 h =>
    (wi F L (.bin .gtr (.c v38) (.c (.int .i64 200))) E0 h fun v39 h =>
    (wb v39
    (∃ v, some (.bool true) = some v ∧ K v h)
    (k_gatepostlaw08_ControlTells_7 L K N0 (upd (upd (upd (upd (upd (upd (upd (upd (upd (upd (upd (upd (upd (upd e 26 v1) 27 v5) 28 v28) 29 v29) 30 v30) 31 v31) 32 v1) 33 v5) 34 v34) 35 v35) 36 v36) 37 v37) 38 v38) 39 v39) v5 h))))))))))))
def q_gatepostlaw08_ControlTells_0 (L : FuncId → List V → V → Prop) (K : V → Heap → Prop) : X → Env → Heap → Prop := (fun x => (seqX (fun e h => k_gatepostlaw08_ControlTells_1 L K (e 0) (e 1) h) (retX c_gatepostlaw08_ControlTells.results K)) (X.out 0 x))
def lc_gatepostlaw08_ControlTells_0 : C :=
  (.seq (.seq (.region [⟨(some 20), none, .mv (.t 5)⟩, ⟨(some 21), none, .mv (.t 1)⟩, ⟨(some 22), none, .len 1 (.t 21)⟩, ⟨(some 23), none, .bin .lss (.t 20) (.t 22)⟩])
  (.cond (.t 23)
    .skip
    (.exit 0)))
  (.seq (.block 1 (.seq (.dregion [⟨(some 26), none, .mv (.t 1)⟩, ⟨(some 27), none, .mv (.t 5)⟩, ⟨(some 28), none, .ixaSl 2 (.t 26) (.t 27)⟩, ⟨(some 29), none, .faddr 0 (.t 28)⟩, ⟨(some 30), none, .load false 1 (.t 29)⟩, ⟨(some 31), none, .len 0 (.t 30)⟩, ⟨(some 32), none, .mv (.t 1)⟩, ⟨(some 33), none, .mv (.t 5)⟩, ⟨(some 34), none, .ixaSl 2 (.t 32) (.t 33)⟩, ⟨(some 35), none, .faddr 1 (.t 34)⟩, ⟨(some 36), none, .load false 1 (.t 35)⟩, ⟨(some 37), none, .len 0 (.t 36)⟩] [⟨(some 38), none, .bin .add (.t 31) (.t 37)⟩, ⟨(some 39), none, .bin .gtr (.t 38) (.c (.int .i64 200))⟩])
  (.cond (.t 39)
    (.seq (.region [⟨(some 4), none, .mv (.c (.bool true))⟩])
    .ret)
    .skip)))
  (.region [⟨(some 24), none, .mv (.t 5)⟩, ⟨(some 25), none, .bin .add (.t 24) (.c (.int .i64 1))⟩, ⟨(some 5), none, .mv (.t 25)⟩])))
def b_gatepostlaw08_ControlTells_0 (L : FuncId → List V → V → Prop) (K : V → Heap → Prop) (N0 : Env → Heap → Prop) (e : Env) (h : Heap) : Prop :=
    (wi F L (.len 1 (.c (e 1))) E0 h fun v22 h =>
    (wi F L (.bin .lss (.c (e 5)) (.c v22)) E0 h fun v23 h =>
    (wb v23
    (k_gatepostlaw08_ControlTells_6 L K N0 (upd (upd (upd (upd e 20 (e 5)) 21 (e 1)) 22 v22) 23 v23) (e 1) (e 5) h)
    (k_gatepostlaw08_ControlTells_1 L K (e 0) (e 1) h))))
theorem l_gatepostlaw08_ControlTells_0 {L : FuncId → List V → V → Prop} {K : V → Heap → Prop} (I : Nat → Env → Heap → Prop) (hr : ∀ n e h, I n e h → b_gatepostlaw08_ControlTells_0 L K (fun e' h' => ∃ m, m < n ∧ I m e' h') e h) {n : Nat} {e : Env} {h : Heap} (hi : I n e h) : Wl F L lc_gatepostlaw08_ControlTells_0 (q_gatepostlaw08_ControlTells_0 L K) e h :=
  wloopp (b := b_gatepostlaw08_ControlTells_0 L K) I (fun _ _ _ => by kernel_rfl) hr hi
def k_gatepostlaw08_ControlTells_0 (L : FuncId → List V → V → Prop) (K : V → Heap → Prop) (e : Env) (h : Heap) : Prop :=
    (Wl F L lc_gatepostlaw08_ControlTells_0 (q_gatepostlaw08_ControlTells_0 L K) (upd e 5 (.int .i64 0)) h)
def p_gatepostlaw08_ControlTells (L : FuncId → List V → V → Prop) (K : V → Heap → Prop) (a0 a1 : V) (h : Heap) : Prop :=
    (wi F L (.len 0 (.c a0)) E0 h fun v13 h =>
    (wi F L (.bin .gtr (.c v13) (.c (.int .i64 2000))) E0 h fun v14 h =>
    (wg v14 false (wi F L (.mv (.c a1)) E0 h) h fun v16 h =>
    (wg v14 false (wi F L (.len 1 (.c v16)) E0 h) h fun v17 h =>
    (wg v14 false (wi F L (.bin .gtr (.c v17) (.c (.int .i64 50))) E0 h) h fun v18 h =>
    (wi F L (.pick (.c v14) (.c (.bool true)) (.c v18)) E0 h fun v19 h =>
    (wb v19
    (∃ v, some (.bool true) = some v ∧ K v h)
    (k_gatepostlaw08_ControlTells_0 L K (upd (upd (upd (upd (upd (upd (upd (upd (upd (enterE [a0, a1]) 4 (.bool false)) 12 a0) 13 v13) 14 v14) 15 v14) 16 v16) 17 v17) 18 v18) 19 v19)  h))))))))
theorem run_gatepostlaw08_ControlTells {L : FuncId → List V → V → Prop} {K : V → Heap → Prop} {a0 a1 : V} {h : Heap} (hp : p_gatepostlaw08_ControlTells L K a0 a1 h) : Cf F L i_gatepostlaw08_ControlTells [a0, a1] h K :=
  wcallp F_gatepostlaw08_ControlTells (show 2 ≤ 79 by decide) (p := p_gatepostlaw08_ControlTells L K a0 a1 h) (by kernel_rfl) hp
def k_control_Parse_1 (L : FuncId → List V → V → Prop) (K : V → Heap → Prop) (v2 v4 : V) (h : Heap) : Prop :=
    (wi F L (.load true 13 (.c v4)) E0 h fun v83 h =>
    (wi F L (.store 13 (.c v2) (.c v83)) E0 h fun _ h =>
    (∃ v, resultsV h (enterE [v2, (.bool true)]) [.cell 0 true 13, .tmp 1] = some v ∧ K v h)))
def k_control_Parse_3 (L : FuncId → List V → V → Prop) (K : V → Heap → Prop) (N0 : Env → Heap → Prop) (e : Env) (v31 : V) (h : Heap) : Prop :=
    (wi F L (.bin .add (.c v31) (.c (.int .i64 1))) E0 h fun v82 h =>
    (N0 (upd (upd e 82 v82) 31 v82) h))
def k_control_Parse_4 (L : FuncId → List V → V → Prop) (K : V → Heap → Prop) (N0 : Env → Heap → Prop) (e : Env) (v7 v14 v31 v33 v34 v37 v38 v39 v40 v41 v44 v45 v47 v48 v49 v54 v55 v56 v57 v58 v59 v60 v63 : V) (h : Heap) : Prop :=
    (wi F L (.bin .neq (.c v63) (.c (.int .i64 (-1)))) E0 h fun v65 h =>
    (wg v65 true (wi F L (.mv (.c v59)) E0 h) h fun v67 h =>
    (wg v65 true (wi F L (.nilck (.c v67)) E0 h) h fun v68 h =>
    (wg v65 true (wi F L (.load false 1 (.c v68)) E0 h) h fun v69 h =>
    (wg v65 true (wi F L (.bin .eql (.c v69) (.c (.int .i64 (-1)))) E0 h) h fun v70 h =>
    (wg v65 true (wi F L (.mv (.c v70)) E0 h) h fun v71 h =>
    (wg v71 false (wi F L (.mv (.c v63)) E0 h) h fun v72 h =>
    (wg v71 false (wi F L (.mv (.c v59)) E0 h) h fun v73 h =>
    (wg v71 false (wi F L (.nilck (.c v73)) E0 h) h fun v74 h =>
    (wg v71 false (wi F L (.load false 1 (.c v74)) E0 h) h fun v75 h =>
    (wg v71 false (wi F L (.bin .lss (.c v72) (.c v75)) E0 h) h fun v76 h =>
    (wg v65 true (wi F L (.pick (.c v71) (.c (.bool true)) (.c v76)) E0 h) h fun v77 h =>
    (wi F L (.pick (.c v65) (.c v77) (.c (.bool false))) E0 h fun v78 h =>
    (wb v78
    (wi F L (.nilck (.c v59)) E0 h fun v81 h =>
    (wi F L (.store 1 (.c v81) (.c v63)) E0 h fun _ h =>
    (k_control_Parse_3 L K N0 (upd (upd (upd (upd (upd (upd (upd (upd (upd (upd (upd (upd (upd (upd (upd (upd (upd (upd (upd (upd (upd (upd (upd (upd (upd (upd (upd (upd (upd (upd (upd (upd (upd (upd (upd (upd (upd (upd (upd (upd (upd (upd (upd (upd (upd (upd (upd (upd (upd (upd (upd (upd (upd (upd e 33 v33) 34 v34) 9 v34) 36 v34) 37 v37) 35 v37) 38 v38) 39 v39) 40 v40) 41 v41) 10 v38) 11 v39) 12 v40) 13 v41) 42 v7) 43 v38) 44 v44) 45 v45) 14 v14) 47 v47) 48 v48) 49 v49) 46 v49) 54 v54) 55 v55) 56 v56) 53 v56) 57 v57) 58 v58) 59 v59) 60 v60) 61 v39) 62 v40) 63 v63) 15 v59) 16 v63) 64 v63) 65 v65) 66 v65) 67 v67) 68 v68) 69 v69) 70 v70) 71 v71) 72 v72) 73 v73) 74 v74) 75 v75) 76 v76) 77 v77) 78 v78) 79 v59) 80 v63) 81 v81) v31 h)))
    (k_control_Parse_3 L K N0 (upd (upd (upd (upd (upd (upd (upd (upd (upd (upd (upd (upd (upd (upd (upd (upd (upd (upd (upd (upd (upd (upd (upd (upd (upd (upd (upd (upd (upd (upd (upd (upd (upd (upd (upd (upd (upd (upd (upd (upd (upd (upd (upd (upd (upd (upd (upd (upd (upd (upd (upd e 33 v33) 34 v34) 9 v34) 36 v34) 37 v37) 35 v37) 38 v38) 39 v39) 40 v40) 41 v41) 10 v38) 11 v39) 12 v40) 13 v41) 42 v7) 43 v38) 44 v44) 45 v45) 14 v14) 47 v47) 48 v48) 49 v49) 46 v49) 54 v54) 55 v55) 56 v56) 53 v56) 57 v57) 58 v58) 59 v59) 60 v60) 61 v39) 62 v40) 63 v63) 15 v59) 16 v63) 64 v63) 65 v65) 66 v65) 67 v67) 68 v68) 69 v69) 70 v70) 71 v71) 72 v72) 73 v73) 74 v74) 75 v75) 76 v76) 77 v77) 78 v78) v31 h)))))))))))))))
def k_control_Parse_5 (L : FuncId → List V → V → Prop) (K : V → Heap → Prop) (N0 : Env → Heap → Prop) (e : Env) (v4 v7 v31 v33 v34 v37 v38 v39 v40 v41 v44 v45 : V) (h : Heap) : Prop :=
    (wi F L (.boxz [.nfn, .nfn, (.int .i64 0), (.int .i64 0)]) E0 h fun v14 h =>
    (wi F L (.store 4 (.c v14) (.c v45)) E0 h fun _ h =>
    (wi F L (.faddr 0 (.c v14)) E0 h fun v47 h =>
    (wi F L (.load false 1 (.c v47)) E0 h fun v48 h =>
    (wi F L (.eq (.nil 2) true (.c v48) (.c .nfn)) E0 h fun v49 h =>
    (wb v49
    (wi F L (.faddr 0 (.c v14)) E0 h fun v50 h =>
    (wi F L (.load false 1 (.c v50)) E0 h fun v51 h =>
    (wi F L (.callv (.c v51) [(.c v4)]) E0 h fun v52 h =>
    (k_control_Parse_3 L K N0 (upd (upd (upd (upd (upd (upd (upd (upd (upd (upd (upd (upd (upd (upd (upd (upd (upd (upd (upd (upd (upd (upd (upd (upd (upd (upd e 33 v33) 34 v34) 9 v34) 36 v34) 37 v37) 35 v37) 38 v38) 39 v39) 40 v40) 41 v41) 10 v38) 11 v39) 12 v40) 13 v41) 42 v7) 43 v38) 44 v44) 45 v45) 14 v14) 47 v47) 48 v48) 49 v49) 46 v49) 50 v50) 51 v51) 52 v52) v31 h))))
    (wi F L (.faddr 1 (.c v14)) E0 h fun v54 h =>
    (wi F L (.load false 1 (.c v54)) E0 h fun v55 h =>
    (wi F L (.eq (.nil 2) true (.c v55) (.c .nfn)) E0 h fun v56 h =>
    (wb v56
    (wi F L (.faddr 1 (.c v14)) E0 h fun v57 h' => Ext h h' ∧
    (wi F L (.load false 1 (.c v57)) E0 h' fun v58 h => Ext h' h ∧
    (wi F L (.callv (.c v58) [(.c v4)]) E0 h fun v59 h' => Ext h h' ∧
    (wi F L (.load true 4 (.c v14)) E0 h' fun v60 h => Ext h' h ∧
    (wi F L (.call i__gatepost_control_rule__value [(.c v60), (.c v39), (.c v40)]) E0 h fun v63 h =>
    (k_control_Parse_4 L K N0 e v7 v14 v31 v33 v34 v37 v38 v39 v40 v41 v44 v45 v47 v48 v49 v54 v55 v56 v57 v58 v59 v60 v63 h))))))
    (k_control_Parse_3 L K N0 (upd (upd (upd (upd (upd (upd (upd (upd (upd (upd (upd (upd (upd (upd (upd (upd (upd (upd (upd (upd (upd (upd (upd (upd (upd (upd (upd e 33 v33) 34 v34) 9 v34) 36 v34) 37 v37) 35 v37) 38 v38) 39 v39) 40 v40) 41 v41) 10 v38) 11 v39) 12 v40) 13 v41) 42 v7) 43 v38) 44 v44) 45 v45) 14 v14) 47 v47) 48 v48) 49 v49) 46 v49) 54 v54) 55 v55) 56 v56) 53 v56) v31 h)))))))))))
def k_control_Parse_6 (L : FuncId → List V → V → Prop) (K : V → Heap → Prop) (N0 : Env → Heap → Prop) (e : Env) (v4 v7 v31 v33 v34 v37 : V) (h : Heap) : Prop :=
    (wi F L (.ext 0 (.c v37)) E0 h fun v38 h =>
    (wi F L (.ext 1 (.c v37)) E0 h fun v39 h =>
    (wi F L (.ext 2 (.c v37)) E0 h fun v40 h =>
    (wi F L (.ext 3 (.c v37)) E0 h fun v41 h =>
    (wi F L (.call i_token_Lower [(.c v38)]) E0 h fun v44 h =>
    (wi F L (.lookup .s (.agg [.nfn, .nfn, (.int .i64 0), (.int .i64 0)]) false (.c v7) (.c v44)) E0 h fun v45 h =>
    (k_control_Parse_5 L K N0 e v4 v7 v31 v33 v34 v37 v38 v39 v40 v41 v44 v45 h)))))))
def k_control_Parse_2 (L : FuncId → List V → V → Prop) (K : V → Heap → Prop) (N0 : Env → Heap → Prop) (e : Env) (v4 v7 v29 v31 : V) (h : Heap) : Prop :=
    (wi F L (.ixaSl 1 (.c v29) (.c v31)) E0 h fun v33 h =>
    (wi F L (.load false 1 (.c v33)) E0 h fun v34 h =>
    (wi F L (.call i_token_Pair [(.c v34)]) E0 h fun v37 h =>
    (k_control_Parse_6 L K N0 e v4 v7 v31 v33 v34 v37 h))))
def q_control_Parse_0 (L : FuncId → List V → V → Prop) (K : V → Heap → Prop) : X → Env → Heap → Prop := (fun x => (seqX (fun e h => k_control_Parse_1 L K (e 2) (e 4) h) (retX c_control_Parse.results K)) (X.out 0 x))
def lc_control_Parse_0 : C :=
  (.seq (.region [⟨(some 32), none, .bin .lss (.t 31) (.t 30)⟩])
  (.seq (.cond (.t 32)
    .skip
    (.exit 0))
  (.seq (.block 1 (.seq (.region [⟨(some 33), none, .ixaSl 1 (.t 29) (.t 31)⟩, ⟨(some 34), none, .load false 1 (.t 33)⟩, ⟨(some 9), none, .mv (.t 34)⟩])
  (.seq (.region [⟨(some 36), none, .mv (.t 9)⟩, ⟨(some 37), none, .call i_token_Pair [(.t 36)]⟩, ⟨(some 35), none, .mv (.t 37)⟩, ⟨(some 38), none, .ext 0 (.t 35)⟩, ⟨(some 39), none, .ext 1 (.t 35)⟩, ⟨(some 40), none, .ext 2 (.t 35)⟩, ⟨(some 41), none, .ext 3 (.t 35)⟩, ⟨(some 10), none, .mv (.t 38)⟩, ⟨(some 11), none, .mv (.t 39)⟩, ⟨(some 12), none, .mv (.t 40)⟩, ⟨(some 13), none, .mv (.t 41)⟩])
  (.seq (.region [⟨(some 42), none, .mv (.t 7)⟩, ⟨(some 43), none, .mv (.t 10)⟩, ⟨(some 44), none, .call i_token_Lower [(.t 43)]⟩, ⟨(some 45), none, .lookup .s (.agg [.nfn, .nfn, (.int .i64 0), (.int .i64 0)]) false (.t 42) (.t 44)⟩, ⟨(some 14), none, .boxz [.nfn, .nfn, (.int .i64 0), (.int .i64 0)]⟩, ⟨none, none, .store 4 (.t 14) (.t 45)⟩])
  (.block 2 (.seq (.region [⟨(some 47), none, .faddr 0 (.t 14)⟩, ⟨(some 48), none, .load false 1 (.t 47)⟩, ⟨(some 49), none, .eq (.nil 2) true (.t 48) (.c .nfn)⟩, ⟨(some 46), none, .mv (.t 49)⟩])
  (.cond (.t 46)
    (.region [⟨(some 50), none, .faddr 0 (.t 14)⟩, ⟨(some 51), none, .load false 1 (.t 50)⟩, ⟨(some 52), none, .callv (.t 51) [(.t 4)]⟩])
    (.seq (.region [⟨(some 54), none, .faddr 1 (.t 14)⟩, ⟨(some 55), none, .load false 1 (.t 54)⟩, ⟨(some 56), none, .eq (.nil 2) true (.t 55) (.c .nfn)⟩, ⟨(some 53), none, .mv (.t 56)⟩])
    (.cond (.t 53)
      (.seq (.dregion [⟨(some 57), none, .faddr 1 (.t 14)⟩, ⟨(some 58), none, .load false 1 (.t 57)⟩, ⟨(some 59), none, .callv (.t 58) [(.t 4)]⟩, ⟨(some 60), none, .load true 4 (.t 14)⟩, ⟨(some 61), none, .mv (.t 11)⟩, ⟨(some 62), none, .mv (.t 12)⟩] [⟨(some 63), none, .call i__gatepost_control_rule__value [(.t 60), (.t 61), (.t 62)]⟩, ⟨(some 15), none, .mv (.t 59)⟩, ⟨(some 16), none, .mv (.t 63)⟩])
      (.seq (.region [⟨(some 64), none, .mv (.t 16)⟩, ⟨(some 65), none, .bin .neq (.t 64) (.c (.int .i64 (-1)))⟩, ⟨(some 66), none, .mv (.t 65)⟩, ⟨(some 67), (some (66, true)), .mv (.t 15)⟩, ⟨(some 68), (some (66, true)), .nilck (.t 67)⟩, ⟨(some 69), (some (66, true)), .load false 1 (.t 68)⟩, ⟨(some 70), (some (66, true)), .bin .eql (.t 69) (.c (.int .i64 (-1)))⟩, ⟨(some 71), (some (66, true)), .mv (.t 70)⟩, ⟨(some 72), (some (71, false)), .mv (.t 16)⟩, ⟨(some 73), (some (71, false)), .mv (.t 15)⟩, ⟨(some 74), (some (71, false)), .nilck (.t 73)⟩, ⟨(some 75), (some (71, false)), .load false 1 (.t 74)⟩, ⟨(some 76), (some (71, false)), .bin .lss (.t 72) (.t 75)⟩, ⟨(some 77), (some (66, true)), .pick (.t 71) (.c (.bool true)) (.t 76)⟩, ⟨(some 78), none, .pick (.t 66) (.t 77) (.c (.bool false))⟩])
      (.cond (.t 78)
        (.region [⟨(some 79), none, .mv (.t 15)⟩, ⟨(some 80), none, .mv (.t 16)⟩, ⟨(some 81), none, .nilck (.t 79)⟩, ⟨none, none, .store 1 (.t 81) (.t 80)⟩])
        .skip)))
      .skip)))))))))
  (.region [⟨(some 82), none, .bin .add (.t 31) (.c (.int .i64 1))⟩, ⟨(some 31), none, .mv (.t 82)⟩]))))
def b_control_Parse_0 (L : FuncId → List V → V → Prop) (K : V → Heap → Prop) (N0 : Env → Heap → Prop) (e : Env) (h : Heap) : Prop :=
    (wi F L (.bin .lss (.c (e 31)) (.c (e 30))) E0 h fun v32 h =>
    (wb v32
    (k_control_Parse_2 L K N0 (upd e 32 v32) (e 4) (e 7) (e 29) (e 31) h)
    (k_control_Parse_1 L K (e 2) (e 4) h)))
theorem l_control_Parse_0 {L : FuncId → List V → V → Prop} {K : V → Heap → Prop} (I : Nat → Env → Heap → Prop) (hr : ∀ n e h, I n e h → b_control_Parse_0 L K (fun e' h' => ∃ m, m < n ∧ I m e' h') e h) {n : Nat} {e : Env} {h : Heap} (hi : I n e h) : Wl F L lc_control_Parse_0 (q_control_Parse_0 L K) e h :=
  wloopp (b := b_control_Parse_0 L K) I (fun _ _ _ => by kernel_rfl) hr hi
def k_control_Parse_0 (L : FuncId → List V → V → Prop) (K : V → Heap → Prop) (e : Env) (v5 : V) (h : Heap) : Prop :=
    (wi F L (.call i_control_rules []) E0 h fun v28 h =>
    (wi F L (.len 1 (.c v5)) E0 h fun v30 h =>
    (Wl F L lc_control_Parse_0 (q_control_Parse_0 L K) (upd (upd (upd (upd (upd e 28 v28) 7 v28) 29 v5) 30 v30) 31 (.int .i64 0)) h)))
def k_control_Parse_7 (L : FuncId → List V → V → Prop) (K : V → Heap → Prop) (a0 v2 v4 v17 v20 : V) (h : Heap) : Prop :=
    (wi F L (.ext 0 (.c v20)) E0 h fun v21 h =>
    (wi F L (.ext 1 (.c v20)) E0 h fun v22 h =>
    (wi F L (.un .not (.c v22)) E0 h fun v24 h =>
    (wb v24
    (wi F L (.faddr 0 (.c v4)) E0 h fun v25 h =>
    (wi F L (.store 1 (.c v25) (.c (.bool true))) E0 h fun _ h =>
    (wi F L (.faddr 1 (.c v4)) E0 h fun v26 h =>
    (wi F L (.store 1 (.c v26) (.c (.bool true))) E0 h fun _ h =>
    (wi F L (.load true 13 (.c v4)) E0 h fun v27 h =>
    (wi F L (.store 13 (.c v2) (.c v27)) E0 h fun _ h =>
    (∃ v, resultsV h (enterE [v2, (.bool false)]) [.cell 0 true 13, .tmp 1] = some v ∧ K v h)))))))
    (k_control_Parse_0 L K (upd (upd (upd (upd (upd (upd (upd (upd (upd (upd (upd (upd (upd (enterE [a0]) 2 v2) 3 (.bool false)) 17 v17) 4 v4) 19 a0) 20 v20) 18 v20) 21 v21) 22 v22) 5 v21) 6 v22) 23 v22) 24 v24) v21 h)))))
def p_control_Parse (L : FuncId → List V → V → Prop) (K : V → Heap → Prop) (a0 : V) (h : Heap) : Prop :=
    (wi F L (.boxz [(.bool false), (.bool false), (.bool false), (.bool false), (.bool false), (.bool false), (.bool false), (.int .i64 0), (.int .i64 0), (.int .i64 0), (.int .i64 0), (.int .i64 0), (.int .i64 0)]) E0 h fun v2 h =>
    (wi F L (.call i_control_nothing []) E0 h fun v17 h =>
    (wi F L (.boxz [(.bool false), (.bool false), (.bool false), (.bool false), (.bool false), (.bool false), (.bool false), (.int .i64 0), (.int .i64 0), (.int .i64 0), (.int .i64 0), (.int .i64 0), (.int .i64 0)]) E0 h fun v4 h =>
    (wi F L (.store 13 (.c v4) (.c v17)) E0 h fun _ h =>
    (wi F L (.call i_token_Split [(.c a0)]) E0 h fun v20 h =>
    (k_control_Parse_7 L K a0 v2 v4 v17 v20 h))))))
theorem run_control_Parse {L : FuncId → List V → V → Prop} {K : V → Heap → Prop} {a0 : V} {h : Heap} (hp : p_control_Parse L K a0 h) : Cf F L i_control_Parse [a0] h K :=
  wcallp F_control_Parse (show 1 ≤ 84 by decide) (p := p_control_Parse L K a0 h) (by kernel_rfl) hp
def k_gatepostref08_Parse_1 (L : FuncId → List V → V → Prop) (K : V → Heap → Prop) (v2 v4 : V) (h : Heap) : Prop :=
    (wi F L (.load true 13 (.c v4)) E0 h fun v131 h =>
    (wi F L (.store 13 (.c v2) (.c v131)) E0 h fun _ h =>
    (∃ v, resultsV h (enterE [v2, (.bool true)]) [.cell 0 true 13, .tmp 1] = some v ∧ K v h)))
def k_gatepostref08_Parse_3 (L : FuncId → List V → V → Prop) (K : V → Heap → Prop) (N0 : Env → Heap → Prop) (e : Env) (v7 : V) (h : Heap) : Prop :=
    (wi F L (.bin .add (.c v7) (.c (.int .i64 1))) E0 h fun v30 h =>
    (N0 (upd (upd (upd e 29 v7) 30 v30) 7 v30) h))
def k_gatepostref08_Parse_5 (L : FuncId → List V → V → Prop) (K : V → Heap → Prop) (N0 : Env → Heap → Prop) (e : Env) (v4 v7 v12 : V) (h : Heap) : Prop :=
    (wi F L (.faddr 7 (.c v4)) E0 h fun v79 h =>
    (wi F L (.load false 1 (.c v79)) E0 h fun v80 h =>
    (wi F L (.call i_gatepostref08_least [(.c v80), (.c v12)]) E0 h fun v82 h =>
    (wi F L (.faddr 7 (.c v4)) E0 h fun v83 h =>
    (wi F L (.store 1 (.c v83) (.c v82)) E0 h fun _ h =>
    (k_gatepostref08_Parse_3 L K N0 (upd (upd (upd (upd (upd e 79 v79) 80 v80) 81 v12) 82 v82) 83 v83) v7 h))))))
def k_gatepostref08_Parse_6 (L : FuncId → List V → V → Prop) (K : V → Heap → Prop) (N0 : Env → Heap → Prop) (e : Env) (v4 v7 v12 : V) (h : Heap) : Prop :=
    (wi F L (.faddr 8 (.c v4)) E0 h fun v88 h =>
    (wi F L (.load false 1 (.c v88)) E0 h fun v89 h =>
    (wi F L (.call i_gatepostref08_least [(.c v89), (.c v12)]) E0 h fun v91 h =>
    (wi F L (.faddr 8 (.c v4)) E0 h fun v92 h =>
    (wi F L (.store 1 (.c v92) (.c v91)) E0 h fun _ h =>
    (k_gatepostref08_Parse_3 L K N0 (upd (upd (upd (upd (upd e 88 v88) 89 v89) 90 v12) 91 v91) 92 v92) v7 h))))))
def k_gatepostref08_Parse_7 (L : FuncId → List V → V → Prop) (K : V → Heap → Prop) (N0 : Env → Heap → Prop) (e : Env) (v4 v7 v8 v9 v45 v46 v47 v50 v51 v53 v55 v58 v61 v64 v67 v70 v73 v76 v85 v94 v96 v97 v99 : V) (h : Heap) : Prop :=
    (wi F L (.faddr 9 (.c v4)) E0 h fun v100 h =>
    (wi F L (.store 1 (.c v100) (.c v99)) E0 h fun _ h =>
    (k_gatepostref08_Parse_3 L K N0 (upd (upd (upd (upd (upd (upd (upd (upd (upd (upd (upd (upd (upd (upd (upd (upd (upd (upd (upd (upd (upd (upd (upd (upd (upd (upd (upd (upd (upd (upd (upd (upd (upd (upd (upd (upd (upd (upd (upd (upd e 44 v9) 45 v45) 43 v45) 46 v46) 47 v47) 12 v46) 13 v47) 48 v47) 49 v47) 50 v50) 51 v51) 13 v51) 52 v8) 53 v53) 55 v55) 54 v55) 58 v58) 57 v58) 61 v61) 60 v61) 64 v64) 63 v64) 67 v67) 66 v67) 70 v70) 69 v70) 73 v73) 72 v73) 76 v76) 75 v76) 85 v85) 84 v85) 94 v94) 93 v94) 95 v51) 96 v96) 97 v97) 98 v46) 99 v99) 100 v100) v7 h)))
def k_gatepostref08_Parse_8 (L : FuncId → List V → V → Prop) (K : V → Heap → Prop) (N0 : Env → Heap → Prop) (e : Env) (v4 v7 v8 v9 v45 v46 v47 v50 v51 v53 v55 v58 v61 v64 v67 v70 v73 v76 v85 v94 v102 v104 v105 v107 : V) (h : Heap) : Prop :=
    (wi F L (.faddr 10 (.c v4)) E0 h fun v108 h =>
    (wi F L (.store 1 (.c v108) (.c v107)) E0 h fun _ h =>
    (k_gatepostref08_Parse_3 L K N0 (upd (upd (upd (upd (upd (upd (upd (upd (upd (upd (upd (upd (upd (upd (upd (upd (upd (upd (upd (upd (upd (upd (upd (upd (upd (upd (upd (upd (upd (upd (upd (upd (upd (upd (upd (upd (upd (upd (upd (upd (upd (upd e 44 v9) 45 v45) 43 v45) 46 v46) 47 v47) 12 v46) 13 v47) 48 v47) 49 v47) 50 v50) 51 v51) 13 v51) 52 v8) 53 v53) 55 v55) 54 v55) 58 v58) 57 v58) 61 v61) 60 v61) 64 v64) 63 v64) 67 v67) 66 v67) 70 v70) 69 v70) 73 v73) 72 v73) 76 v76) 75 v76) 85 v85) 84 v85) 94 v94) 93 v94) 102 v102) 101 v102) 103 v51) 104 v104) 105 v105) 106 v46) 107 v107) 108 v108) v7 h)))
def k_gatepostref08_Parse_9 (L : FuncId → List V → V → Prop) (K : V → Heap → Prop) (N0 : Env → Heap → Prop) (e : Env) (v4 v7 v8 v9 v45 v46 v47 v50 v51 v53 v55 v58 v61 v64 v67 v70 v73 v76 v85 v94 v102 v110 v112 v113 v115 : V) (h : Heap) : Prop :=
    (wi F L (.faddr 11 (.c v4)) E0 h fun v116 h =>
    (wi F L (.store 1 (.c v116) (.c v115)) E0 h fun _ h =>
    (k_gatepostref08_Parse_3 L K N0 (upd (upd (upd (upd (upd (upd (upd (upd (upd (upd (upd (upd (upd (upd (upd (upd (upd (upd (upd (upd (upd (upd (upd (upd (upd (upd (upd (upd (upd (upd (upd (upd (upd (upd (upd (upd (upd (upd (upd (upd (upd (upd (upd (upd e 44 v9) 45 v45) 43 v45) 46 v46) 47 v47) 12 v46) 13 v47) 48 v47) 49 v47) 50 v50) 51 v51) 13 v51) 52 v8) 53 v53) 55 v55) 54 v55) 58 v58) 57 v58) 61 v61) 60 v61) 64 v64) 63 v64) 67 v67) 66 v67) 70 v70) 69 v70) 73 v73) 72 v73) 76 v76) 75 v76) 85 v85) 84 v85) 94 v94) 93 v94) 102 v102) 101 v102) 110 v110) 109 v110) 111 v51) 112 v112) 113 v113) 114 v46) 115 v115) 116 v116) v7 h)))
def k_gatepostref08_Parse_10 (L : FuncId → List V → V → Prop) (K : V → Heap → Prop) (N0 : Env → Heap → Prop) (e : Env) (v4 v7 v8 v9 v10 v45 v46 v47 v50 v51 v53 v55 v58 v61 v64 v67 v70 v73 v76 v85 v94 v102 v110 v118 v120 v121 v122 v123 : V) (h : Heap) : Prop :=
    (wi F L (.faddr 12 (.c v4)) E0 h fun v124 h =>
    (wi F L (.store 1 (.c v124) (.c v123)) E0 h fun _ h =>
    (k_gatepostref08_Parse_3 L K N0 (upd (upd (upd (upd (upd (upd (upd (upd (upd (upd (upd (upd (upd (upd (upd (upd (upd (upd (upd (upd (upd (upd (upd (upd (upd (upd (upd (upd (upd (upd (upd (upd (upd (upd (upd (upd (upd (upd (upd (upd (upd (upd (upd (upd (upd (upd e 44 v9) 45 v45) 43 v45) 46 v46) 47 v47) 12 v46) 13 v47) 48 v47) 49 v47) 50 v50) 51 v51) 13 v51) 52 v8) 53 v53) 55 v55) 54 v55) 58 v58) 57 v58) 61 v61) 60 v61) 64 v64) 63 v64) 67 v67) 66 v67) 70 v70) 69 v70) 73 v73) 72 v73) 76 v76) 75 v76) 85 v85) 84 v85) 94 v94) 93 v94) 102 v102) 101 v102) 110 v110) 109 v110) 118 v118) 117 v118) 119 v10) 120 v120) 121 v121) 122 v122) 123 v123) 124 v124) v7 h)))
def k_gatepostref08_Parse_11 (L : FuncId → List V → V → Prop) (K : V → Heap → Prop) (N0 : Env → Heap → Prop) (e : Env) (v4 v7 v8 v9 v10 v45 v46 v47 v50 v51 v53 v55 v58 v61 v64 v67 v70 v73 v76 v85 v94 v102 v110 v118 v120 v126 v127 v129 : V) (h : Heap) : Prop :=
    (wi F L (.faddr 12 (.c v4)) E0 h fun v130 h =>
    (wi F L (.store 1 (.c v130) (.c v129)) E0 h fun _ h =>
    (k_gatepostref08_Parse_3 L K N0 (upd (upd (upd (upd (upd (upd (upd (upd (upd (upd (upd (upd (upd (upd (upd (upd (upd (upd (upd (upd (upd (upd (upd (upd (upd (upd (upd (upd (upd (upd (upd (upd (upd (upd (upd (upd (upd (upd (upd (upd (upd (upd (upd (upd (upd (upd (upd (upd e 44 v9) 45 v45) 43 v45) 46 v46) 47 v47) 12 v46) 13 v47) 48 v47) 49 v47) 50 v50) 51 v51) 13 v51) 52 v8) 53 v53) 55 v55) 54 v55) 58 v58) 57 v58) 61 v61) 60 v61) 64 v64) 63 v64) 67 v67) 66 v67) 70 v70) 69 v70) 73 v73) 72 v73) 76 v76) 75 v76) 85 v85) 84 v85) 94 v94) 93 v94) 102 v102) 101 v102) 110 v110) 109 v110) 118 v118) 117 v118) 119 v10) 120 v120) 125 v51) 126 v126) 127 v127) 128 v46) 129 v129) 130 v130) v7 h)))
def k_gatepostref08_Parse_12 (L : FuncId → List V → V → Prop) (K : V → Heap → Prop) (N0 : Env → Heap → Prop) (e : Env) (v4 v7 v8 v9 v10 v45 v46 v47 v50 v51 v53 : V) (h : Heap) : Prop :=
    (wi F L (.bin .eql (.c v53) (.c (.str [110, 111, 45, 115, 116, 111, 114, 101]))) E0 h fun v55 h =>
    (wb v55
    (wi F L (.faddr 0 (.c v4)) E0 h fun v56 h =>
    (wi F L (.store 1 (.c v56) (.c (.bool true))) E0 h fun _ h =>
    (k_gatepostref08_Parse_3 L K N0 (upd (upd (upd (upd (upd (upd (upd (upd (upd (upd (upd (upd (upd (upd (upd (upd (upd e 44 v9) 45 v45) 43 v45) 46 v46) 47 v47) 12 v46) 13 v47) 48 v47) 49 v47) 50 v50) 51 v51) 13 v51) 52 v8) 53 v53) 55 v55) 54 v55) 56 v56) v7 h)))
    (wi F L (.bin .eql (.c v53) (.c (.str [110, 111, 45, 99, 97, 99, 104, 101]))) E0 h fun v58 h =>
    (wb v58
    (wi F L (.faddr 1 (.c v4)) E0 h fun v59 h =>
    (wi F L (.store 1 (.c v59) (.c (.bool true))) E0 h fun _ h =>
    (k_gatepostref08_Parse_3 L K N0 (upd (upd (upd (upd (upd (upd (upd (upd (upd (upd (upd (upd (upd (upd (upd (upd (upd (upd (upd e 44 v9) 45 v45) 43 v45) 46 v46) 47 v47) 12 v46) 13 v47) 48 v47) 49 v47) 50 v50) 51 v51) 13 v51) 52 v8) 53 v53) 55 v55) 54 v55) 58 v58) 57 v58) 59 v59) v7 h)))
    (wi F L (.bin .eql (.c v53) (.c (.str [112, 114, 105, 118, 97, 116, 101]))) E0 h fun v61 h =>
    (wb v61
    (wi F L (.faddr 2 (.c v4)) E0 h fun v62 h =>
    (wi F L (.store 1 (.c v62) (.c (.bool true))) E0 h fun _ h =>
    (k_gatepostref08_Parse_3 L K N0 (upd (upd (upd (upd (upd (upd (upd (upd (upd (upd (upd (upd (upd (upd (upd (upd (upd (upd (upd (upd (upd e 44 v9) 45 v45) 43 v45) 46 v46) 47 v47) 12 v46) 13 v47) 48 v47) 49 v47) 50 v50) 51 v51) 13 v51) 52 v8) 53 v53) 55 v55) 54 v55) 58 v58) 57 v58) 61 v61) 60 v61) 62 v62) v7 h)))
    (wi F L (.bin .eql (.c v53) (.c (.str [112, 117, 98, 108, 105, 99]))) E0 h fun v64 h =>
    (wb v64
    (wi F L (.faddr 3 (.c v4)) E0 h fun v65 h =>
    (wi F L (.store 1 (.c v65) (.c (.bool true))) E0 h fun _ h =>
    (k_gatepostref08_Parse_3 L K N0 (upd (upd (upd (upd (upd (upd (upd (upd (upd (upd (upd (upd (upd (upd (upd (upd (upd (upd (upd (upd (upd (upd (upd e 44 v9) 45 v45) 43 v45) 46 v46) 47 v47) 12 v46) 13 v47) 48 v47) 49 v47) 50 v50) 51 v51) 13 v51) 52 v8) 53 v53) 55 v55) 54 v55) 58 v58) 57 v58) 61 v61) 60 v61) 64 v64) 63 v64) 65 v65) v7 h)))
    (wi F L (.bin .eql (.c v53) (.c (.str [109, 117, 115, 116, 45, 114, 101, 118, 97, 108, 105, 100, 97, 116, 101]))) E0 h fun v67 h =>
    (wb v67
    (wi F L (.faddr 4 (.c v4)) E0 h fun v68 h =>
    (wi F L (.store 1 (.c v68) (.c (.bool true))) E0 h fun _ h =>
    (k_gatepostref08_Parse_3 L K N0 (upd (upd (upd (upd (upd (upd (upd (upd (upd (upd (upd (upd (upd (upd (upd (upd (upd (upd (upd (upd (upd (upd (upd (upd (upd e 44 v9) 45 v45) 43 v45) 46 v46) 47 v47) 12 v46) 13 v47) 48 v47) 49 v47) 50 v50) 51 v51) 13 v51) 52 v8) 53 v53) 55 v55) 54 v55) 58 v58) 57 v58) 61 v61) 60 v61) 64 v64) 63 v64) 67 v67) 66 v67) 68 v68) v7 h)))
    (wi F L (.bin .eql (.c v53) (.c (.str [112, 114, 111, 120, 121, 45, 114, 101, 118, 97, 108, 105, 100, 97, 116, 101]))) E0 h fun v70 h =>
    (wb v70
    (wi F L (.faddr 5 (.c v4)) E0 h fun v71 h =>
    (wi F L (.store 1 (.c v71) (.c (.bool true))) E0 h fun _ h =>
    (k_gatepostref08_Parse_3 L K N0 (upd (upd (upd (upd (upd (upd (upd (upd (upd (upd (upd (upd (upd (upd (upd (upd (upd (upd (upd (upd (upd (upd (upd (upd (upd (upd (upd e 44 v9) 45 v45) 43 v45) 46 v46) 47 v47) 12 v46) 13 v47) 48 v47) 49 v47) 50 v50) 51 v51) 13 v51) 52 v8) 53 v53) 55 v55) 54 v55) 58 v58) 57 v58) 61 v61) 60 v61) 64 v64) 63 v64) 67 v67) 66 v67) 70 v70) 69 v70) 71 v71) v7 h)))
    (wi F L (.bin .eql (.c v53) (.c (.str [111, 110, 108, 121, 45, 105, 102, 45, 99, 97, 99, 104, 101, 100]))) E0 h fun v73 h =>
    (wb v73
    (wi F L (.faddr 6 (.c v4)) E0 h fun v74 h =>
    (wi F L (.store 1 (.c v74) (.c (.bool true))) E0 h fun _ h =>
    (k_gatepostref08_Parse_3 L K N0 (upd (upd (upd (upd (upd (upd (upd (upd (upd (upd (upd (upd (upd (upd (upd (upd (upd (upd (upd (upd (upd (upd (upd (upd (upd (upd (upd (upd (upd e 44 v9) 45 v45) 43 v45) 46 v46) 47 v47) 12 v46) 13 v47) 48 v47) 49 v47) 50 v50) 51 v51) 13 v51) 52 v8) 53 v53) 55 v55) 54 v55) 58 v58) 57 v58) 61 v61) 60 v61) 64 v64) 63 v64) 67 v67) 66 v67) 70 v70) 69 v70) 73 v73) 72 v73) 74 v74) v7 h)))
    (wi F L (.bin .eql (.c v53) (.c (.str [109, 97, 120, 45, 97, 103, 101]))) E0 h fun v76 h =>
    (wb v76
    (wi F L (.un .not (.c v51)) E0 h fun v78 h =>
    (wb v78
    (k_gatepostref08_Parse_5 L K N0 (upd (upd (upd (upd (upd (upd (upd (upd (upd (upd (upd (upd (upd (upd (upd (upd (upd (upd (upd (upd (upd (upd (upd (upd (upd (upd (upd (upd (upd (upd (upd (upd (upd e 44 v9) 45 v45) 43 v45) 46 v46) 47 v47) 12 v46) 13 v47) 48 v47) 49 v47) 50 v50) 51 v51) 13 v51) 52 v8) 53 v53) 55 v55) 54 v55) 58 v58) 57 v58) 61 v61) 60 v61) 64 v64) 63 v64) 67 v67) 66 v67) 70 v70) 69 v70) 73 v73) 72 v73) 76 v76) 75 v76) 77 v51) 78 v78) 12 (.int .i64 0)) v4 v7 (.int .i64 0) h)
    (k_gatepostref08_Parse_5 L K N0 (upd (upd (upd (upd (upd (upd (upd (upd (upd (upd (upd (upd (upd (upd (upd (upd (upd (upd (upd (upd (upd (upd (upd (upd (upd (upd (upd (upd (upd (upd (upd (upd e 44 v9) 45 v45) 43 v45) 46 v46) 47 v47) 12 v46) 13 v47) 48 v47) 49 v47) 50 v50) 51 v51) 13 v51) 52 v8) 53 v53) 55 v55) 54 v55) 58 v58) 57 v58) 61 v61) 60 v61) 64 v64) 63 v64) 67 v67) 66 v67) 70 v70) 69 v70) 73 v73) 72 v73) 76 v76) 75 v76) 77 v51) 78 v78) v4 v7 v46 h)))
    (wi F L (.bin .eql (.c v53) (.c (.str [115, 45, 109, 97, 120, 97, 103, 101]))) E0 h fun v85 h =>
    (wb v85
    (wi F L (.un .not (.c v51)) E0 h fun v87 h =>
    (wb v87
    (k_gatepostref08_Parse_6 L K N0 (upd (upd (upd (upd (upd (upd (upd (upd (upd (upd (upd (upd (upd (upd (upd (upd (upd (upd (upd (upd (upd (upd (upd (upd (upd (upd (upd (upd (upd (upd (upd (upd (upd (upd (upd e 44 v9) 45 v45) 43 v45) 46 v46) 47 v47) 12 v46) 13 v47) 48 v47) 49 v47) 50 v50) 51 v51) 13 v51) 52 v8) 53 v53) 55 v55) 54 v55) 58 v58) 57 v58) 61 v61) 60 v61) 64 v64) 63 v64) 67 v67) 66 v67) 70 v70) 69 v70) 73 v73) 72 v73) 76 v76) 75 v76) 85 v85) 84 v85) 86 v51) 87 v87) 12 (.int .i64 0)) v4 v7 (.int .i64 0) h)
    (k_gatepostref08_Parse_6 L K N0 (upd (upd (upd (upd (upd (upd (upd (upd (upd (upd (upd (upd (upd (upd (upd (upd (upd (upd (upd (upd (upd (upd (upd (upd (upd (upd (upd (upd (upd (upd (upd (upd (upd (upd e 44 v9) 45 v45) 43 v45) 46 v46) 47 v47) 12 v46) 13 v47) 48 v47) 49 v47) 50 v50) 51 v51) 13 v51) 52 v8) 53 v53) 55 v55) 54 v55) 58 v58) 57 v58) 61 v61) 60 v61) 64 v64) 63 v64) 67 v67) 66 v67) 70 v70) 69 v70) 73 v73) 72 v73) 76 v76) 75 v76) 85 v85) 84 v85) 86 v51) 87 v87) v4 v7 v46 h)))
    (wi F L (.bin .eql (.c v53) (.c (.str [115, 116, 97, 108, 101, 45, 119, 104, 105, 108, 101, 45, 114, 101, 118, 97, 108, 105, 100, 97, 116, 101]))) E0 h fun v94 h =>
    (wb v94
    (wb v51
    (wi F L (.faddr 9 (.c v4)) E0 h fun v96 h =>
    (wi F L (.load false 1 (.c v96)) E0 h fun v97 h =>
    (wi F L (.call i_gatepostref08_least [(.c v97), (.c v46)]) E0 h fun v99 h =>
    (k_gatepostref08_Parse_7 L K N0 e v4 v7 v8 v9 v45 v46 v47 v50 v51 v53 v55 v58 v61 v64 v67 v70 v73 v76 v85 v94 v96 v97 v99 h))))
    (k_gatepostref08_Parse_3 L K N0 (upd (upd (upd (upd (upd (upd (upd (upd (upd (upd (upd (upd (upd (upd (upd (upd (upd (upd (upd (upd (upd (upd (upd (upd (upd (upd (upd (upd (upd (upd (upd (upd (upd (upd (upd e 44 v9) 45 v45) 43 v45) 46 v46) 47 v47) 12 v46) 13 v47) 48 v47) 49 v47) 50 v50) 51 v51) 13 v51) 52 v8) 53 v53) 55 v55) 54 v55) 58 v58) 57 v58) 61 v61) 60 v61) 64 v64) 63 v64) 67 v67) 66 v67) 70 v70) 69 v70) 73 v73) 72 v73) 76 v76) 75 v76) 85 v85) 84 v85) 94 v94) 93 v94) 95 v51) v7 h))
    (wi F L (.bin .eql (.c v53) (.c (.str [115, 116, 97, 108, 101, 45, 105, 102, 45, 101, 114, 114, 111, 114]))) E0 h fun v102 h =>
    (wb v102
    (wb v51
    (wi F L (.faddr 10 (.c v4)) E0 h fun v104 h =>
    (wi F L (.load false 1 (.c v104)) E0 h fun v105 h =>
    (wi F L (.call i_gatepostref08_least [(.c v105), (.c v46)]) E0 h fun v107 h =>
    (k_gatepostref08_Parse_8 L K N0 e v4 v7 v8 v9 v45 v46 v47 v50 v51 v53 v55 v58 v61 v64 v67 v70 v73 v76 v85 v94 v102 v104 v105 v107 h))))
    (k_gatepostref08_Parse_3 L K N0 (upd (upd (upd (upd (upd (upd (upd (upd (upd (upd (upd (upd (upd (upd (upd (upd (upd (upd (upd (upd (upd (upd (upd (upd (upd (upd (upd (upd (upd (upd (upd (upd (upd (upd (upd (upd (upd e 44 v9) 45 v45) 43 v45) 46 v46) 47 v47) 12 v46) 13 v47) 48 v47) 49 v47) 50 v50) 51 v51) 13 v51) 52 v8) 53 v53) 55 v55) 54 v55) 58 v58) 57 v58) 61 v61) 60 v61) 64 v64) 63 v64) 67 v67) 66 v67) 70 v70) 69 v70) 73 v73) 72 v73) 76 v76) 75 v76) 85 v85) 84 v85) 94 v94) 93 v94) 102 v102) 101 v102) 103 v51) v7 h))
    (wi F L (.bin .eql (.c v53) (.c (.str [109, 105, 110, 45, 102, 114, 101, 115, 104]))) E0 h fun v110 h =>
    (wb v110
    (wb v51
    (wi F L (.faddr 11 (.c v4)) E0 h fun v112 h =>
    (wi F L (.load false 1 (.c v112)) E0 h fun v113 h =>
    (wi F L (.call i_gatepostref08_least [(.c v113), (.c v46)]) E0 h fun v115 h =>
    (k_gatepostref08_Parse_9 L K N0 e v4 v7 v8 v9 v45 v46 v47 v50 v51 v53 v55 v58 v61 v64 v67 v70 v73 v76 v85 v94 v102 v110 v112 v113 v115 h))))
    (k_gatepostref08_Parse_3 L K N0 (upd (upd (upd (upd (upd (upd (upd (upd (upd (upd (upd (upd (upd (upd (upd (upd (upd (upd (upd (upd (upd (upd (upd (upd (upd (upd (upd (upd (upd (upd (upd (upd (upd (upd (upd (upd (upd (upd (upd e 44 v9) 45 v45) 43 v45) 46 v46) 47 v47) 12 v46) 13 v47) 48 v47) 49 v47) 50 v50) 51 v51) 13 v51) 52 v8) 53 v53) 55 v55) 54 v55) 58 v58) 57 v58) 61 v61) 60 v61) 64 v64) 63 v64) 67 v67) 66 v67) 70 v70) 69 v70) 73 v73) 72 v73) 76 v76) 75 v76) 85 v85) 84 v85) 94 v94) 93 v94) 102 v102) 101 v102) 110 v110) 109 v110) 111 v51) v7 h))
    (wi F L (.bin .eql (.c v53) (.c (.str [109, 97, 120, 45, 115, 116, 97, 108, 101]))) E0 h fun v118 h =>
    (wb v118
    (wi F L (.un .not (.c v10)) E0 h fun v120 h =>
    (wb v120
    (wi F L (.faddr 12 (.c v4)) E0 h fun v121 h =>
    (wi F L (.load false 1 (.c v121)) E0 h fun v122 h =>
    (wi F L (.call i_gatepostref08_least [(.c v122), (.c (.int .i64 2147483648))]) E0 h fun v123 h =>
    (k_gatepostref08_Parse_10 L K N0 e v4 v7 v8 v9 v10 v45 v46 v47 v50 v51 v53 v55 v58 v61 v64 v67 v70 v73 v76 v85 v94 v102 v110 v118 v120 v121 v122 v123 h))))
    (wb v51
    (wi F L (.faddr 12 (.c v4)) E0 h fun v126 h =>
    (wi F L (.load false 1 (.c v126)) E0 h fun v127 h =>
    (wi F L (.call i_gatepostref08_least [(.c v127), (.c v46)]) E0 h fun v129 h =>
    (k_gatepostref08_Parse_11 L K N0 e v4 v7 v8 v9 v10 v45 v46 v47 v50 v51 v53 v55 v58 v61 v64 v67 v70 v73 v76 v85 v94 v102 v110 v118 v120 v126 v127 v129 h))))
    (k_gatepostref08_Parse_3 L K N0 (upd (upd (upd (upd (upd (upd (upd (upd (upd (upd (upd (upd (upd (upd (upd (upd (upd (upd (upd (upd (upd (upd (upd (upd (upd (upd (upd (upd (upd (upd (upd (upd (upd (upd (upd (upd (upd (upd (upd (upd (upd (upd (upd e 44 v9) 45 v45) 43 v45) 46 v46) 47 v47) 12 v46) 13 v47) 48 v47) 49 v47) 50 v50) 51 v51) 13 v51) 52 v8) 53 v53) 55 v55) 54 v55) 58 v58) 57 v58) 61 v61) 60 v61) 64 v64) 63 v64) 67 v67) 66 v67) 70 v70) 69 v70) 73 v73) 72 v73) 76 v76) 75 v76) 85 v85) 84 v85) 94 v94) 93 v94) 102 v102) 101 v102) 110 v110) 109 v110) 118 v118) 117 v118) 119 v10) 120 v120) 125 v51) v7 h))))
    (k_gatepostref08_Parse_3 L K N0 (upd (upd (upd (upd (upd (upd (upd (upd (upd (upd (upd (upd (upd (upd (upd (upd (upd (upd (upd (upd (upd (upd (upd (upd (upd (upd (upd (upd (upd (upd (upd (upd (upd (upd (upd (upd (upd (upd (upd (upd e 44 v9) 45 v45) 43 v45) 46 v46) 47 v47) 12 v46) 13 v47) 48 v47) 49 v47) 50 v50) 51 v51) 13 v51) 52 v8) 53 v53) 55 v55) 54 v55) 58 v58) 57 v58) 61 v61) 60 v61) 64 v64) 63 v64) 67 v67) 66 v67) 70 v70) 69 v70) 73 v73) 72 v73) 76 v76) 75 v76) 85 v85) 84 v85) 94 v94) 93 v94) 102 v102) 101 v102) 110 v110) 109 v110) 118 v118) 117 v118) v7 h)))))))))))))))))))))))))))
def k_gatepostref08_Parse_4 (L : FuncId → List V → V → Prop) (K : V → Heap → Prop) (N0 : Env → Heap → Prop) (e : Env) (v4 v7 v8 v9 v10 : V) (h : Heap) : Prop :=
    (wi F L (.call i_gatepostref01_Number [(.c v9), (.c (.int .i64 2147483648))]) E0 h fun v45 h =>
    (wi F L (.ext 0 (.c v45)) E0 h fun v46 h =>
    (wi F L (.ext 1 (.c v45)) E0 h fun v47 h =>
    (wg v47 true (wi F L (.mv (.c v10)) E0 h) h fun v50 h =>
    (wi F L (.pick (.c v47) (.c v50) (.c (.bool false))) E0 h fun v51 h =>
    (wi F L (.call i_gatepostref01_Lower [(.c v8)]) E0 h fun v53 h =>
    (k_gatepostref08_Parse_12 L K N0 e v4 v7 v8 v9 v10 v45 v46 v47 v50 v51 v53 h)))))))
def k_gatepostref08_Parse_13 (L : FuncId → List V → V → Prop) (K : V → Heap → Prop) (N0 : Env → Heap → Prop) (e : Env) (v4 v5 v7 v34 v35 v36 : V) (h : Heap) : Prop :=
    (wi F L (.ext 0 (.c v36)) E0 h fun v37 h =>
    (wi F L (.ext 1 (.c v36)) E0 h fun v38 h =>
    (wi F L (.ext 2 (.c v36)) E0 h fun v39 h =>
    (wi F L (.ext 3 (.c v36)) E0 h fun v40 h =>
    (wi F L (.un .not (.c v40)) E0 h fun v42 h =>
    (wb v42
    (k_gatepostref08_Parse_3 L K N0 (upd (upd (upd (upd (upd (upd (upd (upd (upd (upd (upd (upd (upd (upd (upd (upd e 32 v5) 33 v7) 34 v34) 35 v35) 36 v36) 31 v36) 37 v37) 38 v38) 39 v39) 40 v40) 8 v37) 9 v38) 10 v39) 11 v40) 41 v40) 42 v42) v7 h)
    (k_gatepostref08_Parse_4 L K N0 (upd (upd (upd (upd (upd (upd (upd (upd (upd (upd (upd (upd (upd (upd (upd (upd e 32 v5) 33 v7) 34 v34) 35 v35) 36 v36) 31 v36) 37 v37) 38 v38) 39 v39) 40 v40) 8 v37) 9 v38) 10 v39) 11 v40) 41 v40) 42 v42) v4 v7 v37 v38 v39 h)))))))
def k_gatepostref08_Parse_2 (L : FuncId → List V → V → Prop) (K : V → Heap → Prop) (N0 : Env → Heap → Prop) (e : Env) (v4 v5 v7 : V) (h : Heap) : Prop :=
    (wi F L (.ixaSl 1 (.c v5) (.c v7)) E0 h fun v34 h =>
    (wi F L (.load false 1 (.c v34)) E0 h fun v35 h =>
    (wi F L (.call i_gatepostref01_Pair [(.c v35)]) E0 h fun v36 h =>
    (k_gatepostref08_Parse_13 L K N0 e v4 v5 v7 v34 v35 v36 h))))
def q_gatepostref08_Parse_0 (L : FuncId → List V → V → Prop) (K : V → Heap → Prop) : X → Env → Heap → Prop := (fun x => (seqX (fun e h => k_gatepostref08_Parse_1 L K (e 2) (e 4) h) (retX c_gatepostref08_Parse.results K)) (X.out 0 x))
def lc_gatepostref08_Parse_0 : C :=
  (.seq (.seq (.region [⟨(some 25), none, .mv (.t 7)⟩, ⟨(some 26), none, .mv (.t 5)⟩, ⟨(some 27), none, .len 1 (.t 26)⟩, ⟨(some 28), none, .bin .lss (.t 25) (.t 27)⟩])
  (.cond (.t 28)
    .skip
    (.exit 0)))
  (.seq (.block 1 (.seq (.region [⟨(some 32), none, .mv (.t 5)⟩, ⟨(some 33), none, .mv (.t 7)⟩, ⟨(some 34), none, .ixaSl 1 (.t 32) (.t 33)⟩, ⟨(some 35), none, .load false 1 (.t 34)⟩, ⟨(some 36), none, .call i_gatepostref01_Pair [(.t 35)]⟩, ⟨(some 31), none, .mv (.t 36)⟩, ⟨(some 37), none, .ext 0 (.t 31)⟩, ⟨(some 38), none, .ext 1 (.t 31)⟩, ⟨(some 39), none, .ext 2 (.t 31)⟩, ⟨(some 40), none, .ext 3 (.t 31)⟩, ⟨(some 8), none, .mv (.t 37)⟩, ⟨(some 9), none, .mv (.t 38)⟩, ⟨(some 10), none, .mv (.t 39)⟩, ⟨(some 11), none, .mv (.t 40)⟩])
  (.seq (.seq (.region [⟨(some 41), none, .mv (.t 11)⟩, ⟨(some 42), none, .un .not (.t 41)⟩])
  (.cond (.t 42)
    (.exit 1)
    .skip))
  (.seq (.region [⟨(some 44), none, .mv (.t 9)⟩, ⟨(some 45), none, .call i_gatepostref01_Number [(.t 44), (.c (.int .i64 2147483648))]⟩, ⟨(some 43), none, .mv (.t 45)⟩, ⟨(some 46), none, .ext 0 (.t 43)⟩, ⟨(some 47), none, .ext 1 (.t 43)⟩, ⟨(some 12), none, .mv (.t 46)⟩, ⟨(some 13), none, .mv (.t 47)⟩])
  (.seq (.region [⟨(some 48), none, .mv (.t 13)⟩, ⟨(some 49), none, .mv (.t 48)⟩, ⟨(some 50), (some (49, true)), .mv (.t 10)⟩, ⟨(some 51), none, .pick (.t 49) (.t 50) (.c (.bool false))⟩, ⟨(some 13), none, .mv (.t 51)⟩])
  (.seq (.region [⟨(some 52), none, .mv (.t 8)⟩, ⟨(some 53), none, .call i_gatepostref01_Lower [(.t 52)]⟩])
  (.block 2 (.seq (.region [⟨(some 55), none, .bin .eql (.t 53) (.c (.str [110, 111, 45, 115, 116, 111, 114, 101]))⟩, ⟨(some 54), none, .mv (.t 55)⟩])
  (.cond (.t 54)
    (.region [⟨(some 56), none, .faddr 0 (.t 4)⟩, ⟨none, none, .store 1 (.t 56) (.c (.bool true))⟩])
    (.seq (.region [⟨(some 58), none, .bin .eql (.t 53) (.c (.str [110, 111, 45, 99, 97, 99, 104, 101]))⟩, ⟨(some 57), none, .mv (.t 58)⟩])
    (.cond (.t 57)
      (.region [⟨(some 59), none, .faddr 1 (.t 4)⟩, ⟨none, none, .store 1 (.t 59) (.c (.bool true))⟩])
      (.seq (.region [⟨(some 61), none, .bin .eql (.t 53) (.c (.str [112, 114, 105, 118, 97, 116, 101]))⟩, ⟨(some 60), none, .mv (.t 61)⟩])
      (.cond (.t 60)
        (.region [⟨(some 62), none, .faddr 2 (.t 4)⟩, ⟨none, none, .store 1 (.t 62) (.c (.bool true))⟩])
        (.seq (.region [⟨(some 64), none, .bin .eql (.t 53) (.c (.str [112, 117, 98, 108, 105, 99]))⟩, ⟨(some 63), none, .mv (.t 64)⟩])
        (.cond (.t 63)
          (.region [⟨(some 65), none, .faddr 3 (.t 4)⟩, ⟨none, none, .store 1 (.t 65) (.c (.bool true))⟩])
          (.seq (.region [⟨(some 67), none, .bin .eql (.t 53) (.c (.str [109, 117, 115, 116, 45, 114, 101, 118, 97, 108, 105, 100, 97, 116, 101]))⟩, ⟨(some 66), none, .mv (.t 67)⟩])
          (.cond (.t 66)
            (.region [⟨(some 68), none, .faddr 4 (.t 4)⟩, ⟨none, none, .store 1 (.t 68) (.c (.bool true))⟩])
            (.seq (.region [⟨(some 70), none, .bin .eql (.t 53) (.c (.str [112, 114, 111, 120, 121, 45, 114, 101, 118, 97, 108, 105, 100, 97, 116, 101]))⟩, ⟨(some 69), none, .mv (.t 70)⟩])
            (.cond (.t 69)
              (.region [⟨(some 71), none, .faddr 5 (.t 4)⟩, ⟨none, none, .store 1 (.t 71) (.c (.bool true))⟩])
              (.seq (.region [⟨(some 73), none, .bin .eql (.t 53) (.c (.str [111, 110, 108, 121, 45, 105, 102, 45, 99, 97, 99, 104, 101, 100]))⟩, ⟨(some 72), none, .mv (.t 73)⟩])
              (.cond (.t 72)
                (.region [⟨(some 74), none, .faddr 6 (.t 4)⟩, ⟨none, none, .store 1 (.t 74) (.c (.bool true))⟩])
                (.seq (.region [⟨(some 76), none, .bin .eql (.t 53) (.c (.str [109, 97, 120, 45, 97, 103, 101]))⟩, ⟨(some 75), none, .mv (.t 76)⟩])
                (.cond (.t 75)
                  (.seq (.seq (.region [⟨(some 77), none, .mv (.t 13)⟩, ⟨(some 78), none, .un .not (.t 77)⟩])
                  (.cond (.t 78)
                    (.region [⟨(some 12), none, .mv (.c (.int .i64 0))⟩])
                    .skip))
                  (.region [⟨(some 79), none, .faddr 7 (.t 4)⟩, ⟨(some 80), none, .load false 1 (.t 79)⟩, ⟨(some 81), none, .mv (.t 12)⟩, ⟨(some 82), none, .call i_gatepostref08_least [(.t 80), (.t 81)]⟩, ⟨(some 83), none, .faddr 7 (.t 4)⟩, ⟨none, none, .store 1 (.t 83) (.t 82)⟩]))
                  (.seq (.region [⟨(some 85), none, .bin .eql (.t 53) (.c (.str [115, 45, 109, 97, 120, 97, 103, 101]))⟩, ⟨(some 84), none, .mv (.t 85)⟩])
                  (.cond (.t 84)
                    (.seq (.seq (.region [⟨(some 86), none, .mv (.t 13)⟩, ⟨(some 87), none, .un .not (.t 86)⟩])
                    (.cond (.t 87)
                      (.region [⟨(some 12), none, .mv (.c (.int .i64 0))⟩])
                      .skip))
                    (.region [⟨(some 88), none, .faddr 8 (.t 4)⟩, ⟨(some 89), none, .load false 1 (.t 88)⟩, ⟨(some 90), none, .mv (.t 12)⟩, ⟨(some 91), none, .call i_gatepostref08_least [(.t 89), (.t 90)]⟩, ⟨(some 92), none, .faddr 8 (.t 4)⟩, ⟨none, none, .store 1 (.t 92) (.t 91)⟩]))
                    (.seq (.region [⟨(some 94), none, .bin .eql (.t 53) (.c (.str [115, 116, 97, 108, 101, 45, 119, 104, 105, 108, 101, 45, 114, 101, 118, 97, 108, 105, 100, 97, 116, 101]))⟩, ⟨(some 93), none, .mv (.t 94)⟩])
                    (.cond (.t 93)
                      (.seq (.region [⟨(some 95), none, .mv (.t 13)⟩])
                      (.cond (.t 95)
                        (.region [⟨(some 96), none, .faddr 9 (.t 4)⟩, ⟨(some 97), none, .load false 1 (.t 96)⟩, ⟨(some 98), none, .mv (.t 12)⟩, ⟨(some 99), none, .call i_gatepostref08_least [(.t 97), (.t 98)]⟩, ⟨(some 100), none, .faddr 9 (.t 4)⟩, ⟨none, none, .store 1 (.t 100) (.t 99)⟩])
                        .skip))
                      (.seq (.region [⟨(some 102), none, .bin .eql (.t 53) (.c (.str [115, 116, 97, 108, 101, 45, 105, 102, 45, 101, 114, 114, 111, 114]))⟩, ⟨(some 101), none, .mv (.t 102)⟩])
                      (.cond (.t 101)
                        (.seq (.region [⟨(some 103), none, .mv (.t 13)⟩])
                        (.cond (.t 103)
                          (.region [⟨(some 104), none, .faddr 10 (.t 4)⟩, ⟨(some 105), none, .load false 1 (.t 104)⟩, ⟨(some 106), none, .mv (.t 12)⟩, ⟨(some 107), none, .call i_gatepostref08_least [(.t 105), (.t 106)]⟩, ⟨(some 108), none, .faddr 10 (.t 4)⟩, ⟨none, none, .store 1 (.t 108) (.t 107)⟩])
                          .skip))
                        (.seq (.region [⟨(some 110), none, .bin .eql (.t 53) (.c (.str [109, 105, 110, 45, 102, 114, 101, 115, 104]))⟩, ⟨(some 109), none, .mv (.t 110)⟩])
                        (.cond (.t 109)
                          (.seq (.region [⟨(some 111), none, .mv (.t 13)⟩])
                          (.cond (.t 111)
                            (.region [⟨(some 112), none, .faddr 11 (.t 4)⟩, ⟨(some 113), none, .load false 1 (.t 112)⟩, ⟨(some 114), none, .mv (.t 12)⟩, ⟨(some 115), none, .call i_gatepostref08_least [(.t 113), (.t 114)]⟩, ⟨(some 116), none, .faddr 11 (.t 4)⟩, ⟨none, none, .store 1 (.t 116) (.t 115)⟩])
                            .skip))
                          (.seq (.region [⟨(some 118), none, .bin .eql (.t 53) (.c (.str [109, 97, 120, 45, 115, 116, 97, 108, 101]))⟩, ⟨(some 117), none, .mv (.t 118)⟩])
                          (.cond (.t 117)
                            (.seq (.region [⟨(some 119), none, .mv (.t 10)⟩, ⟨(some 120), none, .un .not (.t 119)⟩])
                            (.cond (.t 120)
                              (.region [⟨(some 121), none, .faddr 12 (.t 4)⟩, ⟨(some 122), none, .load false 1 (.t 121)⟩, ⟨(some 123), none, .call i_gatepostref08_least [(.t 122), (.c (.int .i64 2147483648))]⟩, ⟨(some 124), none, .faddr 12 (.t 4)⟩, ⟨none, none, .store 1 (.t 124) (.t 123)⟩])
                              (.seq (.region [⟨(some 125), none, .mv (.t 13)⟩])
                              (.cond (.t 125)
                                (.region [⟨(some 126), none, .faddr 12 (.t 4)⟩, ⟨(some 127), none, .load false 1 (.t 126)⟩, ⟨(some 128), none, .mv (.t 12)⟩, ⟨(some 129), none, .call i_gatepostref08_least [(.t 127), (.t 128)]⟩, ⟨(some 130), none, .faddr 12 (.t 4)⟩, ⟨none, none, .store 1 (.t 130) (.t 129)⟩])
                                .skip))))
                            .skip)))))))))))))))))))))))))))))))))
  (.region [⟨(some 29), none, .mv (.t 7)⟩, ⟨(some 30), none, .bin .add (.t 29) (.c (.int .i64 1))⟩, ⟨(some 7), none, .mv (.t 30)⟩])))
def b_gatepostref08_Parse_0 (L : FuncId → List V → V → Prop) (K : V → Heap → Prop) (N0 : Env → Heap → Prop) (e : Env) (h : Heap) : Prop :=
    (wi F L (.len 1 (.c (e 5))) E0 h fun v27 h =>
    (wi F L (.bin .lss (.c (e 7)) (.c v27)) E0 h fun v28 h =>
    (wb v28
    (k_gatepostref08_Parse_2 L K N0 (upd (upd (upd (upd e 25 (e 7)) 26 (e 5)) 27 v27) 28 v28) (e 4) (e 5) (e 7) h)
    (k_gatepostref08_Parse_1 L K (e 2) (e 4) h))))
theorem l_gatepostref08_Parse_0 {L : FuncId → List V → V → Prop} {K : V → Heap → Prop} (I : Nat → Env → Heap → Prop) (hr : ∀ n e h, I n e h → b_gatepostref08_Parse_0 L K (fun e' h' => ∃ m, m < n ∧ I m e' h') e h) {n : Nat} {e : Env} {h : Heap} (hi : I n e h) : Wl F L lc_gatepostref08_Parse_0 (q_gatepostref08_Parse_0 L K) e h :=
  wloopp (b := b_gatepostref08_Parse_0 L K) I (fun _ _ _ => by kernel_rfl) hr hi
def k_gatepostref08_Parse_0 (L : FuncId → List V → V → Prop) (K : V → Heap → Prop) (e : Env) (h : Heap) : Prop :=
    (Wl F L lc_gatepostref08_Parse_0 (q_gatepostref08_Parse_0 L K) (upd e 7 (.int .i64 0)) h)
def k_gatepostref08_Parse_14 (L : FuncId → List V → V → Prop) (K : V → Heap → Prop) (a0 v2 v4 v14 v17 : V) (h : Heap) : Prop :=
    (wi F L (.ext 0 (.c v17)) E0 h fun v18 h =>
    (wi F L (.ext 1 (.c v17)) E0 h fun v19 h =>
    (wi F L (.un .not (.c v19)) E0 h fun v21 h =>
    (wb v21
    (wi F L (.faddr 0 (.c v4)) E0 h fun v22 h =>
    (wi F L (.store 1 (.c v22) (.c (.bool true))) E0 h fun _ h =>
    (wi F L (.faddr 1 (.c v4)) E0 h fun v23 h =>
    (wi F L (.store 1 (.c v23) (.c (.bool true))) E0 h fun _ h =>
    (wi F L (.load true 13 (.c v4)) E0 h fun v24 h =>
    (wi F L (.store 13 (.c v2) (.c v24)) E0 h fun _ h =>
    (∃ v, resultsV h (enterE [v2, (.bool false)]) [.cell 0 true 13, .tmp 1] = some v ∧ K v h)))))))
    (k_gatepostref08_Parse_0 L K (upd (upd (upd (upd (upd (upd (upd (upd (upd (upd (upd (upd (upd (enterE [a0]) 2 v2) 3 (.bool false)) 14 v14) 4 v4) 16 a0) 17 v17) 15 v17) 18 v18) 19 v19) 5 v18) 6 v19) 20 v19) 21 v21)  h)))))
def k_gatepostref08_Parse_15 (L : FuncId → List V → V → Prop) (K : V → Heap → Prop) (a0 v2 v14 : V) (h : Heap) : Prop :=
    (wi F L (.boxz [(.bool false), (.bool false), (.bool false), (.bool false), (.bool false), (.bool false), (.bool false), (.int .i64 0), (.int .i64 0), (.int .i64 0), (.int .i64 0), (.int .i64 0), (.int .i64 0)]) E0 h fun v4 h =>
    (wi F L (.store 13 (.c v4) (.c v14)) E0 h fun _ h =>
    (wi F L (.call i_gatepostref01_Split [(.c a0)]) E0 h fun v17 h =>
    (k_gatepostref08_Parse_14 L K a0 v2 v4 v14 v17 h))))
def p_gatepostref08_Parse (L : FuncId → List V → V → Prop) (K : V → Heap → Prop) (a0 : V) (h : Heap) : Prop :=
    (wi F L (.boxz [(.bool false), (.bool false), (.bool false), (.bool false), (.bool false), (.bool false), (.bool false), (.int .i64 0), (.int .i64 0), (.int .i64 0), (.int .i64 0), (.int .i64 0), (.int .i64 0)]) E0 h fun v2 h =>
    (wi F L (.call i_gatepostref08_None []) E0 h fun v14 h =>
    (k_gatepostref08_Parse_15 L K a0 v2 v14 h)))
theorem run_gatepostref08_Parse {L : FuncId → List V → V → Prop} {K : V → Heap → Prop} {a0 : V} {h : Heap} (hp : p_gatepostref08_Parse L K a0 h) : Cf F L i_gatepostref08_Parse [a0] h K :=
  wcallp F_gatepostref08_Parse (show 1 ≤ 132 by decide) (p := p_gatepostref08_Parse L K a0 h) (by kernel_rfl) hp
def k_control_Of_1 (L : FuncId → List V → V → Prop) (K : V → Heap → Prop) (v2 v7 v34 : V) (h : Heap) : Prop :=
    (wi F L (.ext 0 (.c v34)) E0 h fun v35 h =>
    (wi F L (.ext 1 (.c v34)) E0 h fun v36 h =>
    (wg v36 true (wi F L (.mv (.c v35)) E0 h) h fun v39 h =>
    (wg v36 true (wi F L (.call i_slices_Contains___string_string_ [(.c v39), (.c (.str [110, 111, 45, 99, 97, 99, 104, 101]))]) E0 h) h fun v40 h =>
    (wi F L (.pick (.c v36) (.c v40) (.c (.bool false))) E0 h fun v41 h =>
    (wi F L (.faddr 1 (.c v7)) E0 h fun v42 h =>
    (wi F L (.store 1 (.c v42) (.c v41)) E0 h fun _ h =>
    (wi F L (.load true 13 (.c v7)) E0 h fun v43 h =>
    (wi F L (.store 13 (.c v2) (.c v43)) E0 h fun _ h =>
    (∃ v, resultsV h (enterE [v2]) [.cell 0 true 13] = some v ∧ K v h))))))))))
def k_control_Of_2 (L : FuncId → List V → V → Prop) (K : V → Heap → Prop) (v0 v2 v25 : V) (h : Heap) : Prop :=
    (wi F L (.boxz [(.bool false), (.bool false), (.bool false), (.bool false), (.bool false), (.bool false), (.bool false), (.int .i64 0), (.int .i64 0), (.int .i64 0), (.int .i64 0), (.int .i64 0), (.int .i64 0)]) E0 h fun v7 h =>
    (wi F L (.store 13 (.c v7) (.c v25)) E0 h fun _ h =>
    (wi F L (.call i_field_Get [(.c v0), (.c (.str [80, 114, 97, 103, 109, 97]))]) E0 h fun v28 h =>
    (wi F L (.ext 0 (.c v28)) E0 h fun v29 h =>
    (wi F L (.ext 1 (.c v28)) E0 h fun v30 h =>
    (wi F L (.call i_token_Lower [(.c v29)]) E0 h fun v33 h =>
    (wi F L (.call i_token_Split [(.c v33)]) E0 h fun v34 h =>
    (k_control_Of_1 L K v2 v7 v34 h))))))))
def k_control_Of_0 (L : FuncId → List V → V → Prop) (K : V → Heap → Prop) (v0 v2 : V) (h : Heap) : Prop :=
    (wi F L (.call i_control_nothing []) E0 h fun v25 h =>
    (k_control_Of_2 L K v0 v2 v25 h))
def k_control_Of_3 (L : FuncId → List V → V → Prop) (K : V → Heap → Prop) (v2 v21 : V) (h : Heap) : Prop :=
    (wi F L (.ext 0 (.c v21)) E0 h fun v22 h =>
    (wi F L (.ext 1 (.c v21)) E0 h fun v23 h =>
    (wi F L (.boxz [(.bool false), (.bool false), (.bool false), (.bool false), (.bool false), (.bool false), (.bool false), (.int .i64 0), (.int .i64 0), (.int .i64 0), (.int .i64 0), (.int .i64 0), (.int .i64 0)]) E0 h fun v5 h =>
    (wi F L (.store 13 (.c v5) (.c v22)) E0 h fun _ h =>
    (wi F L (.load true 13 (.c v5)) E0 h fun v24 h =>
    (wi F L (.store 13 (.c v2) (.c v24)) E0 h fun _ h =>
    (∃ v, resultsV h (enterE [v2]) [.cell 0 true 13] = some v ∧ K v h)))))))
def p_control_Of (L : FuncId → List V → V → Prop) (K : V → Heap → Prop) (a0 : V) (h : Heap) : Prop :=
    (wi F L (.boxz [(.bool false), (.bool false), (.bool false), (.bool false), (.bool false), (.bool false), (.bool false), (.int .i64 0), (.int .i64 0), (.int .i64 0), (.int .i64 0), (.int .i64 0), (.int .i64 0)]) E0 h fun v2 h =>
    (wi F L (.call i_field_Get [(.c a0), (.c (.str [67, 97, 99, 104, 101, 45, 67, 111, 110, 116, 114, 111, 108]))]) E0 h fun v14 h =>
    (wi F L (.ext 0 (.c v14)) E0 h fun v15 h =>
    (wi F L (.ext 1 (.c v14)) E0 h fun v16 h =>
    (wi F L (.bin .gtr (.c v16) (.c (.int .i64 0))) E0 h fun v18 h =>
    (wb v18
    (wi F L (.call i_control_Parse [(.c v15)]) E0 h fun v21 h =>
    (k_control_Of_3 L K v2 v21 h))
    (k_control_Of_0 L K a0 v2 h)))))))
theorem run_control_Of {L : FuncId → List V → V → Prop} {K : V → Heap → Prop} {a0 : V} {h : Heap} (hp : p_control_Of L K a0 h) : Cf F L i_control_Of [a0] h K :=
  wcallp F_control_Of (show 1 ≤ 44 by decide) (p := p_control_Of L K a0 h) (by kernel_rfl) hp
def k_gatepostref08_Of_1 (L : FuncId → List V → V → Prop) (K : V → Heap → Prop) (v2 v7 : V) (h : Heap) : Prop :=
    (wi F L (.load true 13 (.c v7)) E0 h fun v51 h =>
    (wi F L (.store 13 (.c v2) (.c v51)) E0 h fun _ h =>
    (∃ v, resultsV h (enterE [v2]) [.cell 0 true 13] = some v ∧ K v h)))
def k_gatepostref08_Of_3 (L : FuncId → List V → V → Prop) (K : V → Heap → Prop) (N0 : Env → Heap → Prop) (e : Env) (v10 : V) (h : Heap) : Prop :=
    (wi F L (.bin .add (.c v10) (.c (.int .i64 1))) E0 h fun v41 h =>
    (N0 (upd (upd (upd e 40 v10) 41 v41) 10 v41) h))
def k_gatepostref08_Of_2 (L : FuncId → List V → V → Prop) (K : V → Heap → Prop) (N0 : Env → Heap → Prop) (e : Env) (v7 v8 v9 v10 : V) (h : Heap) : Prop :=
    (wg v9 true (wi F L (.mv (.c v8)) E0 h) h fun v44 h =>
    (wg v9 true (wi F L (.mv (.c v10)) E0 h) h fun v45 h =>
    (wg v9 true (wi F L (.ixaSl 1 (.c v44) (.c v45)) E0 h) h fun v46 h =>
    (wg v9 true (wi F L (.load false 1 (.c v46)) E0 h) h fun v47 h =>
    (wg v9 true (wi F L (.bin .eql (.c v47) (.c (.str [110, 111, 45, 99, 97, 99, 104, 101]))) E0 h) h fun v48 h =>
    (wi F L (.pick (.c v9) (.c v48) (.c (.bool false))) E0 h fun v49 h =>
    (wb v49
    (wi F L (.faddr 1 (.c v7)) E0 h fun v50 h =>
    (wi F L (.store 1 (.c v50) (.c (.bool true))) E0 h fun _ h =>
    (k_gatepostref08_Of_3 L K N0 (upd (upd (upd (upd (upd (upd (upd (upd (upd e 42 v9) 43 v9) 44 v44) 45 v45) 46 v46) 47 v47) 48 v48) 49 v49) 50 v50) v10 h)))
    (k_gatepostref08_Of_3 L K N0 (upd (upd (upd (upd (upd (upd (upd (upd e 42 v9) 43 v9) 44 v44) 45 v45) 46 v46) 47 v47) 48 v48) 49 v49) v10 h))))))))
def q_gatepostref08_Of_0 (L : FuncId → List V → V → Prop) (K : V → Heap → Prop) : X → Env → Heap → Prop := (fun x => (seqX (fun e h => k_gatepostref08_Of_1 L K (e 2) (e 7) h) (retX c_gatepostref08_Of.results K)) (X.out 0 x))
def lc_gatepostref08_Of_0 : C :=
  (.seq (.seq (.region [⟨(some 36), none, .mv (.t 10)⟩, ⟨(some 37), none, .mv (.t 8)⟩, ⟨(some 38), none, .len 1 (.t 37)⟩, ⟨(some 39), none, .bin .lss (.t 36) (.t 38)⟩])
  (.cond (.t 39)
    .skip
    (.exit 0)))
  (.seq (.block 1 (.seq (.region [⟨(some 42), none, .mv (.t 9)⟩, ⟨(some 43), none, .mv (.t 42)⟩, ⟨(some 44), (some (43, true)), .mv (.t 8)⟩, ⟨(some 45), (some (43, true)), .mv (.t 10)⟩, ⟨(some 46), (some (43, true)), .ixaSl 1 (.t 44) (.t 45)⟩, ⟨(some 47), (some (43, true)), .load false 1 (.t 46)⟩, ⟨(some 48), (some (43, true)), .bin .eql (.t 47) (.c (.str [110, 111, 45, 99, 97, 99, 104, 101]))⟩, ⟨(some 49), none, .pick (.t 43) (.t 48) (.c (.bool false))⟩])
  (.cond (.t 49)
    (.region [⟨(some 50), none, .faddr 1 (.t 7)⟩, ⟨none, none, .store 1 (.t 50) (.c (.bool true))⟩])
    .skip)))
  (.region [⟨(some 40), none, .mv (.t 10)⟩, ⟨(some 41), none, .bin .add (.t 40) (.c (.int .i64 1))⟩, ⟨(some 10), none, .mv (.t 41)⟩])))
def b_gatepostref08_Of_0 (L : FuncId → List V → V → Prop) (K : V → Heap → Prop) (N0 : Env → Heap → Prop) (e : Env) (h : Heap) : Prop :=
    (wi F L (.len 1 (.c (e 8))) E0 h fun v38 h =>
    (wi F L (.bin .lss (.c (e 10)) (.c v38)) E0 h fun v39 h =>
    (wb v39
    (k_gatepostref08_Of_2 L K N0 (upd (upd (upd (upd e 36 (e 10)) 37 (e 8)) 38 v38) 39 v39) (e 7) (e 8) (e 9) (e 10) h)
    (k_gatepostref08_Of_1 L K (e 2) (e 7) h))))
theorem l_gatepostref08_Of_0 {L : FuncId → List V → V → Prop} {K : V → Heap → Prop} (I : Nat → Env → Heap → Prop) (hr : ∀ n e h, I n e h → b_gatepostref08_Of_0 L K (fun e' h' => ∃ m, m < n ∧ I m e' h') e h) {n : Nat} {e : Env} {h : Heap} (hi : I n e h) : Wl F L lc_gatepostref08_Of_0 (q_gatepostref08_Of_0 L K) e h :=
  wloopp (b := b_gatepostref08_Of_0 L K) I (fun _ _ _ => by kernel_rfl) hr hi
def k_gatepostref08_Of_4 (L : FuncId → List V → V → Prop) (K : V → Heap → Prop) (e : Env) (v0 v7 v24 v27 v28 v29 v32 : V) (h : Heap) : Prop :=
    (wi F L (.call i_gatepostref01_Split [(.c v32)]) E0 h fun v33 h =>
    (wi F L (.ext 0 (.c v33)) E0 h fun v34 h =>
    (wi F L (.ext 1 (.c v33)) E0 h fun v35 h =>
    (Wl F L lc_gatepostref08_Of_0 (q_gatepostref08_Of_0 L K) (upd (upd (upd (upd (upd (upd (upd (upd (upd (upd (upd (upd (upd (upd (upd (upd (upd e 24 v24) 7 v7) 26 v0) 27 v27) 25 v27) 28 v28) 29 v29) 3 v28) 31 v28) 32 v32) 33 v33) 30 v33) 34 v34) 35 v35) 8 v34) 9 v35) 10 (.int .i64 0)) h))))
def k_gatepostref08_Of_5 (L : FuncId → List V → V → Prop) (K : V → Heap → Prop) (e : Env) (v0 v24 : V) (h : Heap) : Prop :=
    (wi F L (.boxz [(.bool false), (.bool false), (.bool false), (.bool false), (.bool false), (.bool false), (.bool false), (.int .i64 0), (.int .i64 0), (.int .i64 0), (.int .i64 0), (.int .i64 0), (.int .i64 0)]) E0 h fun v7 h =>
    (wi F L (.store 13 (.c v7) (.c v24)) E0 h fun _ h =>
    (wi F L (.call i_gatepostref04_Get [(.c v0), (.c (.str [112, 114, 97, 103, 109, 97]))]) E0 h fun v27 h =>
    (wi F L (.ext 0 (.c v27)) E0 h fun v28 h =>
    (wi F L (.ext 1 (.c v27)) E0 h fun v29 h =>
    (wi F L (.call i_gatepostref01_Lower [(.c v28)]) E0 h fun v32 h =>
    (k_gatepostref08_Of_4 L K e v0 v7 v24 v27 v28 v29 v32 h)))))))
def k_gatepostref08_Of_0 (L : FuncId → List V → V → Prop) (K : V → Heap → Prop) (e : Env) (v0 : V) (h : Heap) : Prop :=
    (wi F L (.call i_gatepostref08_None []) E0 h fun v24 h =>
    (k_gatepostref08_Of_5 L K e v0 v24 h))
def k_gatepostref08_Of_6 (L : FuncId → List V → V → Prop) (K : V → Heap → Prop) (v2 v20 : V) (h : Heap) : Prop :=
    (wi F L (.ext 0 (.c v20)) E0 h fun v21 h =>
    (wi F L (.ext 1 (.c v20)) E0 h fun v22 h =>
    (wi F L (.boxz [(.bool false), (.bool false), (.bool false), (.bool false), (.bool false), (.bool false), (.bool false), (.int .i64 0), (.int .i64 0), (.int .i64 0), (.int .i64 0), (.int .i64 0), (.int .i64 0)]) E0 h fun v5 h =>
    (wi F L (.store 13 (.c v5) (.c v21)) E0 h fun _ h =>
    (wi F L (.load true 13 (.c v5)) E0 h fun v23 h =>
    (wi F L (.store 13 (.c v2) (.c v23)) E0 h fun _ h =>
    (∃ v, resultsV h (enterE [v2]) [.cell 0 true 13] = some v ∧ K v h)))))))
def k_gatepostref08_Of_7 (L : FuncId → List V → V → Prop) (K : V → Heap → Prop) (a0 v2 v13 : V) (h : Heap) : Prop :=
    (wi F L (.ext 0 (.c v13)) E0 h fun v14 h =>
    (wi F L (.ext 1 (.c v13)) E0 h fun v15 h =>
    (wi F L (.bin .gtr (.c v15) (.c (.int .i64 0))) E0 h fun v17 h =>
    (wb v17
    (wi F L (.call i_gatepostref08_Parse [(.c v14)]) E0 h fun v20 h =>
    (k_gatepostref08_Of_6 L K v2 v20 h))
    (k_gatepostref08_Of_0 L K (upd (upd (upd (upd (upd (upd (upd (upd (upd (upd (enterE [a0]) 2 v2) 12 a0) 13 v13) 11 v13) 14 v14) 15 v15) 3 v14) 4 v15) 16 v15) 17 v17) a0 h)))))
def p_gatepostref08_Of (L : FuncId → List V → V → Prop) (K : V → Heap → Prop) (a0 : V) (h : Heap) : Prop :=
    (wi F L (.boxz [(.bool false), (.bool false), (.bool false), (.bool false), (.bool false), (.bool false), (.bool false), (.int .i64 0), (.int .i64 0), (.int .i64 0), (.int .i64 0), (.int .i64 0), (.int .i64 0)]) E0 h fun v2 h =>
    (wi F L (.call i_gatepostref04_Get [(.c a0), (.c (.str [99, 97, 99, 104, 101, 45, 99, 111, 110, 116, 114, 111, 108]))]) E0 h fun v13 h =>
    (k_gatepostref08_Of_7 L K a0 v2 v13 h)))
theorem run_gatepostref08_Of {L : FuncId → List V → V → Prop} {K : V → Heap → Prop} {a0 : V} {h : Heap} (hp : p_gatepostref08_Of L K a0 h) : Cf F L i_gatepostref08_Of [a0] h K :=
  wcallp F_gatepostref08_Of (show 1 ≤ 52 by decide) (p := p_gatepostref08_Of L K a0 h) (by kernel_rfl) hp
def p_control_nothing (L : FuncId → List V → V → Prop) (K : V → Heap → Prop) (h : Heap) : Prop :=
    (wi F L (.boxz [(.bool false), (.bool false), (.bool false), (.bool false), (.bool false), (.bool false), (.bool false), (.int .i64 0), (.int .i64 0), (.int .i64 0), (.int .i64 0), (.int .i64 0), (.int .i64 0)]) E0 h fun v0 h =>
    (wi F L (.build [(.bool false), (.bool false), (.bool false), (.bool false), (.bool false), (.bool false), (.bool false), (.int .i64 0), (.int .i64 0), (.int .i64 0), (.int .i64 0), (.int .i64 0), (.int .i64 0)] [(7, 1, (.c (.int .i64 (-1)))), (8, 1, (.c (.int .i64 (-1)))), (9, 1, (.c (.int .i64 (-1)))), (10, 1, (.c (.int .i64 (-1)))), (11, 1, (.c (.int .i64 (-1)))), (12, 1, (.c (.int .i64 (-1))))]) E0 h fun v1 h =>
    (wi F L (.store 13 (.c v0) (.c v1)) E0 h fun _ h =>
    (∃ v, resultsV h (enterE [v0]) [.cell 0 true 13] = some v ∧ K v h))))
theorem run_control_nothing {L : FuncId → List V → V → Prop} {K : V → Heap → Prop} {h : Heap} (hp : p_control_nothing L K  h) : Cf F L i_control_nothing [] h K :=
  wcallp F_control_nothing (show 0 ≤ 2 by decide) (p := p_control_nothing L K  h) (by kernel_rfl) hp
def k_token_Split_1 (L : FuncId → List V → V → Prop) (K : V → Heap → Prop) (v1 v4 v6 : V) (h : Heap) : Prop :=
    (wi F L (.load false 1 (.c v1)) E0 h fun v45 h =>
    (wi F L (.len 0 (.c v45)) E0 h fun v46 h =>
    (wi F L (.callv (.c v6) [(.c v46)]) E0 h fun v47 h =>
    (wi F L (.load false 1 (.c v4)) E0 h fun v48 h =>
    (wi F L (.load false 1 (.c v4)) E0 h fun v49 h =>
    (wi F L (.len 1 (.c v49)) E0 h fun v50 h =>
    (wi F L (.load false 1 (.c v4)) E0 h fun v51 h =>
    (wi F L (.len 1 (.c v51)) E0 h fun v52 h =>
    (wi F L (.slsl 1 (.c v48) none (some (.c v50)) (some (.c v52))) E0 h fun v53 h =>
    (∃ v, resultsV h (enterE [v53, (.bool true)]) [.tmp 0, .tmp 1] = some v ∧ K v h))))))))))
def k_token_Split_0 (L : FuncId → List V → V → Prop) (K : V → Heap → Prop) (v1 v4 v6 v7 : V) (h : Heap) : Prop :=
    (wb v7
    (∃ v, resultsV h (enterE [.nsl, (.bool false)]) [.tmp 0, .tmp 1] = some v ∧ K v h)
    (k_token_Split_1 L K v1 v4 v6 h))
def k_token_Split_3 (L : FuncId → List V → V → Prop) (K : V → Heap → Prop) (N0 : Env → Heap → Prop) (e : Env) (v8 : V) (h : Heap) : Prop :=
    (wi F L (.bin .add (.c v8) (.c (.int .i64 1))) E0 h fun v16 h =>
    (N0 (upd (upd (upd e 15 v8) 16 v16) 8 v16) h))
def k_token_Split_2 (L : FuncId → List V → V → Prop) (K : V → Heap → Prop) (N0 : Env → Heap → Prop) (e : Env) (v1 v6 v7 v8 : V) (h : Heap) : Prop :=
    (wi F L (.load false 1 (.c v1)) E0 h fun v17 h =>
    (wi F L (.ixStr (.c v17) (.c v8)) E0 h fun v19 h =>
    (wi F L (.bin .eql (.c v19) (.c (.int .u8 34))) E0 h fun v22 h =>
    (wb v22
    (wi F L (.un .not (.c v7)) E0 h fun v24 h =>
    (k_token_Split_3 L K N0 (upd (upd (upd (upd (upd (upd (upd (upd (upd (upd e 17 v17) 18 v8) 19 v19) 9 v19) 21 v19) 22 v22) 20 v22) 23 v7) 24 v24) 7 v24) v8 h))
    (wg v7 true (wi F L (.mv (.c v19)) E0 h) h fun v28 h =>
    (wg v7 true (wi F L (.bin .eql (.c v28) (.c (.int .u8 92))) E0 h) h fun v29 h =>
    (wi F L (.pick (.c v7) (.c v29) (.c (.bool false))) E0 h fun v30 h =>
    (wb v30
    (wi F L (.bin .add (.c v8) (.c (.int .i64 1))) E0 h fun v32 h =>
    (k_token_Split_3 L K N0 (upd (upd (upd (upd (upd (upd (upd (upd (upd (upd (upd (upd (upd (upd (upd (upd e 17 v17) 18 v8) 19 v19) 9 v19) 21 v19) 22 v22) 20 v22) 26 v7) 27 v7) 28 v28) 29 v29) 30 v30) 25 v30) 31 v8) 32 v32) 8 v32) v32 h))
    (wi F L (.un .not (.c v7)) E0 h fun v35 h =>
    (wg v35 true (wi F L (.mv (.c v19)) E0 h) h fun v37 h =>
    (wg v35 true (wi F L (.bin .eql (.c v37) (.c (.int .u8 44))) E0 h) h fun v38 h =>
    (wi F L (.pick (.c v35) (.c v38) (.c (.bool false))) E0 h fun v39 h =>
    (wb v39
    (wi F L (.callv (.c v6) [(.c v8)]) E0 h fun v42 h =>
    (k_token_Split_3 L K N0 (upd (upd (upd (upd (upd (upd (upd (upd (upd (upd (upd (upd (upd (upd (upd (upd (upd (upd (upd (upd (upd (upd (upd e 17 v17) 18 v8) 19 v19) 9 v19) 21 v19) 22 v22) 20 v22) 26 v7) 27 v7) 28 v28) 29 v29) 30 v30) 25 v30) 34 v7) 35 v35) 36 v35) 37 v37) 38 v38) 39 v39) 33 v39) 40 v6) 41 v8) 42 v42) v8 h))
    (k_token_Split_3 L K N0 (upd (upd (upd (upd (upd (upd (upd (upd (upd (upd (upd (upd (upd (upd (upd (upd (upd (upd (upd (upd e 17 v17) 18 v8) 19 v19) 9 v19) 21 v19) 22 v22) 20 v22) 26 v7) 27 v7) 28 v28) 29 v29) 30 v30) 25 v30) 34 v7) 35 v35) 36 v35) 37 v37) 38 v38) 39 v39) 33 v39) v8 h))))))))))))))
def q_token_Split_0 (L : FuncId → List V → V → Prop) (K : V → Heap → Prop) : X → Env → Heap → Prop := (fun x => (seqX (fun e h => k_token_Split_0 L K (e 1) (e 4) (e 6) (e 7) h) (retX c_token_Split.results K)) (X.out 0 x))
def lc_token_Split_0 : C :=
  (.seq (.seq (.region [⟨(some 11), none, .mv (.t 8)⟩, ⟨(some 12), none, .load false 1 (.t 1)⟩, ⟨(some 13), none, .len 0 (.t 12)⟩, ⟨(some 14), none, .bin .lss (.t 11) (.t 13)⟩])
  (.cond (.t 14)
    .skip
    (.exit 0)))
  (.seq (.block 1 (.seq (.region [⟨(some 17), none, .load false 1 (.t 1)⟩, ⟨(some 18), none, .mv (.t 8)⟩, ⟨(some 19), none, .ixStr (.t 17) (.t 18)⟩, ⟨(some 9), none, .mv (.t 19)⟩])
  (.block 2 (.seq (.region [⟨(some 21), none, .mv (.t 9)⟩, ⟨(some 22), none, .bin .eql (.t 21) (.c (.int .u8 34))⟩, ⟨(some 20), none, .mv (.t 22)⟩])
  (.cond (.t 20)
    (.region [⟨(some 23), none, .mv (.t 7)⟩, ⟨(some 24), none, .un .not (.t 23)⟩, ⟨(some 7), none, .mv (.t 24)⟩])
    (.seq (.region [⟨(some 26), none, .mv (.t 7)⟩, ⟨(some 27), none, .mv (.t 26)⟩, ⟨(some 28), (some (27, true)), .mv (.t 9)⟩, ⟨(some 29), (some (27, true)), .bin .eql (.t 28) (.c (.int .u8 92))⟩, ⟨(some 30), none, .pick (.t 27) (.t 29) (.c (.bool false))⟩, ⟨(some 25), none, .mv (.t 30)⟩])
    (.cond (.t 25)
      (.region [⟨(some 31), none, .mv (.t 8)⟩, ⟨(some 32), none, .bin .add (.t 31) (.c (.int .i64 1))⟩, ⟨(some 8), none, .mv (.t 32)⟩])
      (.seq (.region [⟨(some 34), none, .mv (.t 7)⟩, ⟨(some 35), none, .un .not (.t 34)⟩, ⟨(some 36), none, .mv (.t 35)⟩, ⟨(some 37), (some (36, true)), .mv (.t 9)⟩, ⟨(some 38), (some (36, true)), .bin .eql (.t 37) (.c (.int .u8 44))⟩, ⟨(some 39), none, .pick (.t 36) (.t 38) (.c (.bool false))⟩, ⟨(some 33), none, .mv (.t 39)⟩])
      (.cond (.t 33)
        (.region [⟨(some 40), none, .mv (.t 6)⟩, ⟨(some 41), none, .mv (.t 8)⟩, ⟨(some 42), none, .callv (.t 40) [(.t 41)]⟩])
        .skip)))))))))
  (.region [⟨(some 15), none, .mv (.t 8)⟩, ⟨(some 16), none, .bin .add (.t 15) (.c (.int .i64 1))⟩, ⟨(some 8), none, .mv (.t 16)⟩])))
def b_token_Split_0 (L : FuncId → List V → V → Prop) (K : V → Heap → Prop) (N0 : Env → Heap → Prop) (e : Env) (h : Heap) : Prop :=
    (wi F L (.load false 1 (.c (e 1))) E0 h fun v12 h =>
    (wi F L (.len 0 (.c v12)) E0 h fun v13 h =>
    (wi F L (.bin .lss (.c (e 8)) (.c v13)) E0 h fun v14 h =>
    (wb v14
    (k_token_Split_2 L K N0 (upd (upd (upd (upd e 11 (e 8)) 12 v12) 13 v13) 14 v14) (e 1) (e 6) (e 7) (e 8) h)
    (k_token_Split_0 L K (e 1) (e 4) (e 6) (e 7) h)))))
theorem l_token_Split_0 {L : FuncId → List V → V → Prop} {K : V → Heap → Prop} (I : Nat → Env → Heap → Prop) (hr : ∀ n e h, I n e h → b_token_Split_0 L K (fun e' h' => ∃ m, m < n ∧ I m e' h') e h) {n : Nat} {e : Env} {h : Heap} (hi : I n e h) : Wl F L lc_token_Split_0 (q_token_Split_0 L K) e h :=
  wloopp (b := b_token_Split_0 L K) I (fun _ _ _ => by kernel_rfl) hr hi
def p_token_Split (L : FuncId → List V → V → Prop) (K : V → Heap → Prop) (a0 : V) (h : Heap) : Prop :=
    (wi F L (.box (.c a0)) E0 h fun v1 h =>
    (wi F L (.boxz [.nsl]) E0 h fun v4 h =>
    (wi F L (.boxz [(.int .i64 0)]) E0 h fun v5 h =>
    (wi F L (.store 1 (.c v5) (.c (.int .i64 0))) E0 h fun _ h =>
    (wi F L (.mkfn i_token_Split_1 [(.c v1), (.c v5), (.c v4)]) E0 h fun v10 h =>
    (Wl F L lc_token_Split_0 (q_token_Split_0 L K) (upd (upd (upd (upd (upd (upd (upd (upd (upd (enterE [a0]) 1 v1) 2 .nsl) 3 (.bool false)) 4 v4) 5 v5) 10 v10) 6 v10) 7 (.bool false)) 8 (.int .i64 0)) h))))))
theorem run_token_Split {L : FuncId → List V → V → Prop} {K : V → Heap → Prop} {a0 : V} {h : Heap} (hp : p_token_Split L K a0 h) : Cf F L i_token_Split [a0] h K :=
  wcallp F_token_Split (show 1 ≤ 54 by decide) (p := p_token_Split L K a0 h) (by kernel_rfl) hp
def p_control_rules (L : FuncId → List V → V → Prop) (K : V → Heap → Prop) (h : Heap) : Prop :=
    (wi F L (.mkmap) E0 h fun v4 h =>
    (wi F L (.boxz [.nmap]) E0 h fun v1 h =>
    (wi F L (.store 1 (.c v1) (.c v4)) E0 h fun _ h =>
    (wi F L (.mkfn i_control_rules_1 [(.c v1)]) E0 h fun v5 h =>
    (wi F L (.mkfn i_control_rules_2 [(.c v1)]) E0 h fun v6 h =>
    (wi F L (.callv (.c v5) [(.c (.str [110, 111, 45, 115, 116, 111, 114, 101])), (.c (.fn i_control_rules_3 []))]) E0 h fun v8 h =>
    (wi F L (.callv (.c v5) [(.c (.str [110, 111, 45, 99, 97, 99, 104, 101])), (.c (.fn i_control_rules_4 []))]) E0 h fun v10 h =>
    (wi F L (.callv (.c v5) [(.c (.str [112, 114, 105, 118, 97, 116, 101])), (.c (.fn i_control_rules_5 []))]) E0 h fun v12 h =>
    (wi F L (.callv (.c v5) [(.c (.str [112, 117, 98, 108, 105, 99])), (.c (.fn i_control_rules_6 []))]) E0 h fun v14 h =>
    (wi F L (.callv (.c v5) [(.c (.str [109, 117, 115, 116, 45, 114, 101, 118, 97, 108, 105, 100, 97, 116, 101])), (.c (.fn i_control_rules_7 []))]) E0 h fun v16 h =>
    (wi F L (.callv (.c v5) [(.c (.str [112, 114, 111, 120, 121, 45, 114, 101, 118, 97, 108, 105, 100, 97, 116, 101])), (.c (.fn i_control_rules_8 []))]) E0 h fun v18 h =>
    (wi F L (.callv (.c v5) [(.c (.str [111, 110, 108, 121, 45, 105, 102, 45, 99, 97, 99, 104, 101, 100])), (.c (.fn i_control_rules_9 []))]) E0 h fun v20 h =>
    (wi F L (.callv (.c v6) [(.c (.str [109, 97, 120, 45, 97, 103, 101])), (.c (.int .i64 0)), (.c (.int .i64 0)), (.c (.fn i_control_rules_10 []))]) E0 h fun v22 h =>
    (wi F L (.callv (.c v6) [(.c (.str [115, 45, 109, 97, 120, 97, 103, 101])), (.c (.int .i64 0)), (.c (.int .i64 0)), (.c (.fn i_control_rules_11 []))]) E0 h fun v24 h =>
    (wi F L (.callv (.c v6) [(.c (.str [115, 116, 97, 108, 101, 45, 119, 104, 105, 108, 101, 45, 114, 101, 118, 97, 108, 105, 100, 97, 116, 101])), (.c (.int .i64 (-1))), (.c (.int .i64 (-1))), (.c (.fn i_control_rules_12 []))]) E0 h fun v26 h =>
    (wi F L (.callv (.c v6) [(.c (.str [115, 116, 97, 108, 101, 45, 105, 102, 45, 101, 114, 114, 111, 114])), (.c (.int .i64 (-1))), (.c (.int .i64 (-1))), (.c (.fn i_control_rules_13 []))]) E0 h fun v28 h =>
    (wi F L (.callv (.c v6) [(.c (.str [109, 105, 110, 45, 102, 114, 101, 115, 104])), (.c (.int .i64 (-1))), (.c (.int .i64 (-1))), (.c (.fn i_control_rules_14 []))]) E0 h fun v30 h =>
    (wi F L (.callv (.c v6) [(.c (.str [109, 97, 120, 45, 115, 116, 97, 108, 101])), (.c (.int .i64 2147483648)), (.c (.int .i64 (-1))), (.c (.fn i_control_rules_15 []))]) E0 h fun v32 h =>
    (wi F L (.load false 1 (.c v1)) E0 h fun v33 h =>
    (∃ v, some v33 = some v ∧ K v h))))))))))))))))))))
theorem run_control_rules {L : FuncId → List V → V → Prop} {K : V → Heap → Prop} {h : Heap} (hp : p_control_rules L K  h) : Cf F L i_control_rules [] h K :=
  wcallp F_control_rules (show 0 ≤ 34 by decide) (p := p_control_rules L K  h) (by kernel_rfl) hp
def k_token_Pair_2 (L : FuncId → List V → V → Prop) (K : V → Heap → Prop) (v2 v3 : V) (h : Heap) : Prop :=
    (∃ v, resultsV h (enterE [v2, v3, (.bool true), (.bool true)]) [.tmp 0, .tmp 1, .tmp 2, .tmp 3] = some v ∧ K v h)
def k_token_Pair_1 (L : FuncId → List V → V → Prop) (K : V → Heap → Prop) (v2 v3 : V) (h : Heap) : Prop :=
    (wi F L (.call i_token_unquote [(.c v3)]) E0 h fun v26 h =>
    (wi F L (.ext 0 (.c v26)) E0 h fun v27 h =>
    (wi F L (.ext 1 (.c v26)) E0 h fun v28 h =>
    (wi F L (.un .not (.c v28)) E0 h fun v30 h =>
    (wb v30
    (∃ v, resultsV h (enterE [(.str []), (.str []), (.bool false), (.bool false)]) [.tmp 0, .tmp 1, .tmp 2, .tmp 3] = some v ∧ K v h)
    (k_token_Pair_2 L K v2 v27 h))))))
def k_token_Pair_0 (L : FuncId → List V → V → Prop) (K : V → Heap → Prop) (v2 v3 v4 : V) (h : Heap) : Prop :=
    (wi F L (.un .not (.c v4)) E0 h fun v16 h =>
    (wg v16 false (wi F L (.mv (.c v3)) E0 h) h fun v18 h =>
    (wg v16 false (wi F L (.call i_token_Is [(.c v18)]) E0 h) h fun v19 h =>
    (wi F L (.pick (.c v16) (.c (.bool true)) (.c v19)) E0 h fun v20 h =>
    (wb v20
    (∃ v, resultsV h (enterE [v2, v3, v4, (.bool true)]) [.tmp 0, .tmp 1, .tmp 2, .tmp 3] = some v ∧ K v h)
    (k_token_Pair_1 L K v2 v3 h))))))
def p_token_Pair (L : FuncId → List V → V → Prop) (K : V → Heap → Prop) (a0 : V) (h : Heap) : Prop :=
    (wi F L (.call i_strings_Cut [(.c a0), (.c (.str [61]))]) E0 h fun v8 h =>
    (wi F L (.ext 0 (.c v8)) E0 h fun v9 h =>
    (wi F L (.ext 1 (.c v8)) E0 h fun v10 h =>
    (wi F L (.ext 2 (.c v8)) E0 h fun v11 h =>
    (wi F L (.call i_token_Is [(.c v9)]) E0 h fun v13 h =>
    (wi F L (.un .not (.c v13)) E0 h fun v14 h =>
    (wb v14
    (∃ v, resultsV h (enterE [(.str []), (.str []), (.bool false), (.bool false)]) [.tmp 0, .tmp 1, .tmp 2, .tmp 3] = some v ∧ K v h)
    (k_token_Pair_0 L K v9 v10 v11 h))))))))
theorem run_token_Pair {L : FuncId → List V → V → Prop} {K : V → Heap → Prop} {a0 : V} {h : Heap} (hp : p_token_Pair L K a0 h) : Cf F L i_token_Pair [a0] h K :=
  wcallp F_token_Pair (show 1 ≤ 33 by decide) (p := p_token_Pair L K a0 h) (by kernel_rfl) hp
def k_token_Lower_0 (L : FuncId → List V → V → Prop) (K : V → Heap → Prop) (v3 : V) (h : Heap) : Prop :=
    (wi F L (.toStr (.c v3)) E0 h fun v28 h =>
    (∃ v, some v28 = some v ∧ K v h))
def k_token_Lower_2 (L : FuncId → List V → V → Prop) (K : V → Heap → Prop) (N0 : Env → Heap → Prop) (e : Env) (v10 : V) (h : Heap) : Prop :=
    (wi F L (.bin .add (.c v10) (.c (.int .i64 1))) E0 h fun v26 h =>
    (N0 (upd (upd e 26 v26) 10 v26) h))
def k_token_Lower_1 (L : FuncId → List V → V → Prop) (K : V → Heap → Prop) (N0 : Env → Heap → Prop) (e : Env) (v3 v8 v10 : V) (h : Heap) : Prop :=
    (wi F L (.ixaSl 1 (.c v8) (.c v10)) E0 h fun v13 h =>
    (wi F L (.load false 1 (.c v13)) E0 h fun v14 h =>
    (wi F L (.bin .geq (.c v14) (.c (.int .u8 65))) E0 h fun v16 h =>
    (wg v16 true (wi F L (.mv (.c v14)) E0 h) h fun v18 h =>
    (wg v16 true (wi F L (.bin .leq (.c v18) (.c (.int .u8 90))) E0 h) h fun v19 h =>
    (wi F L (.pick (.c v16) (.c v19) (.c (.bool false))) E0 h fun v20 h =>
    (wb v20
    (wi F L (.bin .or (.c v14) (.c (.int .u8 32))) E0 h fun v24 h =>
    (wi F L (.ixaSl 1 (.c v3) (.c v10)) E0 h fun v25 h =>
    (wi F L (.store 1 (.c v25) (.c v24)) E0 h fun _ h =>
    (k_token_Lower_2 L K N0 (upd (upd (upd (upd (upd (upd (upd (upd (upd (upd (upd (upd (upd (upd (upd (upd e 12 v10) 13 v13) 14 v14) 4 v10) 5 v14) 15 v14) 16 v16) 17 v16) 18 v18) 19 v19) 20 v20) 21 v3) 22 v10) 23 v14) 24 v24) 25 v25) v10 h))))
    (k_token_Lower_2 L K N0 (upd (upd (upd (upd (upd (upd (upd (upd (upd (upd (upd e 12 v10) 13 v13) 14 v14) 4 v10) 5 v14) 15 v14) 16 v16) 17 v16) 18 v18) 19 v19) 20 v20) v10 h))))))))
def q_token_Lower_0 (L : FuncId → List V → V → Prop) (K : V → Heap → Prop) : X → Env → Heap → Prop := (fun x => (seqX (fun e h => k_token_Lower_0 L K (e 3) h) (retX c_token_Lower.results K)) (X.out 0 x))
def lc_token_Lower_0 : C :=
  (.seq (.region [⟨(some 11), none, .bin .lss (.t 10) (.t 9)⟩])
  (.seq (.cond (.t 11)
    .skip
    (.exit 0))
  (.seq (.block 1 (.seq (.region [⟨(some 12), none, .mv (.t 10)⟩, ⟨(some 13), none, .ixaSl 1 (.t 8) (.t 10)⟩, ⟨(some 14), none, .load false 1 (.t 13)⟩, ⟨(some 4), none, .mv (.t 12)⟩, ⟨(some 5), none, .mv (.t 14)⟩])
  (.seq (.region [⟨(some 15), none, .mv (.t 5)⟩, ⟨(some 16), none, .bin .geq (.t 15) (.c (.int .u8 65))⟩, ⟨(some 17), none, .mv (.t 16)⟩, ⟨(some 18), (some (17, true)), .mv (.t 5)⟩, ⟨(some 19), (some (17, true)), .bin .leq (.t 18) (.c (.int .u8 90))⟩, ⟨(some 20), none, .pick (.t 17) (.t 19) (.c (.bool false))⟩])
  (.cond (.t 20)
    (.region [⟨(some 21), none, .mv (.t 3)⟩, ⟨(some 22), none, .mv (.t 4)⟩, ⟨(some 23), none, .mv (.t 5)⟩, ⟨(some 24), none, .bin .or (.t 23) (.c (.int .u8 32))⟩, ⟨(some 25), none, .ixaSl 1 (.t 21) (.t 22)⟩, ⟨none, none, .store 1 (.t 25) (.t 24)⟩])
    .skip))))
  (.region [⟨(some 26), none, .bin .add (.t 10) (.c (.int .i64 1))⟩, ⟨(some 10), none, .mv (.t 26)⟩]))))
def b_token_Lower_0 (L : FuncId → List V → V → Prop) (K : V → Heap → Prop) (N0 : Env → Heap → Prop) (e : Env) (h : Heap) : Prop :=
    (wi F L (.bin .lss (.c (e 10)) (.c (e 9))) E0 h fun v11 h =>
    (wb v11
    (k_token_Lower_1 L K N0 (upd e 11 v11) (e 3) (e 8) (e 10) h)
    (k_token_Lower_0 L K (e 3) h)))
theorem l_token_Lower_0 {L : FuncId → List V → V → Prop} {K : V → Heap → Prop} (I : Nat → Env → Heap → Prop) (hr : ∀ n e h, I n e h → b_token_Lower_0 L K (fun e' h' => ∃ m, m < n ∧ I m e' h') e h) {n : Nat} {e : Env} {h : Heap} (hi : I n e h) : Wl F L lc_token_Lower_0 (q_token_Lower_0 L K) e h :=
  wloopp (b := b_token_Lower_0 L K) I (fun _ _ _ => by kernel_rfl) hr hi
def p_token_Lower (L : FuncId → List V → V → Prop) (K : V → Heap → Prop) (a0 : V) (h : Heap) : Prop :=
    (wi F L (.toBytes (.c a0)) E0 h fun v7 h =>
    (wi F L (.len 1 (.c v7)) E0 h fun v9 h =>
    (Wl F L lc_token_Lower_0 (q_token_Lower_0 L K) (upd (upd (upd (upd (upd (upd (upd (enterE [a0]) 2 (.str [])) 6 a0) 7 v7) 3 v7) 8 v7) 9 v9) 10 (.int .i64 0)) h)))
theorem run_token_Lower {L : FuncId → List V → V → Prop} {K : V → Heap → Prop} {a0 : V} {h : Heap} (hp : p_token_Lower L K a0 h) : Cf F L i_token_Lower [a0] h K :=
  wcallp F_token_Lower (show 1 ≤ 29 by decide) (p := p_token_Lower L K a0 h) (by kernel_rfl) hp
def k__gatepost_control_rule__value_1 (L : FuncId → List V → V → Prop) (K : V → Heap → Prop) (v3 : V) (h : Heap) : Prop :=
    (wi F L (.faddr 3 (.c v3)) E0 h fun v20 h =>
    (wi F L (.load false 1 (.c v20)) E0 h fun v21 h =>
    (∃ v, some v21 = some v ∧ K v h)))
def k__gatepost_control_rule__value_0 (L : FuncId → List V → V → Prop) (K : V → Heap → Prop) (v1 v3 : V) (h : Heap) : Prop :=
    (wi F L (.call i_token_Number [(.c v1), (.c (.int .i64 2147483648))]) E0 h fun v15 h =>
    (wi F L (.ext 0 (.c v15)) E0 h fun v16 h =>
    (wi F L (.ext 1 (.c v15)) E0 h fun v17 h =>
    (wb v17
    (∃ v, some v16 = some v ∧ K v h)
    (k__gatepost_control_rule__value_1 L K v3 h)))))
def p__gatepost_control_rule__value (L : FuncId → List V → V → Prop) (K : V → Heap → Prop) (a0 a1 a2 : V) (h : Heap) : Prop :=
    (wi F L (.box (.c a0)) E0 h fun v3 h =>
    (wi F L (.un .not (.c a2)) E0 h fun v10 h =>
    (wb v10
    (wi F L (.faddr 2 (.c v3)) E0 h fun v11 h =>
    (wi F L (.load false 1 (.c v11)) E0 h fun v12 h =>
    (∃ v, some v12 = some v ∧ K v h)))
    (k__gatepost_control_rule__value_0 L K a1 v3 h))))
theorem run__gatepost_control_rule__value {L : FuncId → List V → V → Prop} {K : V → Heap → Prop} {a0 a1 a2 : V} {h : Heap} (hp : p__gatepost_control_rule__value L K a0 a1 a2 h) : Cf F L i__gatepost_control_rule__value [a0, a1, a2] h K :=
  wcallp F__gatepost_control_rule__value (show 3 ≤ 22 by decide) (p := p__gatepost_control_rule__value L K a0 a1 a2 h) (by kernel_rfl) hp
def p_gatepostref08_None (L : FuncId → List V → V → Prop) (K : V → Heap → Prop) (h : Heap) : Prop :=
    (wi F L (.boxz [(.bool false), (.bool false), (.bool false), (.bool false), (.bool false), (.bool false), (.bool false), (.int .i64 0), (.int .i64 0), (.int .i64 0), (.int .i64 0), (.int .i64 0), (.int .i64 0)]) E0 h fun v0 h =>
    (wi F L (.build [(.bool false), (.bool false), (.bool false), (.bool false), (.bool false), (.bool false), (.bool false), (.int .i64 0), (.int .i64 0), (.int .i64 0), (.int .i64 0), (.int .i64 0), (.int .i64 0)] [(7, 1, (.c (.int .i64 (-1)))), (8, 1, (.c (.int .i64 (-1)))), (9, 1, (.c (.int .i64 (-1)))), (10, 1, (.c (.int .i64 (-1)))), (11, 1, (.c (.int .i64 (-1)))), (12, 1, (.c (.int .i64 (-1))))]) E0 h fun v1 h =>
    (wi F L (.store 13 (.c v0) (.c v1)) E0 h fun _ h =>
    (∃ v, resultsV h (enterE [v0]) [.cell 0 true 13] = some v ∧ K v h))))
theorem run_gatepostref08_None {L : FuncId → List V → V → Prop} {K : V → Heap → Prop} {h : Heap} (hp : p_gatepostref08_None L K  h) : Cf F L i_gatepostref08_None [] h K :=
  wcallp F_gatepostref08_None (show 0 ≤ 2 by decide) (p := p_gatepostref08_None L K  h) (by kernel_rfl) hp
def k_gatepostref01_Split_2 (L : FuncId → List V → V → Prop) (K : V → Heap → Prop) (v4 : V) (h : Heap) : Prop :=
    (∃ v, resultsV h (enterE [v4, (.bool true)]) [.tmp 0, .tmp 1] = some v ∧ K v h)
def k_gatepostref01_Split_1 (L : FuncId → List V → V → Prop) (K : V → Heap → Prop) (v4 v5 : V) (h : Heap) : Prop :=
    (wi F L (.bin .neq (.c v5) (.c (.str []))) E0 h fun v68 h =>
    (wb v68
    (wi F L (.bsl 1 [(.c v5)]) E0 h fun v71 h =>
    (wi F L (.app 1 16 false (.c v4) (.c v71)) E0 h fun v72 h =>
    (k_gatepostref01_Split_2 L K v72 h)))
    (k_gatepostref01_Split_2 L K v4 h)))
def k_gatepostref01_Split_0 (L : FuncId → List V → V → Prop) (K : V → Heap → Prop) (v4 v5 v6 : V) (h : Heap) : Prop :=
    (wi F L (.call i_gatepostref01_Trim [(.c v5)]) E0 h fun v65 h =>
    (wb v6
    (∃ v, resultsV h (enterE [.nsl, (.bool false)]) [.tmp 0, .tmp 1] = some v ∧ K v h)
    (k_gatepostref01_Split_1 L K v4 v65 h)))
def k_gatepostref01_Split_4 (L : FuncId → List V → V → Prop) (K : V → Heap → Prop) (N0 : Env → Heap → Prop) (e : Env) (v7 : V) (h : Heap) : Prop :=
    (wi F L (.bin .add (.c v7) (.c (.int .i64 1))) E0 h fun v14 h =>
    (N0 (upd (upd (upd e 13 v7) 14 v14) 7 v14) h))
def k_gatepostref01_Split_6 (L : FuncId → List V → V → Prop) (K : V → Heap → Prop) (N0 : Env → Heap → Prop) (e : Env) (v0 v5 v6 v7 v8 : V) (h : Heap) : Prop :=
    (wg v6 true (wi F L (.mv (.c v8)) E0 h) h fun v45 h =>
    (wg v6 true (wi F L (.bin .eql (.c v45) (.c (.int .u8 92))) E0 h) h fun v46 h =>
    (wi F L (.pick (.c v6) (.c v46) (.c (.bool false))) E0 h fun v47 h =>
    (wg v47 true (wi F L (.mv (.c v7)) E0 h) h fun v49 h =>
    (wg v47 true (wi F L (.bin .add (.c v49) (.c (.int .i64 1))) E0 h) h fun v50 h =>
    (wg v47 true (wi F L (.mv (.c v0)) E0 h) h fun v51 h =>
    (wg v47 true (wi F L (.len 0 (.c v51)) E0 h) h fun v52 h =>
    (wg v47 true (wi F L (.bin .lss (.c v50) (.c v52)) E0 h) h fun v53 h =>
    (wi F L (.pick (.c v47) (.c v53) (.c (.bool false))) E0 h fun v54 h =>
    (wb v54
    (wi F L (.bin .add (.c v7) (.c (.int .i64 1))) E0 h fun v56 h =>
    (wi F L (.bin .add (.c v56) (.c (.int .i64 1))) E0 h fun v61 h =>
    (wi F L (.slstr (.c v0) (some (.c v56)) (some (.c v61))) E0 h fun v62 h =>
    (wi F L (.bin .add (.c v5) (.c v62)) E0 h fun v63 h =>
    (k_gatepostref01_Split_4 L K N0 (upd (upd (upd (upd (upd (upd (upd (upd (upd (upd (upd (upd (upd (upd (upd (upd (upd (upd (upd (upd (upd (upd (upd e 43 v6) 44 v6) 45 v45) 46 v46) 47 v47) 48 v47) 49 v49) 50 v50) 51 v51) 52 v52) 53 v53) 54 v54) 55 v7) 56 v56) 7 v56) 57 v5) 58 v0) 59 v56) 60 v56) 61 v61) 62 v62) 63 v63) 5 v63) v56 h)))))
    (k_gatepostref01_Split_4 L K N0 (upd (upd (upd (upd (upd (upd (upd (upd (upd (upd (upd (upd e 43 v6) 44 v6) 45 v45) 46 v46) 47 v47) 48 v47) 49 v49) 50 v50) 51 v51) 52 v52) 53 v53) 54 v54) v7 h)))))))))))
def k_gatepostref01_Split_5 (L : FuncId → List V → V → Prop) (K : V → Heap → Prop) (N0 : Env → Heap → Prop) (e : Env) (v0 v5 v6 v7 v8 : V) (h : Heap) : Prop :=
    (wi F L (.bin .add (.c v7) (.c (.int .i64 1))) E0 h fun v36 h =>
    (wi F L (.slstr (.c v0) (some (.c v7)) (some (.c v36))) E0 h fun v37 h =>
    (wi F L (.bin .add (.c v5) (.c v37)) E0 h fun v38 h =>
    (wi F L (.bin .eql (.c v8) (.c (.int .u8 34))) E0 h fun v40 h =>
    (wb v40
    (wi F L (.un .not (.c v6)) E0 h fun v42 h =>
    (k_gatepostref01_Split_6 L K N0 (upd (upd (upd (upd (upd (upd (upd (upd (upd (upd (upd (upd (upd e 32 v5) 33 v0) 34 v7) 35 v7) 36 v36) 37 v37) 38 v38) 5 v38) 39 v8) 40 v40) 41 v6) 42 v42) 6 v42) v0 v38 v42 v7 v8 h))
    (k_gatepostref01_Split_6 L K N0 (upd (upd (upd (upd (upd (upd (upd (upd (upd (upd e 32 v5) 33 v0) 34 v7) 35 v7) 36 v36) 37 v37) 38 v38) 5 v38) 39 v8) 40 v40) v0 v38 v6 v7 v8 h))))))
def k_gatepostref01_Split_7 (L : FuncId → List V → V → Prop) (K : V → Heap → Prop) (N0 : Env → Heap → Prop) (e : Env) (v7 : V) (h : Heap) : Prop :=
    (k_gatepostref01_Split_4 L K N0 (upd e 5 (.str [])) v7 h)
def k_gatepostref01_Split_3 (L : FuncId → List V → V → Prop) (K : V → Heap → Prop) (N0 : Env → Heap → Prop) (e : Env) (v0 v4 v5 v6 v7 : V) (h : Heap) : Prop :=
    (wi F L (.ixStr (.c v0) (.c v7)) E0 h fun v17 h =>
    (wi F L (.un .not (.c v6)) E0 h fun v19 h =>
    (wg v19 true (wi F L (.mv (.c v17)) E0 h) h fun v21 h =>
    (wg v19 true (wi F L (.bin .eql (.c v21) (.c (.int .u8 44))) E0 h) h fun v22 h =>
    (wi F L (.pick (.c v19) (.c v22) (.c (.bool false))) E0 h fun v23 h =>
    (wb v23
    (wi F L (.call i_gatepostref01_Trim [(.c v5)]) E0 h fun v25 h =>
    (wi F L (.bin .neq (.c v25) (.c (.str []))) E0 h fun v27 h =>
    (wb v27
    (wi F L (.bsl 1 [(.c v25)]) E0 h fun v30 h =>
    (wi F L (.app 1 16 false (.c v4) (.c v30)) E0 h fun v31 h =>
    (k_gatepostref01_Split_7 L K N0 (upd (upd (upd (upd (upd (upd (upd (upd (upd (upd (upd (upd (upd (upd (upd (upd (upd (upd (upd (upd e 15 v0) 16 v7) 17 v17) 8 v17) 18 v6) 19 v19) 20 v19) 21 v21) 22 v22) 23 v23) 24 v5) 25 v25) 5 v25) 26 v25) 27 v27) 28 v4) 29 v25) 30 v30) 31 v31) 4 v31) v7 h)))
    (k_gatepostref01_Split_7 L K N0 (upd (upd (upd (upd (upd (upd (upd (upd (upd (upd (upd (upd (upd (upd (upd e 15 v0) 16 v7) 17 v17) 8 v17) 18 v6) 19 v19) 20 v19) 21 v21) 22 v22) 23 v23) 24 v5) 25 v25) 5 v25) 26 v25) 27 v27) v7 h))))
    (k_gatepostref01_Split_5 L K N0 (upd (upd (upd (upd (upd (upd (upd (upd (upd (upd e 15 v0) 16 v7) 17 v17) 8 v17) 18 v6) 19 v19) 20 v19) 21 v21) 22 v22) 23 v23) v0 v5 v6 v7 v17 h)))))))
def q_gatepostref01_Split_0 (L : FuncId → List V → V → Prop) (K : V → Heap → Prop) : X → Env → Heap → Prop := (fun x => (seqX (fun e h => k_gatepostref01_Split_0 L K (e 4) (e 5) (e 6) h) (retX c_gatepostref01_Split.results K)) (X.out 0 x))
def lc_gatepostref01_Split_0 : C :=
  (.seq (.seq (.region [⟨(some 9), none, .mv (.t 7)⟩, ⟨(some 10), none, .mv (.t 0)⟩, ⟨(some 11), none, .len 0 (.t 10)⟩, ⟨(some 12), none, .bin .lss (.t 9) (.t 11)⟩])
  (.cond (.t 12)
    .skip
    (.exit 0)))
  (.seq (.block 1 (.seq (.region [⟨(some 15), none, .mv (.t 0)⟩, ⟨(some 16), none, .mv (.t 7)⟩, ⟨(some 17), none, .ixStr (.t 15) (.t 16)⟩, ⟨(some 8), none, .mv (.t 17)⟩])
  (.seq (.seq (.region [⟨(some 18), none, .mv (.t 6)⟩, ⟨(some 19), none, .un .not (.t 18)⟩, ⟨(some 20), none, .mv (.t 19)⟩, ⟨(some 21), (some (20, true)), .mv (.t 8)⟩, ⟨(some 22), (some (20, true)), .bin .eql (.t 21) (.c (.int .u8 44))⟩, ⟨(some 23), none, .pick (.t 20) (.t 22) (.c (.bool false))⟩])
  (.cond (.t 23)
    (.seq (.region [⟨(some 24), none, .mv (.t 5)⟩, ⟨(some 25), none, .call i_gatepostref01_Trim [(.t 24)]⟩, ⟨(some 5), none, .mv (.t 25)⟩])
    (.seq (.seq (.region [⟨(some 26), none, .mv (.t 5)⟩, ⟨(some 27), none, .bin .neq (.t 26) (.c (.str []))⟩])
    (.cond (.t 27)
      (.region [⟨(some 28), none, .mv (.t 4)⟩, ⟨(some 29), none, .mv (.t 5)⟩, ⟨(some 30), none, .bsl 1 [(.t 29)]⟩, ⟨(some 31), none, .app 1 16 false (.t 28) (.t 30)⟩, ⟨(some 4), none, .mv (.t 31)⟩])
      .skip))
    (.seq (.region [⟨(some 5), none, .mv (.c (.str []))⟩])
    (.exit 1))))
    .skip))
  (.seq (.region [⟨(some 32), none, .mv (.t 5)⟩, ⟨(some 33), none, .mv (.t 0)⟩, ⟨(some 34), none, .mv (.t 7)⟩, ⟨(some 35), none, .mv (.t 7)⟩, ⟨(some 36), none, .bin .add (.t 35) (.c (.int .i64 1))⟩, ⟨(some 37), none, .slstr (.t 33) (some (.t 34)) (some (.t 36))⟩, ⟨(some 38), none, .bin .add (.t 32) (.t 37)⟩, ⟨(some 5), none, .mv (.t 38)⟩])
  (.seq (.seq (.region [⟨(some 39), none, .mv (.t 8)⟩, ⟨(some 40), none, .bin .eql (.t 39) (.c (.int .u8 34))⟩])
  (.cond (.t 40)
    (.region [⟨(some 41), none, .mv (.t 6)⟩, ⟨(some 42), none, .un .not (.t 41)⟩, ⟨(some 6), none, .mv (.t 42)⟩])
    .skip))
  (.seq (.region [⟨(some 43), none, .mv (.t 6)⟩, ⟨(some 44), none, .mv (.t 43)⟩, ⟨(some 45), (some (44, true)), .mv (.t 8)⟩, ⟨(some 46), (some (44, true)), .bin .eql (.t 45) (.c (.int .u8 92))⟩, ⟨(some 47), none, .pick (.t 44) (.t 46) (.c (.bool false))⟩, ⟨(some 48), none, .mv (.t 47)⟩, ⟨(some 49), (some (48, true)), .mv (.t 7)⟩, ⟨(some 50), (some (48, true)), .bin .add (.t 49) (.c (.int .i64 1))⟩, ⟨(some 51), (some (48, true)), .mv (.t 0)⟩, ⟨(some 52), (some (48, true)), .len 0 (.t 51)⟩, ⟨(some 53), (some (48, true)), .bin .lss (.t 50) (.t 52)⟩, ⟨(some 54), none, .pick (.t 48) (.t 53) (.c (.bool false))⟩])
  (.cond (.t 54)
    (.seq (.region [⟨(some 55), none, .mv (.t 7)⟩, ⟨(some 56), none, .bin .add (.t 55) (.c (.int .i64 1))⟩, ⟨(some 7), none, .mv (.t 56)⟩])
    (.region [⟨(some 57), none, .mv (.t 5)⟩, ⟨(some 58), none, .mv (.t 0)⟩, ⟨(some 59), none, .mv (.t 7)⟩, ⟨(some 60), none, .mv (.t 7)⟩, ⟨(some 61), none, .bin .add (.t 60) (.c (.int .i64 1))⟩, ⟨(some 62), none, .slstr (.t 58) (some (.t 59)) (some (.t 61))⟩, ⟨(some 63), none, .bin .add (.t 57) (.t 62)⟩, ⟨(some 5), none, .mv (.t 63)⟩]))
    .skip)))))))
  (.region [⟨(some 13), none, .mv (.t 7)⟩, ⟨(some 14), none, .bin .add (.t 13) (.c (.int .i64 1))⟩, ⟨(some 7), none, .mv (.t 14)⟩])))
def b_gatepostref01_Split_0 (L : FuncId → List V → V → Prop) (K : V → Heap → Prop) (N0 : Env → Heap → Prop) (e : Env) (h : Heap) : Prop :=
    (wi F L (.len 0 (.c (e 0))) E0 h fun v11 h =>
    (wi F L (.bin .lss (.c (e 7)) (.c v11)) E0 h fun v12 h =>
    (wb v12
    (k_gatepostref01_Split_3 L K N0 (upd (upd (upd (upd e 9 (e 7)) 10 (e 0)) 11 v11) 12 v12) (e 0) (e 4) (e 5) (e 6) (e 7) h)
    (k_gatepostref01_Split_0 L K (e 4) (e 5) (e 6) h))))
theorem l_gatepostref01_Split_0 {L : FuncId → List V → V → Prop} {K : V → Heap → Prop} (I : Nat → Env → Heap → Prop) (hr : ∀ n e h, I n e h → b_gatepostref01_Split_0 L K (fun e' h' => ∃ m, m < n ∧ I m e' h') e h) {n : Nat} {e : Env} {h : Heap} (hi : I n e h) : Wl F L lc_gatepostref01_Split_0 (q_gatepostref01_Split_0 L K) e h :=
  wloopp (b := b_gatepostref01_Split_0 L K) I (fun _ _ _ => by kernel_rfl) hr hi
def p_gatepostref01_Split (L : FuncId → List V → V → Prop) (K : V → Heap → Prop) (a0 : V) (h : Heap) : Prop :=
    (Wl F L lc_gatepostref01_Split_0 (q_gatepostref01_Split_0 L K) (upd (upd (upd (upd (upd (upd (enterE [a0]) 2 .nsl) 3 (.bool false)) 4 .nsl) 5 (.str [])) 6 (.bool false)) 7 (.int .i64 0)) h)
theorem run_gatepostref01_Split {L : FuncId → List V → V → Prop} {K : V → Heap → Prop} {a0 : V} {h : Heap} (hp : p_gatepostref01_Split L K a0 h) : Cf F L i_gatepostref01_Split [a0] h K :=
  wcallp F_gatepostref01_Split (show 1 ≤ 74 by decide) (p := p_gatepostref01_Split L K a0 h) (by kernel_rfl) hp
def k_gatepostref01_Pair_4 (L : FuncId → List V → V → Prop) (K : V → Heap → Prop) (v0 v6 v8 : V) (h : Heap) : Prop :=
    (wi F L (.slstr (.c v0) none (some (.c v6))) E0 h fun v51 h =>
    (∃ v, resultsV h (enterE [v51, v8, (.bool true), (.bool true)]) [.tmp 0, .tmp 1, .tmp 2, .tmp 3] = some v ∧ K v h))
def k_gatepostref01_Pair_3 (L : FuncId → List V → V → Prop) (K : V → Heap → Prop) (v0 v6 v7 : V) (h : Heap) : Prop :=
    (wi F L (.call i_gatepostref01_unquote [(.c v7)]) E0 h fun v44 h =>
    (wi F L (.ext 0 (.c v44)) E0 h fun v45 h =>
    (wi F L (.ext 1 (.c v44)) E0 h fun v46 h =>
    (wi F L (.un .not (.c v46)) E0 h fun v48 h =>
    (wb v48
    (∃ v, resultsV h (enterE [(.str []), (.str []), (.bool false), (.bool false)]) [.tmp 0, .tmp 1, .tmp 2, .tmp 3] = some v ∧ K v h)
    (k_gatepostref01_Pair_4 L K v0 v6 v45 h))))))
def k_gatepostref01_Pair_2 (L : FuncId → List V → V → Prop) (K : V → Heap → Prop) (v0 v6 : V) (h : Heap) : Prop :=
    (wi F L (.bin .add (.c v6) (.c (.int .i64 1))) E0 h fun v34 h =>
    (wi F L (.slstr (.c v0) (some (.c v34)) none) E0 h fun v35 h =>
    (wi F L (.call i_gatepostref01_Is [(.c v35)]) E0 h fun v37 h =>
    (wb v37
    (wi F L (.slstr (.c v0) none (some (.c v6))) E0 h fun v40 h =>
    (∃ v, resultsV h (enterE [v40, v35, (.bool true), (.bool true)]) [.tmp 0, .tmp 1, .tmp 2, .tmp 3] = some v ∧ K v h))
    (k_gatepostref01_Pair_3 L K v0 v6 v35 h)))))
def k_gatepostref01_Pair_1 (L : FuncId → List V → V → Prop) (K : V → Heap → Prop) (v0 v6 : V) (h : Heap) : Prop :=
    (wi F L (.len 0 (.c v0)) E0 h fun v29 h =>
    (wi F L (.bin .eql (.c v6) (.c v29)) E0 h fun v30 h =>
    (wb v30
    (∃ v, resultsV h (enterE [v0, (.str []), (.bool false), (.bool true)]) [.tmp 0, .tmp 1, .tmp 2, .tmp 3] = some v ∧ K v h)
    (k_gatepostref01_Pair_2 L K v0 v6 h))))
def k_gatepostref01_Pair_0 (L : FuncId → List V → V → Prop) (K : V → Heap → Prop) (v0 v6 : V) (h : Heap) : Prop :=
    (wi F L (.slstr (.c v0) none (some (.c v6))) E0 h fun v24 h =>
    (wi F L (.call i_gatepostref01_Is [(.c v24)]) E0 h fun v25 h =>
    (wi F L (.un .not (.c v25)) E0 h fun v26 h =>
    (wb v26
    (∃ v, resultsV h (enterE [(.str []), (.str []), (.bool false), (.bool false)]) [.tmp 0, .tmp 1, .tmp 2, .tmp 3] = some v ∧ K v h)
    (k_gatepostref01_Pair_1 L K v0 v6 h)))))
def k_gatepostref01_Pair_5 (L : FuncId → List V → V → Prop) (K : V → Heap → Prop) (N0 : Env → Heap → Prop) (e : Env) (v6 : V) (h : Heap) : Prop :=
    (wi F L (.bin .add (.c v6) (.c (.int .i64 1))) E0 h fun v21 h =>
    (N0 (upd (upd (upd e 20 v6) 21 v21) 6 v21) h))
def q_gatepostref01_Pair_0 (L : FuncId → List V → V → Prop) (K : V → Heap → Prop) : X → Env → Heap → Prop := (fun x => (seqX (fun e h => k_gatepostref01_Pair_0 L K (e 0) (e 6) h) (retX c_gatepostref01_Pair.results K)) (X.out 0 x))
def lc_gatepostref01_Pair_0 : C :=
  (.seq (.seq (.region [⟨(some 10), none, .mv (.t 6)⟩, ⟨(some 11), none, .mv (.t 0)⟩, ⟨(some 12), none, .len 0 (.t 11)⟩, ⟨(some 13), none, .bin .lss (.t 10) (.t 12)⟩, ⟨(some 14), none, .mv (.t 13)⟩, ⟨(some 15), (some (14, true)), .mv (.t 0)⟩, ⟨(some 16), (some (14, true)), .mv (.t 6)⟩, ⟨(some 17), (some (14, true)), .ixStr (.t 15) (.t 16)⟩, ⟨(some 18), (some (14, true)), .bin .neq (.t 17) (.c (.int .u8 61))⟩, ⟨(some 19), none, .pick (.t 14) (.t 18) (.c (.bool false))⟩])
  (.cond (.t 19)
    .skip
    (.exit 0)))
  (.block 1 (.region [⟨(some 20), none, .mv (.t 6)⟩, ⟨(some 21), none, .bin .add (.t 20) (.c (.int .i64 1))⟩, ⟨(some 6), none, .mv (.t 21)⟩])))
def b_gatepostref01_Pair_0 (L : FuncId → List V → V → Prop) (K : V → Heap → Prop) (N0 : Env → Heap → Prop) (e : Env) (h : Heap) : Prop :=
    (wi F L (.len 0 (.c (e 0))) E0 h fun v12 h =>
    (wi F L (.bin .lss (.c (e 6)) (.c v12)) E0 h fun v13 h =>
    (wg v13 true (wi F L (.mv (.c (e 0))) E0 h) h fun v15 h =>
    (wg v13 true (wi F L (.mv (.c (e 6))) E0 h) h fun v16 h =>
    (wg v13 true (wi F L (.ixStr (.c v15) (.c v16)) E0 h) h fun v17 h =>
    (wg v13 true (wi F L (.bin .neq (.c v17) (.c (.int .u8 61))) E0 h) h fun v18 h =>
    (wi F L (.pick (.c v13) (.c v18) (.c (.bool false))) E0 h fun v19 h =>
    (wb v19
    (k_gatepostref01_Pair_5 L K N0 (upd (upd (upd (upd (upd (upd (upd (upd (upd (upd e 10 (e 6)) 11 (e 0)) 12 v12) 13 v13) 14 v13) 15 v15) 16 v16) 17 v17) 18 v18) 19 v19) (e 6) h)
    (k_gatepostref01_Pair_0 L K (e 0) (e 6) h)))))))))
theorem l_gatepostref01_Pair_0 {L : FuncId → List V → V → Prop} {K : V → Heap → Prop} (I : Nat → Env → Heap → Prop) (hr : ∀ n e h, I n e h → b_gatepostref01_Pair_0 L K (fun e' h' => ∃ m, m < n ∧ I m e' h') e h) {n : Nat} {e : Env} {h : Heap} (hi : I n e h) : Wl F L lc_gatepostref01_Pair_0 (q_gatepostref01_Pair_0 L K) e h :=
  wloopp (b := b_gatepostref01_Pair_0 L K) I (fun _ _ _ => by kernel_rfl) hr hi
def p_gatepostref01_Pair (L : FuncId → List V → V → Prop) (K : V → Heap → Prop) (a0 : V) (h : Heap) : Prop :=
    (Wl F L lc_gatepostref01_Pair_0 (q_gatepostref01_Pair_0 L K) (upd (upd (upd (upd (upd (enterE [a0]) 2 (.str [])) 3 (.str [])) 4 (.bool false)) 5 (.bool false)) 6 (.int .i64 0)) h)
theorem run_gatepostref01_Pair {L : FuncId → List V → V → Prop} {K : V → Heap → Prop} {a0 : V} {h : Heap} (hp : p_gatepostref01_Pair L K a0 h) : Cf F L i_gatepostref01_Pair [a0] h K :=
  wcallp F_gatepostref01_Pair (show 1 ≤ 53 by decide) (p := p_gatepostref01_Pair L K a0 h) (by kernel_rfl) hp
def k_gatepostref01_Number_2 (L : FuncId → List V → V → Prop) (K : V → Heap → Prop) (v6 : V) (h : Heap) : Prop :=
    (∃ v, resultsV h (enterE [v6, (.bool true)]) [.tmp 0, .tmp 1] = some v ∧ K v h)
def k_gatepostref01_Number_4 (L : FuncId → List V → V → Prop) (K : V → Heap → Prop) (N0 : Env → Heap → Prop) (e : Env) (v8 : V) (h : Heap) : Prop :=
    (wi F L (.bin .add (.c v8) (.c (.int .i64 1))) E0 h fun v38 h =>
    (N0 (upd (upd (upd e 37 v8) 38 v38) 8 v38) h))
def k_gatepostref01_Number_5 (L : FuncId → List V → V → Prop) (K : V → Heap → Prop) (N0 : Env → Heap → Prop) (e : Env) (v6 v8 v9 : V) (h : Heap) : Prop :=
    (wi F L (.bin .mul (.c v6) (.c (.int .i64 10))) E0 h fun v57 h =>
    (wi F L (.bin .add (.c v57) (.c v9)) E0 h fun v59 h =>
    (k_gatepostref01_Number_4 L K N0 (upd (upd (upd (upd (upd e 56 v6) 57 v57) 58 v9) 59 v59) 6 v59) v8 h)))
def k_gatepostref01_Number_3 (L : FuncId → List V → V → Prop) (K : V → Heap → Prop) (N0 : Env → Heap → Prop) (e : Env) (v0 v1 v6 v8 : V) (h : Heap) : Prop :=
    (wi F L (.ixStr (.c v0) (.c v8)) E0 h fun v41 h =>
    (wi F L (.bin .sub (.c v41) (.c (.int .u8 48))) E0 h fun v42 h =>
    (wi F L (.toInt .i64 (.c v42)) E0 h fun v43 h =>
    (wi F L (.bin .sub (.c v1) (.c v43)) E0 h fun v47 h =>
    (wi F L (.bin .quo (.c v47) (.c (.int .i64 10))) E0 h fun v48 h =>
    (wi F L (.bin .gtr (.c v6) (.c v48)) E0 h fun v49 h =>
    (wg v49 false (wi F L (.mv (.c v1)) E0 h) h fun v51 h =>
    (wg v49 false (wi F L (.mv (.c v43)) E0 h) h fun v52 h =>
    (wg v49 false (wi F L (.bin .lss (.c v51) (.c v52)) E0 h) h fun v53 h =>
    (wi F L (.pick (.c v49) (.c (.bool true)) (.c v53)) E0 h fun v54 h =>
    (wb v54
    (∃ v, resultsV h (enterE [v1, (.bool true)]) [.tmp 0, .tmp 1] = some v ∧ K v h)
    (k_gatepostref01_Number_5 L K N0 (upd (upd (upd (upd (upd (upd (upd (upd (upd (upd (upd (upd (upd (upd (upd (upd (upd e 39 v0) 40 v8) 41 v41) 42 v42) 43 v43) 9 v43) 44 v6) 45 v1) 46 v43) 47 v47) 48 v48) 49 v49) 50 v49) 51 v51) 52 v52) 53 v53) 54 v54) v6 v8 v43 h))))))))))))
def q_gatepostref01_Number_0 (L : FuncId → List V → V → Prop) (K : V → Heap → Prop) : X → Env → Heap → Prop := (fun x => (seqX (fun e h => k_gatepostref01_Number_2 L K (e 6) h) (retX c_gatepostref01_Number.results K)) (X.out 2 x))
def lc_gatepostref01_Number_0 : C :=
  (.seq (.seq (.region [⟨(some 33), none, .mv (.t 8)⟩, ⟨(some 34), none, .mv (.t 0)⟩, ⟨(some 35), none, .len 0 (.t 34)⟩, ⟨(some 36), none, .bin .lss (.t 33) (.t 35)⟩])
  (.cond (.t 36)
    .skip
    (.exit 2)))
  (.seq (.block 3 (.seq (.region [⟨(some 39), none, .mv (.t 0)⟩, ⟨(some 40), none, .mv (.t 8)⟩, ⟨(some 41), none, .ixStr (.t 39) (.t 40)⟩, ⟨(some 42), none, .bin .sub (.t 41) (.c (.int .u8 48))⟩, ⟨(some 43), none, .toInt .i64 (.t 42)⟩, ⟨(some 9), none, .mv (.t 43)⟩])
  (.seq (.seq (.region [⟨(some 44), none, .mv (.t 6)⟩, ⟨(some 45), none, .mv (.t 1)⟩, ⟨(some 46), none, .mv (.t 9)⟩, ⟨(some 47), none, .bin .sub (.t 45) (.t 46)⟩, ⟨(some 48), none, .bin .quo (.t 47) (.c (.int .i64 10))⟩, ⟨(some 49), none, .bin .gtr (.t 44) (.t 48)⟩, ⟨(some 50), none, .mv (.t 49)⟩, ⟨(some 51), (some (50, false)), .mv (.t 1)⟩, ⟨(some 52), (some (50, false)), .mv (.t 9)⟩, ⟨(some 53), (some (50, false)), .bin .lss (.t 51) (.t 52)⟩, ⟨(some 54), none, .pick (.t 50) (.c (.bool true)) (.t 53)⟩])
  (.cond (.t 54)
    (.seq (.region [⟨(some 55), none, .mv (.t 1)⟩, ⟨(some 4), none, .mv (.t 55)⟩, ⟨(some 5), none, .mv (.c (.bool true))⟩])
    .ret)
    .skip))
  (.region [⟨(some 56), none, .mv (.t 6)⟩, ⟨(some 57), none, .bin .mul (.t 56) (.c (.int .i64 10))⟩, ⟨(some 58), none, .mv (.t 9)⟩, ⟨(some 59), none, .bin .add (.t 57) (.t 58)⟩, ⟨(some 6), none, .mv (.t 59)⟩]))))
  (.region [⟨(some 37), none, .mv (.t 8)⟩, ⟨(some 38), none, .bin .add (.t 37) (.c (.int .i64 1))⟩, ⟨(some 8), none, .mv (.t 38)⟩])))
def b_gatepostref01_Number_0 (L : FuncId → List V → V → Prop) (K : V → Heap → Prop) (N0 : Env → Heap → Prop) (e : Env) (h : Heap) : Prop :=
    (wi F L (.len 0 (.c (e 0))) E0 h fun v35 h =>
    (wi F L (.bin .lss (.c (e 8)) (.c v35)) E0 h fun v36 h =>
    (wb v36
    (k_gatepostref01_Number_3 L K N0 (upd (upd (upd (upd e 33 (e 8)) 34 (e 0)) 35 v35) 36 v36) (e 0) (e 1) (e 6) (e 8) h)
    (k_gatepostref01_Number_2 L K (e 6) h))))
theorem l_gatepostref01_Number_0 {L : FuncId → List V → V → Prop} {K : V → Heap → Prop} (I : Nat → Env → Heap → Prop) (hr : ∀ n e h, I n e h → b_gatepostref01_Number_0 L K (fun e' h' => ∃ m, m < n ∧ I m e' h') e h) {n : Nat} {e : Env} {h : Heap} (hi : I n e h) : Wl F L lc_gatepostref01_Number_0 (q_gatepostref01_Number_0 L K) e h :=
  wloopp (b := b_gatepostref01_Number_0 L K) I (fun _ _ _ => by kernel_rfl) hr hi
def k_gatepostref01_Number_1 (L : FuncId → List V → V → Prop) (K : V → Heap → Prop) (e : Env) (h : Heap) : Prop :=
    (Wl F L lc_gatepostref01_Number_0 (q_gatepostref01_Number_0 L K) (upd e 8 (.int .i64 0)) h)
def k_gatepostref01_Number_7 (L : FuncId → List V → V → Prop) (K : V → Heap → Prop) (N0 : Env → Heap → Prop) (e : Env) (v7 : V) (h : Heap) : Prop :=
    (wi F L (.bin .add (.c v7) (.c (.int .i64 1))) E0 h fun v22 h =>
    (N0 (upd (upd (upd e 21 v7) 22 v22) 7 v22) h))
def k_gatepostref01_Number_6 (L : FuncId → List V → V → Prop) (K : V → Heap → Prop) (N0 : Env → Heap → Prop) (e : Env) (v0 v7 : V) (h : Heap) : Prop :=
    (wi F L (.ixStr (.c v0) (.c v7)) E0 h fun v25 h =>
    (wi F L (.bin .lss (.c v25) (.c (.int .u8 48))) E0 h fun v26 h =>
    (wg v26 false (wi F L (.mv (.c v0)) E0 h) h fun v28 h =>
    (wg v26 false (wi F L (.mv (.c v7)) E0 h) h fun v29 h =>
    (wg v26 false (wi F L (.ixStr (.c v28) (.c v29)) E0 h) h fun v30 h =>
    (wg v26 false (wi F L (.bin .gtr (.c v30) (.c (.int .u8 57))) E0 h) h fun v31 h =>
    (wi F L (.pick (.c v26) (.c (.bool true)) (.c v31)) E0 h fun v32 h =>
    (wb v32
    (∃ v, resultsV h (enterE [(.int .i64 0), (.bool false)]) [.tmp 0, .tmp 1] = some v ∧ K v h)
    (k_gatepostref01_Number_7 L K N0 (upd (upd (upd (upd (upd (upd (upd (upd (upd (upd e 23 v0) 24 v7) 25 v25) 26 v26) 27 v26) 28 v28) 29 v29) 30 v30) 31 v31) 32 v32) v7 h)))))))))
def q_gatepostref01_Number_1 (L : FuncId → List V → V → Prop) (K : V → Heap → Prop) : X → Env → Heap → Prop := (fun x => (seqX (fun e h => k_gatepostref01_Number_1 L K e  h) (retX c_gatepostref01_Number.results K)) (X.out 0 x))
def lc_gatepostref01_Number_1 : C :=
  (.seq (.seq (.region [⟨(some 17), none, .mv (.t 7)⟩, ⟨(some 18), none, .mv (.t 0)⟩, ⟨(some 19), none, .len 0 (.t 18)⟩, ⟨(some 20), none, .bin .lss (.t 17) (.t 19)⟩])
  (.cond (.t 20)
    .skip
    (.exit 0)))
  (.seq (.block 1 (.seq (.region [⟨(some 23), none, .mv (.t 0)⟩, ⟨(some 24), none, .mv (.t 7)⟩, ⟨(some 25), none, .ixStr (.t 23) (.t 24)⟩, ⟨(some 26), none, .bin .lss (.t 25) (.c (.int .u8 48))⟩, ⟨(some 27), none, .mv (.t 26)⟩, ⟨(some 28), (some (27, false)), .mv (.t 0)⟩, ⟨(some 29), (some (27, false)), .mv (.t 7)⟩, ⟨(some 30), (some (27, false)), .ixStr (.t 28) (.t 29)⟩, ⟨(some 31), (some (27, false)), .bin .gtr (.t 30) (.c (.int .u8 57))⟩, ⟨(some 32), none, .pick (.t 27) (.c (.bool true)) (.t 31)⟩])
  (.cond (.t 32)
    (.seq (.region [⟨(some 4), none, .mv (.c (.int .i64 0))⟩, ⟨(some 5), none, .mv (.c (.bool false))⟩])
    .ret)
    .skip)))
  (.region [⟨(some 21), none, .mv (.t 7)⟩, ⟨(some 22), none, .bin .add (.t 21) (.c (.int .i64 1))⟩, ⟨(some 7), none, .mv (.t 22)⟩])))
def b_gatepostref01_Number_1 (L : FuncId → List V → V → Prop) (K : V → Heap → Prop) (N0 : Env → Heap → Prop) (e : Env) (h : Heap) : Prop :=
    (wi F L (.len 0 (.c (e 0))) E0 h fun v19 h =>
    (wi F L (.bin .lss (.c (e 7)) (.c v19)) E0 h fun v20 h =>
    (wb v20
    (k_gatepostref01_Number_6 L K N0 (upd (upd (upd (upd e 17 (e 7)) 18 (e 0)) 19 v19) 20 v20) (e 0) (e 7) h)
    (k_gatepostref01_Number_1 L K (upd (upd (upd (upd e 17 (e 7)) 18 (e 0)) 19 v19) 20 v20)  h))))
theorem l_gatepostref01_Number_1 {L : FuncId → List V → V → Prop} {K : V → Heap → Prop} (I : Nat → Env → Heap → Prop) (hr : ∀ n e h, I n e h → b_gatepostref01_Number_1 L K (fun e' h' => ∃ m, m < n ∧ I m e' h') e h) {n : Nat} {e : Env} {h : Heap} (hi : I n e h) : Wl F L lc_gatepostref01_Number_1 (q_gatepostref01_Number_1 L K) e h :=
  wloopp (b := b_gatepostref01_Number_1 L K) I (fun _ _ _ => by kernel_rfl) hr hi
def k_gatepostref01_Number_0 (L : FuncId → List V → V → Prop) (K : V → Heap → Prop) (e : Env) (h : Heap) : Prop :=
    (Wl F L lc_gatepostref01_Number_1 (q_gatepostref01_Number_1 L K) (upd (upd e 6 (.int .i64 0)) 7 (.int .i64 0)) h)
def p_gatepostref01_Number (L : FuncId → List V → V → Prop) (K : V → Heap → Prop) (a0 a1 : V) (h : Heap) : Prop :=
    (wi F L (.bin .lss (.c a1) (.c (.int .i64 0))) E0 h fun v11 h =>
    (wg v11 false (wi F L (.mv (.c a0)) E0 h) h fun v13 h =>
    (wg v11 false (wi F L (.len 0 (.c v13)) E0 h) h fun v14 h =>
    (wg v11 false (wi F L (.bin .eql (.c v14) (.c (.int .i64 0))) E0 h) h fun v15 h =>
    (wi F L (.pick (.c v11) (.c (.bool true)) (.c v15)) E0 h fun v16 h =>
    (wb v16
    (∃ v, resultsV h (enterE [(.int .i64 0), (.bool false)]) [.tmp 0, .tmp 1] = some v ∧ K v h)
    (k_gatepostref01_Number_0 L K (upd (upd (upd (upd (upd (upd (upd (upd (upd (enterE [a0, a1]) 4 (.int .i64 0)) 5 (.bool false)) 10 a1) 11 v11) 12 v11) 13 v13) 14 v14) 15 v15) 16 v16)  h)))))))
theorem run_gatepostref01_Number {L : FuncId → List V → V → Prop} {K : V → Heap → Prop} {a0 a1 : V} {h : Heap} (hp : p_gatepostref01_Number L K a0 a1 h) : Cf F L i_gatepostref01_Number [a0, a1] h K :=
  wcallp F_gatepostref01_Number (show 2 ≤ 61 by decide) (p := p_gatepostref01_Number L K a0 a1 h) (by kernel_rfl) hp
def k_gatepostref01_Lower_0 (L : FuncId → List V → V → Prop) (K : V → Heap → Prop) (v3 : V) (h : Heap) : Prop :=
    (∃ v, some v3 = some v ∧ K v h)
def k_gatepostref01_Lower_2 (L : FuncId → List V → V → Prop) (K : V → Heap → Prop) (N0 : Env → Heap → Prop) (e : Env) (v4 : V) (h : Heap) : Prop :=
    (wi F L (.bin .add (.c v4) (.c (.int .i64 1))) E0 h fun v11 h =>
    (N0 (upd (upd (upd e 10 v4) 11 v11) 4 v11) h))
def k_gatepostref01_Lower_3 (L : FuncId → List V → V → Prop) (K : V → Heap → Prop) (N0 : Env → Heap → Prop) (e : Env) (v3 v4 v5 : V) (h : Heap) : Prop :=
    (wi F L (.bsl 1 [(.c v5)]) E0 h fun v25 h =>
    (wi F L (.toStr (.c v25)) E0 h fun v26 h =>
    (wi F L (.bin .add (.c v3) (.c v26)) E0 h fun v27 h =>
    (k_gatepostref01_Lower_2 L K N0 (upd (upd (upd (upd (upd (upd e 23 v3) 24 v5) 25 v25) 26 v26) 27 v27) 3 v27) v4 h))))
def k_gatepostref01_Lower_1 (L : FuncId → List V → V → Prop) (K : V → Heap → Prop) (N0 : Env → Heap → Prop) (e : Env) (v0 v3 v4 : V) (h : Heap) : Prop :=
    (wi F L (.ixStr (.c v0) (.c v4)) E0 h fun v14 h =>
    (wi F L (.bin .geq (.c v14) (.c (.int .u8 65))) E0 h fun v16 h =>
    (wg v16 true (wi F L (.mv (.c v14)) E0 h) h fun v18 h =>
    (wg v16 true (wi F L (.bin .leq (.c v18) (.c (.int .u8 90))) E0 h) h fun v19 h =>
    (wi F L (.pick (.c v16) (.c v19) (.c (.bool false))) E0 h fun v20 h =>
    (wb v20
    (wi F L (.bin .add (.c v14) (.c (.int .u8 32))) E0 h fun v22 h =>
    (k_gatepostref01_Lower_3 L K N0 (upd (upd (upd (upd (upd (upd (upd (upd (upd (upd (upd (upd (upd e 12 v0) 13 v4) 14 v14) 5 v14) 15 v14) 16 v16) 17 v16) 18 v18) 19 v19) 20 v20) 21 v14) 22 v22) 5 v22) v3 v4 v22 h))
    (k_gatepostref01_Lower_3 L K N0 (upd (upd (upd (upd (upd (upd (upd (upd (upd (upd e 12 v0) 13 v4) 14 v14) 5 v14) 15 v14) 16 v16) 17 v16) 18 v18) 19 v19) 20 v20) v3 v4 v14 h)))))))
def q_gatepostref01_Lower_0 (L : FuncId → List V → V → Prop) (K : V → Heap → Prop) : X → Env → Heap → Prop := (fun x => (seqX (fun e h => k_gatepostref01_Lower_0 L K (e 3) h) (retX c_gatepostref01_Lower.results K)) (X.out 0 x))
def lc_gatepostref01_Lower_0 : C :=
  (.seq (.seq (.region [⟨(some 6), none, .mv (.t 4)⟩, ⟨(some 7), none, .mv (.t 0)⟩, ⟨(some 8), none, .len 0 (.t 7)⟩, ⟨(some 9), none, .bin .lss (.t 6) (.t 8)⟩])
  (.cond (.t 9)
    .skip
    (.exit 0)))
  (.seq (.block 1 (.seq (.region [⟨(some 12), none, .mv (.t 0)⟩, ⟨(some 13), none, .mv (.t 4)⟩, ⟨(some 14), none, .ixStr (.t 12) (.t 13)⟩, ⟨(some 5), none, .mv (.t 14)⟩])
  (.seq (.seq (.region [⟨(some 15), none, .mv (.t 5)⟩, ⟨(some 16), none, .bin .geq (.t 15) (.c (.int .u8 65))⟩, ⟨(some 17), none, .mv (.t 16)⟩, ⟨(some 18), (some (17, true)), .mv (.t 5)⟩, ⟨(some 19), (some (17, true)), .bin .leq (.t 18) (.c (.int .u8 90))⟩, ⟨(some 20), none, .pick (.t 17) (.t 19) (.c (.bool false))⟩])
  (.cond (.t 20)
    (.region [⟨(some 21), none, .mv (.t 5)⟩, ⟨(some 22), none, .bin .add (.t 21) (.c (.int .u8 32))⟩, ⟨(some 5), none, .mv (.t 22)⟩])
    .skip))
  (.region [⟨(some 23), none, .mv (.t 3)⟩, ⟨(some 24), none, .mv (.t 5)⟩, ⟨(some 25), none, .bsl 1 [(.t 24)]⟩, ⟨(some 26), none, .toStr (.t 25)⟩, ⟨(some 27), none, .bin .add (.t 23) (.t 26)⟩, ⟨(some 3), none, .mv (.t 27)⟩]))))
  (.region [⟨(some 10), none, .mv (.t 4)⟩, ⟨(some 11), none, .bin .add (.t 10) (.c (.int .i64 1))⟩, ⟨(some 4), none, .mv (.t 11)⟩])))
def b_gatepostref01_Lower_0 (L : FuncId → List V → V → Prop) (K : V → Heap → Prop) (N0 : Env → Heap → Prop) (e : Env) (h : Heap) : Prop :=
    (wi F L (.len 0 (.c (e 0))) E0 h fun v8 h =>
    (wi F L (.bin .lss (.c (e 4)) (.c v8)) E0 h fun v9 h =>
    (wb v9
    (k_gatepostref01_Lower_1 L K N0 (upd (upd (upd (upd e 6 (e 4)) 7 (e 0)) 8 v8) 9 v9) (e 0) (e 3) (e 4) h)
    (k_gatepostref01_Lower_0 L K (e 3) h))))
theorem l_gatepostref01_Lower_0 {L : FuncId → List V → V → Prop} {K : V → Heap → Prop} (I : Nat → Env → Heap → Prop) (hr : ∀ n e h, I n e h → b_gatepostref01_Lower_0 L K (fun e' h' => ∃ m, m < n ∧ I m e' h') e h) {n : Nat} {e : Env} {h : Heap} (hi : I n e h) : Wl F L lc_gatepostref01_Lower_0 (q_gatepostref01_Lower_0 L K) e h :=
  wloopp (b := b_gatepostref01_Lower_0 L K) I (fun _ _ _ => by kernel_rfl) hr hi
def p_gatepostref01_Lower (L : FuncId → List V → V → Prop) (K : V → Heap → Prop) (a0 : V) (h : Heap) : Prop :=
    (Wl F L lc_gatepostref01_Lower_0 (q_gatepostref01_Lower_0 L K) (upd (upd (upd (enterE [a0]) 2 (.str [])) 3 (.str [])) 4 (.int .i64 0)) h)
theorem run_gatepostref01_Lower {L : FuncId → List V → V → Prop} {K : V → Heap → Prop} {a0 : V} {h : Heap} (hp : p_gatepostref01_Lower L K a0 h) : Cf F L i_gatepostref01_Lower [a0] h K :=
  wcallp F_gatepostref01_Lower (show 1 ≤ 29 by decide) (p := p_gatepostref01_Lower L K a0 h) (by kernel_rfl) hp
def k_gatepostref08_least_0 (L : FuncId → List V → V → Prop) (K : V → Heap → Prop) (v0 : V) (h : Heap) : Prop :=
    (∃ v, some v0 = some v ∧ K v h)
def p_gatepostref08_least (L : FuncId → List V → V → Prop) (K : V → Heap → Prop) (a0 a1 : V) (h : Heap) : Prop :=
    (wi F L (.bin .lss (.c a0) (.c (.int .i64 0))) E0 h fun v6 h =>
    (wg v6 false (wi F L (.mv (.c a1)) E0 h) h fun v8 h =>
    (wg v6 false (wi F L (.mv (.c a0)) E0 h) h fun v9 h =>
    (wg v6 false (wi F L (.bin .lss (.c v8) (.c v9)) E0 h) h fun v10 h =>
    (wi F L (.pick (.c v6) (.c (.bool true)) (.c v10)) E0 h fun v11 h =>
    (wb v11
    (∃ v, some a1 = some v ∧ K v h)
    (k_gatepostref08_least_0 L K a0 h)))))))
theorem run_gatepostref08_least {L : FuncId → List V → V → Prop} {K : V → Heap → Prop} {a0 a1 : V} {h : Heap} (hp : p_gatepostref08_least L K a0 a1 h) : Cf F L i_gatepostref08_least [a0, a1] h K :=
  wcallp F_gatepostref08_least (show 2 ≤ 14 by decide) (p := p_gatepostref08_least L K a0 a1 h) (by kernel_rfl) hp
def k_field_Get_0 (L : FuncId → List V → V → Prop) (K : V → Heap → Prop) (v6 : V) (h : Heap) : Prop :=
    (wi F L (.call i_strings_Join [(.c v6), (.c (.str [44, 32]))]) E0 h fun v26 h =>
    (wi F L (.len 1 (.c v6)) E0 h fun v28 h =>
    (∃ v, resultsV h (enterE [v26, v28]) [.tmp 0, .tmp 1] = some v ∧ K v h)))
def k_field_Get_2 (L : FuncId → List V → V → Prop) (K : V → Heap → Prop) (N0 : Env → Heap → Prop) (e : Env) (v11 : V) (h : Heap) : Prop :=
    (wi F L (.bin .add (.c v11) (.c (.int .i64 1))) E0 h fun v24 h =>
    (N0 (upd (upd e 24 v24) 11 v24) h))
def k_field_Get_1 (L : FuncId → List V → V → Prop) (K : V → Heap → Prop) (N0 : Env → Heap → Prop) (e : Env) (v1 v6 v9 v11 : V) (h : Heap) : Prop :=
    (wi F L (.ixaSl 2 (.c v9) (.c v11)) E0 h fun v13 h =>
    (wi F L (.load true 2 (.c v13)) E0 h fun v14 h =>
    (wi F L (.boxz [(.str []), (.str [])]) E0 h fun v8 h =>
    (wi F L (.store 2 (.c v8) (.c v14)) E0 h fun _ h =>
    (wi F L (.faddr 0 (.c v8)) E0 h fun v15 h =>
    (wi F L (.load false 1 (.c v15)) E0 h fun v16 h =>
    (wi F L (.call i_token_Same [(.c v16), (.c v1)]) E0 h fun v18 h =>
    (wb v18
    (wi F L (.faddr 1 (.c v8)) E0 h fun v20 h =>
    (wi F L (.load false 1 (.c v20)) E0 h fun v21 h =>
    (wi F L (.bsl 1 [(.c v21)]) E0 h fun v22 h =>
    (wi F L (.app 1 16 false (.c v6) (.c v22)) E0 h fun v23 h =>
    (k_field_Get_2 L K N0 (upd (upd (upd (upd (upd (upd (upd (upd (upd (upd (upd (upd (upd e 13 v13) 14 v14) 8 v8) 15 v15) 16 v16) 17 v1) 18 v18) 19 v6) 20 v20) 21 v21) 22 v22) 23 v23) 6 v23) v11 h)))))
    (k_field_Get_2 L K N0 (upd (upd (upd (upd (upd (upd (upd e 13 v13) 14 v14) 8 v8) 15 v15) 16 v16) 17 v1) 18 v18) v11 h)))))))))
def q_field_Get_0 (L : FuncId → List V → V → Prop) (K : V → Heap → Prop) : X → Env → Heap → Prop := (fun x => (seqX (fun e h => k_field_Get_0 L K (e 6) h) (retX c_field_Get.results K)) (X.out 0 x))
def lc_field_Get_0 : C :=
  (.seq (.region [⟨(some 12), none, .bin .lss (.t 11) (.t 10)⟩])
  (.seq (.cond (.t 12)
    .skip
    (.exit 0))
  (.seq (.block 1 (.seq (.region [⟨(some 13), none, .ixaSl 2 (.t 9) (.t 11)⟩, ⟨(some 14), none, .load true 2 (.t 13)⟩, ⟨(some 8), none, .boxz [(.str []), (.str [])]⟩, ⟨none, none, .store 2 (.t 8) (.t 14)⟩])
  (.seq (.region [⟨(some 15), none, .faddr 0 (.t 8)⟩, ⟨(some 16), none, .load false 1 (.t 15)⟩, ⟨(some 17), none, .mv (.t 1)⟩, ⟨(some 18), none, .call i_token_Same [(.t 16), (.t 17)]⟩])
  (.cond (.t 18)
    (.region [⟨(some 19), none, .mv (.t 6)⟩, ⟨(some 20), none, .faddr 1 (.t 8)⟩, ⟨(some 21), none, .load false 1 (.t 20)⟩, ⟨(some 22), none, .bsl 1 [(.t 21)]⟩, ⟨(some 23), none, .app 1 16 false (.t 19) (.t 22)⟩, ⟨(some 6), none, .mv (.t 23)⟩])
    .skip))))
  (.region [⟨(some 24), none, .bin .add (.t 11) (.c (.int .i64 1))⟩, ⟨(some 11), none, .mv (.t 24)⟩]))))
def b_field_Get_0 (L : FuncId → List V → V → Prop) (K : V → Heap → Prop) (N0 : Env → Heap → Prop) (e : Env) (h : Heap) : Prop :=
    (wi F L (.bin .lss (.c (e 11)) (.c (e 10))) E0 h fun v12 h =>
    (wb v12
    (k_field_Get_1 L K N0 (upd e 12 v12) (e 1) (e 6) (e 9) (e 11) h)
    (k_field_Get_0 L K (e 6) h)))
theorem l_field_Get_0 {L : FuncId → List V → V → Prop} {K : V → Heap → Prop} (I : Nat → Env → Heap → Prop) (hr : ∀ n e h, I n e h → b_field_Get_0 L K (fun e' h' => ∃ m, m < n ∧ I m e' h') e h) {n : Nat} {e : Env} {h : Heap} (hi : I n e h) : Wl F L lc_field_Get_0 (q_field_Get_0 L K) e h :=
  wloopp (b := b_field_Get_0 L K) I (fun _ _ _ => by kernel_rfl) hr hi
def p_field_Get (L : FuncId → List V → V → Prop) (K : V → Heap → Prop) (a0 a1 : V) (h : Heap) : Prop :=
    (wi F L (.len 1 (.c a0)) E0 h fun v10 h =>
    (Wl F L lc_field_Get_0 (q_field_Get_0 L K) (upd (upd (upd (upd (upd (upd (enterE [a0, a1]) 4 (.str [])) 5 (.int .i64 0)) 6 .nsl) 9 a0) 10 v10) 11 (.int .i64 0)) h))
theorem run_field_Get {L : FuncId → List V → V → Prop} {K : V → Heap → Prop} {a0 a1 : V} {h : Heap} (hp : p_field_Get L K a0 a1 h) : Cf F L i_field_Get [a0, a1] h K :=
  wcallp F_field_Get (show 2 ≤ 29 by decide) (p := p_field_Get L K a0 a1 h) (by kernel_rfl) hp
def p_slices_Contains___string_string_ (L : FuncId → List V → V → Prop) (K : V → Heap → Prop) (a0 a1 : V) (h : Heap) : Prop :=
    (wi F L (.call i_slices_Index___string_string_ [(.c a0), (.c a1)]) E0 h fun v7 h =>
    (wi F L (.bin .geq (.c v7) (.c (.int .i64 0))) E0 h fun v8 h =>
    (∃ v, some v8 = some v ∧ K v h)))
theorem run_slices_Contains___string_string_ {L : FuncId → List V → V → Prop} {K : V → Heap → Prop} {a0 a1 : V} {h : Heap} (hp : p_slices_Contains___string_string_ L K a0 a1 h) : Cf F L i_slices_Contains___string_string_ [a0, a1] h K :=
  wcallp F_slices_Contains___string_string_ (show 2 ≤ 9 by decide) (p := p_slices_Contains___string_string_ L K a0 a1 h) (by kernel_rfl) hp
def k_gatepostref04_Get_0 (L : FuncId → List V → V → Prop) (K : V → Heap → Prop) (v6 v7 : V) (h : Heap) : Prop :=
    (∃ v, resultsV h (enterE [v6, v7]) [.tmp 0, .tmp 1] = some v ∧ K v h)
def k_gatepostref04_Get_2 (L : FuncId → List V → V → Prop) (K : V → Heap → Prop) (N0 : Env → Heap → Prop) (e : Env) (v8 : V) (h : Heap) : Prop :=
    (wi F L (.bin .add (.c v8) (.c (.int .i64 1))) E0 h fun v14 h =>
    (N0 (upd (upd (upd e 13 v8) 14 v14) 8 v14) h))
def k_gatepostref04_Get_3 (L : FuncId → List V → V → Prop) (K : V → Heap → Prop) (N0 : Env → Heap → Prop) (e : Env) (v0 v6 v7 v8 : V) (h : Heap) : Prop :=
    (wi F L (.ixaSl 2 (.c v0) (.c v8)) E0 h fun v29 h =>
    (wi F L (.faddr 1 (.c v29)) E0 h fun v30 h =>
    (wi F L (.load false 1 (.c v30)) E0 h fun v31 h =>
    (wi F L (.bin .add (.c v6) (.c v31)) E0 h fun v32 h =>
    (wi F L (.bin .add (.c v7) (.c (.int .i64 1))) E0 h fun v34 h =>
    (k_gatepostref04_Get_2 L K N0 (upd (upd (upd (upd (upd (upd (upd (upd (upd (upd (upd e 26 v6) 27 v0) 28 v8) 29 v29) 30 v30) 31 v31) 32 v32) 6 v32) 33 v7) 34 v34) 7 v34) v8 h))))))
def k_gatepostref04_Get_1 (L : FuncId → List V → V → Prop) (K : V → Heap → Prop) (N0 : Env → Heap → Prop) (e : Env) (v0 v1 v6 v7 v8 : V) (h : Heap) : Prop :=
    (wi F L (.ixaSl 2 (.c v0) (.c v8)) E0 h fun v17 h =>
    (wi F L (.faddr 0 (.c v17)) E0 h fun v18 h =>
    (wi F L (.load false 1 (.c v18)) E0 h fun v19 h =>
    (wi F L (.call i_gatepostref01_Same [(.c v19), (.c v1)]) E0 h fun v21 h =>
    (wb v21
    (wi F L (.bin .gtr (.c v7) (.c (.int .i64 0))) E0 h fun v23 h =>
    (wb v23
    (wi F L (.bin .add (.c v6) (.c (.str [44, 32]))) E0 h fun v25 h =>
    (k_gatepostref04_Get_3 L K N0 (upd (upd (upd (upd (upd (upd (upd (upd (upd (upd (upd (upd e 15 v0) 16 v8) 17 v17) 18 v18) 19 v19) 20 v1) 21 v21) 22 v7) 23 v23) 24 v6) 25 v25) 6 v25) v0 v25 v7 v8 h))
    (k_gatepostref04_Get_3 L K N0 (upd (upd (upd (upd (upd (upd (upd (upd (upd e 15 v0) 16 v8) 17 v17) 18 v18) 19 v19) 20 v1) 21 v21) 22 v7) 23 v23) v0 v6 v7 v8 h)))
    (k_gatepostref04_Get_2 L K N0 (upd (upd (upd (upd (upd (upd (upd e 15 v0) 16 v8) 17 v17) 18 v18) 19 v19) 20 v1) 21 v21) v8 h))))))
def q_gatepostref04_Get_0 (L : FuncId → List V → V → Prop) (K : V → Heap → Prop) : X → Env → Heap → Prop := (fun x => (seqX (fun e h => k_gatepostref04_Get_0 L K (e 6) (e 7) h) (retX c_gatepostref04_Get.results K)) (X.out 0 x))
def lc_gatepostref04_Get_0 : C :=
  (.seq (.seq (.region [⟨(some 9), none, .mv (.t 8)⟩, ⟨(some 10), none, .mv (.t 0)⟩, ⟨(some 11), none, .len 1 (.t 10)⟩, ⟨(some 12), none, .bin .lss (.t 9) (.t 11)⟩])
  (.cond (.t 12)
    .skip
    (.exit 0)))
  (.seq (.block 1 (.seq (.region [⟨(some 15), none, .mv (.t 0)⟩, ⟨(some 16), none, .mv (.t 8)⟩, ⟨(some 17), none, .ixaSl 2 (.t 15) (.t 16)⟩, ⟨(some 18), none, .faddr 0 (.t 17)⟩, ⟨(some 19), none, .load false 1 (.t 18)⟩, ⟨(some 20), none, .mv (.t 1)⟩, ⟨(some 21), none, .call i_gatepostref01_Same [(.t 19), (.t 20)]⟩])
  (.cond (.t 21)
    (.seq (.seq (.region [⟨(some 22), none, .mv (.t 7)⟩, ⟨(some 23), none, .bin .gtr (.t 22) (.c (.int .i64 0))⟩])
    (.cond (.t 23)
      (.region [⟨(some 24), none, .mv (.t 6)⟩, ⟨(some 25), none, .bin .add (.t 24) (.c (.str [44, 32]))⟩, ⟨(some 6), none, .mv (.t 25)⟩])
      .skip))
    (.seq (.region [⟨(some 26), none, .mv (.t 6)⟩, ⟨(some 27), none, .mv (.t 0)⟩, ⟨(some 28), none, .mv (.t 8)⟩, ⟨(some 29), none, .ixaSl 2 (.t 27) (.t 28)⟩, ⟨(some 30), none, .faddr 1 (.t 29)⟩, ⟨(some 31), none, .load false 1 (.t 30)⟩, ⟨(some 32), none, .bin .add (.t 26) (.t 31)⟩, ⟨(some 6), none, .mv (.t 32)⟩])
    (.region [⟨(some 33), none, .mv (.t 7)⟩, ⟨(some 34), none, .bin .add (.t 33) (.c (.int .i64 1))⟩, ⟨(some 7), none, .mv (.t 34)⟩])))
    .skip)))
  (.region [⟨(some 13), none, .mv (.t 8)⟩, ⟨(some 14), none, .bin .add (.t 13) (.c (.int .i64 1))⟩, ⟨(some 8), none, .mv (.t 14)⟩])))
def b_gatepostref04_Get_0 (L : FuncId → List V → V → Prop) (K : V → Heap → Prop) (N0 : Env → Heap → Prop) (e : Env) (h : Heap) : Prop :=
    (wi F L (.len 1 (.c (e 0))) E0 h fun v11 h =>
    (wi F L (.bin .lss (.c (e 8)) (.c v11)) E0 h fun v12 h =>
    (wb v12
    (k_gatepostref04_Get_1 L K N0 (upd (upd (upd (upd e 9 (e 8)) 10 (e 0)) 11 v11) 12 v12) (e 0) (e 1) (e 6) (e 7) (e 8) h)
    (k_gatepostref04_Get_0 L K (e 6) (e 7) h))))
theorem l_gatepostref04_Get_0 {L : FuncId → List V → V → Prop} {K : V → Heap → Prop} (I : Nat → Env → Heap → Prop) (hr : ∀ n e h, I n e h → b_gatepostref04_Get_0 L K (fun e' h' => ∃ m, m < n ∧ I m e' h') e h) {n : Nat} {e : Env} {h : Heap} (hi : I n e h) : Wl F L lc_gatepostref04_Get_0 (q_gatepostref04_Get_0 L K) e h :=
  wloopp (b := b_gatepostref04_Get_0 L K) I (fun _ _ _ => by kernel_rfl) hr hi
def p_gatepostref04_Get (L : FuncId → List V → V → Prop) (K : V → Heap → Prop) (a0 a1 : V) (h : Heap) : Prop :=
    (Wl F L lc_gatepostref04_Get_0 (q_gatepostref04_Get_0 L K) (upd (upd (upd (upd (upd (enterE [a0, a1]) 4 (.str [])) 5 (.int .i64 0)) 6 (.str [])) 7 (.int .i64 0)) 8 (.int .i64 0)) h)
theorem run_gatepostref04_Get {L : FuncId → List V → V → Prop} {K : V → Heap → Prop} {a0 a1 : V} {h : Heap} (hp : p_gatepostref04_Get L K a0 a1 h) : Cf F L i_gatepostref04_Get [a0, a1] h K :=
  wcallp F_gatepostref04_Get (show 2 ≤ 37 by decide) (p := p_gatepostref04_Get L K a0 a1 h) (by kernel_rfl) hp
def k_token_Split_1_0 (L : FuncId → List V → V → Prop) (K : V → Heap → Prop) (v0 v2 : V) (h : Heap) : Prop :=
    (wi F L (.bin .add (.c v0) (.c (.int .i64 1))) E0 h fun v18 h =>
    (wi F L (.store 1 (.c v2) (.c v18)) E0 h fun _ h =>
    (∃ v, resultsV h (enterE []) [] = some v ∧ K v h)))
def p_token_Split_1 (L : FuncId → List V → V → Prop) (K : V → Heap → Prop) (a0 a1 a2 a3 : V) (h : Heap) : Prop :=
    (wi F L (.load false 1 (.c a1)) E0 h fun v6 h =>
    (wi F L (.load false 1 (.c a2)) E0 h fun v7 h =>
    (wi F L (.slstr (.c v6) (some (.c v7)) (some (.c a0))) E0 h fun v9 h =>
    (wi F L (.call i_token_Trim [(.c v9)]) E0 h fun v10 h =>
    (wi F L (.bin .neq (.c v10) (.c (.str []))) E0 h fun v12 h =>
    (wb v12
    (wi F L (.load false 1 (.c a3)) E0 h fun v13 h =>
    (wi F L (.bsl 1 [(.c v10)]) E0 h fun v15 h =>
    (wi F L (.app 1 16 false (.c v13) (.c v15)) E0 h fun v16 h =>
    (wi F L (.store 1 (.c a3) (.c v16)) E0 h fun _ h =>
    (k_token_Split_1_0 L K a0 a2 h)))))
    (k_token_Split_1_0 L K a0 a2 h)))))))
theorem run_token_Split_1 {L : FuncId → List V → V → Prop} {K : V → Heap → Prop} {a0 a1 a2 a3 : V} {h : Heap} (hp : p_token_Split_1 L K a0 a1 a2 a3 h) : Cf F L i_token_Split_1 [a0, a1, a2, a3] h K :=
  wcallp F_token_Split_1 (show 4 ≤ 19 by decide) (p := p_token_Split_1 L K a0 a1 a2 a3 h) (by kernel_rfl) hp
def p_token_Trim (L : FuncId → List V → V → Prop) (K : V → Heap → Prop) (a0 : V) (h : Heap) : Prop :=
    (wi F L (.call i_strings_Trim [(.c a0), (.c (.str [32, 9]))]) E0 h fun v4 h =>
    (∃ v, some v4 = some v ∧ K v h))
theorem run_token_Trim {L : FuncId → List V → V → Prop} {K : V → Heap → Prop} {a0 : V} {h : Heap} (hp : p_token_Trim L K a0 h) : Cf F L i_token_Trim [a0] h K :=
  wcallp F_token_Trim (show 1 ≤ 5 by decide) (p := p_token_Trim L K a0 h) (by kernel_rfl) hp
def p_control_rules_1 (L : FuncId → List V → V → Prop) (K : V → Heap → Prop) (a0 a1 a2 : V) (h : Heap) : Prop :=
    (wi F L (.load false 1 (.c a2)) E0 h fun v5 h =>
    (wi F L (.build [.nfn, .nfn, (.int .i64 0), (.int .i64 0)] [(0, 1, (.c a1))]) E0 h fun v8 h =>
    (wi F L (.mapset .s (.c v5) (.c a0) (.c v8)) E0 h fun _ h =>
    (∃ v, resultsV h (enterE []) [] = some v ∧ K v h))))
theorem run_control_rules_1 {L : FuncId → List V → V → Prop} {K : V → Heap → Prop} {a0 a1 a2 : V} {h : Heap} (hp : p_control_rules_1 L K a0 a1 a2 h) : Cf F L i_control_rules_1 [a0, a1, a2] h K :=
  wcallp F_control_rules_1 (show 3 ≤ 9 by decide) (p := p_control_rules_1 L K a0 a1 a2 h) (by kernel_rfl) hp
def p_control_rules_2 (L : FuncId → List V → V → Prop) (K : V → Heap → Prop) (a0 a1 a2 a3 a4 : V) (h : Heap) : Prop :=
    (wi F L (.load false 1 (.c a4)) E0 h fun v9 h =>
    (wi F L (.build [.nfn, .nfn, (.int .i64 0), (.int .i64 0)] [(1, 1, (.c a3)), (2, 1, (.c a1)), (3, 1, (.c a2))]) E0 h fun v14 h =>
    (wi F L (.mapset .s (.c v9) (.c a0) (.c v14)) E0 h fun _ h =>
    (∃ v, resultsV h (enterE []) [] = some v ∧ K v h))))
theorem run_control_rules_2 {L : FuncId → List V → V → Prop} {K : V → Heap → Prop} {a0 a1 a2 a3 a4 : V} {h : Heap} (hp : p_control_rules_2 L K a0 a1 a2 a3 a4 h) : Cf F L i_control_rules_2 [a0, a1, a2, a3, a4] h K :=
  wcallp F_control_rules_2 (show 5 ≤ 15 by decide) (p := p_control_rules_2 L K a0 a1 a2 a3 a4 h) (by kernel_rfl) hp
def p_control_rules_3 (L : FuncId → List V → V → Prop) (K : V → Heap → Prop) (a0 : V) (h : Heap) : Prop :=
    (wi F L (.nilck (.c a0)) E0 h fun v3 h =>
    (wi F L (.faddr 0 (.c v3)) E0 h fun v4 h =>
    (wi F L (.store 1 (.c v4) (.c (.bool true))) E0 h fun _ h =>
    (∃ v, resultsV h (enterE []) [] = some v ∧ K v h))))
theorem run_control_rules_3 {L : FuncId → List V → V → Prop} {K : V → Heap → Prop} {a0 : V} {h : Heap} (hp : p_control_rules_3 L K a0 h) : Cf F L i_control_rules_3 [a0] h K :=
  wcallp F_control_rules_3 (show 1 ≤ 5 by decide) (p := p_control_rules_3 L K a0 h) (by kernel_rfl) hp
def p_control_rules_4 (L : FuncId → List V → V → Prop) (K : V → Heap → Prop) (a0 : V) (h : Heap) : Prop :=
    (wi F L (.nilck (.c a0)) E0 h fun v3 h =>
    (wi F L (.faddr 1 (.c v3)) E0 h fun v4 h =>
    (wi F L (.store 1 (.c v4) (.c (.bool true))) E0 h fun _ h =>
    (∃ v, resultsV h (enterE []) [] = some v ∧ K v h))))
theorem run_control_rules_4 {L : FuncId → List V → V → Prop} {K : V → Heap → Prop} {a0 : V} {h : Heap} (hp : p_control_rules_4 L K a0 h) : Cf F L i_control_rules_4 [a0] h K :=
  wcallp F_control_rules_4 (show 1 ≤ 5 by decide) (p := p_control_rules_4 L K a0 h) (by kernel_rfl) hp
def p_control_rules_5 (L : FuncId → List V → V → Prop) (K : V → Heap → Prop) (a0 : V) (h : Heap) : Prop :=
    (wi F L (.nilck (.c a0)) E0 h fun v3 h =>
    (wi F L (.faddr 2 (.c v3)) E0 h fun v4 h =>
    (wi F L (.store 1 (.c v4) (.c (.bool true))) E0 h fun _ h =>
    (∃ v, resultsV h (enterE []) [] = some v ∧ K v h))))
theorem run_control_rules_5 {L : FuncId → List V → V → Prop} {K : V → Heap → Prop} {a0 : V} {h : Heap} (hp : p_control_rules_5 L K a0 h) : Cf F L i_control_rules_5 [a0] h K :=
  wcallp F_control_rules_5 (show 1 ≤ 5 by decide) (p := p_control_rules_5 L K a0 h) (by kernel_rfl) hp
def p_control_rules_6 (L : FuncId → List V → V → Prop) (K : V → Heap → Prop) (a0 : V) (h : Heap) : Prop :=
    (wi F L (.nilck (.c a0)) E0 h fun v3 h =>
    (wi F L (.faddr 3 (.c v3)) E0 h fun v4 h =>
    (wi F L (.store 1 (.c v4) (.c (.bool true))) E0 h fun _ h =>
    (∃ v, resultsV h (enterE []) [] = some v ∧ K v h))))
theorem run_control_rules_6 {L : FuncId → List V → V → Prop} {K : V → Heap → Prop} {a0 : V} {h : Heap} (hp : p_control_rules_6 L K a0 h) : Cf F L i_control_rules_6 [a0] h K :=
  wcallp F_control_rules_6 (show 1 ≤ 5 by decide) (p := p_control_rules_6 L K a0 h) (by kernel_rfl) hp
def p_control_rules_7 (L : FuncId → List V → V → Prop) (K : V → Heap → Prop) (a0 : V) (h : Heap) : Prop :=
    (wi F L (.nilck (.c a0)) E0 h fun v3 h =>
    (wi F L (.faddr 4 (.c v3)) E0 h fun v4 h =>
    (wi F L (.store 1 (.c v4) (.c (.bool true))) E0 h fun _ h =>
    (∃ v, resultsV h (enterE []) [] = some v ∧ K v h))))
theorem run_control_rules_7 {L : FuncId → List V → V → Prop} {K : V → Heap → Prop} {a0 : V} {h : Heap} (hp : p_control_rules_7 L K a0 h) : Cf F L i_control_rules_7 [a0] h K :=
  wcallp F_control_rules_7 (show 1 ≤ 5 by decide) (p := p_control_rules_7 L K a0 h) (by kernel_rfl) hp
def p_control_rules_8 (L : FuncId → List V → V → Prop) (K : V → Heap → Prop) (a0 : V) (h : Heap) : Prop :=
    (wi F L (.nilck (.c a0)) E0 h fun v3 h =>
    (wi F L (.faddr 5 (.c v3)) E0 h fun v4 h =>
    (wi F L (.store 1 (.c v4) (.c (.bool true))) E0 h fun _ h =>
    (∃ v, resultsV h (enterE []) [] = some v ∧ K v h))))
theorem run_control_rules_8 {L : FuncId → List V → V → Prop} {K : V → Heap → Prop} {a0 : V} {h : Heap} (hp : p_control_rules_8 L K a0 h) : Cf F L i_control_rules_8 [a0] h K :=
  wcallp F_control_rules_8 (show 1 ≤ 5 by decide) (p := p_control_rules_8 L K a0 h) (by kernel_rfl) hp
def p_control_rules_9 (L : FuncId → List V → V → Prop) (K : V → Heap → Prop) (a0 : V) (h : Heap) : Prop :=
    (wi F L (.nilck (.c a0)) E0 h fun v3 h =>
    (wi F L (.faddr 6 (.c v3)) E0 h fun v4 h =>
    (wi F L (.store 1 (.c v4) (.c (.bool true))) E0 h fun _ h =>
    (∃ v, resultsV h (enterE []) [] = some v ∧ K v h))))
theorem run_control_rules_9 {L : FuncId → List V → V → Prop} {K : V → Heap → Prop} {a0 : V} {h : Heap} (hp : p_control_rules_9 L K a0 h) : Cf F L i_control_rules_9 [a0] h K :=
  wcallp F_control_rules_9 (show 1 ≤ 5 by decide) (p := p_control_rules_9 L K a0 h) (by kernel_rfl) hp
def p_control_rules_10 (L : FuncId → List V → V → Prop) (K : V → Heap → Prop) (a0 : V) (h : Heap) : Prop :=
    (wi F L (.nilck (.c a0)) E0 h fun v4 h =>
    (wi F L (.faddr 7 (.c v4)) E0 h fun v5 h =>
    (∃ v, some v5 = some v ∧ K v h)))
theorem run_control_rules_10 {L : FuncId → List V → V → Prop} {K : V → Heap → Prop} {a0 : V} {h : Heap} (hp : p_control_rules_10 L K a0 h) : Cf F L i_control_rules_10 [a0] h K :=
  wcallp F_control_rules_10 (show 1 ≤ 6 by decide) (p := p_control_rules_10 L K a0 h) (by kernel_rfl) hp
def p_control_rules_11 (L : FuncId → List V → V → Prop) (K : V → Heap → Prop) (a0 : V) (h : Heap) : Prop :=
    (wi F L (.nilck (.c a0)) E0 h fun v4 h =>
    (wi F L (.faddr 8 (.c v4)) E0 h fun v5 h =>
    (∃ v, some v5 = some v ∧ K v h)))
theorem run_control_rules_11 {L : FuncId → List V → V → Prop} {K : V → Heap → Prop} {a0 : V} {h : Heap} (hp : p_control_rules_11 L K a0 h) : Cf F L i_control_rules_11 [a0] h K :=
  wcallp F_control_rules_11 (show 1 ≤ 6 by decide) (p := p_control_rules_11 L K a0 h) (by kernel_rfl) hp
def p_control_rules_12 (L : FuncId → List V → V → Prop) (K : V → Heap → Prop) (a0 : V) (h : Heap) : Prop :=
    (wi F L (.nilck (.c a0)) E0 h fun v4 h =>
    (wi F L (.faddr 9 (.c v4)) E0 h fun v5 h =>
    (∃ v, some v5 = some v ∧ K v h)))
theorem run_control_rules_12 {L : FuncId → List V → V → Prop} {K : V → Heap → Prop} {a0 : V} {h : Heap} (hp : p_control_rules_12 L K a0 h) : Cf F L i_control_rules_12 [a0] h K :=
  wcallp F_control_rules_12 (show 1 ≤ 6 by decide) (p := p_control_rules_12 L K a0 h) (by kernel_rfl) hp
def p_control_rules_13 (L : FuncId → List V → V → Prop) (K : V → Heap → Prop) (a0 : V) (h : Heap) : Prop :=
    (wi F L (.nilck (.c a0)) E0 h fun v4 h =>
    (wi F L (.faddr 10 (.c v4)) E0 h fun v5 h =>
    (∃ v, some v5 = some v ∧ K v h)))
theorem run_control_rules_13 {L : FuncId → List V → V → Prop} {K : V → Heap → Prop} {a0 : V} {h : Heap} (hp : p_control_rules_13 L K a0 h) : Cf F L i_control_rules_13 [a0] h K :=
  wcallp F_control_rules_13 (show 1 ≤ 6 by decide) (p := p_control_rules_13 L K a0 h) (by kernel_rfl) hp
def p_control_rules_14 (L : FuncId → List V → V → Prop) (K : V → Heap → Prop) (a0 : V) (h : Heap) : Prop :=
    (wi F L (.nilck (.c a0)) E0 h fun v4 h =>
    (wi F L (.faddr 11 (.c v4)) E0 h fun v5 h =>
    (∃ v, some v5 = some v ∧ K v h)))
theorem run_control_rules_14 {L : FuncId → List V → V → Prop} {K : V → Heap → Prop} {a0 : V} {h : Heap} (hp : p_control_rules_14 L K a0 h) : Cf F L i_control_rules_14 [a0] h K :=
  wcallp F_control_rules_14 (show 1 ≤ 6 by decide) (p := p_control_rules_14 L K a0 h) (by kernel_rfl) hp
def p_control_rules_15 (L : FuncId → List V → V → Prop) (K : V → Heap → Prop) (a0 : V) (h : Heap) : Prop :=
    (wi F L (.nilck (.c a0)) E0 h fun v4 h =>
    (wi F L (.faddr 12 (.c v4)) E0 h fun v5 h =>
    (∃ v, some v5 = some v ∧ K v h)))
theorem run_control_rules_15 {L : FuncId → List V → V → Prop} {K : V → Heap → Prop} {a0 : V} {h : Heap} (hp : p_control_rules_15 L K a0 h) : Cf F L i_control_rules_15 [a0] h K :=
  wcallp F_control_rules_15 (show 1 ≤ 6 by decide) (p := p_control_rules_15 L K a0 h) (by kernel_rfl) hp
def p_strings_Cut (L : FuncId → List V → V → Prop) (K : V → Heap → Prop) (a0 a1 : V) (h : Heap) : Prop :=
    (wi F L (.call i_internal_stringslite_Cut [(.c a0), (.c a1)]) E0 h fun v9 h =>
    (wi F L (.ext 0 (.c v9)) E0 h fun v10 h =>
    (wi F L (.ext 1 (.c v9)) E0 h fun v11 h =>
    (wi F L (.ext 2 (.c v9)) E0 h fun v12 h =>
    (∃ v, resultsV h (enterE [v10, v11, v12]) [.tmp 0, .tmp 1, .tmp 2] = some v ∧ K v h)))))
theorem run_strings_Cut {L : FuncId → List V → V → Prop} {K : V → Heap → Prop} {a0 a1 : V} {h : Heap} (hp : p_strings_Cut L K a0 a1 h) : Cf F L i_strings_Cut [a0, a1] h K :=
  wcallp F_strings_Cut (show 2 ≤ 13 by decide) (p := p_strings_Cut L K a0 a1 h) (by kernel_rfl) hp
def p_token_Is (L : FuncId → List V → V → Prop) (K : V → Heap → Prop) (a0 : V) (h : Heap) : Prop :=
    (wi F L (.bin .neq (.c a0) (.c (.str []))) E0 h fun v4 h =>
    (wg v4 true (wi F L (.mv (.c a0)) E0 h) h fun v6 h =>
    (wg v4 true (wi F L (.call i_token_all [(.c v6), (.c (.fn i_token_inToken []))]) E0 h) h fun v7 h =>
    (wi F L (.pick (.c v4) (.c v7) (.c (.bool false))) E0 h fun v8 h =>
    (∃ v, some v8 = some v ∧ K v h)))))
theorem run_token_Is {L : FuncId → List V → V → Prop} {K : V → Heap → Prop} {a0 : V} {h : Heap} (hp : p_token_Is L K a0 h) : Cf F L i_token_Is [a0] h K :=
  wcallp F_token_Is (show 1 ≤ 9 by decide) (p := p_token_Is L K a0 h) (by kernel_rfl) hp
def k_token_Number_1 (L : FuncId → List V → V → Prop) (K : V → Heap → Prop) (v6 : V) (h : Heap) : Prop :=
    (∃ v, resultsV h (enterE [v6, (.bool true)]) [.tmp 0, .tmp 1] = some v ∧ K v h)
def k_token_Number_3 (L : FuncId → List V → V → Prop) (K : V → Heap → Prop) (N0 : Env → Heap → Prop) (e : Env) (v22 : V) (h : Heap) : Prop :=
    (wi F L (.bin .add (.c v22) (.c (.int .i64 1))) E0 h fun v46 h =>
    (N0 (upd (upd e 46 v46) 22 v46) h))
def k_token_Number_4 (L : FuncId → List V → V → Prop) (K : V → Heap → Prop) (N0 : Env → Heap → Prop) (e : Env) (v6 v8 v22 : V) (h : Heap) : Prop :=
    (wi F L (.bin .mul (.c (.int .i64 10)) (.c v6)) E0 h fun v43 h =>
    (wi F L (.bin .add (.c v43) (.c v8)) E0 h fun v45 h =>
    (k_token_Number_3 L K N0 (upd (upd (upd (upd (upd e 42 v6) 43 v43) 44 v8) 45 v45) 6 v45) v22 h)))
def k_token_Number_2 (L : FuncId → List V → V → Prop) (K : V → Heap → Prop) (N0 : Env → Heap → Prop) (e : Env) (v0 v1 v6 v22 : V) (h : Heap) : Prop :=
    (wi F L (.ixStr (.c v0) (.c v22)) E0 h fun v27 h =>
    (wi F L (.bin .sub (.c v27) (.c (.int .u8 48))) E0 h fun v28 h =>
    (wi F L (.toInt .i64 (.c v28)) E0 h fun v29 h =>
    (wi F L (.bin .gtr (.c v29) (.c v1)) E0 h fun v32 h =>
    (wg v32 false (wi F L (.mv (.c v6)) E0 h) h fun v34 h =>
    (wg v32 false (wi F L (.mv (.c v1)) E0 h) h fun v35 h =>
    (wg v32 false (wi F L (.mv (.c v29)) E0 h) h fun v36 h =>
    (wg v32 false (wi F L (.bin .sub (.c v35) (.c v36)) E0 h) h fun v37 h =>
    (wg v32 false (wi F L (.bin .quo (.c v37) (.c (.int .i64 10))) E0 h) h fun v38 h =>
    (wg v32 false (wi F L (.bin .gtr (.c v34) (.c v38)) E0 h) h fun v39 h =>
    (wi F L (.pick (.c v32) (.c (.bool true)) (.c v39)) E0 h fun v40 h =>
    (wb v40
    (∃ v, resultsV h (enterE [v1, (.bool true)]) [.tmp 0, .tmp 1] = some v ∧ K v h)
    (k_token_Number_4 L K N0 (upd (upd (upd (upd (upd (upd (upd (upd (upd (upd (upd (upd (upd (upd (upd (upd (upd (upd (upd e 24 v22) 7 v22) 25 v0) 26 v22) 27 v27) 28 v28) 29 v29) 8 v29) 30 v29) 31 v1) 32 v32) 33 v32) 34 v34) 35 v35) 36 v36) 37 v37) 38 v38) 39 v39) 40 v40) v6 v29 v22 h)))))))))))))
def q_token_Number_0 (L : FuncId → List V → V → Prop) (K : V → Heap → Prop) : X → Env → Heap → Prop := (fun x => (seqX (fun e h => k_token_Number_1 L K (e 6) h) (retX c_token_Number.results K)) (X.out 0 x))
def lc_token_Number_0 : C :=
  (.seq (.region [⟨(some 23), none, .bin .lss (.t 22) (.t 21)⟩])
  (.seq (.cond (.t 23)
    .skip
    (.exit 0))
  (.seq (.block 1 (.seq (.region [⟨(some 24), none, .mv (.t 22)⟩, ⟨(some 7), none, .mv (.t 24)⟩])
  (.seq (.region [⟨(some 25), none, .mv (.t 0)⟩, ⟨(some 26), none, .mv (.t 7)⟩, ⟨(some 27), none, .ixStr (.t 25) (.t 26)⟩, ⟨(some 28), none, .bin .sub (.t 27) (.c (.int .u8 48))⟩, ⟨(some 29), none, .toInt .i64 (.t 28)⟩, ⟨(some 8), none, .mv (.t 29)⟩])
  (.seq (.seq (.region [⟨(some 30), none, .mv (.t 8)⟩, ⟨(some 31), none, .mv (.t 1)⟩, ⟨(some 32), none, .bin .gtr (.t 30) (.t 31)⟩, ⟨(some 33), none, .mv (.t 32)⟩, ⟨(some 34), (some (33, false)), .mv (.t 6)⟩, ⟨(some 35), (some (33, false)), .mv (.t 1)⟩, ⟨(some 36), (some (33, false)), .mv (.t 8)⟩, ⟨(some 37), (some (33, false)), .bin .sub (.t 35) (.t 36)⟩, ⟨(some 38), (some (33, false)), .bin .quo (.t 37) (.c (.int .i64 10))⟩, ⟨(some 39), (some (33, false)), .bin .gtr (.t 34) (.t 38)⟩, ⟨(some 40), none, .pick (.t 33) (.c (.bool true)) (.t 39)⟩])
  (.cond (.t 40)
    (.seq (.region [⟨(some 41), none, .mv (.t 1)⟩, ⟨(some 4), none, .mv (.t 41)⟩, ⟨(some 5), none, .mv (.c (.bool true))⟩])
    .ret)
    .skip))
  (.region [⟨(some 42), none, .mv (.t 6)⟩, ⟨(some 43), none, .bin .mul (.c (.int .i64 10)) (.t 42)⟩, ⟨(some 44), none, .mv (.t 8)⟩, ⟨(some 45), none, .bin .add (.t 43) (.t 44)⟩, ⟨(some 6), none, .mv (.t 45)⟩])))))
  (.region [⟨(some 46), none, .bin .add (.t 22) (.c (.int .i64 1))⟩, ⟨(some 22), none, .mv (.t 46)⟩]))))
def b_token_Number_0 (L : FuncId → List V → V → Prop) (K : V → Heap → Prop) (N0 : Env → Heap → Prop) (e : Env) (h : Heap) : Prop :=
    (wi F L (.bin .lss (.c (e 22)) (.c (e 21))) E0 h fun v23 h =>
    (wb v23
    (k_token_Number_2 L K N0 (upd e 23 v23) (e 0) (e 1) (e 6) (e 22) h)
    (k_token_Number_1 L K (e 6) h)))
theorem l_token_Number_0 {L : FuncId → List V → V → Prop} {K : V → Heap → Prop} (I : Nat → Env → Heap → Prop) (hr : ∀ n e h, I n e h → b_token_Number_0 L K (fun e' h' => ∃ m, m < n ∧ I m e' h') e h) {n : Nat} {e : Env} {h : Heap} (hi : I n e h) : Wl F L lc_token_Number_0 (q_token_Number_0 L K) e h :=
  wloopp (b := b_token_Number_0 L K) I (fun _ _ _ => by kernel_rfl) hr hi
def k_token_Number_0 (L : FuncId → List V → V → Prop) (K : V → Heap → Prop) (e : Env) (v0 : V) (h : Heap) : Prop :=
    (wi F L (.len 0 (.c v0)) E0 h fun v21 h =>
    (Wl F L lc_token_Number_0 (q_token_Number_0 L K) (upd (upd (upd (upd e 6 (.int .i64 0)) 20 v0) 21 v21) 22 (.int .i64 0)) h))
def p_token_Number (L : FuncId → List V → V → Prop) (K : V → Heap → Prop) (a0 a1 : V) (h : Heap) : Prop :=
    (wi F L (.bin .eql (.c a0) (.c (.str []))) E0 h fun v10 h =>
    (wg v10 false (wi F L (.mv (.c a1)) E0 h) h fun v12 h =>
    (wg v10 false (wi F L (.bin .lss (.c v12) (.c (.int .i64 0))) E0 h) h fun v13 h =>
    (wi F L (.pick (.c v10) (.c (.bool true)) (.c v13)) E0 h fun v14 h =>
    (wg v14 false (wi F L (.mv (.c a0)) E0 h) h fun v16 h =>
    (wg v14 false (wi F L (.call i_token_all [(.c v16), (.c (.fn i_token_Number_1 []))]) E0 h) h fun v17 h =>
    (wg v14 false (wi F L (.un .not (.c v17)) E0 h) h fun v18 h =>
    (wi F L (.pick (.c v14) (.c (.bool true)) (.c v18)) E0 h fun v19 h =>
    (wb v19
    (∃ v, resultsV h (enterE [(.int .i64 0), (.bool false)]) [.tmp 0, .tmp 1] = some v ∧ K v h)
    (k_token_Number_0 L K (upd (upd (upd (upd (upd (upd (upd (upd (upd (upd (upd (upd (upd (enterE [a0, a1]) 4 (.int .i64 0)) 5 (.bool false)) 9 a0) 10 v10) 11 v10) 12 v12) 13 v13) 14 v14) 15 v14) 16 v16) 17 v17) 18 v18) 19 v19) a0 h))))))))))
theorem run_token_Number {L : FuncId → List V → V → Prop} {K : V → Heap → Prop} {a0 a1 : V} {h : Heap} (hp : p_token_Number L K a0 a1 h) : Cf F L i_token_Number [a0, a1] h K :=
  wcallp F_token_Number (show 2 ≤ 48 by decide) (p := p_token_Number L K a0 a1 h) (by kernel_rfl) hp
def k_gatepostref01_Trim_1 (L : FuncId → List V → V → Prop) (K : V → Heap → Prop) (v0 : V) (h : Heap) : Prop :=
    (∃ v, some v0 = some v ∧ K v h)
def k_gatepostref01_Trim_2 (L : FuncId → List V → V → Prop) (K : V → Heap → Prop) (N0 : Env → Heap → Prop) (e : Env) (v0 : V) (h : Heap) : Prop :=
    (wi F L (.len 0 (.c v0)) E0 h fun v26 h =>
    (wi F L (.bin .sub (.c v26) (.c (.int .i64 1))) E0 h fun v27 h =>
    (wi F L (.slstr (.c v0) none (some (.c v27))) E0 h fun v28 h =>
    (N0 (upd (upd (upd (upd (upd (upd e 24 v0) 25 v0) 26 v26) 27 v27) 28 v28) 0 v28) h))))
def q_gatepostref01_Trim_0 (L : FuncId → List V → V → Prop) (K : V → Heap → Prop) : X → Env → Heap → Prop := (fun x => (seqX (fun e h => k_gatepostref01_Trim_1 L K (e 0) h) (retX c_gatepostref01_Trim.results K)) (X.out 2 x))
def lc_gatepostref01_Trim_0 : C :=
  (.seq (.seq (.region [⟨(some 13), none, .mv (.t 0)⟩, ⟨(some 14), none, .len 0 (.t 13)⟩, ⟨(some 15), none, .bin .gtr (.t 14) (.c (.int .i64 0))⟩, ⟨(some 16), none, .mv (.t 15)⟩, ⟨(some 17), (some (16, true)), .mv (.t 0)⟩, ⟨(some 18), (some (16, true)), .mv (.t 0)⟩, ⟨(some 19), (some (16, true)), .len 0 (.t 18)⟩, ⟨(some 20), (some (16, true)), .bin .sub (.t 19) (.c (.int .i64 1))⟩, ⟨(some 21), (some (16, true)), .ixStr (.t 17) (.t 20)⟩, ⟨(some 22), (some (16, true)), .call i_gatepostref01_blank [(.t 21)]⟩, ⟨(some 23), none, .pick (.t 16) (.t 22) (.c (.bool false))⟩])
  (.cond (.t 23)
    .skip
    (.exit 2)))
  (.block 3 (.region [⟨(some 24), none, .mv (.t 0)⟩, ⟨(some 25), none, .mv (.t 0)⟩, ⟨(some 26), none, .len 0 (.t 25)⟩, ⟨(some 27), none, .bin .sub (.t 26) (.c (.int .i64 1))⟩, ⟨(some 28), none, .slstr (.t 24) none (some (.t 27))⟩, ⟨(some 0), none, .mv (.t 28)⟩])))
def b_gatepostref01_Trim_0 (L : FuncId → List V → V → Prop) (K : V → Heap → Prop) (N0 : Env → Heap → Prop) (e : Env) (h : Heap) : Prop :=
    (wi F L (.len 0 (.c (e 0))) E0 h fun v14 h =>
    (wi F L (.bin .gtr (.c v14) (.c (.int .i64 0))) E0 h fun v15 h =>
    (wg v15 true (wi F L (.mv (.c (e 0))) E0 h) h fun v17 h =>
    (wg v15 true (wi F L (.mv (.c (e 0))) E0 h) h fun v18 h =>
    (wg v15 true (wi F L (.len 0 (.c v18)) E0 h) h fun v19 h =>
    (wg v15 true (wi F L (.bin .sub (.c v19) (.c (.int .i64 1))) E0 h) h fun v20 h =>
    (wg v15 true (wi F L (.ixStr (.c v17) (.c v20)) E0 h) h fun v21 h =>
    (wg v15 true (wi F L (.call i_gatepostref01_blank [(.c v21)]) E0 h) h fun v22 h =>
    (wi F L (.pick (.c v15) (.c v22) (.c (.bool false))) E0 h fun v23 h =>
    (wb v23
    (k_gatepostref01_Trim_2 L K N0 (upd (upd (upd (upd (upd (upd (upd (upd (upd (upd (upd e 13 (e 0)) 14 v14) 15 v15) 16 v15) 17 v17) 18 v18) 19 v19) 20 v20) 21 v21) 22 v22) 23 v23) (e 0) h)
    (k_gatepostref01_Trim_1 L K (e 0) h)))))))))))
theorem l_gatepostref01_Trim_0 {L : FuncId → List V → V → Prop} {K : V → Heap → Prop} (I : Nat → Env → Heap → Prop) (hr : ∀ n e h, I n e h → b_gatepostref01_Trim_0 L K (fun e' h' => ∃ m, m < n ∧ I m e' h') e h) {n : Nat} {e : Env} {h : Heap} (hi : I n e h) : Wl F L lc_gatepostref01_Trim_0 (q_gatepostref01_Trim_0 L K) e h :=
  wloopp (b := b_gatepostref01_Trim_0 L K) I (fun _ _ _ => by kernel_rfl) hr hi
def k_gatepostref01_Trim_0 (L : FuncId → List V → V → Prop) (K : V → Heap → Prop) (e : Env) (h : Heap) : Prop :=
    (Wl F L lc_gatepostref01_Trim_0 (q_gatepostref01_Trim_0 L K) e h)
def k_gatepostref01_Trim_3 (L : FuncId → List V → V → Prop) (K : V → Heap → Prop) (N0 : Env → Heap → Prop) (e : Env) (v0 : V) (h : Heap) : Prop :=
    (wi F L (.slstr (.c v0) (some (.c (.int .i64 1))) none) E0 h fun v12 h =>
    (N0 (upd (upd (upd e 11 v0) 12 v12) 0 v12) h))
def q_gatepostref01_Trim_1 (L : FuncId → List V → V → Prop) (K : V → Heap → Prop) : X → Env → Heap → Prop := (fun x => (seqX (fun e h => k_gatepostref01_Trim_0 L K e  h) (retX c_gatepostref01_Trim.results K)) (X.out 0 x))
def lc_gatepostref01_Trim_1 : C :=
  (.seq (.seq (.region [⟨(some 3), none, .mv (.t 0)⟩, ⟨(some 4), none, .len 0 (.t 3)⟩, ⟨(some 5), none, .bin .gtr (.t 4) (.c (.int .i64 0))⟩, ⟨(some 6), none, .mv (.t 5)⟩, ⟨(some 7), (some (6, true)), .mv (.t 0)⟩, ⟨(some 8), (some (6, true)), .ixStr (.t 7) (.c (.int .i64 0))⟩, ⟨(some 9), (some (6, true)), .call i_gatepostref01_blank [(.t 8)]⟩, ⟨(some 10), none, .pick (.t 6) (.t 9) (.c (.bool false))⟩])
  (.cond (.t 10)
    .skip
    (.exit 0)))
  (.block 1 (.region [⟨(some 11), none, .mv (.t 0)⟩, ⟨(some 12), none, .slstr (.t 11) (some (.c (.int .i64 1))) none⟩, ⟨(some 0), none, .mv (.t 12)⟩])))
def b_gatepostref01_Trim_1 (L : FuncId → List V → V → Prop) (K : V → Heap → Prop) (N0 : Env → Heap → Prop) (e : Env) (h : Heap) : Prop :=
    (wi F L (.len 0 (.c (e 0))) E0 h fun v4 h =>
    (wi F L (.bin .gtr (.c v4) (.c (.int .i64 0))) E0 h fun v5 h =>
    (wg v5 true (wi F L (.mv (.c (e 0))) E0 h) h fun v7 h =>
    (wg v5 true (wi F L (.ixStr (.c v7) (.c (.int .i64 0))) E0 h) h fun v8 h =>
    (wg v5 true (wi F L (.call i_gatepostref01_blank [(.c v8)]) E0 h) h fun v9 h =>
    (wi F L (.pick (.c v5) (.c v9) (.c (.bool false))) E0 h fun v10 h =>
    (wb v10
    (k_gatepostref01_Trim_3 L K N0 (upd (upd (upd (upd (upd (upd (upd (upd e 3 (e 0)) 4 v4) 5 v5) 6 v5) 7 v7) 8 v8) 9 v9) 10 v10) (e 0) h)
    (k_gatepostref01_Trim_0 L K (upd (upd (upd (upd (upd (upd (upd (upd e 3 (e 0)) 4 v4) 5 v5) 6 v5) 7 v7) 8 v8) 9 v9) 10 v10)  h))))))))
theorem l_gatepostref01_Trim_1 {L : FuncId → List V → V → Prop} {K : V → Heap → Prop} (I : Nat → Env → Heap → Prop) (hr : ∀ n e h, I n e h → b_gatepostref01_Trim_1 L K (fun e' h' => ∃ m, m < n ∧ I m e' h') e h) {n : Nat} {e : Env} {h : Heap} (hi : I n e h) : Wl F L lc_gatepostref01_Trim_1 (q_gatepostref01_Trim_1 L K) e h :=
  wloopp (b := b_gatepostref01_Trim_1 L K) I (fun _ _ _ => by kernel_rfl) hr hi
def p_gatepostref01_Trim (L : FuncId → List V → V → Prop) (K : V → Heap → Prop) (a0 : V) (h : Heap) : Prop :=
    (Wl F L lc_gatepostref01_Trim_1 (q_gatepostref01_Trim_1 L K) (upd (enterE [a0]) 2 (.str [])) h)
theorem run_gatepostref01_Trim {L : FuncId → List V → V → Prop} {K : V → Heap → Prop} {a0 : V} {h : Heap} (hp : p_gatepostref01_Trim L K a0 h) : Cf F L i_gatepostref01_Trim [a0] h K :=
  wcallp F_gatepostref01_Trim (show 1 ≤ 30 by decide) (p := p_gatepostref01_Trim L K a0 h) (by kernel_rfl) hp
def k_gatepostref01_Is_0 (L : FuncId → List V → V → Prop) (K : V → Heap → Prop) (v0 : V) (h : Heap) : Prop :=
    (wi F L (.len 0 (.c v0)) E0 h fun v16 h =>
    (wi F L (.bin .gtr (.c v16) (.c (.int .i64 0))) E0 h fun v17 h =>
    (∃ v, some v17 = some v ∧ K v h)))
def k_gatepostref01_Is_2 (L : FuncId → List V → V → Prop) (K : V → Heap → Prop) (N0 : Env → Heap → Prop) (e : Env) (v3 : V) (h : Heap) : Prop :=
    (wi F L (.bin .add (.c v3) (.c (.int .i64 1))) E0 h fun v9 h =>
    (N0 (upd (upd (upd e 8 v3) 9 v9) 3 v9) h))
def k_gatepostref01_Is_1 (L : FuncId → List V → V → Prop) (K : V → Heap → Prop) (N0 : Env → Heap → Prop) (e : Env) (v0 v3 : V) (h : Heap) : Prop :=
    (wi F L (.ixStr (.c v0) (.c v3)) E0 h fun v12 h =>
    (wi F L (.call i_gatepostref01_tchar [(.c v12)]) E0 h fun v13 h =>
    (wi F L (.un .not (.c v13)) E0 h fun v14 h =>
    (wb v14
    (∃ v, some (.bool false) = some v ∧ K v h)
    (k_gatepostref01_Is_2 L K N0 (upd (upd (upd (upd (upd e 10 v0) 11 v3) 12 v12) 13 v13) 14 v14) v3 h)))))
def q_gatepostref01_Is_0 (L : FuncId → List V → V → Prop) (K : V → Heap → Prop) : X → Env → Heap → Prop := (fun x => (seqX (fun e h => k_gatepostref01_Is_0 L K (e 0) h) (retX c_gatepostref01_Is.results K)) (X.out 0 x))
def lc_gatepostref01_Is_0 : C :=
  (.seq (.seq (.region [⟨(some 4), none, .mv (.t 3)⟩, ⟨(some 5), none, .mv (.t 0)⟩, ⟨(some 6), none, .len 0 (.t 5)⟩, ⟨(some 7), none, .bin .lss (.t 4) (.t 6)⟩])
  (.cond (.t 7)
    .skip
    (.exit 0)))
  (.seq (.block 1 (.seq (.region [⟨(some 10), none, .mv (.t 0)⟩, ⟨(some 11), none, .mv (.t 3)⟩, ⟨(some 12), none, .ixStr (.t 10) (.t 11)⟩, ⟨(some 13), none, .call i_gatepostref01_tchar [(.t 12)]⟩, ⟨(some 14), none, .un .not (.t 13)⟩])
  (.cond (.t 14)
    (.seq (.region [⟨(some 2), none, .mv (.c (.bool false))⟩])
    .ret)
    .skip)))
  (.region [⟨(some 8), none, .mv (.t 3)⟩, ⟨(some 9), none, .bin .add (.t 8) (.c (.int .i64 1))⟩, ⟨(some 3), none, .mv (.t 9)⟩])))
def b_gatepostref01_Is_0 (L : FuncId → List V → V → Prop) (K : V → Heap → Prop) (N0 : Env → Heap → Prop) (e : Env) (h : Heap) : Prop :=
    (wi F L (.len 0 (.c (e 0))) E0 h fun v6 h =>
    (wi F L (.bin .lss (.c (e 3)) (.c v6)) E0 h fun v7 h =>
    (wb v7
    (k_gatepostref01_Is_1 L K N0 (upd (upd (upd (upd e 4 (e 3)) 5 (e 0)) 6 v6) 7 v7) (e 0) (e 3) h)
    (k_gatepostref01_Is_0 L K (e 0) h))))
theorem l_gatepostref01_Is_0 {L : FuncId → List V → V → Prop} {K : V → Heap → Prop} (I : Nat → Env → Heap → Prop) (hr : ∀ n e h, I n e h → b_gatepostref01_Is_0 L K (fun e' h' => ∃ m, m < n ∧ I m e' h') e h) {n : Nat} {e : Env} {h : Heap} (hi : I n e h) : Wl F L lc_gatepostref01_Is_0 (q_gatepostref01_Is_0 L K) e h :=
  wloopp (b := b_gatepostref01_Is_0 L K) I (fun _ _ _ => by kernel_rfl) hr hi
def p_gatepostref01_Is (L : FuncId → List V → V → Prop) (K : V → Heap → Prop) (a0 : V) (h : Heap) : Prop :=
    (Wl F L lc_gatepostref01_Is_0 (q_gatepostref01_Is_0 L K) (upd (upd (enterE [a0]) 2 (.bool false)) 3 (.int .i64 0)) h)
theorem run_gatepostref01_Is {L : FuncId → List V → V → Prop} {K : V → Heap → Prop} {a0 : V} {h : Heap} (hp : p_gatepostref01_Is L K a0 h) : Cf F L i_gatepostref01_Is [a0] h K :=
  wcallp F_gatepostref01_Is (show 1 ≤ 18 by decide) (p := p_gatepostref01_Is L K a0 h) (by kernel_rfl) hp
def k_gatepostref01_unquote_1 (L : FuncId → List V → V → Prop) (K : V → Heap → Prop) (v0 v4 v5 : V) (h : Heap) : Prop :=
    (wi F L (.len 0 (.c v0)) E0 h fun v53 h =>
    (wi F L (.bin .sub (.c v53) (.c (.int .i64 1))) E0 h fun v54 h =>
    (wi F L (.bin .eql (.c v5) (.c v54)) E0 h fun v55 h =>
    (∃ v, resultsV h (enterE [v4, v55]) [.tmp 0, .tmp 1] = some v ∧ K v h))))
def k_gatepostref01_unquote_4 (L : FuncId → List V → V → Prop) (K : V → Heap → Prop) (N0 : Env → Heap → Prop) (e : Env) (v0 v4 v5 : V) (h : Heap) : Prop :=
    (wi F L (.bin .add (.c v5) (.c (.int .i64 1))) E0 h fun v45 h =>
    (wi F L (.slstr (.c v0) (some (.c v5)) (some (.c v45))) E0 h fun v46 h =>
    (wi F L (.bin .add (.c v4) (.c v46)) E0 h fun v47 h =>
    (wi F L (.bin .add (.c v5) (.c (.int .i64 1))) E0 h fun v49 h =>
    (N0 (upd (upd (upd (upd (upd (upd (upd (upd (upd (upd (upd e 41 v4) 42 v0) 43 v5) 44 v5) 45 v45) 46 v46) 47 v47) 4 v47) 48 v5) 49 v49) 5 v49) h)))))
def k_gatepostref01_unquote_3 (L : FuncId → List V → V → Prop) (K : V → Heap → Prop) (N0 : Env → Heap → Prop) (e : Env) (v0 v4 v5 : V) (h : Heap) : Prop :=
    (wi F L (.len 0 (.c v0)) E0 h fun v32 h =>
    (wi F L (.bin .geq (.c v5) (.c v32)) E0 h fun v33 h =>
    (wg v33 false (wi F L (.mv (.c v0)) E0 h) h fun v35 h =>
    (wg v33 false (wi F L (.mv (.c v5)) E0 h) h fun v36 h =>
    (wg v33 false (wi F L (.ixStr (.c v35) (.c v36)) E0 h) h fun v37 h =>
    (wg v33 false (wi F L (.call i_gatepostref01_text [(.c v37)]) E0 h) h fun v38 h =>
    (wg v33 false (wi F L (.un .not (.c v38)) E0 h) h fun v39 h =>
    (wi F L (.pick (.c v33) (.c (.bool true)) (.c v39)) E0 h fun v40 h =>
    (wb v40
    (∃ v, resultsV h (enterE [(.str []), (.bool false)]) [.tmp 0, .tmp 1] = some v ∧ K v h)
    (k_gatepostref01_unquote_4 L K N0 (upd (upd (upd (upd (upd (upd (upd (upd (upd (upd (upd e 30 v5) 31 v0) 32 v32) 33 v33) 34 v33) 35 v35) 36 v36) 37 v37) 38 v38) 39 v39) 40 v40) v0 v4 v5 h))))))))))
def k_gatepostref01_unquote_2 (L : FuncId → List V → V → Prop) (K : V → Heap → Prop) (N0 : Env → Heap → Prop) (e : Env) (v0 v4 v5 : V) (h : Heap) : Prop :=
    (wi F L (.ixStr (.c v0) (.c v5)) E0 h fun v26 h =>
    (wi F L (.bin .eql (.c v26) (.c (.int .u8 92))) E0 h fun v27 h =>
    (wb v27
    (wi F L (.bin .add (.c v5) (.c (.int .i64 1))) E0 h fun v29 h =>
    (k_gatepostref01_unquote_3 L K N0 (upd (upd (upd (upd (upd (upd (upd e 24 v0) 25 v5) 26 v26) 27 v27) 28 v5) 29 v29) 5 v29) v0 v4 v29 h))
    (k_gatepostref01_unquote_3 L K N0 (upd (upd (upd (upd e 24 v0) 25 v5) 26 v26) 27 v27) v0 v4 v5 h))))
def q_gatepostref01_unquote_0 (L : FuncId → List V → V → Prop) (K : V → Heap → Prop) : X → Env → Heap → Prop := (fun x => (seqX (fun e h => k_gatepostref01_unquote_1 L K (e 0) (e 4) (e 5) h) (retX c_gatepostref01_unquote.results K)) (X.out 0 x))
def lc_gatepostref01_unquote_0 : C :=
  (.seq (.seq (.region [⟨(some 14), none, .mv (.t 5)⟩, ⟨(some 15), none, .mv (.t 0)⟩, ⟨(some 16), none, .len 0 (.t 15)⟩, ⟨(some 17), none, .bin .lss (.t 14) (.t 16)⟩, ⟨(some 18), none, .mv (.t 17)⟩, ⟨(some 19), (some (18, true)), .mv (.t 0)⟩, ⟨(some 20), (some (18, true)), .mv (.t 5)⟩, ⟨(some 21), (some (18, true)), .ixStr (.t 19) (.t 20)⟩, ⟨(some 22), (some (18, true)), .bin .neq (.t 21) (.c (.int .u8 34))⟩, ⟨(some 23), none, .pick (.t 18) (.t 22) (.c (.bool false))⟩])
  (.cond (.t 23)
    .skip
    (.exit 0)))
  (.block 1 (.seq (.seq (.region [⟨(some 24), none, .mv (.t 0)⟩, ⟨(some 25), none, .mv (.t 5)⟩, ⟨(some 26), none, .ixStr (.t 24) (.t 25)⟩, ⟨(some 27), none, .bin .eql (.t 26) (.c (.int .u8 92))⟩])
  (.cond (.t 27)
    (.region [⟨(some 28), none, .mv (.t 5)⟩, ⟨(some 29), none, .bin .add (.t 28) (.c (.int .i64 1))⟩, ⟨(some 5), none, .mv (.t 29)⟩])
    .skip))
  (.seq (.seq (.region [⟨(some 30), none, .mv (.t 5)⟩, ⟨(some 31), none, .mv (.t 0)⟩, ⟨(some 32), none, .len 0 (.t 31)⟩, ⟨(some 33), none, .bin .geq (.t 30) (.t 32)⟩, ⟨(some 34), none, .mv (.t 33)⟩, ⟨(some 35), (some (34, false)), .mv (.t 0)⟩, ⟨(some 36), (some (34, false)), .mv (.t 5)⟩, ⟨(some 37), (some (34, false)), .ixStr (.t 35) (.t 36)⟩, ⟨(some 38), (some (34, false)), .call i_gatepostref01_text [(.t 37)]⟩, ⟨(some 39), (some (34, false)), .un .not (.t 38)⟩, ⟨(some 40), none, .pick (.t 34) (.c (.bool true)) (.t 39)⟩])
  (.cond (.t 40)
    (.seq (.region [⟨(some 2), none, .mv (.c (.str []))⟩, ⟨(some 3), none, .mv (.c (.bool false))⟩])
    .ret)
    .skip))
  (.seq (.region [⟨(some 41), none, .mv (.t 4)⟩, ⟨(some 42), none, .mv (.t 0)⟩, ⟨(some 43), none, .mv (.t 5)⟩, ⟨(some 44), none, .mv (.t 5)⟩, ⟨(some 45), none, .bin .add (.t 44) (.c (.int .i64 1))⟩, ⟨(some 46), none, .slstr (.t 42) (some (.t 43)) (some (.t 45))⟩, ⟨(some 47), none, .bin .add (.t 41) (.t 46)⟩, ⟨(some 4), none, .mv (.t 47)⟩])
  (.region [⟨(some 48), none, .mv (.t 5)⟩, ⟨(some 49), none, .bin .add (.t 48) (.c (.int .i64 1))⟩, ⟨(some 5), none, .mv (.t 49)⟩]))))))
def b_gatepostref01_unquote_0 (L : FuncId → List V → V → Prop) (K : V → Heap → Prop) (N0 : Env → Heap → Prop) (e : Env) (h : Heap) : Prop :=
    (wi F L (.len 0 (.c (e 0))) E0 h fun v16 h =>
    (wi F L (.bin .lss (.c (e 5)) (.c v16)) E0 h fun v17 h =>
    (wg v17 true (wi F L (.mv (.c (e 0))) E0 h) h fun v19 h =>
    (wg v17 true (wi F L (.mv (.c (e 5))) E0 h) h fun v20 h =>
    (wg v17 true (wi F L (.ixStr (.c v19) (.c v20)) E0 h) h fun v21 h =>
    (wg v17 true (wi F L (.bin .neq (.c v21) (.c (.int .u8 34))) E0 h) h fun v22 h =>
    (wi F L (.pick (.c v17) (.c v22) (.c (.bool false))) E0 h fun v23 h =>
    (wb v23
    (k_gatepostref01_unquote_2 L K N0 (upd (upd (upd (upd (upd (upd (upd (upd (upd (upd e 14 (e 5)) 15 (e 0)) 16 v16) 17 v17) 18 v17) 19 v19) 20 v20) 21 v21) 22 v22) 23 v23) (e 0) (e 4) (e 5) h)
    (k_gatepostref01_unquote_1 L K (e 0) (e 4) (e 5) h)))))))))
theorem l_gatepostref01_unquote_0 {L : FuncId → List V → V → Prop} {K : V → Heap → Prop} (I : Nat → Env → Heap → Prop) (hr : ∀ n e h, I n e h → b_gatepostref01_unquote_0 L K (fun e' h' => ∃ m, m < n ∧ I m e' h') e h) {n : Nat} {e : Env} {h : Heap} (hi : I n e h) : Wl F L lc_gatepostref01_unquote_0 (q_gatepostref01_unquote_0 L K) e h :=
  wloopp (b := b_gatepostref01_unquote_0 L K) I (fun _ _ _ => by kernel_rfl) hr hi
def k_gatepostref01_unquote_0 (L : FuncId → List V → V → Prop) (K : V → Heap → Prop) (e : Env) (h : Heap) : Prop :=
    (Wl F L lc_gatepostref01_unquote_0 (q_gatepostref01_unquote_0 L K) (upd (upd e 4 (.str [])) 5 (.int .i64 1)) h)
def p_gatepostref01_unquote (L : FuncId → List V → V → Prop) (K : V → Heap → Prop) (a0 : V) (h : Heap) : Prop :=
    (wi F L (.len 0 (.c a0)) E0 h fun v7 h =>
    (wi F L (.bin .lss (.c v7) (.c (.int .i64 2))) E0 h fun v8 h =>
    (wg v8 false (wi F L (.mv (.c a0)) E0 h) h fun v10 h =>
    (wg v8 false (wi F L (.ixStr (.c v10) (.c (.int .i64 0))) E0 h) h fun v11 h =>
    (wg v8 false (wi F L (.bin .neq (.c v11) (.c (.int .u8 34))) E0 h) h fun v12 h =>
    (wi F L (.pick (.c v8) (.c (.bool true)) (.c v12)) E0 h fun v13 h =>
    (wb v13
    (∃ v, resultsV h (enterE [(.str []), (.bool false)]) [.tmp 0, .tmp 1] = some v ∧ K v h)
    (k_gatepostref01_unquote_0 L K (upd (upd (upd (upd (upd (upd (upd (upd (upd (upd (enterE [a0]) 2 (.str [])) 3 (.bool false)) 6 a0) 7 v7) 8 v8) 9 v8) 10 v10) 11 v11) 12 v12) 13 v13)  h))))))))
theorem run_gatepostref01_unquote {L : FuncId → List V → V → Prop} {K : V → Heap → Prop} {a0 : V} {h : Heap} (hp : p_gatepostref01_unquote L K a0 h) : Cf F L i_gatepostref01_unquote [a0] h K :=
  wcallp F_gatepostref01_unquote (show 1 ≤ 56 by decide) (p := p_gatepostref01_unquote L K a0 h) (by kernel_rfl) hp
def p_token_Same (L : FuncId → List V → V → Prop) (K : V → Heap → Prop) (a0 a1 : V) (h : Heap) : Prop :=
    (wi F L (.len 0 (.c a0)) E0 h fun v6 h =>
    (wi F L (.len 0 (.c a1)) E0 h fun v8 h =>
    (wi F L (.bin .eql (.c v6) (.c v8)) E0 h fun v9 h =>
    (wg v9 true (wi F L (.mv (.c a0)) E0 h) h fun v11 h =>
    (wg v9 true (wi F L (.call i_token_Lower [(.c v11)]) E0 h) h fun v12 h =>
    (wg v9 true (wi F L (.mv (.c a1)) E0 h) h fun v13 h =>
    (wg v9 true (wi F L (.call i_token_Lower [(.c v13)]) E0 h) h fun v14 h =>
    (wg v9 true (wi F L (.bin .eql (.c v12) (.c v14)) E0 h) h fun v15 h =>
    (wi F L (.pick (.c v9) (.c v15) (.c (.bool false))) E0 h fun v16 h =>
    (∃ v, some v16 = some v ∧ K v h))))))))))
theorem run_token_Same {L : FuncId → List V → V → Prop} {K : V → Heap → Prop} {a0 a1 : V} {h : Heap} (hp : p_token_Same L K a0 a1 h) : Cf F L i_token_Same [a0, a1] h K :=
  wcallp F_token_Same (show 2 ≤ 17 by decide) (p := p_token_Same L K a0 a1 h) (by kernel_rfl) hp
def k_slices_Index___string_string__0 (L : FuncId → List V → V → Prop) (K : V → Heap → Prop) (h : Heap) : Prop :=
    (∃ v, some (.int .i64 (-1)) = some v ∧ K v h)
def k_slices_Index___string_string__2 (L : FuncId → List V → V → Prop) (K : V → Heap → Prop) (N0 : Env → Heap → Prop) (e : Env) (v8 : V) (h : Heap) : Prop :=
    (wi F L (.bin .add (.c v8) (.c (.int .i64 1))) E0 h fun v18 h =>
    (N0 (upd (upd e 18 v18) 8 v18) h))
def k_slices_Index___string_string__1 (L : FuncId → List V → V → Prop) (K : V → Heap → Prop) (N0 : Env → Heap → Prop) (e : Env) (v0 v1 v8 : V) (h : Heap) : Prop :=
    (wi F L (.ixaSl 1 (.c v0) (.c v8)) E0 h fun v14 h =>
    (wi F L (.load false 1 (.c v14)) E0 h fun v15 h =>
    (wi F L (.bin .eql (.c v1) (.c v15)) E0 h fun v16 h =>
    (wb v16
    (∃ v, some v8 = some v ∧ K v h)
    (k_slices_Index___string_string__2 L K N0 (upd (upd (upd (upd (upd (upd (upd (upd e 10 v8) 5 v8) 11 v1) 12 v0) 13 v8) 14 v14) 15 v15) 16 v16) v8 h)))))
def q_slices_Index___string_string__0 (L : FuncId → List V → V → Prop) (K : V → Heap → Prop) : X → Env → Heap → Prop := (fun x => (seqX (fun e h => k_slices_Index___string_string__0 L K  h) (retX c_slices_Index___string_string_.results K)) (X.out 0 x))
def lc_slices_Index___string_string__0 : C :=
  (.seq (.region [⟨(some 9), none, .bin .lss (.t 8) (.t 7)⟩])
  (.seq (.cond (.t 9)
    .skip
    (.exit 0))
  (.seq (.block 1 (.seq (.region [⟨(some 10), none, .mv (.t 8)⟩, ⟨(some 5), none, .mv (.t 10)⟩])
  (.seq (.region [⟨(some 11), none, .mv (.t 1)⟩, ⟨(some 12), none, .mv (.t 0)⟩, ⟨(some 13), none, .mv (.t 5)⟩, ⟨(some 14), none, .ixaSl 1 (.t 12) (.t 13)⟩, ⟨(some 15), none, .load false 1 (.t 14)⟩, ⟨(some 16), none, .bin .eql (.t 11) (.t 15)⟩])
  (.cond (.t 16)
    (.seq (.region [⟨(some 17), none, .mv (.t 5)⟩, ⟨(some 4), none, .mv (.t 17)⟩])
    .ret)
    .skip))))
  (.region [⟨(some 18), none, .bin .add (.t 8) (.c (.int .i64 1))⟩, ⟨(some 8), none, .mv (.t 18)⟩]))))
def b_slices_Index___string_string__0 (L : FuncId → List V → V → Prop) (K : V → Heap → Prop) (N0 : Env → Heap → Prop) (e : Env) (h : Heap) : Prop :=
    (wi F L (.bin .lss (.c (e 8)) (.c (e 7))) E0 h fun v9 h =>
    (wb v9
    (k_slices_Index___string_string__1 L K N0 (upd e 9 v9) (e 0) (e 1) (e 8) h)
    (k_slices_Index___string_string__0 L K  h)))
theorem l_slices_Index___string_string__0 {L : FuncId → List V → V → Prop} {K : V → Heap → Prop} (I : Nat → Env → Heap → Prop) (hr : ∀ n e h, I n e h → b_slices_Index___string_string__0 L K (fun e' h' => ∃ m, m < n ∧ I m e' h') e h) {n : Nat} {e : Env} {h : Heap} (hi : I n e h) : Wl F L lc_slices_Index___string_string__0 (q_slices_Index___string_string__0 L K) e h :=
  wloopp (b := b_slices_Index___string_string__0 L K) I (fun _ _ _ => by kernel_rfl) hr hi
def p_slices_Index___string_string_ (L : FuncId → List V → V → Prop) (K : V → Heap → Prop) (a0 a1 : V) (h : Heap) : Prop :=
    (wi F L (.len 1 (.c a0)) E0 h fun v7 h =>
    (Wl F L lc_slices_Index___string_string__0 (q_slices_Index___string_string__0 L K) (upd (upd (upd (upd (enterE [a0, a1]) 4 (.int .i64 0)) 6 a0) 7 v7) 8 (.int .i64 0)) h))
theorem run_slices_Index___string_string_ {L : FuncId → List V → V → Prop} {K : V → Heap → Prop} {a0 a1 : V} {h : Heap} (hp : p_slices_Index___string_string_ L K a0 a1 h) : Cf F L i_slices_Index___string_string_ [a0, a1] h K :=
  wcallp F_slices_Index___string_string_ (show 2 ≤ 19 by decide) (p := p_slices_Index___string_string_ L K a0 a1 h) (by kernel_rfl) hp
def p_gatepostref01_Same (L : FuncId → List V → V → Prop) (K : V → Heap → Prop) (a0 a1 : V) (h : Heap) : Prop :=
    (wi F L (.call i_gatepostref01_Lower [(.c a0)]) E0 h fun v6 h =>
    (wi F L (.call i_gatepostref01_Lower [(.c a1)]) E0 h fun v8 h =>
    (wi F L (.bin .eql (.c v6) (.c v8)) E0 h fun v9 h =>
    (∃ v, some v9 = some v ∧ K v h))))
theorem run_gatepostref01_Same {L : FuncId → List V → V → Prop} {K : V → Heap → Prop} {a0 a1 : V} {h : Heap} (hp : p_gatepostref01_Same L K a0 a1 h) : Cf F L i_gatepostref01_Same [a0, a1] h K :=
  wcallp F_gatepostref01_Same (show 2 ≤ 10 by decide) (p := p_gatepostref01_Same L K a0 a1 h) (by kernel_rfl) hp
def k_strings_Trim_2 (L : FuncId → List V → V → Prop) (K : V → Heap → Prop) (v0 v1 : V) (h : Heap) : Prop :=
    (wi F L (.call i_strings_trimRightUnicode [(.c v0), (.c v1)]) E0 h fun v40 h =>
    (wi F L (.call i_strings_trimLeftUnicode [(.c v40), (.c v1)]) E0 h fun v42 h =>
    (∃ v, some v42 = some v ∧ K v h)))
def k_strings_Trim_1 (L : FuncId → List V → V → Prop) (K : V → Heap → Prop) (v0 v1 : V) (h : Heap) : Prop :=
    (wi F L (.call i_strings_makeASCIISet [(.c v1)]) E0 h fun v31 h =>
    (wi F L (.ext 0 (.c v31)) E0 h fun v32 h =>
    (wi F L (.ext 1 (.c v31)) E0 h fun v33 h =>
    (wi F L (.boxz (List.replicate 256 (.bool false))) E0 h fun v5 h =>
    (wi F L (.store 256 (.c v5) (.c v32)) E0 h fun _ h =>
    (wb v33
    (wi F L (.call i_strings_trimRightASCII [(.c v0), (.c v5)]) E0 h fun v36 h =>
    (wi F L (.call i_strings_trimLeftASCII [(.c v36), (.c v5)]) E0 h fun v37 h =>
    (∃ v, some v37 = some v ∧ K v h)))
    (k_strings_Trim_2 L K v0 v1 h)))))))
def k_strings_Trim_0 (L : FuncId → List V → V → Prop) (K : V → Heap → Prop) (v0 v1 : V) (h : Heap) : Prop :=
    (wi F L (.len 0 (.c v1)) E0 h fun v15 h =>
    (wi F L (.bin .eql (.c v15) (.c (.int .i64 1))) E0 h fun v16 h =>
    (wg v16 true (wi F L (.mv (.c v1)) E0 h) h fun v18 h =>
    (wg v16 true (wi F L (.ixStr (.c v18) (.c (.int .i64 0))) E0 h) h fun v19 h =>
    (wg v16 true (wi F L (.bin .lss (.c v19) (.c (.int .u8 128))) E0 h) h fun v20 h =>
    (wi F L (.pick (.c v16) (.c v20) (.c (.bool false))) E0 h fun v21 h =>
    (wb v21
    (wi F L (.ixStr (.c v1) (.c (.int .i64 0))) E0 h fun v24 h' => Ext h h' ∧
    (wi F L (.call i_strings_trimRightByte [(.c v0), (.c v24)]) E0 h' fun v25 h => Ext h' h ∧
    (wi F L (.ixStr (.c v1) (.c (.int .i64 0))) E0 h fun v27 h' => Ext h h' ∧
    (wi F L (.call i_strings_trimLeftByte [(.c v25), (.c v27)]) E0 h' fun v28 h =>
    (∃ v, some v28 = some v ∧ K v h)))))
    (k_strings_Trim_1 L K v0 v1 h))))))))
def p_strings_Trim (L : FuncId → List V → V → Prop) (K : V → Heap → Prop) (a0 a1 : V) (h : Heap) : Prop :=
    (wi F L (.bin .eql (.c a0) (.c (.str []))) E0 h fun v8 h =>
    (wg v8 false (wi F L (.mv (.c a1)) E0 h) h fun v10 h =>
    (wg v8 false (wi F L (.bin .eql (.c v10) (.c (.str []))) E0 h) h fun v11 h =>
    (wi F L (.pick (.c v8) (.c (.bool true)) (.c v11)) E0 h fun v12 h =>
    (wb v12
    (∃ v, some a0 = some v ∧ K v h)
    (k_strings_Trim_0 L K a0 a1 h))))))
theorem run_strings_Trim {L : FuncId → List V → V → Prop} {K : V → Heap → Prop} {a0 a1 : V} {h : Heap} (hp : p_strings_Trim L K a0 a1 h) : Cf F L i_strings_Trim [a0, a1] h K :=
  wcallp F_strings_Trim (show 2 ≤ 43 by decide) (p := p_strings_Trim L K a0 a1 h) (by kernel_rfl) hp
def k_internal_stringslite_Cut_0 (L : FuncId → List V → V → Prop) (K : V → Heap → Prop) (v0 : V) (h : Heap) : Prop :=
    (∃ v, resultsV h (enterE [v0, (.str []), (.bool false)]) [.tmp 0, .tmp 1, .tmp 2] = some v ∧ K v h)
def p_internal_stringslite_Cut (L : FuncId → List V → V → Prop) (K : V → Heap → Prop) (a0 a1 : V) (h : Heap) : Prop :=
    (wi F L (.call i_internal_stringslite_Index [(.c a0), (.c a1)]) E0 h fun v10 h =>
    (wi F L (.bin .geq (.c v10) (.c (.int .i64 0))) E0 h fun v12 h =>
    (wb v12
    (wi F L (.slstr (.c a0) none (some (.c v10))) E0 h fun v15 h' => Ext h h' ∧
    (wi F L (.len 0 (.c a1)) E0 h' fun v19 h => Ext h' h ∧
    (wi F L (.bin .add (.c v10) (.c v19)) E0 h fun v20 h' => Ext h h' ∧
    (wi F L (.slstr (.c a0) (some (.c v20)) none) E0 h' fun v21 h => Ext h' h ∧
    (∃ v, resultsV h (enterE [v15, v21, (.bool true)]) [.tmp 0, .tmp 1, .tmp 2] = some v ∧ K v h)))))
    (k_internal_stringslite_Cut_0 L K a0 h))))
theorem run_internal_stringslite_Cut {L : FuncId → List V → V → Prop} {K : V → Heap → Prop} {a0 a1 : V} {h : Heap} (hp : p_internal_stringslite_Cut L K a0 a1 h) : Cf F L i_internal_stringslite_Cut [a0, a1] h K :=
  wcallp F_internal_stringslite_Cut (show 2 ≤ 23 by decide) (p := p_internal_stringslite_Cut L K a0 a1 h) (by kernel_rfl) hp
def k_token_all_0 (L : FuncId → List V → V → Prop) (K : V → Heap → Prop) (h : Heap) : Prop :=
    (∃ v, some (.bool true) = some v ∧ K v h)
def k_token_all_2 (L : FuncId → List V → V → Prop) (K : V → Heap → Prop) (N0 : Env → Heap → Prop) (e : Env) (v8 : V) (h : Heap) : Prop :=
    (wi F L (.bin .add (.c v8) (.c (.int .i64 1))) E0 h fun v17 h =>
    (N0 (upd (upd e 17 v17) 8 v17) h))
def k_token_all_1 (L : FuncId → List V → V → Prop) (K : V → Heap → Prop) (N0 : Env → Heap → Prop) (e : Env) (v0 v1 v8 : V) (h : Heap) : Prop :=
    (wi F L (.ixStr (.c v0) (.c v8)) E0 h fun v14 h =>
    (wi F L (.callv (.c v1) [(.c v14)]) E0 h fun v15 h =>
    (wi F L (.un .not (.c v15)) E0 h fun v16 h =>
    (wb v16
    (∃ v, some (.bool false) = some v ∧ K v h)
    (k_token_all_2 L K N0 (upd (upd (upd (upd (upd (upd (upd (upd e 10 v8) 5 v8) 11 v1) 12 v0) 13 v8) 14 v14) 15 v15) 16 v16) v8 h)))))
def q_token_all_0 (L : FuncId → List V → V → Prop) (K : V → Heap → Prop) : X → Env → Heap → Prop := (fun x => (seqX (fun e h => k_token_all_0 L K  h) (retX c_token_all.results K)) (X.out 0 x))
def lc_token_all_0 : C :=
  (.seq (.region [⟨(some 9), none, .bin .lss (.t 8) (.t 7)⟩])
  (.seq (.cond (.t 9)
    .skip
    (.exit 0))
  (.seq (.block 1 (.seq (.region [⟨(some 10), none, .mv (.t 8)⟩, ⟨(some 5), none, .mv (.t 10)⟩])
  (.seq (.region [⟨(some 11), none, .mv (.t 1)⟩, ⟨(some 12), none, .mv (.t 0)⟩, ⟨(some 13), none, .mv (.t 5)⟩, ⟨(some 14), none, .ixStr (.t 12) (.t 13)⟩, ⟨(some 15), none, .callv (.t 11) [(.t 14)]⟩, ⟨(some 16), none, .un .not (.t 15)⟩])
  (.cond (.t 16)
    (.seq (.region [⟨(some 4), none, .mv (.c (.bool false))⟩])
    .ret)
    .skip))))
  (.region [⟨(some 17), none, .bin .add (.t 8) (.c (.int .i64 1))⟩, ⟨(some 8), none, .mv (.t 17)⟩]))))
def b_token_all_0 (L : FuncId → List V → V → Prop) (K : V → Heap → Prop) (N0 : Env → Heap → Prop) (e : Env) (h : Heap) : Prop :=
    (wi F L (.bin .lss (.c (e 8)) (.c (e 7))) E0 h fun v9 h =>
    (wb v9
    (k_token_all_1 L K N0 (upd e 9 v9) (e 0) (e 1) (e 8) h)
    (k_token_all_0 L K  h)))
theorem l_token_all_0 {L : FuncId → List V → V → Prop} {K : V → Heap → Prop} (I : Nat → Env → Heap → Prop) (hr : ∀ n e h, I n e h → b_token_all_0 L K (fun e' h' => ∃ m, m < n ∧ I m e' h') e h) {n : Nat} {e : Env} {h : Heap} (hi : I n e h) : Wl F L lc_token_all_0 (q_token_all_0 L K) e h :=
  wloopp (b := b_token_all_0 L K) I (fun _ _ _ => by kernel_rfl) hr hi
def p_token_all (L : FuncId → List V → V → Prop) (K : V → Heap → Prop) (a0 a1 : V) (h : Heap) : Prop :=
    (wi F L (.len 0 (.c a0)) E0 h fun v7 h =>
    (Wl F L lc_token_all_0 (q_token_all_0 L K) (upd (upd (upd (upd (enterE [a0, a1]) 4 (.bool false)) 6 a0) 7 v7) 8 (.int .i64 0)) h))
theorem run_token_all {L : FuncId → List V → V → Prop} {K : V → Heap → Prop} {a0 a1 : V} {h : Heap} (hp : p_token_all L K a0 a1 h) : Cf F L i_token_all [a0, a1] h K :=
  wcallp F_token_all (show 2 ≤ 18 by decide) (p := p_token_all L K a0 a1 h) (by kernel_rfl) hp
def k_token_inToken_1 (L : FuncId → List V → V → Prop) (K : V → Heap → Prop) (h : Heap) : Prop :=
    (∃ v, some (.bool false) = some v ∧ K v h)
def k_token_inToken_3 (L : FuncId → List V → V → Prop) (K : V → Heap → Prop) (N0 : Env → Heap → Prop) (e : Env) (v23 : V) (h : Heap) : Prop :=
    (wi F L (.bin .add (.c v23) (.c (.int .i64 1))) E0 h fun v29 h =>
    (N0 (upd (upd e 29 v29) 23 v29) h))
def k_token_inToken_2 (L : FuncId → List V → V → Prop) (K : V → Heap → Prop) (N0 : Env → Heap → Prop) (e : Env) (v0 v22 v23 : V) (h : Heap) : Prop :=
    (wi F L (.ixArr 15 1 false (.c v22) (.c v23)) E0 h fun v25 h =>
    (wi F L (.bin .eql (.c v25) (.c v0)) E0 h fun v28 h =>
    (wb v28
    (∃ v, some (.bool true) = some v ∧ K v h)
    (k_token_inToken_3 L K N0 (upd (upd (upd (upd (upd e 25 v25) 5 v25) 26 v25) 27 v0) 28 v28) v23 h))))
def q_token_inToken_0 (L : FuncId → List V → V → Prop) (K : V → Heap → Prop) : X → Env → Heap → Prop := (fun x => (seqX (fun e h => k_token_inToken_1 L K  h) (retX c_token_inToken.results K)) (X.out 0 x))
def lc_token_inToken_0 : C :=
  (.seq (.region [⟨(some 24), none, .bin .lss (.t 23) (.c (.int .i64 15))⟩])
  (.seq (.cond (.t 24)
    .skip
    (.exit 0))
  (.seq (.block 1 (.seq (.region [⟨(some 25), none, .ixArr 15 1 false (.t 22) (.t 23)⟩, ⟨(some 5), none, .mv (.t 25)⟩])
  (.seq (.region [⟨(some 26), none, .mv (.t 5)⟩, ⟨(some 27), none, .mv (.t 0)⟩, ⟨(some 28), none, .bin .eql (.t 26) (.t 27)⟩])
  (.cond (.t 28)
    (.seq (.region [⟨(some 2), none, .mv (.c (.bool true))⟩])
    .ret)
    .skip))))
  (.region [⟨(some 29), none, .bin .add (.t 23) (.c (.int .i64 1))⟩, ⟨(some 23), none, .mv (.t 29)⟩]))))
def b_token_inToken_0 (L : FuncId → List V → V → Prop) (K : V → Heap → Prop) (N0 : Env → Heap → Prop) (e : Env) (h : Heap) : Prop :=
    (wi F L (.bin .lss (.c (e 23)) (.c (.int .i64 15))) E0 h fun v24 h =>
    (wb v24
    (k_token_inToken_2 L K N0 (upd e 24 v24) (e 0) (e 22) (e 23) h)
    (k_token_inToken_1 L K  h)))
theorem l_token_inToken_0 {L : FuncId → List V → V → Prop} {K : V → Heap → Prop} (I : Nat → Env → Heap → Prop) (hr : ∀ n e h, I n e h → b_token_inToken_0 L K (fun e' h' => ∃ m, m < n ∧ I m e' h') e h) {n : Nat} {e : Env} {h : Heap} (hi : I n e h) : Wl F L lc_token_inToken_0 (q_token_inToken_0 L K) e h :=
  wloopp (b := b_token_inToken_0 L K) I (fun _ _ _ => by kernel_rfl) hr hi
def k_token_inToken_0 (L : FuncId → List V → V → Prop) (K : V → Heap → Prop) (e : Env) (h : Heap) : Prop :=
    (wi F L (.call i_token_marks []) E0 h fun v22 h =>
    (Wl F L lc_token_inToken_0 (q_token_inToken_0 L K) (upd (upd e 22 v22) 23 (.int .i64 0)) h))
def p_token_inToken (L : FuncId → List V → V → Prop) (K : V → Heap → Prop) (a0 : V) (h : Heap) : Prop :=
    (wi F L (.bin .or (.c a0) (.c (.int .u8 32))) E0 h fun v7 h =>
    (wi F L (.bin .geq (.c v7) (.c (.int .u8 97))) E0 h fun v9 h =>
    (wg v9 true (wi F L (.mv (.c v7)) E0 h) h fun v11 h =>
    (wg v9 true (wi F L (.bin .leq (.c v11) (.c (.int .u8 122))) E0 h) h fun v12 h =>
    (wi F L (.pick (.c v9) (.c v12) (.c (.bool false))) E0 h fun v13 h =>
    (wg v13 false (wi F L (.mv (.c a0)) E0 h) h fun v15 h =>
    (wg v13 false (wi F L (.bin .geq (.c v15) (.c (.int .u8 48))) E0 h) h fun v16 h =>
    (wg v13 false (wi F L (.mv (.c v16)) E0 h) h fun v17 h =>
    (wg v17 true (wi F L (.mv (.c a0)) E0 h) h fun v18 h =>
    (wg v17 true (wi F L (.bin .leq (.c v18) (.c (.int .u8 57))) E0 h) h fun v19 h =>
    (wg v13 false (wi F L (.pick (.c v17) (.c v19) (.c (.bool false))) E0 h) h fun v20 h =>
    (wi F L (.pick (.c v13) (.c (.bool true)) (.c v20)) E0 h fun v21 h =>
    (wb v21
    (∃ v, some (.bool true) = some v ∧ K v h)
    (k_token_inToken_0 L K (upd (upd (upd (upd (upd (upd (upd (upd (upd (upd (upd (upd (upd (upd (upd (upd (upd (upd (enterE [a0]) 2 (.bool false)) 6 a0) 7 v7) 3 v7) 8 v7) 9 v9) 10 v9) 11 v11) 12 v12) 13 v13) 14 v13) 15 v15) 16 v16) 17 v17) 18 v18) 19 v19) 20 v20) 21 v21)  h))))))))))))))
theorem run_token_inToken {L : FuncId → List V → V → Prop} {K : V → Heap → Prop} {a0 : V} {h : Heap} (hp : p_token_inToken L K a0 h) : Cf F L i_token_inToken [a0] h K :=
  wcallp F_token_inToken (show 1 ≤ 30 by decide) (p := p_token_inToken L K a0 h) (by kernel_rfl) hp
def p_token_Number_1 (L : FuncId → List V → V → Prop) (K : V → Heap → Prop) (a0 : V) (h : Heap) : Prop :=
    (wi F L (.bin .geq (.c a0) (.c (.int .u8 48))) E0 h fun v4 h =>
    (wg v4 true (wi F L (.mv (.c a0)) E0 h) h fun v6 h =>
    (wg v4 true (wi F L (.bin .leq (.c v6) (.c (.int .u8 57))) E0 h) h fun v7 h =>
    (wi F L (.pick (.c v4) (.c v7) (.c (.bool false))) E0 h fun v8 h =>
    (∃ v, some v8 = some v ∧ K v h)))))
theorem run_token_Number_1 {L : FuncId → List V → V → Prop} {K : V → Heap → Prop} {a0 : V} {h : Heap} (hp : p_token_Number_1 L K a0 h) : Cf F L i_token_Number_1 [a0] h K :=
  wcallp F_token_Number_1 (show 1 ≤ 9 by decide) (p := p_token_Number_1 L K a0 h) (by kernel_rfl) hp
def p_gatepostref01_blank (L : FuncId → List V → V → Prop) (K : V → Heap → Prop) (a0 : V) (h : Heap) : Prop :=
    (wi F L (.bin .eql (.c a0) (.c (.int .u8 32))) E0 h fun v4 h =>
    (wg v4 false (wi F L (.mv (.c a0)) E0 h) h fun v6 h =>
    (wg v4 false (wi F L (.bin .eql (.c v6) (.c (.int .u8 9))) E0 h) h fun v7 h =>
    (wi F L (.pick (.c v4) (.c (.bool true)) (.c v7)) E0 h fun v8 h =>
    (∃ v, some v8 = some v ∧ K v h)))))
theorem run_gatepostref01_blank {L : FuncId → List V → V → Prop} {K : V → Heap → Prop} {a0 : V} {h : Heap} (hp : p_gatepostref01_blank L K a0 h) : Cf F L i_gatepostref01_blank [a0] h K :=
  wcallp F_gatepostref01_blank (show 1 ≤ 9 by decide) (p := p_gatepostref01_blank L K a0 h) (by kernel_rfl) hp
def k_gatepostref01_tchar_1 (L : FuncId → List V → V → Prop) (K : V → Heap → Prop) (h : Heap) : Prop :=
    (∃ v, some (.bool false) = some v ∧ K v h)
def k_gatepostref01_tchar_2 (L : FuncId → List V → V → Prop) (K : V → Heap → Prop) (v26 : V) (h : Heap) : Prop :=
    (wb v26
    (∃ v, some (.bool true) = some v ∧ K v h)
    (k_gatepostref01_tchar_1 L K  h))
def k_gatepostref01_tchar_0 (L : FuncId → List V → V → Prop) (K : V → Heap → Prop) (v0 : V) (h : Heap) : Prop :=
    (wi F L (.bin .eql (.c v0) (.c (.int .u8 33))) E0 h fun v27 h =>
    (wb v27
    (k_gatepostref01_tchar_2 L K v27 h)
    (wi F L (.bin .eql (.c v0) (.c (.int .u8 35))) E0 h fun v28 h =>
    (wb v28
    (k_gatepostref01_tchar_2 L K v28 h)
    (wi F L (.bin .eql (.c v0) (.c (.int .u8 36))) E0 h fun v29 h =>
    (wb v29
    (k_gatepostref01_tchar_2 L K v29 h)
    (wi F L (.bin .eql (.c v0) (.c (.int .u8 37))) E0 h fun v30 h =>
    (wb v30
    (k_gatepostref01_tchar_2 L K v30 h)
    (wi F L (.bin .eql (.c v0) (.c (.int .u8 38))) E0 h fun v31 h =>
    (wb v31
    (k_gatepostref01_tchar_2 L K v31 h)
    (wi F L (.bin .eql (.c v0) (.c (.int .u8 39))) E0 h fun v32 h =>
    (wb v32
    (k_gatepostref01_tchar_2 L K v32 h)
    (wi F L (.bin .eql (.c v0) (.c (.int .u8 42))) E0 h fun v33 h =>
    (wb v33
    (k_gatepostref01_tchar_2 L K v33 h)
    (wi F L (.bin .eql (.c v0) (.c (.int .u8 43))) E0 h fun v34 h =>
    (wb v34
    (k_gatepostref01_tchar_2 L K v34 h)
    (wi F L (.bin .eql (.c v0) (.c (.int .u8 45))) E0 h fun v35 h =>
    (wb v35
    (k_gatepostref01_tchar_2 L K v35 h)
    (wi F L (.bin .eql (.c v0) (.c (.int .u8 46))) E0 h fun v36 h =>
    (wb v36
    (k_gatepostref01_tchar_2 L K v36 h)
    (wi F L (.bin .eql (.c v0) (.c (.int .u8 94))) E0 h fun v37 h =>
    (wb v37
    (k_gatepostref01_tchar_2 L K v37 h)
    (wi F L (.bin .eql (.c v0) (.c (.int .u8 95))) E0 h fun v38 h =>
    (wb v38
    (k_gatepostref01_tchar_2 L K v38 h)
    (wi F L (.bin .eql (.c v0) (.c (.int .u8 96))) E0 h fun v39 h =>
    (wb v39
    (k_gatepostref01_tchar_2 L K v39 h)
    (wi F L (.bin .eql (.c v0) (.c (.int .u8 124))) E0 h fun v40 h =>
    (wb v40
    (k_gatepostref01_tchar_2 L K v40 h)
    (wi F L (.bin .eql (.c v0) (.c (.int .u8 126))) E0 h fun v41 h =>
    (k_gatepostref01_tchar_2 L K v41 h))))))))))))))))))))))))))))))
def p_gatepostref01_tchar (L : FuncId → List V → V → Prop) (K : V → Heap → Prop) (a0 : V) (h : Heap) : Prop :=
    (wi F L (.bin .geq (.c a0) (.c (.int .u8 97))) E0 h fun v4 h =>
    (wg v4 true (wi F L (.mv (.c a0)) E0 h) h fun v6 h =>
    (wg v4 true (wi F L (.bin .leq (.c v6) (.c (.int .u8 122))) E0 h) h fun v7 h =>
    (wi F L (.pick (.c v4) (.c v7) (.c (.bool false))) E0 h fun v8 h =>
    (wg v8 false (wi F L (.mv (.c a0)) E0 h) h fun v10 h =>
    (wg v8 false (wi F L (.bin .geq (.c v10) (.c (.int .u8 65))) E0 h) h fun v11 h =>
    (wg v8 false (wi F L (.mv (.c v11)) E0 h) h fun v12 h =>
    (wg v12 true (wi F L (.mv (.c a0)) E0 h) h fun v13 h =>
    (wg v12 true (wi F L (.bin .leq (.c v13) (.c (.int .u8 90))) E0 h) h fun v14 h =>
    (wg v8 false (wi F L (.pick (.c v12) (.c v14) (.c (.bool false))) E0 h) h fun v15 h =>
    (wi F L (.pick (.c v8) (.c (.bool true)) (.c v15)) E0 h fun v16 h =>
    (wg v16 false (wi F L (.mv (.c a0)) E0 h) h fun v18 h =>
    (wg v16 false (wi F L (.bin .geq (.c v18) (.c (.int .u8 48))) E0 h) h fun v19 h =>
    (wg v16 false (wi F L (.mv (.c v19)) E0 h) h fun v20 h =>
    (wg v20 true (wi F L (.mv (.c a0)) E0 h) h fun v21 h =>
    (wg v20 true (wi F L (.bin .leq (.c v21) (.c (.int .u8 57))) E0 h) h fun v22 h =>
    (wg v16 false (wi F L (.pick (.c v20) (.c v22) (.c (.bool false))) E0 h) h fun v23 h =>
    (wi F L (.pick (.c v16) (.c (.bool true)) (.c v23)) E0 h fun v24 h =>
    (wb v24
    (∃ v, some (.bool true) = some v ∧ K v h)
    (k_gatepostref01_tchar_0 L K a0 h))))))))))))))))))))
theorem run_gatepostref01_tchar {L : FuncId → List V → V → Prop} {K : V → Heap → Prop} {a0 : V} {h : Heap} (hp : p_gatepostref01_tchar L K a0 h) : Cf F L i_gatepostref01_tchar [a0] h K :=
  wcallp F_gatepostref01_tchar (show 1 ≤ 42 by decide) (p := p_gatepostref01_tchar L K a0 h) (by kernel_rfl) hp
def p_gatepostref01_text (L : FuncId → List V → V → Prop) (K : V → Heap → Prop) (a0 : V) (h : Heap) : Prop :=
    (wi F L (.bin .eql (.c a0) (.c (.int .u8 9))) E0 h fun v4 h =>
    (wg v4 false (wi F L (.mv (.c a0)) E0 h) h fun v6 h =>
    (wg v4 false (wi F L (.bin .geq (.c v6) (.c (.int .u8 32))) E0 h) h fun v7 h =>
    (wg v4 false (wi F L (.mv (.c v7)) E0 h) h fun v8 h =>
    (wg v8 true (wi F L (.mv (.c a0)) E0 h) h fun v9 h =>
    (wg v8 true (wi F L (.bin .neq (.c v9) (.c (.int .u8 127))) E0 h) h fun v10 h =>
    (wg v4 false (wi F L (.pick (.c v8) (.c v10) (.c (.bool false))) E0 h) h fun v11 h =>
    (wi F L (.pick (.c v4) (.c (.bool true)) (.c v11)) E0 h fun v12 h =>
    (∃ v, some v12 = some v ∧ K v h)))))))))
theorem run_gatepostref01_text {L : FuncId → List V → V → Prop} {K : V → Heap → Prop} {a0 : V} {h : Heap} (hp : p_gatepostref01_text L K a0 h) : Cf F L i_gatepostref01_text [a0] h K :=
  wcallp F_gatepostref01_text (show 1 ≤ 13 by decide) (p := p_gatepostref01_text L K a0 h) (by kernel_rfl) hp
def k_strings_makeASCIISet_0 (L : FuncId → List V → V → Prop) (K : V → Heap → Prop) (v2 : V) (h : Heap) : Prop :=
    (wi F L (.load true 256 (.c v2)) E0 h fun v20 h =>
    (wi F L (.store 256 (.c v2) (.c v20)) E0 h fun _ h =>
    (∃ v, resultsV h (enterE [v2, (.bool true)]) [.cell 0 true 256, .tmp 1] = some v ∧ K v h)))
def k_strings_makeASCIISet_2 (L : FuncId → List V → V → Prop) (K : V → Heap → Prop) (N0 : Env → Heap → Prop) (e : Env) (v4 : V) (h : Heap) : Prop :=
    (wi F L (.bin .add (.c v4) (.c (.int .i64 1))) E0 h fun v11 h =>
    (N0 (upd (upd (upd e 10 v4) 11 v11) 4 v11) h))
def k_strings_makeASCIISet_3 (L : FuncId → List V → V → Prop) (K : V → Heap → Prop) (N0 : Env → Heap → Prop) (e : Env) (v2 v4 v5 : V) (h : Heap) : Prop :=
    (wi F L (.ixaArr 256 1 (.c v2) (.c v5)) E0 h fun v19 h =>
    (wi F L (.store 1 (.c v19) (.c (.bool true))) E0 h fun _ h =>
    (k_strings_makeASCIISet_2 L K N0 (upd (upd e 18 v5) 19 v19) v4 h)))
def k_strings_makeASCIISet_1 (L : FuncId → List V → V → Prop) (K : V → Heap → Prop) (N0 : Env → Heap → Prop) (e : Env) (v0 v2 v4 : V) (h : Heap) : Prop :=
    (wi F L (.ixStr (.c v0) (.c v4)) E0 h fun v14 h =>
    (wi F L (.bin .geq (.c v14) (.c (.int .u8 128))) E0 h fun v16 h =>
    (wb v16
    (wi F L (.load true 256 (.c v2)) E0 h fun v17 h =>
    (wi F L (.store 256 (.c v2) (.c v17)) E0 h fun _ h =>
    (∃ v, resultsV h (enterE [v2, (.bool false)]) [.cell 0 true 256, .tmp 1] = some v ∧ K v h)))
    (k_strings_makeASCIISet_3 L K N0 (upd (upd (upd (upd (upd (upd e 12 v0) 13 v4) 14 v14) 5 v14) 15 v14) 16 v16) v2 v4 v14 h))))
def q_strings_makeASCIISet_0 (L : FuncId → List V → V → Prop) (K : V → Heap → Prop) : X → Env → Heap → Prop := (fun x => (seqX (fun e h => k_strings_makeASCIISet_0 L K (e 2) h) (retX c_strings_makeASCIISet.results K)) (X.out 0 x))
def lc_strings_makeASCIISet_0 : C :=
  (.seq (.seq (.region [⟨(some 6), none, .mv (.t 4)⟩, ⟨(some 7), none, .mv (.t 0)⟩, ⟨(some 8), none, .len 0 (.t 7)⟩, ⟨(some 9), none, .bin .lss (.t 6) (.t 8)⟩])
  (.cond (.t 9)
    .skip
    (.exit 0)))
  (.seq (.block 1 (.seq (.region [⟨(some 12), none, .mv (.t 0)⟩, ⟨(some 13), none, .mv (.t 4)⟩, ⟨(some 14), none, .ixStr (.t 12) (.t 13)⟩, ⟨(some 5), none, .mv (.t 14)⟩])
  (.seq (.seq (.region [⟨(some 15), none, .mv (.t 5)⟩, ⟨(some 16), none, .bin .geq (.t 15) (.c (.int .u8 128))⟩])
  (.cond (.t 16)
    (.seq (.region [⟨(some 17), none, .load true 256 (.t 2)⟩, ⟨none, none, .store 256 (.t 2) (.t 17)⟩, ⟨(some 3), none, .mv (.c (.bool false))⟩])
    .ret)
    .skip))
  (.region [⟨(some 18), none, .mv (.t 5)⟩, ⟨(some 19), none, .ixaArr 256 1 (.t 2) (.t 18)⟩, ⟨none, none, .store 1 (.t 19) (.c (.bool true))⟩]))))
  (.region [⟨(some 10), none, .mv (.t 4)⟩, ⟨(some 11), none, .bin .add (.t 10) (.c (.int .i64 1))⟩, ⟨(some 4), none, .mv (.t 11)⟩])))
def b_strings_makeASCIISet_0 (L : FuncId → List V → V → Prop) (K : V → Heap → Prop) (N0 : Env → Heap → Prop) (e : Env) (h : Heap) : Prop :=
    (wi F L (.len 0 (.c (e 0))) E0 h fun v8 h =>
    (wi F L (.bin .lss (.c (e 4)) (.c v8)) E0 h fun v9 h =>
    (wb v9
    (k_strings_makeASCIISet_1 L K N0 (upd (upd (upd (upd e 6 (e 4)) 7 (e 0)) 8 v8) 9 v9) (e 0) (e 2) (e 4) h)
    (k_strings_makeASCIISet_0 L K (e 2) h))))
theorem l_strings_makeASCIISet_0 {L : FuncId → List V → V → Prop} {K : V → Heap → Prop} (I : Nat → Env → Heap → Prop) (hr : ∀ n e h, I n e h → b_strings_makeASCIISet_0 L K (fun e' h' => ∃ m, m < n ∧ I m e' h') e h) {n : Nat} {e : Env} {h : Heap} (hi : I n e h) : Wl F L lc_strings_makeASCIISet_0 (q_strings_makeASCIISet_0 L K) e h :=
  wloopp (b := b_strings_makeASCIISet_0 L K) I (fun _ _ _ => by kernel_rfl) hr hi
def p_strings_makeASCIISet (L : FuncId → List V → V → Prop) (K : V → Heap → Prop) (a0 : V) (h : Heap) : Prop :=
    (wi F L (.boxz (List.replicate 256 (.bool false))) E0 h fun v2 h =>
    (Wl F L lc_strings_makeASCIISet_0 (q_strings_makeASCIISet_0 L K) (upd (upd (upd (enterE [a0]) 2 v2) 3 (.bool false)) 4 (.int .i64 0)) h))
theorem run_strings_makeASCIISet {L : FuncId → List V → V → Prop} {K : V → Heap → Prop} {a0 : V} {h : Heap} (hp : p_strings_makeASCIISet L K a0 h) : Cf F L i_strings_makeASCIISet [a0] h K :=
  wcallp F_strings_makeASCIISet (show 1 ≤ 21 by decide) (p := p_strings_makeASCIISet L K a0 h) (by kernel_rfl) hp
def k_strings_trimLeftASCII_0 (L : FuncId → List V → V → Prop) (K : V → Heap → Prop) (v0 : V) (h : Heap) : Prop :=
    (∃ v, some v0 = some v ∧ K v h)
def k_strings_trimLeftASCII_2 (L : FuncId → List V → V → Prop) (K : V → Heap → Prop) (N0 : Env → Heap → Prop) (e : Env) (v0 : V) (h : Heap) : Prop :=
    (wi F L (.slstr (.c v0) (some (.c (.int .i64 1))) none) E0 h fun v14 h =>
    (N0 (upd (upd (upd e 13 v0) 14 v14) 0 v14) h))
def k_strings_trimLeftASCII_1 (L : FuncId → List V → V → Prop) (K : V → Heap → Prop) (N0 : Env → Heap → Prop) (e : Env) (v0 v1 : V) (h : Heap) : Prop :=
    (wi F L (.ixStr (.c v0) (.c (.int .i64 0))) E0 h fun v10 h =>
    (wi F L (.call i___strings_asciiSet__contains [(.c v1), (.c v10)]) E0 h fun v11 h =>
    (wi F L (.un .not (.c v11)) E0 h fun v12 h =>
    (wb v12
    (k_strings_trimLeftASCII_0 L K v0 h)
    (k_strings_trimLeftASCII_2 L K N0 (upd (upd (upd (upd (upd e 8 v1) 9 v0) 10 v10) 11 v11) 12 v12) v0 h)))))
def q_strings_trimLeftASCII_0 (L : FuncId → List V → V → Prop) (K : V → Heap → Prop) : X → Env → Heap → Prop := (fun x => (seqX (fun e h => k_strings_trimLeftASCII_0 L K (e 0) h) (retX c_strings_trimLeftASCII.results K)) (X.out 0 x))
def lc_strings_trimLeftASCII_0 : C :=
  (.seq (.seq (.region [⟨(some 5), none, .mv (.t 0)⟩, ⟨(some 6), none, .len 0 (.t 5)⟩, ⟨(some 7), none, .bin .gtr (.t 6) (.c (.int .i64 0))⟩])
  (.cond (.t 7)
    .skip
    (.exit 0)))
  (.block 1 (.seq (.seq (.region [⟨(some 8), none, .mv (.t 1)⟩, ⟨(some 9), none, .mv (.t 0)⟩, ⟨(some 10), none, .ixStr (.t 9) (.c (.int .i64 0))⟩, ⟨(some 11), none, .call i___strings_asciiSet__contains [(.t 8), (.t 10)]⟩, ⟨(some 12), none, .un .not (.t 11)⟩])
  (.cond (.t 12)
    (.exit 0)
    .skip))
  (.region [⟨(some 13), none, .mv (.t 0)⟩, ⟨(some 14), none, .slstr (.t 13) (some (.c (.int .i64 1))) none⟩, ⟨(some 0), none, .mv (.t 14)⟩]))))
def b_strings_trimLeftASCII_0 (L : FuncId → List V → V → Prop) (K : V → Heap → Prop) (N0 : Env → Heap → Prop) (e : Env) (h : Heap) : Prop :=
    (wi F L (.len 0 (.c (e 0))) E0 h fun v6 h =>
    (wi F L (.bin .gtr (.c v6) (.c (.int .i64 0))) E0 h fun v7 h =>
    (wb v7
    (k_strings_trimLeftASCII_1 L K N0 (upd (upd (upd e 5 (e 0)) 6 v6) 7 v7) (e 0) (e 1) h)
    (k_strings_trimLeftASCII_0 L K (e 0) h))))
theorem l_strings_trimLeftASCII_0 {L : FuncId → List V → V → Prop} {K : V → Heap → Prop} (I : Nat → Env → Heap → Prop) (hr : ∀ n e h, I n e h → b_strings_trimLeftASCII_0 L K (fun e' h' => ∃ m, m < n ∧ I m e' h') e h) {n : Nat} {e : Env} {h : Heap} (hi : I n e h) : Wl F L lc_strings_trimLeftASCII_0 (q_strings_trimLeftASCII_0 L K) e h :=
  wloopp (b := b_strings_trimLeftASCII_0 L K) I (fun _ _ _ => by kernel_rfl) hr hi
def p_strings_trimLeftASCII (L : FuncId → List V → V → Prop) (K : V → Heap → Prop) (a0 a1 : V) (h : Heap) : Prop :=
    (Wl F L lc_strings_trimLeftASCII_0 (q_strings_trimLeftASCII_0 L K) (upd (enterE [a0, a1]) 4 (.str [])) h)
theorem run_strings_trimLeftASCII {L : FuncId → List V → V → Prop} {K : V → Heap → Prop} {a0 a1 : V} {h : Heap} (hp : p_strings_trimLeftASCII L K a0 a1 h) : Cf F L i_strings_trimLeftASCII [a0, a1] h K :=
  wcallp F_strings_trimLeftASCII (show 2 ≤ 16 by decide) (p := p_strings_trimLeftASCII L K a0 a1 h) (by kernel_rfl) hp
def k_strings_trimRightASCII_0 (L : FuncId → List V → V → Prop) (K : V → Heap → Prop) (v0 : V) (h : Heap) : Prop :=
    (∃ v, some v0 = some v ∧ K v h)
def k_strings_trimRightASCII_2 (L : FuncId → List V → V → Prop) (K : V → Heap → Prop) (N0 : Env → Heap → Prop) (e : Env) (v0 : V) (h : Heap) : Prop :=
    (wi F L (.len 0 (.c v0)) E0 h fun v18 h =>
    (wi F L (.bin .sub (.c v18) (.c (.int .i64 1))) E0 h fun v19 h =>
    (wi F L (.slstr (.c v0) none (some (.c v19))) E0 h fun v20 h =>
    (N0 (upd (upd (upd (upd (upd (upd e 16 v0) 17 v0) 18 v18) 19 v19) 20 v20) 0 v20) h))))
def k_strings_trimRightASCII_1 (L : FuncId → List V → V → Prop) (K : V → Heap → Prop) (N0 : Env → Heap → Prop) (e : Env) (v0 v1 : V) (h : Heap) : Prop :=
    (wi F L (.len 0 (.c v0)) E0 h fun v11 h =>
    (wi F L (.bin .sub (.c v11) (.c (.int .i64 1))) E0 h fun v12 h =>
    (wi F L (.ixStr (.c v0) (.c v12)) E0 h fun v13 h =>
    (wi F L (.call i___strings_asciiSet__contains [(.c v1), (.c v13)]) E0 h fun v14 h =>
    (wi F L (.un .not (.c v14)) E0 h fun v15 h =>
    (wb v15
    (k_strings_trimRightASCII_0 L K v0 h)
    (k_strings_trimRightASCII_2 L K N0 (upd (upd (upd (upd (upd (upd (upd (upd e 8 v1) 9 v0) 10 v0) 11 v11) 12 v12) 13 v13) 14 v14) 15 v15) v0 h)))))))
def q_strings_trimRightASCII_0 (L : FuncId → List V → V → Prop) (K : V → Heap → Prop) : X → Env → Heap → Prop := (fun x => (seqX (fun e h => k_strings_trimRightASCII_0 L K (e 0) h) (retX c_strings_trimRightASCII.results K)) (X.out 0 x))
def lc_strings_trimRightASCII_0 : C :=
  (.seq (.seq (.region [⟨(some 5), none, .mv (.t 0)⟩, ⟨(some 6), none, .len 0 (.t 5)⟩, ⟨(some 7), none, .bin .gtr (.t 6) (.c (.int .i64 0))⟩])
  (.cond (.t 7)
    .skip
    (.exit 0)))
  (.block 1 (.seq (.seq (.region [⟨(some 8), none, .mv (.t 1)⟩, ⟨(some 9), none, .mv (.t 0)⟩, ⟨(some 10), none, .mv (.t 0)⟩, ⟨(some 11), none, .len 0 (.t 10)⟩, ⟨(some 12), none, .bin .sub (.t 11) (.c (.int .i64 1))⟩, ⟨(some 13), none, .ixStr (.t 9) (.t 12)⟩, ⟨(some 14), none, .call i___strings_asciiSet__contains [(.t 8), (.t 13)]⟩, ⟨(some 15), none, .un .not (.t 14)⟩])
  (.cond (.t 15)
    (.exit 0)
    .skip))
  (.region [⟨(some 16), none, .mv (.t 0)⟩, ⟨(some 17), none, .mv (.t 0)⟩, ⟨(some 18), none, .len 0 (.t 17)⟩, ⟨(some 19), none, .bin .sub (.t 18) (.c (.int .i64 1))⟩, ⟨(some 20), none, .slstr (.t 16) none (some (.t 19))⟩, ⟨(some 0), none, .mv (.t 20)⟩]))))
def b_strings_trimRightASCII_0 (L : FuncId → List V → V → Prop) (K : V → Heap → Prop) (N0 : Env → Heap → Prop) (e : Env) (h : Heap) : Prop :=
    (wi F L (.len 0 (.c (e 0))) E0 h fun v6 h =>
    (wi F L (.bin .gtr (.c v6) (.c (.int .i64 0))) E0 h fun v7 h =>
    (wb v7
    (k_strings_trimRightASCII_1 L K N0 (upd (upd (upd e 5 (e 0)) 6 v6) 7 v7) (e 0) (e 1) h)
    (k_strings_trimRightASCII_0 L K (e 0) h))))
theorem l_strings_trimRightASCII_0 {L : FuncId → List V → V → Prop} {K : V → Heap → Prop} (I : Nat → Env → Heap → Prop) (hr : ∀ n e h, I n e h → b_strings_trimRightASCII_0 L K (fun e' h' => ∃ m, m < n ∧ I m e' h') e h) {n : Nat} {e : Env} {h : Heap} (hi : I n e h) : Wl F L lc_strings_trimRightASCII_0 (q_strings_trimRightASCII_0 L K) e h :=
  wloopp (b := b_strings_trimRightASCII_0 L K) I (fun _ _ _ => by kernel_rfl) hr hi
def p_strings_trimRightASCII (L : FuncId → List V → V → Prop) (K : V → Heap → Prop) (a0 a1 : V) (h : Heap) : Prop :=
    (Wl F L lc_strings_trimRightASCII_0 (q_strings_trimRightASCII_0 L K) (upd (enterE [a0, a1]) 4 (.str [])) h)
theorem run_strings_trimRightASCII {L : FuncId → List V → V → Prop} {K : V → Heap → Prop} {a0 a1 : V} {h : Heap} (hp : p_strings_trimRightASCII L K a0 a1 h) : Cf F L i_strings_trimRightASCII [a0, a1] h K :=
  wcallp F_strings_trimRightASCII (show 2 ≤ 22 by decide) (p := p_strings_trimRightASCII L K a0 a1 h) (by kernel_rfl) hp
def p_token_marks (L : FuncId → List V → V → Prop) (K : V → Heap → Prop) (h : Heap) : Prop :=
    (wi F L (.boxz [(.int .u8 0), (.int .u8 0), (.int .u8 0), (.int .u8 0), (.int .u8 0), (.int .u8 0), (.int .u8 0), (.int .u8 0), (.int .u8 0), (.int .u8 0), (.int .u8 0), (.int .u8 0), (.int .u8 0), (.int .u8 0), (.int .u8 0)]) E0 h fun v0 h =>
    (wi F L (.build [(.int .u8 0), (.int .u8 0), (.int .u8 0), (.int .u8 0), (.int .u8 0), (.int .u8 0), (.int .u8 0), (.int .u8 0), (.int .u8 0), (.int .u8 0), (.int .u8 0), (.int .u8 0), (.int .u8 0), (.int .u8 0), (.int .u8 0)] [(0, 1, (.c (.int .u8 33))), (1, 1, (.c (.int .u8 35))), (2, 1, (.c (.int .u8 36))), (3, 1, (.c (.int .u8 37))), (4, 1, (.c (.int .u8 38))), (5, 1, (.c (.int .u8 39))), (6, 1, (.c (.int .u8 42))), (7, 1, (.c (.int .u8 43))), (8, 1, (.c (.int .u8 45))), (9, 1, (.c (.int .u8 46))), (10, 1, (.c (.int .u8 94))), (11, 1, (.c (.int .u8 95))), (12, 1, (.c (.int .u8 96))), (13, 1, (.c (.int .u8 124))), (14, 1, (.c (.int .u8 126)))]) E0 h fun v1 h =>
    (wi F L (.store 15 (.c v0) (.c v1)) E0 h fun _ h =>
    (∃ v, resultsV h (enterE [v0]) [.cell 0 true 15] = some v ∧ K v h))))
theorem run_token_marks {L : FuncId → List V → V → Prop} {K : V → Heap → Prop} {h : Heap} (hp : p_token_marks L K  h) : Cf F L i_token_marks [] h K :=
  wcallp F_token_marks (show 0 ≤ 2 by decide) (p := p_token_marks L K  h) (by kernel_rfl) hp
def p___strings_asciiSet__contains (L : FuncId → List V → V → Prop) (K : V → Heap → Prop) (a0 a1 : V) (h : Heap) : Prop :=
    (wi F L (.nilck (.c a0)) E0 h fun v7 h =>
    (wi F L (.ixaArr 256 1 (.c v7) (.c a1)) E0 h fun v8 h =>
    (wi F L (.load false 1 (.c v8)) E0 h fun v9 h =>
    (∃ v, some v9 = some v ∧ K v h))))
theorem run___strings_asciiSet__contains {L : FuncId → List V → V → Prop} {K : V → Heap → Prop} {a0 a1 : V} {h : Heap} (hp : p___strings_asciiSet__contains L K a0 a1 h) : Cf F L i___strings_asciiSet__contains [a0, a1] h K :=
  wcallp F___strings_asciiSet__contains (show 2 ≤ 10 by decide) (p := p___strings_asciiSet__contains L K a0 a1 h) (by kernel_rfl) hp
theorem hF : ∀ f fn, F f = some fn → compF Tryd.prog f = some fn := lookup_all ⟨kc_gatepostlaw08_ControlJoins, kc_gatepostlaw08_ControlNumbers, kc_gatepostlaw08_ControlTells, kc_control_Parse, kc_gatepostlaw08_less, kc_gatepostlaw08_number, kc_gatepostref08_Parse, kc_control_Of, kc_gatepostref08_Of, kc_control_nothing, kc_token_Split, kc_control_rules, kc_token_Pair, kc_token_Lower, kc__gatepost_control_rule__value, kc_gatepostref08_None, kc_gatepostref01_Split, kc_gatepostref01_Pair, kc_gatepostref01_Number, kc_gatepostref01_Lower, kc_gatepostref08_least, kc_field_Get, kc_slices_Contains___string_string_, kc_gatepostref04_Get, kc_token_Split_1, kc_token_Trim, kc_control_rules_1, kc_control_rules_2, kc_control_rules_3, kc_control_rules_4, kc_control_rules_5, kc_control_rules_6, kc_control_rules_7, kc_control_rules_8, kc_control_rules_9, kc_control_rules_10, kc_control_rules_11, kc_control_rules_12, kc_control_rules_13, kc_control_rules_14, kc_control_rules_15, kc_strings_Cut, kc_token_Is, kc_token_unquote, kc_token_Number, kc_gatepostref01_Trim, kc_gatepostref01_Is, kc_gatepostref01_unquote, kc_token_Same, kc_slices_Index___string_string_, kc_gatepostref01_Same, kc_strings_Trim, kc_internal_stringslite_Cut, kc_token_all, kc_token_inToken, kc_token_inQuotes, kc_token_Number_1, kc_gatepostref01_blank, kc_gatepostref01_tchar, kc_gatepostref01_text, kc_strings_makeASCIISet, kc_strings_trimLeftASCII, kc_strings_trimRightASCII, kc_token_marks, kc___strings_asciiSet__contains, trivial⟩
theorem hm : Tryd.prog.follows .mixedOrders = true := by kernel_rfl
end Go.Proofs.YtgplldjcopfjpaaDoor.Vh
end
