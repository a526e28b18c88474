/- The functions of a seat, compiled for the small machine. Printed by Print.lean. -/
import Derived.Test.YtnfcjeajbjcppaaDoorPk3
import Derived.KernelRfl
section
set_option maxRecDepth 100000
set_option linter.unusedVariables false
namespace Go.Proofs.YtnfcjeajbjcppaaDoor.Vh
open Go.Vm
theorem kc_gatepostlaw05_HeadNobody : compF Tryd.prog i_gatepostlaw05_HeadNobody = some c_gatepostlaw05_HeadNobody := by kernel_rfl
theorem kc_gatepostlaw05_HeadMany : compF Tryd.prog i_gatepostlaw05_HeadMany = some c_gatepostlaw05_HeadMany := by kernel_rfl
theorem kc_gatepostlaw05_HeadFields : compF Tryd.prog i_gatepostlaw05_HeadFields = some c_gatepostlaw05_HeadFields := by kernel_rfl
theorem F_gatepostlaw05_HeadReads : F i_gatepostlaw05_HeadReads = some c_gatepostlaw05_HeadReads := rfl
theorem kc_gatepostlaw05_HeadReads : compF Tryd.prog i_gatepostlaw05_HeadReads = some c_gatepostlaw05_HeadReads := by kernel_rfl
theorem kc_gatepostlaw05_HeadCuts : compF Tryd.prog i_gatepostlaw05_HeadCuts = some c_gatepostlaw05_HeadCuts := by kernel_rfl
theorem F___gatepost_head_Reader__Feed : F i___gatepost_head_Reader__Feed = some c___gatepost_head_Reader__Feed := rfl
theorem kc___gatepost_head_Reader__Feed : compF Tryd.prog i___gatepost_head_Reader__Feed = some c___gatepost_head_Reader__Feed := by kernel_rfl
theorem F___gatepost_head_Reader__Request : F i___gatepost_head_Reader__Request = some c___gatepost_head_Reader__Request := rfl
theorem kc___gatepost_head_Reader__Request : compF Tryd.prog i___gatepost_head_Reader__Request = some c___gatepost_head_Reader__Request := by kernel_rfl
theorem F___gatepost_head_Reader__Response : F i___gatepost_head_Reader__Response = some c___gatepost_head_Reader__Response := rfl
theorem kc___gatepost_head_Reader__Response : compF Tryd.prog i___gatepost_head_Reader__Response = some c___gatepost_head_Reader__Response := by kernel_rfl
theorem F_head_New : F i_head_New = some c_head_New := rfl
theorem kc_head_New : compF Tryd.prog i_head_New = some c_head_New := by kernel_rfl
theorem F_gatepostref01_Value : F i_gatepostref01_Value = some c_gatepostref01_Value := rfl
theorem kc_gatepostref01_Value : compF Tryd.prog i_gatepostref01_Value = some c_gatepostref01_Value := by kernel_rfl
theorem F_gatepostlaw05_names : F i_gatepostlaw05_names = some c_gatepostlaw05_names := rfl
theorem kc_gatepostlaw05_names : compF Tryd.prog i_gatepostlaw05_names = some c_gatepostlaw05_names := by kernel_rfl
theorem F_gatepostlaw05_piece : F i_gatepostlaw05_piece = some c_gatepostlaw05_piece := rfl
theorem kc_gatepostlaw05_piece : compF Tryd.prog i_gatepostlaw05_piece = some c_gatepostlaw05_piece := by kernel_rfl
theorem F___gatepost_gatepostref05_Reader__Feed : F i___gatepost_gatepostref05_Reader__Feed = some c___gatepost_gatepostref05_Reader__Feed := rfl
theorem kc___gatepost_gatepostref05_Reader__Feed : compF Tryd.prog i___gatepost_gatepostref05_Reader__Feed = some c___gatepost_gatepostref05_Reader__Feed := by kernel_rfl
theorem F___gatepost_gatepostref05_Reader__Request : F i___gatepost_gatepostref05_Reader__Request = some c___gatepost_gatepostref05_Reader__Request := rfl
theorem kc___gatepost_gatepostref05_Reader__Request : compF Tryd.prog i___gatepost_gatepostref05_Reader__Request = some c___gatepost_gatepostref05_Reader__Request := by kernel_rfl
theorem F___gatepost_gatepostref05_Reader__Response : F i___gatepost_gatepostref05_Reader__Response = some c___gatepost_gatepostref05_Reader__Response := rfl
theorem kc___gatepost_gatepostref05_Reader__Response : compF Tryd.prog i___gatepost_gatepostref05_Reader__Response = some c___gatepost_gatepostref05_Reader__Response := by kernel_rfl
theorem F_gatepostref05_SameRequest : F i_gatepostref05_SameRequest = some c_gatepostref05_SameRequest := rfl
theorem kc_gatepostref05_SameRequest : compF Tryd.prog i_gatepostref05_SameRequest = some c_gatepostref05_SameRequest := by kernel_rfl
theorem F_gatepostref05_SameResponse : F i_gatepostref05_SameResponse = some c_gatepostref05_SameResponse := rfl
theorem kc_gatepostref05_SameResponse : compF Tryd.prog i_gatepostref05_SameResponse = some c_gatepostref05_SameResponse := by kernel_rfl
theorem F___gatepost_head_Reader__none : F i___gatepost_head_Reader__none = some c___gatepost_head_Reader__none := rfl
theorem kc___gatepost_head_Reader__none : compF Tryd.prog i___gatepost_head_Reader__none = some c___gatepost_head_Reader__none := by kernel_rfl
theorem F___gatepost_head_Reader__take : F i___gatepost_head_Reader__take = some c___gatepost_head_Reader__take := rfl
theorem kc___gatepost_head_Reader__take : compF Tryd.prog i___gatepost_head_Reader__take = some c___gatepost_head_Reader__take := by kernel_rfl
theorem F___gatepost_head_Reader__whole : F i___gatepost_head_Reader__whole = some c___gatepost_head_Reader__whole := rfl
theorem kc___gatepost_head_Reader__whole : compF Tryd.prog i___gatepost_head_Reader__whole = some c___gatepost_head_Reader__whole := by kernel_rfl
theorem F_head_New_1 : F i_head_New_1 = some c_head_New_1 := rfl
theorem kc_head_New_1 : compF Tryd.prog i_head_New_1 = some c_head_New_1 := by kernel_rfl
theorem F_line_Request : F i_line_Request = some c_line_Request := rfl
theorem kc_line_Request : compF Tryd.prog i_line_Request = some c_line_Request := by kernel_rfl
theorem F_head_New_2 : F i_head_New_2 = some c_head_New_2 := rfl
theorem kc_head_New_2 : compF Tryd.prog i_head_New_2 = some c_head_New_2 := by kernel_rfl
theorem F_line_Status : F i_line_Status = some c_line_Status := rfl
theorem kc_line_Status : compF Tryd.prog i_line_Status = some c_line_Status := by kernel_rfl
theorem F_gatepostref01_blank : F i_gatepostref01_blank = some c_gatepostref01_blank := rfl
theorem kc_gatepostref01_blank : compF Tryd.prog i_gatepostref01_blank = some c_gatepostref01_blank := by kernel_rfl
theorem F___gatepost_gatepostref05_Reader__ended : F i___gatepost_gatepostref05_Reader__ended = some c___gatepost_gatepostref05_Reader__ended := rfl
theorem kc___gatepost_gatepostref05_Reader__ended : compF Tryd.prog i___gatepost_gatepostref05_Reader__ended = some c___gatepost_gatepostref05_Reader__ended := by kernel_rfl
theorem F_gatepostref04_Same : F i_gatepostref04_Same = some c_gatepostref04_Same := rfl
theorem kc_gatepostref04_Same : compF Tryd.prog i_gatepostref04_Same = some c_gatepostref04_Same := by kernel_rfl
theorem F_head_cut : F i_head_cut = some c_head_cut := rfl
theorem kc_head_cut : compF Tryd.prog i_head_cut = some c_head_cut := by kernel_rfl
theorem F___gatepost_head_Reader__ended : F i___gatepost_head_Reader__ended = some c___gatepost_head_Reader__ended := rfl
theorem kc___gatepost_head_Reader__ended : compF Tryd.prog i___gatepost_head_Reader__ended = some c___gatepost_head_Reader__ended := by kernel_rfl
theorem F_line_words : F i_line_words = some c_line_words := rfl
theorem kc_line_words : compF Tryd.prog i_line_words = some c_line_words := by kernel_rfl
theorem F_token_Is : F i_token_Is = some c_token_Is := rfl
theorem kc_token_Is : compF Tryd.prog i_token_Is = some c_token_Is := by kernel_rfl
theorem F_line_isTarget : F i_line_isTarget = some c_line_isTarget := rfl
theorem kc_line_isTarget : compF Tryd.prog i_line_isTarget = some c_line_isTarget := by kernel_rfl
theorem F_line_version : F i_line_version = some c_line_version := rfl
theorem kc_line_version : compF Tryd.prog i_line_version = some c_line_version := by kernel_rfl
theorem F_line_Status_1 : F i_line_Status_1 = some c_line_Status_1 := rfl
theorem kc_line_Status_1 : compF Tryd.prog i_line_Status_1 = some c_line_Status_1 := by kernel_rfl
theorem F_strings_Cut : F i_strings_Cut = some c_strings_Cut := rfl
theorem kc_strings_Cut : compF Tryd.prog i_strings_Cut = some c_strings_Cut := by kernel_rfl
theorem F_token_Number : F i_token_Number = some c_token_Number := rfl
theorem kc_token_Number : compF Tryd.prog i_token_Number = some c_token_Number := by kernel_rfl
theorem F_line_isReason : F i_line_isReason = some c_line_isReason := rfl
theorem kc_line_isReason : compF Tryd.prog i_line_isReason = some c_line_isReason := by kernel_rfl
theorem F_gatepostref03_Status : F i_gatepostref03_Status = some c_gatepostref03_Status := rfl
theorem kc_gatepostref03_Status : compF Tryd.prog i_gatepostref03_Status = some c_gatepostref03_Status := by kernel_rfl
theorem F_gatepostref03_Request : F i_gatepostref03_Request = some c_gatepostref03_Request := rfl
theorem kc_gatepostref03_Request : compF Tryd.prog i_gatepostref03_Request = some c_gatepostref03_Request := by kernel_rfl
theorem F_gatepostref04_Parse : F i_gatepostref04_Parse = some c_gatepostref04_Parse := rfl
theorem kc_gatepostref04_Parse : compF Tryd.prog i_gatepostref04_Parse = some c_gatepostref04_Parse := by kernel_rfl
theorem F_field_Parse : F i_field_Parse = some c_field_Parse := rfl
theorem kc_field_Parse : compF Tryd.prog i_field_Parse = some c_field_Parse := by kernel_rfl
theorem F_strings_Split : F i_strings_Split = some c_strings_Split := rfl
theorem kc_strings_Split : compF Tryd.prog i_strings_Split = some c_strings_Split := by kernel_rfl
theorem F_token_all : F i_token_all = some c_token_all := rfl
theorem kc_token_all : compF Tryd.prog i_token_all = some c_token_all := by kernel_rfl
theorem F_token_inToken : F i_token_inToken = some c_token_inToken := rfl
theorem kc_token_inToken : compF Tryd.prog i_token_inToken = some c_token_inToken := by kernel_rfl
theorem F_internal_stringslite_Cut : F i_internal_stringslite_Cut = some c_internal_stringslite_Cut := rfl
theorem kc_internal_stringslite_Cut : compF Tryd.prog i_internal_stringslite_Cut = some c_internal_stringslite_Cut := by kernel_rfl
theorem F_token_Number_1 : F i_token_Number_1 = some c_token_Number_1 := rfl
theorem kc_token_Number_1 : compF Tryd.prog i_token_Number_1 = some c_token_Number_1 := by kernel_rfl
theorem F_gatepostref03_version : F i_gatepostref03_version = some c_gatepostref03_version := rfl
theorem kc_gatepostref03_version : compF Tryd.prog i_gatepostref03_version = some c_gatepostref03_version := by kernel_rfl
theorem F_gatepostref01_Number : F i_gatepostref01_Number = some c_gatepostref01_Number := rfl
theorem kc_gatepostref01_Number : compF Tryd.prog i_gatepostref01_Number = some c_gatepostref01_Number := by kernel_rfl
theorem F_gatepostref03_reason : F i_gatepostref03_reason = some c_gatepostref03_reason := rfl
theorem kc_gatepostref03_reason : compF Tryd.prog i_gatepostref03_reason = some c_gatepostref03_reason := by kernel_rfl
theorem F_gatepostref01_Is : F i_gatepostref01_Is = some c_gatepostref01_Is := rfl
theorem kc_gatepostref01_Is : compF Tryd.prog i_gatepostref01_Is = some c_gatepostref01_Is := by kernel_rfl
theorem F_gatepostref03_target : F i_gatepostref03_target = some c_gatepostref03_target := rfl
theorem kc_gatepostref03_target : compF Tryd.prog i_gatepostref03_target = some c_gatepostref03_target := by kernel_rfl
theorem F_gatepostref01_Trim : F i_gatepostref01_Trim = some c_gatepostref01_Trim := rfl
theorem kc_gatepostref01_Trim : compF Tryd.prog i_gatepostref01_Trim = some c_gatepostref01_Trim := by kernel_rfl
theorem F_token_Trim : F i_token_Trim = some c_token_Trim := rfl
theorem kc_token_Trim : compF Tryd.prog i_token_Trim = some c_token_Trim := by kernel_rfl
theorem F_field_fine : F i_field_fine = some c_field_fine := rfl
theorem kc_field_fine : compF Tryd.prog i_field_fine = some c_field_fine := by kernel_rfl
theorem F_strings_genSplit : F i_strings_genSplit = some c_strings_genSplit := rfl
theorem kc_strings_genSplit : compF Tryd.prog i_strings_genSplit = some c_strings_genSplit := by kernel_rfl
theorem F_token_marks : F i_token_marks = some c_token_marks := rfl
theorem kc_token_marks : compF Tryd.prog i_token_marks = some c_token_marks := by kernel_rfl
theorem F_gatepostref01_tchar : F i_gatepostref01_tchar = some c_gatepostref01_tchar := rfl
theorem kc_gatepostref01_tchar : compF Tryd.prog i_gatepostref01_tchar = some c_gatepostref01_tchar := by kernel_rfl
theorem F_strings_Trim : F i_strings_Trim = some c_strings_Trim := rfl
theorem kc_strings_Trim : compF Tryd.prog i_strings_Trim = some c_strings_Trim := by kernel_rfl
theorem F_token_Value : F i_token_Value = some c_token_Value := rfl
theorem kc_token_Value : compF Tryd.prog i_token_Value = some c_token_Value := by kernel_rfl
theorem F_strings_Index : F i_strings_Index = some c_strings_Index := rfl
theorem kc_strings_Index : compF Tryd.prog i_strings_Index = some c_strings_Index := by kernel_rfl
theorem F_strings_makeASCIISet : F i_strings_makeASCIISet = some c_strings_makeASCIISet := rfl
theorem kc_strings_makeASCIISet : compF Tryd.prog i_strings_makeASCIISet = some c_strings_makeASCIISet := by kernel_rfl
theorem F_strings_trimLeftASCII : F i_strings_trimLeftASCII = some c_strings_trimLeftASCII := rfl
theorem kc_strings_trimLeftASCII : compF Tryd.prog i_strings_trimLeftASCII = some c_strings_trimLeftASCII := by kernel_rfl
theorem F_strings_trimRightASCII : F i_strings_trimRightASCII = some c_strings_trimRightASCII := rfl
theorem kc_strings_trimRightASCII : compF Tryd.prog i_strings_trimRightASCII = some c_strings_trimRightASCII := by kernel_rfl
theorem F_token_Value_1 : F i_token_Value_1 = some c_token_Value_1 := rfl
theorem kc_token_Value_1 : compF Tryd.prog i_token_Value_1 = some c_token_Value_1 := by kernel_rfl
theorem F_token_isBlank : F i_token_isBlank = some c_token_isBlank := rfl
theorem kc_token_isBlank : compF Tryd.prog i_token_isBlank = some c_token_isBlank := by kernel_rfl
theorem F___strings_asciiSet__contains : F i___strings_asciiSet__contains = some c___strings_asciiSet__contains := rfl
theorem kc___strings_asciiSet__contains : compF Tryd.prog i___strings_asciiSet__contains = some c___strings_asciiSet__contains := by kernel_rfl
def k_gatepostlaw05_HeadReads_3 (L : FuncId → List V → V → Prop) (K : V → Heap → Prop) (v113 v118 v126 v130 : V) (h : Heap) : Prop :=
    (wi F L (.pick (.c v126) (.c v130) (.c (.bool false))) E0 h fun v131 h =>
    (wg v131 true (wi F L (.mv (.c v113)) E0 h) h fun v133 h =>
    (wg v131 true (wi F L (.mv (.c v118)) E0 h) h fun v134 h =>
    (wg v131 true (wi F L (.bin .eql (.c v133) (.c v134)) E0 h) h fun v135 h =>
    (wi F L (.pick (.c v131) (.c v135) (.c (.bool false))) E0 h fun v136 h =>
    (∃ v, some v136 = some v ∧ K v h))))))
def k_gatepostlaw05_HeadReads_4 (L : FuncId → List V → V → Prop) (K : V → Heap → Prop) (v22 v24 v103 v108 v113 v118 v121 : V) (h : Heap) : Prop :=
    (wg v121 true (wi F L (.mv (.c v103)) E0 h) h fun v123 h =>
    (wg v121 true (wi F L (.mv (.c v108)) E0 h) h fun v124 h =>
    (wg v121 true (wi F L (.bin .eql (.c v123) (.c v124)) E0 h) h fun v125 h =>
    (wi F L (.pick (.c v121) (.c v125) (.c (.bool false))) E0 h fun v126 h =>
    (wg v126 true (wi F L (.load true 4 (.c v22)) E0 h) h fun v128 h =>
    (wg v126 true (wi F L (.load true 4 (.c v24)) E0 h) h fun v129 h =>
    (wg v126 true (wi F L (.call i_gatepostref05_SameResponse [(.c v128), (.c v129)]) E0 h) h fun v130 h =>
    (k_gatepostlaw05_HeadReads_3 L K v113 v118 v126 v130 h))))))))
def k_gatepostlaw05_HeadReads_5 (L : FuncId → List V → V → Prop) (K : V → Heap → Prop) (v18 v20 v22 v103 v108 v113 v116 : V) (h : Heap) : Prop :=
    (wi F L (.ext 0 (.c v116)) E0 h fun v117 h =>
    (wi F L (.ext 1 (.c v116)) E0 h fun v118 h =>
    (wi F L (.boxz [(.int .i64 0), (.int .i64 0), (.str []), .nsl]) E0 h fun v24 h =>
    (wi F L (.store 4 (.c v24) (.c v117)) E0 h fun _ h =>
    (wi F L (.load true 4 (.c v18)) E0 h fun v119 h =>
    (wi F L (.load true 4 (.c v20)) E0 h fun v120 h =>
    (wi F L (.call i_gatepostref05_SameRequest [(.c v119), (.c v120)]) E0 h fun v121 h =>
    (k_gatepostlaw05_HeadReads_4 L K v22 v24 v103 v108 v113 v118 v121 h))))))))
def k_gatepostlaw05_HeadReads_6 (L : FuncId → List V → V → Prop) (K : V → Heap → Prop) (v8 v18 v20 v103 v108 v111 : V) (h : Heap) : Prop :=
    (wi F L (.ext 0 (.c v111)) E0 h fun v112 h =>
    (wi F L (.ext 1 (.c v111)) E0 h fun v113 h =>
    (wi F L (.boxz [(.int .i64 0), (.int .i64 0), (.str []), .nsl]) E0 h fun v22 h =>
    (wi F L (.store 4 (.c v22) (.c v112)) E0 h fun _ h =>
    (wi F L (.call i___gatepost_gatepostref05_Reader__Response [(.c v8)]) E0 h fun v116 h =>
    (k_gatepostlaw05_HeadReads_5 L K v18 v20 v22 v103 v108 v113 v116 h))))))
def k_gatepostlaw05_HeadReads_7 (L : FuncId → List V → V → Prop) (K : V → Heap → Prop) (v7 v8 v101 : V) (h : Heap) : Prop :=
    (wi F L (.ext 0 (.c v101)) E0 h fun v102 h =>
    (wi F L (.ext 1 (.c v101)) E0 h fun v103 h =>
    (wi F L (.boxz [(.str []), (.str []), (.int .i64 0), .nsl]) E0 h fun v18 h =>
    (wi F L (.store 4 (.c v18) (.c v102)) E0 h fun _ h =>
    (wi F L (.call i___gatepost_gatepostref05_Reader__Request [(.c v8)]) E0 h fun v106 h =>
    (wi F L (.ext 0 (.c v106)) E0 h fun v107 h =>
    (wi F L (.ext 1 (.c v106)) E0 h fun v108 h =>
    (wi F L (.boxz [(.str []), (.str []), (.int .i64 0), .nsl]) E0 h fun v20 h =>
    (wi F L (.store 4 (.c v20) (.c v107)) E0 h fun _ h =>
    (wi F L (.call i___gatepost_head_Reader__Response [(.c v7)]) E0 h fun v111 h =>
    (k_gatepostlaw05_HeadReads_6 L K v8 v18 v20 v103 v108 v111 h)))))))))))
def k_gatepostlaw05_HeadReads_2 (L : FuncId → List V → V → Prop) (K : V → Heap → Prop) (v7 v8 : V) (h : Heap) : Prop :=
    (wi F L (.call i___gatepost_head_Reader__Request [(.c v7)]) E0 h fun v101 h =>
    (k_gatepostlaw05_HeadReads_7 L K v7 v8 v101 h))
def k_gatepostlaw05_HeadReads_9 (L : FuncId → List V → V → Prop) (K : V → Heap → Prop) (N0 : Env → Heap → Prop) (e : Env) (v10 : V) (h : Heap) : Prop :=
    (wi F L (.bin .add (.c v10) (.c (.int .i64 1))) E0 h fun v51 h =>
    (N0 (upd (upd (upd e 50 v10) 51 v51) 10 v51) h))
def k_gatepostlaw05_HeadReads_10 (L : FuncId → List V → V → Prop) (K : V → Heap → Prop) (N0 : Env → Heap → Prop) (e : Env) (v7 v8 v9 v10 v12 v13 v14 : V) (h : Heap) : Prop :=
    (wi F L (.bin .add (.c v9) (.c v12)) E0 h fun v93 h =>
    (wg v13 false (wi F L (.mv (.c v14)) E0 h) h fun v96 h =>
    (wg v13 false (wi F L (.bin .neq (.c v96) (.c (.int .i64 0))) E0 h) h fun v97 h =>
    (wi F L (.pick (.c v13) (.c (.bool true)) (.c v97)) E0 h fun v98 h =>
    (wb v98
    (k_gatepostlaw05_HeadReads_2 L K v7 v8 h)
    (k_gatepostlaw05_HeadReads_9 L K N0 (upd (upd (upd (upd (upd (upd (upd (upd (upd e 91 v9) 92 v12) 93 v93) 9 v93) 94 v13) 95 v13) 96 v96) 97 v97) 98 v98) v10 h))))))
def k_gatepostlaw05_HeadReads_11 (L : FuncId → List V → V → Prop) (K : V → Heap → Prop) (N0 : Env → Heap → Prop) (e : Env) (v0 v1 v7 v8 v9 v10 v56 v57 v63 v64 v65 v66 v67 v73 v74 : V) (h : Heap) : Prop :=
    (wi F L (.ext 0 (.c v74)) E0 h fun v75 h =>
    (wi F L (.ext 1 (.c v74)) E0 h fun v76 h =>
    (wi F L (.ext 2 (.c v74)) E0 h fun v77 h =>
    (wi F L (.bin .neq (.c v65) (.c v75)) E0 h fun v80 h =>
    (wg v80 false (wi F L (.mv (.c v66)) E0 h) h fun v82 h =>
    (wg v80 false (wi F L (.mv (.c v76)) E0 h) h fun v83 h =>
    (wg v80 false (wi F L (.eq .bool true (.c v82) (.c v83)) E0 h) h fun v84 h =>
    (wi F L (.pick (.c v80) (.c (.bool true)) (.c v84)) E0 h fun v85 h =>
    (wg v85 false (wi F L (.mv (.c v67)) E0 h) h fun v87 h =>
    (wg v85 false (wi F L (.mv (.c v77)) E0 h) h fun v88 h =>
    (wg v85 false (wi F L (.bin .neq (.c v87) (.c v88)) E0 h) h fun v89 h =>
    (wi F L (.pick (.c v85) (.c (.bool true)) (.c v89)) E0 h fun v90 h =>
    (wb v90
    (∃ v, some (.bool false) = some v ∧ K v h)
    (k_gatepostlaw05_HeadReads_10 L K N0 (upd (upd (upd (upd (upd (upd (upd (upd (upd (upd (upd (upd (upd (upd (upd (upd (upd (upd (upd (upd (upd (upd (upd (upd (upd (upd (upd (upd (upd (upd (upd (upd (upd (upd (upd (upd (upd (upd (upd (upd (upd (upd (upd (upd (upd (upd e 52 v1) 53 v10) 54 v9) 55 v0) 56 v56) 57 v57) 11 v57) 59 v7) 60 v0) 61 v9) 62 v57) 63 v63) 64 v64) 58 v64) 65 v65) 66 v66) 67 v67) 12 v65) 13 v66) 14 v67) 69 v8) 70 v0) 71 v9) 72 v57) 73 v73) 74 v74) 68 v74) 75 v75) 76 v76) 77 v77) 15 v75) 16 v76) 17 v77) 78 v65) 79 v75) 80 v80) 81 v80) 82 v82) 83 v83) 84 v84) 85 v85) 86 v85) 87 v87) 88 v88) 89 v89) 90 v90) v7 v8 v9 v10 v65 v66 v67 h))))))))))))))
def k_gatepostlaw05_HeadReads_12 (L : FuncId → List V → V → Prop) (K : V → Heap → Prop) (N0 : Env → Heap → Prop) (e : Env) (v0 v1 v7 v8 v9 v10 v56 v57 v63 v64 : V) (h : Heap) : Prop :=
    (wi F L (.ext 0 (.c v64)) E0 h fun v65 h =>
    (wi F L (.ext 1 (.c v64)) E0 h fun v66 h =>
    (wi F L (.ext 2 (.c v64)) E0 h fun v67 h =>
    (wi F L (.slsl 1 (.c v0) (some (.c v9)) (some (.c v57)) none) E0 h fun v73 h =>
    (wi F L (.call i___gatepost_gatepostref05_Reader__Feed [(.c v8), (.c v73)]) E0 h fun v74 h =>
    (k_gatepostlaw05_HeadReads_11 L K N0 e v0 v1 v7 v8 v9 v10 v56 v57 v63 v64 v65 v66 v67 v73 v74 h))))))
def k_gatepostlaw05_HeadReads_8 (L : FuncId → List V → V → Prop) (K : V → Heap → Prop) (N0 : Env → Heap → Prop) (e : Env) (v0 v1 v7 v8 v9 v10 : V) (h : Heap) : Prop :=
    (wi F L (.len 1 (.c v0)) E0 h fun v56 h =>
    (wi F L (.call i_gatepostlaw05_piece [(.c v1), (.c v10), (.c v9), (.c v56)]) E0 h fun v57 h =>
    (wi F L (.slsl 1 (.c v0) (some (.c v9)) (some (.c v57)) none) E0 h fun v63 h =>
    (wi F L (.call i___gatepost_head_Reader__Feed [(.c v7), (.c v63)]) E0 h fun v64 h =>
    (k_gatepostlaw05_HeadReads_12 L K N0 e v0 v1 v7 v8 v9 v10 v56 v57 v63 v64 h)))))
def q_gatepostlaw05_HeadReads_0 (L : FuncId → List V → V → Prop) (K : V → Heap → Prop) : X → Env → Heap → Prop := (fun x => (seqX (fun e h => k_gatepostlaw05_HeadReads_2 L K (e 7) (e 8) h) (retX c_gatepostlaw05_HeadReads.results K)) (X.out 0 x))
def lc_gatepostlaw05_HeadReads_0 : C :=
  (.seq (.seq (.region [⟨(some 42), none, .mv (.t 10)⟩, ⟨(some 43), none, .mv (.t 1)⟩, ⟨(some 44), none, .len 1 (.t 43)⟩, ⟨(some 45), none, .bin .leq (.t 42) (.t 44)⟩, ⟨(some 46), none, .mv (.t 45)⟩, ⟨(some 47), (some (46, true)), .mv (.t 10)⟩, ⟨(some 48), (some (46, true)), .bin .lss (.t 47) (.c (.int .i64 40))⟩, ⟨(some 49), none, .pick (.t 46) (.t 48) (.c (.bool false))⟩])
  (.cond (.t 49)
    .skip
    (.exit 0)))
  (.seq (.block 1 (.seq (.region [⟨(some 52), none, .mv (.t 1)⟩, ⟨(some 53), none, .mv (.t 10)⟩, ⟨(some 54), none, .mv (.t 9)⟩, ⟨(some 55), none, .mv (.t 0)⟩, ⟨(some 56), none, .len 1 (.t 55)⟩, ⟨(some 57), none, .call i_gatepostlaw05_piece [(.t 52), (.t 53), (.t 54), (.t 56)]⟩, ⟨(some 11), none, .mv (.t 57)⟩])
  (.seq (.region [⟨(some 59), none, .mv (.t 7)⟩, ⟨(some 60), none, .mv (.t 0)⟩, ⟨(some 61), none, .mv (.t 9)⟩, ⟨(some 62), none, .mv (.t 11)⟩, ⟨(some 63), none, .slsl 1 (.t 60) (some (.t 61)) (some (.t 62)) none⟩, ⟨(some 64), none, .call i___gatepost_head_Reader__Feed [(.t 59), (.t 63)]⟩, ⟨(some 58), none, .mv (.t 64)⟩, ⟨(some 65), none, .ext 0 (.t 58)⟩, ⟨(some 66), none, .ext 1 (.t 58)⟩, ⟨(some 67), none, .ext 2 (.t 58)⟩, ⟨(some 12), none, .mv (.t 65)⟩, ⟨(some 13), none, .mv (.t 66)⟩, ⟨(some 14), none, .mv (.t 67)⟩])
  (.seq (.region [⟨(some 69), none, .mv (.t 8)⟩, ⟨(some 70), none, .mv (.t 0)⟩, ⟨(some 71), none, .mv (.t 9)⟩, ⟨(some 72), none, .mv (.t 11)⟩, ⟨(some 73), none, .slsl 1 (.t 70) (some (.t 71)) (some (.t 72)) none⟩, ⟨(some 74), none, .call i___gatepost_gatepostref05_Reader__Feed [(.t 69), (.t 73)]⟩, ⟨(some 68), none, .mv (.t 74)⟩, ⟨(some 75), none, .ext 0 (.t 68)⟩, ⟨(some 76), none, .ext 1 (.t 68)⟩, ⟨(some 77), none, .ext 2 (.t 68)⟩, ⟨(some 15), none, .mv (.t 75)⟩, ⟨(some 16), none, .mv (.t 76)⟩, ⟨(some 17), none, .mv (.t 77)⟩])
  (.seq (.seq (.region [⟨(some 78), none, .mv (.t 12)⟩, ⟨(some 79), none, .mv (.t 15)⟩, ⟨(some 80), none, .bin .neq (.t 78) (.t 79)⟩, ⟨(some 81), none, .mv (.t 80)⟩, ⟨(some 82), (some (81, false)), .mv (.t 13)⟩, ⟨(some 83), (some (81, false)), .mv (.t 16)⟩, ⟨(some 84), (some (81, false)), .eq .bool true (.t 82) (.t 83)⟩, ⟨(some 85), none, .pick (.t 81) (.c (.bool true)) (.t 84)⟩, ⟨(some 86), none, .mv (.t 85)⟩, ⟨(some 87), (some (86, false)), .mv (.t 14)⟩, ⟨(some 88), (some (86, false)), .mv (.t 17)⟩, ⟨(some 89), (some (86, false)), .bin .neq (.t 87) (.t 88)⟩, ⟨(some 90), none, .pick (.t 86) (.c (.bool true)) (.t 89)⟩])
  (.cond (.t 90)
    (.seq (.region [⟨(some 6), none, .mv (.c (.bool false))⟩])
    .ret)
    .skip))
  (.seq (.region [⟨(some 91), none, .mv (.t 9)⟩, ⟨(some 92), none, .mv (.t 12)⟩, ⟨(some 93), none, .bin .add (.t 91) (.t 92)⟩, ⟨(some 9), none, .mv (.t 93)⟩])
  (.seq (.region [⟨(some 94), none, .mv (.t 13)⟩, ⟨(some 95), none, .mv (.t 94)⟩, ⟨(some 96), (some (95, false)), .mv (.t 14)⟩, ⟨(some 97), (some (95, false)), .bin .neq (.t 96) (.c (.int .i64 0))⟩, ⟨(some 98), none, .pick (.t 95) (.c (.bool true)) (.t 97)⟩])
  (.cond (.t 98)
    (.exit 0)
    .skip))))))))
  (.region [⟨(some 50), none, .mv (.t 10)⟩, ⟨(some 51), none, .bin .add (.t 50) (.c (.int .i64 1))⟩, ⟨(some 10), none, .mv (.t 51)⟩])))
def b_gatepostlaw05_HeadReads_0 (L : FuncId → List V → V → Prop) (K : V → Heap → Prop) (N0 : Env → Heap → Prop) (e : Env) (h : Heap) : Prop :=
    (wi F L (.len 1 (.c (e 1))) E0 h fun v44 h =>
    (wi F L (.bin .leq (.c (e 10)) (.c v44)) E0 h fun v45 h =>
    (wg v45 true (wi F L (.mv (.c (e 10))) E0 h) h fun v47 h =>
    (wg v45 true (wi F L (.bin .lss (.c v47) (.c (.int .i64 40))) E0 h) h fun v48 h =>
    (wi F L (.pick (.c v45) (.c v48) (.c (.bool false))) E0 h fun v49 h =>
    (wb v49
    (k_gatepostlaw05_HeadReads_8 L K N0 (upd (upd (upd (upd (upd (upd (upd (upd e 42 (e 10)) 43 (e 1)) 44 v44) 45 v45) 46 v45) 47 v47) 48 v48) 49 v49) (e 0) (e 1) (e 7) (e 8) (e 9) (e 10) h)
    (k_gatepostlaw05_HeadReads_2 L K (e 7) (e 8) h)))))))
theorem l_gatepostlaw05_HeadReads_0 {L : FuncId → List V → V → Prop} {K : V → Heap → Prop} (I : Nat → Env → Heap → Prop) (hr : ∀ n e h, I n e h → b_gatepostlaw05_HeadReads_0 L K (fun e' h' => ∃ m, m < n ∧ I m e' h') e h) {n : Nat} {e : Env} {h : Heap} (hi : I n e h) : Wl F L lc_gatepostlaw05_HeadReads_0 (q_gatepostlaw05_HeadReads_0 L K) e h :=
  wloopp (b := b_gatepostlaw05_HeadReads_0 L K) I (fun _ _ _ => by kernel_rfl) hr hi
def k_gatepostlaw05_HeadReads_1 (L : FuncId → List V → V → Prop) (K : V → Heap → Prop) (e : Env) (h : Heap) : Prop :=
    (Wl F L lc_gatepostlaw05_HeadReads_0 (q_gatepostlaw05_HeadReads_0 L K) (upd (upd e 9 (.int .i64 0)) 10 (.int .i64 0)) h)
def k_gatepostlaw05_HeadReads_13 (L : FuncId → List V → V → Prop) (K : V → Heap → Prop) (e : Env) (v2 v32 v34 v35 v37 v39 : V) (h : Heap) : Prop :=
    (wg v37 false (wi F L (.un .not (.c v39)) E0 h) h fun v40 h =>
    (wi F L (.pick (.c v37) (.c (.bool true)) (.c v40)) E0 h fun v41 h =>
    (wb v41
    (∃ v, some (.bool false) = some v ∧ K v h)
    (k_gatepostlaw05_HeadReads_1 L K (upd (upd (upd (upd (upd (upd (upd (upd (upd (upd (upd (upd (upd e 31 v2) 32 v32) 33 v2) 34 v34) 35 v35) 7 v32) 8 v35) 36 v32) 37 v37) 38 v37) 39 v39) 40 v40) 41 v41)  h))))
def k_gatepostlaw05_HeadReads_14 (L : FuncId → List V → V → Prop) (K : V → Heap → Prop) (e : Env) (v2 v32 : V) (h : Heap) : Prop :=
    (wi F L (.build [(.bool false), (.int .i64 0), (.str []), (.bool false), (.str []), (.str []), (.int .i64 0), .nsl, (.int .i64 0), (.int .i64 0), (.str []), .nsl, .nsl, (.bool false), (.int .i64 0)] [(0, 1, (.c v2))]) E0 h fun v34 h =>
    (wi F L (.box (.c v34)) E0 h fun v35 h =>
    (wi F L (.eq (.nil 3) false (.c v32) (.c .nilp)) E0 h fun v37 h =>
    (wg v37 false (wi F L (.call i_gatepostlaw05_names []) E0 h) h fun v39 h =>
    (k_gatepostlaw05_HeadReads_13 L K e v2 v32 v34 v35 v37 v39 h)))))
def k_gatepostlaw05_HeadReads_0 (L : FuncId → List V → V → Prop) (K : V → Heap → Prop) (e : Env) (v2 : V) (h : Heap) : Prop :=
    (wi F L (.call i_head_New [(.c v2)]) E0 h fun v32 h =>
    (k_gatepostlaw05_HeadReads_14 L K e v2 v32 h))
def p_gatepostlaw05_HeadReads (L : FuncId → List V → V → Prop) (K : V → Heap → Prop) (a0 a1 a2 : V) (h : Heap) : Prop :=
    (wi F L (.len 1 (.c a0)) E0 h fun v27 h =>
    (wi F L (.bin .gtr (.c v27) (.c (.int .i64 9000))) E0 h fun v28 h =>
    (wb v28
    (wi F L (.slsl 1 (.c a0) none (some (.c (.int .i64 9000))) none) E0 h fun v30 h =>
    (k_gatepostlaw05_HeadReads_0 L K (upd (upd (upd (upd (upd (upd (upd (enterE [a0, a1, a2]) 6 (.bool false)) 26 a0) 27 v27) 28 v28) 29 a0) 30 v30) 0 v30) a2 h))
    (k_gatepostlaw05_HeadReads_0 L K (upd (upd (upd (upd (enterE [a0, a1, a2]) 6 (.bool false)) 26 a0) 27 v27) 28 v28) a2 h))))
theorem run_gatepostlaw05_HeadReads {L : FuncId → List V → V → Prop} {K : V → Heap → Prop} {a0 a1 a2 : V} {h : Heap} (hp : p_gatepostlaw05_HeadReads L K a0 a1 a2 h) : Cf F L i_gatepostlaw05_HeadReads [a0, a1, a2] h K :=
  wcallp F_gatepostlaw05_HeadReads (show 3 ≤ 137 by decide) (p := p_gatepostlaw05_HeadReads L K a0 a1 a2 h) (by kernel_rfl) hp
def k___gatepost_head_Reader__Feed_1 (L : FuncId → List V → V → Prop) (K : V → Heap → Prop) (v0 v4 : V) (h : Heap) : Prop :=
    (wi F L (.nilck (.c v0)) E0 h fun v40 h' => Ext h h' ∧
    (wi F L (.faddr 3 (.c v40)) E0 h' fun v41 h => Ext h' h ∧
    (wi F L (.load false 1 (.c v41)) E0 h fun v42 h' => Ext h h' ∧
    (wi F L (.nilck (.c v0)) E0 h' fun v44 h => Ext h' h ∧
    (wi F L (.faddr 4 (.c v44)) E0 h fun v45 h' => Ext h h' ∧
    (wi F L (.load false 1 (.c v45)) E0 h' fun v46 h => Ext h' h ∧
    (∃ v, resultsV h (enterE [v4, v42, v46]) [.tmp 0, .tmp 1, .tmp 2] = some v ∧ K v h)))))))
def k___gatepost_head_Reader__Feed_2 (L : FuncId → List V → V → Prop) (K : V → Heap → Prop) (N0 : Env → Heap → Prop) (e : Env) (v0 v1 v4 : V) (h : Heap) : Prop :=
    (wi F L (.ixaSl 1 (.c v1) (.c v4)) E0 h fun v31 h =>
    (wi F L (.load false 1 (.c v31)) E0 h fun v32 h =>
    (wi F L (.call i___gatepost_head_Reader__take [(.c v0), (.c v32)]) E0 h fun v33 h =>
    (wi F L (.nilck (.c v0)) E0 h fun v34 h =>
    (wi F L (.faddr 4 (.c v34)) E0 h fun v35 h =>
    (wi F L (.store 1 (.c v35) (.c v33)) E0 h fun _ h =>
    (wi F L (.bin .add (.c v4) (.c (.int .i64 1))) E0 h fun v37 h =>
    (N0 (upd (upd (upd (upd (upd (upd (upd (upd (upd (upd (upd (upd e 27 v0) 28 v0) 29 v1) 30 v4) 31 v31) 32 v32) 33 v33) 34 v34) 35 v35) 36 v4) 37 v37) 4 v37) h))))))))
def q___gatepost_head_Reader__Feed_0 (L : FuncId → List V → V → Prop) (K : V → Heap → Prop) : X → Env → Heap → Prop := (fun x => (seqX (fun e h => k___gatepost_head_Reader__Feed_1 L K (e 0) (e 4) h) (retX c___gatepost_head_Reader__Feed.results K)) (X.out 0 x))
def lc___gatepost_head_Reader__Feed_0 : C :=
  (.seq (.seq (.region [⟨(some 9), none, .mv (.t 4)⟩, ⟨(some 10), none, .mv (.t 1)⟩, ⟨(some 11), none, .len 1 (.t 10)⟩, ⟨(some 12), none, .bin .lss (.t 9) (.t 11)⟩, ⟨(some 13), none, .mv (.t 12)⟩, ⟨(some 14), (some (13, true)), .mv (.t 0)⟩, ⟨(some 15), (some (13, true)), .nilck (.t 14)⟩, ⟨(some 16), (some (13, true)), .faddr 4 (.t 15)⟩, ⟨(some 17), (some (13, true)), .load false 1 (.t 16)⟩, ⟨(some 18), (some (13, true)), .bin .eql (.t 17) (.c (.int .i64 0))⟩, ⟨(some 19), none, .pick (.t 13) (.t 18) (.c (.bool false))⟩, ⟨(some 20), none, .mv (.t 19)⟩, ⟨(some 21), (some (20, true)), .mv (.t 0)⟩, ⟨(some 22), (some (20, true)), .nilck (.t 21)⟩, ⟨(some 23), (some (20, true)), .faddr 3 (.t 22)⟩, ⟨(some 24), (some (20, true)), .load false 1 (.t 23)⟩, ⟨(some 25), (some (20, true)), .un .not (.t 24)⟩, ⟨(some 26), none, .pick (.t 20) (.t 25) (.c (.bool false))⟩])
  (.cond (.t 26)
    .skip
    (.exit 0)))
  (.block 1 (.seq (.region [⟨(some 27), none, .mv (.t 0)⟩, ⟨(some 28), none, .mv (.t 0)⟩, ⟨(some 29), none, .mv (.t 1)⟩, ⟨(some 30), none, .mv (.t 4)⟩, ⟨(some 31), none, .ixaSl 1 (.t 29) (.t 30)⟩, ⟨(some 32), none, .load false 1 (.t 31)⟩, ⟨(some 33), none, .call i___gatepost_head_Reader__take [(.t 28), (.t 32)]⟩, ⟨(some 34), none, .nilck (.t 27)⟩, ⟨(some 35), none, .faddr 4 (.t 34)⟩, ⟨none, none, .store 1 (.t 35) (.t 33)⟩])
  (.region [⟨(some 36), none, .mv (.t 4)⟩, ⟨(some 37), none, .bin .add (.t 36) (.c (.int .i64 1))⟩, ⟨(some 4), none, .mv (.t 37)⟩]))))
def b___gatepost_head_Reader__Feed_0 (L : FuncId → List V → V → Prop) (K : V → Heap → Prop) (N0 : Env → Heap → Prop) (e : Env) (h : Heap) : Prop :=
    (wi F L (.len 1 (.c (e 1))) E0 h fun v11 h =>
    (wi F L (.bin .lss (.c (e 4)) (.c v11)) E0 h fun v12 h =>
    (wg v12 true (wi F L (.mv (.c (e 0))) E0 h) h fun v14 h =>
    (wg v12 true (wi F L (.nilck (.c v14)) E0 h) h fun v15 h =>
    (wg v12 true (wi F L (.faddr 4 (.c v15)) E0 h) h fun v16 h =>
    (wg v12 true (wi F L (.load false 1 (.c v16)) E0 h) h fun v17 h =>
    (wg v12 true (wi F L (.bin .eql (.c v17) (.c (.int .i64 0))) E0 h) h fun v18 h =>
    (wi F L (.pick (.c v12) (.c v18) (.c (.bool false))) E0 h fun v19 h =>
    (wg v19 true (wi F L (.mv (.c (e 0))) E0 h) h fun v21 h =>
    (wg v19 true (wi F L (.nilck (.c v21)) E0 h) h fun v22 h =>
    (wg v19 true (wi F L (.faddr 3 (.c v22)) E0 h) h fun v23 h =>
    (wg v19 true (wi F L (.load false 1 (.c v23)) E0 h) h fun v24 h =>
    (wg v19 true (wi F L (.un .not (.c v24)) E0 h) h fun v25 h =>
    (wi F L (.pick (.c v19) (.c v25) (.c (.bool false))) E0 h fun v26 h =>
    (wb v26
    (k___gatepost_head_Reader__Feed_2 L K N0 (upd (upd (upd (upd (upd (upd (upd (upd (upd (upd (upd (upd (upd (upd (upd (upd (upd (upd e 9 (e 4)) 10 (e 1)) 11 v11) 12 v12) 13 v12) 14 v14) 15 v15) 16 v16) 17 v17) 18 v18) 19 v19) 20 v19) 21 v21) 22 v22) 23 v23) 24 v24) 25 v25) 26 v26) (e 0) (e 1) (e 4) h)
    (k___gatepost_head_Reader__Feed_1 L K (e 0) (e 4) h))))))))))))))))
theorem l___gatepost_head_Reader__Feed_0 {L : FuncId → List V → V → Prop} {K : V → Heap → Prop} (I : Nat → Env → Heap → Prop) (hr : ∀ n e h, I n e h → b___gatepost_head_Reader__Feed_0 L K (fun e' h' => ∃ m, m < n ∧ I m e' h') e h) {n : Nat} {e : Env} {h : Heap} (hi : I n e h) : Wl F L lc___gatepost_head_Reader__Feed_0 (q___gatepost_head_Reader__Feed_0 L K) e h :=
  wloopp (b := b___gatepost_head_Reader__Feed_0 L K) I (fun _ _ _ => by kernel_rfl) hr hi
def k___gatepost_head_Reader__Feed_0 (L : FuncId → List V → V → Prop) (K : V → Heap → Prop) (e : Env) (h : Heap) : Prop :=
    (Wl F L lc___gatepost_head_Reader__Feed_0 (q___gatepost_head_Reader__Feed_0 L K) e h)
def p___gatepost_head_Reader__Feed (L : FuncId → List V → V → Prop) (K : V → Heap → Prop) (a0 a1 : V) (h : Heap) : Prop :=
    (wi F L (.call i___gatepost_head_Reader__none [(.c a0)]) E0 h fun v8 h =>
    (wb v8
    (∃ v, resultsV h (enterE [(.int .i64 0), (.bool false), (.int .i64 1)]) [.tmp 0, .tmp 1, .tmp 2] = some v ∧ K v h)
    (k___gatepost_head_Reader__Feed_0 L K (upd (upd (upd (upd (upd (enterE [a0, a1]) 4 (.int .i64 0)) 5 (.bool false)) 6 (.int .i64 0)) 7 a0) 8 v8)  h)))
theorem run___gatepost_head_Reader__Feed {L : FuncId → List V → V → Prop} {K : V → Heap → Prop} {a0 a1 : V} {h : Heap} (hp : p___gatepost_head_Reader__Feed L K a0 a1 h) : Cf F L i___gatepost_head_Reader__Feed [a0, a1] h K :=
  wcallp F___gatepost_head_Reader__Feed (show 2 ≤ 47 by decide) (p := p___gatepost_head_Reader__Feed L K a0 a1 h) (by kernel_rfl) hp
def k___gatepost_head_Reader__Request_0 (L : FuncId → List V → V → Prop) (K : V → Heap → Prop) (v0 v2 v4 : V) (h : Heap) : Prop :=
    (wi F L (.nilck (.c v0)) E0 h fun v17 h =>
    (wi F L (.faddr 7 (.c v17)) E0 h fun v18 h =>
    (wi F L (.load true 4 (.c v18)) E0 h fun v19 h =>
    (wi F L (.boxz [(.str []), (.str []), (.int .i64 0), .nsl]) E0 h fun v6 h =>
    (wi F L (.store 4 (.c v6) (.c v19)) E0 h fun _ h =>
    (wi F L (.faddr 3 (.c v6)) E0 h fun v21 h =>
    (wi F L (.store 1 (.c v21) (.c v4)) E0 h fun _ h =>
    (wi F L (.load true 4 (.c v6)) E0 h fun v22 h =>
    (wi F L (.store 4 (.c v2) (.c v22)) E0 h fun _ h =>
    (∃ v, resultsV h (enterE [v2, (.int .i64 0)]) [.cell 0 true 4, .tmp 1] = some v ∧ K v h))))))))))
def p___gatepost_head_Reader__Request (L : FuncId → List V → V → Prop) (K : V → Heap → Prop) (a0 : V) (h : Heap) : Prop :=
    (wi F L (.boxz [(.str []), (.str []), (.int .i64 0), .nsl]) E0 h fun v2 h =>
    (wi F L (.call i___gatepost_head_Reader__whole [(.c a0), (.c (.bool false))]) E0 h fun v9 h =>
    (wi F L (.ext 0 (.c v9)) E0 h fun v10 h =>
    (wi F L (.ext 1 (.c v9)) E0 h fun v11 h =>
    (wi F L (.bin .neq (.c v11) (.c (.int .i64 0))) E0 h fun v13 h =>
    (wb v13
    (wi F L (.build [(.str []), (.str []), (.int .i64 0), .nsl] []) E0 h fun v14 h =>
    (wi F L (.store 4 (.c v2) (.c v14)) E0 h fun _ h =>
    (∃ v, resultsV h (enterE [v2, v11]) [.cell 0 true 4, .tmp 1] = some v ∧ K v h)))
    (k___gatepost_head_Reader__Request_0 L K a0 v2 v10 h)))))))
theorem run___gatepost_head_Reader__Request {L : FuncId → List V → V → Prop} {K : V → Heap → Prop} {a0 : V} {h : Heap} (hp : p___gatepost_head_Reader__Request L K a0 h) : Cf F L i___gatepost_head_Reader__Request [a0] h K :=
  wcallp F___gatepost_head_Reader__Request (show 1 ≤ 23 by decide) (p := p___gatepost_head_Reader__Request L K a0 h) (by kernel_rfl) hp
def k___gatepost_head_Reader__Response_0 (L : FuncId → List V → V → Prop) (K : V → Heap → Prop) (v0 v2 v4 : V) (h : Heap) : Prop :=
    (wi F L (.nilck (.c v0)) E0 h fun v17 h =>
    (wi F L (.faddr 11 (.c v17)) E0 h fun v18 h =>
    (wi F L (.load true 4 (.c v18)) E0 h fun v19 h =>
    (wi F L (.boxz [(.int .i64 0), (.int .i64 0), (.str []), .nsl]) E0 h fun v6 h =>
    (wi F L (.store 4 (.c v6) (.c v19)) E0 h fun _ h =>
    (wi F L (.faddr 3 (.c v6)) E0 h fun v21 h =>
    (wi F L (.store 1 (.c v21) (.c v4)) E0 h fun _ h =>
    (wi F L (.load true 4 (.c v6)) E0 h fun v22 h =>
    (wi F L (.store 4 (.c v2) (.c v22)) E0 h fun _ h =>
    (∃ v, resultsV h (enterE [v2, (.int .i64 0)]) [.cell 0 true 4, .tmp 1] = some v ∧ K v h))))))))))
def p___gatepost_head_Reader__Response (L : FuncId → List V → V → Prop) (K : V → Heap → Prop) (a0 : V) (h : Heap) : Prop :=
    (wi F L (.boxz [(.int .i64 0), (.int .i64 0), (.str []), .nsl]) E0 h fun v2 h =>
    (wi F L (.call i___gatepost_head_Reader__whole [(.c a0), (.c (.bool true))]) E0 h fun v9 h =>
    (wi F L (.ext 0 (.c v9)) E0 h fun v10 h =>
    (wi F L (.ext 1 (.c v9)) E0 h fun v11 h =>
    (wi F L (.bin .neq (.c v11) (.c (.int .i64 0))) E0 h fun v13 h =>
    (wb v13
    (wi F L (.build [(.int .i64 0), (.int .i64 0), (.str []), .nsl] []) E0 h fun v14 h =>
    (wi F L (.store 4 (.c v2) (.c v14)) E0 h fun _ h =>
    (∃ v, resultsV h (enterE [v2, v11]) [.cell 0 true 4, .tmp 1] = some v ∧ K v h)))
    (k___gatepost_head_Reader__Response_0 L K a0 v2 v10 h)))))))
theorem run___gatepost_head_Reader__Response {L : FuncId → List V → V → Prop} {K : V → Heap → Prop} {a0 : V} {h : Heap} (hp : p___gatepost_head_Reader__Response L K a0 h) : Cf F L i___gatepost_head_Reader__Response [a0] h K :=
  wcallp F___gatepost_head_Reader__Response (show 1 ≤ 23 by decide) (p := p___gatepost_head_Reader__Response L K a0 h) (by kernel_rfl) hp
def k_head_New_0 (L : FuncId → List V → V → Prop) (K : V → Heap → Prop) (v3 : V) (h : Heap) : Prop :=
    (wi F L (.load false 1 (.c v3)) E0 h fun v16 h =>
    (∃ v, some v16 = some v ∧ K v h))
def p_head_New (L : FuncId → List V → V → Prop) (K : V → Heap → Prop) (a0 : V) (h : Heap) : Prop :=
    (wi F L (.build [.nfn, (.bool false), (.bool false), (.bool false), (.int .i64 0), (.int .i64 0), .nsl, (.str []), (.str []), (.int .i64 0), .nsl, (.int .i64 0), (.int .i64 0), (.str []), .nsl, .nsl] [(1, 1, (.c a0))]) E0 h fun v5 h =>
    (wi F L (.box (.c v5)) E0 h fun v6 h =>
    (wi F L (.boxz [.nilp]) E0 h fun v3 h =>
    (wi F L (.store 1 (.c v3) (.c v6)) E0 h fun _ h =>
    (wi F L (.load false 1 (.c v3)) E0 h fun v7 h =>
    (wi F L (.mkfn i_head_New_1 [(.c v3)]) E0 h fun v8 h =>
    (wi F L (.nilck (.c v7)) E0 h fun v9 h =>
    (wi F L (.faddr 0 (.c v9)) E0 h fun v10 h =>
    (wi F L (.store 1 (.c v10) (.c v8)) E0 h fun _ h =>
    (wb a0
    (wi F L (.load false 1 (.c v3)) E0 h fun v12 h =>
    (wi F L (.mkfn i_head_New_2 [(.c v3)]) E0 h fun v13 h =>
    (wi F L (.nilck (.c v12)) E0 h fun v14 h =>
    (wi F L (.faddr 0 (.c v14)) E0 h fun v15 h =>
    (wi F L (.store 1 (.c v15) (.c v13)) E0 h fun _ h =>
    (k_head_New_0 L K v3 h))))))
    (k_head_New_0 L K v3 h)))))))))))
theorem run_head_New {L : FuncId → List V → V → Prop} {K : V → Heap → Prop} {a0 : V} {h : Heap} (hp : p_head_New L K a0 h) : Cf F L i_head_New [a0] h K :=
  wcallp F_head_New (show 1 ≤ 17 by decide) (p := p_head_New L K a0 h) (by kernel_rfl) hp
def k_gatepostref01_Value_0 (L : FuncId → List V → V → Prop) (K : V → Heap → Prop) (v0 : V) (h : Heap) : Prop :=
    (wi F L (.bin .eql (.c v0) (.c (.str []))) E0 h fun v26 h =>
    (wg v26 false (wi F L (.mv (.c v0)) E0 h) h fun v28 h =>
    (wg v26 false (wi F L (.ixStr (.c v28) (.c (.int .i64 0))) E0 h) h fun v29 h =>
    (wg v26 false (wi F L (.call i_gatepostref01_blank [(.c v29)]) E0 h) h fun v30 h =>
    (wg v26 false (wi F L (.un .not (.c v30)) E0 h) h fun v31 h =>
    (wg v26 false (wi F L (.mv (.c v31)) E0 h) h fun v32 h =>
    (wg v32 true (wi F L (.mv (.c v0)) E0 h) h fun v33 h =>
    (wg v32 true (wi F L (.mv (.c v0)) E0 h) h fun v34 h =>
    (wg v32 true (wi F L (.len 0 (.c v34)) E0 h) h fun v35 h =>
    (wg v32 true (wi F L (.bin .sub (.c v35) (.c (.int .i64 1))) E0 h) h fun v36 h =>
    (wg v32 true (wi F L (.ixStr (.c v33) (.c v36)) E0 h) h fun v37 h =>
    (wg v32 true (wi F L (.call i_gatepostref01_blank [(.c v37)]) E0 h) h fun v38 h =>
    (wg v32 true (wi F L (.un .not (.c v38)) E0 h) h fun v39 h =>
    (wg v26 false (wi F L (.pick (.c v32) (.c v39) (.c (.bool false))) E0 h) h fun v40 h =>
    (wi F L (.pick (.c v26) (.c (.bool true)) (.c v40)) E0 h fun v41 h =>
    (∃ v, some v41 = some v ∧ K v h))))))))))))))))
def k_gatepostref01_Value_2 (L : FuncId → List V → V → Prop) (K : V → Heap → Prop) (N0 : Env → Heap → Prop) (e : Env) (v3 : V) (h : Heap) : Prop :=
    (wi F L (.bin .add (.c v3) (.c (.int .i64 1))) E0 h fun v10 h =>
    (N0 (upd (upd (upd e 9 v3) 10 v10) 3 v10) h))
def k_gatepostref01_Value_1 (L : FuncId → List V → V → Prop) (K : V → Heap → Prop) (N0 : Env → Heap → Prop) (e : Env) (v0 v3 : V) (h : Heap) : Prop :=
    (wi F L (.ixStr (.c v0) (.c v3)) E0 h fun v13 h =>
    (wi F L (.call i_gatepostref01_blank [(.c v13)]) E0 h fun v15 h =>
    (wi F L (.un .not (.c v15)) E0 h fun v16 h =>
    (wg v16 true (wi F L (.mv (.c v13)) E0 h) h fun v18 h =>
    (wg v16 true (wi F L (.bin .lss (.c v18) (.c (.int .u8 33))) E0 h) h fun v19 h =>
    (wg v16 true (wi F L (.mv (.c v19)) E0 h) h fun v20 h =>
    (wg v20 false (wi F L (.mv (.c v13)) E0 h) h fun v21 h =>
    (wg v20 false (wi F L (.bin .eql (.c v21) (.c (.int .u8 127))) E0 h) h fun v22 h =>
    (wg v16 true (wi F L (.pick (.c v20) (.c (.bool true)) (.c v22)) E0 h) h fun v23 h =>
    (wi F L (.pick (.c v16) (.c v23) (.c (.bool false))) E0 h fun v24 h =>
    (wb v24
    (∃ v, some (.bool false) = some v ∧ K v h)
    (k_gatepostref01_Value_2 L K N0 (upd (upd (upd (upd (upd (upd (upd (upd (upd (upd (upd (upd (upd (upd (upd e 11 v0) 12 v3) 13 v13) 4 v13) 14 v13) 15 v15) 16 v16) 17 v16) 18 v18) 19 v19) 20 v20) 21 v21) 22 v22) 23 v23) 24 v24) v3 h))))))))))))
def q_gatepostref01_Value_0 (L : FuncId → List V → V → Prop) (K : V → Heap → Prop) : X → Env → Heap → Prop := (fun x => (seqX (fun e h => k_gatepostref01_Value_0 L K (e 0) h) (retX c_gatepostref01_Value.results K)) (X.out 0 x))
def lc_gatepostref01_Value_0 : C :=
  (.seq (.seq (.region [⟨(some 5), none, .mv (.t 3)⟩, ⟨(some 6), none, .mv (.t 0)⟩, ⟨(some 7), none, .len 0 (.t 6)⟩, ⟨(some 8), none, .bin .lss (.t 5) (.t 7)⟩])
  (.cond (.t 8)
    .skip
    (.exit 0)))
  (.seq (.block 1 (.seq (.region [⟨(some 11), none, .mv (.t 0)⟩, ⟨(some 12), none, .mv (.t 3)⟩, ⟨(some 13), none, .ixStr (.t 11) (.t 12)⟩, ⟨(some 4), none, .mv (.t 13)⟩])
  (.seq (.region [⟨(some 14), none, .mv (.t 4)⟩, ⟨(some 15), none, .call i_gatepostref01_blank [(.t 14)]⟩, ⟨(some 16), none, .un .not (.t 15)⟩, ⟨(some 17), none, .mv (.t 16)⟩, ⟨(some 18), (some (17, true)), .mv (.t 4)⟩, ⟨(some 19), (some (17, true)), .bin .lss (.t 18) (.c (.int .u8 33))⟩, ⟨(some 20), (some (17, true)), .mv (.t 19)⟩, ⟨(some 21), (some (20, false)), .mv (.t 4)⟩, ⟨(some 22), (some (20, false)), .bin .eql (.t 21) (.c (.int .u8 127))⟩, ⟨(some 23), (some (17, true)), .pick (.t 20) (.c (.bool true)) (.t 22)⟩, ⟨(some 24), none, .pick (.t 17) (.t 23) (.c (.bool false))⟩])
  (.cond (.t 24)
    (.seq (.region [⟨(some 2), none, .mv (.c (.bool false))⟩])
    .ret)
    .skip))))
  (.region [⟨(some 9), none, .mv (.t 3)⟩, ⟨(some 10), none, .bin .add (.t 9) (.c (.int .i64 1))⟩, ⟨(some 3), none, .mv (.t 10)⟩])))
def b_gatepostref01_Value_0 (L : FuncId → List V → V → Prop) (K : V → Heap → Prop) (N0 : Env → Heap → Prop) (e : Env) (h : Heap) : Prop :=
    (wi F L (.len 0 (.c (e 0))) E0 h fun v7 h =>
    (wi F L (.bin .lss (.c (e 3)) (.c v7)) E0 h fun v8 h =>
    (wb v8
    (k_gatepostref01_Value_1 L K N0 (upd (upd (upd (upd e 5 (e 3)) 6 (e 0)) 7 v7) 8 v8) (e 0) (e 3) h)
    (k_gatepostref01_Value_0 L K (e 0) h))))
theorem l_gatepostref01_Value_0 {L : FuncId → List V → V → Prop} {K : V → Heap → Prop} (I : Nat → Env → Heap → Prop) (hr : ∀ n e h, I n e h → b_gatepostref01_Value_0 L K (fun e' h' => ∃ m, m < n ∧ I m e' h') e h) {n : Nat} {e : Env} {h : Heap} (hi : I n e h) : Wl F L lc_gatepostref01_Value_0 (q_gatepostref01_Value_0 L K) e h :=
  wloopp (b := b_gatepostref01_Value_0 L K) I (fun _ _ _ => by kernel_rfl) hr hi
def p_gatepostref01_Value (L : FuncId → List V → V → Prop) (K : V → Heap → Prop) (a0 : V) (h : Heap) : Prop :=
    (Wl F L lc_gatepostref01_Value_0 (q_gatepostref01_Value_0 L K) (upd (upd (enterE [a0]) 2 (.bool false)) 3 (.int .i64 0)) h)
theorem run_gatepostref01_Value {L : FuncId → List V → V → Prop} {K : V → Heap → Prop} {a0 : V} {h : Heap} (hp : p_gatepostref01_Value L K a0 h) : Cf F L i_gatepostref01_Value [a0] h K :=
  wcallp F_gatepostref01_Value (show 1 ≤ 42 by decide) (p := p_gatepostref01_Value L K a0 h) (by kernel_rfl) hp
def p_gatepostlaw05_names (L : FuncId → List V → V → Prop) (K : V → Heap → Prop) (h : Heap) : Prop :=
    (∃ v, some (.bool true) = some v ∧ K v h)
theorem run_gatepostlaw05_names {L : FuncId → List V → V → Prop} {K : V → Heap → Prop} {h : Heap} (hp : p_gatepostlaw05_names L K  h) : Cf F L i_gatepostlaw05_names [] h K :=
  wcallp F_gatepostlaw05_names (show 0 ≤ 1 by decide) (p := p_gatepostlaw05_names L K  h) (by kernel_rfl) hp
def k_gatepostlaw05_piece_0 (L : FuncId → List V → V → Prop) (K : V → Heap → Prop) (v2 v9 : V) (h : Heap) : Prop :=
    (wi F L (.bin .add (.c v2) (.c v9)) E0 h fun v33 h =>
    (∃ v, some v33 = some v ∧ K v h))
def p_gatepostlaw05_piece (L : FuncId → List V → V → Prop) (K : V → Heap → Prop) (a0 a1 a2 a3 : V) (h : Heap) : Prop :=
    (wi F L (.bin .sub (.c a3) (.c a2)) E0 h fun v12 h =>
    (wi F L (.len 1 (.c a0)) E0 h fun v15 h =>
    (wi F L (.bin .lss (.c a1) (.c v15)) E0 h fun v16 h =>
    (wg v16 true (wi F L (.mv (.c a0)) E0 h) h fun v18 h =>
    (wg v16 true (wi F L (.mv (.c a1)) E0 h) h fun v19 h =>
    (wg v16 true (wi F L (.ixaSl 1 (.c v18) (.c v19)) E0 h) h fun v20 h =>
    (wg v16 true (wi F L (.load false 1 (.c v20)) E0 h) h fun v21 h =>
    (wg v16 true (wi F L (.bin .and (.c v21) (.c (.int .i64 1023))) E0 h) h fun v22 h =>
    (wg v16 true (wi F L (.mv (.c v12)) E0 h) h fun v23 h =>
    (wg v16 true (wi F L (.bin .lss (.c v22) (.c v23)) E0 h) h fun v24 h =>
    (wi F L (.pick (.c v16) (.c v24) (.c (.bool false))) E0 h fun v25 h =>
    (wb v25
    (wi F L (.ixaSl 1 (.c a0) (.c a1)) E0 h fun v28 h =>
    (wi F L (.load false 1 (.c v28)) E0 h fun v29 h =>
    (wi F L (.bin .and (.c v29) (.c (.int .i64 1023))) E0 h fun v30 h =>
    (k_gatepostlaw05_piece_0 L K a2 v30 h))))
    (k_gatepostlaw05_piece_0 L K a2 v12 h)))))))))))))
theorem run_gatepostlaw05_piece {L : FuncId → List V → V → Prop} {K : V → Heap → Prop} {a0 a1 a2 a3 : V} {h : Heap} (hp : p_gatepostlaw05_piece L K a0 a1 a2 a3 h) : Cf F L i_gatepostlaw05_piece [a0, a1, a2, a3] h K :=
  wcallp F_gatepostlaw05_piece (show 4 ≤ 34 by decide) (p := p_gatepostlaw05_piece L K a0 a1 a2 a3 h) (by kernel_rfl) hp
def k___gatepost_gatepostref05_Reader__Feed_0 (L : FuncId → List V → V → Prop) (K : V → Heap → Prop) (v0 v7 : V) (h : Heap) : Prop :=
    (wi F L (.nilck (.c v0)) E0 h fun v112 h' => Ext h h' ∧
    (wi F L (.faddr 13 (.c v112)) E0 h' fun v113 h => Ext h' h ∧
    (wi F L (.load false 1 (.c v113)) E0 h fun v114 h' => Ext h h' ∧
    (wi F L (.nilck (.c v0)) E0 h' fun v116 h => Ext h' h ∧
    (wi F L (.faddr 14 (.c v116)) E0 h fun v117 h' => Ext h h' ∧
    (wi F L (.load false 1 (.c v117)) E0 h' fun v118 h => Ext h' h ∧
    (∃ v, resultsV h (enterE [v7, v114, v118]) [.tmp 0, .tmp 1, .tmp 2] = some v ∧ K v h)))))))
def k___gatepost_gatepostref05_Reader__Feed_4 (L : FuncId → List V → V → Prop) (K : V → Heap → Prop) (N0 : Env → Heap → Prop) (e : Env) (v0 v9 : V) (h : Heap) : Prop :=
    (wi F L (.nilck (.c v0)) E0 h fun v105 h =>
    (wi F L (.faddr 2 (.c v105)) E0 h fun v106 h =>
    (wi F L (.store 1 (.c v106) (.c (.str []))) E0 h fun _ h =>
    (wi F L (.call i___gatepost_gatepostref05_Reader__ended [(.c v0), (.c v9)]) E0 h fun v109 h =>
    (N0 (upd (upd (upd (upd (upd (upd e 104 v0) 105 v105) 106 v106) 107 v0) 108 v9) 109 v109) h)))))
def k___gatepost_gatepostref05_Reader__Feed_3 (L : FuncId → List V → V → Prop) (K : V → Heap → Prop) (N0 : Env → Heap → Prop) (e : Env) (v0 : V) (h : Heap) : Prop :=
    (wi F L (.nilck (.c v0)) E0 h fun v78 h' => Ext h h' ∧
    (wi F L (.faddr 2 (.c v78)) E0 h' fun v79 h => Ext h' h ∧
    (wi F L (.load false 1 (.c v79)) E0 h fun v80 h' => Ext h h' ∧
    (wi F L (.nilck (.c v0)) E0 h' fun v82 h => Ext h' h ∧
    (wi F L (.faddr 2 (.c v82)) E0 h fun v83 h' => Ext h h' ∧
    (wi F L (.load false 1 (.c v83)) E0 h' fun v84 h => Ext h' h ∧
    (wi F L (.len 0 (.c v84)) E0 h fun v85 h' => Ext h h' ∧
    (wi F L (.bin .sub (.c v85) (.c (.int .i64 1))) E0 h' fun v86 h => Ext h' h ∧
    (wi F L (.slstr (.c v80) none (some (.c v86))) E0 h fun v87 h =>
    (wi F L (.len 0 (.c v87)) E0 h fun v89 h =>
    (wi F L (.bin .gtr (.c v89) (.c (.int .i64 0))) E0 h fun v90 h =>
    (wg v90 true (wi F L (.mv (.c v87)) E0 h) h fun v92 h =>
    (wg v90 true (wi F L (.mv (.c v87)) E0 h) h fun v93 h =>
    (wg v90 true (wi F L (.len 0 (.c v93)) E0 h) h fun v94 h =>
    (wg v90 true (wi F L (.bin .sub (.c v94) (.c (.int .i64 1))) E0 h) h fun v95 h =>
    (wg v90 true (wi F L (.ixStr (.c v92) (.c v95)) E0 h) h fun v96 h =>
    (wg v90 true (wi F L (.bin .eql (.c v96) (.c (.int .u8 13))) E0 h) h fun v97 h =>
    (wi F L (.pick (.c v90) (.c v97) (.c (.bool false))) E0 h fun v98 h =>
    (wb v98
    (wi F L (.len 0 (.c v87)) E0 h fun v101 h =>
    (wi F L (.bin .sub (.c v101) (.c (.int .i64 1))) E0 h fun v102 h =>
    (wi F L (.slstr (.c v87) none (some (.c v102))) E0 h fun v103 h =>
    (k___gatepost_gatepostref05_Reader__Feed_4 L K N0 (upd (upd (upd (upd (upd (upd (upd (upd (upd (upd (upd (upd (upd (upd (upd (upd (upd (upd (upd (upd (upd (upd (upd (upd (upd (upd (upd (upd (upd e 77 v0) 78 v78) 79 v79) 80 v80) 81 v0) 82 v82) 83 v83) 84 v84) 85 v85) 86 v86) 87 v87) 9 v87) 88 v87) 89 v89) 90 v90) 91 v90) 92 v92) 93 v93) 94 v94) 95 v95) 96 v96) 97 v97) 98 v98) 99 v87) 100 v87) 101 v101) 102 v102) 103 v103) 9 v103) v0 v103 h))))
    (k___gatepost_gatepostref05_Reader__Feed_4 L K N0 (upd (upd (upd (upd (upd (upd (upd (upd (upd (upd (upd (upd (upd (upd (upd (upd (upd (upd (upd (upd (upd (upd (upd e 77 v0) 78 v78) 79 v79) 80 v80) 81 v0) 82 v82) 83 v83) 84 v84) 85 v85) 86 v86) 87 v87) 9 v87) 88 v87) 89 v89) 90 v90) 91 v90) 92 v92) 93 v93) 94 v94) 95 v95) 96 v96) 97 v97) 98 v98) v0 v87 h))))))))))))))))))))
def k___gatepost_gatepostref05_Reader__Feed_2 (L : FuncId → List V → V → Prop) (K : V → Heap → Prop) (N0 : Env → Heap → Prop) (e : Env) (v0 v8 : V) (h : Heap) : Prop :=
    (wi F L (.bin .neq (.c v8) (.c (.int .u8 10))) E0 h fun v76 h =>
    (wb v76
    (N0 (upd (upd e 75 v8) 76 v76) h)
    (k___gatepost_gatepostref05_Reader__Feed_3 L K N0 (upd (upd e 75 v8) 76 v76) v0 h)))
def k___gatepost_gatepostref05_Reader__Feed_1 (L : FuncId → List V → V → Prop) (K : V → Heap → Prop) (N0 : Env → Heap → Prop) (e : Env) (v0 v1 v7 : V) (h : Heap) : Prop :=
    (wi F L (.ixaSl 1 (.c v1) (.c v7)) E0 h fun v30 h =>
    (wi F L (.load false 1 (.c v30)) E0 h fun v31 h =>
    (wi F L (.bin .add (.c v7) (.c (.int .i64 1))) E0 h fun v33 h =>
    (wi F L (.nilck (.c v0)) E0 h fun v35 h =>
    (wi F L (.faddr 1 (.c v35)) E0 h fun v36 h =>
    (wi F L (.load false 1 (.c v36)) E0 h fun v37 h =>
    (wi F L (.bin .add (.c v37) (.c (.int .i64 1))) E0 h fun v38 h =>
    (wi F L (.nilck (.c v0)) E0 h fun v39 h =>
    (wi F L (.faddr 1 (.c v39)) E0 h fun v40 h =>
    (wi F L (.store 1 (.c v40) (.c v38)) E0 h fun _ h =>
    (wi F L (.nilck (.c v0)) E0 h fun v43 h' => Ext h h' ∧
    (wi F L (.faddr 2 (.c v43)) E0 h' fun v44 h => Ext h' h ∧
    (wi F L (.load false 1 (.c v44)) E0 h fun v45 h' => Ext h h' ∧
    (wi F L (.bsl 1 [(.c v31)]) E0 h' fun v47 h => Ext h' h ∧
    (wi F L (.toStr (.c v47)) E0 h fun v48 h' => Ext h h' ∧
    (wi F L (.bin .add (.c v45) (.c v48)) E0 h' fun v49 h => Ext h' h ∧
    (wi F L (.nilck (.c v0)) E0 h fun v50 h =>
    (wi F L (.faddr 2 (.c v50)) E0 h fun v51 h =>
    (wi F L (.store 1 (.c v51) (.c v49)) E0 h fun _ h =>
    (wi F L (.nilck (.c v0)) E0 h fun v53 h =>
    (wi F L (.faddr 1 (.c v53)) E0 h fun v54 h =>
    (wi F L (.load false 1 (.c v54)) E0 h fun v55 h =>
    (wi F L (.bin .gtr (.c v55) (.c (.int .i64 8192))) E0 h fun v56 h =>
    (wg v56 false (wi F L (.mv (.c v0)) E0 h) h fun v58 h =>
    (wg v56 false (wi F L (.nilck (.c v58)) E0 h) h fun v59 h =>
    (wg v56 false (wi F L (.faddr 3 (.c v59)) E0 h) h fun v60 h =>
    (wg v56 false (wi F L (.load false 1 (.c v60)) E0 h) h fun v61 h =>
    (wg v56 false (wi F L (.un .not (.c v61)) E0 h) h fun v62 h =>
    (wg v56 false (wi F L (.mv (.c v62)) E0 h) h fun v63 h =>
    (wg v63 true (wi F L (.mv (.c v0)) E0 h) h fun v64 h =>
    (wg v63 true (wi F L (.nilck (.c v64)) E0 h) h fun v65 h =>
    (wg v63 true (wi F L (.faddr 2 (.c v65)) E0 h) h fun v66 h =>
    (wg v63 true (wi F L (.load false 1 (.c v66)) E0 h) h fun v67 h =>
    (wg v63 true (wi F L (.len 0 (.c v67)) E0 h) h fun v68 h =>
    (wg v63 true (wi F L (.bin .gtr (.c v68) (.c (.int .i64 1026))) E0 h) h fun v69 h =>
    (wg v56 false (wi F L (.pick (.c v63) (.c v69) (.c (.bool false))) E0 h) h fun v70 h =>
    (wi F L (.pick (.c v56) (.c (.bool true)) (.c v70)) E0 h fun v71 h =>
    (wb v71
    (wi F L (.nilck (.c v0)) E0 h fun v73 h =>
    (wi F L (.faddr 14 (.c v73)) E0 h fun v74 h =>
    (wi F L (.store 1 (.c v74) (.c (.int .i64 3))) E0 h fun _ h =>
    (k___gatepost_gatepostref05_Reader__Feed_0 L K v0 v33 h))))
    (k___gatepost_gatepostref05_Reader__Feed_2 L K N0 (upd (upd (upd (upd (upd (upd (upd (upd (upd (upd (upd (upd (upd (upd (upd (upd (upd (upd (upd (upd (upd (upd (upd (upd (upd (upd (upd (upd (upd (upd (upd (upd (upd (upd (upd (upd (upd (upd (upd (upd (upd (upd (upd (upd (upd (upd e 28 v1) 29 v7) 30 v30) 31 v31) 8 v31) 32 v7) 33 v33) 7 v33) 34 v0) 35 v35) 36 v36) 37 v37) 38 v38) 39 v39) 40 v40) 41 v0) 42 v0) 43 v43) 44 v44) 45 v45) 46 v31) 47 v47) 48 v48) 49 v49) 50 v50) 51 v51) 52 v0) 53 v53) 54 v54) 55 v55) 56 v56) 57 v56) 58 v58) 59 v59) 60 v60) 61 v61) 62 v62) 63 v63) 64 v64) 65 v65) 66 v66) 67 v67) 68 v68) 69 v69) 70 v70) 71 v71) v0 v31 h)))))))))))))))))))))))))))))))))))))))
def q___gatepost_gatepostref05_Reader__Feed_0 (L : FuncId → List V → V → Prop) (K : V → Heap → Prop) : X → Env → Heap → Prop := (fun x => (seqX (fun e h => k___gatepost_gatepostref05_Reader__Feed_0 L K (e 0) (e 7) h) (retX c___gatepost_gatepostref05_Reader__Feed.results K)) (X.out 0 x))
def lc___gatepost_gatepostref05_Reader__Feed_0 : C :=
  (.seq (.seq (.region [⟨(some 10), none, .mv (.t 7)⟩, ⟨(some 11), none, .mv (.t 1)⟩, ⟨(some 12), none, .len 1 (.t 11)⟩, ⟨(some 13), none, .bin .lss (.t 10) (.t 12)⟩, ⟨(some 14), none, .mv (.t 13)⟩, ⟨(some 15), (some (14, true)), .mv (.t 0)⟩, ⟨(some 16), (some (14, true)), .nilck (.t 15)⟩, ⟨(some 17), (some (14, true)), .faddr 14 (.t 16)⟩, ⟨(some 18), (some (14, true)), .load false 1 (.t 17)⟩, ⟨(some 19), (some (14, true)), .bin .eql (.t 18) (.c (.int .i64 0))⟩, ⟨(some 20), none, .pick (.t 14) (.t 19) (.c (.bool false))⟩, ⟨(some 21), none, .mv (.t 20)⟩, ⟨(some 22), (some (21, true)), .mv (.t 0)⟩, ⟨(some 23), (some (21, true)), .nilck (.t 22)⟩, ⟨(some 24), (some (21, true)), .faddr 13 (.t 23)⟩, ⟨(some 25), (some (21, true)), .load false 1 (.t 24)⟩, ⟨(some 26), (some (21, true)), .un .not (.t 25)⟩, ⟨(some 27), none, .pick (.t 21) (.t 26) (.c (.bool false))⟩])
  (.cond (.t 27)
    .skip
    (.exit 0)))
  (.block 1 (.seq (.region [⟨(some 28), none, .mv (.t 1)⟩, ⟨(some 29), none, .mv (.t 7)⟩, ⟨(some 30), none, .ixaSl 1 (.t 28) (.t 29)⟩, ⟨(some 31), none, .load false 1 (.t 30)⟩, ⟨(some 8), none, .mv (.t 31)⟩])
  (.seq (.region [⟨(some 32), none, .mv (.t 7)⟩, ⟨(some 33), none, .bin .add (.t 32) (.c (.int .i64 1))⟩, ⟨(some 7), none, .mv (.t 33)⟩])
  (.seq (.region [⟨(some 34), none, .mv (.t 0)⟩, ⟨(some 35), none, .nilck (.t 34)⟩, ⟨(some 36), none, .faddr 1 (.t 35)⟩, ⟨(some 37), none, .load false 1 (.t 36)⟩, ⟨(some 38), none, .bin .add (.t 37) (.c (.int .i64 1))⟩, ⟨(some 39), none, .nilck (.t 34)⟩, ⟨(some 40), none, .faddr 1 (.t 39)⟩, ⟨none, none, .store 1 (.t 40) (.t 38)⟩])
  (.seq (.dregion [⟨(some 41), none, .mv (.t 0)⟩, ⟨(some 42), none, .mv (.t 0)⟩, ⟨(some 43), none, .nilck (.t 42)⟩, ⟨(some 44), none, .faddr 2 (.t 43)⟩, ⟨(some 45), none, .load false 1 (.t 44)⟩, ⟨(some 46), none, .mv (.t 8)⟩, ⟨(some 47), none, .bsl 1 [(.t 46)]⟩, ⟨(some 48), none, .toStr (.t 47)⟩, ⟨(some 49), none, .bin .add (.t 45) (.t 48)⟩] [⟨(some 50), none, .nilck (.t 41)⟩, ⟨(some 51), none, .faddr 2 (.t 50)⟩, ⟨none, none, .store 1 (.t 51) (.t 49)⟩])
  (.seq (.seq (.region [⟨(some 52), none, .mv (.t 0)⟩, ⟨(some 53), none, .nilck (.t 52)⟩, ⟨(some 54), none, .faddr 1 (.t 53)⟩, ⟨(some 55), none, .load false 1 (.t 54)⟩, ⟨(some 56), none, .bin .gtr (.t 55) (.c (.int .i64 8192))⟩, ⟨(some 57), none, .mv (.t 56)⟩, ⟨(some 58), (some (57, false)), .mv (.t 0)⟩, ⟨(some 59), (some (57, false)), .nilck (.t 58)⟩, ⟨(some 60), (some (57, false)), .faddr 3 (.t 59)⟩, ⟨(some 61), (some (57, false)), .load false 1 (.t 60)⟩, ⟨(some 62), (some (57, false)), .un .not (.t 61)⟩, ⟨(some 63), (some (57, false)), .mv (.t 62)⟩, ⟨(some 64), (some (63, true)), .mv (.t 0)⟩, ⟨(some 65), (some (63, true)), .nilck (.t 64)⟩, ⟨(some 66), (some (63, true)), .faddr 2 (.t 65)⟩, ⟨(some 67), (some (63, true)), .load false 1 (.t 66)⟩, ⟨(some 68), (some (63, true)), .len 0 (.t 67)⟩, ⟨(some 69), (some (63, true)), .bin .gtr (.t 68) (.c (.int .i64 1026))⟩, ⟨(some 70), (some (57, false)), .pick (.t 63) (.t 69) (.c (.bool false))⟩, ⟨(some 71), none, .pick (.t 57) (.c (.bool true)) (.t 70)⟩])
  (.cond (.t 71)
    (.seq (.region [⟨(some 72), none, .mv (.t 0)⟩, ⟨(some 73), none, .nilck (.t 72)⟩, ⟨(some 74), none, .faddr 14 (.t 73)⟩, ⟨none, none, .store 1 (.t 74) (.c (.int .i64 3))⟩])
    (.exit 0))
    .skip))
  (.seq (.seq (.region [⟨(some 75), none, .mv (.t 8)⟩, ⟨(some 76), none, .bin .neq (.t 75) (.c (.int .u8 10))⟩])
  (.cond (.t 76)
    (.exit 1)
    .skip))
  (.seq (.dregion [⟨(some 77), none, .mv (.t 0)⟩, ⟨(some 78), none, .nilck (.t 77)⟩, ⟨(some 79), none, .faddr 2 (.t 78)⟩, ⟨(some 80), none, .load false 1 (.t 79)⟩, ⟨(some 81), none, .mv (.t 0)⟩, ⟨(some 82), none, .nilck (.t 81)⟩, ⟨(some 83), none, .faddr 2 (.t 82)⟩, ⟨(some 84), none, .load false 1 (.t 83)⟩, ⟨(some 85), none, .len 0 (.t 84)⟩, ⟨(some 86), none, .bin .sub (.t 85) (.c (.int .i64 1))⟩] [⟨(some 87), none, .slstr (.t 80) none (some (.t 86))⟩, ⟨(some 9), none, .mv (.t 87)⟩])
  (.seq (.seq (.region [⟨(some 88), none, .mv (.t 9)⟩, ⟨(some 89), none, .len 0 (.t 88)⟩, ⟨(some 90), none, .bin .gtr (.t 89) (.c (.int .i64 0))⟩, ⟨(some 91), none, .mv (.t 90)⟩, ⟨(some 92), (some (91, true)), .mv (.t 9)⟩, ⟨(some 93), (some (91, true)), .mv (.t 9)⟩, ⟨(some 94), (some (91, true)), .len 0 (.t 93)⟩, ⟨(some 95), (some (91, true)), .bin .sub (.t 94) (.c (.int .i64 1))⟩, ⟨(some 96), (some (91, true)), .ixStr (.t 92) (.t 95)⟩, ⟨(some 97), (some (91, true)), .bin .eql (.t 96) (.c (.int .u8 13))⟩, ⟨(some 98), none, .pick (.t 91) (.t 97) (.c (.bool false))⟩])
  (.cond (.t 98)
    (.region [⟨(some 99), none, .mv (.t 9)⟩, ⟨(some 100), none, .mv (.t 9)⟩, ⟨(some 101), none, .len 0 (.t 100)⟩, ⟨(some 102), none, .bin .sub (.t 101) (.c (.int .i64 1))⟩, ⟨(some 103), none, .slstr (.t 99) none (some (.t 102))⟩, ⟨(some 9), none, .mv (.t 103)⟩])
    .skip))
  (.seq (.region [⟨(some 104), none, .mv (.t 0)⟩, ⟨(some 105), none, .nilck (.t 104)⟩, ⟨(some 106), none, .faddr 2 (.t 105)⟩, ⟨none, none, .store 1 (.t 106) (.c (.str []))⟩])
  (.region [⟨(some 107), none, .mv (.t 0)⟩, ⟨(some 108), none, .mv (.t 9)⟩, ⟨(some 109), none, .call i___gatepost_gatepostref05_Reader__ended [(.t 107), (.t 108)]⟩]))))))))))))
def b___gatepost_gatepostref05_Reader__Feed_0 (L : FuncId → List V → V → Prop) (K : V → Heap → Prop) (N0 : Env → Heap → Prop) (e : Env) (h : Heap) : Prop :=
    (wi F L (.len 1 (.c (e 1))) E0 h fun v12 h =>
    (wi F L (.bin .lss (.c (e 7)) (.c v12)) E0 h fun v13 h =>
    (wg v13 true (wi F L (.mv (.c (e 0))) E0 h) h fun v15 h =>
    (wg v13 true (wi F L (.nilck (.c v15)) E0 h) h fun v16 h =>
    (wg v13 true (wi F L (.faddr 14 (.c v16)) E0 h) h fun v17 h =>
    (wg v13 true (wi F L (.load false 1 (.c v17)) E0 h) h fun v18 h =>
    (wg v13 true (wi F L (.bin .eql (.c v18) (.c (.int .i64 0))) E0 h) h fun v19 h =>
    (wi F L (.pick (.c v13) (.c v19) (.c (.bool false))) E0 h fun v20 h =>
    (wg v20 true (wi F L (.mv (.c (e 0))) E0 h) h fun v22 h =>
    (wg v20 true (wi F L (.nilck (.c v22)) E0 h) h fun v23 h =>
    (wg v20 true (wi F L (.faddr 13 (.c v23)) E0 h) h fun v24 h =>
    (wg v20 true (wi F L (.load false 1 (.c v24)) E0 h) h fun v25 h =>
    (wg v20 true (wi F L (.un .not (.c v25)) E0 h) h fun v26 h =>
    (wi F L (.pick (.c v20) (.c v26) (.c (.bool false))) E0 h fun v27 h =>
    (wb v27
    (k___gatepost_gatepostref05_Reader__Feed_1 L K N0 (upd (upd (upd (upd (upd (upd (upd (upd (upd (upd (upd (upd (upd (upd (upd (upd (upd (upd e 10 (e 7)) 11 (e 1)) 12 v12) 13 v13) 14 v13) 15 v15) 16 v16) 17 v17) 18 v18) 19 v19) 20 v20) 21 v20) 22 v22) 23 v23) 24 v24) 25 v25) 26 v26) 27 v27) (e 0) (e 1) (e 7) h)
    (k___gatepost_gatepostref05_Reader__Feed_0 L K (e 0) (e 7) h))))))))))))))))
theorem l___gatepost_gatepostref05_Reader__Feed_0 {L : FuncId → List V → V → Prop} {K : V → Heap → Prop} (I : Nat → Env → Heap → Prop) (hr : ∀ n e h, I n e h → b___gatepost_gatepostref05_Reader__Feed_0 L K (fun e' h' => ∃ m, m < n ∧ I m e' h') e h) {n : Nat} {e : Env} {h : Heap} (hi : I n e h) : Wl F L lc___gatepost_gatepostref05_Reader__Feed_0 (q___gatepost_gatepostref05_Reader__Feed_0 L K) e h :=
  wloopp (b := b___gatepost_gatepostref05_Reader__Feed_0 L K) I (fun _ _ _ => by kernel_rfl) hr hi
def p___gatepost_gatepostref05_Reader__Feed (L : FuncId → List V → V → Prop) (K : V → Heap → Prop) (a0 a1 : V) (h : Heap) : Prop :=
    (Wl F L lc___gatepost_gatepostref05_Reader__Feed_0 (q___gatepost_gatepostref05_Reader__Feed_0 L K) (upd (upd (upd (upd (enterE [a0, a1]) 4 (.int .i64 0)) 5 (.bool false)) 6 (.int .i64 0)) 7 (.int .i64 0)) h)
theorem run___gatepost_gatepostref05_Reader__Feed {L : FuncId → List V → V → Prop} {K : V → Heap → Prop} {a0 a1 : V} {h : Heap} (hp : p___gatepost_gatepostref05_Reader__Feed L K a0 a1 h) : Cf F L i___gatepost_gatepostref05_Reader__Feed [a0, a1] h K :=
  wcallp F___gatepost_gatepostref05_Reader__Feed (show 2 ≤ 119 by decide) (p := p___gatepost_gatepostref05_Reader__Feed L K a0 a1 h) (by kernel_rfl) hp
def k___gatepost_gatepostref05_Reader__Request_0 (L : FuncId → List V → V → Prop) (K : V → Heap → Prop) (v0 v2 : V) (h : Heap) : Prop :=
    (wi F L (.nilck (.c v0)) E0 h fun v25 h =>
    (wi F L (.faddr 4 (.c v25)) E0 h fun v26 h =>
    (wi F L (.load true 4 (.c v26)) E0 h fun v27 h =>
    (wi F L (.boxz [(.str []), (.str []), (.int .i64 0), .nsl]) E0 h fun v4 h =>
    (wi F L (.store 4 (.c v4) (.c v27)) E0 h fun _ h =>
    (wi F L (.bsl 2 []) E0 h fun v28 h =>
    (wi F L (.nilck (.c v0)) E0 h fun v30 h =>
    (wi F L (.faddr 12 (.c v30)) E0 h fun v31 h =>
    (wi F L (.load false 1 (.c v31)) E0 h fun v32 h =>
    (wi F L (.app 2 32 false (.c v28) (.c v32)) E0 h fun v33 h =>
    (wi F L (.faddr 3 (.c v4)) E0 h fun v34 h =>
    (wi F L (.store 1 (.c v34) (.c v33)) E0 h fun _ h =>
    (wi F L (.load true 4 (.c v4)) E0 h fun v35 h =>
    (wi F L (.store 4 (.c v2) (.c v35)) E0 h fun _ h =>
    (∃ v, resultsV h (enterE [v2, (.int .i64 0)]) [.cell 0 true 4, .tmp 1] = some v ∧ K v h)))))))))))))))
def p___gatepost_gatepostref05_Reader__Request (L : FuncId → List V → V → Prop) (K : V → Heap → Prop) (a0 : V) (h : Heap) : Prop :=
    (wi F L (.boxz [(.str []), (.str []), (.int .i64 0), .nsl]) E0 h fun v2 h =>
    (wi F L (.nilck (.c a0)) E0 h fun v6 h =>
    (wi F L (.faddr 13 (.c v6)) E0 h fun v7 h =>
    (wi F L (.load false 1 (.c v7)) E0 h fun v8 h =>
    (wi F L (.un .not (.c v8)) E0 h fun v9 h =>
    (wg v9 false (wi F L (.mv (.c a0)) E0 h) h fun v11 h =>
    (wg v9 false (wi F L (.nilck (.c v11)) E0 h) h fun v12 h =>
    (wg v9 false (wi F L (.faddr 14 (.c v12)) E0 h) h fun v13 h =>
    (wg v9 false (wi F L (.load false 1 (.c v13)) E0 h) h fun v14 h =>
    (wg v9 false (wi F L (.bin .neq (.c v14) (.c (.int .i64 0))) E0 h) h fun v15 h =>
    (wi F L (.pick (.c v9) (.c (.bool true)) (.c v15)) E0 h fun v16 h =>
    (wg v16 false (wi F L (.mv (.c a0)) E0 h) h fun v18 h =>
    (wg v16 false (wi F L (.nilck (.c v18)) E0 h) h fun v19 h =>
    (wg v16 false (wi F L (.faddr 0 (.c v19)) E0 h) h fun v20 h =>
    (wg v16 false (wi F L (.load false 1 (.c v20)) E0 h) h fun v21 h =>
    (wi F L (.pick (.c v16) (.c (.bool true)) (.c v21)) E0 h fun v22 h =>
    (wb v22
    (wi F L (.build [(.str []), (.str []), (.int .i64 0), .nsl] []) E0 h fun v23 h =>
    (wi F L (.store 4 (.c v2) (.c v23)) E0 h fun _ h =>
    (∃ v, resultsV h (enterE [v2, (.int .i64 16)]) [.cell 0 true 4, .tmp 1] = some v ∧ K v h)))
    (k___gatepost_gatepostref05_Reader__Request_0 L K a0 v2 h))))))))))))))))))
theorem run___gatepost_gatepostref05_Reader__Request {L : FuncId → List V → V → Prop} {K : V → Heap → Prop} {a0 : V} {h : Heap} (hp : p___gatepost_gatepostref05_Reader__Request L K a0 h) : Cf F L i___gatepost_gatepostref05_Reader__Request [a0] h K :=
  wcallp F___gatepost_gatepostref05_Reader__Request (show 1 ≤ 36 by decide) (p := p___gatepost_gatepostref05_Reader__Request L K a0 h) (by kernel_rfl) hp
def k___gatepost_gatepostref05_Reader__Response_0 (L : FuncId → List V → V → Prop) (K : V → Heap → Prop) (v0 v2 : V) (h : Heap) : Prop :=
    (wi F L (.nilck (.c v0)) E0 h fun v26 h =>
    (wi F L (.faddr 8 (.c v26)) E0 h fun v27 h =>
    (wi F L (.load true 4 (.c v27)) E0 h fun v28 h =>
    (wi F L (.boxz [(.int .i64 0), (.int .i64 0), (.str []), .nsl]) E0 h fun v4 h =>
    (wi F L (.store 4 (.c v4) (.c v28)) E0 h fun _ h =>
    (wi F L (.bsl 2 []) E0 h fun v29 h =>
    (wi F L (.nilck (.c v0)) E0 h fun v31 h =>
    (wi F L (.faddr 12 (.c v31)) E0 h fun v32 h =>
    (wi F L (.load false 1 (.c v32)) E0 h fun v33 h =>
    (wi F L (.app 2 32 false (.c v29) (.c v33)) E0 h fun v34 h =>
    (wi F L (.faddr 3 (.c v4)) E0 h fun v35 h =>
    (wi F L (.store 1 (.c v35) (.c v34)) E0 h fun _ h =>
    (wi F L (.load true 4 (.c v4)) E0 h fun v36 h =>
    (wi F L (.store 4 (.c v2) (.c v36)) E0 h fun _ h =>
    (∃ v, resultsV h (enterE [v2, (.int .i64 0)]) [.cell 0 true 4, .tmp 1] = some v ∧ K v h)))))))))))))))
def p___gatepost_gatepostref05_Reader__Response (L : FuncId → List V → V → Prop) (K : V → Heap → Prop) (a0 : V) (h : Heap) : Prop :=
    (wi F L (.boxz [(.int .i64 0), (.int .i64 0), (.str []), .nsl]) E0 h fun v2 h =>
    (wi F L (.nilck (.c a0)) E0 h fun v6 h =>
    (wi F L (.faddr 13 (.c v6)) E0 h fun v7 h =>
    (wi F L (.load false 1 (.c v7)) E0 h fun v8 h =>
    (wi F L (.un .not (.c v8)) E0 h fun v9 h =>
    (wg v9 false (wi F L (.mv (.c a0)) E0 h) h fun v11 h =>
    (wg v9 false (wi F L (.nilck (.c v11)) E0 h) h fun v12 h =>
    (wg v9 false (wi F L (.faddr 14 (.c v12)) E0 h) h fun v13 h =>
    (wg v9 false (wi F L (.load false 1 (.c v13)) E0 h) h fun v14 h =>
    (wg v9 false (wi F L (.bin .neq (.c v14) (.c (.int .i64 0))) E0 h) h fun v15 h =>
    (wi F L (.pick (.c v9) (.c (.bool true)) (.c v15)) E0 h fun v16 h =>
    (wg v16 false (wi F L (.mv (.c a0)) E0 h) h fun v18 h =>
    (wg v16 false (wi F L (.nilck (.c v18)) E0 h) h fun v19 h =>
    (wg v16 false (wi F L (.faddr 0 (.c v19)) E0 h) h fun v20 h =>
    (wg v16 false (wi F L (.load false 1 (.c v20)) E0 h) h fun v21 h =>
    (wg v16 false (wi F L (.un .not (.c v21)) E0 h) h fun v22 h =>
    (wi F L (.pick (.c v16) (.c (.bool true)) (.c v22)) E0 h fun v23 h =>
    (wb v23
    (wi F L (.build [(.int .i64 0), (.int .i64 0), (.str []), .nsl] []) E0 h fun v24 h =>
    (wi F L (.store 4 (.c v2) (.c v24)) E0 h fun _ h =>
    (∃ v, resultsV h (enterE [v2, (.int .i64 16)]) [.cell 0 true 4, .tmp 1] = some v ∧ K v h)))
    (k___gatepost_gatepostref05_Reader__Response_0 L K a0 v2 h)))))))))))))))))))
theorem run___gatepost_gatepostref05_Reader__Response {L : FuncId → List V → V → Prop} {K : V → Heap → Prop} {a0 : V} {h : Heap} (hp : p___gatepost_gatepostref05_Reader__Response L K a0 h) : Cf F L i___gatepost_gatepostref05_Reader__Response [a0] h K :=
  wcallp F___gatepost_gatepostref05_Reader__Response (show 1 ≤ 37 by decide) (p := p___gatepost_gatepostref05_Reader__Response L K a0 h) (by kernel_rfl) hp
def p_gatepostref05_SameRequest (L : FuncId → List V → V → Prop) (K : V → Heap → Prop) (a0 a1 : V) (h : Heap) : Prop :=
    (wi F L (.box (.c a0)) E0 h fun v2 h =>
    (wi F L (.box (.c a1)) E0 h fun v3 h =>
    (wi F L (.faddr 0 (.c v2)) E0 h fun v5 h =>
    (wi F L (.load false 1 (.c v5)) E0 h fun v6 h =>
    (wi F L (.faddr 0 (.c v3)) E0 h fun v7 h =>
    (wi F L (.load false 1 (.c v7)) E0 h fun v8 h =>
    (wi F L (.bin .eql (.c v6) (.c v8)) E0 h fun v9 h =>
    (wg v9 true (wi F L (.faddr 1 (.c v2)) E0 h) h fun v11 h =>
    (wg v9 true (wi F L (.load false 1 (.c v11)) E0 h) h fun v12 h =>
    (wg v9 true (wi F L (.faddr 1 (.c v3)) E0 h) h fun v13 h =>
    (wg v9 true (wi F L (.load false 1 (.c v13)) E0 h) h fun v14 h =>
    (wg v9 true (wi F L (.bin .eql (.c v12) (.c v14)) E0 h) h fun v15 h =>
    (wi F L (.pick (.c v9) (.c v15) (.c (.bool false))) E0 h fun v16 h =>
    (wg v16 true (wi F L (.faddr 2 (.c v2)) E0 h) h fun v18 h =>
    (wg v16 true (wi F L (.load false 1 (.c v18)) E0 h) h fun v19 h =>
    (wg v16 true (wi F L (.faddr 2 (.c v3)) E0 h) h fun v20 h =>
    (wg v16 true (wi F L (.load false 1 (.c v20)) E0 h) h fun v21 h =>
    (wg v16 true (wi F L (.bin .eql (.c v19) (.c v21)) E0 h) h fun v22 h =>
    (wi F L (.pick (.c v16) (.c v22) (.c (.bool false))) E0 h fun v23 h =>
    (wg v23 true (wi F L (.faddr 3 (.c v2)) E0 h) h fun v25 h =>
    (wg v23 true (wi F L (.load false 1 (.c v25)) E0 h) h fun v26 h =>
    (wg v23 true (wi F L (.faddr 3 (.c v3)) E0 h) h fun v27 h =>
    (wg v23 true (wi F L (.load false 1 (.c v27)) E0 h) h fun v28 h =>
    (wg v23 true (wi F L (.call i_gatepostref04_Same [(.c v26), (.c v28)]) E0 h) h fun v29 h =>
    (wi F L (.pick (.c v23) (.c v29) (.c (.bool false))) E0 h fun v30 h =>
    (∃ v, some v30 = some v ∧ K v h))))))))))))))))))))))))))
theorem run_gatepostref05_SameRequest {L : FuncId → List V → V → Prop} {K : V → Heap → Prop} {a0 a1 : V} {h : Heap} (hp : p_gatepostref05_SameRequest L K a0 a1 h) : Cf F L i_gatepostref05_SameRequest [a0, a1] h K :=
  wcallp F_gatepostref05_SameRequest (show 2 ≤ 31 by decide) (p := p_gatepostref05_SameRequest L K a0 a1 h) (by kernel_rfl) hp
def p_gatepostref05_SameResponse (L : FuncId → List V → V → Prop) (K : V → Heap → Prop) (a0 a1 : V) (h : Heap) : Prop :=
    (wi F L (.box (.c a0)) E0 h fun v2 h =>
    (wi F L (.box (.c a1)) E0 h fun v3 h =>
    (wi F L (.faddr 1 (.c v2)) E0 h fun v5 h =>
    (wi F L (.load false 1 (.c v5)) E0 h fun v6 h =>
    (wi F L (.faddr 1 (.c v3)) E0 h fun v7 h =>
    (wi F L (.load false 1 (.c v7)) E0 h fun v8 h =>
    (wi F L (.bin .eql (.c v6) (.c v8)) E0 h fun v9 h =>
    (wg v9 true (wi F L (.faddr 2 (.c v2)) E0 h) h fun v11 h =>
    (wg v9 true (wi F L (.load false 1 (.c v11)) E0 h) h fun v12 h =>
    (wg v9 true (wi F L (.faddr 2 (.c v3)) E0 h) h fun v13 h =>
    (wg v9 true (wi F L (.load false 1 (.c v13)) E0 h) h fun v14 h =>
    (wg v9 true (wi F L (.bin .eql (.c v12) (.c v14)) E0 h) h fun v15 h =>
    (wi F L (.pick (.c v9) (.c v15) (.c (.bool false))) E0 h fun v16 h =>
    (wg v16 true (wi F L (.faddr 0 (.c v2)) E0 h) h fun v18 h =>
    (wg v16 true (wi F L (.load false 1 (.c v18)) E0 h) h fun v19 h =>
    (wg v16 true (wi F L (.faddr 0 (.c v3)) E0 h) h fun v20 h =>
    (wg v16 true (wi F L (.load false 1 (.c v20)) E0 h) h fun v21 h =>
    (wg v16 true (wi F L (.bin .eql (.c v19) (.c v21)) E0 h) h fun v22 h =>
    (wi F L (.pick (.c v16) (.c v22) (.c (.bool false))) E0 h fun v23 h =>
    (wg v23 true (wi F L (.faddr 3 (.c v2)) E0 h) h fun v25 h =>
    (wg v23 true (wi F L (.load false 1 (.c v25)) E0 h) h fun v26 h =>
    (wg v23 true (wi F L (.faddr 3 (.c v3)) E0 h) h fun v27 h =>
    (wg v23 true (wi F L (.load false 1 (.c v27)) E0 h) h fun v28 h =>
    (wg v23 true (wi F L (.call i_gatepostref04_Same [(.c v26), (.c v28)]) E0 h) h fun v29 h =>
    (wi F L (.pick (.c v23) (.c v29) (.c (.bool false))) E0 h fun v30 h =>
    (∃ v, some v30 = some v ∧ K v h))))))))))))))))))))))))))
theorem run_gatepostref05_SameResponse {L : FuncId → List V → V → Prop} {K : V → Heap → Prop} {a0 a1 : V} {h : Heap} (hp : p_gatepostref05_SameResponse L K a0 a1 h) : Cf F L i_gatepostref05_SameResponse [a0, a1] h K :=
  wcallp F_gatepostref05_SameResponse (show 2 ≤ 31 by decide) (p := p_gatepostref05_SameResponse L K a0 a1 h) (by kernel_rfl) hp
def p___gatepost_head_Reader__none (L : FuncId → List V → V → Prop) (K : V → Heap → Prop) (a0 : V) (h : Heap) : Prop :=
    (wi F L (.eq (.nil 3) false (.c a0) (.c .nilp)) E0 h fun v4 h =>
    (wg v4 false (wi F L (.mv (.c a0)) E0 h) h fun v6 h =>
    (wg v4 false (wi F L (.nilck (.c v6)) E0 h) h fun v7 h =>
    (wg v4 false (wi F L (.faddr 0 (.c v7)) E0 h) h fun v8 h =>
    (wg v4 false (wi F L (.load false 1 (.c v8)) E0 h) h fun v9 h =>
    (wg v4 false (wi F L (.eq (.nil 2) false (.c v9) (.c .nfn)) E0 h) h fun v10 h =>
    (wi F L (.pick (.c v4) (.c (.bool true)) (.c v10)) E0 h fun v11 h =>
    (∃ v, some v11 = some v ∧ K v h))))))))
theorem run___gatepost_head_Reader__none {L : FuncId → List V → V → Prop} {K : V → Heap → Prop} {a0 : V} {h : Heap} (hp : p___gatepost_head_Reader__none L K a0 h) : Cf F L i___gatepost_head_Reader__none [a0] h K :=
  wcallp F___gatepost_head_Reader__none (show 1 ≤ 12 by decide) (p := p___gatepost_head_Reader__none L K a0 h) (by kernel_rfl) hp
def k___gatepost_head_Reader__take_2 (L : FuncId → List V → V → Prop) (K : V → Heap → Prop) (v0 v49 : V) (h : Heap) : Prop :=
    (wi F L (.nilck (.c v0)) E0 h fun v52 h =>
    (wi F L (.faddr 6 (.c v52)) E0 h fun v53 h =>
    (wi F L (.load false 1 (.c v53)) E0 h fun v54 h =>
    (wi F L (.slsl 1 (.c v54) none (some (.c (.int .i64 0))) none) E0 h fun v55 h =>
    (wi F L (.nilck (.c v0)) E0 h fun v56 h =>
    (wi F L (.faddr 6 (.c v56)) E0 h fun v57 h =>
    (wi F L (.store 1 (.c v57) (.c v55)) E0 h fun _ h =>
    (wi F L (.call i___gatepost_head_Reader__ended [(.c v0), (.c v49)]) E0 h fun v60 h =>
    (∃ v, some v60 = some v ∧ K v h)))))))))
def k___gatepost_head_Reader__take_1 (L : FuncId → List V → V → Prop) (K : V → Heap → Prop) (v0 : V) (h : Heap) : Prop :=
    (wi F L (.nilck (.c v0)) E0 h fun v46 h =>
    (wi F L (.faddr 6 (.c v46)) E0 h fun v47 h =>
    (wi F L (.load false 1 (.c v47)) E0 h fun v48 h =>
    (wi F L (.call i_head_cut [(.c v48)]) E0 h fun v49 h =>
    (k___gatepost_head_Reader__take_2 L K v0 v49 h)))))
def k___gatepost_head_Reader__take_0 (L : FuncId → List V → V → Prop) (K : V → Heap → Prop) (v0 v1 : V) (h : Heap) : Prop :=
    (wi F L (.bin .neq (.c v1) (.c (.int .u8 10))) E0 h fun v44 h =>
    (wb v44
    (∃ v, some (.int .i64 0) = some v ∧ K v h)
    (k___gatepost_head_Reader__take_1 L K v0 h)))
def p___gatepost_head_Reader__take (L : FuncId → List V → V → Prop) (K : V → Heap → Prop) (a0 a1 : V) (h : Heap) : Prop :=
    (wi F L (.nilck (.c a0)) E0 h fun v7 h =>
    (wi F L (.faddr 5 (.c v7)) E0 h fun v8 h =>
    (wi F L (.load false 1 (.c v8)) E0 h fun v9 h =>
    (wi F L (.bin .add (.c v9) (.c (.int .i64 1))) E0 h fun v10 h =>
    (wi F L (.nilck (.c a0)) E0 h fun v11 h =>
    (wi F L (.faddr 5 (.c v11)) E0 h fun v12 h =>
    (wi F L (.store 1 (.c v12) (.c v10)) E0 h fun _ h =>
    (wi F L (.nilck (.c a0)) E0 h fun v15 h =>
    (wi F L (.faddr 6 (.c v15)) E0 h fun v16 h =>
    (wi F L (.load false 1 (.c v16)) E0 h fun v17 h =>
    (wi F L (.bsl 1 [(.c a1)]) E0 h fun v19 h =>
    (wi F L (.app 1 1 true (.c v17) (.c v19)) E0 h fun v20 h =>
    (wi F L (.nilck (.c a0)) E0 h fun v21 h =>
    (wi F L (.faddr 6 (.c v21)) E0 h fun v22 h =>
    (wi F L (.store 1 (.c v22) (.c v20)) E0 h fun _ h =>
    (wi F L (.nilck (.c a0)) E0 h fun v24 h =>
    (wi F L (.faddr 5 (.c v24)) E0 h fun v25 h =>
    (wi F L (.load false 1 (.c v25)) E0 h fun v26 h =>
    (wi F L (.bin .gtr (.c v26) (.c (.int .i64 8192))) E0 h fun v27 h =>
    (wg v27 false (wi F L (.mv (.c a0)) E0 h) h fun v29 h =>
    (wg v27 false (wi F L (.nilck (.c v29)) E0 h) h fun v30 h =>
    (wg v27 false (wi F L (.faddr 2 (.c v30)) E0 h) h fun v31 h =>
    (wg v27 false (wi F L (.load false 1 (.c v31)) E0 h) h fun v32 h =>
    (wg v27 false (wi F L (.un .not (.c v32)) E0 h) h fun v33 h =>
    (wg v27 false (wi F L (.mv (.c v33)) E0 h) h fun v34 h =>
    (wg v34 true (wi F L (.mv (.c a0)) E0 h) h fun v35 h =>
    (wg v34 true (wi F L (.nilck (.c v35)) E0 h) h fun v36 h =>
    (wg v34 true (wi F L (.faddr 6 (.c v36)) E0 h) h fun v37 h =>
    (wg v34 true (wi F L (.load false 1 (.c v37)) E0 h) h fun v38 h =>
    (wg v34 true (wi F L (.len 1 (.c v38)) E0 h) h fun v39 h =>
    (wg v34 true (wi F L (.bin .gtr (.c v39) (.c (.int .i64 1026))) E0 h) h fun v40 h =>
    (wg v27 false (wi F L (.pick (.c v34) (.c v40) (.c (.bool false))) E0 h) h fun v41 h =>
    (wi F L (.pick (.c v27) (.c (.bool true)) (.c v41)) E0 h fun v42 h =>
    (wb v42
    (∃ v, some (.int .i64 3) = some v ∧ K v h)
    (k___gatepost_head_Reader__take_0 L K a0 a1 h)))))))))))))))))))))))))))))))))))
theorem run___gatepost_head_Reader__take {L : FuncId → List V → V → Prop} {K : V → Heap → Prop} {a0 a1 : V} {h : Heap} (hp : p___gatepost_head_Reader__take L K a0 a1 h) : Cf F L i___gatepost_head_Reader__take [a0, a1] h K :=
  wcallp F___gatepost_head_Reader__take (show 2 ≤ 61 by decide) (p := p___gatepost_head_Reader__take L K a0 a1 h) (by kernel_rfl) hp
def k___gatepost_head_Reader__whole_0 (L : FuncId → List V → V → Prop) (K : V → Heap → Prop) (v0 : V) (h : Heap) : Prop :=
    (wi F L (.nilck (.c v0)) E0 h fun v25 h =>
    (wi F L (.faddr 15 (.c v25)) E0 h fun v26 h =>
    (wi F L (.load false 1 (.c v26)) E0 h fun v27 h =>
    (wi F L (.len 1 (.c v27)) E0 h fun v28 h =>
    (wi F L (.mksl 2 32 [(.str []), (.str [])] (.c v28) (.c v28)) E0 h fun v29 h =>
    (wi F L (.nilck (.c v0)) E0 h fun v32 h =>
    (wi F L (.faddr 15 (.c v32)) E0 h fun v33 h =>
    (wi F L (.load false 1 (.c v33)) E0 h fun v34 h =>
    (wi F L (.copy 2 (.c v29) (.c v34)) E0 h fun v35 h =>
    (∃ v, resultsV h (enterE [v29, (.int .i64 0)]) [.tmp 0, .tmp 1] = some v ∧ K v h))))))))))
def p___gatepost_head_Reader__whole (L : FuncId → List V → V → Prop) (K : V → Heap → Prop) (a0 a1 : V) (h : Heap) : Prop :=
    (wi F L (.call i___gatepost_head_Reader__none [(.c a0)]) E0 h fun v9 h =>
    (wb v9
    (∃ v, resultsV h (enterE [.nsl, (.int .i64 1)]) [.tmp 0, .tmp 1] = some v ∧ K v h)
    (wi F L (.nilck (.c a0)) E0 h fun v12 h =>
    (wi F L (.faddr 3 (.c v12)) E0 h fun v13 h =>
    (wi F L (.load false 1 (.c v13)) E0 h fun v14 h =>
    (wi F L (.un .not (.c v14)) E0 h fun v15 h =>
    (wg v15 false (wi F L (.mv (.c a0)) E0 h) h fun v17 h =>
    (wg v15 false (wi F L (.nilck (.c v17)) E0 h) h fun v18 h =>
    (wg v15 false (wi F L (.faddr 1 (.c v18)) E0 h) h fun v19 h =>
    (wg v15 false (wi F L (.load false 1 (.c v19)) E0 h) h fun v20 h =>
    (wg v15 false (wi F L (.mv (.c a1)) E0 h) h fun v21 h =>
    (wg v15 false (wi F L (.eq .bool true (.c v20) (.c v21)) E0 h) h fun v22 h =>
    (wi F L (.pick (.c v15) (.c (.bool true)) (.c v22)) E0 h fun v23 h =>
    (wb v23
    (∃ v, resultsV h (enterE [.nsl, (.int .i64 16)]) [.tmp 0, .tmp 1] = some v ∧ K v h)
    (k___gatepost_head_Reader__whole_0 L K a0 h)))))))))))))))
theorem run___gatepost_head_Reader__whole {L : FuncId → List V → V → Prop} {K : V → Heap → Prop} {a0 a1 : V} {h : Heap} (hp : p___gatepost_head_Reader__whole L K a0 a1 h) : Cf F L i___gatepost_head_Reader__whole [a0, a1] h K :=
  wcallp F___gatepost_head_Reader__whole (show 2 ≤ 37 by decide) (p := p___gatepost_head_Reader__whole L K a0 a1 h) (by kernel_rfl) hp
def p_head_New_1 (L : FuncId → List V → V → Prop) (K : V → Heap → Prop) (a0 a1 : V) (h : Heap) : Prop :=
    (wi F L (.load false 1 (.c a1)) E0 h fun v5 h' => Ext h h' ∧
    (wi F L (.load false 1 (.c a1)) E0 h' fun v6 h => Ext h' h ∧
    (wi F L (.load false 1 (.c a1)) E0 h fun v7 h' => Ext h h' ∧
    (wi F L (.call i_line_Request [(.c a0)]) E0 h' fun v9 h => Ext h' h ∧
    (wi F L (.ext 0 (.c v9)) E0 h fun v10 h' => Ext h h' ∧
    (wi F L (.ext 1 (.c v9)) E0 h' fun v11 h => Ext h' h ∧
    (wi F L (.ext 2 (.c v9)) E0 h fun v12 h' => Ext h h' ∧
    (wi F L (.ext 3 (.c v9)) E0 h' fun v13 h => Ext h' h ∧
    (wi F L (.nilck (.c v5)) E0 h fun v14 h' => Ext h h' ∧
    (wi F L (.faddr 7 (.c v14)) E0 h' fun v15 h => Ext h' h ∧
    (wi F L (.faddr 0 (.c v15)) E0 h fun v16 h' => Ext h h' ∧
    (wi F L (.store 1 (.c v16) (.c v10)) E0 h' fun _ h' => (loadV h' false 1 a1 = some v6 ∧ (loadV h' false 1 a1 = some v7 ∧ True)) ∧
    (wi F L (.nilck (.c v6)) E0 h' fun v17 h' =>
    (wi F L (.faddr 7 (.c v17)) E0 h' fun v18 h' =>
    (wi F L (.faddr 1 (.c v18)) E0 h' fun v19 h' =>
    (wi F L (.store 1 (.c v19) (.c v11)) E0 h' fun _ h' => (loadV h' false 1 a1 = some v6 ∧ (loadV h' false 1 a1 = some v7 ∧ True)) ∧
    (wi F L (.nilck (.c v7)) E0 h' fun v20 h' =>
    (wi F L (.faddr 7 (.c v20)) E0 h' fun v21 h' =>
    (wi F L (.faddr 2 (.c v21)) E0 h' fun v22 h' =>
    (wi F L (.store 1 (.c v22) (.c v12)) E0 h' fun _ h' => (loadV h' false 1 a1 = some v6 ∧ (loadV h' false 1 a1 = some v7 ∧ True)) ∧
    (∃ v, some v13 = some v ∧ K v h')))))))))))))))))))))
theorem run_head_New_1 {L : FuncId → List V → V → Prop} {K : V → Heap → Prop} {a0 a1 : V} {h : Heap} (hp : p_head_New_1 L K a0 a1 h) : Cf F L i_head_New_1 [a0, a1] h K :=
  wcallp F_head_New_1 (show 2 ≤ 24 by decide) (p := p_head_New_1 L K a0 a1 h) (by kernel_rfl) hp
def k_line_Request_1 (L : FuncId → List V → V → Prop) (K : V → Heap → Prop) (v6 : V) (h : Heap) : Prop :=
    (wi F L (.ixaSl 1 (.c v6) (.c (.int .i64 0))) E0 h fun v37 h' => Ext h h' ∧
    (wi F L (.load false 1 (.c v37)) E0 h' fun v38 h => Ext h' h ∧
    (wi F L (.ixaSl 1 (.c v6) (.c (.int .i64 1))) E0 h fun v40 h' => Ext h h' ∧
    (wi F L (.load false 1 (.c v40)) E0 h' fun v41 h => Ext h' h ∧
    (wi F L (.ixaSl 1 (.c v6) (.c (.int .i64 2))) E0 h fun v43 h' => Ext h h' ∧
    (wi F L (.load false 1 (.c v43)) E0 h' fun v44 h => Ext h' h ∧
    (wi F L (.call i_line_version [(.c v44)]) E0 h fun v45 h' => Ext h h' ∧
    (∃ v, resultsV h' (enterE [v38, v41, v45, (.int .i64 0)]) [.tmp 0, .tmp 1, .tmp 2, .tmp 3] = some v ∧ K v h'))))))))
def k_line_Request_0 (L : FuncId → List V → V → Prop) (K : V → Heap → Prop) (v0 : V) (h : Heap) : Prop :=
    (wi F L (.call i_line_words [(.c v0)]) E0 h fun v11 h =>
    (wi F L (.len 1 (.c v11)) E0 h fun v13 h =>
    (wi F L (.bin .neq (.c v13) (.c (.int .i64 3))) E0 h fun v14 h =>
    (wg v14 false (wi F L (.mv (.c v11)) E0 h) h fun v16 h =>
    (wg v14 false (wi F L (.ixaSl 1 (.c v16) (.c (.int .i64 0))) E0 h) h fun v17 h =>
    (wg v14 false (wi F L (.load false 1 (.c v17)) E0 h) h fun v18 h =>
    (wg v14 false (wi F L (.call i_token_Is [(.c v18)]) E0 h) h fun v19 h =>
    (wg v14 false (wi F L (.un .not (.c v19)) E0 h) h fun v20 h =>
    (wi F L (.pick (.c v14) (.c (.bool true)) (.c v20)) E0 h fun v21 h =>
    (wg v21 false (wi F L (.mv (.c v11)) E0 h) h fun v23 h =>
    (wg v21 false (wi F L (.ixaSl 1 (.c v23) (.c (.int .i64 1))) E0 h) h fun v24 h =>
    (wg v21 false (wi F L (.load false 1 (.c v24)) E0 h) h fun v25 h =>
    (wg v21 false (wi F L (.call i_line_isTarget [(.c v25)]) E0 h) h fun v26 h =>
    (wg v21 false (wi F L (.un .not (.c v26)) E0 h) h fun v27 h =>
    (wi F L (.pick (.c v21) (.c (.bool true)) (.c v27)) E0 h fun v28 h =>
    (wg v28 false (wi F L (.mv (.c v11)) E0 h) h fun v30 h =>
    (wg v28 false (wi F L (.ixaSl 1 (.c v30) (.c (.int .i64 2))) E0 h) h fun v31 h =>
    (wg v28 false (wi F L (.load false 1 (.c v31)) E0 h) h fun v32 h =>
    (wg v28 false (wi F L (.call i_line_version [(.c v32)]) E0 h) h fun v33 h =>
    (wg v28 false (wi F L (.bin .lss (.c v33) (.c (.int .i64 0))) E0 h) h fun v34 h =>
    (wi F L (.pick (.c v28) (.c (.bool true)) (.c v34)) E0 h fun v35 h =>
    (wb v35
    (∃ v, resultsV h (enterE [(.str []), (.str []), (.int .i64 0), (.int .i64 30)]) [.tmp 0, .tmp 1, .tmp 2, .tmp 3] = some v ∧ K v h)
    (k_line_Request_1 L K v11 h)))))))))))))))))))))))
def p_line_Request (L : FuncId → List V → V → Prop) (K : V → Heap → Prop) (a0 : V) (h : Heap) : Prop :=
    (wi F L (.len 0 (.c a0)) E0 h fun v8 h =>
    (wi F L (.bin .gtr (.c v8) (.c (.int .i64 1024))) E0 h fun v9 h =>
    (wb v9
    (∃ v, resultsV h (enterE [(.str []), (.str []), (.int .i64 0), (.int .i64 3)]) [.tmp 0, .tmp 1, .tmp 2, .tmp 3] = some v ∧ K v h)
    (k_line_Request_0 L K a0 h))))
theorem run_line_Request {L : FuncId → List V → V → Prop} {K : V → Heap → Prop} {a0 : V} {h : Heap} (hp : p_line_Request L K a0 h) : Cf F L i_line_Request [a0] h K :=
  wcallp F_line_Request (show 1 ≤ 46 by decide) (p := p_line_Request L K a0 h) (by kernel_rfl) hp
def p_head_New_2 (L : FuncId → List V → V → Prop) (K : V → Heap → Prop) (a0 a1 : V) (h : Heap) : Prop :=
    (wi F L (.load false 1 (.c a1)) E0 h fun v5 h' => Ext h h' ∧
    (wi F L (.load false 1 (.c a1)) E0 h' fun v6 h => Ext h' h ∧
    (wi F L (.load false 1 (.c a1)) E0 h fun v7 h' => Ext h h' ∧
    (wi F L (.call i_line_Status [(.c a0)]) E0 h' fun v9 h => Ext h' h ∧
    (wi F L (.ext 0 (.c v9)) E0 h fun v10 h' => Ext h h' ∧
    (wi F L (.ext 1 (.c v9)) E0 h' fun v11 h => Ext h' h ∧
    (wi F L (.ext 2 (.c v9)) E0 h fun v12 h' => Ext h h' ∧
    (wi F L (.ext 3 (.c v9)) E0 h' fun v13 h => Ext h' h ∧
    (wi F L (.nilck (.c v5)) E0 h fun v14 h' => Ext h h' ∧
    (wi F L (.faddr 11 (.c v14)) E0 h' fun v15 h => Ext h' h ∧
    (wi F L (.faddr 0 (.c v15)) E0 h fun v16 h' => Ext h h' ∧
    (wi F L (.store 1 (.c v16) (.c v10)) E0 h' fun _ h' => (loadV h' false 1 a1 = some v6 ∧ (loadV h' false 1 a1 = some v7 ∧ True)) ∧
    (wi F L (.nilck (.c v6)) E0 h' fun v17 h' =>
    (wi F L (.faddr 11 (.c v17)) E0 h' fun v18 h' =>
    (wi F L (.faddr 1 (.c v18)) E0 h' fun v19 h' =>
    (wi F L (.store 1 (.c v19) (.c v11)) E0 h' fun _ h' => (loadV h' false 1 a1 = some v6 ∧ (loadV h' false 1 a1 = some v7 ∧ True)) ∧
    (wi F L (.nilck (.c v7)) E0 h' fun v20 h' =>
    (wi F L (.faddr 11 (.c v20)) E0 h' fun v21 h' =>
    (wi F L (.faddr 2 (.c v21)) E0 h' fun v22 h' =>
    (wi F L (.store 1 (.c v22) (.c v12)) E0 h' fun _ h' => (loadV h' false 1 a1 = some v6 ∧ (loadV h' false 1 a1 = some v7 ∧ True)) ∧
    (∃ v, some v13 = some v ∧ K v h')))))))))))))))))))))
theorem run_head_New_2 {L : FuncId → List V → V → Prop} {K : V → Heap → Prop} {a0 a1 : V} {h : Heap} (hp : p_head_New_2 L K a0 a1 h) : Cf F L i_head_New_2 [a0, a1] h K :=
  wcallp F_head_New_2 (show 2 ≤ 24 by decide) (p := p_head_New_2 L K a0 a1 h) (by kernel_rfl) hp
def k_line_Status_1 (L : FuncId → List V → V → Prop) (K : V → Heap → Prop) (v2 v3 v4 : V) (h : Heap) : Prop :=
    (∃ v, resultsV h (enterE [v2, v3, v4, (.int .i64 0)]) [.tmp 0, .tmp 1, .tmp 2, .tmp 3] = some v ∧ K v h)
def k_line_Status_0 (L : FuncId → List V → V → Prop) (K : V → Heap → Prop) (v0 v6 : V) (h : Heap) : Prop :=
    (wi F L (.call i_strings_Cut [(.c v0), (.c (.str [32]))]) E0 h fun v24 h =>
    (wi F L (.ext 0 (.c v24)) E0 h fun v25 h =>
    (wi F L (.ext 1 (.c v24)) E0 h fun v26 h =>
    (wi F L (.ext 2 (.c v24)) E0 h fun v27 h =>
    (wi F L (.call i_strings_Cut [(.c v26), (.c (.str [32]))]) E0 h fun v30 h =>
    (wi F L (.ext 0 (.c v30)) E0 h fun v31 h =>
    (wi F L (.ext 1 (.c v30)) E0 h fun v32 h =>
    (wi F L (.ext 2 (.c v30)) E0 h fun v33 h =>
    (wi F L (.call i_token_Number [(.c v31), (.c (.int .i64 1024))]) E0 h fun v36 h =>
    (wi F L (.ext 0 (.c v36)) E0 h fun v37 h =>
    (wi F L (.ext 1 (.c v36)) E0 h fun v38 h =>
    (wi F L (.call i_line_version [(.c v25)]) E0 h fun v40 h =>
    (wi F L (.bin .lss (.c v40) (.c (.int .i64 0))) E0 h fun v42 h =>
    (wg v42 false (wi F L (.mv (.c v38)) E0 h) h fun v44 h =>
    (wg v42 false (wi F L (.un .not (.c v44)) E0 h) h fun v45 h =>
    (wi F L (.pick (.c v42) (.c (.bool true)) (.c v45)) E0 h fun v46 h =>
    (wg v46 false (wi F L (.mv (.c v31)) E0 h) h fun v48 h =>
    (wg v46 false (wi F L (.len 0 (.c v48)) E0 h) h fun v49 h =>
    (wg v46 false (wi F L (.bin .neq (.c v49) (.c (.int .i64 3))) E0 h) h fun v50 h =>
    (wi F L (.pick (.c v46) (.c (.bool true)) (.c v50)) E0 h fun v51 h =>
    (wg v51 false (wi F L (.mv (.c v37)) E0 h) h fun v53 h =>
    (wg v51 false (wi F L (.bin .lss (.c v53) (.c (.int .i64 100))) E0 h) h fun v54 h =>
    (wi F L (.pick (.c v51) (.c (.bool true)) (.c v54)) E0 h fun v55 h =>
    (wg v55 false (wi F L (.mv (.c v37)) E0 h) h fun v57 h =>
    (wg v55 false (wi F L (.bin .gtr (.c v57) (.c (.int .i64 599))) E0 h) h fun v58 h =>
    (wi F L (.pick (.c v55) (.c (.bool true)) (.c v58)) E0 h fun v59 h =>
    (wg v59 false (wi F L (.mv (.c v32)) E0 h) h fun v61 h =>
    (wg v59 false (wi F L (.call i_line_isReason [(.c v61)]) E0 h) h fun v62 h =>
    (wg v59 false (wi F L (.un .not (.c v62)) E0 h) h fun v63 h =>
    (wi F L (.pick (.c v59) (.c (.bool true)) (.c v63)) E0 h fun v64 h =>
    (wb v64
    (wi F L (.callv (.c v6) [(.c (.int .i64 30))]) E0 h fun v66 h =>
    (wi F L (.ext 0 (.c v66)) E0 h fun v67 h =>
    (wi F L (.ext 1 (.c v66)) E0 h fun v68 h =>
    (wi F L (.ext 2 (.c v66)) E0 h fun v69 h =>
    (wi F L (.ext 3 (.c v66)) E0 h fun v70 h =>
    (∃ v, resultsV h (enterE [v67, v68, v69, v70]) [.tmp 0, .tmp 1, .tmp 2, .tmp 3] = some v ∧ K v h))))))
    (k_line_Status_1 L K v40 v37 v32 h))))))))))))))))))))))))))))))))
def p_line_Status (L : FuncId → List V → V → Prop) (K : V → Heap → Prop) (a0 : V) (h : Heap) : Prop :=
    (wi F L (.len 0 (.c a0)) E0 h fun v14 h =>
    (wi F L (.bin .gtr (.c v14) (.c (.int .i64 1024))) E0 h fun v15 h =>
    (wb v15
    (wi F L (.callv (.c (.fn i_line_Status_1 [])) [(.c (.int .i64 3))]) E0 h fun v17 h =>
    (wi F L (.ext 0 (.c v17)) E0 h fun v18 h =>
    (wi F L (.ext 1 (.c v17)) E0 h fun v19 h =>
    (wi F L (.ext 2 (.c v17)) E0 h fun v20 h =>
    (wi F L (.ext 3 (.c v17)) E0 h fun v21 h =>
    (∃ v, resultsV h (enterE [v18, v19, v20, v21]) [.tmp 0, .tmp 1, .tmp 2, .tmp 3] = some v ∧ K v h))))))
    (k_line_Status_0 L K a0 (.fn i_line_Status_1 []) h))))
theorem run_line_Status {L : FuncId → List V → V → Prop} {K : V → Heap → Prop} {a0 : V} {h : Heap} (hp : p_line_Status L K a0 h) : Cf F L i_line_Status [a0] h K :=
  wcallp F_line_Status (show 1 ≤ 74 by decide) (p := p_line_Status L K a0 h) (by kernel_rfl) hp
def p_gatepostref01_blank (L : FuncId → List V → V → Prop) (K : V → Heap → Prop) (a0 : V) (h : Heap) : Prop :=
    (wi F L (.bin .eql (.c a0) (.c (.int .u8 32))) E0 h fun v4 h =>
    (wg v4 false (wi F L (.mv (.c a0)) E0 h) h fun v6 h =>
    (wg v4 false (wi F L (.bin .eql (.c v6) (.c (.int .u8 9))) E0 h) h fun v7 h =>
    (wi F L (.pick (.c v4) (.c (.bool true)) (.c v7)) E0 h fun v8 h =>
    (∃ v, some v8 = some v ∧ K v h)))))
theorem run_gatepostref01_blank {L : FuncId → List V → V → Prop} {K : V → Heap → Prop} {a0 : V} {h : Heap} (hp : p_gatepostref01_blank L K a0 h) : Cf F L i_gatepostref01_blank [a0] h K :=
  wcallp F_gatepostref01_blank (show 1 ≤ 9 by decide) (p := p_gatepostref01_blank L K a0 h) (by kernel_rfl) hp
def k___gatepost_gatepostref05_Reader__ended_3 (L : FuncId → List V → V → Prop) (K : V → Heap → Prop) (v0 v80 : V) (h : Heap) : Prop :=
    (wi F L (.ext 0 (.c v80)) E0 h fun v81 h =>
    (wi F L (.ext 1 (.c v80)) E0 h fun v82 h =>
    (wi F L (.boxz [(.str []), (.str [])]) E0 h fun v4 h =>
    (wi F L (.store 2 (.c v4) (.c v81)) E0 h fun _ h =>
    (wi F L (.nilck (.c v0)) E0 h fun v85 h =>
    (wi F L (.faddr 14 (.c v85)) E0 h fun v86 h =>
    (wi F L (.store 1 (.c v86) (.c v82)) E0 h fun _ h =>
    (wi F L (.nilck (.c v0)) E0 h fun v89 h' => Ext h h' ∧
    (wi F L (.faddr 12 (.c v89)) E0 h' fun v90 h => Ext h' h ∧
    (wi F L (.load false 1 (.c v90)) E0 h fun v91 h' => Ext h h' ∧
    (wi F L (.load true 2 (.c v4)) E0 h' fun v92 h => Ext h' h ∧
    (wi F L (.bsl 2 [(.c v92)]) E0 h fun v93 h' => Ext h h' ∧
    (wi F L (.app 2 32 false (.c v91) (.c v93)) E0 h' fun v94 h' => True ∧
    (wi F L (.nilck (.c v0)) E0 h' fun v95 h =>
    (wi F L (.faddr 12 (.c v95)) E0 h fun v96 h =>
    (wi F L (.store 1 (.c v96) (.c v94)) E0 h fun _ h =>
    (∃ v, resultsV h (enterE []) [] = some v ∧ K v h)))))))))))))))))
def k___gatepost_gatepostref05_Reader__ended_2 (L : FuncId → List V → V → Prop) (K : V → Heap → Prop) (v0 v1 : V) (h : Heap) : Prop :=
    (wi F L (.call i_gatepostref04_Parse [(.c v1)]) E0 h fun v80 h =>
    (k___gatepost_gatepostref05_Reader__ended_3 L K v0 v80 h))
def k___gatepost_gatepostref05_Reader__ended_1 (L : FuncId → List V → V → Prop) (K : V → Heap → Prop) (v0 v1 : V) (h : Heap) : Prop :=
    (wi F L (.nilck (.c v0)) E0 h fun v70 h =>
    (wi F L (.faddr 12 (.c v70)) E0 h fun v71 h =>
    (wi F L (.load false 1 (.c v71)) E0 h fun v72 h =>
    (wi F L (.len 1 (.c v72)) E0 h fun v73 h =>
    (wi F L (.bin .eql (.c v73) (.c (.int .i64 64))) E0 h fun v74 h =>
    (wb v74
    (wi F L (.nilck (.c v0)) E0 h fun v76 h =>
    (wi F L (.faddr 14 (.c v76)) E0 h fun v77 h =>
    (wi F L (.store 1 (.c v77) (.c (.int .i64 3))) E0 h fun _ h =>
    (∃ v, resultsV h (enterE []) [] = some v ∧ K v h))))
    (k___gatepost_gatepostref05_Reader__ended_2 L K v0 v1 h)))))))
def k___gatepost_gatepostref05_Reader__ended_0 (L : FuncId → List V → V → Prop) (K : V → Heap → Prop) (v0 v1 : V) (h : Heap) : Prop :=
    (wi F L (.bin .eql (.c v1) (.c (.str []))) E0 h fun v65 h =>
    (wb v65
    (wi F L (.nilck (.c v0)) E0 h fun v67 h =>
    (wi F L (.faddr 13 (.c v67)) E0 h fun v68 h =>
    (wi F L (.store 1 (.c v68) (.c (.bool true))) E0 h fun _ h =>
    (∃ v, resultsV h (enterE []) [] = some v ∧ K v h))))
    (k___gatepost_gatepostref05_Reader__ended_1 L K v0 v1 h)))
def k___gatepost_gatepostref05_Reader__ended_5 (L : FuncId → List V → V → Prop) (K : V → Heap → Prop) (v0 : V) (h : Heap) : Prop :=
    (wi F L (.nilck (.c v0)) E0 h fun v62 h =>
    (wi F L (.faddr 3 (.c v62)) E0 h fun v63 h =>
    (wi F L (.store 1 (.c v63) (.c (.bool true))) E0 h fun _ h =>
    (∃ v, resultsV h (enterE []) [] = some v ∧ K v h))))
def k___gatepost_gatepostref05_Reader__ended_6 (L : FuncId → List V → V → Prop) (K : V → Heap → Prop) (v0 v23 : V) (h : Heap) : Prop :=
    (wi F L (.ext 0 (.c v23)) E0 h fun v24 h =>
    (wi F L (.ext 1 (.c v23)) E0 h fun v25 h =>
    (wi F L (.ext 2 (.c v23)) E0 h fun v26 h =>
    (wi F L (.ext 3 (.c v23)) E0 h fun v27 h =>
    (wi F L (.nilck (.c v0)) E0 h fun v28 h =>
    (wi F L (.faddr 8 (.c v28)) E0 h fun v29 h =>
    (wi F L (.faddr 0 (.c v29)) E0 h fun v30 h =>
    (wi F L (.store 1 (.c v30) (.c v24)) E0 h fun _ h =>
    (wi F L (.nilck (.c v0)) E0 h fun v31 h =>
    (wi F L (.faddr 8 (.c v31)) E0 h fun v32 h =>
    (wi F L (.faddr 1 (.c v32)) E0 h fun v33 h =>
    (wi F L (.store 1 (.c v33) (.c v25)) E0 h fun _ h =>
    (wi F L (.nilck (.c v0)) E0 h fun v34 h =>
    (wi F L (.faddr 8 (.c v34)) E0 h fun v35 h =>
    (wi F L (.faddr 2 (.c v35)) E0 h fun v36 h =>
    (wi F L (.store 1 (.c v36) (.c v26)) E0 h fun _ h =>
    (wi F L (.nilck (.c v0)) E0 h fun v37 h =>
    (wi F L (.faddr 14 (.c v37)) E0 h fun v38 h =>
    (wi F L (.store 1 (.c v38) (.c v27)) E0 h fun _ h =>
    (k___gatepost_gatepostref05_Reader__ended_5 L K v0 h))))))))))))))))))))
def k___gatepost_gatepostref05_Reader__ended_7 (L : FuncId → List V → V → Prop) (K : V → Heap → Prop) (v0 v45 : V) (h : Heap) : Prop :=
    (wi F L (.ext 0 (.c v45)) E0 h fun v46 h =>
    (wi F L (.ext 1 (.c v45)) E0 h fun v47 h =>
    (wi F L (.ext 2 (.c v45)) E0 h fun v48 h =>
    (wi F L (.ext 3 (.c v45)) E0 h fun v49 h =>
    (wi F L (.nilck (.c v0)) E0 h fun v50 h =>
    (wi F L (.faddr 4 (.c v50)) E0 h fun v51 h =>
    (wi F L (.faddr 0 (.c v51)) E0 h fun v52 h =>
    (wi F L (.store 1 (.c v52) (.c v46)) E0 h fun _ h =>
    (wi F L (.nilck (.c v0)) E0 h fun v53 h =>
    (wi F L (.faddr 4 (.c v53)) E0 h fun v54 h =>
    (wi F L (.faddr 1 (.c v54)) E0 h fun v55 h =>
    (wi F L (.store 1 (.c v55) (.c v47)) E0 h fun _ h =>
    (wi F L (.nilck (.c v0)) E0 h fun v56 h =>
    (wi F L (.faddr 4 (.c v56)) E0 h fun v57 h =>
    (wi F L (.faddr 2 (.c v57)) E0 h fun v58 h =>
    (wi F L (.store 1 (.c v58) (.c v48)) E0 h fun _ h =>
    (wi F L (.nilck (.c v0)) E0 h fun v59 h =>
    (wi F L (.faddr 14 (.c v59)) E0 h fun v60 h =>
    (wi F L (.store 1 (.c v60) (.c v49)) E0 h fun _ h =>
    (k___gatepost_gatepostref05_Reader__ended_5 L K v0 h))))))))))))))))))))
def k___gatepost_gatepostref05_Reader__ended_4 (L : FuncId → List V → V → Prop) (K : V → Heap → Prop) (v0 v1 : V) (h : Heap) : Prop :=
    (wi F L (.nilck (.c v0)) E0 h fun v14 h =>
    (wi F L (.faddr 0 (.c v14)) E0 h fun v15 h =>
    (wi F L (.load false 1 (.c v15)) E0 h fun v16 h =>
    (wb v16
    (wi F L (.call i_gatepostref03_Status [(.c v1)]) E0 h fun v23 h =>
    (k___gatepost_gatepostref05_Reader__ended_6 L K v0 v23 h))
    (wi F L (.call i_gatepostref03_Request [(.c v1)]) E0 h fun v45 h =>
    (k___gatepost_gatepostref05_Reader__ended_7 L K v0 v45 h))))))
def p___gatepost_gatepostref05_Reader__ended (L : FuncId → List V → V → Prop) (K : V → Heap → Prop) (a0 a1 : V) (h : Heap) : Prop :=
    (wi F L (.nilck (.c a0)) E0 h fun v7 h =>
    (wi F L (.faddr 3 (.c v7)) E0 h fun v8 h =>
    (wi F L (.load false 1 (.c v8)) E0 h fun v9 h =>
    (wi F L (.un .not (.c v9)) E0 h fun v10 h =>
    (wb v10
    (wi F L (.bin .eql (.c a1) (.c (.str []))) E0 h fun v12 h =>
    (wb v12
    (∃ v, resultsV h (enterE []) [] = some v ∧ K v h)
    (k___gatepost_gatepostref05_Reader__ended_4 L K a0 a1 h)))
    (k___gatepost_gatepostref05_Reader__ended_0 L K a0 a1 h))))))
theorem run___gatepost_gatepostref05_Reader__ended {L : FuncId → List V → V → Prop} {K : V → Heap → Prop} {a0 a1 : V} {h : Heap} (hp : p___gatepost_gatepostref05_Reader__ended L K a0 a1 h) : Cf F L i___gatepost_gatepostref05_Reader__ended [a0, a1] h K :=
  wcallp F___gatepost_gatepostref05_Reader__ended (show 2 ≤ 97 by decide) (p := p___gatepost_gatepostref05_Reader__ended L K a0 a1 h) (by kernel_rfl) hp
def k_gatepostref04_Same_1 (L : FuncId → List V → V → Prop) (K : V → Heap → Prop) (h : Heap) : Prop :=
    (∃ v, some (.bool true) = some v ∧ K v h)
def k_gatepostref04_Same_3 (L : FuncId → List V → V → Prop) (K : V → Heap → Prop) (N0 : Env → Heap → Prop) (e : Env) (v5 : V) (h : Heap) : Prop :=
    (wi F L (.bin .add (.c v5) (.c (.int .i64 1))) E0 h fun v16 h =>
    (N0 (upd (upd (upd e 15 v5) 16 v16) 5 v16) h))
def k_gatepostref04_Same_2 (L : FuncId → List V → V → Prop) (K : V → Heap → Prop) (N0 : Env → Heap → Prop) (e : Env) (v0 v1 v5 : V) (h : Heap) : Prop :=
    (wi F L (.ixaSl 2 (.c v0) (.c v5)) E0 h fun v19 h' => Ext h h' ∧
    (wi F L (.faddr 0 (.c v19)) E0 h' fun v20 h => Ext h' h ∧
    (wi F L (.load false 1 (.c v20)) E0 h fun v21 h' => Ext h h' ∧
    (wi F L (.ixaSl 2 (.c v1) (.c v5)) E0 h' fun v24 h => Ext h' h ∧
    (wi F L (.faddr 0 (.c v24)) E0 h fun v25 h' => Ext h h' ∧
    (wi F L (.load false 1 (.c v25)) E0 h' fun v26 h => Ext h' h ∧
    (wi F L (.bin .neq (.c v21) (.c v26)) E0 h fun v27 h' => Ext h h' ∧
    (wgd v27 false (wi F L (.mv (.c v0)) E0 h') h' fun v29 h =>
    (wgd v27 false (wi F L (.mv (.c v5)) E0 h) h fun v30 h' =>
    (wgd v27 false (wi F L (.ixaSl 2 (.c v29) (.c v30)) E0 h') h' fun v31 h =>
    (wgd v27 false (wi F L (.faddr 1 (.c v31)) E0 h) h fun v32 h' =>
    (wgd v27 false (wi F L (.load false 1 (.c v32)) E0 h') h' fun v33 h =>
    (wgd v27 false (wi F L (.mv (.c v1)) E0 h) h fun v34 h' =>
    (wgd v27 false (wi F L (.mv (.c v5)) E0 h') h' fun v35 h =>
    (wgd v27 false (wi F L (.ixaSl 2 (.c v34) (.c v35)) E0 h) h fun v36 h' =>
    (wgd v27 false (wi F L (.faddr 1 (.c v36)) E0 h') h' fun v37 h =>
    (wgd v27 false (wi F L (.load false 1 (.c v37)) E0 h) h fun v38 h' =>
    (wg v27 false (wi F L (.bin .neq (.c v33) (.c v38)) E0 h') h' fun v39 h =>
    (wi F L (.pick (.c v27) (.c (.bool true)) (.c v39)) E0 h fun v40 h =>
    (wb v40
    (∃ v, some (.bool false) = some v ∧ K v h)
    (k_gatepostref04_Same_3 L K N0 (upd (upd (upd (upd (upd (upd (upd (upd (upd (upd (upd (upd (upd (upd (upd (upd (upd (upd (upd (upd (upd (upd (upd (upd e 17 v0) 18 v5) 19 v19) 20 v20) 21 v21) 22 v1) 23 v5) 24 v24) 25 v25) 26 v26) 27 v27) 28 v27) 29 v29) 30 v30) 31 v31) 32 v32) 33 v33) 34 v34) 35 v35) 36 v36) 37 v37) 38 v38) 39 v39) 40 v40) v5 h)))))))))))))))))))))
def q_gatepostref04_Same_0 (L : FuncId → List V → V → Prop) (K : V → Heap → Prop) : X → Env → Heap → Prop := (fun x => (seqX (fun e h => k_gatepostref04_Same_1 L K  h) (retX c_gatepostref04_Same.results K)) (X.out 0 x))
def lc_gatepostref04_Same_0 : C :=
  (.seq (.seq (.region [⟨(some 11), none, .mv (.t 5)⟩, ⟨(some 12), none, .mv (.t 0)⟩, ⟨(some 13), none, .len 1 (.t 12)⟩, ⟨(some 14), none, .bin .lss (.t 11) (.t 13)⟩])
  (.cond (.t 14)
    .skip
    (.exit 0)))
  (.seq (.block 1 (.seq (.dregion [⟨(some 17), none, .mv (.t 0)⟩, ⟨(some 18), none, .mv (.t 5)⟩, ⟨(some 19), none, .ixaSl 2 (.t 17) (.t 18)⟩, ⟨(some 20), none, .faddr 0 (.t 19)⟩, ⟨(some 21), none, .load false 1 (.t 20)⟩, ⟨(some 22), none, .mv (.t 1)⟩, ⟨(some 23), none, .mv (.t 5)⟩, ⟨(some 24), none, .ixaSl 2 (.t 22) (.t 23)⟩, ⟨(some 25), none, .faddr 0 (.t 24)⟩, ⟨(some 26), none, .load false 1 (.t 25)⟩, ⟨(some 27), none, .bin .neq (.t 21) (.t 26)⟩, ⟨(some 28), none, .mv (.t 27)⟩, ⟨(some 29), (some (28, false)), .mv (.t 0)⟩, ⟨(some 30), (some (28, false)), .mv (.t 5)⟩, ⟨(some 31), (some (28, false)), .ixaSl 2 (.t 29) (.t 30)⟩, ⟨(some 32), (some (28, false)), .faddr 1 (.t 31)⟩, ⟨(some 33), (some (28, false)), .load false 1 (.t 32)⟩, ⟨(some 34), (some (28, false)), .mv (.t 1)⟩, ⟨(some 35), (some (28, false)), .mv (.t 5)⟩, ⟨(some 36), (some (28, false)), .ixaSl 2 (.t 34) (.t 35)⟩, ⟨(some 37), (some (28, false)), .faddr 1 (.t 36)⟩, ⟨(some 38), (some (28, false)), .load false 1 (.t 37)⟩] [⟨(some 39), (some (28, false)), .bin .neq (.t 33) (.t 38)⟩, ⟨(some 40), none, .pick (.t 28) (.c (.bool true)) (.t 39)⟩])
  (.cond (.t 40)
    (.seq (.region [⟨(some 4), none, .mv (.c (.bool false))⟩])
    .ret)
    .skip)))
  (.region [⟨(some 15), none, .mv (.t 5)⟩, ⟨(some 16), none, .bin .add (.t 15) (.c (.int .i64 1))⟩, ⟨(some 5), none, .mv (.t 16)⟩])))
def b_gatepostref04_Same_0 (L : FuncId → List V → V → Prop) (K : V → Heap → Prop) (N0 : Env → Heap → Prop) (e : Env) (h : Heap) : Prop :=
    (wi F L (.len 1 (.c (e 0))) E0 h fun v13 h =>
    (wi F L (.bin .lss (.c (e 5)) (.c v13)) E0 h fun v14 h =>
    (wb v14
    (k_gatepostref04_Same_2 L K N0 (upd (upd (upd (upd e 11 (e 5)) 12 (e 0)) 13 v13) 14 v14) (e 0) (e 1) (e 5) h)
    (k_gatepostref04_Same_1 L K  h))))
theorem l_gatepostref04_Same_0 {L : FuncId → List V → V → Prop} {K : V → Heap → Prop} (I : Nat → Env → Heap → Prop) (hr : ∀ n e h, I n e h → b_gatepostref04_Same_0 L K (fun e' h' => ∃ m, m < n ∧ I m e' h') e h) {n : Nat} {e : Env} {h : Heap} (hi : I n e h) : Wl F L lc_gatepostref04_Same_0 (q_gatepostref04_Same_0 L K) e h :=
  wloopp (b := b_gatepostref04_Same_0 L K) I (fun _ _ _ => by kernel_rfl) hr hi
def k_gatepostref04_Same_0 (L : FuncId → List V → V → Prop) (K : V → Heap → Prop) (e : Env) (h : Heap) : Prop :=
    (Wl F L lc_gatepostref04_Same_0 (q_gatepostref04_Same_0 L K) (upd e 5 (.int .i64 0)) h)
def p_gatepostref04_Same (L : FuncId → List V → V → Prop) (K : V → Heap → Prop) (a0 a1 : V) (h : Heap) : Prop :=
    (wi F L (.len 1 (.c a0)) E0 h fun v7 h =>
    (wi F L (.len 1 (.c a1)) E0 h fun v9 h =>
    (wi F L (.bin .neq (.c v7) (.c v9)) E0 h fun v10 h =>
    (wb v10
    (∃ v, some (.bool false) = some v ∧ K v h)
    (k_gatepostref04_Same_0 L K (upd (upd (upd (upd (upd (upd (enterE [a0, a1]) 4 (.bool false)) 6 a0) 7 v7) 8 a1) 9 v9) 10 v10)  h)))))
theorem run_gatepostref04_Same {L : FuncId → List V → V → Prop} {K : V → Heap → Prop} {a0 a1 : V} {h : Heap} (hp : p_gatepostref04_Same L K a0 a1 h) : Cf F L i_gatepostref04_Same [a0, a1] h K :=
  wcallp F_gatepostref04_Same (show 2 ≤ 41 by decide) (p := p_gatepostref04_Same L K a0 a1 h) (by kernel_rfl) hp
def k_head_cut_0 (L : FuncId → List V → V → Prop) (K : V → Heap → Prop) (v0 : V) (h : Heap) : Prop :=
    (wi F L (.toStr (.c v0)) E0 h fun v26 h =>
    (∃ v, some v26 = some v ∧ K v h))
def p_head_cut (L : FuncId → List V → V → Prop) (K : V → Heap → Prop) (a0 : V) (h : Heap) : Prop :=
    (wi F L (.len 1 (.c a0)) E0 h fun v6 h =>
    (wi F L (.bin .sub (.c v6) (.c (.int .i64 1))) E0 h fun v7 h =>
    (wi F L (.slsl 1 (.c a0) none (some (.c v7)) none) E0 h fun v8 h =>
    (wi F L (.len 1 (.c v8)) E0 h fun v10 h =>
    (wi F L (.bin .gtr (.c v10) (.c (.int .i64 0))) E0 h fun v12 h =>
    (wg v12 true (wi F L (.mv (.c v8)) E0 h) h fun v14 h =>
    (wg v12 true (wi F L (.mv (.c v10)) E0 h) h fun v15 h =>
    (wg v12 true (wi F L (.bin .sub (.c v15) (.c (.int .i64 1))) E0 h) h fun v16 h =>
    (wg v12 true (wi F L (.ixaSl 1 (.c v14) (.c v16)) E0 h) h fun v17 h =>
    (wg v12 true (wi F L (.load false 1 (.c v17)) E0 h) h fun v18 h =>
    (wg v12 true (wi F L (.bin .eql (.c v18) (.c (.int .u8 13))) E0 h) h fun v19 h =>
    (wi F L (.pick (.c v12) (.c v19) (.c (.bool false))) E0 h fun v20 h =>
    (wb v20
    (wi F L (.bin .sub (.c v10) (.c (.int .i64 1))) E0 h fun v23 h =>
    (wi F L (.slsl 1 (.c v8) none (some (.c v23)) none) E0 h fun v24 h =>
    (k_head_cut_0 L K v24 h)))
    (k_head_cut_0 L K v8 h))))))))))))))
theorem run_head_cut {L : FuncId → List V → V → Prop} {K : V → Heap → Prop} {a0 : V} {h : Heap} (hp : p_head_cut L K a0 h) : Cf F L i_head_cut [a0] h K :=
  wcallp F_head_cut (show 1 ≤ 27 by decide) (p := p_head_cut L K a0 h) (by kernel_rfl) hp
def k___gatepost_head_Reader__ended_1 (L : FuncId → List V → V → Prop) (K : V → Heap → Prop) (v0 v47 : V) (h : Heap) : Prop :=
    (wi F L (.ext 0 (.c v47)) E0 h fun v48 h =>
    (wi F L (.ext 1 (.c v47)) E0 h fun v49 h =>
    (wi F L (.boxz [(.str []), (.str [])]) E0 h fun v5 h =>
    (wi F L (.store 2 (.c v5) (.c v48)) E0 h fun _ h =>
    (wi F L (.nilck (.c v0)) E0 h fun v52 h' => Ext h h' ∧
    (wi F L (.faddr 15 (.c v52)) E0 h' fun v53 h => Ext h' h ∧
    (wi F L (.load false 1 (.c v53)) E0 h fun v54 h' => Ext h h' ∧
    (wi F L (.load true 2 (.c v5)) E0 h' fun v55 h => Ext h' h ∧
    (wi F L (.bsl 2 [(.c v55)]) E0 h fun v56 h' => Ext h h' ∧
    (wi F L (.app 2 32 false (.c v54) (.c v56)) E0 h' fun v57 h' => True ∧
    (wi F L (.nilck (.c v0)) E0 h' fun v58 h =>
    (wi F L (.faddr 15 (.c v58)) E0 h fun v59 h =>
    (wi F L (.store 1 (.c v59) (.c v57)) E0 h fun _ h =>
    (∃ v, some v49 = some v ∧ K v h))))))))))))))
def k___gatepost_head_Reader__ended_0 (L : FuncId → List V → V → Prop) (K : V → Heap → Prop) (v0 v1 : V) (h : Heap) : Prop :=
    (wi F L (.call i_field_Parse [(.c v1)]) E0 h fun v47 h =>
    (k___gatepost_head_Reader__ended_1 L K v0 v47 h))
def p___gatepost_head_Reader__ended (L : FuncId → List V → V → Prop) (K : V → Heap → Prop) (a0 a1 : V) (h : Heap) : Prop :=
    (wi F L (.nilck (.c a0)) E0 h fun v9 h =>
    (wi F L (.faddr 2 (.c v9)) E0 h fun v10 h =>
    (wi F L (.load false 1 (.c v10)) E0 h fun v11 h =>
    (wi F L (.un .not (.c v11)) E0 h fun v12 h =>
    (wg v12 true (wi F L (.mv (.c a1)) E0 h) h fun v14 h =>
    (wg v12 true (wi F L (.bin .eql (.c v14) (.c (.str []))) E0 h) h fun v15 h =>
    (wi F L (.pick (.c v12) (.c v15) (.c (.bool false))) E0 h fun v16 h =>
    (wb v16
    (∃ v, some (.int .i64 0) = some v ∧ K v h)
    (wi F L (.nilck (.c a0)) E0 h fun v19 h =>
    (wi F L (.faddr 2 (.c v19)) E0 h fun v20 h =>
    (wi F L (.load false 1 (.c v20)) E0 h fun v21 h =>
    (wi F L (.un .not (.c v21)) E0 h fun v22 h =>
    (wb v22
    (wi F L (.nilck (.c a0)) E0 h fun v24 h =>
    (wi F L (.faddr 2 (.c v24)) E0 h fun v25 h =>
    (wi F L (.store 1 (.c v25) (.c (.bool true))) E0 h fun _ h =>
    (wi F L (.nilck (.c a0)) E0 h fun v27 h =>
    (wi F L (.faddr 0 (.c v27)) E0 h fun v28 h =>
    (wi F L (.load false 1 (.c v28)) E0 h fun v29 h =>
    (wi F L (.callv (.c v29) [(.c a1)]) E0 h fun v31 h =>
    (∃ v, some v31 = some v ∧ K v h))))))))
    (wi F L (.bin .eql (.c a1) (.c (.str []))) E0 h fun v34 h =>
    (wb v34
    (wi F L (.nilck (.c a0)) E0 h fun v36 h =>
    (wi F L (.faddr 3 (.c v36)) E0 h fun v37 h =>
    (wi F L (.store 1 (.c v37) (.c (.bool true))) E0 h fun _ h =>
    (∃ v, some (.int .i64 0) = some v ∧ K v h))))
    (wi F L (.nilck (.c a0)) E0 h fun v40 h =>
    (wi F L (.faddr 15 (.c v40)) E0 h fun v41 h =>
    (wi F L (.load false 1 (.c v41)) E0 h fun v42 h =>
    (wi F L (.len 1 (.c v42)) E0 h fun v43 h =>
    (wi F L (.bin .eql (.c v43) (.c (.int .i64 64))) E0 h fun v44 h =>
    (wb v44
    (∃ v, some (.int .i64 3) = some v ∧ K v h)
    (k___gatepost_head_Reader__ended_0 L K a0 a1 h))))))))))))))))))))))
theorem run___gatepost_head_Reader__ended {L : FuncId → List V → V → Prop} {K : V → Heap → Prop} {a0 a1 : V} {h : Heap} (hp : p___gatepost_head_Reader__ended L K a0 a1 h) : Cf F L i___gatepost_head_Reader__ended [a0, a1] h K :=
  wcallp F___gatepost_head_Reader__ended (show 2 ≤ 61 by decide) (p := p___gatepost_head_Reader__ended L K a0 a1 h) (by kernel_rfl) hp
def p_line_words (L : FuncId → List V → V → Prop) (K : V → Heap → Prop) (a0 : V) (h : Heap) : Prop :=
    (wi F L (.call i_strings_Split [(.c a0), (.c (.str [32]))]) E0 h fun v5 h =>
    (wi F L (.len 1 (.c v5)) E0 h fun v8 h =>
    (wi F L (.len 1 (.c v5)) E0 h fun v10 h =>
    (wi F L (.slsl 1 (.c v5) none (some (.c v8)) (some (.c v10))) E0 h fun v11 h =>
    (∃ v, some v11 = some v ∧ K v h)))))
theorem run_line_words {L : FuncId → List V → V → Prop} {K : V → Heap → Prop} {a0 : V} {h : Heap} (hp : p_line_words L K a0 h) : Cf F L i_line_words [a0] h K :=
  wcallp F_line_words (show 1 ≤ 12 by decide) (p := p_line_words L K a0 h) (by kernel_rfl) hp
def p_token_Is (L : FuncId → List V → V → Prop) (K : V → Heap → Prop) (a0 : V) (h : Heap) : Prop :=
    (wi F L (.bin .neq (.c a0) (.c (.str []))) E0 h fun v4 h =>
    (wg v4 true (wi F L (.mv (.c a0)) E0 h) h fun v6 h =>
    (wg v4 true (wi F L (.call i_token_all [(.c v6), (.c (.fn i_token_inToken []))]) E0 h) h fun v7 h =>
    (wi F L (.pick (.c v4) (.c v7) (.c (.bool false))) E0 h fun v8 h =>
    (∃ v, some v8 = some v ∧ K v h)))))
theorem run_token_Is {L : FuncId → List V → V → Prop} {K : V → Heap → Prop} {a0 : V} {h : Heap} (hp : p_token_Is L K a0 h) : Cf F L i_token_Is [a0] h K :=
  wcallp F_token_Is (show 1 ≤ 9 by decide) (p := p_token_Is L K a0 h) (by kernel_rfl) hp
def k_line_isTarget_0 (L : FuncId → List V → V → Prop) (K : V → Heap → Prop) (v0 : V) (h : Heap) : Prop :=
    (wi F L (.bin .neq (.c v0) (.c (.str []))) E0 h fun v21 h =>
    (∃ v, some v21 = some v ∧ K v h))
def k_line_isTarget_2 (L : FuncId → List V → V → Prop) (K : V → Heap → Prop) (N0 : Env → Heap → Prop) (e : Env) (v6 : V) (h : Heap) : Prop :=
    (wi F L (.bin .add (.c v6) (.c (.int .i64 1))) E0 h fun v19 h =>
    (N0 (upd (upd e 19 v19) 6 v19) h))
def k_line_isTarget_1 (L : FuncId → List V → V → Prop) (K : V → Heap → Prop) (N0 : Env → Heap → Prop) (e : Env) (v0 v6 : V) (h : Heap) : Prop :=
    (wi F L (.ixStr (.c v0) (.c v6)) E0 h fun v11 h =>
    (wi F L (.bin .leq (.c v11) (.c (.int .u8 32))) E0 h fun v12 h =>
    (wg v12 false (wi F L (.mv (.c v0)) E0 h) h fun v14 h =>
    (wg v12 false (wi F L (.mv (.c v6)) E0 h) h fun v15 h =>
    (wg v12 false (wi F L (.ixStr (.c v14) (.c v15)) E0 h) h fun v16 h =>
    (wg v12 false (wi F L (.bin .gtr (.c v16) (.c (.int .u8 126))) E0 h) h fun v17 h =>
    (wi F L (.pick (.c v12) (.c (.bool true)) (.c v17)) E0 h fun v18 h =>
    (wb v18
    (∃ v, some (.bool false) = some v ∧ K v h)
    (k_line_isTarget_2 L K N0 (upd (upd (upd (upd (upd (upd (upd (upd (upd (upd (upd (upd e 8 v6) 3 v6) 9 v0) 10 v6) 11 v11) 12 v12) 13 v12) 14 v14) 15 v15) 16 v16) 17 v17) 18 v18) v6 h)))))))))
def q_line_isTarget_0 (L : FuncId → List V → V → Prop) (K : V → Heap → Prop) : X → Env → Heap → Prop := (fun x => (seqX (fun e h => k_line_isTarget_0 L K (e 0) h) (retX c_line_isTarget.results K)) (X.out 0 x))
def lc_line_isTarget_0 : C :=
  (.seq (.region [⟨(some 7), none, .bin .lss (.t 6) (.t 5)⟩])
  (.seq (.cond (.t 7)
    .skip
    (.exit 0))
  (.seq (.block 1 (.seq (.region [⟨(some 8), none, .mv (.t 6)⟩, ⟨(some 3), none, .mv (.t 8)⟩])
  (.seq (.region [⟨(some 9), none, .mv (.t 0)⟩, ⟨(some 10), none, .mv (.t 3)⟩, ⟨(some 11), none, .ixStr (.t 9) (.t 10)⟩, ⟨(some 12), none, .bin .leq (.t 11) (.c (.int .u8 32))⟩, ⟨(some 13), none, .mv (.t 12)⟩, ⟨(some 14), (some (13, false)), .mv (.t 0)⟩, ⟨(some 15), (some (13, false)), .mv (.t 3)⟩, ⟨(some 16), (some (13, false)), .ixStr (.t 14) (.t 15)⟩, ⟨(some 17), (some (13, false)), .bin .gtr (.t 16) (.c (.int .u8 126))⟩, ⟨(some 18), none, .pick (.t 13) (.c (.bool true)) (.t 17)⟩])
  (.cond (.t 18)
    (.seq (.region [⟨(some 2), none, .mv (.c (.bool false))⟩])
    .ret)
    .skip))))
  (.region [⟨(some 19), none, .bin .add (.t 6) (.c (.int .i64 1))⟩, ⟨(some 6), none, .mv (.t 19)⟩]))))
def b_line_isTarget_0 (L : FuncId → List V → V → Prop) (K : V → Heap → Prop) (N0 : Env → Heap → Prop) (e : Env) (h : Heap) : Prop :=
    (wi F L (.bin .lss (.c (e 6)) (.c (e 5))) E0 h fun v7 h =>
    (wb v7
    (k_line_isTarget_1 L K N0 (upd e 7 v7) (e 0) (e 6) h)
    (k_line_isTarget_0 L K (e 0) h)))
theorem l_line_isTarget_0 {L : FuncId → List V → V → Prop} {K : V → Heap → Prop} (I : Nat → Env → Heap → Prop) (hr : ∀ n e h, I n e h → b_line_isTarget_0 L K (fun e' h' => ∃ m, m < n ∧ I m e' h') e h) {n : Nat} {e : Env} {h : Heap} (hi : I n e h) : Wl F L lc_line_isTarget_0 (q_line_isTarget_0 L K) e h :=
  wloopp (b := b_line_isTarget_0 L K) I (fun _ _ _ => by kernel_rfl) hr hi
def p_line_isTarget (L : FuncId → List V → V → Prop) (K : V → Heap → Prop) (a0 : V) (h : Heap) : Prop :=
    (wi F L (.len 0 (.c a0)) E0 h fun v5 h =>
    (Wl F L lc_line_isTarget_0 (q_line_isTarget_0 L K) (upd (upd (upd (upd (enterE [a0]) 2 (.bool false)) 4 a0) 5 v5) 6 (.int .i64 0)) h))
theorem run_line_isTarget {L : FuncId → List V → V → Prop} {K : V → Heap → Prop} {a0 : V} {h : Heap} (hp : p_line_isTarget L K a0 h) : Cf F L i_line_isTarget [a0] h K :=
  wcallp F_line_isTarget (show 1 ≤ 22 by decide) (p := p_line_isTarget L K a0 h) (by kernel_rfl) hp
def k_line_version_0 (L : FuncId → List V → V → Prop) (K : V → Heap → Prop) (h : Heap) : Prop :=
    (∃ v, some (.int .i64 (-1)) = some v ∧ K v h)
def p_line_version (L : FuncId → List V → V → Prop) (K : V → Heap → Prop) (a0 : V) (h : Heap) : Prop :=
    (wi F L (.bin .eql (.c a0) (.c (.str [72, 84, 84, 80, 47, 49, 46, 48]))) E0 h fun v5 h =>
    (wb v5
    (∃ v, some (.int .i64 0) = some v ∧ K v h)
    (wi F L (.bin .eql (.c a0) (.c (.str [72, 84, 84, 80, 47, 49, 46, 49]))) E0 h fun v7 h =>
    (wb v7
    (∃ v, some (.int .i64 1) = some v ∧ K v h)
    (k_line_version_0 L K  h)))))
theorem run_line_version {L : FuncId → List V → V → Prop} {K : V → Heap → Prop} {a0 : V} {h : Heap} (hp : p_line_version L K a0 h) : Cf F L i_line_version [a0] h K :=
  wcallp F_line_version (show 1 ≤ 8 by decide) (p := p_line_version L K a0 h) (by kernel_rfl) hp
def p_line_Status_1 (L : FuncId → List V → V → Prop) (K : V → Heap → Prop) (a0 : V) (h : Heap) : Prop :=
    (∃ v, resultsV h (enterE [(.int .i64 0), (.int .i64 0), (.str []), a0]) [.tmp 0, .tmp 1, .tmp 2, .tmp 3] = some v ∧ K v h)
theorem run_line_Status_1 {L : FuncId → List V → V → Prop} {K : V → Heap → Prop} {a0 : V} {h : Heap} (hp : p_line_Status_1 L K a0 h) : Cf F L i_line_Status_1 [a0] h K :=
  wcallp F_line_Status_1 (show 1 ≤ 7 by decide) (p := p_line_Status_1 L K a0 h) (by kernel_rfl) hp
def p_strings_Cut (L : FuncId → List V → V → Prop) (K : V → Heap → Prop) (a0 a1 : V) (h : Heap) : Prop :=
    (wi F L (.call i_internal_stringslite_Cut [(.c a0), (.c a1)]) E0 h fun v9 h =>
    (wi F L (.ext 0 (.c v9)) E0 h fun v10 h =>
    (wi F L (.ext 1 (.c v9)) E0 h fun v11 h =>
    (wi F L (.ext 2 (.c v9)) E0 h fun v12 h =>
    (∃ v, resultsV h (enterE [v10, v11, v12]) [.tmp 0, .tmp 1, .tmp 2] = some v ∧ K v h)))))
theorem run_strings_Cut {L : FuncId → List V → V → Prop} {K : V → Heap → Prop} {a0 a1 : V} {h : Heap} (hp : p_strings_Cut L K a0 a1 h) : Cf F L i_strings_Cut [a0, a1] h K :=
  wcallp F_strings_Cut (show 2 ≤ 13 by decide) (p := p_strings_Cut L K a0 a1 h) (by kernel_rfl) hp
def k_token_Number_1 (L : FuncId → List V → V → Prop) (K : V → Heap → Prop) (v6 : V) (h : Heap) : Prop :=
    (∃ v, resultsV h (enterE [v6, (.bool true)]) [.tmp 0, .tmp 1] = some v ∧ K v h)
def k_token_Number_3 (L : FuncId → List V → V → Prop) (K : V → Heap → Prop) (N0 : Env → Heap → Prop) (e : Env) (v22 : V) (h : Heap) : Prop :=
    (wi F L (.bin .add (.c v22) (.c (.int .i64 1))) E0 h fun v46 h =>
    (N0 (upd (upd e 46 v46) 22 v46) h))
def k_token_Number_4 (L : FuncId → List V → V → Prop) (K : V → Heap → Prop) (N0 : Env → Heap → Prop) (e : Env) (v6 v8 v22 : V) (h : Heap) : Prop :=
    (wi F L (.bin .mul (.c (.int .i64 10)) (.c v6)) E0 h fun v43 h =>
    (wi F L (.bin .add (.c v43) (.c v8)) E0 h fun v45 h =>
    (k_token_Number_3 L K N0 (upd (upd (upd (upd (upd e 42 v6) 43 v43) 44 v8) 45 v45) 6 v45) v22 h)))
def k_token_Number_2 (L : FuncId → List V → V → Prop) (K : V → Heap → Prop) (N0 : Env → Heap → Prop) (e : Env) (v0 v1 v6 v22 : V) (h : Heap) : Prop :=
    (wi F L (.ixStr (.c v0) (.c v22)) E0 h fun v27 h =>
    (wi F L (.bin .sub (.c v27) (.c (.int .u8 48))) E0 h fun v28 h =>
    (wi F L (.toInt .i64 (.c v28)) E0 h fun v29 h =>
    (wi F L (.bin .gtr (.c v29) (.c v1)) E0 h fun v32 h =>
    (wg v32 false (wi F L (.mv (.c v6)) E0 h) h fun v34 h =>
    (wg v32 false (wi F L (.mv (.c v1)) E0 h) h fun v35 h =>
    (wg v32 false (wi F L (.mv (.c v29)) E0 h) h fun v36 h =>
    (wg v32 false (wi F L (.bin .sub (.c v35) (.c v36)) E0 h) h fun v37 h =>
    (wg v32 false (wi F L (.bin .quo (.c v37) (.c (.int .i64 10))) E0 h) h fun v38 h =>
    (wg v32 false (wi F L (.bin .gtr (.c v34) (.c v38)) E0 h) h fun v39 h =>
    (wi F L (.pick (.c v32) (.c (.bool true)) (.c v39)) E0 h fun v40 h =>
    (wb v40
    (∃ v, resultsV h (enterE [v1, (.bool true)]) [.tmp 0, .tmp 1] = some v ∧ K v h)
    (k_token_Number_4 L K N0 (upd (upd (upd (upd (upd (upd (upd (upd (upd (upd (upd (upd (upd (upd (upd (upd (upd (upd (upd e 24 v22) 7 v22) 25 v0) 26 v22) 27 v27) 28 v28) 29 v29) 8 v29) 30 v29) 31 v1) 32 v32) 33 v32) 34 v34) 35 v35) 36 v36) 37 v37) 38 v38) 39 v39) 40 v40) v6 v29 v22 h)))))))))))))
def q_token_Number_0 (L : FuncId → List V → V → Prop) (K : V → Heap → Prop) : X → Env → Heap → Prop := (fun x => (seqX (fun e h => k_token_Number_1 L K (e 6) h) (retX c_token_Number.results K)) (X.out 0 x))
def lc_token_Number_0 : C :=
  (.seq (.region [⟨(some 23), none, .bin .lss (.t 22) (.t 21)⟩])
  (.seq (.cond (.t 23)
    .skip
    (.exit 0))
  (.seq (.block 1 (.seq (.region [⟨(some 24), none, .mv (.t 22)⟩, ⟨(some 7), none, .mv (.t 24)⟩])
  (.seq (.region [⟨(some 25), none, .mv (.t 0)⟩, ⟨(some 26), none, .mv (.t 7)⟩, ⟨(some 27), none, .ixStr (.t 25) (.t 26)⟩, ⟨(some 28), none, .bin .sub (.t 27) (.c (.int .u8 48))⟩, ⟨(some 29), none, .toInt .i64 (.t 28)⟩, ⟨(some 8), none, .mv (.t 29)⟩])
  (.seq (.seq (.region [⟨(some 30), none, .mv (.t 8)⟩, ⟨(some 31), none, .mv (.t 1)⟩, ⟨(some 32), none, .bin .gtr (.t 30) (.t 31)⟩, ⟨(some 33), none, .mv (.t 32)⟩, ⟨(some 34), (some (33, false)), .mv (.t 6)⟩, ⟨(some 35), (some (33, false)), .mv (.t 1)⟩, ⟨(some 36), (some (33, false)), .mv (.t 8)⟩, ⟨(some 37), (some (33, false)), .bin .sub (.t 35) (.t 36)⟩, ⟨(some 38), (some (33, false)), .bin .quo (.t 37) (.c (.int .i64 10))⟩, ⟨(some 39), (some (33, false)), .bin .gtr (.t 34) (.t 38)⟩, ⟨(some 40), none, .pick (.t 33) (.c (.bool true)) (.t 39)⟩])
  (.cond (.t 40)
    (.seq (.region [⟨(some 41), none, .mv (.t 1)⟩, ⟨(some 4), none, .mv (.t 41)⟩, ⟨(some 5), none, .mv (.c (.bool true))⟩])
    .ret)
    .skip))
  (.region [⟨(some 42), none, .mv (.t 6)⟩, ⟨(some 43), none, .bin .mul (.c (.int .i64 10)) (.t 42)⟩, ⟨(some 44), none, .mv (.t 8)⟩, ⟨(some 45), none, .bin .add (.t 43) (.t 44)⟩, ⟨(some 6), none, .mv (.t 45)⟩])))))
  (.region [⟨(some 46), none, .bin .add (.t 22) (.c (.int .i64 1))⟩, ⟨(some 22), none, .mv (.t 46)⟩]))))
def b_token_Number_0 (L : FuncId → List V → V → Prop) (K : V → Heap → Prop) (N0 : Env → Heap → Prop) (e : Env) (h : Heap) : Prop :=
    (wi F L (.bin .lss (.c (e 22)) (.c (e 21))) E0 h fun v23 h =>
    (wb v23
    (k_token_Number_2 L K N0 (upd e 23 v23) (e 0) (e 1) (e 6) (e 22) h)
    (k_token_Number_1 L K (e 6) h)))
theorem l_token_Number_0 {L : FuncId → List V → V → Prop} {K : V → Heap → Prop} (I : Nat → Env → Heap → Prop) (hr : ∀ n e h, I n e h → b_token_Number_0 L K (fun e' h' => ∃ m, m < n ∧ I m e' h') e h) {n : Nat} {e : Env} {h : Heap} (hi : I n e h) : Wl F L lc_token_Number_0 (q_token_Number_0 L K) e h :=
  wloopp (b := b_token_Number_0 L K) I (fun _ _ _ => by kernel_rfl) hr hi
def k_token_Number_0 (L : FuncId → List V → V → Prop) (K : V → Heap → Prop) (e : Env) (v0 : V) (h : Heap) : Prop :=
    (wi F L (.len 0 (.c v0)) E0 h fun v21 h =>
    (Wl F L lc_token_Number_0 (q_token_Number_0 L K) (upd (upd (upd (upd e 6 (.int .i64 0)) 20 v0) 21 v21) 22 (.int .i64 0)) h))
def p_token_Number (L : FuncId → List V → V → Prop) (K : V → Heap → Prop) (a0 a1 : V) (h : Heap) : Prop :=
    (wi F L (.bin .eql (.c a0) (.c (.str []))) E0 h fun v10 h =>
    (wg v10 false (wi F L (.mv (.c a1)) E0 h) h fun v12 h =>
    (wg v10 false (wi F L (.bin .lss (.c v12) (.c (.int .i64 0))) E0 h) h fun v13 h =>
    (wi F L (.pick (.c v10) (.c (.bool true)) (.c v13)) E0 h fun v14 h =>
    (wg v14 false (wi F L (.mv (.c a0)) E0 h) h fun v16 h =>
    (wg v14 false (wi F L (.call i_token_all [(.c v16), (.c (.fn i_token_Number_1 []))]) E0 h) h fun v17 h =>
    (wg v14 false (wi F L (.un .not (.c v17)) E0 h) h fun v18 h =>
    (wi F L (.pick (.c v14) (.c (.bool true)) (.c v18)) E0 h fun v19 h =>
    (wb v19
    (∃ v, resultsV h (enterE [(.int .i64 0), (.bool false)]) [.tmp 0, .tmp 1] = some v ∧ K v h)
    (k_token_Number_0 L K (upd (upd (upd (upd (upd (upd (upd (upd (upd (upd (upd (upd (upd (enterE [a0, a1]) 4 (.int .i64 0)) 5 (.bool false)) 9 a0) 10 v10) 11 v10) 12 v12) 13 v13) 14 v14) 15 v14) 16 v16) 17 v17) 18 v18) 19 v19) a0 h))))))))))
theorem run_token_Number {L : FuncId → List V → V → Prop} {K : V → Heap → Prop} {a0 a1 : V} {h : Heap} (hp : p_token_Number L K a0 a1 h) : Cf F L i_token_Number [a0, a1] h K :=
  wcallp F_token_Number (show 2 ≤ 48 by decide) (p := p_token_Number L K a0 a1 h) (by kernel_rfl) hp
def k_line_isReason_0 (L : FuncId → List V → V → Prop) (K : V → Heap → Prop) (h : Heap) : Prop :=
    (∃ v, some (.bool true) = some v ∧ K v h)
def k_line_isReason_2 (L : FuncId → List V → V → Prop) (K : V → Heap → Prop) (N0 : Env → Heap → Prop) (e : Env) (v7 : V) (h : Heap) : Prop :=
    (wi F L (.bin .add (.c v7) (.c (.int .i64 1))) E0 h fun v23 h =>
    (N0 (upd (upd e 23 v23) 7 v23) h))
def k_line_isReason_1 (L : FuncId → List V → V → Prop) (K : V → Heap → Prop) (N0 : Env → Heap → Prop) (e : Env) (v0 v7 : V) (h : Heap) : Prop :=
    (wi F L (.ixStr (.c v0) (.c v7)) E0 h fun v12 h =>
    (wi F L (.bin .lss (.c v12) (.c (.int .u8 32))) E0 h fun v14 h =>
    (wg v14 true (wi F L (.mv (.c v12)) E0 h) h fun v16 h =>
    (wg v14 true (wi F L (.bin .neq (.c v16) (.c (.int .u8 9))) E0 h) h fun v17 h =>
    (wi F L (.pick (.c v14) (.c v17) (.c (.bool false))) E0 h fun v18 h =>
    (wg v18 false (wi F L (.mv (.c v12)) E0 h) h fun v20 h =>
    (wg v18 false (wi F L (.bin .eql (.c v20) (.c (.int .u8 127))) E0 h) h fun v21 h =>
    (wi F L (.pick (.c v18) (.c (.bool true)) (.c v21)) E0 h fun v22 h =>
    (wb v22
    (∃ v, some (.bool false) = some v ∧ K v h)
    (k_line_isReason_2 L K N0 (upd (upd (upd (upd (upd (upd (upd (upd (upd (upd (upd (upd (upd (upd (upd (upd e 9 v7) 3 v7) 10 v0) 11 v7) 12 v12) 4 v12) 13 v12) 14 v14) 15 v14) 16 v16) 17 v17) 18 v18) 19 v18) 20 v20) 21 v21) 22 v22) v7 h))))))))))
def q_line_isReason_0 (L : FuncId → List V → V → Prop) (K : V → Heap → Prop) : X → Env → Heap → Prop := (fun x => (seqX (fun e h => k_line_isReason_0 L K  h) (retX c_line_isReason.results K)) (X.out 0 x))
def lc_line_isReason_0 : C :=
  (.seq (.region [⟨(some 8), none, .bin .lss (.t 7) (.t 6)⟩])
  (.seq (.cond (.t 8)
    .skip
    (.exit 0))
  (.seq (.block 1 (.seq (.region [⟨(some 9), none, .mv (.t 7)⟩, ⟨(some 3), none, .mv (.t 9)⟩])
  (.seq (.region [⟨(some 10), none, .mv (.t 0)⟩, ⟨(some 11), none, .mv (.t 3)⟩, ⟨(some 12), none, .ixStr (.t 10) (.t 11)⟩, ⟨(some 4), none, .mv (.t 12)⟩])
  (.seq (.region [⟨(some 13), none, .mv (.t 4)⟩, ⟨(some 14), none, .bin .lss (.t 13) (.c (.int .u8 32))⟩, ⟨(some 15), none, .mv (.t 14)⟩, ⟨(some 16), (some (15, true)), .mv (.t 4)⟩, ⟨(some 17), (some (15, true)), .bin .neq (.t 16) (.c (.int .u8 9))⟩, ⟨(some 18), none, .pick (.t 15) (.t 17) (.c (.bool false))⟩, ⟨(some 19), none, .mv (.t 18)⟩, ⟨(some 20), (some (19, false)), .mv (.t 4)⟩, ⟨(some 21), (some (19, false)), .bin .eql (.t 20) (.c (.int .u8 127))⟩, ⟨(some 22), none, .pick (.t 19) (.c (.bool true)) (.t 21)⟩])
  (.cond (.t 22)
    (.seq (.region [⟨(some 2), none, .mv (.c (.bool false))⟩])
    .ret)
    .skip)))))
  (.region [⟨(some 23), none, .bin .add (.t 7) (.c (.int .i64 1))⟩, ⟨(some 7), none, .mv (.t 23)⟩]))))
def b_line_isReason_0 (L : FuncId → List V → V → Prop) (K : V → Heap → Prop) (N0 : Env → Heap → Prop) (e : Env) (h : Heap) : Prop :=
    (wi F L (.bin .lss (.c (e 7)) (.c (e 6))) E0 h fun v8 h =>
    (wb v8
    (k_line_isReason_1 L K N0 (upd e 8 v8) (e 0) (e 7) h)
    (k_line_isReason_0 L K  h)))
theorem l_line_isReason_0 {L : FuncId → List V → V → Prop} {K : V → Heap → Prop} (I : Nat → Env → Heap → Prop) (hr : ∀ n e h, I n e h → b_line_isReason_0 L K (fun e' h' => ∃ m, m < n ∧ I m e' h') e h) {n : Nat} {e : Env} {h : Heap} (hi : I n e h) : Wl F L lc_line_isReason_0 (q_line_isReason_0 L K) e h :=
  wloopp (b := b_line_isReason_0 L K) I (fun _ _ _ => by kernel_rfl) hr hi
def p_line_isReason (L : FuncId → List V → V → Prop) (K : V → Heap → Prop) (a0 : V) (h : Heap) : Prop :=
    (wi F L (.len 0 (.c a0)) E0 h fun v6 h =>
    (Wl F L lc_line_isReason_0 (q_line_isReason_0 L K) (upd (upd (upd (upd (enterE [a0]) 2 (.bool false)) 5 a0) 6 v6) 7 (.int .i64 0)) h))
theorem run_line_isReason {L : FuncId → List V → V → Prop} {K : V → Heap → Prop} {a0 : V} {h : Heap} (hp : p_line_isReason L K a0 h) : Cf F L i_line_isReason [a0] h K :=
  wcallp F_line_isReason (show 1 ≤ 24 by decide) (p := p_line_isReason L K a0 h) (by kernel_rfl) hp
def k_gatepostref03_Status_4 (L : FuncId → List V → V → Prop) (K : V → Heap → Prop) (v0 v6 : V) (h : Heap) : Prop :=
    (wi F L (.slstr (.c v0) none (some (.c (.int .i64 8)))) E0 h fun v58 h' => Ext h h' ∧
    (wi F L (.call i_gatepostref03_version [(.c v58)]) E0 h' fun v59 h => Ext h' h ∧
    (wi F L (.slstr (.c v0) (some (.c (.int .i64 13))) none) E0 h fun v62 h' => Ext h h' ∧
    (∃ v, resultsV h' (enterE [v59, v6, v62, (.int .i64 0)]) [.tmp 0, .tmp 1, .tmp 2, .tmp 3] = some v ∧ K v h'))))
def k_gatepostref03_Status_3 (L : FuncId → List V → V → Prop) (K : V → Heap → Prop) (v0 v6 : V) (h : Heap) : Prop :=
    (wi F L (.ixStr (.c v0) (.c (.int .i64 12))) E0 h fun v49 h =>
    (wi F L (.bin .neq (.c v49) (.c (.int .u8 32))) E0 h fun v50 h =>
    (wg v50 false (wi F L (.mv (.c v0)) E0 h) h fun v52 h =>
    (wg v50 false (wi F L (.slstr (.c v52) (some (.c (.int .i64 13))) none) E0 h) h fun v53 h =>
    (wg v50 false (wi F L (.call i_gatepostref03_reason [(.c v53)]) E0 h) h fun v54 h =>
    (wg v50 false (wi F L (.un .not (.c v54)) E0 h) h fun v55 h =>
    (wi F L (.pick (.c v50) (.c (.bool true)) (.c v55)) E0 h fun v56 h =>
    (wb v56
    (∃ v, resultsV h (enterE [(.int .i64 0), (.int .i64 0), (.str []), (.int .i64 30)]) [.tmp 0, .tmp 1, .tmp 2, .tmp 3] = some v ∧ K v h)
    (k_gatepostref03_Status_4 L K v0 v6 h)))))))))
def k_gatepostref03_Status_2 (L : FuncId → List V → V → Prop) (K : V → Heap → Prop) (v0 v6 : V) (h : Heap) : Prop :=
    (wi F L (.len 0 (.c v0)) E0 h fun v42 h =>
    (wi F L (.bin .eql (.c v42) (.c (.int .i64 12))) E0 h fun v43 h =>
    (wb v43
    (wi F L (.slstr (.c v0) none (some (.c (.int .i64 8)))) E0 h fun v45 h =>
    (wi F L (.call i_gatepostref03_version [(.c v45)]) E0 h fun v46 h =>
    (∃ v, resultsV h (enterE [v46, v6, (.str []), (.int .i64 0)]) [.tmp 0, .tmp 1, .tmp 2, .tmp 3] = some v ∧ K v h)))
    (k_gatepostref03_Status_3 L K v0 v6 h))))
def k_gatepostref03_Status_1 (L : FuncId → List V → V → Prop) (K : V → Heap → Prop) (v0 : V) (h : Heap) : Prop :=
    (wi F L (.slstr (.c v0) (some (.c (.int .i64 9))) (some (.c (.int .i64 12)))) E0 h fun v27 h =>
    (wi F L (.call i_gatepostref01_Number [(.c v27), (.c (.int .i64 1000))]) E0 h fun v28 h =>
    (wi F L (.ext 0 (.c v28)) E0 h fun v29 h =>
    (wi F L (.ext 1 (.c v28)) E0 h fun v30 h =>
    (wi F L (.un .not (.c v30)) E0 h fun v32 h =>
    (wg v32 false (wi F L (.mv (.c v29)) E0 h) h fun v34 h =>
    (wg v32 false (wi F L (.bin .lss (.c v34) (.c (.int .i64 100))) E0 h) h fun v35 h =>
    (wi F L (.pick (.c v32) (.c (.bool true)) (.c v35)) E0 h fun v36 h =>
    (wg v36 false (wi F L (.mv (.c v29)) E0 h) h fun v38 h =>
    (wg v36 false (wi F L (.bin .gtr (.c v38) (.c (.int .i64 599))) E0 h) h fun v39 h =>
    (wi F L (.pick (.c v36) (.c (.bool true)) (.c v39)) E0 h fun v40 h =>
    (wb v40
    (∃ v, resultsV h (enterE [(.int .i64 0), (.int .i64 0), (.str []), (.int .i64 30)]) [.tmp 0, .tmp 1, .tmp 2, .tmp 3] = some v ∧ K v h)
    (k_gatepostref03_Status_2 L K v0 v29 h)))))))))))))
def k_gatepostref03_Status_0 (L : FuncId → List V → V → Prop) (K : V → Heap → Prop) (v0 : V) (h : Heap) : Prop :=
    (wi F L (.len 0 (.c v0)) E0 h fun v12 h =>
    (wi F L (.bin .lss (.c v12) (.c (.int .i64 12))) E0 h fun v13 h =>
    (wg v13 false (wi F L (.mv (.c v0)) E0 h) h fun v15 h =>
    (wg v13 false (wi F L (.slstr (.c v15) none (some (.c (.int .i64 8)))) E0 h) h fun v16 h =>
    (wg v13 false (wi F L (.call i_gatepostref03_version [(.c v16)]) E0 h) h fun v17 h =>
    (wg v13 false (wi F L (.bin .lss (.c v17) (.c (.int .i64 0))) E0 h) h fun v18 h =>
    (wi F L (.pick (.c v13) (.c (.bool true)) (.c v18)) E0 h fun v19 h =>
    (wg v19 false (wi F L (.mv (.c v0)) E0 h) h fun v21 h =>
    (wg v19 false (wi F L (.ixStr (.c v21) (.c (.int .i64 8))) E0 h) h fun v22 h =>
    (wg v19 false (wi F L (.bin .neq (.c v22) (.c (.int .u8 32))) E0 h) h fun v23 h =>
    (wi F L (.pick (.c v19) (.c (.bool true)) (.c v23)) E0 h fun v24 h =>
    (wb v24
    (∃ v, resultsV h (enterE [(.int .i64 0), (.int .i64 0), (.str []), (.int .i64 30)]) [.tmp 0, .tmp 1, .tmp 2, .tmp 3] = some v ∧ K v h)
    (k_gatepostref03_Status_1 L K v0 h)))))))))))))
def p_gatepostref03_Status (L : FuncId → List V → V → Prop) (K : V → Heap → Prop) (a0 : V) (h : Heap) : Prop :=
    (wi F L (.len 0 (.c a0)) E0 h fun v9 h =>
    (wi F L (.bin .gtr (.c v9) (.c (.int .i64 1024))) E0 h fun v10 h =>
    (wb v10
    (∃ v, resultsV h (enterE [(.int .i64 0), (.int .i64 0), (.str []), (.int .i64 3)]) [.tmp 0, .tmp 1, .tmp 2, .tmp 3] = some v ∧ K v h)
    (k_gatepostref03_Status_0 L K a0 h))))
theorem run_gatepostref03_Status {L : FuncId → List V → V → Prop} {K : V → Heap → Prop} {a0 : V} {h : Heap} (hp : p_gatepostref03_Status L K a0 h) : Cf F L i_gatepostref03_Status [a0] h K :=
  wcallp F_gatepostref03_Status (show 1 ≤ 63 by decide) (p := p_gatepostref03_Status L K a0 h) (by kernel_rfl) hp
def k_gatepostref03_Request_1 (L : FuncId → List V → V → Prop) (K : V → Heap → Prop) (h : Heap) : Prop :=
    (∃ v, resultsV h (enterE [(.str []), (.str []), (.int .i64 0), (.int .i64 30)]) [.tmp 0, .tmp 1, .tmp 2, .tmp 3] = some v ∧ K v h)
def k_gatepostref03_Request_3 (L : FuncId → List V → V → Prop) (K : V → Heap → Prop) (N0 : Env → Heap → Prop) (e : Env) (v6 : V) (h : Heap) : Prop :=
    (wi F L (.bin .add (.c v6) (.c (.int .i64 1))) E0 h fun v16 h =>
    (N0 (upd (upd (upd e 15 v6) 16 v16) 6 v16) h))
def k_gatepostref03_Request_6 (L : FuncId → List V → V → Prop) (K : V → Heap → Prop) (N0 N1 : Env → Heap → Prop) (e : Env) (v7 : V) (h : Heap) : Prop :=
    (wi F L (.bin .add (.c v7) (.c (.int .i64 1))) E0 h fun v28 h =>
    (N1 (upd (upd (upd e 27 v7) 28 v28) 7 v28) h))
def k_gatepostref03_Request_5 (L : FuncId → List V → V → Prop) (K : V → Heap → Prop) (N0 N1 : Env → Heap → Prop) (e : Env) (v0 v6 v7 : V) (h : Heap) : Prop :=
    (wi F L (.ixStr (.c v0) (.c v7)) E0 h fun v31 h =>
    (wi F L (.bin .eql (.c v31) (.c (.int .u8 32))) E0 h fun v32 h =>
    (wg v32 true (wi F L (.mv (.c v0)) E0 h) h fun v34 h =>
    (wg v32 true (wi F L (.mv (.c v6)) E0 h) h fun v35 h =>
    (wg v32 true (wi F L (.slstr (.c v34) none (some (.c v35))) E0 h) h fun v36 h =>
    (wg v32 true (wi F L (.call i_gatepostref01_Is [(.c v36)]) E0 h) h fun v37 h =>
    (wi F L (.pick (.c v32) (.c v37) (.c (.bool false))) E0 h fun v38 h =>
    (wg v38 true (wi F L (.mv (.c v0)) E0 h) h fun v40 h =>
    (wg v38 true (wi F L (.mv (.c v6)) E0 h) h fun v41 h =>
    (wg v38 true (wi F L (.bin .add (.c v41) (.c (.int .i64 1))) E0 h) h fun v42 h =>
    (wg v38 true (wi F L (.mv (.c v7)) E0 h) h fun v43 h =>
    (wg v38 true (wi F L (.slstr (.c v40) (some (.c v42)) (some (.c v43))) E0 h) h fun v44 h =>
    (wg v38 true (wi F L (.call i_gatepostref03_target [(.c v44)]) E0 h) h fun v45 h =>
    (wi F L (.pick (.c v38) (.c v45) (.c (.bool false))) E0 h fun v46 h =>
    (wg v46 true (wi F L (.mv (.c v0)) E0 h) h fun v48 h =>
    (wg v46 true (wi F L (.mv (.c v7)) E0 h) h fun v49 h =>
    (wg v46 true (wi F L (.bin .add (.c v49) (.c (.int .i64 1))) E0 h) h fun v50 h =>
    (wg v46 true (wi F L (.slstr (.c v48) (some (.c v50)) none) E0 h) h fun v51 h =>
    (wg v46 true (wi F L (.call i_gatepostref03_version [(.c v51)]) E0 h) h fun v52 h =>
    (wg v46 true (wi F L (.bin .geq (.c v52) (.c (.int .i64 0))) E0 h) h fun v53 h =>
    (wi F L (.pick (.c v46) (.c v53) (.c (.bool false))) E0 h fun v54 h =>
    (wb v54
    (wi F L (.slstr (.c v0) none (some (.c v6))) E0 h fun v57 h' => Ext h h' ∧
    (wi F L (.bin .add (.c v6) (.c (.int .i64 1))) E0 h' fun v60 h => Ext h' h ∧
    (wi F L (.slstr (.c v0) (some (.c v60)) (some (.c v7))) E0 h fun v62 h' => Ext h h' ∧
    (wi F L (.bin .add (.c v7) (.c (.int .i64 1))) E0 h' fun v65 h => Ext h' h ∧
    (wi F L (.slstr (.c v0) (some (.c v65)) none) E0 h fun v66 h' => Ext h h' ∧
    (wi F L (.call i_gatepostref03_version [(.c v66)]) E0 h' fun v67 h => Ext h' h ∧
    (∃ v, resultsV h (enterE [v57, v62, v67, (.int .i64 0)]) [.tmp 0, .tmp 1, .tmp 2, .tmp 3] = some v ∧ K v h)))))))
    (k_gatepostref03_Request_6 L K N0 N1 (upd (upd (upd (upd (upd (upd (upd (upd (upd (upd (upd (upd (upd (upd (upd (upd (upd (upd (upd (upd (upd (upd (upd (upd (upd (upd e 29 v0) 30 v7) 31 v31) 32 v32) 33 v32) 34 v34) 35 v35) 36 v36) 37 v37) 38 v38) 39 v38) 40 v40) 41 v41) 42 v42) 43 v43) 44 v44) 45 v45) 46 v46) 47 v46) 48 v48) 49 v49) 50 v50) 51 v51) 52 v52) 53 v53) 54 v54) v7 h)))))))))))))))))))))))
def q_gatepostref03_Request_1 (L : FuncId → List V → V → Prop) (K : V → Heap → Prop) (N0 : Env → Heap → Prop) : X → Env → Heap → Prop := (fun x => (fun x => (seqX (fun e h => k_gatepostref03_Request_3 L K N0 e (e 6) h) (seqX N0 (fun x => (seqX (fun e h => k_gatepostref03_Request_1 L K  h) (retX c_gatepostref03_Request.results K)) (X.out 0 x)))) (X.out 1 x)) (X.out 2 x))
def lc_gatepostref03_Request_1 : C :=
  (.seq (.seq (.region [⟨(some 23), none, .mv (.t 7)⟩, ⟨(some 24), none, .mv (.t 0)⟩, ⟨(some 25), none, .len 0 (.t 24)⟩, ⟨(some 26), none, .bin .lss (.t 23) (.t 25)⟩])
  (.cond (.t 26)
    .skip
    (.exit 2)))
  (.seq (.block 3 (.seq (.region [⟨(some 29), none, .mv (.t 0)⟩, ⟨(some 30), none, .mv (.t 7)⟩, ⟨(some 31), none, .ixStr (.t 29) (.t 30)⟩, ⟨(some 32), none, .bin .eql (.t 31) (.c (.int .u8 32))⟩, ⟨(some 33), none, .mv (.t 32)⟩, ⟨(some 34), (some (33, true)), .mv (.t 0)⟩, ⟨(some 35), (some (33, true)), .mv (.t 6)⟩, ⟨(some 36), (some (33, true)), .slstr (.t 34) none (some (.t 35))⟩, ⟨(some 37), (some (33, true)), .call i_gatepostref01_Is [(.t 36)]⟩, ⟨(some 38), none, .pick (.t 33) (.t 37) (.c (.bool false))⟩, ⟨(some 39), none, .mv (.t 38)⟩, ⟨(some 40), (some (39, true)), .mv (.t 0)⟩, ⟨(some 41), (some (39, true)), .mv (.t 6)⟩, ⟨(some 42), (some (39, true)), .bin .add (.t 41) (.c (.int .i64 1))⟩, ⟨(some 43), (some (39, true)), .mv (.t 7)⟩, ⟨(some 44), (some (39, true)), .slstr (.t 40) (some (.t 42)) (some (.t 43))⟩, ⟨(some 45), (some (39, true)), .call i_gatepostref03_target [(.t 44)]⟩, ⟨(some 46), none, .pick (.t 39) (.t 45) (.c (.bool false))⟩, ⟨(some 47), none, .mv (.t 46)⟩, ⟨(some 48), (some (47, true)), .mv (.t 0)⟩, ⟨(some 49), (some (47, true)), .mv (.t 7)⟩, ⟨(some 50), (some (47, true)), .bin .add (.t 49) (.c (.int .i64 1))⟩, ⟨(some 51), (some (47, true)), .slstr (.t 48) (some (.t 50)) none⟩, ⟨(some 52), (some (47, true)), .call i_gatepostref03_version [(.t 51)]⟩, ⟨(some 53), (some (47, true)), .bin .geq (.t 52) (.c (.int .i64 0))⟩, ⟨(some 54), none, .pick (.t 47) (.t 53) (.c (.bool false))⟩])
  (.cond (.t 54)
    (.seq (.dregion [⟨(some 55), none, .mv (.t 0)⟩, ⟨(some 56), none, .mv (.t 6)⟩, ⟨(some 57), none, .slstr (.t 55) none (some (.t 56))⟩, ⟨(some 58), none, .mv (.t 0)⟩, ⟨(some 59), none, .mv (.t 6)⟩, ⟨(some 60), none, .bin .add (.t 59) (.c (.int .i64 1))⟩, ⟨(some 61), none, .mv (.t 7)⟩, ⟨(some 62), none, .slstr (.t 58) (some (.t 60)) (some (.t 61))⟩, ⟨(some 63), none, .mv (.t 0)⟩, ⟨(some 64), none, .mv (.t 7)⟩, ⟨(some 65), none, .bin .add (.t 64) (.c (.int .i64 1))⟩, ⟨(some 66), none, .slstr (.t 63) (some (.t 65)) none⟩, ⟨(some 67), none, .call i_gatepostref03_version [(.t 66)]⟩, ⟨(some 2), none, .mv (.t 57)⟩] [⟨(some 3), none, .mv (.t 62)⟩, ⟨(some 4), none, .mv (.t 67)⟩, ⟨(some 5), none, .mv (.c (.int .i64 0))⟩])
    .ret)
    .skip)))
  (.region [⟨(some 27), none, .mv (.t 7)⟩, ⟨(some 28), none, .bin .add (.t 27) (.c (.int .i64 1))⟩, ⟨(some 7), none, .mv (.t 28)⟩])))
def b_gatepostref03_Request_1 (L : FuncId → List V → V → Prop) (K : V → Heap → Prop) (N0 : Env → Heap → Prop) (N1 : Env → Heap → Prop) (e : Env) (h : Heap) : Prop :=
    (wi F L (.len 0 (.c (e 0))) E0 h fun v25 h =>
    (wi F L (.bin .lss (.c (e 7)) (.c v25)) E0 h fun v26 h =>
    (wb v26
    (k_gatepostref03_Request_5 L K N0 N1 (upd (upd (upd (upd e 23 (e 7)) 24 (e 0)) 25 v25) 26 v26) (e 0) (e 6) (e 7) h)
    (k_gatepostref03_Request_3 L K N0 (upd (upd (upd (upd e 23 (e 7)) 24 (e 0)) 25 v25) 26 v26) (e 6) h))))
theorem l_gatepostref03_Request_1 {L : FuncId → List V → V → Prop} {K : V → Heap → Prop} {N0 : Env → Heap → Prop} (I : Nat → Env → Heap → Prop) (hr : ∀ n e h, I n e h → b_gatepostref03_Request_1 L K N0 (fun e' h' => ∃ m, m < n ∧ I m e' h') e h) {n : Nat} {e : Env} {h : Heap} (hi : I n e h) : Wl F L lc_gatepostref03_Request_1 (q_gatepostref03_Request_1 L K N0) e h :=
  wloopp (b := b_gatepostref03_Request_1 L K N0) I (fun _ _ _ => by kernel_rfl) hr hi
def k_gatepostref03_Request_4 (L : FuncId → List V → V → Prop) (K : V → Heap → Prop) (N0 : Env → Heap → Prop) (e : Env) (v6 : V) (h : Heap) : Prop :=
    (wi F L (.bin .add (.c v6) (.c (.int .i64 1))) E0 h fun v22 h =>
    (Wl F L lc_gatepostref03_Request_1 (q_gatepostref03_Request_1 L K N0) (upd (upd (upd e 21 v6) 22 v22) 7 v22) h))
def k_gatepostref03_Request_2 (L : FuncId → List V → V → Prop) (K : V → Heap → Prop) (N0 : Env → Heap → Prop) (e : Env) (v0 v6 : V) (h : Heap) : Prop :=
    (wi F L (.ixStr (.c v0) (.c v6)) E0 h fun v19 h =>
    (wi F L (.bin .neq (.c v19) (.c (.int .u8 32))) E0 h fun v20 h =>
    (wb v20
    (k_gatepostref03_Request_3 L K N0 (upd (upd (upd (upd e 17 v0) 18 v6) 19 v19) 20 v20) v6 h)
    (k_gatepostref03_Request_4 L K N0 (upd (upd (upd (upd e 17 v0) 18 v6) 19 v19) 20 v20) v6 h))))
def q_gatepostref03_Request_0 (L : FuncId → List V → V → Prop) (K : V → Heap → Prop) : X → Env → Heap → Prop := (fun x => (seqX (fun e h => k_gatepostref03_Request_1 L K  h) (retX c_gatepostref03_Request.results K)) (X.out 0 x))
def lc_gatepostref03_Request_0 : C :=
  (.seq (.seq (.region [⟨(some 11), none, .mv (.t 6)⟩, ⟨(some 12), none, .mv (.t 0)⟩, ⟨(some 13), none, .len 0 (.t 12)⟩, ⟨(some 14), none, .bin .lss (.t 11) (.t 13)⟩])
  (.cond (.t 14)
    .skip
    (.exit 0)))
  (.seq (.block 1 (.seq (.seq (.region [⟨(some 17), none, .mv (.t 0)⟩, ⟨(some 18), none, .mv (.t 6)⟩, ⟨(some 19), none, .ixStr (.t 17) (.t 18)⟩, ⟨(some 20), none, .bin .neq (.t 19) (.c (.int .u8 32))⟩])
  (.cond (.t 20)
    (.exit 1)
    .skip))
  (.seq (.region [⟨(some 21), none, .mv (.t 6)⟩, ⟨(some 22), none, .bin .add (.t 21) (.c (.int .i64 1))⟩, ⟨(some 7), none, .mv (.t 22)⟩])
  (.block 2 (.loop
    (.seq (.seq (.region [⟨(some 23), none, .mv (.t 7)⟩, ⟨(some 24), none, .mv (.t 0)⟩, ⟨(some 25), none, .len 0 (.t 24)⟩, ⟨(some 26), none, .bin .lss (.t 23) (.t 25)⟩])
    (.cond (.t 26)
      .skip
      (.exit 2)))
    (.seq (.block 3 (.seq (.region [⟨(some 29), none, .mv (.t 0)⟩, ⟨(some 30), none, .mv (.t 7)⟩, ⟨(some 31), none, .ixStr (.t 29) (.t 30)⟩, ⟨(some 32), none, .bin .eql (.t 31) (.c (.int .u8 32))⟩, ⟨(some 33), none, .mv (.t 32)⟩, ⟨(some 34), (some (33, true)), .mv (.t 0)⟩, ⟨(some 35), (some (33, true)), .mv (.t 6)⟩, ⟨(some 36), (some (33, true)), .slstr (.t 34) none (some (.t 35))⟩, ⟨(some 37), (some (33, true)), .call i_gatepostref01_Is [(.t 36)]⟩, ⟨(some 38), none, .pick (.t 33) (.t 37) (.c (.bool false))⟩, ⟨(some 39), none, .mv (.t 38)⟩, ⟨(some 40), (some (39, true)), .mv (.t 0)⟩, ⟨(some 41), (some (39, true)), .mv (.t 6)⟩, ⟨(some 42), (some (39, true)), .bin .add (.t 41) (.c (.int .i64 1))⟩, ⟨(some 43), (some (39, true)), .mv (.t 7)⟩, ⟨(some 44), (some (39, true)), .slstr (.t 40) (some (.t 42)) (some (.t 43))⟩, ⟨(some 45), (some (39, true)), .call i_gatepostref03_target [(.t 44)]⟩, ⟨(some 46), none, .pick (.t 39) (.t 45) (.c (.bool false))⟩, ⟨(some 47), none, .mv (.t 46)⟩, ⟨(some 48), (some (47, true)), .mv (.t 0)⟩, ⟨(some 49), (some (47, true)), .mv (.t 7)⟩, ⟨(some 50), (some (47, true)), .bin .add (.t 49) (.c (.int .i64 1))⟩, ⟨(some 51), (some (47, true)), .slstr (.t 48) (some (.t 50)) none⟩, ⟨(some 52), (some (47, true)), .call i_gatepostref03_version [(.t 51)]⟩, ⟨(some 53), (some (47, true)), .bin .geq (.t 52) (.c (.int .i64 0))⟩, ⟨(some 54), none, .pick (.t 47) (.t 53) (.c (.bool false))⟩])
    (.cond (.t 54)
      (.seq (.dregion [⟨(some 55), none, .mv (.t 0)⟩, ⟨(some 56), none, .mv (.t 6)⟩, ⟨(some 57), none, .slstr (.t 55) none (some (.t 56))⟩, ⟨(some 58), none, .mv (.t 0)⟩, ⟨(some 59), none, .mv (.t 6)⟩, ⟨(some 60), none, .bin .add (.t 59) (.c (.int .i64 1))⟩, ⟨(some 61), none, .mv (.t 7)⟩, ⟨(some 62), none, .slstr (.t 58) (some (.t 60)) (some (.t 61))⟩, ⟨(some 63), none, .mv (.t 0)⟩, ⟨(some 64), none, .mv (.t 7)⟩, ⟨(some 65), none, .bin .add (.t 64) (.c (.int .i64 1))⟩, ⟨(some 66), none, .slstr (.t 63) (some (.t 65)) none⟩, ⟨(some 67), none, .call i_gatepostref03_version [(.t 66)]⟩, ⟨(some 2), none, .mv (.t 57)⟩] [⟨(some 3), none, .mv (.t 62)⟩, ⟨(some 4), none, .mv (.t 67)⟩, ⟨(some 5), none, .mv (.c (.int .i64 0))⟩])
      .ret)
      .skip)))
    (.region [⟨(some 27), none, .mv (.t 7)⟩, ⟨(some 28), none, .bin .add (.t 27) (.c (.int .i64 1))⟩, ⟨(some 7), none, .mv (.t 28)⟩]))))))))
  (.region [⟨(some 15), none, .mv (.t 6)⟩, ⟨(some 16), none, .bin .add (.t 15) (.c (.int .i64 1))⟩, ⟨(some 6), none, .mv (.t 16)⟩])))
def b_gatepostref03_Request_0 (L : FuncId → List V → V → Prop) (K : V → Heap → Prop) (N0 : Env → Heap → Prop) (e : Env) (h : Heap) : Prop :=
    (wi F L (.len 0 (.c (e 0))) E0 h fun v13 h =>
    (wi F L (.bin .lss (.c (e 6)) (.c v13)) E0 h fun v14 h =>
    (wb v14
    (k_gatepostref03_Request_2 L K N0 (upd (upd (upd (upd e 11 (e 6)) 12 (e 0)) 13 v13) 14 v14) (e 0) (e 6) h)
    (k_gatepostref03_Request_1 L K  h))))
theorem l_gatepostref03_Request_0 {L : FuncId → List V → V → Prop} {K : V → Heap → Prop} (I : Nat → Env → Heap → Prop) (hr : ∀ n e h, I n e h → b_gatepostref03_Request_0 L K (fun e' h' => ∃ m, m < n ∧ I m e' h') e h) {n : Nat} {e : Env} {h : Heap} (hi : I n e h) : Wl F L lc_gatepostref03_Request_0 (q_gatepostref03_Request_0 L K) e h :=
  wloopp (b := b_gatepostref03_Request_0 L K) I (fun _ _ _ => by kernel_rfl) hr hi
def k_gatepostref03_Request_0 (L : FuncId → List V → V → Prop) (K : V → Heap → Prop) (e : Env) (h : Heap) : Prop :=
    (Wl F L lc_gatepostref03_Request_0 (q_gatepostref03_Request_0 L K) (upd e 6 (.int .i64 0)) h)
def p_gatepostref03_Request (L : FuncId → List V → V → Prop) (K : V → Heap → Prop) (a0 : V) (h : Heap) : Prop :=
    (wi F L (.len 0 (.c a0)) E0 h fun v9 h =>
    (wi F L (.bin .gtr (.c v9) (.c (.int .i64 1024))) E0 h fun v10 h =>
    (wb v10
    (∃ v, resultsV h (enterE [(.str []), (.str []), (.int .i64 0), (.int .i64 3)]) [.tmp 0, .tmp 1, .tmp 2, .tmp 3] = some v ∧ K v h)
    (k_gatepostref03_Request_0 L K (upd (upd (upd (upd (upd (upd (upd (enterE [a0]) 2 (.str [])) 3 (.str [])) 4 (.int .i64 0)) 5 (.int .i64 0)) 8 a0) 9 v9) 10 v10)  h))))
theorem run_gatepostref03_Request {L : FuncId → List V → V → Prop} {K : V → Heap → Prop} {a0 : V} {h : Heap} (hp : p_gatepostref03_Request L K a0 h) : Cf F L i_gatepostref03_Request [a0] h K :=
  wcallp F_gatepostref03_Request (show 1 ≤ 68 by decide) (p := p_gatepostref03_Request L K a0 h) (by kernel_rfl) hp
def k_gatepostref04_Parse_2 (L : FuncId → List V → V → Prop) (K : V → Heap → Prop) (v0 v2 v4 v5 : V) (h : Heap) : Prop :=
    (wi F L (.slstr (.c v0) none (some (.c v4))) E0 h fun v41 h =>
    (wi F L (.build [(.str []), (.str [])] [(0, 1, (.c v41)), (1, 1, (.c v5))]) E0 h fun v43 h =>
    (wi F L (.store 2 (.c v2) (.c v43)) E0 h fun _ h =>
    (∃ v, resultsV h (enterE [v2, (.int .i64 0)]) [.cell 0 true 2, .tmp 1] = some v ∧ K v h))))
def k_gatepostref04_Parse_1 (L : FuncId → List V → V → Prop) (K : V → Heap → Prop) (v0 v2 v4 : V) (h : Heap) : Prop :=
    (wi F L (.bin .add (.c v4) (.c (.int .i64 1))) E0 h fun v32 h =>
    (wi F L (.slstr (.c v0) (some (.c v32)) none) E0 h fun v33 h =>
    (wi F L (.call i_gatepostref01_Trim [(.c v33)]) E0 h fun v34 h =>
    (wi F L (.call i_gatepostref01_Value [(.c v34)]) E0 h fun v36 h =>
    (wi F L (.un .not (.c v36)) E0 h fun v37 h =>
    (wb v37
    (wi F L (.build [(.str []), (.str [])] []) E0 h fun v38 h =>
    (wi F L (.store 2 (.c v2) (.c v38)) E0 h fun _ h =>
    (∃ v, resultsV h (enterE [v2, (.int .i64 31)]) [.cell 0 true 2, .tmp 1] = some v ∧ K v h)))
    (k_gatepostref04_Parse_2 L K v0 v2 v4 v34 h)))))))
def k_gatepostref04_Parse_0 (L : FuncId → List V → V → Prop) (K : V → Heap → Prop) (v0 v2 v4 : V) (h : Heap) : Prop :=
    (wi F L (.len 0 (.c v0)) E0 h fun v20 h =>
    (wi F L (.bin .eql (.c v4) (.c v20)) E0 h fun v21 h =>
    (wg v21 false (wi F L (.mv (.c v0)) E0 h) h fun v23 h =>
    (wg v21 false (wi F L (.mv (.c v4)) E0 h) h fun v24 h =>
    (wg v21 false (wi F L (.slstr (.c v23) none (some (.c v24))) E0 h) h fun v25 h =>
    (wg v21 false (wi F L (.call i_gatepostref01_Is [(.c v25)]) E0 h) h fun v26 h =>
    (wg v21 false (wi F L (.un .not (.c v26)) E0 h) h fun v27 h =>
    (wi F L (.pick (.c v21) (.c (.bool true)) (.c v27)) E0 h fun v28 h =>
    (wb v28
    (wi F L (.build [(.str []), (.str [])] []) E0 h fun v29 h =>
    (wi F L (.store 2 (.c v2) (.c v29)) E0 h fun _ h =>
    (∃ v, resultsV h (enterE [v2, (.int .i64 31)]) [.cell 0 true 2, .tmp 1] = some v ∧ K v h)))
    (k_gatepostref04_Parse_1 L K v0 v2 v4 h))))))))))
def k_gatepostref04_Parse_3 (L : FuncId → List V → V → Prop) (K : V → Heap → Prop) (N0 : Env → Heap → Prop) (e : Env) (v4 : V) (h : Heap) : Prop :=
    (wi F L (.bin .add (.c v4) (.c (.int .i64 1))) E0 h fun v17 h =>
    (N0 (upd (upd (upd e 16 v4) 17 v17) 4 v17) h))
def q_gatepostref04_Parse_0 (L : FuncId → List V → V → Prop) (K : V → Heap → Prop) : X → Env → Heap → Prop := (fun x => (seqX (fun e h => k_gatepostref04_Parse_0 L K (e 0) (e 2) (e 4) h) (retX c_gatepostref04_Parse.results K)) (X.out 0 x))
def lc_gatepostref04_Parse_0 : C :=
  (.seq (.seq (.region [⟨(some 6), none, .mv (.t 4)⟩, ⟨(some 7), none, .mv (.t 0)⟩, ⟨(some 8), none, .len 0 (.t 7)⟩, ⟨(some 9), none, .bin .lss (.t 6) (.t 8)⟩, ⟨(some 10), none, .mv (.t 9)⟩, ⟨(some 11), (some (10, true)), .mv (.t 0)⟩, ⟨(some 12), (some (10, true)), .mv (.t 4)⟩, ⟨(some 13), (some (10, true)), .ixStr (.t 11) (.t 12)⟩, ⟨(some 14), (some (10, true)), .bin .neq (.t 13) (.c (.int .u8 58))⟩, ⟨(some 15), none, .pick (.t 10) (.t 14) (.c (.bool false))⟩])
  (.cond (.t 15)
    .skip
    (.exit 0)))
  (.block 1 (.region [⟨(some 16), none, .mv (.t 4)⟩, ⟨(some 17), none, .bin .add (.t 16) (.c (.int .i64 1))⟩, ⟨(some 4), none, .mv (.t 17)⟩])))
def b_gatepostref04_Parse_0 (L : FuncId → List V → V → Prop) (K : V → Heap → Prop) (N0 : Env → Heap → Prop) (e : Env) (h : Heap) : Prop :=
    (wi F L (.len 0 (.c (e 0))) E0 h fun v8 h =>
    (wi F L (.bin .lss (.c (e 4)) (.c v8)) E0 h fun v9 h =>
    (wg v9 true (wi F L (.mv (.c (e 0))) E0 h) h fun v11 h =>
    (wg v9 true (wi F L (.mv (.c (e 4))) E0 h) h fun v12 h =>
    (wg v9 true (wi F L (.ixStr (.c v11) (.c v12)) E0 h) h fun v13 h =>
    (wg v9 true (wi F L (.bin .neq (.c v13) (.c (.int .u8 58))) E0 h) h fun v14 h =>
    (wi F L (.pick (.c v9) (.c v14) (.c (.bool false))) E0 h fun v15 h =>
    (wb v15
    (k_gatepostref04_Parse_3 L K N0 (upd (upd (upd (upd (upd (upd (upd (upd (upd (upd e 6 (e 4)) 7 (e 0)) 8 v8) 9 v9) 10 v9) 11 v11) 12 v12) 13 v13) 14 v14) 15 v15) (e 4) h)
    (k_gatepostref04_Parse_0 L K (e 0) (e 2) (e 4) h)))))))))
theorem l_gatepostref04_Parse_0 {L : FuncId → List V → V → Prop} {K : V → Heap → Prop} (I : Nat → Env → Heap → Prop) (hr : ∀ n e h, I n e h → b_gatepostref04_Parse_0 L K (fun e' h' => ∃ m, m < n ∧ I m e' h') e h) {n : Nat} {e : Env} {h : Heap} (hi : I n e h) : Wl F L lc_gatepostref04_Parse_0 (q_gatepostref04_Parse_0 L K) e h :=
  wloopp (b := b_gatepostref04_Parse_0 L K) I (fun _ _ _ => by kernel_rfl) hr hi
def p_gatepostref04_Parse (L : FuncId → List V → V → Prop) (K : V → Heap → Prop) (a0 : V) (h : Heap) : Prop :=
    (wi F L (.boxz [(.str []), (.str [])]) E0 h fun v2 h =>
    (Wl F L lc_gatepostref04_Parse_0 (q_gatepostref04_Parse_0 L K) (upd (upd (upd (enterE [a0]) 2 v2) 3 (.int .i64 0)) 4 (.int .i64 0)) h))
theorem run_gatepostref04_Parse {L : FuncId → List V → V → Prop} {K : V → Heap → Prop} {a0 : V} {h : Heap} (hp : p_gatepostref04_Parse L K a0 h) : Cf F L i_gatepostref04_Parse [a0] h K :=
  wcallp F_gatepostref04_Parse (show 1 ≤ 44 by decide) (p := p_gatepostref04_Parse L K a0 h) (by kernel_rfl) hp
def k_field_Parse_0 (L : FuncId → List V → V → Prop) (K : V → Heap → Prop) (v2 v7 : V) (h : Heap) : Prop :=
    (wi F L (.load true 2 (.c v7)) E0 h fun v26 h =>
    (wi F L (.store 2 (.c v2) (.c v26)) E0 h fun _ h =>
    (∃ v, resultsV h (enterE [v2, (.int .i64 0)]) [.cell 0 true 2, .tmp 1] = some v ∧ K v h)))
def p_field_Parse (L : FuncId → List V → V → Prop) (K : V → Heap → Prop) (a0 : V) (h : Heap) : Prop :=
    (wi F L (.boxz [(.str []), (.str [])]) E0 h fun v2 h =>
    (wi F L (.call i_strings_Cut [(.c a0), (.c (.str [58]))]) E0 h fun v10 h =>
    (wi F L (.ext 0 (.c v10)) E0 h fun v11 h =>
    (wi F L (.ext 1 (.c v10)) E0 h fun v12 h =>
    (wi F L (.ext 2 (.c v10)) E0 h fun v13 h =>
    (wi F L (.call i_token_Trim [(.c v12)]) E0 h fun v16 h =>
    (wi F L (.build [(.str []), (.str [])] [(0, 1, (.c v11)), (1, 1, (.c v16))]) E0 h fun v17 h =>
    (wi F L (.boxz [(.str []), (.str [])]) E0 h fun v7 h =>
    (wi F L (.store 2 (.c v7) (.c v17)) E0 h fun _ h =>
    (wi F L (.un .not (.c v13)) E0 h fun v19 h =>
    (wg v19 false (wi F L (.load true 2 (.c v7)) E0 h) h fun v21 h =>
    (wg v19 false (wi F L (.call i_field_fine [(.c v21)]) E0 h) h fun v22 h =>
    (wg v19 false (wi F L (.un .not (.c v22)) E0 h) h fun v23 h =>
    (wi F L (.pick (.c v19) (.c (.bool true)) (.c v23)) E0 h fun v24 h =>
    (wb v24
    (wi F L (.build [(.str []), (.str [])] []) E0 h fun v25 h =>
    (wi F L (.store 2 (.c v2) (.c v25)) E0 h fun _ h =>
    (∃ v, resultsV h (enterE [v2, (.int .i64 31)]) [.cell 0 true 2, .tmp 1] = some v ∧ K v h)))
    (k_field_Parse_0 L K v2 v7 h))))))))))))))))
theorem run_field_Parse {L : FuncId → List V → V → Prop} {K : V → Heap → Prop} {a0 : V} {h : Heap} (hp : p_field_Parse L K a0 h) : Cf F L i_field_Parse [a0] h K :=
  wcallp F_field_Parse (show 1 ≤ 27 by decide) (p := p_field_Parse L K a0 h) (by kernel_rfl) hp
def p_strings_Split (L : FuncId → List V → V → Prop) (K : V → Heap → Prop) (a0 a1 : V) (h : Heap) : Prop :=
    (wi F L (.call i_strings_genSplit [(.c a0), (.c a1), (.c (.int .i64 0)), (.c (.int .i64 (-1)))]) E0 h fun v7 h =>
    (∃ v, some v7 = some v ∧ K v h))
theorem run_strings_Split {L : FuncId → List V → V → Prop} {K : V → Heap → Prop} {a0 a1 : V} {h : Heap} (hp : p_strings_Split L K a0 a1 h) : Cf F L i_strings_Split [a0, a1] h K :=
  wcallp F_strings_Split (show 2 ≤ 8 by decide) (p := p_strings_Split L K a0 a1 h) (by kernel_rfl) hp
def k_token_all_0 (L : FuncId → List V → V → Prop) (K : V → Heap → Prop) (h : Heap) : Prop :=
    (∃ v, some (.bool true) = some v ∧ K v h)
def k_token_all_2 (L : FuncId → List V → V → Prop) (K : V → Heap → Prop) (N0 : Env → Heap → Prop) (e : Env) (v8 : V) (h : Heap) : Prop :=
    (wi F L (.bin .add (.c v8) (.c (.int .i64 1))) E0 h fun v17 h =>
    (N0 (upd (upd e 17 v17) 8 v17) h))
def k_token_all_1 (L : FuncId → List V → V → Prop) (K : V → Heap → Prop) (N0 : Env → Heap → Prop) (e : Env) (v0 v1 v8 : V) (h : Heap) : Prop :=
    (wi F L (.ixStr (.c v0) (.c v8)) E0 h fun v14 h =>
    (wi F L (.callv (.c v1) [(.c v14)]) E0 h fun v15 h =>
    (wi F L (.un .not (.c v15)) E0 h fun v16 h =>
    (wb v16
    (∃ v, some (.bool false) = some v ∧ K v h)
    (k_token_all_2 L K N0 (upd (upd (upd (upd (upd (upd (upd (upd e 10 v8) 5 v8) 11 v1) 12 v0) 13 v8) 14 v14) 15 v15) 16 v16) v8 h)))))
def q_token_all_0 (L : FuncId → List V → V → Prop) (K : V → Heap → Prop) : X → Env → Heap → Prop := (fun x => (seqX (fun e h => k_token_all_0 L K  h) (retX c_token_all.results K)) (X.out 0 x))
def lc_token_all_0 : C :=
  (.seq (.region [⟨(some 9), none, .bin .lss (.t 8) (.t 7)⟩])
  (.seq (.cond (.t 9)
    .skip
    (.exit 0))
  (.seq (.block 1 (.seq (.region [⟨(some 10), none, .mv (.t 8)⟩, ⟨(some 5), none, .mv (.t 10)⟩])
  (.seq (.region [⟨(some 11), none, .mv (.t 1)⟩, ⟨(some 12), none, .mv (.t 0)⟩, ⟨(some 13), none, .mv (.t 5)⟩, ⟨(some 14), none, .ixStr (.t 12) (.t 13)⟩, ⟨(some 15), none, .callv (.t 11) [(.t 14)]⟩, ⟨(some 16), none, .un .not (.t 15)⟩])
  (.cond (.t 16)
    (.seq (.region [⟨(some 4), none, .mv (.c (.bool false))⟩])
    .ret)
    .skip))))
  (.region [⟨(some 17), none, .bin .add (.t 8) (.c (.int .i64 1))⟩, ⟨(some 8), none, .mv (.t 17)⟩]))))
def b_token_all_0 (L : FuncId → List V → V → Prop) (K : V → Heap → Prop) (N0 : Env → Heap → Prop) (e : Env) (h : Heap) : Prop :=
    (wi F L (.bin .lss (.c (e 8)) (.c (e 7))) E0 h fun v9 h =>
    (wb v9
    (k_token_all_1 L K N0 (upd e 9 v9) (e 0) (e 1) (e 8) h)
    (k_token_all_0 L K  h)))
theorem l_token_all_0 {L : FuncId → List V → V → Prop} {K : V → Heap → Prop} (I : Nat → Env → Heap → Prop) (hr : ∀ n e h, I n e h → b_token_all_0 L K (fun e' h' => ∃ m, m < n ∧ I m e' h') e h) {n : Nat} {e : Env} {h : Heap} (hi : I n e h) : Wl F L lc_token_all_0 (q_token_all_0 L K) e h :=
  wloopp (b := b_token_all_0 L K) I (fun _ _ _ => by kernel_rfl) hr hi
def p_token_all (L : FuncId → List V → V → Prop) (K : V → Heap → Prop) (a0 a1 : V) (h : Heap) : Prop :=
    (wi F L (.len 0 (.c a0)) E0 h fun v7 h =>
    (Wl F L lc_token_all_0 (q_token_all_0 L K) (upd (upd (upd (upd (enterE [a0, a1]) 4 (.bool false)) 6 a0) 7 v7) 8 (.int .i64 0)) h))
theorem run_token_all {L : FuncId → List V → V → Prop} {K : V → Heap → Prop} {a0 a1 : V} {h : Heap} (hp : p_token_all L K a0 a1 h) : Cf F L i_token_all [a0, a1] h K :=
  wcallp F_token_all (show 2 ≤ 18 by decide) (p := p_token_all L K a0 a1 h) (by kernel_rfl) hp
def k_token_inToken_1 (L : FuncId → List V → V → Prop) (K : V → Heap → Prop) (h : Heap) : Prop :=
    (∃ v, some (.bool false) = some v ∧ K v h)
def k_token_inToken_3 (L : FuncId → List V → V → Prop) (K : V → Heap → Prop) (N0 : Env → Heap → Prop) (e : Env) (v23 : V) (h : Heap) : Prop :=
    (wi F L (.bin .add (.c v23) (.c (.int .i64 1))) E0 h fun v29 h =>
    (N0 (upd (upd e 29 v29) 23 v29) h))
def k_token_inToken_2 (L : FuncId → List V → V → Prop) (K : V → Heap → Prop) (N0 : Env → Heap → Prop) (e : Env) (v0 v22 v23 : V) (h : Heap) : Prop :=
    (wi F L (.ixArr 15 1 false (.c v22) (.c v23)) E0 h fun v25 h =>
    (wi F L (.bin .eql (.c v25) (.c v0)) E0 h fun v28 h =>
    (wb v28
    (∃ v, some (.bool true) = some v ∧ K v h)
    (k_token_inToken_3 L K N0 (upd (upd (upd (upd (upd e 25 v25) 5 v25) 26 v25) 27 v0) 28 v28) v23 h))))
def q_token_inToken_0 (L : FuncId → List V → V → Prop) (K : V → Heap → Prop) : X → Env → Heap → Prop := (fun x => (seqX (fun e h => k_token_inToken_1 L K  h) (retX c_token_inToken.results K)) (X.out 0 x))
def lc_token_inToken_0 : C :=
  (.seq (.region [⟨(some 24), none, .bin .lss (.t 23) (.c (.int .i64 15))⟩])
  (.seq (.cond (.t 24)
    .skip
    (.exit 0))
  (.seq (.block 1 (.seq (.region [⟨(some 25), none, .ixArr 15 1 false (.t 22) (.t 23)⟩, ⟨(some 5), none, .mv (.t 25)⟩])
  (.seq (.region [⟨(some 26), none, .mv (.t 5)⟩, ⟨(some 27), none, .mv (.t 0)⟩, ⟨(some 28), none, .bin .eql (.t 26) (.t 27)⟩])
  (.cond (.t 28)
    (.seq (.region [⟨(some 2), none, .mv (.c (.bool true))⟩])
    .ret)
    .skip))))
  (.region [⟨(some 29), none, .bin .add (.t 23) (.c (.int .i64 1))⟩, ⟨(some 23), none, .mv (.t 29)⟩]))))
def b_token_inToken_0 (L : FuncId → List V → V → Prop) (K : V → Heap → Prop) (N0 : Env → Heap → Prop) (e : Env) (h : Heap) : Prop :=
    (wi F L (.bin .lss (.c (e 23)) (.c (.int .i64 15))) E0 h fun v24 h =>
    (wb v24
    (k_token_inToken_2 L K N0 (upd e 24 v24) (e 0) (e 22) (e 23) h)
    (k_token_inToken_1 L K  h)))
theorem l_token_inToken_0 {L : FuncId → List V → V → Prop} {K : V → Heap → Prop} (I : Nat → Env → Heap → Prop) (hr : ∀ n e h, I n e h → b_token_inToken_0 L K (fun e' h' => ∃ m, m < n ∧ I m e' h') e h) {n : Nat} {e : Env} {h : Heap} (hi : I n e h) : Wl F L lc_token_inToken_0 (q_token_inToken_0 L K) e h :=
  wloopp (b := b_token_inToken_0 L K) I (fun _ _ _ => by kernel_rfl) hr hi
def k_token_inToken_0 (L : FuncId → List V → V → Prop) (K : V → Heap → Prop) (e : Env) (h : Heap) : Prop :=
    (wi F L (.call i_token_marks []) E0 h fun v22 h =>
    (Wl F L lc_token_inToken_0 (q_token_inToken_0 L K) (upd (upd e 22 v22) 23 (.int .i64 0)) h))
def p_token_inToken (L : FuncId → List V → V → Prop) (K : V → Heap → Prop) (a0 : V) (h : Heap) : Prop :=
    (wi F L (.bin .or (.c a0) (.c (.int .u8 32))) E0 h fun v7 h =>
    (wi F L (.bin .geq (.c v7) (.c (.int .u8 97))) E0 h fun v9 h =>
    (wg v9 true (wi F L (.mv (.c v7)) E0 h) h fun v11 h =>
    (wg v9 true (wi F L (.bin .leq (.c v11) (.c (.int .u8 122))) E0 h) h fun v12 h =>
    (wi F L (.pick (.c v9) (.c v12) (.c (.bool false))) E0 h fun v13 h =>
    (wg v13 false (wi F L (.mv (.c a0)) E0 h) h fun v15 h =>
    (wg v13 false (wi F L (.bin .geq (.c v15) (.c (.int .u8 48))) E0 h) h fun v16 h =>
    (wg v13 false (wi F L (.mv (.c v16)) E0 h) h fun v17 h =>
    (wg v17 true (wi F L (.mv (.c a0)) E0 h) h fun v18 h =>
    (wg v17 true (wi F L (.bin .leq (.c v18) (.c (.int .u8 57))) E0 h) h fun v19 h =>
    (wg v13 false (wi F L (.pick (.c v17) (.c v19) (.c (.bool false))) E0 h) h fun v20 h =>
    (wi F L (.pick (.c v13) (.c (.bool true)) (.c v20)) E0 h fun v21 h =>
    (wb v21
    (∃ v, some (.bool true) = some v ∧ K v h)
    (k_token_inToken_0 L K (upd (upd (upd (upd (upd (upd (upd (upd (upd (upd (upd (upd (upd (upd (upd (upd (upd (upd (enterE [a0]) 2 (.bool false)) 6 a0) 7 v7) 3 v7) 8 v7) 9 v9) 10 v9) 11 v11) 12 v12) 13 v13) 14 v13) 15 v15) 16 v16) 17 v17) 18 v18) 19 v19) 20 v20) 21 v21)  h))))))))))))))
theorem run_token_inToken {L : FuncId → List V → V → Prop} {K : V → Heap → Prop} {a0 : V} {h : Heap} (hp : p_token_inToken L K a0 h) : Cf F L i_token_inToken [a0] h K :=
  wcallp F_token_inToken (show 1 ≤ 30 by decide) (p := p_token_inToken L K a0 h) (by kernel_rfl) hp
def k_internal_stringslite_Cut_0 (L : FuncId → List V → V → Prop) (K : V → Heap → Prop) (v0 : V) (h : Heap) : Prop :=
    (∃ v, resultsV h (enterE [v0, (.str []), (.bool false)]) [.tmp 0, .tmp 1, .tmp 2] = some v ∧ K v h)
def p_internal_stringslite_Cut (L : FuncId → List V → V → Prop) (K : V → Heap → Prop) (a0 a1 : V) (h : Heap) : Prop :=
    (wi F L (.call i_internal_stringslite_Index [(.c a0), (.c a1)]) E0 h fun v10 h =>
    (wi F L (.bin .geq (.c v10) (.c (.int .i64 0))) E0 h fun v12 h =>
    (wb v12
    (wi F L (.slstr (.c a0) none (some (.c v10))) E0 h fun v15 h' => Ext h h' ∧
    (wi F L (.len 0 (.c a1)) E0 h' fun v19 h => Ext h' h ∧
    (wi F L (.bin .add (.c v10) (.c v19)) E0 h fun v20 h' => Ext h h' ∧
    (wi F L (.slstr (.c a0) (some (.c v20)) none) E0 h' fun v21 h => Ext h' h ∧
    (∃ v, resultsV h (enterE [v15, v21, (.bool true)]) [.tmp 0, .tmp 1, .tmp 2] = some v ∧ K v h)))))
    (k_internal_stringslite_Cut_0 L K a0 h))))
theorem run_internal_stringslite_Cut {L : FuncId → List V → V → Prop} {K : V → Heap → Prop} {a0 a1 : V} {h : Heap} (hp : p_internal_stringslite_Cut L K a0 a1 h) : Cf F L i_internal_stringslite_Cut [a0, a1] h K :=
  wcallp F_internal_stringslite_Cut (show 2 ≤ 23 by decide) (p := p_internal_stringslite_Cut L K a0 a1 h) (by kernel_rfl) hp
def p_token_Number_1 (L : FuncId → List V → V → Prop) (K : V → Heap → Prop) (a0 : V) (h : Heap) : Prop :=
    (wi F L (.bin .geq (.c a0) (.c (.int .u8 48))) E0 h fun v4 h =>
    (wg v4 true (wi F L (.mv (.c a0)) E0 h) h fun v6 h =>
    (wg v4 true (wi F L (.bin .leq (.c v6) (.c (.int .u8 57))) E0 h) h fun v7 h =>
    (wi F L (.pick (.c v4) (.c v7) (.c (.bool false))) E0 h fun v8 h =>
    (∃ v, some v8 = some v ∧ K v h)))))
theorem run_token_Number_1 {L : FuncId → List V → V → Prop} {K : V → Heap → Prop} {a0 : V} {h : Heap} (hp : p_token_Number_1 L K a0 h) : Cf F L i_token_Number_1 [a0] h K :=
  wcallp F_token_Number_1 (show 1 ≤ 9 by decide) (p := p_token_Number_1 L K a0 h) (by kernel_rfl) hp
def k_gatepostref03_version_1 (L : FuncId → List V → V → Prop) (K : V → Heap → Prop) (h : Heap) : Prop :=
    (∃ v, some (.int .i64 (-1)) = some v ∧ K v h)
def k_gatepostref03_version_0 (L : FuncId → List V → V → Prop) (K : V → Heap → Prop) (v0 : V) (h : Heap) : Prop :=
    (wi F L (.bin .eql (.c v0) (.c (.str [72, 84, 84, 80, 47, 49, 46, 49]))) E0 h fun v6 h =>
    (wb v6
    (∃ v, some (.int .i64 1) = some v ∧ K v h)
    (k_gatepostref03_version_1 L K  h)))
def p_gatepostref03_version (L : FuncId → List V → V → Prop) (K : V → Heap → Prop) (a0 : V) (h : Heap) : Prop :=
    (wi F L (.bin .eql (.c a0) (.c (.str [72, 84, 84, 80, 47, 49, 46, 48]))) E0 h fun v4 h =>
    (wb v4
    (∃ v, some (.int .i64 0) = some v ∧ K v h)
    (k_gatepostref03_version_0 L K a0 h)))
theorem run_gatepostref03_version {L : FuncId → List V → V → Prop} {K : V → Heap → Prop} {a0 : V} {h : Heap} (hp : p_gatepostref03_version L K a0 h) : Cf F L i_gatepostref03_version [a0] h K :=
  wcallp F_gatepostref03_version (show 1 ≤ 7 by decide) (p := p_gatepostref03_version L K a0 h) (by kernel_rfl) hp
def k_gatepostref01_Number_2 (L : FuncId → List V → V → Prop) (K : V → Heap → Prop) (v6 : V) (h : Heap) : Prop :=
    (∃ v, resultsV h (enterE [v6, (.bool true)]) [.tmp 0, .tmp 1] = some v ∧ K v h)
def k_gatepostref01_Number_4 (L : FuncId → List V → V → Prop) (K : V → Heap → Prop) (N0 : Env → Heap → Prop) (e : Env) (v8 : V) (h : Heap) : Prop :=
    (wi F L (.bin .add (.c v8) (.c (.int .i64 1))) E0 h fun v38 h =>
    (N0 (upd (upd (upd e 37 v8) 38 v38) 8 v38) h))
def k_gatepostref01_Number_5 (L : FuncId → List V → V → Prop) (K : V → Heap → Prop) (N0 : Env → Heap → Prop) (e : Env) (v6 v8 v9 : V) (h : Heap) : Prop :=
    (wi F L (.bin .mul (.c v6) (.c (.int .i64 10))) E0 h fun v57 h =>
    (wi F L (.bin .add (.c v57) (.c v9)) E0 h fun v59 h =>
    (k_gatepostref01_Number_4 L K N0 (upd (upd (upd (upd (upd e 56 v6) 57 v57) 58 v9) 59 v59) 6 v59) v8 h)))
def k_gatepostref01_Number_3 (L : FuncId → List V → V → Prop) (K : V → Heap → Prop) (N0 : Env → Heap → Prop) (e : Env) (v0 v1 v6 v8 : V) (h : Heap) : Prop :=
    (wi F L (.ixStr (.c v0) (.c v8)) E0 h fun v41 h =>
    (wi F L (.bin .sub (.c v41) (.c (.int .u8 48))) E0 h fun v42 h =>
    (wi F L (.toInt .i64 (.c v42)) E0 h fun v43 h =>
    (wi F L (.bin .sub (.c v1) (.c v43)) E0 h fun v47 h =>
    (wi F L (.bin .quo (.c v47) (.c (.int .i64 10))) E0 h fun v48 h =>
    (wi F L (.bin .gtr (.c v6) (.c v48)) E0 h fun v49 h =>
    (wg v49 false (wi F L (.mv (.c v1)) E0 h) h fun v51 h =>
    (wg v49 false (wi F L (.mv (.c v43)) E0 h) h fun v52 h =>
    (wg v49 false (wi F L (.bin .lss (.c v51) (.c v52)) E0 h) h fun v53 h =>
    (wi F L (.pick (.c v49) (.c (.bool true)) (.c v53)) E0 h fun v54 h =>
    (wb v54
    (∃ v, resultsV h (enterE [v1, (.bool true)]) [.tmp 0, .tmp 1] = some v ∧ K v h)
    (k_gatepostref01_Number_5 L K N0 (upd (upd (upd (upd (upd (upd (upd (upd (upd (upd (upd (upd (upd (upd (upd (upd (upd e 39 v0) 40 v8) 41 v41) 42 v42) 43 v43) 9 v43) 44 v6) 45 v1) 46 v43) 47 v47) 48 v48) 49 v49) 50 v49) 51 v51) 52 v52) 53 v53) 54 v54) v6 v8 v43 h))))))))))))
def q_gatepostref01_Number_0 (L : FuncId → List V → V → Prop) (K : V → Heap → Prop) : X → Env → Heap → Prop := (fun x => (seqX (fun e h => k_gatepostref01_Number_2 L K (e 6) h) (retX c_gatepostref01_Number.results K)) (X.out 2 x))
def lc_gatepostref01_Number_0 : C :=
  (.seq (.seq (.region [⟨(some 33), none, .mv (.t 8)⟩, ⟨(some 34), none, .mv (.t 0)⟩, ⟨(some 35), none, .len 0 (.t 34)⟩, ⟨(some 36), none, .bin .lss (.t 33) (.t 35)⟩])
  (.cond (.t 36)
    .skip
    (.exit 2)))
  (.seq (.block 3 (.seq (.region [⟨(some 39), none, .mv (.t 0)⟩, ⟨(some 40), none, .mv (.t 8)⟩, ⟨(some 41), none, .ixStr (.t 39) (.t 40)⟩, ⟨(some 42), none, .bin .sub (.t 41) (.c (.int .u8 48))⟩, ⟨(some 43), none, .toInt .i64 (.t 42)⟩, ⟨(some 9), none, .mv (.t 43)⟩])
  (.seq (.seq (.region [⟨(some 44), none, .mv (.t 6)⟩, ⟨(some 45), none, .mv (.t 1)⟩, ⟨(some 46), none, .mv (.t 9)⟩, ⟨(some 47), none, .bin .sub (.t 45) (.t 46)⟩, ⟨(some 48), none, .bin .quo (.t 47) (.c (.int .i64 10))⟩, ⟨(some 49), none, .bin .gtr (.t 44) (.t 48)⟩, ⟨(some 50), none, .mv (.t 49)⟩, ⟨(some 51), (some (50, false)), .mv (.t 1)⟩, ⟨(some 52), (some (50, false)), .mv (.t 9)⟩, ⟨(some 53), (some (50, false)), .bin .lss (.t 51) (.t 52)⟩, ⟨(some 54), none, .pick (.t 50) (.c (.bool true)) (.t 53)⟩])
  (.cond (.t 54)
    (.seq (.region [⟨(some 55), none, .mv (.t 1)⟩, ⟨(some 4), none, .mv (.t 55)⟩, ⟨(some 5), none, .mv (.c (.bool true))⟩])
    .ret)
    .skip))
  (.region [⟨(some 56), none, .mv (.t 6)⟩, ⟨(some 57), none, .bin .mul (.t 56) (.c (.int .i64 10))⟩, ⟨(some 58), none, .mv (.t 9)⟩, ⟨(some 59), none, .bin .add (.t 57) (.t 58)⟩, ⟨(some 6), none, .mv (.t 59)⟩]))))
  (.region [⟨(some 37), none, .mv (.t 8)⟩, ⟨(some 38), none, .bin .add (.t 37) (.c (.int .i64 1))⟩, ⟨(some 8), none, .mv (.t 38)⟩])))
def b_gatepostref01_Number_0 (L : FuncId → List V → V → Prop) (K : V → Heap → Prop) (N0 : Env → Heap → Prop) (e : Env) (h : Heap) : Prop :=
    (wi F L (.len 0 (.c (e 0))) E0 h fun v35 h =>
    (wi F L (.bin .lss (.c (e 8)) (.c v35)) E0 h fun v36 h =>
    (wb v36
    (k_gatepostref01_Number_3 L K N0 (upd (upd (upd (upd e 33 (e 8)) 34 (e 0)) 35 v35) 36 v36) (e 0) (e 1) (e 6) (e 8) h)
    (k_gatepostref01_Number_2 L K (e 6) h))))
theorem l_gatepostref01_Number_0 {L : FuncId → List V → V → Prop} {K : V → Heap → Prop} (I : Nat → Env → Heap → Prop) (hr : ∀ n e h, I n e h → b_gatepostref01_Number_0 L K (fun e' h' => ∃ m, m < n ∧ I m e' h') e h) {n : Nat} {e : Env} {h : Heap} (hi : I n e h) : Wl F L lc_gatepostref01_Number_0 (q_gatepostref01_Number_0 L K) e h :=
  wloopp (b := b_gatepostref01_Number_0 L K) I (fun _ _ _ => by kernel_rfl) hr hi
def k_gatepostref01_Number_1 (L : FuncId → List V → V → Prop) (K : V → Heap → Prop) (e : Env) (h : Heap) : Prop :=
    (Wl F L lc_gatepostref01_Number_0 (q_gatepostref01_Number_0 L K) (upd e 8 (.int .i64 0)) h)
def k_gatepostref01_Number_7 (L : FuncId → List V → V → Prop) (K : V → Heap → Prop) (N0 : Env → Heap → Prop) (e : Env) (v7 : V) (h : Heap) : Prop :=
    (wi F L (.bin .add (.c v7) (.c (.int .i64 1))) E0 h fun v22 h =>
    (N0 (upd (upd (upd e 21 v7) 22 v22) 7 v22) h))
def k_gatepostref01_Number_6 (L : FuncId → List V → V → Prop) (K : V → Heap → Prop) (N0 : Env → Heap → Prop) (e : Env) (v0 v7 : V) (h : Heap) : Prop :=
    (wi F L (.ixStr (.c v0) (.c v7)) E0 h fun v25 h =>
    (wi F L (.bin .lss (.c v25) (.c (.int .u8 48))) E0 h fun v26 h =>
    (wg v26 false (wi F L (.mv (.c v0)) E0 h) h fun v28 h =>
    (wg v26 false (wi F L (.mv (.c v7)) E0 h) h fun v29 h =>
    (wg v26 false (wi F L (.ixStr (.c v28) (.c v29)) E0 h) h fun v30 h =>
    (wg v26 false (wi F L (.bin .gtr (.c v30) (.c (.int .u8 57))) E0 h) h fun v31 h =>
    (wi F L (.pick (.c v26) (.c (.bool true)) (.c v31)) E0 h fun v32 h =>
    (wb v32
    (∃ v, resultsV h (enterE [(.int .i64 0), (.bool false)]) [.tmp 0, .tmp 1] = some v ∧ K v h)
    (k_gatepostref01_Number_7 L K N0 (upd (upd (upd (upd (upd (upd (upd (upd (upd (upd e 23 v0) 24 v7) 25 v25) 26 v26) 27 v26) 28 v28) 29 v29) 30 v30) 31 v31) 32 v32) v7 h)))))))))
def q_gatepostref01_Number_1 (L : FuncId → List V → V → Prop) (K : V → Heap → Prop) : X → Env → Heap → Prop := (fun x => (seqX (fun e h => k_gatepostref01_Number_1 L K e  h) (retX c_gatepostref01_Number.results K)) (X.out 0 x))
def lc_gatepostref01_Number_1 : C :=
  (.seq (.seq (.region [⟨(some 17), none, .mv (.t 7)⟩, ⟨(some 18), none, .mv (.t 0)⟩, ⟨(some 19), none, .len 0 (.t 18)⟩, ⟨(some 20), none, .bin .lss (.t 17) (.t 19)⟩])
  (.cond (.t 20)
    .skip
    (.exit 0)))
  (.seq (.block 1 (.seq (.region [⟨(some 23), none, .mv (.t 0)⟩, ⟨(some 24), none, .mv (.t 7)⟩, ⟨(some 25), none, .ixStr (.t 23) (.t 24)⟩, ⟨(some 26), none, .bin .lss (.t 25) (.c (.int .u8 48))⟩, ⟨(some 27), none, .mv (.t 26)⟩, ⟨(some 28), (some (27, false)), .mv (.t 0)⟩, ⟨(some 29), (some (27, false)), .mv (.t 7)⟩, ⟨(some 30), (some (27, false)), .ixStr (.t 28) (.t 29)⟩, ⟨(some 31), (some (27, false)), .bin .gtr (.t 30) (.c (.int .u8 57))⟩, ⟨(some 32), none, .pick (.t 27) (.c (.bool true)) (.t 31)⟩])
  (.cond (.t 32)
    (.seq (.region [⟨(some 4), none, .mv (.c (.int .i64 0))⟩, ⟨(some 5), none, .mv (.c (.bool false))⟩])
    .ret)
    .skip)))
  (.region [⟨(some 21), none, .mv (.t 7)⟩, ⟨(some 22), none, .bin .add (.t 21) (.c (.int .i64 1))⟩, ⟨(some 7), none, .mv (.t 22)⟩])))
def b_gatepostref01_Number_1 (L : FuncId → List V → V → Prop) (K : V → Heap → Prop) (N0 : Env → Heap → Prop) (e : Env) (h : Heap) : Prop :=
    (wi F L (.len 0 (.c (e 0))) E0 h fun v19 h =>
    (wi F L (.bin .lss (.c (e 7)) (.c v19)) E0 h fun v20 h =>
    (wb v20
    (k_gatepostref01_Number_6 L K N0 (upd (upd (upd (upd e 17 (e 7)) 18 (e 0)) 19 v19) 20 v20) (e 0) (e 7) h)
    (k_gatepostref01_Number_1 L K (upd (upd (upd (upd e 17 (e 7)) 18 (e 0)) 19 v19) 20 v20)  h))))
theorem l_gatepostref01_Number_1 {L : FuncId → List V → V → Prop} {K : V → Heap → Prop} (I : Nat → Env → Heap → Prop) (hr : ∀ n e h, I n e h → b_gatepostref01_Number_1 L K (fun e' h' => ∃ m, m < n ∧ I m e' h') e h) {n : Nat} {e : Env} {h : Heap} (hi : I n e h) : Wl F L lc_gatepostref01_Number_1 (q_gatepostref01_Number_1 L K) e h :=
  wloopp (b := b_gatepostref01_Number_1 L K) I (fun _ _ _ => by kernel_rfl) hr hi
def k_gatepostref01_Number_0 (L : FuncId → List V → V → Prop) (K : V → Heap → Prop) (e : Env) (h : Heap) : Prop :=
    (Wl F L lc_gatepostref01_Number_1 (q_gatepostref01_Number_1 L K) (upd (upd e 6 (.int .i64 0)) 7 (.int .i64 0)) h)
def p_gatepostref01_Number (L : FuncId → List V → V → Prop) (K : V → Heap → Prop) (a0 a1 : V) (h : Heap) : Prop :=
    (wi F L (.bin .lss (.c a1) (.c (.int .i64 0))) E0 h fun v11 h =>
    (wg v11 false (wi F L (.mv (.c a0)) E0 h) h fun v13 h =>
    (wg v11 false (wi F L (.len 0 (.c v13)) E0 h) h fun v14 h =>
    (wg v11 false (wi F L (.bin .eql (.c v14) (.c (.int .i64 0))) E0 h) h fun v15 h =>
    (wi F L (.pick (.c v11) (.c (.bool true)) (.c v15)) E0 h fun v16 h =>
    (wb v16
    (∃ v, resultsV h (enterE [(.int .i64 0), (.bool false)]) [.tmp 0, .tmp 1] = some v ∧ K v h)
    (k_gatepostref01_Number_0 L K (upd (upd (upd (upd (upd (upd (upd (upd (upd (enterE [a0, a1]) 4 (.int .i64 0)) 5 (.bool false)) 10 a1) 11 v11) 12 v11) 13 v13) 14 v14) 15 v15) 16 v16)  h)))))))
theorem run_gatepostref01_Number {L : FuncId → List V → V → Prop} {K : V → Heap → Prop} {a0 a1 : V} {h : Heap} (hp : p_gatepostref01_Number L K a0 a1 h) : Cf F L i_gatepostref01_Number [a0, a1] h K :=
  wcallp F_gatepostref01_Number (show 2 ≤ 61 by decide) (p := p_gatepostref01_Number L K a0 a1 h) (by kernel_rfl) hp
def k_gatepostref03_reason_0 (L : FuncId → List V → V → Prop) (K : V → Heap → Prop) (h : Heap) : Prop :=
    (∃ v, some (.bool true) = some v ∧ K v h)
def k_gatepostref03_reason_2 (L : FuncId → List V → V → Prop) (K : V → Heap → Prop) (N0 : Env → Heap → Prop) (e : Env) (v3 : V) (h : Heap) : Prop :=
    (wi F L (.bin .add (.c v3) (.c (.int .i64 1))) E0 h fun v9 h =>
    (N0 (upd (upd (upd e 8 v3) 9 v9) 3 v9) h))
def k_gatepostref03_reason_1 (L : FuncId → List V → V → Prop) (K : V → Heap → Prop) (N0 : Env → Heap → Prop) (e : Env) (v0 v3 : V) (h : Heap) : Prop :=
    (wi F L (.ixStr (.c v0) (.c v3)) E0 h fun v12 h =>
    (wi F L (.bin .neq (.c v12) (.c (.int .u8 9))) E0 h fun v13 h =>
    (wg v13 true (wi F L (.mv (.c v0)) E0 h) h fun v15 h =>
    (wg v13 true (wi F L (.mv (.c v3)) E0 h) h fun v16 h =>
    (wg v13 true (wi F L (.ixStr (.c v15) (.c v16)) E0 h) h fun v17 h =>
    (wg v13 true (wi F L (.bin .lss (.c v17) (.c (.int .u8 32))) E0 h) h fun v18 h =>
    (wi F L (.pick (.c v13) (.c v18) (.c (.bool false))) E0 h fun v19 h =>
    (wg v19 false (wi F L (.mv (.c v0)) E0 h) h fun v21 h =>
    (wg v19 false (wi F L (.mv (.c v3)) E0 h) h fun v22 h =>
    (wg v19 false (wi F L (.ixStr (.c v21) (.c v22)) E0 h) h fun v23 h =>
    (wg v19 false (wi F L (.bin .eql (.c v23) (.c (.int .u8 127))) E0 h) h fun v24 h =>
    (wi F L (.pick (.c v19) (.c (.bool true)) (.c v24)) E0 h fun v25 h =>
    (wb v25
    (∃ v, some (.bool false) = some v ∧ K v h)
    (k_gatepostref03_reason_2 L K N0 (upd (upd (upd (upd (upd (upd (upd (upd (upd (upd (upd (upd (upd (upd (upd (upd e 10 v0) 11 v3) 12 v12) 13 v13) 14 v13) 15 v15) 16 v16) 17 v17) 18 v18) 19 v19) 20 v19) 21 v21) 22 v22) 23 v23) 24 v24) 25 v25) v3 h))))))))))))))
def q_gatepostref03_reason_0 (L : FuncId → List V → V → Prop) (K : V → Heap → Prop) : X → Env → Heap → Prop := (fun x => (seqX (fun e h => k_gatepostref03_reason_0 L K  h) (retX c_gatepostref03_reason.results K)) (X.out 0 x))
def lc_gatepostref03_reason_0 : C :=
  (.seq (.seq (.region [⟨(some 4), none, .mv (.t 3)⟩, ⟨(some 5), none, .mv (.t 0)⟩, ⟨(some 6), none, .len 0 (.t 5)⟩, ⟨(some 7), none, .bin .lss (.t 4) (.t 6)⟩])
  (.cond (.t 7)
    .skip
    (.exit 0)))
  (.seq (.block 1 (.seq (.region [⟨(some 10), none, .mv (.t 0)⟩, ⟨(some 11), none, .mv (.t 3)⟩, ⟨(some 12), none, .ixStr (.t 10) (.t 11)⟩, ⟨(some 13), none, .bin .neq (.t 12) (.c (.int .u8 9))⟩, ⟨(some 14), none, .mv (.t 13)⟩, ⟨(some 15), (some (14, true)), .mv (.t 0)⟩, ⟨(some 16), (some (14, true)), .mv (.t 3)⟩, ⟨(some 17), (some (14, true)), .ixStr (.t 15) (.t 16)⟩, ⟨(some 18), (some (14, true)), .bin .lss (.t 17) (.c (.int .u8 32))⟩, ⟨(some 19), none, .pick (.t 14) (.t 18) (.c (.bool false))⟩, ⟨(some 20), none, .mv (.t 19)⟩, ⟨(some 21), (some (20, false)), .mv (.t 0)⟩, ⟨(some 22), (some (20, false)), .mv (.t 3)⟩, ⟨(some 23), (some (20, false)), .ixStr (.t 21) (.t 22)⟩, ⟨(some 24), (some (20, false)), .bin .eql (.t 23) (.c (.int .u8 127))⟩, ⟨(some 25), none, .pick (.t 20) (.c (.bool true)) (.t 24)⟩])
  (.cond (.t 25)
    (.seq (.region [⟨(some 2), none, .mv (.c (.bool false))⟩])
    .ret)
    .skip)))
  (.region [⟨(some 8), none, .mv (.t 3)⟩, ⟨(some 9), none, .bin .add (.t 8) (.c (.int .i64 1))⟩, ⟨(some 3), none, .mv (.t 9)⟩])))
def b_gatepostref03_reason_0 (L : FuncId → List V → V → Prop) (K : V → Heap → Prop) (N0 : Env → Heap → Prop) (e : Env) (h : Heap) : Prop :=
    (wi F L (.len 0 (.c (e 0))) E0 h fun v6 h =>
    (wi F L (.bin .lss (.c (e 3)) (.c v6)) E0 h fun v7 h =>
    (wb v7
    (k_gatepostref03_reason_1 L K N0 (upd (upd (upd (upd e 4 (e 3)) 5 (e 0)) 6 v6) 7 v7) (e 0) (e 3) h)
    (k_gatepostref03_reason_0 L K  h))))
theorem l_gatepostref03_reason_0 {L : FuncId → List V → V → Prop} {K : V → Heap → Prop} (I : Nat → Env → Heap → Prop) (hr : ∀ n e h, I n e h → b_gatepostref03_reason_0 L K (fun e' h' => ∃ m, m < n ∧ I m e' h') e h) {n : Nat} {e : Env} {h : Heap} (hi : I n e h) : Wl F L lc_gatepostref03_reason_0 (q_gatepostref03_reason_0 L K) e h :=
  wloopp (b := b_gatepostref03_reason_0 L K) I (fun _ _ _ => by kernel_rfl) hr hi
def p_gatepostref03_reason (L : FuncId → List V → V → Prop) (K : V → Heap → Prop) (a0 : V) (h : Heap) : Prop :=
    (Wl F L lc_gatepostref03_reason_0 (q_gatepostref03_reason_0 L K) (upd (upd (enterE [a0]) 2 (.bool false)) 3 (.int .i64 0)) h)
theorem run_gatepostref03_reason {L : FuncId → List V → V → Prop} {K : V → Heap → Prop} {a0 : V} {h : Heap} (hp : p_gatepostref03_reason L K a0 h) : Cf F L i_gatepostref03_reason [a0] h K :=
  wcallp F_gatepostref03_reason (show 1 ≤ 26 by decide) (p := p_gatepostref03_reason L K a0 h) (by kernel_rfl) hp
def k_gatepostref01_Is_0 (L : FuncId → List V → V → Prop) (K : V → Heap → Prop) (v0 : V) (h : Heap) : Prop :=
    (wi F L (.len 0 (.c v0)) E0 h fun v16 h =>
    (wi F L (.bin .gtr (.c v16) (.c (.int .i64 0))) E0 h fun v17 h =>
    (∃ v, some v17 = some v ∧ K v h)))
def k_gatepostref01_Is_2 (L : FuncId → List V → V → Prop) (K : V → Heap → Prop) (N0 : Env → Heap → Prop) (e : Env) (v3 : V) (h : Heap) : Prop :=
    (wi F L (.bin .add (.c v3) (.c (.int .i64 1))) E0 h fun v9 h =>
    (N0 (upd (upd (upd e 8 v3) 9 v9) 3 v9) h))
def k_gatepostref01_Is_1 (L : FuncId → List V → V → Prop) (K : V → Heap → Prop) (N0 : Env → Heap → Prop) (e : Env) (v0 v3 : V) (h : Heap) : Prop :=
    (wi F L (.ixStr (.c v0) (.c v3)) E0 h fun v12 h =>
    (wi F L (.call i_gatepostref01_tchar [(.c v12)]) E0 h fun v13 h =>
    (wi F L (.un .not (.c v13)) E0 h fun v14 h =>
    (wb v14
    (∃ v, some (.bool false) = some v ∧ K v h)
    (k_gatepostref01_Is_2 L K N0 (upd (upd (upd (upd (upd e 10 v0) 11 v3) 12 v12) 13 v13) 14 v14) v3 h)))))
def q_gatepostref01_Is_0 (L : FuncId → List V → V → Prop) (K : V → Heap → Prop) : X → Env → Heap → Prop := (fun x => (seqX (fun e h => k_gatepostref01_Is_0 L K (e 0) h) (retX c_gatepostref01_Is.results K)) (X.out 0 x))
def lc_gatepostref01_Is_0 : C :=
  (.seq (.seq (.region [⟨(some 4), none, .mv (.t 3)⟩, ⟨(some 5), none, .mv (.t 0)⟩, ⟨(some 6), none, .len 0 (.t 5)⟩, ⟨(some 7), none, .bin .lss (.t 4) (.t 6)⟩])
  (.cond (.t 7)
    .skip
    (.exit 0)))
  (.seq (.block 1 (.seq (.region [⟨(some 10), none, .mv (.t 0)⟩, ⟨(some 11), none, .mv (.t 3)⟩, ⟨(some 12), none, .ixStr (.t 10) (.t 11)⟩, ⟨(some 13), none, .call i_gatepostref01_tchar [(.t 12)]⟩, ⟨(some 14), none, .un .not (.t 13)⟩])
  (.cond (.t 14)
    (.seq (.region [⟨(some 2), none, .mv (.c (.bool false))⟩])
    .ret)
    .skip)))
  (.region [⟨(some 8), none, .mv (.t 3)⟩, ⟨(some 9), none, .bin .add (.t 8) (.c (.int .i64 1))⟩, ⟨(some 3), none, .mv (.t 9)⟩])))
def b_gatepostref01_Is_0 (L : FuncId → List V → V → Prop) (K : V → Heap → Prop) (N0 : Env → Heap → Prop) (e : Env) (h : Heap) : Prop :=
    (wi F L (.len 0 (.c (e 0))) E0 h fun v6 h =>
    (wi F L (.bin .lss (.c (e 3)) (.c v6)) E0 h fun v7 h =>
    (wb v7
    (k_gatepostref01_Is_1 L K N0 (upd (upd (upd (upd e 4 (e 3)) 5 (e 0)) 6 v6) 7 v7) (e 0) (e 3) h)
    (k_gatepostref01_Is_0 L K (e 0) h))))
theorem l_gatepostref01_Is_0 {L : FuncId → List V → V → Prop} {K : V → Heap → Prop} (I : Nat → Env → Heap → Prop) (hr : ∀ n e h, I n e h → b_gatepostref01_Is_0 L K (fun e' h' => ∃ m, m < n ∧ I m e' h') e h) {n : Nat} {e : Env} {h : Heap} (hi : I n e h) : Wl F L lc_gatepostref01_Is_0 (q_gatepostref01_Is_0 L K) e h :=
  wloopp (b := b_gatepostref01_Is_0 L K) I (fun _ _ _ => by kernel_rfl) hr hi
def p_gatepostref01_Is (L : FuncId → List V → V → Prop) (K : V → Heap → Prop) (a0 : V) (h : Heap) : Prop :=
    (Wl F L lc_gatepostref01_Is_0 (q_gatepostref01_Is_0 L K) (upd (upd (enterE [a0]) 2 (.bool false)) 3 (.int .i64 0)) h)
theorem run_gatepostref01_Is {L : FuncId → List V → V → Prop} {K : V → Heap → Prop} {a0 : V} {h : Heap} (hp : p_gatepostref01_Is L K a0 h) : Cf F L i_gatepostref01_Is [a0] h K :=
  wcallp F_gatepostref01_Is (show 1 ≤ 18 by decide) (p := p_gatepostref01_Is L K a0 h) (by kernel_rfl) hp
def k_gatepostref03_target_0 (L : FuncId → List V → V → Prop) (K : V → Heap → Prop) (v0 : V) (h : Heap) : Prop :=
    (wi F L (.len 0 (.c v0)) E0 h fun v21 h =>
    (wi F L (.bin .gtr (.c v21) (.c (.int .i64 0))) E0 h fun v22 h =>
    (∃ v, some v22 = some v ∧ K v h)))
def k_gatepostref03_target_2 (L : FuncId → List V → V → Prop) (K : V → Heap → Prop) (N0 : Env → Heap → Prop) (e : Env) (v3 : V) (h : Heap) : Prop :=
    (wi F L (.bin .add (.c v3) (.c (.int .i64 1))) E0 h fun v9 h =>
    (N0 (upd (upd (upd e 8 v3) 9 v9) 3 v9) h))
def k_gatepostref03_target_1 (L : FuncId → List V → V → Prop) (K : V → Heap → Prop) (N0 : Env → Heap → Prop) (e : Env) (v0 v3 : V) (h : Heap) : Prop :=
    (wi F L (.ixStr (.c v0) (.c v3)) E0 h fun v12 h =>
    (wi F L (.bin .lss (.c v12) (.c (.int .u8 33))) E0 h fun v13 h =>
    (wg v13 false (wi F L (.mv (.c v0)) E0 h) h fun v15 h =>
    (wg v13 false (wi F L (.mv (.c v3)) E0 h) h fun v16 h =>
    (wg v13 false (wi F L (.ixStr (.c v15) (.c v16)) E0 h) h fun v17 h =>
    (wg v13 false (wi F L (.bin .gtr (.c v17) (.c (.int .u8 126))) E0 h) h fun v18 h =>
    (wi F L (.pick (.c v13) (.c (.bool true)) (.c v18)) E0 h fun v19 h =>
    (wb v19
    (∃ v, some (.bool false) = some v ∧ K v h)
    (k_gatepostref03_target_2 L K N0 (upd (upd (upd (upd (upd (upd (upd (upd (upd (upd e 10 v0) 11 v3) 12 v12) 13 v13) 14 v13) 15 v15) 16 v16) 17 v17) 18 v18) 19 v19) v3 h)))))))))
def q_gatepostref03_target_0 (L : FuncId → List V → V → Prop) (K : V → Heap → Prop) : X → Env → Heap → Prop := (fun x => (seqX (fun e h => k_gatepostref03_target_0 L K (e 0) h) (retX c_gatepostref03_target.results K)) (X.out 0 x))
def lc_gatepostref03_target_0 : C :=
  (.seq (.seq (.region [⟨(some 4), none, .mv (.t 3)⟩, ⟨(some 5), none, .mv (.t 0)⟩, ⟨(some 6), none, .len 0 (.t 5)⟩, ⟨(some 7), none, .bin .lss (.t 4) (.t 6)⟩])
  (.cond (.t 7)
    .skip
    (.exit 0)))
  (.seq (.block 1 (.seq (.region [⟨(some 10), none, .mv (.t 0)⟩, ⟨(some 11), none, .mv (.t 3)⟩, ⟨(some 12), none, .ixStr (.t 10) (.t 11)⟩, ⟨(some 13), none, .bin .lss (.t 12) (.c (.int .u8 33))⟩, ⟨(some 14), none, .mv (.t 13)⟩, ⟨(some 15), (some (14, false)), .mv (.t 0)⟩, ⟨(some 16), (some (14, false)), .mv (.t 3)⟩, ⟨(some 17), (some (14, false)), .ixStr (.t 15) (.t 16)⟩, ⟨(some 18), (some (14, false)), .bin .gtr (.t 17) (.c (.int .u8 126))⟩, ⟨(some 19), none, .pick (.t 14) (.c (.bool true)) (.t 18)⟩])
  (.cond (.t 19)
    (.seq (.region [⟨(some 2), none, .mv (.c (.bool false))⟩])
    .ret)
    .skip)))
  (.region [⟨(some 8), none, .mv (.t 3)⟩, ⟨(some 9), none, .bin .add (.t 8) (.c (.int .i64 1))⟩, ⟨(some 3), none, .mv (.t 9)⟩])))
def b_gatepostref03_target_0 (L : FuncId → List V → V → Prop) (K : V → Heap → Prop) (N0 : Env → Heap → Prop) (e : Env) (h : Heap) : Prop :=
    (wi F L (.len 0 (.c (e 0))) E0 h fun v6 h =>
    (wi F L (.bin .lss (.c (e 3)) (.c v6)) E0 h fun v7 h =>
    (wb v7
    (k_gatepostref03_target_1 L K N0 (upd (upd (upd (upd e 4 (e 3)) 5 (e 0)) 6 v6) 7 v7) (e 0) (e 3) h)
    (k_gatepostref03_target_0 L K (e 0) h))))
theorem l_gatepostref03_target_0 {L : FuncId → List V → V → Prop} {K : V → Heap → Prop} (I : Nat → Env → Heap → Prop) (hr : ∀ n e h, I n e h → b_gatepostref03_target_0 L K (fun e' h' => ∃ m, m < n ∧ I m e' h') e h) {n : Nat} {e : Env} {h : Heap} (hi : I n e h) : Wl F L lc_gatepostref03_target_0 (q_gatepostref03_target_0 L K) e h :=
  wloopp (b := b_gatepostref03_target_0 L K) I (fun _ _ _ => by kernel_rfl) hr hi
def p_gatepostref03_target (L : FuncId → List V → V → Prop) (K : V → Heap → Prop) (a0 : V) (h : Heap) : Prop :=
    (Wl F L lc_gatepostref03_target_0 (q_gatepostref03_target_0 L K) (upd (upd (enterE [a0]) 2 (.bool false)) 3 (.int .i64 0)) h)
theorem run_gatepostref03_target {L : FuncId → List V → V → Prop} {K : V → Heap → Prop} {a0 : V} {h : Heap} (hp : p_gatepostref03_target L K a0 h) : Cf F L i_gatepostref03_target [a0] h K :=
  wcallp F_gatepostref03_target (show 1 ≤ 23 by decide) (p := p_gatepostref03_target L K a0 h) (by kernel_rfl) hp
def k_gatepostref01_Trim_1 (L : FuncId → List V → V → Prop) (K : V → Heap → Prop) (v0 : V) (h : Heap) : Prop :=
    (∃ v, some v0 = some v ∧ K v h)
def k_gatepostref01_Trim_2 (L : FuncId → List V → V → Prop) (K : V → Heap → Prop) (N0 : Env → Heap → Prop) (e : Env) (v0 : V) (h : Heap) : Prop :=
    (wi F L (.len 0 (.c v0)) E0 h fun v26 h =>
    (wi F L (.bin .sub (.c v26) (.c (.int .i64 1))) E0 h fun v27 h =>
    (wi F L (.slstr (.c v0) none (some (.c v27))) E0 h fun v28 h =>
    (N0 (upd (upd (upd (upd (upd (upd e 24 v0) 25 v0) 26 v26) 27 v27) 28 v28) 0 v28) h))))
def q_gatepostref01_Trim_0 (L : FuncId → List V → V → Prop) (K : V → Heap → Prop) : X → Env → Heap → Prop := (fun x => (seqX (fun e h => k_gatepostref01_Trim_1 L K (e 0) h) (retX c_gatepostref01_Trim.results K)) (X.out 2 x))
def lc_gatepostref01_Trim_0 : C :=
  (.seq (.seq (.region [⟨(some 13), none, .mv (.t 0)⟩, ⟨(some 14), none, .len 0 (.t 13)⟩, ⟨(some 15), none, .bin .gtr (.t 14) (.c (.int .i64 0))⟩, ⟨(some 16), none, .mv (.t 15)⟩, ⟨(some 17), (some (16, true)), .mv (.t 0)⟩, ⟨(some 18), (some (16, true)), .mv (.t 0)⟩, ⟨(some 19), (some (16, true)), .len 0 (.t 18)⟩, ⟨(some 20), (some (16, true)), .bin .sub (.t 19) (.c (.int .i64 1))⟩, ⟨(some 21), (some (16, true)), .ixStr (.t 17) (.t 20)⟩, ⟨(some 22), (some (16, true)), .call i_gatepostref01_blank [(.t 21)]⟩, ⟨(some 23), none, .pick (.t 16) (.t 22) (.c (.bool false))⟩])
  (.cond (.t 23)
    .skip
    (.exit 2)))
  (.block 3 (.region [⟨(some 24), none, .mv (.t 0)⟩, ⟨(some 25), none, .mv (.t 0)⟩, ⟨(some 26), none, .len 0 (.t 25)⟩, ⟨(some 27), none, .bin .sub (.t 26) (.c (.int .i64 1))⟩, ⟨(some 28), none, .slstr (.t 24) none (some (.t 27))⟩, ⟨(some 0), none, .mv (.t 28)⟩])))
def b_gatepostref01_Trim_0 (L : FuncId → List V → V → Prop) (K : V → Heap → Prop) (N0 : Env → Heap → Prop) (e : Env) (h : Heap) : Prop :=
    (wi F L (.len 0 (.c (e 0))) E0 h fun v14 h =>
    (wi F L (.bin .gtr (.c v14) (.c (.int .i64 0))) E0 h fun v15 h =>
    (wg v15 true (wi F L (.mv (.c (e 0))) E0 h) h fun v17 h =>
    (wg v15 true (wi F L (.mv (.c (e 0))) E0 h) h fun v18 h =>
    (wg v15 true (wi F L (.len 0 (.c v18)) E0 h) h fun v19 h =>
    (wg v15 true (wi F L (.bin .sub (.c v19) (.c (.int .i64 1))) E0 h) h fun v20 h =>
    (wg v15 true (wi F L (.ixStr (.c v17) (.c v20)) E0 h) h fun v21 h =>
    (wg v15 true (wi F L (.call i_gatepostref01_blank [(.c v21)]) E0 h) h fun v22 h =>
    (wi F L (.pick (.c v15) (.c v22) (.c (.bool false))) E0 h fun v23 h =>
    (wb v23
    (k_gatepostref01_Trim_2 L K N0 (upd (upd (upd (upd (upd (upd (upd (upd (upd (upd (upd e 13 (e 0)) 14 v14) 15 v15) 16 v15) 17 v17) 18 v18) 19 v19) 20 v20) 21 v21) 22 v22) 23 v23) (e 0) h)
    (k_gatepostref01_Trim_1 L K (e 0) h)))))))))))
theorem l_gatepostref01_Trim_0 {L : FuncId → List V → V → Prop} {K : V → Heap → Prop} (I : Nat → Env → Heap → Prop) (hr : ∀ n e h, I n e h → b_gatepostref01_Trim_0 L K (fun e' h' => ∃ m, m < n ∧ I m e' h') e h) {n : Nat} {e : Env} {h : Heap} (hi : I n e h) : Wl F L lc_gatepostref01_Trim_0 (q_gatepostref01_Trim_0 L K) e h :=
  wloopp (b := b_gatepostref01_Trim_0 L K) I (fun _ _ _ => by kernel_rfl) hr hi
def k_gatepostref01_Trim_0 (L : FuncId → List V → V → Prop) (K : V → Heap → Prop) (e : Env) (h : Heap) : Prop :=
    (Wl F L lc_gatepostref01_Trim_0 (q_gatepostref01_Trim_0 L K) e h)
def k_gatepostref01_Trim_3 (L : FuncId → List V → V → Prop) (K : V → Heap → Prop) (N0 : Env → Heap → Prop) (e : Env) (v0 : V) (h : Heap) : Prop :=
    (wi F L (.slstr (.c v0) (some (.c (.int .i64 1))) none) E0 h fun v12 h =>
    (N0 (upd (upd (upd e 11 v0) 12 v12) 0 v12) h))
def q_gatepostref01_Trim_1 (L : FuncId → List V → V → Prop) (K : V → Heap → Prop) : X → Env → Heap → Prop := (fun x => (seqX (fun e h => k_gatepostref01_Trim_0 L K e  h) (retX c_gatepostref01_Trim.results K)) (X.out 0 x))
def lc_gatepostref01_Trim_1 : C :=
  (.seq (.seq (.region [⟨(some 3), none, .mv (.t 0)⟩, ⟨(some 4), none, .len 0 (.t 3)⟩, ⟨(some 5), none, .bin .gtr (.t 4) (.c (.int .i64 0))⟩, ⟨(some 6), none, .mv (.t 5)⟩, ⟨(some 7), (some (6, true)), .mv (.t 0)⟩, ⟨(some 8), (some (6, true)), .ixStr (.t 7) (.c (.int .i64 0))⟩, ⟨(some 9), (some (6, true)), .call i_gatepostref01_blank [(.t 8)]⟩, ⟨(some 10), none, .pick (.t 6) (.t 9) (.c (.bool false))⟩])
  (.cond (.t 10)
    .skip
    (.exit 0)))
  (.block 1 (.region [⟨(some 11), none, .mv (.t 0)⟩, ⟨(some 12), none, .slstr (.t 11) (some (.c (.int .i64 1))) none⟩, ⟨(some 0), none, .mv (.t 12)⟩])))
def b_gatepostref01_Trim_1 (L : FuncId → List V → V → Prop) (K : V → Heap → Prop) (N0 : Env → Heap → Prop) (e : Env) (h : Heap) : Prop :=
    (wi F L (.len 0 (.c (e 0))) E0 h fun v4 h =>
    (wi F L (.bin .gtr (.c v4) (.c (.int .i64 0))) E0 h fun v5 h =>
    (wg v5 true (wi F L (.mv (.c (e 0))) E0 h) h fun v7 h =>
    (wg v5 true (wi F L (.ixStr (.c v7) (.c (.int .i64 0))) E0 h) h fun v8 h =>
    (wg v5 true (wi F L (.call i_gatepostref01_blank [(.c v8)]) E0 h) h fun v9 h =>
    (wi F L (.pick (.c v5) (.c v9) (.c (.bool false))) E0 h fun v10 h =>
    (wb v10
    (k_gatepostref01_Trim_3 L K N0 (upd (upd (upd (upd (upd (upd (upd (upd e 3 (e 0)) 4 v4) 5 v5) 6 v5) 7 v7) 8 v8) 9 v9) 10 v10) (e 0) h)
    (k_gatepostref01_Trim_0 L K (upd (upd (upd (upd (upd (upd (upd (upd e 3 (e 0)) 4 v4) 5 v5) 6 v5) 7 v7) 8 v8) 9 v9) 10 v10)  h))))))))
theorem l_gatepostref01_Trim_1 {L : FuncId → List V → V → Prop} {K : V → Heap → Prop} (I : Nat → Env → Heap → Prop) (hr : ∀ n e h, I n e h → b_gatepostref01_Trim_1 L K (fun e' h' => ∃ m, m < n ∧ I m e' h') e h) {n : Nat} {e : Env} {h : Heap} (hi : I n e h) : Wl F L lc_gatepostref01_Trim_1 (q_gatepostref01_Trim_1 L K) e h :=
  wloopp (b := b_gatepostref01_Trim_1 L K) I (fun _ _ _ => by kernel_rfl) hr hi
def p_gatepostref01_Trim (L : FuncId → List V → V → Prop) (K : V → Heap → Prop) (a0 : V) (h : Heap) : Prop :=
    (Wl F L lc_gatepostref01_Trim_1 (q_gatepostref01_Trim_1 L K) (upd (enterE [a0]) 2 (.str [])) h)
theorem run_gatepostref01_Trim {L : FuncId → List V → V → Prop} {K : V → Heap → Prop} {a0 : V} {h : Heap} (hp : p_gatepostref01_Trim L K a0 h) : Cf F L i_gatepostref01_Trim [a0] h K :=
  wcallp F_gatepostref01_Trim (show 1 ≤ 30 by decide) (p := p_gatepostref01_Trim L K a0 h) (by kernel_rfl) hp
def p_token_Trim (L : FuncId → List V → V → Prop) (K : V → Heap → Prop) (a0 : V) (h : Heap) : Prop :=
    (wi F L (.call i_strings_Trim [(.c a0), (.c (.str [32, 9]))]) E0 h fun v4 h =>
    (∃ v, some v4 = some v ∧ K v h))
theorem run_token_Trim {L : FuncId → List V → V → Prop} {K : V → Heap → Prop} {a0 : V} {h : Heap} (hp : p_token_Trim L K a0 h) : Cf F L i_token_Trim [a0] h K :=
  wcallp F_token_Trim (show 1 ≤ 5 by decide) (p := p_token_Trim L K a0 h) (by kernel_rfl) hp
def p_field_fine (L : FuncId → List V → V → Prop) (K : V → Heap → Prop) (a0 : V) (h : Heap) : Prop :=
    (wi F L (.box (.c a0)) E0 h fun v1 h =>
    (wi F L (.faddr 0 (.c v1)) E0 h fun v3 h =>
    (wi F L (.load false 1 (.c v3)) E0 h fun v4 h =>
    (wi F L (.call i_token_Is [(.c v4)]) E0 h fun v5 h =>
    (wg v5 true (wi F L (.faddr 1 (.c v1)) E0 h) h fun v7 h =>
    (wg v5 true (wi F L (.load false 1 (.c v7)) E0 h) h fun v8 h =>
    (wg v5 true (wi F L (.call i_token_Value [(.c v8)]) E0 h) h fun v9 h =>
    (wi F L (.pick (.c v5) (.c v9) (.c (.bool false))) E0 h fun v10 h =>
    (∃ v, some v10 = some v ∧ K v h)))))))))
theorem run_field_fine {L : FuncId → List V → V → Prop} {K : V → Heap → Prop} {a0 : V} {h : Heap} (hp : p_field_fine L K a0 h) : Cf F L i_field_fine [a0] h K :=
  wcallp F_field_fine (show 1 ≤ 11 by decide) (p := p_field_fine L K a0 h) (by kernel_rfl) hp
def k_strings_genSplit_3 (L : FuncId → List V → V → Prop) (K : V → Heap → Prop) (v0 v9 v10 : V) (h : Heap) : Prop :=
    (wi F L (.ixaSl 1 (.c v9) (.c v10)) E0 h fun v61 h =>
    (wi F L (.store 1 (.c v61) (.c v0)) E0 h fun _ h =>
    (wi F L (.bin .add (.c v10) (.c (.int .i64 1))) E0 h fun v64 h =>
    (wi F L (.slsl 1 (.c v9) none (some (.c v64)) none) E0 h fun v65 h =>
    (∃ v, some v65 = some v ∧ K v h)))))
def k_strings_genSplit_5 (L : FuncId → List V → V → Prop) (K : V → Heap → Prop) (N0 : Env → Heap → Prop) (e : Env) (v0 v1 v2 v9 v10 v11 : V) (h : Heap) : Prop :=
    (wi F L (.bin .add (.c v11) (.c v2)) E0 h fun v47 h =>
    (wi F L (.slstr (.c v0) none (some (.c v47))) E0 h fun v48 h =>
    (wi F L (.ixaSl 1 (.c v9) (.c v10)) E0 h fun v49 h =>
    (wi F L (.store 1 (.c v49) (.c v48)) E0 h fun _ h =>
    (wi F L (.len 0 (.c v1)) E0 h fun v53 h =>
    (wi F L (.bin .add (.c v11) (.c v53)) E0 h fun v54 h =>
    (wi F L (.slstr (.c v0) (some (.c v54)) none) E0 h fun v55 h =>
    (wi F L (.bin .add (.c v10) (.c (.int .i64 1))) E0 h fun v57 h =>
    (N0 (upd (upd (upd (upd (upd (upd (upd (upd (upd (upd (upd (upd (upd (upd (upd (upd (upd (upd e 42 v9) 43 v10) 44 v0) 45 v11) 46 v2) 47 v47) 48 v48) 49 v49) 50 v0) 51 v11) 52 v1) 53 v53) 54 v54) 55 v55) 0 v55) 56 v10) 57 v57) 10 v57) h)))))))))
def k_strings_genSplit_4 (L : FuncId → List V → V → Prop) (K : V → Heap → Prop) (N0 : Env → Heap → Prop) (e : Env) (v0 v1 v2 v9 v10 : V) (h : Heap) : Prop :=
    (wi F L (.call i_strings_Index [(.c v0), (.c v1)]) E0 h fun v39 h =>
    (wi F L (.bin .lss (.c v39) (.c (.int .i64 0))) E0 h fun v41 h =>
    (wb v41
    (k_strings_genSplit_3 L K v0 v9 v10 h)
    (k_strings_genSplit_5 L K N0 (upd (upd (upd (upd (upd (upd e 37 v0) 38 v1) 39 v39) 11 v39) 40 v39) 41 v41) v0 v1 v2 v9 v10 v39 h))))
def q_strings_genSplit_0 (L : FuncId → List V → V → Prop) (K : V → Heap → Prop) : X → Env → Heap → Prop := (fun x => (seqX (fun e h => k_strings_genSplit_3 L K (e 0) (e 9) (e 10) h) (retX c_strings_genSplit.results K)) (X.out 0 x))
def lc_strings_genSplit_0 : C :=
  (.seq (.seq (.region [⟨(some 34), none, .mv (.t 10)⟩, ⟨(some 35), none, .mv (.t 3)⟩, ⟨(some 36), none, .bin .lss (.t 34) (.t 35)⟩])
  (.cond (.t 36)
    .skip
    (.exit 0)))
  (.block 1 (.seq (.region [⟨(some 37), none, .mv (.t 0)⟩, ⟨(some 38), none, .mv (.t 1)⟩, ⟨(some 39), none, .call i_strings_Index [(.t 37), (.t 38)]⟩, ⟨(some 11), none, .mv (.t 39)⟩])
  (.seq (.seq (.region [⟨(some 40), none, .mv (.t 11)⟩, ⟨(some 41), none, .bin .lss (.t 40) (.c (.int .i64 0))⟩])
  (.cond (.t 41)
    (.exit 0)
    .skip))
  (.seq (.region [⟨(some 42), none, .mv (.t 9)⟩, ⟨(some 43), none, .mv (.t 10)⟩, ⟨(some 44), none, .mv (.t 0)⟩, ⟨(some 45), none, .mv (.t 11)⟩, ⟨(some 46), none, .mv (.t 2)⟩, ⟨(some 47), none, .bin .add (.t 45) (.t 46)⟩, ⟨(some 48), none, .slstr (.t 44) none (some (.t 47))⟩, ⟨(some 49), none, .ixaSl 1 (.t 42) (.t 43)⟩, ⟨none, none, .store 1 (.t 49) (.t 48)⟩])
  (.seq (.region [⟨(some 50), none, .mv (.t 0)⟩, ⟨(some 51), none, .mv (.t 11)⟩, ⟨(some 52), none, .mv (.t 1)⟩, ⟨(some 53), none, .len 0 (.t 52)⟩, ⟨(some 54), none, .bin .add (.t 51) (.t 53)⟩, ⟨(some 55), none, .slstr (.t 50) (some (.t 54)) none⟩, ⟨(some 0), none, .mv (.t 55)⟩])
  (.region [⟨(some 56), none, .mv (.t 10)⟩, ⟨(some 57), none, .bin .add (.t 56) (.c (.int .i64 1))⟩, ⟨(some 10), none, .mv (.t 57)⟩])))))))
def b_strings_genSplit_0 (L : FuncId → List V → V → Prop) (K : V → Heap → Prop) (N0 : Env → Heap → Prop) (e : Env) (h : Heap) : Prop :=
    (wi F L (.bin .lss (.c (e 10)) (.c (e 3))) E0 h fun v36 h =>
    (wb v36
    (k_strings_genSplit_4 L K N0 (upd (upd (upd e 34 (e 10)) 35 (e 3)) 36 v36) (e 0) (e 1) (e 2) (e 9) (e 10) h)
    (k_strings_genSplit_3 L K (e 0) (e 9) (e 10) h)))
theorem l_strings_genSplit_0 {L : FuncId → List V → V → Prop} {K : V → Heap → Prop} (I : Nat → Env → Heap → Prop) (hr : ∀ n e h, I n e h → b_strings_genSplit_0 L K (fun e' h' => ∃ m, m < n ∧ I m e' h') e h) {n : Nat} {e : Env} {h : Heap} (hi : I n e h) : Wl F L lc_strings_genSplit_0 (q_strings_genSplit_0 L K) e h :=
  wloopp (b := b_strings_genSplit_0 L K) I (fun _ _ _ => by kernel_rfl) hr hi
def k_strings_genSplit_2 (L : FuncId → List V → V → Prop) (K : V → Heap → Prop) (e : Env) (v0 v3 : V) (h : Heap) : Prop :=
    (wi F L (.len 0 (.c v0)) E0 h fun v27 h =>
    (wi F L (.bin .add (.c v27) (.c (.int .i64 1))) E0 h fun v28 h =>
    (wi F L (.mn [(.c v3), (.c v28)]) E0 h fun v29 h =>
    (wi F L (.mksl 1 16 [(.str [])] (.c v29) (.c v29)) E0 h fun v31 h =>
    (wi F L (.bin .sub (.c v29) (.c (.int .i64 1))) E0 h fun v33 h =>
    (Wl F L lc_strings_genSplit_0 (q_strings_genSplit_0 L K) (upd (upd (upd (upd (upd (upd (upd (upd (upd (upd (upd (upd (upd e 25 v3) 26 v0) 27 v27) 28 v28) 29 v29) 3 v29) 30 v29) 31 v31) 9 v31) 32 v29) 33 v33) 3 v33) 10 (.int .i64 0)) h))))))
def k_strings_genSplit_1 (L : FuncId → List V → V → Prop) (K : V → Heap → Prop) (e : Env) (v0 v1 v3 : V) (h : Heap) : Prop :=
    (wi F L (.bin .lss (.c v3) (.c (.int .i64 0))) E0 h fun v20 h =>
    (wb v20
    (wi F L (.call i_strings_Count [(.c v0), (.c v1)]) E0 h fun v23 h =>
    (wi F L (.bin .add (.c v23) (.c (.int .i64 1))) E0 h fun v24 h =>
    (k_strings_genSplit_2 L K (upd (upd (upd (upd (upd (upd (upd e 19 v3) 20 v20) 21 v0) 22 v1) 23 v23) 24 v24) 3 v24) v0 v24 h)))
    (k_strings_genSplit_2 L K (upd (upd e 19 v3) 20 v20) v0 v3 h)))
def k_strings_genSplit_0 (L : FuncId → List V → V → Prop) (K : V → Heap → Prop) (e : Env) (v0 v1 v3 : V) (h : Heap) : Prop :=
    (wi F L (.bin .eql (.c v1) (.c (.str []))) E0 h fun v15 h =>
    (wb v15
    (wi F L (.call i_strings_explode [(.c v0), (.c v3)]) E0 h fun v18 h =>
    (∃ v, some v18 = some v ∧ K v h))
    (k_strings_genSplit_1 L K (upd (upd e 14 v1) 15 v15) v0 v1 v3 h)))
def p_strings_genSplit (L : FuncId → List V → V → Prop) (K : V → Heap → Prop) (a0 a1 a2 a3 : V) (h : Heap) : Prop :=
    (wi F L (.bin .eql (.c a3) (.c (.int .i64 0))) E0 h fun v13 h =>
    (wb v13
    (∃ v, some .nsl = some v ∧ K v h)
    (k_strings_genSplit_0 L K (upd (upd (upd (enterE [a0, a1, a2, a3]) 8 .nsl) 12 a3) 13 v13) a0 a1 a3 h)))
theorem run_strings_genSplit {L : FuncId → List V → V → Prop} {K : V → Heap → Prop} {a0 a1 a2 a3 : V} {h : Heap} (hp : p_strings_genSplit L K a0 a1 a2 a3 h) : Cf F L i_strings_genSplit [a0, a1, a2, a3] h K :=
  wcallp F_strings_genSplit (show 4 ≤ 66 by decide) (p := p_strings_genSplit L K a0 a1 a2 a3 h) (by kernel_rfl) hp
def p_token_marks (L : FuncId → List V → V → Prop) (K : V → Heap → Prop) (h : Heap) : Prop :=
    (wi F L (.boxz [(.int .u8 0), (.int .u8 0), (.int .u8 0), (.int .u8 0), (.int .u8 0), (.int .u8 0), (.int .u8 0), (.int .u8 0), (.int .u8 0), (.int .u8 0), (.int .u8 0), (.int .u8 0), (.int .u8 0), (.int .u8 0), (.int .u8 0)]) E0 h fun v0 h =>
    (wi F L (.build [(.int .u8 0), (.int .u8 0), (.int .u8 0), (.int .u8 0), (.int .u8 0), (.int .u8 0), (.int .u8 0), (.int .u8 0), (.int .u8 0), (.int .u8 0), (.int .u8 0), (.int .u8 0), (.int .u8 0), (.int .u8 0), (.int .u8 0)] [(0, 1, (.c (.int .u8 33))), (1, 1, (.c (.int .u8 35))), (2, 1, (.c (.int .u8 36))), (3, 1, (.c (.int .u8 37))), (4, 1, (.c (.int .u8 38))), (5, 1, (.c (.int .u8 39))), (6, 1, (.c (.int .u8 42))), (7, 1, (.c (.int .u8 43))), (8, 1, (.c (.int .u8 45))), (9, 1, (.c (.int .u8 46))), (10, 1, (.c (.int .u8 94))), (11, 1, (.c (.int .u8 95))), (12, 1, (.c (.int .u8 96))), (13, 1, (.c (.int .u8 124))), (14, 1, (.c (.int .u8 126)))]) E0 h fun v1 h =>
    (wi F L (.store 15 (.c v0) (.c v1)) E0 h fun _ h =>
    (∃ v, resultsV h (enterE [v0]) [.cell 0 true 15] = some v ∧ K v h))))
theorem run_token_marks {L : FuncId → List V → V → Prop} {K : V → Heap → Prop} {h : Heap} (hp : p_token_marks L K  h) : Cf F L i_token_marks [] h K :=
  wcallp F_token_marks (show 0 ≤ 2 by decide) (p := p_token_marks L K  h) (by kernel_rfl) hp
def k_gatepostref01_tchar_1 (L : FuncId → List V → V → Prop) (K : V → Heap → Prop) (h : Heap) : Prop :=
    (∃ v, some (.bool false) = some v ∧ K v h)
def k_gatepostref01_tchar_2 (L : FuncId → List V → V → Prop) (K : V → Heap → Prop) (v26 : V) (h : Heap) : Prop :=
    (wb v26
    (∃ v, some (.bool true) = some v ∧ K v h)
    (k_gatepostref01_tchar_1 L K  h))
def k_gatepostref01_tchar_0 (L : FuncId → List V → V → Prop) (K : V → Heap → Prop) (v0 : V) (h : Heap) : Prop :=
    (wi F L (.bin .eql (.c v0) (.c (.int .u8 33))) E0 h fun v27 h =>
    (wb v27
    (k_gatepostref01_tchar_2 L K v27 h)
    (wi F L (.bin .eql (.c v0) (.c (.int .u8 35))) E0 h fun v28 h =>
    (wb v28
    (k_gatepostref01_tchar_2 L K v28 h)
    (wi F L (.bin .eql (.c v0) (.c (.int .u8 36))) E0 h fun v29 h =>
    (wb v29
    (k_gatepostref01_tchar_2 L K v29 h)
    (wi F L (.bin .eql (.c v0) (.c (.int .u8 37))) E0 h fun v30 h =>
    (wb v30
    (k_gatepostref01_tchar_2 L K v30 h)
    (wi F L (.bin .eql (.c v0) (.c (.int .u8 38))) E0 h fun v31 h =>
    (wb v31
    (k_gatepostref01_tchar_2 L K v31 h)
    (wi F L (.bin .eql (.c v0) (.c (.int .u8 39))) E0 h fun v32 h =>
    (wb v32
    (k_gatepostref01_tchar_2 L K v32 h)
    (wi F L (.bin .eql (.c v0) (.c (.int .u8 42))) E0 h fun v33 h =>
    (wb v33
    (k_gatepostref01_tchar_2 L K v33 h)
    (wi F L (.bin .eql (.c v0) (.c (.int .u8 43))) E0 h fun v34 h =>
    (wb v34
    (k_gatepostref01_tchar_2 L K v34 h)
    (wi F L (.bin .eql (.c v0) (.c (.int .u8 45))) E0 h fun v35 h =>
    (wb v35
    (k_gatepostref01_tchar_2 L K v35 h)
    (wi F L (.bin .eql (.c v0) (.c (.int .u8 46))) E0 h fun v36 h =>
    (wb v36
    (k_gatepostref01_tchar_2 L K v36 h)
    (wi F L (.bin .eql (.c v0) (.c (.int .u8 94))) E0 h fun v37 h =>
    (wb v37
    (k_gatepostref01_tchar_2 L K v37 h)
    (wi F L (.bin .eql (.c v0) (.c (.int .u8 95))) E0 h fun v38 h =>
    (wb v38
    (k_gatepostref01_tchar_2 L K v38 h)
    (wi F L (.bin .eql (.c v0) (.c (.int .u8 96))) E0 h fun v39 h =>
    (wb v39
    (k_gatepostref01_tchar_2 L K v39 h)
    (wi F L (.bin .eql (.c v0) (.c (.int .u8 124))) E0 h fun v40 h =>
    (wb v40
    (k_gatepostref01_tchar_2 L K v40 h)
    (wi F L (.bin .eql (.c v0) (.c (.int .u8 126))) E0 h fun v41 h =>
    (k_gatepostref01_tchar_2 L K v41 h))))))))))))))))))))))))))))))
def p_gatepostref01_tchar (L : FuncId → List V → V → Prop) (K : V → Heap → Prop) (a0 : V) (h : Heap) : Prop :=
    (wi F L (.bin .geq (.c a0) (.c (.int .u8 97))) E0 h fun v4 h =>
    (wg v4 true (wi F L (.mv (.c a0)) E0 h) h fun v6 h =>
    (wg v4 true (wi F L (.bin .leq (.c v6) (.c (.int .u8 122))) E0 h) h fun v7 h =>
    (wi F L (.pick (.c v4) (.c v7) (.c (.bool false))) E0 h fun v8 h =>
    (wg v8 false (wi F L (.mv (.c a0)) E0 h) h fun v10 h =>
    (wg v8 false (wi F L (.bin .geq (.c v10) (.c (.int .u8 65))) E0 h) h fun v11 h =>
    (wg v8 false (wi F L (.mv (.c v11)) E0 h) h fun v12 h =>
    (wg v12 true (wi F L (.mv (.c a0)) E0 h) h fun v13 h =>
    (wg v12 true (wi F L (.bin .leq (.c v13) (.c (.int .u8 90))) E0 h) h fun v14 h =>
    (wg v8 false (wi F L (.pick (.c v12) (.c v14) (.c (.bool false))) E0 h) h fun v15 h =>
    (wi F L (.pick (.c v8) (.c (.bool true)) (.c v15)) E0 h fun v16 h =>
    (wg v16 false (wi F L (.mv (.c a0)) E0 h) h fun v18 h =>
    (wg v16 false (wi F L (.bin .geq (.c v18) (.c (.int .u8 48))) E0 h) h fun v19 h =>
    (wg v16 false (wi F L (.mv (.c v19)) E0 h) h fun v20 h =>
    (wg v20 true (wi F L (.mv (.c a0)) E0 h) h fun v21 h =>
    (wg v20 true (wi F L (.bin .leq (.c v21) (.c (.int .u8 57))) E0 h) h fun v22 h =>
    (wg v16 false (wi F L (.pick (.c v20) (.c v22) (.c (.bool false))) E0 h) h fun v23 h =>
    (wi F L (.pick (.c v16) (.c (.bool true)) (.c v23)) E0 h fun v24 h =>
    (wb v24
    (∃ v, some (.bool true) = some v ∧ K v h)
    (k_gatepostref01_tchar_0 L K a0 h))))))))))))))))))))
theorem run_gatepostref01_tchar {L : FuncId → List V → V → Prop} {K : V → Heap → Prop} {a0 : V} {h : Heap} (hp : p_gatepostref01_tchar L K a0 h) : Cf F L i_gatepostref01_tchar [a0] h K :=
  wcallp F_gatepostref01_tchar (show 1 ≤ 42 by decide) (p := p_gatepostref01_tchar L K a0 h) (by kernel_rfl) hp
def k_strings_Trim_2 (L : FuncId → List V → V → Prop) (K : V → Heap → Prop) (v0 v1 : V) (h : Heap) : Prop :=
    (wi F L (.call i_strings_trimRightUnicode [(.c v0), (.c v1)]) E0 h fun v40 h =>
    (wi F L (.call i_strings_trimLeftUnicode [(.c v40), (.c v1)]) E0 h fun v42 h =>
    (∃ v, some v42 = some v ∧ K v h)))
def k_strings_Trim_1 (L : FuncId → List V → V → Prop) (K : V → Heap → Prop) (v0 v1 : V) (h : Heap) : Prop :=
    (wi F L (.call i_strings_makeASCIISet [(.c v1)]) E0 h fun v31 h =>
    (wi F L (.ext 0 (.c v31)) E0 h fun v32 h =>
    (wi F L (.ext 1 (.c v31)) E0 h fun v33 h =>
    (wi F L (.boxz (List.replicate 256 (.bool false))) E0 h fun v5 h =>
    (wi F L (.store 256 (.c v5) (.c v32)) E0 h fun _ h =>
    (wb v33
    (wi F L (.call i_strings_trimRightASCII [(.c v0), (.c v5)]) E0 h fun v36 h =>
    (wi F L (.call i_strings_trimLeftASCII [(.c v36), (.c v5)]) E0 h fun v37 h =>
    (∃ v, some v37 = some v ∧ K v h)))
    (k_strings_Trim_2 L K v0 v1 h)))))))
def k_strings_Trim_0 (L : FuncId → List V → V → Prop) (K : V → Heap → Prop) (v0 v1 : V) (h : Heap) : Prop :=
    (wi F L (.len 0 (.c v1)) E0 h fun v15 h =>
    (wi F L (.bin .eql (.c v15) (.c (.int .i64 1))) E0 h fun v16 h =>
    (wg v16 true (wi F L (.mv (.c v1)) E0 h) h fun v18 h =>
    (wg v16 true (wi F L (.ixStr (.c v18) (.c (.int .i64 0))) E0 h) h fun v19 h =>
    (wg v16 true (wi F L (.bin .lss (.c v19) (.c (.int .u8 128))) E0 h) h fun v20 h =>
    (wi F L (.pick (.c v16) (.c v20) (.c (.bool false))) E0 h fun v21 h =>
    (wb v21
    (wi F L (.ixStr (.c v1) (.c (.int .i64 0))) E0 h fun v24 h' => Ext h h' ∧
    (wi F L (.call i_strings_trimRightByte [(.c v0), (.c v24)]) E0 h' fun v25 h => Ext h' h ∧
    (wi F L (.ixStr (.c v1) (.c (.int .i64 0))) E0 h fun v27 h' => Ext h h' ∧
    (wi F L (.call i_strings_trimLeftByte [(.c v25), (.c v27)]) E0 h' fun v28 h =>
    (∃ v, some v28 = some v ∧ K v h)))))
    (k_strings_Trim_1 L K v0 v1 h))))))))
def p_strings_Trim (L : FuncId → List V → V → Prop) (K : V → Heap → Prop) (a0 a1 : V) (h : Heap) : Prop :=
    (wi F L (.bin .eql (.c a0) (.c (.str []))) E0 h fun v8 h =>
    (wg v8 false (wi F L (.mv (.c a1)) E0 h) h fun v10 h =>
    (wg v8 false (wi F L (.bin .eql (.c v10) (.c (.str []))) E0 h) h fun v11 h =>
    (wi F L (.pick (.c v8) (.c (.bool true)) (.c v11)) E0 h fun v12 h =>
    (wb v12
    (∃ v, some a0 = some v ∧ K v h)
    (k_strings_Trim_0 L K a0 a1 h))))))
theorem run_strings_Trim {L : FuncId → List V → V → Prop} {K : V → Heap → Prop} {a0 a1 : V} {h : Heap} (hp : p_strings_Trim L K a0 a1 h) : Cf F L i_strings_Trim [a0, a1] h K :=
  wcallp F_strings_Trim (show 2 ≤ 43 by decide) (p := p_strings_Trim L K a0 a1 h) (by kernel_rfl) hp
def p_token_Value (L : FuncId → List V → V → Prop) (K : V → Heap → Prop) (a0 : V) (h : Heap) : Prop :=
    (wi F L (.call i_token_Trim [(.c a0)]) E0 h fun v4 h =>
    (wi F L (.bin .eql (.c v4) (.c a0)) E0 h fun v6 h =>
    (wg v6 true (wi F L (.mv (.c a0)) E0 h) h fun v8 h =>
    (wg v6 true (wi F L (.call i_token_all [(.c v8), (.c (.fn i_token_Value_1 []))]) E0 h) h fun v9 h =>
    (wi F L (.pick (.c v6) (.c v9) (.c (.bool false))) E0 h fun v10 h =>
    (∃ v, some v10 = some v ∧ K v h))))))
theorem run_token_Value {L : FuncId → List V → V → Prop} {K : V → Heap → Prop} {a0 : V} {h : Heap} (hp : p_token_Value L K a0 h) : Cf F L i_token_Value [a0] h K :=
  wcallp F_token_Value (show 1 ≤ 11 by decide) (p := p_token_Value L K a0 h) (by kernel_rfl) hp
def p_strings_Index (L : FuncId → List V → V → Prop) (K : V → Heap → Prop) (a0 a1 : V) (h : Heap) : Prop :=
    (wi F L (.call i_internal_stringslite_Index [(.c a0), (.c a1)]) E0 h fun v7 h =>
    (∃ v, some v7 = some v ∧ K v h))
theorem run_strings_Index {L : FuncId → List V → V → Prop} {K : V → Heap → Prop} {a0 a1 : V} {h : Heap} (hp : p_strings_Index L K a0 a1 h) : Cf F L i_strings_Index [a0, a1] h K :=
  wcallp F_strings_Index (show 2 ≤ 8 by decide) (p := p_strings_Index L K a0 a1 h) (by kernel_rfl) hp
def k_strings_makeASCIISet_0 (L : FuncId → List V → V → Prop) (K : V → Heap → Prop) (v2 : V) (h : Heap) : Prop :=
    (wi F L (.load true 256 (.c v2)) E0 h fun v20 h =>
    (wi F L (.store 256 (.c v2) (.c v20)) E0 h fun _ h =>
    (∃ v, resultsV h (enterE [v2, (.bool true)]) [.cell 0 true 256, .tmp 1] = some v ∧ K v h)))
def k_strings_makeASCIISet_2 (L : FuncId → List V → V → Prop) (K : V → Heap → Prop) (N0 : Env → Heap → Prop) (e : Env) (v4 : V) (h : Heap) : Prop :=
    (wi F L (.bin .add (.c v4) (.c (.int .i64 1))) E0 h fun v11 h =>
    (N0 (upd (upd (upd e 10 v4) 11 v11) 4 v11) h))
def k_strings_makeASCIISet_3 (L : FuncId → List V → V → Prop) (K : V → Heap → Prop) (N0 : Env → Heap → Prop) (e : Env) (v2 v4 v5 : V) (h : Heap) : Prop :=
    (wi F L (.ixaArr 256 1 (.c v2) (.c v5)) E0 h fun v19 h =>
    (wi F L (.store 1 (.c v19) (.c (.bool true))) E0 h fun _ h =>
    (k_strings_makeASCIISet_2 L K N0 (upd (upd e 18 v5) 19 v19) v4 h)))
def k_strings_makeASCIISet_1 (L : FuncId → List V → V → Prop) (K : V → Heap → Prop) (N0 : Env → Heap → Prop) (e : Env) (v0 v2 v4 : V) (h : Heap) : Prop :=
    (wi F L (.ixStr (.c v0) (.c v4)) E0 h fun v14 h =>
    (wi F L (.bin .geq (.c v14) (.c (.int .u8 128))) E0 h fun v16 h =>
    (wb v16
    (wi F L (.load true 256 (.c v2)) E0 h fun v17 h =>
    (wi F L (.store 256 (.c v2) (.c v17)) E0 h fun _ h =>
    (∃ v, resultsV h (enterE [v2, (.bool false)]) [.cell 0 true 256, .tmp 1] = some v ∧ K v h)))
    (k_strings_makeASCIISet_3 L K N0 (upd (upd (upd (upd (upd (upd e 12 v0) 13 v4) 14 v14) 5 v14) 15 v14) 16 v16) v2 v4 v14 h))))
def q_strings_makeASCIISet_0 (L : FuncId → List V → V → Prop) (K : V → Heap → Prop) : X → Env → Heap → Prop := (fun x => (seqX (fun e h => k_strings_makeASCIISet_0 L K (e 2) h) (retX c_strings_makeASCIISet.results K)) (X.out 0 x))
def lc_strings_makeASCIISet_0 : C :=
  (.seq (.seq (.region [⟨(some 6), none, .mv (.t 4)⟩, ⟨(some 7), none, .mv (.t 0)⟩, ⟨(some 8), none, .len 0 (.t 7)⟩, ⟨(some 9), none, .bin .lss (.t 6) (.t 8)⟩])
  (.cond (.t 9)
    .skip
    (.exit 0)))
  (.seq (.block 1 (.seq (.region [⟨(some 12), none, .mv (.t 0)⟩, ⟨(some 13), none, .mv (.t 4)⟩, ⟨(some 14), none, .ixStr (.t 12) (.t 13)⟩, ⟨(some 5), none, .mv (.t 14)⟩])
  (.seq (.seq (.region [⟨(some 15), none, .mv (.t 5)⟩, ⟨(some 16), none, .bin .geq (.t 15) (.c (.int .u8 128))⟩])
  (.cond (.t 16)
    (.seq (.region [⟨(some 17), none, .load true 256 (.t 2)⟩, ⟨none, none, .store 256 (.t 2) (.t 17)⟩, ⟨(some 3), none, .mv (.c (.bool false))⟩])
    .ret)
    .skip))
  (.region [⟨(some 18), none, .mv (.t 5)⟩, ⟨(some 19), none, .ixaArr 256 1 (.t 2) (.t 18)⟩, ⟨none, none, .store 1 (.t 19) (.c (.bool true))⟩]))))
  (.region [⟨(some 10), none, .mv (.t 4)⟩, ⟨(some 11), none, .bin .add (.t 10) (.c (.int .i64 1))⟩, ⟨(some 4), none, .mv (.t 11)⟩])))
def b_strings_makeASCIISet_0 (L : FuncId → List V → V → Prop) (K : V → Heap → Prop) (N0 : Env → Heap → Prop) (e : Env) (h : Heap) : Prop :=
    (wi F L (.len 0 (.c (e 0))) E0 h fun v8 h =>
    (wi F L (.bin .lss (.c (e 4)) (.c v8)) E0 h fun v9 h =>
    (wb v9
    (k_strings_makeASCIISet_1 L K N0 (upd (upd (upd (upd e 6 (e 4)) 7 (e 0)) 8 v8) 9 v9) (e 0) (e 2) (e 4) h)
    (k_strings_makeASCIISet_0 L K (e 2) h))))
theorem l_strings_makeASCIISet_0 {L : FuncId → List V → V → Prop} {K : V → Heap → Prop} (I : Nat → Env → Heap → Prop) (hr : ∀ n e h, I n e h → b_strings_makeASCIISet_0 L K (fun e' h' => ∃ m, m < n ∧ I m e' h') e h) {n : Nat} {e : Env} {h : Heap} (hi : I n e h) : Wl F L lc_strings_makeASCIISet_0 (q_strings_makeASCIISet_0 L K) e h :=
  wloopp (b := b_strings_makeASCIISet_0 L K) I (fun _ _ _ => by kernel_rfl) hr hi
def p_strings_makeASCIISet (L : FuncId → List V → V → Prop) (K : V → Heap → Prop) (a0 : V) (h : Heap) : Prop :=
    (wi F L (.boxz (List.replicate 256 (.bool false))) E0 h fun v2 h =>
    (Wl F L lc_strings_makeASCIISet_0 (q_strings_makeASCIISet_0 L K) (upd (upd (upd (enterE [a0]) 2 v2) 3 (.bool false)) 4 (.int .i64 0)) h))
theorem run_strings_makeASCIISet {L : FuncId → List V → V → Prop} {K : V → Heap → Prop} {a0 : V} {h : Heap} (hp : p_strings_makeASCIISet L K a0 h) : Cf F L i_strings_makeASCIISet [a0] h K :=
  wcallp F_strings_makeASCIISet (show 1 ≤ 21 by decide) (p := p_strings_makeASCIISet L K a0 h) (by kernel_rfl) hp
def k_strings_trimLeftASCII_0 (L : FuncId → List V → V → Prop) (K : V → Heap → Prop) (v0 : V) (h : Heap) : Prop :=
    (∃ v, some v0 = some v ∧ K v h)
def k_strings_trimLeftASCII_2 (L : FuncId → List V → V → Prop) (K : V → Heap → Prop) (N0 : Env → Heap → Prop) (e : Env) (v0 : V) (h : Heap) : Prop :=
    (wi F L (.slstr (.c v0) (some (.c (.int .i64 1))) none) E0 h fun v14 h =>
    (N0 (upd (upd (upd e 13 v0) 14 v14) 0 v14) h))
def k_strings_trimLeftASCII_1 (L : FuncId → List V → V → Prop) (K : V → Heap → Prop) (N0 : Env → Heap → Prop) (e : Env) (v0 v1 : V) (h : Heap) : Prop :=
    (wi F L (.ixStr (.c v0) (.c (.int .i64 0))) E0 h fun v10 h =>
    (wi F L (.call i___strings_asciiSet__contains [(.c v1), (.c v10)]) E0 h fun v11 h =>
    (wi F L (.un .not (.c v11)) E0 h fun v12 h =>
    (wb v12
    (k_strings_trimLeftASCII_0 L K v0 h)
    (k_strings_trimLeftASCII_2 L K N0 (upd (upd (upd (upd (upd e 8 v1) 9 v0) 10 v10) 11 v11) 12 v12) v0 h)))))
def q_strings_trimLeftASCII_0 (L : FuncId → List V → V → Prop) (K : V → Heap → Prop) : X → Env → Heap → Prop := (fun x => (seqX (fun e h => k_strings_trimLeftASCII_0 L K (e 0) h) (retX c_strings_trimLeftASCII.results K)) (X.out 0 x))
def lc_strings_trimLeftASCII_0 : C :=
  (.seq (.seq (.region [⟨(some 5), none, .mv (.t 0)⟩, ⟨(some 6), none, .len 0 (.t 5)⟩, ⟨(some 7), none, .bin .gtr (.t 6) (.c (.int .i64 0))⟩])
  (.cond (.t 7)
    .skip
    (.exit 0)))
  (.block 1 (.seq (.seq (.region [⟨(some 8), none, .mv (.t 1)⟩, ⟨(some 9), none, .mv (.t 0)⟩, ⟨(some 10), none, .ixStr (.t 9) (.c (.int .i64 0))⟩, ⟨(some 11), none, .call i___strings_asciiSet__contains [(.t 8), (.t 10)]⟩, ⟨(some 12), none, .un .not (.t 11)⟩])
  (.cond (.t 12)
    (.exit 0)
    .skip))
  (.region [⟨(some 13), none, .mv (.t 0)⟩, ⟨(some 14), none, .slstr (.t 13) (some (.c (.int .i64 1))) none⟩, ⟨(some 0), none, .mv (.t 14)⟩]))))
def b_strings_trimLeftASCII_0 (L : FuncId → List V → V → Prop) (K : V → Heap → Prop) (N0 : Env → Heap → Prop) (e : Env) (h : Heap) : Prop :=
    (wi F L (.len 0 (.c (e 0))) E0 h fun v6 h =>
    (wi F L (.bin .gtr (.c v6) (.c (.int .i64 0))) E0 h fun v7 h =>
    (wb v7
    (k_strings_trimLeftASCII_1 L K N0 (upd (upd (upd e 5 (e 0)) 6 v6) 7 v7) (e 0) (e 1) h)
    (k_strings_trimLeftASCII_0 L K (e 0) h))))
theorem l_strings_trimLeftASCII_0 {L : FuncId → List V → V → Prop} {K : V → Heap → Prop} (I : Nat → Env → Heap → Prop) (hr : ∀ n e h, I n e h → b_strings_trimLeftASCII_0 L K (fun e' h' => ∃ m, m < n ∧ I m e' h') e h) {n : Nat} {e : Env} {h : Heap} (hi : I n e h) : Wl F L lc_strings_trimLeftASCII_0 (q_strings_trimLeftASCII_0 L K) e h :=
  wloopp (b := b_strings_trimLeftASCII_0 L K) I (fun _ _ _ => by kernel_rfl) hr hi
def p_strings_trimLeftASCII (L : FuncId → List V → V → Prop) (K : V → Heap → Prop) (a0 a1 : V) (h : Heap) : Prop :=
    (Wl F L lc_strings_trimLeftASCII_0 (q_strings_trimLeftASCII_0 L K) (upd (enterE [a0, a1]) 4 (.str [])) h)
theorem run_strings_trimLeftASCII {L : FuncId → List V → V → Prop} {K : V → Heap → Prop} {a0 a1 : V} {h : Heap} (hp : p_strings_trimLeftASCII L K a0 a1 h) : Cf F L i_strings_trimLeftASCII [a0, a1] h K :=
  wcallp F_strings_trimLeftASCII (show 2 ≤ 16 by decide) (p := p_strings_trimLeftASCII L K a0 a1 h) (by kernel_rfl) hp
def k_strings_trimRightASCII_0 (L : FuncId → List V → V → Prop) (K : V → Heap → Prop) (v0 : V) (h : Heap) : Prop :=
    (∃ v, some v0 = some v ∧ K v h)
def k_strings_trimRightASCII_2 (L : FuncId → List V → V → Prop) (K : V → Heap → Prop) (N0 : Env → Heap → Prop) (e : Env) (v0 : V) (h : Heap) : Prop :=
    (wi F L (.len 0 (.c v0)) E0 h fun v18 h =>
    (wi F L (.bin .sub (.c v18) (.c (.int .i64 1))) E0 h fun v19 h =>
    (wi F L (.slstr (.c v0) none (some (.c v19))) E0 h fun v20 h =>
    (N0 (upd (upd (upd (upd (upd (upd e 16 v0) 17 v0) 18 v18) 19 v19) 20 v20) 0 v20) h))))
def k_strings_trimRightASCII_1 (L : FuncId → List V → V → Prop) (K : V → Heap → Prop) (N0 : Env → Heap → Prop) (e : Env) (v0 v1 : V) (h : Heap) : Prop :=
    (wi F L (.len 0 (.c v0)) E0 h fun v11 h =>
    (wi F L (.bin .sub (.c v11) (.c (.int .i64 1))) E0 h fun v12 h =>
    (wi F L (.ixStr (.c v0) (.c v12)) E0 h fun v13 h =>
    (wi F L (.call i___strings_asciiSet__contains [(.c v1), (.c v13)]) E0 h fun v14 h =>
    (wi F L (.un .not (.c v14)) E0 h fun v15 h =>
    (wb v15
    (k_strings_trimRightASCII_0 L K v0 h)
    (k_strings_trimRightASCII_2 L K N0 (upd (upd (upd (upd (upd (upd (upd (upd e 8 v1) 9 v0) 10 v0) 11 v11) 12 v12) 13 v13) 14 v14) 15 v15) v0 h)))))))
def q_strings_trimRightASCII_0 (L : FuncId → List V → V → Prop) (K : V → Heap → Prop) : X → Env → Heap → Prop := (fun x => (seqX (fun e h => k_strings_trimRightASCII_0 L K (e 0) h) (retX c_strings_trimRightASCII.results K)) (X.out 0 x))
def lc_strings_trimRightASCII_0 : C :=
  (.seq (.seq (.region [⟨(some 5), none, .mv (.t 0)⟩, ⟨(some 6), none, .len 0 (.t 5)⟩, ⟨(some 7), none, .bin .gtr (.t 6) (.c (.int .i64 0))⟩])
  (.cond (.t 7)
    .skip
    (.exit 0)))
  (.block 1 (.seq (.seq (.region [⟨(some 8), none, .mv (.t 1)⟩, ⟨(some 9), none, .mv (.t 0)⟩, ⟨(some 10), none, .mv (.t 0)⟩, ⟨(some 11), none, .len 0 (.t 10)⟩, ⟨(some 12), none, .bin .sub (.t 11) (.c (.int .i64 1))⟩, ⟨(some 13), none, .ixStr (.t 9) (.t 12)⟩, ⟨(some 14), none, .call i___strings_asciiSet__contains [(.t 8), (.t 13)]⟩, ⟨(some 15), none, .un .not (.t 14)⟩])
  (.cond (.t 15)
    (.exit 0)
    .skip))
  (.region [⟨(some 16), none, .mv (.t 0)⟩, ⟨(some 17), none, .mv (.t 0)⟩, ⟨(some 18), none, .len 0 (.t 17)⟩, ⟨(some 19), none, .bin .sub (.t 18) (.c (.int .i64 1))⟩, ⟨(some 20), none, .slstr (.t 16) none (some (.t 19))⟩, ⟨(some 0), none, .mv (.t 20)⟩]))))
def b_strings_trimRightASCII_0 (L : FuncId → List V → V → Prop) (K : V → Heap → Prop) (N0 : Env → Heap → Prop) (e : Env) (h : Heap) : Prop :=
    (wi F L (.len 0 (.c (e 0))) E0 h fun v6 h =>
    (wi F L (.bin .gtr (.c v6) (.c (.int .i64 0))) E0 h fun v7 h =>
    (wb v7
    (k_strings_trimRightASCII_1 L K N0 (upd (upd (upd e 5 (e 0)) 6 v6) 7 v7) (e 0) (e 1) h)
    (k_strings_trimRightASCII_0 L K (e 0) h))))
theorem l_strings_trimRightASCII_0 {L : FuncId → List V → V → Prop} {K : V → Heap → Prop} (I : Nat → Env → Heap → Prop) (hr : ∀ n e h, I n e h → b_strings_trimRightASCII_0 L K (fun e' h' => ∃ m, m < n ∧ I m e' h') e h) {n : Nat} {e : Env} {h : Heap} (hi : I n e h) : Wl F L lc_strings_trimRightASCII_0 (q_strings_trimRightASCII_0 L K) e h :=
  wloopp (b := b_strings_trimRightASCII_0 L K) I (fun _ _ _ => by kernel_rfl) hr hi
def p_strings_trimRightASCII (L : FuncId → List V → V → Prop) (K : V → Heap → Prop) (a0 a1 : V) (h : Heap) : Prop :=
    (Wl F L lc_strings_trimRightASCII_0 (q_strings_trimRightASCII_0 L K) (upd (enterE [a0, a1]) 4 (.str [])) h)
theorem run_strings_trimRightASCII {L : FuncId → List V → V → Prop} {K : V → Heap → Prop} {a0 a1 : V} {h : Heap} (hp : p_strings_trimRightASCII L K a0 a1 h) : Cf F L i_strings_trimRightASCII [a0, a1] h K :=
  wcallp F_strings_trimRightASCII (show 2 ≤ 22 by decide) (p := p_strings_trimRightASCII L K a0 a1 h) (by kernel_rfl) hp
def p_token_Value_1 (L : FuncId → List V → V → Prop) (K : V → Heap → Prop) (a0 : V) (h : Heap) : Prop :=
    (wi F L (.call i_token_isBlank [(.c a0)]) E0 h fun v4 h =>
    (wg v4 false (wi F L (.mv (.c a0)) E0 h) h fun v6 h =>
    (wg v4 false (wi F L (.bin .gtr (.c v6) (.c (.int .u8 32))) E0 h) h fun v7 h =>
    (wg v4 false (wi F L (.mv (.c v7)) E0 h) h fun v8 h =>
    (wg v8 true (wi F L (.mv (.c a0)) E0 h) h fun v9 h =>
    (wg v8 true (wi F L (.bin .neq (.c v9) (.c (.int .u8 127))) E0 h) h fun v10 h =>
    (wg v4 false (wi F L (.pick (.c v8) (.c v10) (.c (.bool false))) E0 h) h fun v11 h =>
    (wi F L (.pick (.c v4) (.c (.bool true)) (.c v11)) E0 h fun v12 h =>
    (∃ v, some v12 = some v ∧ K v h)))))))))
theorem run_token_Value_1 {L : FuncId → List V → V → Prop} {K : V → Heap → Prop} {a0 : V} {h : Heap} (hp : p_token_Value_1 L K a0 h) : Cf F L i_token_Value_1 [a0] h K :=
  wcallp F_token_Value_1 (show 1 ≤ 13 by decide) (p := p_token_Value_1 L K a0 h) (by kernel_rfl) hp
def p_token_isBlank (L : FuncId → List V → V → Prop) (K : V → Heap → Prop) (a0 : V) (h : Heap) : Prop :=
    (wi F L (.bin .eql (.c a0) (.c (.int .u8 32))) E0 h fun v4 h =>
    (wg v4 false (wi F L (.mv (.c a0)) E0 h) h fun v6 h =>
    (wg v4 false (wi F L (.bin .eql (.c v6) (.c (.int .u8 9))) E0 h) h fun v7 h =>
    (wi F L (.pick (.c v4) (.c (.bool true)) (.c v7)) E0 h fun v8 h =>
    (∃ v, some v8 = some v ∧ K v h)))))
theorem run_token_isBlank {L : FuncId → List V → V → Prop} {K : V → Heap → Prop} {a0 : V} {h : Heap} (hp : p_token_isBlank L K a0 h) : Cf F L i_token_isBlank [a0] h K :=
  wcallp F_token_isBlank (show 1 ≤ 9 by decide) (p := p_token_isBlank L K a0 h) (by kernel_rfl) hp
def p___strings_asciiSet__contains (L : FuncId → List V → V → Prop) (K : V → Heap → Prop) (a0 a1 : V) (h : Heap) : Prop :=
    (wi F L (.nilck (.c a0)) E0 h fun v7 h =>
    (wi F L (.ixaArr 256 1 (.c v7) (.c a1)) E0 h fun v8 h =>
    (wi F L (.load false 1 (.c v8)) E0 h fun v9 h =>
    (∃ v, some v9 = some v ∧ K v h))))
theorem run___strings_asciiSet__contains {L : FuncId → List V → V → Prop} {K : V → Heap → Prop} {a0 a1 : V} {h : Heap} (hp : p___strings_asciiSet__contains L K a0 a1 h) : Cf F L i___strings_asciiSet__contains [a0, a1] h K :=
  wcallp F___strings_asciiSet__contains (show 2 ≤ 10 by decide) (p := p___strings_asciiSet__contains L K a0 a1 h) (by kernel_rfl) hp
theorem hF : ∀ f fn, F f = some fn → compF Tryd.prog f = some fn := lookup_all ⟨kc_gatepostlaw05_HeadNobody, kc_gatepostlaw05_HeadMany, kc_gatepostlaw05_HeadFields, kc_gatepostlaw05_HeadReads, kc_gatepostlaw05_HeadCuts, kc___gatepost_head_Reader__Feed, kc___gatepost_head_Reader__Request, kc___gatepost_head_Reader__Response, kc_head_New, kc_gatepostref01_Value, kc_gatepostlaw05_names, kc_gatepostlaw05_piece, kc___gatepost_gatepostref05_Reader__Feed, kc___gatepost_gatepostref05_Reader__Request, kc___gatepost_gatepostref05_Reader__Response, kc_gatepostref05_SameRequest, kc_gatepostref05_SameResponse, kc___gatepost_head_Reader__none, kc___gatepost_head_Reader__take, kc___gatepost_head_Reader__whole, kc_head_New_1, kc_line_Request, kc_head_New_2, kc_line_Status, kc_gatepostref01_blank, kc___gatepost_gatepostref05_Reader__ended, kc_gatepostref04_Same, kc_head_cut, kc___gatepost_head_Reader__ended, kc_line_words, kc_token_Is, kc_line_isTarget, kc_line_version, kc_line_Status_1, kc_strings_Cut, kc_token_Number, kc_line_isReason, kc_gatepostref03_Status, kc_gatepostref03_Request, kc_gatepostref04_Parse, kc_field_Parse, kc_strings_Split, kc_token_all, kc_token_inToken, kc_internal_stringslite_Cut, kc_token_Number_1, kc_gatepostref03_version, kc_gatepostref01_Number, kc_gatepostref03_reason, kc_gatepostref01_Is, kc_gatepostref03_target, kc_gatepostref01_Trim, kc_token_Trim, kc_field_fine, kc_strings_genSplit, kc_token_marks, kc_gatepostref01_tchar, kc_strings_Trim, kc_token_Value, kc_strings_Index, kc_strings_makeASCIISet, kc_strings_trimLeftASCII, kc_strings_trimRightASCII, kc_token_Value_1, kc_token_isBlank, kc___strings_asciiSet__contains, trivial⟩
theorem hm : Tryd.prog.follows .mixedOrders = true := by kernel_rfl
end Go.Proofs.YtnfcjeajbjcppaaDoor.Vh
end
