/- The functions of a seat, compiled for the small machine. Printed by Print.lean. -/
import Derived.Test.YtnfcjeajbjcppaaDoorPk3
import Derived.KernelRfl
section
set_option maxRecDepth 100000
set_option linter.unusedVariables false
namespace Go.Proofs.YtnfcjeajbjcppaaDoor.Vh
open Go.Vm
theorem kc_gatepostlaw05_HeadNobody : compF Tryd.prog i_gatepostlaw05_HeadNobody = some c_gatepostlaw05_HeadNobody := by kernel_rfl
theorem kc_gatepostlaw05_HeadMany : compF Tryd.prog i_gatepostlaw05_HeadMany = some c_gatepostlaw05_HeadMany := by kernel_rfl
theorem F_gatepostlaw05_HeadFields : F i_gatepostlaw05_HeadFields = some c_gatepostlaw05_HeadFields := rfl
theorem kc_gatepostlaw05_HeadFields : compF Tryd.prog i_gatepostlaw05_HeadFields = some c_gatepostlaw05_HeadFields := by kernel_rfl
theorem kc_gatepostlaw05_HeadReads : compF Tryd.prog i_gatepostlaw05_HeadReads = some c_gatepostlaw05_HeadReads := by kernel_rfl
theorem kc_gatepostlaw05_HeadCuts : compF Tryd.prog i_gatepostlaw05_HeadCuts = some c_gatepostlaw05_HeadCuts := by kernel_rfl
theorem F___gatepost_head_Reader__Feed : F i___gatepost_head_Reader__Feed = some c___gatepost_head_Reader__Feed := rfl
theorem kc___gatepost_head_Reader__Feed : compF Tryd.prog i___gatepost_head_Reader__Feed = some c___gatepost_head_Reader__Feed := by kernel_rfl
theorem F___gatepost_head_Reader__Request : F i___gatepost_head_Reader__Request = some c___gatepost_head_Reader__Request := rfl
theorem kc___gatepost_head_Reader__Request : compF Tryd.prog i___gatepost_head_Reader__Request = some c___gatepost_head_Reader__Request := by kernel_rfl
theorem kc___gatepost_head_Reader__Response : compF Tryd.prog i___gatepost_head_Reader__Response = some c___gatepost_head_Reader__Response := by kernel_rfl
theorem F_head_New : F i_head_New = some c_head_New := rfl
theorem kc_head_New : compF Tryd.prog i_head_New = some c_head_New := by kernel_rfl
theorem F_gatepostref01_Value : F i_gatepostref01_Value = some c_gatepostref01_Value := rfl
theorem kc_gatepostref01_Value : compF Tryd.prog i_gatepostref01_Value = some c_gatepostref01_Value := by kernel_rfl
theorem kc_gatepostlaw05_names : compF Tryd.prog i_gatepostlaw05_names = some c_gatepostlaw05_names := by kernel_rfl
theorem kc_gatepostlaw05_piece : compF Tryd.prog i_gatepostlaw05_piece = some c_gatepostlaw05_piece := by kernel_rfl
theorem kc___gatepost_gatepostref05_Reader__Feed : compF Tryd.prog i___gatepost_gatepostref05_Reader__Feed = some c___gatepost_gatepostref05_Reader__Feed := by kernel_rfl
theorem kc___gatepost_gatepostref05_Reader__Request : compF Tryd.prog i___gatepost_gatepostref05_Reader__Request = some c___gatepost_gatepostref05_Reader__Request := by kernel_rfl
theorem kc___gatepost_gatepostref05_Reader__Response : compF Tryd.prog i___gatepost_gatepostref05_Reader__Response = some c___gatepost_gatepostref05_Reader__Response := by kernel_rfl
theorem kc_gatepostref05_SameRequest : compF Tryd.prog i_gatepostref05_SameRequest = some c_gatepostref05_SameRequest := by kernel_rfl
theorem kc_gatepostref05_SameResponse : compF Tryd.prog i_gatepostref05_SameResponse = some c_gatepostref05_SameResponse := by kernel_rfl
theorem F___gatepost_head_Reader__none : F i___gatepost_head_Reader__none = some c___gatepost_head_Reader__none := rfl
theorem kc___gatepost_head_Reader__none : compF Tryd.prog i___gatepost_head_Reader__none = some c___gatepost_head_Reader__none := by kernel_rfl
theorem F___gatepost_head_Reader__take : F i___gatepost_head_Reader__take = some c___gatepost_head_Reader__take := rfl
theorem kc___gatepost_head_Reader__take : compF Tryd.prog i___gatepost_head_Reader__take = some c___gatepost_head_Reader__take := by kernel_rfl
theorem F___gatepost_head_Reader__whole : F i___gatepost_head_Reader__whole = some c___gatepost_head_Reader__whole := rfl
theorem kc___gatepost_head_Reader__whole : compF Tryd.prog i___gatepost_head_Reader__whole = some c___gatepost_head_Reader__whole := by kernel_rfl
theorem F_head_New_1 : F i_head_New_1 = some c_head_New_1 := rfl
theorem kc_head_New_1 : compF Tryd.prog i_head_New_1 = some c_head_New_1 := by kernel_rfl
theorem F_line_Request : F i_line_Request = some c_line_Request := rfl
theorem kc_line_Request : compF Tryd.prog i_line_Request = some c_line_Request := by kernel_rfl
theorem F_head_New_2 : F i_head_New_2 = some c_head_New_2 := rfl
theorem kc_head_New_2 : compF Tryd.prog i_head_New_2 = some c_head_New_2 := by kernel_rfl
theorem F_line_Status : F i_line_Status = some c_line_Status := rfl
theorem kc_line_Status : compF Tryd.prog i_line_Status = some c_line_Status := by kernel_rfl
theorem F_gatepostref01_blank : F i_gatepostref01_blank = some c_gatepostref01_blank := rfl
theorem kc_gatepostref01_blank : compF Tryd.prog i_gatepostref01_blank = some c_gatepostref01_blank := by kernel_rfl
theorem kc___gatepost_gatepostref05_Reader__ended : compF Tryd.prog i___gatepost_gatepostref05_Reader__ended = some c___gatepost_gatepostref05_Reader__ended := by kernel_rfl
theorem kc_gatepostref04_Same : compF Tryd.prog i_gatepostref04_Same = some c_gatepostref04_Same := by kernel_rfl
theorem F_head_cut : F i_head_cut = some c_head_cut := rfl
theorem kc_head_cut : compF Tryd.prog i_head_cut = some c_head_cut := by kernel_rfl
theorem F___gatepost_head_Reader__ended : F i___gatepost_head_Reader__ended = some c___gatepost_head_Reader__ended := rfl
theorem kc___gatepost_head_Reader__ended : compF Tryd.prog i___gatepost_head_Reader__ended = some c___gatepost_head_Reader__ended := by kernel_rfl
theorem F_line_words : F i_line_words = some c_line_words := rfl
theorem kc_line_words : compF Tryd.prog i_line_words = some c_line_words := by kernel_rfl
theorem F_token_Is : F i_token_Is = some c_token_Is := rfl
theorem kc_token_Is : compF Tryd.prog i_token_Is = some c_token_Is := by kernel_rfl
theorem F_line_isTarget : F i_line_isTarget = some c_line_isTarget := rfl
theorem kc_line_isTarget : compF Tryd.prog i_line_isTarget = some c_line_isTarget := by kernel_rfl
theorem F_line_version : F i_line_version = some c_line_version := rfl
theorem kc_line_version : compF Tryd.prog i_line_version = some c_line_version := by kernel_rfl
theorem F_line_Status_1 : F i_line_Status_1 = some c_line_Status_1 := rfl
theorem kc_line_Status_1 : compF Tryd.prog i_line_Status_1 = some c_line_Status_1 := by kernel_rfl
theorem F_strings_Cut : F i_strings_Cut = some c_strings_Cut := rfl
theorem kc_strings_Cut : compF Tryd.prog i_strings_Cut = some c_strings_Cut := by kernel_rfl
theorem F_token_Number : F i_token_Number = some c_token_Number := rfl
theorem kc_token_Number : compF Tryd.prog i_token_Number = some c_token_Number := by kernel_rfl
theorem F_line_isReason : F i_line_isReason = some c_line_isReason := rfl
theorem kc_line_isReason : compF Tryd.prog i_line_isReason = some c_line_isReason := by kernel_rfl
theorem kc_gatepostref03_Status : compF Tryd.prog i_gatepostref03_Status = some c_gatepostref03_Status := by kernel_rfl
theorem kc_gatepostref03_Request : compF Tryd.prog i_gatepostref03_Request = some c_gatepostref03_Request := by kernel_rfl
theorem kc_gatepostref04_Parse : compF Tryd.prog i_gatepostref04_Parse = some c_gatepostref04_Parse := by kernel_rfl
theorem F_field_Parse : F i_field_Parse = some c_field_Parse := rfl
theorem kc_field_Parse : compF Tryd.prog i_field_Parse = some c_field_Parse := by kernel_rfl
theorem F_strings_Split : F i_strings_Split = some c_strings_Split := rfl
theorem kc_strings_Split : compF Tryd.prog i_strings_Split = some c_strings_Split := by kernel_rfl
theorem F_token_all : F i_token_all = some c_token_all := rfl
theorem kc_token_all : compF Tryd.prog i_token_all = some c_token_all := by kernel_rfl
theorem F_token_inToken : F i_token_inToken = some c_token_inToken := rfl
theorem kc_token_inToken : compF Tryd.prog i_token_inToken = some c_token_inToken := by kernel_rfl
theorem F_internal_stringslite_Cut : F i_internal_stringslite_Cut = some c_internal_stringslite_Cut := rfl
theorem kc_internal_stringslite_Cut : compF Tryd.prog i_internal_stringslite_Cut = some c_internal_stringslite_Cut := by kernel_rfl
theorem F_token_Number_1 : F i_token_Number_1 = some c_token_Number_1 := rfl
theorem kc_token_Number_1 : compF Tryd.prog i_token_Number_1 = some c_token_Number_1 := by kernel_rfl
theorem kc_gatepostref03_version : compF Tryd.prog i_gatepostref03_version = some c_gatepostref03_version := by kernel_rfl
theorem kc_gatepostref01_Number : compF Tryd.prog i_gatepostref01_Number = some c_gatepostref01_Number := by kernel_rfl
theorem kc_gatepostref03_reason : compF Tryd.prog i_gatepostref03_reason = some c_gatepostref03_reason := by kernel_rfl
theorem kc_gatepostref01_Is : compF Tryd.prog i_gatepostref01_Is = some c_gatepostref01_Is := by kernel_rfl
theorem kc_gatepostref03_target : compF Tryd.prog i_gatepostref03_target = some c_gatepostref03_target := by kernel_rfl
theorem kc_gatepostref01_Trim : compF Tryd.prog i_gatepostref01_Trim = some c_gatepostref01_Trim := by kernel_rfl
theorem F_token_Trim : F i_token_Trim = some c_token_Trim := rfl
theorem kc_token_Trim : compF Tryd.prog i_token_Trim = some c_token_Trim := by kernel_rfl
theorem F_field_fine : F i_field_fine = some c_field_fine := rfl
theorem kc_field_fine : compF Tryd.prog i_field_fine = some c_field_fine := by kernel_rfl
theorem F_strings_genSplit : F i_strings_genSplit = some c_strings_genSplit := rfl
theorem kc_strings_genSplit : compF Tryd.prog i_strings_genSplit = some c_strings_genSplit := by kernel_rfl
theorem F_token_marks : F i_token_marks = some c_token_marks := rfl
theorem kc_token_marks : compF Tryd.prog i_token_marks = some c_token_marks := by kernel_rfl
theorem kc_gatepostref01_tchar : compF Tryd.prog i_gatepostref01_tchar = some c_gatepostref01_tchar := by kernel_rfl
theorem F_strings_Trim : F i_strings_Trim = some c_strings_Trim := rfl
theorem kc_strings_Trim : compF Tryd.prog i_strings_Trim = some c_strings_Trim := by kernel_rfl
theorem F_token_Value : F i_token_Value = some c_token_Value := rfl
theorem kc_token_Value : compF Tryd.prog i_token_Value = some c_token_Value := by kernel_rfl
theorem F_strings_Index : F i_strings_Index = some c_strings_Index := rfl
theorem kc_strings_Index : compF Tryd.prog i_strings_Index = some c_strings_Index := by kernel_rfl
theorem F_strings_makeASCIISet : F i_strings_makeASCIISet = some c_strings_makeASCIISet := rfl
theorem kc_strings_makeASCIISet : compF Tryd.prog i_strings_makeASCIISet = some c_strings_makeASCIISet := by kernel_rfl
theorem F_strings_trimLeftASCII : F i_strings_trimLeftASCII = some c_strings_trimLeftASCII := rfl
theorem kc_strings_trimLeftASCII : compF Tryd.prog i_strings_trimLeftASCII = some c_strings_trimLeftASCII := by kernel_rfl
theorem F_strings_trimRightASCII : F i_strings_trimRightASCII = some c_strings_trimRightASCII := rfl
theorem kc_strings_trimRightASCII : compF Tryd.prog i_strings_trimRightASCII = some c_strings_trimRightASCII := by kernel_rfl
theorem F_token_Value_1 : F i_token_Value_1 = some c_token_Value_1 := rfl
theorem kc_token_Value_1 : compF Tryd.prog i_token_Value_1 = some c_token_Value_1 := by kernel_rfl
theorem F_token_isBlank : F i_token_isBlank = some c_token_isBlank := rfl
theorem kc_token_isBlank : compF Tryd.prog i_token_isBlank = some c_token_isBlank := by kernel_rfl
theorem F___strings_asciiSet__contains : F i___strings_asciiSet__contains = some c___strings_asciiSet__contains := rfl
theorem kc___strings_asciiSet__contains : compF Tryd.prog i___strings_asciiSet__contains = some c___strings_asciiSet__contains := by kernel_rfl
def k_gatepostlaw05_HeadFields_3 (L : FuncId → List V → V → Prop) (K : V → Heap → Prop) (h : Heap) : Prop :=
    (∃ v, some (.bool true) = some v ∧ K v h)
def k_gatepostlaw05_HeadFields_5 (L : FuncId → List V → V → Prop) (K : V → Heap → Prop) (N0 : Env → Heap → Prop) (e : Env) (v16 : V) (h : Heap) : Prop :=
    (wi F L (.bin .add (.c v16) (.c (.int .i64 1))) E0 h fun v126 h =>
    (N0 (upd (upd (upd e 125 v16) 126 v126) 16 v126) h))
def k_gatepostlaw05_HeadFields_4 (L : FuncId → List V → V → Prop) (K : V → Heap → Prop) (N0 : Env → Heap → Prop) (e : Env) (v7 v14 v16 : V) (h : Heap) : Prop :=
    (wi F L (.faddr 3 (.c v14)) E0 h fun v127 h' => Ext h h' ∧
    (wi F L (.load false 1 (.c v127)) E0 h' fun v128 h => Ext h' h ∧
    (wi F L (.ixaSl 2 (.c v128) (.c v16)) E0 h fun v130 h' => Ext h h' ∧
    (wi F L (.faddr 1 (.c v130)) E0 h' fun v131 h => Ext h' h ∧
    (wi F L (.load false 1 (.c v131)) E0 h fun v132 h' => Ext h h' ∧
    (wi F L (.ixaSl 1 (.c v7) (.c v16)) E0 h' fun v135 h => Ext h' h ∧
    (wi F L (.load false 1 (.c v135)) E0 h fun v136 h' => Ext h h' ∧
    (wi F L (.bin .neq (.c v132) (.c v136)) E0 h' fun v137 h =>
    (wb v137
    (∃ v, some (.bool false) = some v ∧ K v h)
    (k_gatepostlaw05_HeadFields_5 L K N0 (upd (upd (upd (upd (upd (upd (upd (upd (upd (upd (upd e 127 v127) 128 v128) 129 v16) 130 v130) 131 v131) 132 v132) 133 v7) 134 v16) 135 v135) 136 v136) 137 v137) v16 h))))))))))
def q_gatepostlaw05_HeadFields_0 (L : FuncId → List V → V → Prop) (K : V → Heap → Prop) : X → Env → Heap → Prop := (fun x => (seqX (fun e h => k_gatepostlaw05_HeadFields_3 L K  h) (retX c_gatepostlaw05_HeadFields.results K)) (X.out 2 x))
def lc_gatepostlaw05_HeadFields_0 : C :=
  (.seq (.seq (.region [⟨(some 121), none, .mv (.t 16)⟩, ⟨(some 122), none, .mv (.t 7)⟩, ⟨(some 123), none, .len 1 (.t 122)⟩, ⟨(some 124), none, .bin .lss (.t 121) (.t 123)⟩])
  (.cond (.t 124)
    .skip
    (.exit 2)))
  (.seq (.block 3 (.seq (.dregion [⟨(some 127), none, .faddr 3 (.t 14)⟩, ⟨(some 128), none, .load false 1 (.t 127)⟩, ⟨(some 129), none, .mv (.t 16)⟩, ⟨(some 130), none, .ixaSl 2 (.t 128) (.t 129)⟩, ⟨(some 131), none, .faddr 1 (.t 130)⟩, ⟨(some 132), none, .load false 1 (.t 131)⟩, ⟨(some 133), none, .mv (.t 7)⟩, ⟨(some 134), none, .mv (.t 16)⟩, ⟨(some 135), none, .ixaSl 1 (.t 133) (.t 134)⟩, ⟨(some 136), none, .load false 1 (.t 135)⟩] [⟨(some 137), none, .bin .neq (.t 132) (.t 136)⟩])
  (.cond (.t 137)
    (.seq (.region [⟨(some 4), none, .mv (.c (.bool false))⟩])
    .ret)
    .skip)))
  (.region [⟨(some 125), none, .mv (.t 16)⟩, ⟨(some 126), none, .bin .add (.t 125) (.c (.int .i64 1))⟩, ⟨(some 16), none, .mv (.t 126)⟩])))
def b_gatepostlaw05_HeadFields_0 (L : FuncId → List V → V → Prop) (K : V → Heap → Prop) (N0 : Env → Heap → Prop) (e : Env) (h : Heap) : Prop :=
    (wi F L (.len 1 (.c (e 7))) E0 h fun v123 h =>
    (wi F L (.bin .lss (.c (e 16)) (.c v123)) E0 h fun v124 h =>
    (wb v124
    (k_gatepostlaw05_HeadFields_4 L K N0 (upd (upd (upd (upd e 121 (e 16)) 122 (e 7)) 123 v123) 124 v124) (e 7) (e 14) (e 16) h)
    (k_gatepostlaw05_HeadFields_3 L K  h))))
theorem l_gatepostlaw05_HeadFields_0 {L : FuncId → List V → V → Prop} {K : V → Heap → Prop} (I : Nat → Env → Heap → Prop) (hr : ∀ n e h, I n e h → b_gatepostlaw05_HeadFields_0 L K (fun e' h' => ∃ m, m < n ∧ I m e' h') e h) {n : Nat} {e : Env} {h : Heap} (hi : I n e h) : Wl F L lc_gatepostlaw05_HeadFields_0 (q_gatepostlaw05_HeadFields_0 L K) e h :=
  wloopp (b := b_gatepostlaw05_HeadFields_0 L K) I (fun _ _ _ => by kernel_rfl) hr hi
def k_gatepostlaw05_HeadFields_2 (L : FuncId → List V → V → Prop) (K : V → Heap → Prop) (e : Env) (h : Heap) : Prop :=
    (Wl F L lc_gatepostlaw05_HeadFields_0 (q_gatepostlaw05_HeadFields_0 L K) (upd e 16 (.int .i64 0)) h)
def k_gatepostlaw05_HeadFields_6 (L : FuncId → List V → V → Prop) (K : V → Heap → Prop) (e : Env) (v5 v6 v7 v62 v67 v68 v69 v70 v71 v72 v73 v76 : V) (h : Heap) : Prop :=
    (wi F L (.ext 0 (.c v76)) E0 h fun v77 h =>
    (wi F L (.ext 1 (.c v76)) E0 h fun v78 h =>
    (wi F L (.boxz [(.str []), (.str []), (.int .i64 0), .nsl]) E0 h fun v14 h =>
    (wi F L (.store 4 (.c v14) (.c v77)) E0 h fun _ h =>
    (wi F L (.len 0 (.c v6)) E0 h fun v81 h =>
    (wi F L (.len 0 (.c v5)) E0 h fun v83 h =>
    (wi F L (.bin .add (.c v81) (.c v83)) E0 h fun v84 h =>
    (wi F L (.bin .neq (.c v71) (.c v84)) E0 h fun v85 h =>
    (wg v85 false (wi F L (.mv (.c v72)) E0 h) h fun v87 h =>
    (wg v85 false (wi F L (.un .not (.c v87)) E0 h) h fun v88 h =>
    (wi F L (.pick (.c v85) (.c (.bool true)) (.c v88)) E0 h fun v89 h =>
    (wg v89 false (wi F L (.mv (.c v73)) E0 h) h fun v91 h =>
    (wg v89 false (wi F L (.bin .neq (.c v91) (.c (.int .i64 0))) E0 h) h fun v92 h =>
    (wi F L (.pick (.c v89) (.c (.bool true)) (.c v92)) E0 h fun v93 h =>
    (wg v93 false (wi F L (.mv (.c v78)) E0 h) h fun v95 h =>
    (wg v93 false (wi F L (.bin .neq (.c v95) (.c (.int .i64 0))) E0 h) h fun v96 h =>
    (wi F L (.pick (.c v93) (.c (.bool true)) (.c v96)) E0 h fun v97 h =>
    (wg v97 false (wi F L (.faddr 0 (.c v14)) E0 h) h fun v99 h =>
    (wg v97 false (wi F L (.load false 1 (.c v99)) E0 h) h fun v100 h =>
    (wg v97 false (wi F L (.bin .neq (.c v100) (.c (.str [80, 85, 84]))) E0 h) h fun v101 h =>
    (wi F L (.pick (.c v97) (.c (.bool true)) (.c v101)) E0 h fun v102 h =>
    (wg v102 false (wi F L (.faddr 1 (.c v14)) E0 h) h fun v104 h =>
    (wg v102 false (wi F L (.load false 1 (.c v104)) E0 h) h fun v105 h =>
    (wg v102 false (wi F L (.bin .neq (.c v105) (.c (.str [47, 120]))) E0 h) h fun v106 h =>
    (wi F L (.pick (.c v102) (.c (.bool true)) (.c v106)) E0 h fun v107 h =>
    (wg v107 false (wi F L (.faddr 2 (.c v14)) E0 h) h fun v109 h =>
    (wg v107 false (wi F L (.load false 1 (.c v109)) E0 h) h fun v110 h =>
    (wg v107 false (wi F L (.bin .neq (.c v110) (.c (.int .i64 0))) E0 h) h fun v111 h =>
    (wi F L (.pick (.c v107) (.c (.bool true)) (.c v111)) E0 h fun v112 h =>
    (wg v112 false (wi F L (.faddr 3 (.c v14)) E0 h) h fun v114 h =>
    (wg v112 false (wi F L (.load false 1 (.c v114)) E0 h) h fun v115 h =>
    (wg v112 false (wi F L (.len 1 (.c v115)) E0 h) h fun v116 h =>
    (wg v112 false (wi F L (.mv (.c v7)) E0 h) h fun v117 h =>
    (wg v112 false (wi F L (.len 1 (.c v117)) E0 h) h fun v118 h =>
    (wg v112 false (wi F L (.bin .neq (.c v116) (.c v118)) E0 h) h fun v119 h =>
    (wi F L (.pick (.c v112) (.c (.bool true)) (.c v119)) E0 h fun v120 h =>
    (wb v120
    (∃ v, some (.bool false) = some v ∧ K v h)
    (k_gatepostlaw05_HeadFields_2 L K (upd (upd (upd (upd (upd (upd (upd (upd (upd (upd (upd (upd (upd (upd (upd (upd (upd (upd (upd (upd (upd (upd (upd (upd (upd (upd (upd (upd (upd (upd (upd (upd (upd (upd (upd (upd (upd (upd (upd (upd (upd (upd (upd (upd (upd (upd (upd (upd (upd (upd (upd (upd (upd (upd (upd (upd (upd (upd (upd (upd (upd (upd (upd (upd (upd e 62 v62) 10 v62) 64 v62) 65 v6) 66 v5) 67 v67) 68 v68) 69 v69) 70 v70) 63 v70) 71 v71) 72 v72) 73 v73) 11 v71) 12 v72) 13 v73) 75 v62) 76 v76) 74 v76) 77 v77) 78 v78) 14 v14) 15 v78) 79 v71) 80 v6) 81 v81) 82 v5) 83 v83) 84 v84) 85 v85) 86 v85) 87 v87) 88 v88) 89 v89) 90 v89) 91 v91) 92 v92) 93 v93) 94 v93) 95 v95) 96 v96) 97 v97) 98 v97) 99 v99) 100 v100) 101 v101) 102 v102) 103 v102) 104 v104) 105 v105) 106 v106) 107 v107) 108 v107) 109 v109) 110 v110) 111 v111) 112 v112) 113 v112) 114 v114) 115 v115) 116 v116) 117 v117) 118 v118) 119 v119) 120 v120)  h))))))))))))))))))))))))))))))))))))))
def k_gatepostlaw05_HeadFields_7 (L : FuncId → List V → V → Prop) (K : V → Heap → Prop) (e : Env) (v5 v6 v7 v62 : V) (h : Heap) : Prop :=
    (wi F L (.bin .add (.c v6) (.c v5)) E0 h fun v67 h =>
    (wi F L (.bin .add (.c v67) (.c (.str [120]))) E0 h fun v68 h =>
    (wi F L (.toBytes (.c v68)) E0 h fun v69 h =>
    (wi F L (.call i___gatepost_head_Reader__Feed [(.c v62), (.c v69)]) E0 h fun v70 h =>
    (wi F L (.ext 0 (.c v70)) E0 h fun v71 h =>
    (wi F L (.ext 1 (.c v70)) E0 h fun v72 h =>
    (wi F L (.ext 2 (.c v70)) E0 h fun v73 h =>
    (wi F L (.call i___gatepost_head_Reader__Request [(.c v62)]) E0 h fun v76 h =>
    (k_gatepostlaw05_HeadFields_6 L K e v5 v6 v7 v62 v67 v68 v69 v70 v71 v72 v73 v76 h)))))))))
def k_gatepostlaw05_HeadFields_1 (L : FuncId → List V → V → Prop) (K : V → Heap → Prop) (e : Env) (v5 v6 v7 : V) (h : Heap) : Prop :=
    (wi F L (.call i_head_New [(.c (.bool false))]) E0 h fun v62 h =>
    (k_gatepostlaw05_HeadFields_7 L K e v5 v6 v7 v62 h))
def k_gatepostlaw05_HeadFields_9 (L : FuncId → List V → V → Prop) (K : V → Heap → Prop) (N0 : Env → Heap → Prop) (e : Env) (v8 : V) (h : Heap) : Prop :=
    (wi F L (.bin .add (.c v8) (.c (.int .i64 1))) E0 h fun v31 h =>
    (N0 (upd (upd (upd e 30 v8) 31 v31) 8 v31) h))
def k_gatepostlaw05_HeadFields_10 (L : FuncId → List V → V → Prop) (K : V → Heap → Prop) (N0 : Env → Heap → Prop) (e : Env) (v5 v6 v7 v8 v9 : V) (h : Heap) : Prop :=
    (wi F L (.bsl 1 [(.c v9)]) E0 h fun v46 h =>
    (wi F L (.app 1 16 false (.c v7) (.c v46)) E0 h fun v47 h =>
    (wi F L (.bin .add (.c v6) (.c (.str [78]))) E0 h fun v49 h =>
    (wi F L (.bin .add (.c (.int .i64 97)) (.c v8)) E0 h fun v51 h =>
    (wi F L (.toInt .u8 (.c v51)) E0 h fun v52 h =>
    (wi F L (.bsl 1 [(.c v52)]) E0 h fun v53 h =>
    (wi F L (.toStr (.c v53)) E0 h fun v54 h =>
    (wi F L (.bin .add (.c v49) (.c v54)) E0 h fun v55 h =>
    (wi F L (.bin .add (.c v55) (.c (.str [58, 9]))) E0 h fun v56 h =>
    (wi F L (.bin .add (.c v56) (.c v9)) E0 h fun v58 h =>
    (wi F L (.bin .add (.c v58) (.c (.str [32]))) E0 h fun v59 h =>
    (wi F L (.bin .add (.c v59) (.c v5)) E0 h fun v61 h =>
    (k_gatepostlaw05_HeadFields_9 L K N0 (upd (upd (upd (upd (upd (upd (upd (upd (upd (upd (upd (upd (upd (upd (upd (upd (upd (upd (upd (upd e 44 v7) 45 v9) 46 v46) 47 v47) 7 v47) 48 v6) 49 v49) 50 v8) 51 v51) 52 v52) 53 v53) 54 v54) 55 v55) 56 v56) 57 v9) 58 v58) 59 v59) 60 v5) 61 v61) 6 v61) v8 h)))))))))))))
def k_gatepostlaw05_HeadFields_11 (L : FuncId → List V → V → Prop) (K : V → Heap → Prop) (N0 : Env → Heap → Prop) (e : Env) (v0 v5 v6 v7 v8 v34 v35 v37 v38 v40 v41 : V) (h : Heap) : Prop :=
    (wg v38 false (wi F L (.un .not (.c v41)) E0 h) h fun v42 h =>
    (wi F L (.pick (.c v38) (.c (.bool true)) (.c v42)) E0 h fun v43 h =>
    (wb v43
    (k_gatepostlaw05_HeadFields_9 L K N0 (upd (upd (upd (upd (upd (upd (upd (upd (upd (upd (upd (upd (upd e 32 v0) 33 v8) 34 v34) 35 v35) 9 v35) 36 v35) 37 v37) 38 v38) 39 v38) 40 v40) 41 v41) 42 v42) 43 v43) v8 h)
    (k_gatepostlaw05_HeadFields_10 L K N0 (upd (upd (upd (upd (upd (upd (upd (upd (upd (upd (upd (upd (upd e 32 v0) 33 v8) 34 v34) 35 v35) 9 v35) 36 v35) 37 v37) 38 v38) 39 v38) 40 v40) 41 v41) 42 v42) 43 v43) v5 v6 v7 v8 v35 h))))
def k_gatepostlaw05_HeadFields_8 (L : FuncId → List V → V → Prop) (K : V → Heap → Prop) (N0 : Env → Heap → Prop) (e : Env) (v0 v5 v6 v7 v8 : V) (h : Heap) : Prop :=
    (wi F L (.ixaSl 1 (.c v0) (.c v8)) E0 h fun v34 h =>
    (wi F L (.load false 1 (.c v34)) E0 h fun v35 h =>
    (wi F L (.len 0 (.c v35)) E0 h fun v37 h =>
    (wi F L (.bin .gtr (.c v37) (.c (.int .i64 100))) E0 h fun v38 h =>
    (wg v38 false (wi F L (.mv (.c v35)) E0 h) h fun v40 h =>
    (wg v38 false (wi F L (.call i_gatepostref01_Value [(.c v40)]) E0 h) h fun v41 h =>
    (k_gatepostlaw05_HeadFields_11 L K N0 e v0 v5 v6 v7 v8 v34 v35 v37 v38 v40 v41 h)))))))
def q_gatepostlaw05_HeadFields_1 (L : FuncId → List V → V → Prop) (K : V → Heap → Prop) : X → Env → Heap → Prop := (fun x => (seqX (fun e h => k_gatepostlaw05_HeadFields_1 L K e (e 5) (e 6) (e 7) h) (retX c_gatepostlaw05_HeadFields.results K)) (X.out 0 x))
def lc_gatepostlaw05_HeadFields_1 : C :=
  (.seq (.seq (.region [⟨(some 22), none, .mv (.t 8)⟩, ⟨(some 23), none, .mv (.t 0)⟩, ⟨(some 24), none, .len 1 (.t 23)⟩, ⟨(some 25), none, .bin .lss (.t 22) (.t 24)⟩, ⟨(some 26), none, .mv (.t 25)⟩, ⟨(some 27), (some (26, true)), .mv (.t 8)⟩, ⟨(some 28), (some (26, true)), .bin .lss (.t 27) (.c (.int .i64 20))⟩, ⟨(some 29), none, .pick (.t 26) (.t 28) (.c (.bool false))⟩])
  (.cond (.t 29)
    .skip
    (.exit 0)))
  (.seq (.block 1 (.seq (.region [⟨(some 32), none, .mv (.t 0)⟩, ⟨(some 33), none, .mv (.t 8)⟩, ⟨(some 34), none, .ixaSl 1 (.t 32) (.t 33)⟩, ⟨(some 35), none, .load false 1 (.t 34)⟩, ⟨(some 9), none, .mv (.t 35)⟩])
  (.seq (.seq (.region [⟨(some 36), none, .mv (.t 9)⟩, ⟨(some 37), none, .len 0 (.t 36)⟩, ⟨(some 38), none, .bin .gtr (.t 37) (.c (.int .i64 100))⟩, ⟨(some 39), none, .mv (.t 38)⟩, ⟨(some 40), (some (39, false)), .mv (.t 9)⟩, ⟨(some 41), (some (39, false)), .call i_gatepostref01_Value [(.t 40)]⟩, ⟨(some 42), (some (39, false)), .un .not (.t 41)⟩, ⟨(some 43), none, .pick (.t 39) (.c (.bool true)) (.t 42)⟩])
  (.cond (.t 43)
    (.exit 1)
    .skip))
  (.seq (.region [⟨(some 44), none, .mv (.t 7)⟩, ⟨(some 45), none, .mv (.t 9)⟩, ⟨(some 46), none, .bsl 1 [(.t 45)]⟩, ⟨(some 47), none, .app 1 16 false (.t 44) (.t 46)⟩, ⟨(some 7), none, .mv (.t 47)⟩])
  (.region [⟨(some 48), none, .mv (.t 6)⟩, ⟨(some 49), none, .bin .add (.t 48) (.c (.str [78]))⟩, ⟨(some 50), none, .mv (.t 8)⟩, ⟨(some 51), none, .bin .add (.c (.int .i64 97)) (.t 50)⟩, ⟨(some 52), none, .toInt .u8 (.t 51)⟩, ⟨(some 53), none, .bsl 1 [(.t 52)]⟩, ⟨(some 54), none, .toStr (.t 53)⟩, ⟨(some 55), none, .bin .add (.t 49) (.t 54)⟩, ⟨(some 56), none, .bin .add (.t 55) (.c (.str [58, 9]))⟩, ⟨(some 57), none, .mv (.t 9)⟩, ⟨(some 58), none, .bin .add (.t 56) (.t 57)⟩, ⟨(some 59), none, .bin .add (.t 58) (.c (.str [32]))⟩, ⟨(some 60), none, .mv (.t 5)⟩, ⟨(some 61), none, .bin .add (.t 59) (.t 60)⟩, ⟨(some 6), none, .mv (.t 61)⟩])))))
  (.region [⟨(some 30), none, .mv (.t 8)⟩, ⟨(some 31), none, .bin .add (.t 30) (.c (.int .i64 1))⟩, ⟨(some 8), none, .mv (.t 31)⟩])))
def b_gatepostlaw05_HeadFields_1 (L : FuncId → List V → V → Prop) (K : V → Heap → Prop) (N0 : Env → Heap → Prop) (e : Env) (h : Heap) : Prop :=
    (wi F L (.len 1 (.c (e 0))) E0 h fun v24 h =>
    (wi F L (.bin .lss (.c (e 8)) (.c v24)) E0 h fun v25 h =>
    (wg v25 true (wi F L (.mv (.c (e 8))) E0 h) h fun v27 h =>
    (wg v25 true (wi F L (.bin .lss (.c v27) (.c (.int .i64 20))) E0 h) h fun v28 h =>
    (wi F L (.pick (.c v25) (.c v28) (.c (.bool false))) E0 h fun v29 h =>
    (wb v29
    (k_gatepostlaw05_HeadFields_8 L K N0 (upd (upd (upd (upd (upd (upd (upd (upd e 22 (e 8)) 23 (e 0)) 24 v24) 25 v25) 26 v25) 27 v27) 28 v28) 29 v29) (e 0) (e 5) (e 6) (e 7) (e 8) h)
    (k_gatepostlaw05_HeadFields_1 L K (upd (upd (upd (upd (upd (upd (upd (upd e 22 (e 8)) 23 (e 0)) 24 v24) 25 v25) 26 v25) 27 v27) 28 v28) 29 v29) (e 5) (e 6) (e 7) h)))))))
theorem l_gatepostlaw05_HeadFields_1 {L : FuncId → List V → V → Prop} {K : V → Heap → Prop} (I : Nat → Env → Heap → Prop) (hr : ∀ n e h, I n e h → b_gatepostlaw05_HeadFields_1 L K (fun e' h' => ∃ m, m < n ∧ I m e' h') e h) {n : Nat} {e : Env} {h : Heap} (hi : I n e h) : Wl F L lc_gatepostlaw05_HeadFields_1 (q_gatepostlaw05_HeadFields_1 L K) e h :=
  wloopp (b := b_gatepostlaw05_HeadFields_1 L K) I (fun _ _ _ => by kernel_rfl) hr hi
def k_gatepostlaw05_HeadFields_0 (L : FuncId → List V → V → Prop) (K : V → Heap → Prop) (e : Env) (v5 : V) (h : Heap) : Prop :=
    (wi F L (.bin .add (.c v5) (.c (.str [80, 85, 84, 32, 47, 120, 32, 72, 84, 84, 80, 47, 49, 46, 48]))) E0 h fun v19 h =>
    (wi F L (.bin .add (.c v19) (.c v5)) E0 h fun v21 h =>
    (Wl F L lc_gatepostlaw05_HeadFields_1 (q_gatepostlaw05_HeadFields_1 L K) (upd (upd (upd (upd (upd (upd (upd e 18 v5) 19 v19) 20 v5) 21 v21) 6 v21) 7 .nsl) 8 (.int .i64 0)) h)))
def p_gatepostlaw05_HeadFields (L : FuncId → List V → V → Prop) (K : V → Heap → Prop) (a0 a1 : V) (h : Heap) : Prop :=
    (wb a1
    (k_gatepostlaw05_HeadFields_0 L K (upd (upd (upd (upd (enterE [a0, a1]) 4 (.bool false)) 5 (.str [10])) 17 a1) 5 (.str [13, 10])) (.str [13, 10]) h)
    (k_gatepostlaw05_HeadFields_0 L K (upd (upd (upd (enterE [a0, a1]) 4 (.bool false)) 5 (.str [10])) 17 a1) (.str [10]) h))
theorem run_gatepostlaw05_HeadFields {L : FuncId → List V → V → Prop} {K : V → Heap → Prop} {a0 a1 : V} {h : Heap} (hp : p_gatepostlaw05_HeadFields L K a0 a1 h) : Cf F L i_gatepostlaw05_HeadFields [a0, a1] h K :=
  wcallp F_gatepostlaw05_HeadFields (show 2 ≤ 138 by decide) (p := p_gatepostlaw05_HeadFields L K a0 a1 h) (by kernel_rfl) hp
def k___gatepost_head_Reader__Feed_1 (L : FuncId → List V → V → Prop) (K : V → Heap → Prop) (v0 v4 : V) (h : Heap) : Prop :=
    (wi F L (.nilck (.c v0)) E0 h fun v40 h' => Ext h h' ∧
    (wi F L (.faddr 3 (.c v40)) E0 h' fun v41 h => Ext h' h ∧
    (wi F L (.load false 1 (.c v41)) E0 h fun v42 h' => Ext h h' ∧
    (wi F L (.nilck (.c v0)) E0 h' fun v44 h => Ext h' h ∧
    (wi F L (.faddr 4 (.c v44)) E0 h fun v45 h' => Ext h h' ∧
    (wi F L (.load false 1 (.c v45)) E0 h' fun v46 h => Ext h' h ∧
    (∃ v, resultsV h (enterE [v4, v42, v46]) [.tmp 0, .tmp 1, .tmp 2] = some v ∧ K v h)))))))
def k___gatepost_head_Reader__Feed_2 (L : FuncId → List V → V → Prop) (K : V → Heap → Prop) (N0 : Env → Heap → Prop) (e : Env) (v0 v1 v4 : V) (h : Heap) : Prop :=
    (wi F L (.ixaSl 1 (.c v1) (.c v4)) E0 h fun v31 h =>
    (wi F L (.load false 1 (.c v31)) E0 h fun v32 h =>
    (wi F L (.call i___gatepost_head_Reader__take [(.c v0), (.c v32)]) E0 h fun v33 h =>
    (wi F L (.nilck (.c v0)) E0 h fun v34 h =>
    (wi F L (.faddr 4 (.c v34)) E0 h fun v35 h =>
    (wi F L (.store 1 (.c v35) (.c v33)) E0 h fun _ h =>
    (wi F L (.bin .add (.c v4) (.c (.int .i64 1))) E0 h fun v37 h =>
    (N0 (upd (upd (upd (upd (upd (upd (upd (upd (upd (upd (upd (upd e 27 v0) 28 v0) 29 v1) 30 v4) 31 v31) 32 v32) 33 v33) 34 v34) 35 v35) 36 v4) 37 v37) 4 v37) h))))))))
def q___gatepost_head_Reader__Feed_0 (L : FuncId → List V → V → Prop) (K : V → Heap → Prop) : X → Env → Heap → Prop := (fun x => (seqX (fun e h => k___gatepost_head_Reader__Feed_1 L K (e 0) (e 4) h) (retX c___gatepost_head_Reader__Feed.results K)) (X.out 0 x))
def lc___gatepost_head_Reader__Feed_0 : C :=
  (.seq (.seq (.region [⟨(some 9), none, .mv (.t 4)⟩, ⟨(some 10), none, .mv (.t 1)⟩, ⟨(some 11), none, .len 1 (.t 10)⟩, ⟨(some 12), none, .bin .lss (.t 9) (.t 11)⟩, ⟨(some 13), none, .mv (.t 12)⟩, ⟨(some 14), (some (13, true)), .mv (.t 0)⟩, ⟨(some 15), (some (13, true)), .nilck (.t 14)⟩, ⟨(some 16), (some (13, true)), .faddr 4 (.t 15)⟩, ⟨(some 17), (some (13, true)), .load false 1 (.t 16)⟩, ⟨(some 18), (some (13, true)), .bin .eql (.t 17) (.c (.int .i64 0))⟩, ⟨(some 19), none, .pick (.t 13) (.t 18) (.c (.bool false))⟩, ⟨(some 20), none, .mv (.t 19)⟩, ⟨(some 21), (some (20, true)), .mv (.t 0)⟩, ⟨(some 22), (some (20, true)), .nilck (.t 21)⟩, ⟨(some 23), (some (20, true)), .faddr 3 (.t 22)⟩, ⟨(some 24), (some (20, true)), .load false 1 (.t 23)⟩, ⟨(some 25), (some (20, true)), .un .not (.t 24)⟩, ⟨(some 26), none, .pick (.t 20) (.t 25) (.c (.bool false))⟩])
  (.cond (.t 26)
    .skip
    (.exit 0)))
  (.block 1 (.seq (.region [⟨(some 27), none, .mv (.t 0)⟩, ⟨(some 28), none, .mv (.t 0)⟩, ⟨(some 29), none, .mv (.t 1)⟩, ⟨(some 30), none, .mv (.t 4)⟩, ⟨(some 31), none, .ixaSl 1 (.t 29) (.t 30)⟩, ⟨(some 32), none, .load false 1 (.t 31)⟩, ⟨(some 33), none, .call i___gatepost_head_Reader__take [(.t 28), (.t 32)]⟩, ⟨(some 34), none, .nilck (.t 27)⟩, ⟨(some 35), none, .faddr 4 (.t 34)⟩, ⟨none, none, .store 1 (.t 35) (.t 33)⟩])
  (.region [⟨(some 36), none, .mv (.t 4)⟩, ⟨(some 37), none, .bin .add (.t 36) (.c (.int .i64 1))⟩, ⟨(some 4), none, .mv (.t 37)⟩]))))
def b___gatepost_head_Reader__Feed_0 (L : FuncId → List V → V → Prop) (K : V → Heap → Prop) (N0 : Env → Heap → Prop) (e : Env) (h : Heap) : Prop :=
    (wi F L (.len 1 (.c (e 1))) E0 h fun v11 h =>
    (wi F L (.bin .lss (.c (e 4)) (.c v11)) E0 h fun v12 h =>
    (wg v12 true (wi F L (.mv (.c (e 0))) E0 h) h fun v14 h =>
    (wg v12 true (wi F L (.nilck (.c v14)) E0 h) h fun v15 h =>
    (wg v12 true (wi F L (.faddr 4 (.c v15)) E0 h) h fun v16 h =>
    (wg v12 true (wi F L (.load false 1 (.c v16)) E0 h) h fun v17 h =>
    (wg v12 true (wi F L (.bin .eql (.c v17) (.c (.int .i64 0))) E0 h) h fun v18 h =>
    (wi F L (.pick (.c v12) (.c v18) (.c (.bool false))) E0 h fun v19 h =>
    (wg v19 true (wi F L (.mv (.c (e 0))) E0 h) h fun v21 h =>
    (wg v19 true (wi F L (.nilck (.c v21)) E0 h) h fun v22 h =>
    (wg v19 true (wi F L (.faddr 3 (.c v22)) E0 h) h fun v23 h =>
    (wg v19 true (wi F L (.load false 1 (.c v23)) E0 h) h fun v24 h =>
    (wg v19 true (wi F L (.un .not (.c v24)) E0 h) h fun v25 h =>
    (wi F L (.pick (.c v19) (.c v25) (.c (.bool false))) E0 h fun v26 h =>
    (wb v26
    (k___gatepost_head_Reader__Feed_2 L K N0 (upd (upd (upd (upd (upd (upd (upd (upd (upd (upd (upd (upd (upd (upd (upd (upd (upd (upd e 9 (e 4)) 10 (e 1)) 11 v11) 12 v12) 13 v12) 14 v14) 15 v15) 16 v16) 17 v17) 18 v18) 19 v19) 20 v19) 21 v21) 22 v22) 23 v23) 24 v24) 25 v25) 26 v26) (e 0) (e 1) (e 4) h)
    (k___gatepost_head_Reader__Feed_1 L K (e 0) (e 4) h))))))))))))))))
theorem l___gatepost_head_Reader__Feed_0 {L : FuncId → List V → V → Prop} {K : V → Heap → Prop} (I : Nat → Env → Heap → Prop) (hr : ∀ n e h, I n e h → b___gatepost_head_Reader__Feed_0 L K (fun e' h' => ∃ m, m < n ∧ I m e' h') e h) {n : Nat} {e : Env} {h : Heap} (hi : I n e h) : Wl F L lc___gatepost_head_Reader__Feed_0 (q___gatepost_head_Reader__Feed_0 L K) e h :=
  wloopp (b := b___gatepost_head_Reader__Feed_0 L K) I (fun _ _ _ => by kernel_rfl) hr hi
def k___gatepost_head_Reader__Feed_0 (L : FuncId → List V → V → Prop) (K : V → Heap → Prop) (e : Env) (h : Heap) : Prop :=
    (Wl F L lc___gatepost_head_Reader__Feed_0 (q___gatepost_head_Reader__Feed_0 L K) e h)
def p___gatepost_head_Reader__Feed (L : FuncId → List V → V → Prop) (K : V → Heap → Prop) (a0 a1 : V) (h : Heap) : Prop :=
    (wi F L (.call i___gatepost_head_Reader__none [(.c a0)]) E0 h fun v8 h =>
    (wb v8
    (∃ v, resultsV h (enterE [(.int .i64 0), (.bool false), (.int .i64 1)]) [.tmp 0, .tmp 1, .tmp 2] = some v ∧ K v h)
    (k___gatepost_head_Reader__Feed_0 L K (upd (upd (upd (upd (upd (enterE [a0, a1]) 4 (.int .i64 0)) 5 (.bool false)) 6 (.int .i64 0)) 7 a0) 8 v8)  h)))
theorem run___gatepost_head_Reader__Feed {L : FuncId → List V → V → Prop} {K : V → Heap → Prop} {a0 a1 : V} {h : Heap} (hp : p___gatepost_head_Reader__Feed L K a0 a1 h) : Cf F L i___gatepost_head_Reader__Feed [a0, a1] h K :=
  wcallp F___gatepost_head_Reader__Feed (show 2 ≤ 47 by decide) (p := p___gatepost_head_Reader__Feed L K a0 a1 h) (by kernel_rfl) hp
def k___gatepost_head_Reader__Request_0 (L : FuncId → List V → V → Prop) (K : V → Heap → Prop) (v0 v2 v4 : V) (h : Heap) : Prop :=
    (wi F L (.nilck (.c v0)) E0 h fun v17 h =>
    (wi F L (.faddr 7 (.c v17)) E0 h fun v18 h =>
    (wi F L (.load true 4 (.c v18)) E0 h fun v19 h =>
    (wi F L (.boxz [(.str []), (.str []), (.int .i64 0), .nsl]) E0 h fun v6 h =>
    (wi F L (.store 4 (.c v6) (.c v19)) E0 h fun _ h =>
    (wi F L (.faddr 3 (.c v6)) E0 h fun v21 h =>
    (wi F L (.store 1 (.c v21) (.c v4)) E0 h fun _ h =>
    (wi F L (.load true 4 (.c v6)) E0 h fun v22 h =>
    (wi F L (.store 4 (.c v2) (.c v22)) E0 h fun _ h =>
    (∃ v, resultsV h (enterE [v2, (.int .i64 0)]) [.cell 0 true 4, .tmp 1] = some v ∧ K v h))))))))))
def p___gatepost_head_Reader__Request (L : FuncId → List V → V → Prop) (K : V → Heap → Prop) (a0 : V) (h : Heap) : Prop :=
    (wi F L (.boxz [(.str []), (.str []), (.int .i64 0), .nsl]) E0 h fun v2 h =>
    (wi F L (.call i___gatepost_head_Reader__whole [(.c a0), (.c (.bool false))]) E0 h fun v9 h =>
    (wi F L (.ext 0 (.c v9)) E0 h fun v10 h =>
    (wi F L (.ext 1 (.c v9)) E0 h fun v11 h =>
    (wi F L (.bin .neq (.c v11) (.c (.int .i64 0))) E0 h fun v13 h =>
    (wb v13
    (wi F L (.build [(.str []), (.str []), (.int .i64 0), .nsl] []) E0 h fun v14 h =>
    (wi F L (.store 4 (.c v2) (.c v14)) E0 h fun _ h =>
    (∃ v, resultsV h (enterE [v2, v11]) [.cell 0 true 4, .tmp 1] = some v ∧ K v h)))
    (k___gatepost_head_Reader__Request_0 L K a0 v2 v10 h)))))))
theorem run___gatepost_head_Reader__Request {L : FuncId → List V → V → Prop} {K : V → Heap → Prop} {a0 : V} {h : Heap} (hp : p___gatepost_head_Reader__Request L K a0 h) : Cf F L i___gatepost_head_Reader__Request [a0] h K :=
  wcallp F___gatepost_head_Reader__Request (show 1 ≤ 23 by decide) (p := p___gatepost_head_Reader__Request L K a0 h) (by kernel_rfl) hp
def k_head_New_0 (L : FuncId → List V → V → Prop) (K : V → Heap → Prop) (v3 : V) (h : Heap) : Prop :=
    (wi F L (.load false 1 (.c v3)) E0 h fun v16 h =>
    (∃ v, some v16 = some v ∧ K v h))
def p_head_New (L : FuncId → List V → V → Prop) (K : V → Heap → Prop) (a0 : V) (h : Heap) : Prop :=
    (wi F L (.build [.nfn, (.bool false), (.bool false), (.bool false), (.int .i64 0), (.int .i64 0), .nsl, (.str []), (.str []), (.int .i64 0), .nsl, (.int .i64 0), (.int .i64 0), (.str []), .nsl, .nsl] [(1, 1, (.c a0))]) E0 h fun v5 h =>
    (wi F L (.box (.c v5)) E0 h fun v6 h =>
    (wi F L (.boxz [.nilp]) E0 h fun v3 h =>
    (wi F L (.store 1 (.c v3) (.c v6)) E0 h fun _ h =>
    (wi F L (.load false 1 (.c v3)) E0 h fun v7 h =>
    (wi F L (.mkfn i_head_New_1 [(.c v3)]) E0 h fun v8 h =>
    (wi F L (.nilck (.c v7)) E0 h fun v9 h =>
    (wi F L (.faddr 0 (.c v9)) E0 h fun v10 h =>
    (wi F L (.store 1 (.c v10) (.c v8)) E0 h fun _ h =>
    (wb a0
    (wi F L (.load false 1 (.c v3)) E0 h fun v12 h =>
    (wi F L (.mkfn i_head_New_2 [(.c v3)]) E0 h fun v13 h =>
    (wi F L (.nilck (.c v12)) E0 h fun v14 h =>
    (wi F L (.faddr 0 (.c v14)) E0 h fun v15 h =>
    (wi F L (.store 1 (.c v15) (.c v13)) E0 h fun _ h =>
    (k_head_New_0 L K v3 h))))))
    (k_head_New_0 L K v3 h)))))))))))
theorem run_head_New {L : FuncId → List V → V → Prop} {K : V → Heap → Prop} {a0 : V} {h : Heap} (hp : p_head_New L K a0 h) : Cf F L i_head_New [a0] h K :=
  wcallp F_head_New (show 1 ≤ 17 by decide) (p := p_head_New L K a0 h) (by kernel_rfl) hp
def k_gatepostref01_Value_0 (L : FuncId → List V → V → Prop) (K : V → Heap → Prop) (v0 : V) (h : Heap) : Prop :=
    (wi F L (.bin .eql (.c v0) (.c (.str []))) E0 h fun v26 h =>
    (wg v26 false (wi F L (.mv (.c v0)) E0 h) h fun v28 h =>
    (wg v26 false (wi F L (.ixStr (.c v28) (.c (.int .i64 0))) E0 h) h fun v29 h =>
    (wg v26 false (wi F L (.call i_gatepostref01_blank [(.c v29)]) E0 h) h fun v30 h =>
    (wg v26 false (wi F L (.un .not (.c v30)) E0 h) h fun v31 h =>
    (wg v26 false (wi F L (.mv (.c v31)) E0 h) h fun v32 h =>
    (wg v32 true (wi F L (.mv (.c v0)) E0 h) h fun v33 h =>
    (wg v32 true (wi F L (.mv (.c v0)) E0 h) h fun v34 h =>
    (wg v32 true (wi F L (.len 0 (.c v34)) E0 h) h fun v35 h =>
    (wg v32 true (wi F L (.bin .sub (.c v35) (.c (.int .i64 1))) E0 h) h fun v36 h =>
    (wg v32 true (wi F L (.ixStr (.c v33) (.c v36)) E0 h) h fun v37 h =>
    (wg v32 true (wi F L (.call i_gatepostref01_blank [(.c v37)]) E0 h) h fun v38 h =>
    (wg v32 true (wi F L (.un .not (.c v38)) E0 h) h fun v39 h =>
    (wg v26 false (wi F L (.pick (.c v32) (.c v39) (.c (.bool false))) E0 h) h fun v40 h =>
    (wi F L (.pick (.c v26) (.c (.bool true)) (.c v40)) E0 h fun v41 h =>
    (∃ v, some v41 = some v ∧ K v h))))))))))))))))
def k_gatepostref01_Value_2 (L : FuncId → List V → V → Prop) (K : V → Heap → Prop) (N0 : Env → Heap → Prop) (e : Env) (v3 : V) (h : Heap) : Prop :=
    (wi F L (.bin .add (.c v3) (.c (.int .i64 1))) E0 h fun v10 h =>
    (N0 (upd (upd (upd e 9 v3) 10 v10) 3 v10) h))
def k_gatepostref01_Value_1 (L : FuncId → List V → V → Prop) (K : V → Heap → Prop) (N0 : Env → Heap → Prop) (e : Env) (v0 v3 : V) (h : Heap) : Prop :=
    (wi F L (.ixStr (.c v0) (.c v3)) E0 h fun v13 h =>
    (wi F L (.call i_gatepostref01_blank [(.c v13)]) E0 h fun v15 h =>
    (wi F L (.un .not (.c v15)) E0 h fun v16 h =>
    (wg v16 true (wi F L (.mv (.c v13)) E0 h) h fun v18 h =>
    (wg v16 true (wi F L (.bin .lss (.c v18) (.c (.int .u8 33))) E0 h) h fun v19 h =>
    (wg v16 true (wi F L (.mv (.c v19)) E0 h) h fun v20 h =>
    (wg v20 false (wi F L (.mv (.c v13)) E0 h) h fun v21 h =>
    (wg v20 false (wi F L (.bin .eql (.c v21) (.c (.int .u8 127))) E0 h) h fun v22 h =>
    (wg v16 true (wi F L (.pick (.c v20) (.c (.bool true)) (.c v22)) E0 h) h fun v23 h =>
    (wi F L (.pick (.c v16) (.c v23) (.c (.bool false))) E0 h fun v24 h =>
    (wb v24
    (∃ v, some (.bool false) = some v ∧ K v h)
    (k_gatepostref01_Value_2 L K N0 (upd (upd (upd (upd (upd (upd (upd (upd (upd (upd (upd (upd (upd (upd (upd e 11 v0) 12 v3) 13 v13) 4 v13) 14 v13) 15 v15) 16 v16) 17 v16) 18 v18) 19 v19) 20 v20) 21 v21) 22 v22) 23 v23) 24 v24) v3 h))))))))))))
def q_gatepostref01_Value_0 (L : FuncId → List V → V → Prop) (K : V → Heap → Prop) : X → Env → Heap → Prop := (fun x => (seqX (fun e h => k_gatepostref01_Value_0 L K (e 0) h) (retX c_gatepostref01_Value.results K)) (X.out 0 x))
def lc_gatepostref01_Value_0 : C :=
  (.seq (.seq (.region [⟨(some 5), none, .mv (.t 3)⟩, ⟨(some 6), none, .mv (.t 0)⟩, ⟨(some 7), none, .len 0 (.t 6)⟩, ⟨(some 8), none, .bin .lss (.t 5) (.t 7)⟩])
  (.cond (.t 8)
    .skip
    (.exit 0)))
  (.seq (.block 1 (.seq (.region [⟨(some 11), none, .mv (.t 0)⟩, ⟨(some 12), none, .mv (.t 3)⟩, ⟨(some 13), none, .ixStr (.t 11) (.t 12)⟩, ⟨(some 4), none, .mv (.t 13)⟩])
  (.seq (.region [⟨(some 14), none, .mv (.t 4)⟩, ⟨(some 15), none, .call i_gatepostref01_blank [(.t 14)]⟩, ⟨(some 16), none, .un .not (.t 15)⟩, ⟨(some 17), none, .mv (.t 16)⟩, ⟨(some 18), (some (17, true)), .mv (.t 4)⟩, ⟨(some 19), (some (17, true)), .bin .lss (.t 18) (.c (.int .u8 33))⟩, ⟨(some 20), (some (17, true)), .mv (.t 19)⟩, ⟨(some 21), (some (20, false)), .mv (.t 4)⟩, ⟨(some 22), (some (20, false)), .bin .eql (.t 21) (.c (.int .u8 127))⟩, ⟨(some 23), (some (17, true)), .pick (.t 20) (.c (.bool true)) (.t 22)⟩, ⟨(some 24), none, .pick (.t 17) (.t 23) (.c (.bool false))⟩])
  (.cond (.t 24)
    (.seq (.region [⟨(some 2), none, .mv (.c (.bool false))⟩])
    .ret)
    .skip))))
  (.region [⟨(some 9), none, .mv (.t 3)⟩, ⟨(some 10), none, .bin .add (.t 9) (.c (.int .i64 1))⟩, ⟨(some 3), none, .mv (.t 10)⟩])))
def b_gatepostref01_Value_0 (L : FuncId → List V → V → Prop) (K : V → Heap → Prop) (N0 : Env → Heap → Prop) (e : Env) (h : Heap) : Prop :=
    (wi F L (.len 0 (.c (e 0))) E0 h fun v7 h =>
    (wi F L (.bin .lss (.c (e 3)) (.c v7)) E0 h fun v8 h =>
    (wb v8
    (k_gatepostref01_Value_1 L K N0 (upd (upd (upd (upd e 5 (e 3)) 6 (e 0)) 7 v7) 8 v8) (e 0) (e 3) h)
    (k_gatepostref01_Value_0 L K (e 0) h))))
theorem l_gatepostref01_Value_0 {L : FuncId → List V → V → Prop} {K : V → Heap → Prop} (I : Nat → Env → Heap → Prop) (hr : ∀ n e h, I n e h → b_gatepostref01_Value_0 L K (fun e' h' => ∃ m, m < n ∧ I m e' h') e h) {n : Nat} {e : Env} {h : Heap} (hi : I n e h) : Wl F L lc_gatepostref01_Value_0 (q_gatepostref01_Value_0 L K) e h :=
  wloopp (b := b_gatepostref01_Value_0 L K) I (fun _ _ _ => by kernel_rfl) hr hi
def p_gatepostref01_Value (L : FuncId → List V → V → Prop) (K : V → Heap → Prop) (a0 : V) (h : Heap) : Prop :=
    (Wl F L lc_gatepostref01_Value_0 (q_gatepostref01_Value_0 L K) (upd (upd (enterE [a0]) 2 (.bool false)) 3 (.int .i64 0)) h)
theorem run_gatepostref01_Value {L : FuncId → List V → V → Prop} {K : V → Heap → Prop} {a0 : V} {h : Heap} (hp : p_gatepostref01_Value L K a0 h) : Cf F L i_gatepostref01_Value [a0] h K :=
  wcallp F_gatepostref01_Value (show 1 ≤ 42 by decide) (p := p_gatepostref01_Value L K a0 h) (by kernel_rfl) hp
def p___gatepost_head_Reader__none (L : FuncId → List V → V → Prop) (K : V → Heap → Prop) (a0 : V) (h : Heap) : Prop :=
    (wi F L (.eq (.nil 3) false (.c a0) (.c .nilp)) E0 h fun v4 h =>
    (wg v4 false (wi F L (.mv (.c a0)) E0 h) h fun v6 h =>
    (wg v4 false (wi F L (.nilck (.c v6)) E0 h) h fun v7 h =>
    (wg v4 false (wi F L (.faddr 0 (.c v7)) E0 h) h fun v8 h =>
    (wg v4 false (wi F L (.load false 1 (.c v8)) E0 h) h fun v9 h =>
    (wg v4 false (wi F L (.eq (.nil 2) false (.c v9) (.c .nfn)) E0 h) h fun v10 h =>
    (wi F L (.pick (.c v4) (.c (.bool true)) (.c v10)) E0 h fun v11 h =>
    (∃ v, some v11 = some v ∧ K v h))))))))
theorem run___gatepost_head_Reader__none {L : FuncId → List V → V → Prop} {K : V → Heap → Prop} {a0 : V} {h : Heap} (hp : p___gatepost_head_Reader__none L K a0 h) : Cf F L i___gatepost_head_Reader__none [a0] h K :=
  wcallp F___gatepost_head_Reader__none (show 1 ≤ 12 by decide) (p := p___gatepost_head_Reader__none L K a0 h) (by kernel_rfl) hp
def k___gatepost_head_Reader__take_2 (L : FuncId → List V → V → Prop) (K : V → Heap → Prop) (v0 v49 : V) (h : Heap) : Prop :=
    (wi F L (.nilck (.c v0)) E0 h fun v52 h =>
    (wi F L (.faddr 6 (.c v52)) E0 h fun v53 h =>
    (wi F L (.load false 1 (.c v53)) E0 h fun v54 h =>
    (wi F L (.slsl 1 (.c v54) none (some (.c (.int .i64 0))) none) E0 h fun v55 h =>
    (wi F L (.nilck (.c v0)) E0 h fun v56 h =>
    (wi F L (.faddr 6 (.c v56)) E0 h fun v57 h =>
    (wi F L (.store 1 (.c v57) (.c v55)) E0 h fun _ h =>
    (wi F L (.call i___gatepost_head_Reader__ended [(.c v0), (.c v49)]) E0 h fun v60 h =>
    (∃ v, some v60 = some v ∧ K v h)))))))))
def k___gatepost_head_Reader__take_1 (L : FuncId → List V → V → Prop) (K : V → Heap → Prop) (v0 : V) (h : Heap) : Prop :=
    (wi F L (.nilck (.c v0)) E0 h fun v46 h =>
    (wi F L (.faddr 6 (.c v46)) E0 h fun v47 h =>
    (wi F L (.load false 1 (.c v47)) E0 h fun v48 h =>
    (wi F L (.call i_head_cut [(.c v48)]) E0 h fun v49 h =>
    (k___gatepost_head_Reader__take_2 L K v0 v49 h)))))
def k___gatepost_head_Reader__take_0 (L : FuncId → List V → V → Prop) (K : V → Heap → Prop) (v0 v1 : V) (h : Heap) : Prop :=
    (wi F L (.bin .neq (.c v1) (.c (.int .u8 10))) E0 h fun v44 h =>
    (wb v44
    (∃ v, some (.int .i64 0) = some v ∧ K v h)
    (k___gatepost_head_Reader__take_1 L K v0 h)))
def p___gatepost_head_Reader__take (L : FuncId → List V → V → Prop) (K : V → Heap → Prop) (a0 a1 : V) (h : Heap) : Prop :=
    (wi F L (.nilck (.c a0)) E0 h fun v7 h =>
    (wi F L (.faddr 5 (.c v7)) E0 h fun v8 h =>
    (wi F L (.load false 1 (.c v8)) E0 h fun v9 h =>
    (wi F L (.bin .add (.c v9) (.c (.int .i64 1))) E0 h fun v10 h =>
    (wi F L (.nilck (.c a0)) E0 h fun v11 h =>
    (wi F L (.faddr 5 (.c v11)) E0 h fun v12 h =>
    (wi F L (.store 1 (.c v12) (.c v10)) E0 h fun _ h =>
    (wi F L (.nilck (.c a0)) E0 h fun v15 h =>
    (wi F L (.faddr 6 (.c v15)) E0 h fun v16 h =>
    (wi F L (.load false 1 (.c v16)) E0 h fun v17 h =>
    (wi F L (.bsl 1 [(.c a1)]) E0 h fun v19 h =>
    (wi F L (.app 1 1 true (.c v17) (.c v19)) E0 h fun v20 h =>
    (wi F L (.nilck (.c a0)) E0 h fun v21 h =>
    (wi F L (.faddr 6 (.c v21)) E0 h fun v22 h =>
    (wi F L (.store 1 (.c v22) (.c v20)) E0 h fun _ h =>
    (wi F L (.nilck (.c a0)) E0 h fun v24 h =>
    (wi F L (.faddr 5 (.c v24)) E0 h fun v25 h =>
    (wi F L (.load false 1 (.c v25)) E0 h fun v26 h =>
    (wi F L (.bin .gtr (.c v26) (.c (.int .i64 8192))) E0 h fun v27 h =>
    (wg v27 false (wi F L (.mv (.c a0)) E0 h) h fun v29 h =>
    (wg v27 false (wi F L (.nilck (.c v29)) E0 h) h fun v30 h =>
    (wg v27 false (wi F L (.faddr 2 (.c v30)) E0 h) h fun v31 h =>
    (wg v27 false (wi F L (.load false 1 (.c v31)) E0 h) h fun v32 h =>
    (wg v27 false (wi F L (.un .not (.c v32)) E0 h) h fun v33 h =>
    (wg v27 false (wi F L (.mv (.c v33)) E0 h) h fun v34 h =>
    (wg v34 true (wi F L (.mv (.c a0)) E0 h) h fun v35 h =>
    (wg v34 true (wi F L (.nilck (.c v35)) E0 h) h fun v36 h =>
    (wg v34 true (wi F L (.faddr 6 (.c v36)) E0 h) h fun v37 h =>
    (wg v34 true (wi F L (.load false 1 (.c v37)) E0 h) h fun v38 h =>
    (wg v34 true (wi F L (.len 1 (.c v38)) E0 h) h fun v39 h =>
    (wg v34 true (wi F L (.bin .gtr (.c v39) (.c (.int .i64 1026))) E0 h) h fun v40 h =>
    (wg v27 false (wi F L (.pick (.c v34) (.c v40) (.c (.bool false))) E0 h) h fun v41 h =>
    (wi F L (.pick (.c v27) (.c (.bool true)) (.c v41)) E0 h fun v42 h =>
    (wb v42
    (∃ v, some (.int .i64 3) = some v ∧ K v h)
    (k___gatepost_head_Reader__take_0 L K a0 a1 h)))))))))))))))))))))))))))))))))))
theorem run___gatepost_head_Reader__take {L : FuncId → List V → V → Prop} {K : V → Heap → Prop} {a0 a1 : V} {h : Heap} (hp : p___gatepost_head_Reader__take L K a0 a1 h) : Cf F L i___gatepost_head_Reader__take [a0, a1] h K :=
  wcallp F___gatepost_head_Reader__take (show 2 ≤ 61 by decide) (p := p___gatepost_head_Reader__take L K a0 a1 h) (by kernel_rfl) hp
def k___gatepost_head_Reader__whole_0 (L : FuncId → List V → V → Prop) (K : V → Heap → Prop) (v0 : V) (h : Heap) : Prop :=
    (wi F L (.nilck (.c v0)) E0 h fun v25 h =>
    (wi F L (.faddr 15 (.c v25)) E0 h fun v26 h =>
    (wi F L (.load false 1 (.c v26)) E0 h fun v27 h =>
    (wi F L (.len 1 (.c v27)) E0 h fun v28 h =>
    (wi F L (.mksl 2 32 [(.str []), (.str [])] (.c v28) (.c v28)) E0 h fun v29 h =>
    (wi F L (.nilck (.c v0)) E0 h fun v32 h =>
    (wi F L (.faddr 15 (.c v32)) E0 h fun v33 h =>
    (wi F L (.load false 1 (.c v33)) E0 h fun v34 h =>
    (wi F L (.copy 2 (.c v29) (.c v34)) E0 h fun v35 h =>
    (∃ v, resultsV h (enterE [v29, (.int .i64 0)]) [.tmp 0, .tmp 1] = some v ∧ K v h))))))))))
def p___gatepost_head_Reader__whole (L : FuncId → List V → V → Prop) (K : V → Heap → Prop) (a0 a1 : V) (h : Heap) : Prop :=
    (wi F L (.call i___gatepost_head_Reader__none [(.c a0)]) E0 h fun v9 h =>
    (wb v9
    (∃ v, resultsV h (enterE [.nsl, (.int .i64 1)]) [.tmp 0, .tmp 1] = some v ∧ K v h)
    (wi F L (.nilck (.c a0)) E0 h fun v12 h =>
    (wi F L (.faddr 3 (.c v12)) E0 h fun v13 h =>
    (wi F L (.load false 1 (.c v13)) E0 h fun v14 h =>
    (wi F L (.un .not (.c v14)) E0 h fun v15 h =>
    (wg v15 false (wi F L (.mv (.c a0)) E0 h) h fun v17 h =>
    (wg v15 false (wi F L (.nilck (.c v17)) E0 h) h fun v18 h =>
    (wg v15 false (wi F L (.faddr 1 (.c v18)) E0 h) h fun v19 h =>
    (wg v15 false (wi F L (.load false 1 (.c v19)) E0 h) h fun v20 h =>
    (wg v15 false (wi F L (.mv (.c a1)) E0 h) h fun v21 h =>
    (wg v15 false (wi F L (.eq .bool true (.c v20) (.c v21)) E0 h) h fun v22 h =>
    (wi F L (.pick (.c v15) (.c (.bool true)) (.c v22)) E0 h fun v23 h =>
    (wb v23
    (∃ v, resultsV h (enterE [.nsl, (.int .i64 16)]) [.tmp 0, .tmp 1] = some v ∧ K v h)
    (k___gatepost_head_Reader__whole_0 L K a0 h)))))))))))))))
theorem run___gatepost_head_Reader__whole {L : FuncId → List V → V → Prop} {K : V → Heap → Prop} {a0 a1 : V} {h : Heap} (hp : p___gatepost_head_Reader__whole L K a0 a1 h) : Cf F L i___gatepost_head_Reader__whole [a0, a1] h K :=
  wcallp F___gatepost_head_Reader__whole (show 2 ≤ 37 by decide) (p := p___gatepost_head_Reader__whole L K a0 a1 h) (by kernel_rfl) hp
def p_head_New_1 (L : FuncId → List V → V → Prop) (K : V → Heap → Prop) (a0 a1 : V) (h : Heap) : Prop :=
    (wi F L (.load false 1 (.c a1)) E0 h fun v5 h' => Ext h h' ∧
    (wi F L (.load false 1 (.c a1)) E0 h' fun v6 h => Ext h' h ∧
    (wi F L (.load false 1 (.c a1)) E0 h fun v7 h' => Ext h h' ∧
    (wi F L (.call i_line_Request [(.c a0)]) E0 h' fun v9 h => Ext h' h ∧
    (wi F L (.ext 0 (.c v9)) E0 h fun v10 h' => Ext h h' ∧
    (wi F L (.ext 1 (.c v9)) E0 h' fun v11 h => Ext h' h ∧
    (wi F L (.ext 2 (.c v9)) E0 h fun v12 h' => Ext h h' ∧
    (wi F L (.ext 3 (.c v9)) E0 h' fun v13 h => Ext h' h ∧
    (wi F L (.nilck (.c v5)) E0 h fun v14 h' => Ext h h' ∧
    (wi F L (.faddr 7 (.c v14)) E0 h' fun v15 h => Ext h' h ∧
    (wi F L (.faddr 0 (.c v15)) E0 h fun v16 h' => Ext h h' ∧
    (wi F L (.store 1 (.c v16) (.c v10)) E0 h' fun _ h' => (loadV h' false 1 a1 = some v6 ∧ (loadV h' false 1 a1 = some v7 ∧ True)) ∧
    (wi F L (.nilck (.c v6)) E0 h' fun v17 h' =>
    (wi F L (.faddr 7 (.c v17)) E0 h' fun v18 h' =>
    (wi F L (.faddr 1 (.c v18)) E0 h' fun v19 h' =>
    (wi F L (.store 1 (.c v19) (.c v11)) E0 h' fun _ h' => (loadV h' false 1 a1 = some v6 ∧ (loadV h' false 1 a1 = some v7 ∧ True)) ∧
    (wi F L (.nilck (.c v7)) E0 h' fun v20 h' =>
    (wi F L (.faddr 7 (.c v20)) E0 h' fun v21 h' =>
    (wi F L (.faddr 2 (.c v21)) E0 h' fun v22 h' =>
    (wi F L (.store 1 (.c v22) (.c v12)) E0 h' fun _ h' => (loadV h' false 1 a1 = some v6 ∧ (loadV h' false 1 a1 = some v7 ∧ True)) ∧
    (∃ v, some v13 = some v ∧ K v h')))))))))))))))))))))
theorem run_head_New_1 {L : FuncId → List V → V → Prop} {K : V → Heap → Prop} {a0 a1 : V} {h : Heap} (hp : p_head_New_1 L K a0 a1 h) : Cf F L i_head_New_1 [a0, a1] h K :=
  wcallp F_head_New_1 (show 2 ≤ 24 by decide) (p := p_head_New_1 L K a0 a1 h) (by kernel_rfl) hp
def k_line_Request_1 (L : FuncId → List V → V → Prop) (K : V → Heap → Prop) (v6 : V) (h : Heap) : Prop :=
    (wi F L (.ixaSl 1 (.c v6) (.c (.int .i64 0))) E0 h fun v37 h' => Ext h h' ∧
    (wi F L (.load false 1 (.c v37)) E0 h' fun v38 h => Ext h' h ∧
    (wi F L (.ixaSl 1 (.c v6) (.c (.int .i64 1))) E0 h fun v40 h' => Ext h h' ∧
    (wi F L (.load false 1 (.c v40)) E0 h' fun v41 h => Ext h' h ∧
    (wi F L (.ixaSl 1 (.c v6) (.c (.int .i64 2))) E0 h fun v43 h' => Ext h h' ∧
    (wi F L (.load false 1 (.c v43)) E0 h' fun v44 h => Ext h' h ∧
    (wi F L (.call i_line_version [(.c v44)]) E0 h fun v45 h' => Ext h h' ∧
    (∃ v, resultsV h' (enterE [v38, v41, v45, (.int .i64 0)]) [.tmp 0, .tmp 1, .tmp 2, .tmp 3] = some v ∧ K v h'))))))))
def k_line_Request_0 (L : FuncId → List V → V → Prop) (K : V → Heap → Prop) (v0 : V) (h : Heap) : Prop :=
    (wi F L (.call i_line_words [(.c v0)]) E0 h fun v11 h =>
    (wi F L (.len 1 (.c v11)) E0 h fun v13 h =>
    (wi F L (.bin .neq (.c v13) (.c (.int .i64 3))) E0 h fun v14 h =>
    (wg v14 false (wi F L (.mv (.c v11)) E0 h) h fun v16 h =>
    (wg v14 false (wi F L (.ixaSl 1 (.c v16) (.c (.int .i64 0))) E0 h) h fun v17 h =>
    (wg v14 false (wi F L (.load false 1 (.c v17)) E0 h) h fun v18 h =>
    (wg v14 false (wi F L (.call i_token_Is [(.c v18)]) E0 h) h fun v19 h =>
    (wg v14 false (wi F L (.un .not (.c v19)) E0 h) h fun v20 h =>
    (wi F L (.pick (.c v14) (.c (.bool true)) (.c v20)) E0 h fun v21 h =>
    (wg v21 false (wi F L (.mv (.c v11)) E0 h) h fun v23 h =>
    (wg v21 false (wi F L (.ixaSl 1 (.c v23) (.c (.int .i64 1))) E0 h) h fun v24 h =>
    (wg v21 false (wi F L (.load false 1 (.c v24)) E0 h) h fun v25 h =>
    (wg v21 false (wi F L (.call i_line_isTarget [(.c v25)]) E0 h) h fun v26 h =>
    (wg v21 false (wi F L (.un .not (.c v26)) E0 h) h fun v27 h =>
    (wi F L (.pick (.c v21) (.c (.bool true)) (.c v27)) E0 h fun v28 h =>
    (wg v28 false (wi F L (.mv (.c v11)) E0 h) h fun v30 h =>
    (wg v28 false (wi F L (.ixaSl 1 (.c v30) (.c (.int .i64 2))) E0 h) h fun v31 h =>
    (wg v28 false (wi F L (.load false 1 (.c v31)) E0 h) h fun v32 h =>
    (wg v28 false (wi F L (.call i_line_version [(.c v32)]) E0 h) h fun v33 h =>
    (wg v28 false (wi F L (.bin .lss (.c v33) (.c (.int .i64 0))) E0 h) h fun v34 h =>
    (wi F L (.pick (.c v28) (.c (.bool true)) (.c v34)) E0 h fun v35 h =>
    (wb v35
    (∃ v, resultsV h (enterE [(.str []), (.str []), (.int .i64 0), (.int .i64 30)]) [.tmp 0, .tmp 1, .tmp 2, .tmp 3] = some v ∧ K v h)
    (k_line_Request_1 L K v11 h)))))))))))))))))))))))
def p_line_Request (L : FuncId → List V → V → Prop) (K : V → Heap → Prop) (a0 : V) (h : Heap) : Prop :=
    (wi F L (.len 0 (.c a0)) E0 h fun v8 h =>
    (wi F L (.bin .gtr (.c v8) (.c (.int .i64 1024))) E0 h fun v9 h =>
    (wb v9
    (∃ v, resultsV h (enterE [(.str []), (.str []), (.int .i64 0), (.int .i64 3)]) [.tmp 0, .tmp 1, .tmp 2, .tmp 3] = some v ∧ K v h)
    (k_line_Request_0 L K a0 h))))
theorem run_line_Request {L : FuncId → List V → V → Prop} {K : V → Heap → Prop} {a0 : V} {h : Heap} (hp : p_line_Request L K a0 h) : Cf F L i_line_Request [a0] h K :=
  wcallp F_line_Request (show 1 ≤ 46 by decide) (p := p_line_Request L K a0 h) (by kernel_rfl) hp
def p_head_New_2 (L : FuncId → List V → V → Prop) (K : V → Heap → Prop) (a0 a1 : V) (h : Heap) : Prop :=
    (wi F L (.load false 1 (.c a1)) E0 h fun v5 h' => Ext h h' ∧
    (wi F L (.load false 1 (.c a1)) E0 h' fun v6 h => Ext h' h ∧
    (wi F L (.load false 1 (.c a1)) E0 h fun v7 h' => Ext h h' ∧
    (wi F L (.call i_line_Status [(.c a0)]) E0 h' fun v9 h => Ext h' h ∧
    (wi F L (.ext 0 (.c v9)) E0 h fun v10 h' => Ext h h' ∧
    (wi F L (.ext 1 (.c v9)) E0 h' fun v11 h => Ext h' h ∧
    (wi F L (.ext 2 (.c v9)) E0 h fun v12 h' => Ext h h' ∧
    (wi F L (.ext 3 (.c v9)) E0 h' fun v13 h => Ext h' h ∧
    (wi F L (.nilck (.c v5)) E0 h fun v14 h' => Ext h h' ∧
    (wi F L (.faddr 11 (.c v14)) E0 h' fun v15 h => Ext h' h ∧
    (wi F L (.faddr 0 (.c v15)) E0 h fun v16 h' => Ext h h' ∧
    (wi F L (.store 1 (.c v16) (.c v10)) E0 h' fun _ h' => (loadV h' false 1 a1 = some v6 ∧ (loadV h' false 1 a1 = some v7 ∧ True)) ∧
    (wi F L (.nilck (.c v6)) E0 h' fun v17 h' =>
    (wi F L (.faddr 11 (.c v17)) E0 h' fun v18 h' =>
    (wi F L (.faddr 1 (.c v18)) E0 h' fun v19 h' =>
    (wi F L (.store 1 (.c v19) (.c v11)) E0 h' fun _ h' => (loadV h' false 1 a1 = some v6 ∧ (loadV h' false 1 a1 = some v7 ∧ True)) ∧
    (wi F L (.nilck (.c v7)) E0 h' fun v20 h' =>
    (wi F L (.faddr 11 (.c v20)) E0 h' fun v21 h' =>
    (wi F L (.faddr 2 (.c v21)) E0 h' fun v22 h' =>
    (wi F L (.store 1 (.c v22) (.c v12)) E0 h' fun _ h' => (loadV h' false 1 a1 = some v6 ∧ (loadV h' false 1 a1 = some v7 ∧ True)) ∧
    (∃ v, some v13 = some v ∧ K v h')))))))))))))))))))))
theorem run_head_New_2 {L : FuncId → List V → V → Prop} {K : V → Heap → Prop} {a0 a1 : V} {h : Heap} (hp : p_head_New_2 L K a0 a1 h) : Cf F L i_head_New_2 [a0, a1] h K :=
  wcallp F_head_New_2 (show 2 ≤ 24 by decide) (p := p_head_New_2 L K a0 a1 h) (by kernel_rfl) hp
def k_line_Status_1 (L : FuncId → List V → V → Prop) (K : V → Heap → Prop) (v2 v3 v4 : V) (h : Heap) : Prop :=
    (∃ v, resultsV h (enterE [v2, v3, v4, (.int .i64 0)]) [.tmp 0, .tmp 1, .tmp 2, .tmp 3] = some v ∧ K v h)
def k_line_Status_0 (L : FuncId → List V → V → Prop) (K : V → Heap → Prop) (v0 v6 : V) (h : Heap) : Prop :=
    (wi F L (.call i_strings_Cut [(.c v0), (.c (.str [32]))]) E0 h fun v24 h =>
    (wi F L (.ext 0 (.c v24)) E0 h fun v25 h =>
    (wi F L (.ext 1 (.c v24)) E0 h fun v26 h =>
    (wi F L (.ext 2 (.c v24)) E0 h fun v27 h =>
    (wi F L (.call i_strings_Cut [(.c v26), (.c (.str [32]))]) E0 h fun v30 h =>
    (wi F L (.ext 0 (.c v30)) E0 h fun v31 h =>
    (wi F L (.ext 1 (.c v30)) E0 h fun v32 h =>
    (wi F L (.ext 2 (.c v30)) E0 h fun v33 h =>
    (wi F L (.call i_token_Number [(.c v31), (.c (.int .i64 1024))]) E0 h fun v36 h =>
    (wi F L (.ext 0 (.c v36)) E0 h fun v37 h =>
    (wi F L (.ext 1 (.c v36)) E0 h fun v38 h =>
    (wi F L (.call i_line_version [(.c v25)]) E0 h fun v40 h =>
    (wi F L (.bin .lss (.c v40) (.c (.int .i64 0))) E0 h fun v42 h =>
    (wg v42 false (wi F L (.mv (.c v38)) E0 h) h fun v44 h =>
    (wg v42 false (wi F L (.un .not (.c v44)) E0 h) h fun v45 h =>
    (wi F L (.pick (.c v42) (.c (.bool true)) (.c v45)) E0 h fun v46 h =>
    (wg v46 false (wi F L (.mv (.c v31)) E0 h) h fun v48 h =>
    (wg v46 false (wi F L (.len 0 (.c v48)) E0 h) h fun v49 h =>
    (wg v46 false (wi F L (.bin .neq (.c v49) (.c (.int .i64 3))) E0 h) h fun v50 h =>
    (wi F L (.pick (.c v46) (.c (.bool true)) (.c v50)) E0 h fun v51 h =>
    (wg v51 false (wi F L (.mv (.c v37)) E0 h) h fun v53 h =>
    (wg v51 false (wi F L (.bin .lss (.c v53) (.c (.int .i64 100))) E0 h) h fun v54 h =>
    (wi F L (.pick (.c v51) (.c (.bool true)) (.c v54)) E0 h fun v55 h =>
    (wg v55 false (wi F L (.mv (.c v37)) E0 h) h fun v57 h =>
    (wg v55 false (wi F L (.bin .gtr (.c v57) (.c (.int .i64 599))) E0 h) h fun v58 h =>
    (wi F L (.pick (.c v55) (.c (.bool true)) (.c v58)) E0 h fun v59 h =>
    (wg v59 false (wi F L (.mv (.c v32)) E0 h) h fun v61 h =>
    (wg v59 false (wi F L (.call i_line_isReason [(.c v61)]) E0 h) h fun v62 h =>
    (wg v59 false (wi F L (.un .not (.c v62)) E0 h) h fun v63 h =>
    (wi F L (.pick (.c v59) (.c (.bool true)) (.c v63)) E0 h fun v64 h =>
    (wb v64
    (wi F L (.callv (.c v6) [(.c (.int .i64 30))]) E0 h fun v66 h =>
    (wi F L (.ext 0 (.c v66)) E0 h fun v67 h =>
    (wi F L (.ext 1 (.c v66)) E0 h fun v68 h =>
    (wi F L (.ext 2 (.c v66)) E0 h fun v69 h =>
    (wi F L (.ext 3 (.c v66)) E0 h fun v70 h =>
    (∃ v, resultsV h (enterE [v67, v68, v69, v70]) [.tmp 0, .tmp 1, .tmp 2, .tmp 3] = some v ∧ K v h))))))
    (k_line_Status_1 L K v40 v37 v32 h))))))))))))))))))))))))))))))))
def p_line_Status (L : FuncId → List V → V → Prop) (K : V → Heap → Prop) (a0 : V) (h : Heap) : Prop :=
    (wi F L (.len 0 (.c a0)) E0 h fun v14 h =>
    (wi F L (.bin .gtr (.c v14) (.c (.int .i64 1024))) E0 h fun v15 h =>
    (wb v15
    (wi F L (.callv (.c (.fn i_line_Status_1 [])) [(.c (.int .i64 3))]) E0 h fun v17 h =>
    (wi F L (.ext 0 (.c v17)) E0 h fun v18 h =>
    (wi F L (.ext 1 (.c v17)) E0 h fun v19 h =>
    (wi F L (.ext 2 (.c v17)) E0 h fun v20 h =>
    (wi F L (.ext 3 (.c v17)) E0 h fun v21 h =>
    (∃ v, resultsV h (enterE [v18, v19, v20, v21]) [.tmp 0, .tmp 1, .tmp 2, .tmp 3] = some v ∧ K v h))))))
    (k_line_Status_0 L K a0 (.fn i_line_Status_1 []) h))))
theorem run_line_Status {L : FuncId → List V → V → Prop} {K : V → Heap → Prop} {a0 : V} {h : Heap} (hp : p_line_Status L K a0 h) : Cf F L i_line_Status [a0] h K :=
  wcallp F_line_Status (show 1 ≤ 74 by decide) (p := p_line_Status L K a0 h) (by kernel_rfl) hp
def p_gatepostref01_blank (L : FuncId → List V → V → Prop) (K : V → Heap → Prop) (a0 : V) (h : Heap) : Prop :=
    (wi F L (.bin .eql (.c a0) (.c (.int .u8 32))) E0 h fun v4 h =>
    (wg v4 false (wi F L (.mv (.c a0)) E0 h) h fun v6 h =>
    (wg v4 false (wi F L (.bin .eql (.c v6) (.c (.int .u8 9))) E0 h) h fun v7 h =>
    (wi F L (.pick (.c v4) (.c (.bool true)) (.c v7)) E0 h fun v8 h =>
    (∃ v, some v8 = some v ∧ K v h)))))
theorem run_gatepostref01_blank {L : FuncId → List V → V → Prop} {K : V → Heap → Prop} {a0 : V} {h : Heap} (hp : p_gatepostref01_blank L K a0 h) : Cf F L i_gatepostref01_blank [a0] h K :=
  wcallp F_gatepostref01_blank (show 1 ≤ 9 by decide) (p := p_gatepostref01_blank L K a0 h) (by kernel_rfl) hp
def k_head_cut_0 (L : FuncId → List V → V → Prop) (K : V → Heap → Prop) (v0 : V) (h : Heap) : Prop :=
    (wi F L (.toStr (.c v0)) E0 h fun v26 h =>
    (∃ v, some v26 = some v ∧ K v h))
def p_head_cut (L : FuncId → List V → V → Prop) (K : V → Heap → Prop) (a0 : V) (h : Heap) : Prop :=
    (wi F L (.len 1 (.c a0)) E0 h fun v6 h =>
    (wi F L (.bin .sub (.c v6) (.c (.int .i64 1))) E0 h fun v7 h =>
    (wi F L (.slsl 1 (.c a0) none (some (.c v7)) none) E0 h fun v8 h =>
    (wi F L (.len 1 (.c v8)) E0 h fun v10 h =>
    (wi F L (.bin .gtr (.c v10) (.c (.int .i64 0))) E0 h fun v12 h =>
    (wg v12 true (wi F L (.mv (.c v8)) E0 h) h fun v14 h =>
    (wg v12 true (wi F L (.mv (.c v10)) E0 h) h fun v15 h =>
    (wg v12 true (wi F L (.bin .sub (.c v15) (.c (.int .i64 1))) E0 h) h fun v16 h =>
    (wg v12 true (wi F L (.ixaSl 1 (.c v14) (.c v16)) E0 h) h fun v17 h =>
    (wg v12 true (wi F L (.load false 1 (.c v17)) E0 h) h fun v18 h =>
    (wg v12 true (wi F L (.bin .eql (.c v18) (.c (.int .u8 13))) E0 h) h fun v19 h =>
    (wi F L (.pick (.c v12) (.c v19) (.c (.bool false))) E0 h fun v20 h =>
    (wb v20
    (wi F L (.bin .sub (.c v10) (.c (.int .i64 1))) E0 h fun v23 h =>
    (wi F L (.slsl 1 (.c v8) none (some (.c v23)) none) E0 h fun v24 h =>
    (k_head_cut_0 L K v24 h)))
    (k_head_cut_0 L K v8 h))))))))))))))
theorem run_head_cut {L : FuncId → List V → V → Prop} {K : V → Heap → Prop} {a0 : V} {h : Heap} (hp : p_head_cut L K a0 h) : Cf F L i_head_cut [a0] h K :=
  wcallp F_head_cut (show 1 ≤ 27 by decide) (p := p_head_cut L K a0 h) (by kernel_rfl) hp
def k___gatepost_head_Reader__ended_1 (L : FuncId → List V → V → Prop) (K : V → Heap → Prop) (v0 v47 : V) (h : Heap) : Prop :=
    (wi F L (.ext 0 (.c v47)) E0 h fun v48 h =>
    (wi F L (.ext 1 (.c v47)) E0 h fun v49 h =>
    (wi F L (.boxz [(.str []), (.str [])]) E0 h fun v5 h =>
    (wi F L (.store 2 (.c v5) (.c v48)) E0 h fun _ h =>
    (wi F L (.nilck (.c v0)) E0 h fun v52 h' => Ext h h' ∧
    (wi F L (.faddr 15 (.c v52)) E0 h' fun v53 h => Ext h' h ∧
    (wi F L (.load false 1 (.c v53)) E0 h fun v54 h' => Ext h h' ∧
    (wi F L (.load true 2 (.c v5)) E0 h' fun v55 h => Ext h' h ∧
    (wi F L (.bsl 2 [(.c v55)]) E0 h fun v56 h' => Ext h h' ∧
    (wi F L (.app 2 32 false (.c v54) (.c v56)) E0 h' fun v57 h' => True ∧
    (wi F L (.nilck (.c v0)) E0 h' fun v58 h =>
    (wi F L (.faddr 15 (.c v58)) E0 h fun v59 h =>
    (wi F L (.store 1 (.c v59) (.c v57)) E0 h fun _ h =>
    (∃ v, some v49 = some v ∧ K v h))))))))))))))
def k___gatepost_head_Reader__ended_0 (L : FuncId → List V → V → Prop) (K : V → Heap → Prop) (v0 v1 : V) (h : Heap) : Prop :=
    (wi F L (.call i_field_Parse [(.c v1)]) E0 h fun v47 h =>
    (k___gatepost_head_Reader__ended_1 L K v0 v47 h))
def p___gatepost_head_Reader__ended (L : FuncId → List V → V → Prop) (K : V → Heap → Prop) (a0 a1 : V) (h : Heap) : Prop :=
    (wi F L (.nilck (.c a0)) E0 h fun v9 h =>
    (wi F L (.faddr 2 (.c v9)) E0 h fun v10 h =>
    (wi F L (.load false 1 (.c v10)) E0 h fun v11 h =>
    (wi F L (.un .not (.c v11)) E0 h fun v12 h =>
    (wg v12 true (wi F L (.mv (.c a1)) E0 h) h fun v14 h =>
    (wg v12 true (wi F L (.bin .eql (.c v14) (.c (.str []))) E0 h) h fun v15 h =>
    (wi F L (.pick (.c v12) (.c v15) (.c (.bool false))) E0 h fun v16 h =>
    (wb v16
    (∃ v, some (.int .i64 0) = some v ∧ K v h)
    (wi F L (.nilck (.c a0)) E0 h fun v19 h =>
    (wi F L (.faddr 2 (.c v19)) E0 h fun v20 h =>
    (wi F L (.load false 1 (.c v20)) E0 h fun v21 h =>
    (wi F L (.un .not (.c v21)) E0 h fun v22 h =>
    (wb v22
    (wi F L (.nilck (.c a0)) E0 h fun v24 h =>
    (wi F L (.faddr 2 (.c v24)) E0 h fun v25 h =>
    (wi F L (.store 1 (.c v25) (.c (.bool true))) E0 h fun _ h =>
    (wi F L (.nilck (.c a0)) E0 h fun v27 h =>
    (wi F L (.faddr 0 (.c v27)) E0 h fun v28 h =>
    (wi F L (.load false 1 (.c v28)) E0 h fun v29 h =>
    (wi F L (.callv (.c v29) [(.c a1)]) E0 h fun v31 h =>
    (∃ v, some v31 = some v ∧ K v h))))))))
    (wi F L (.bin .eql (.c a1) (.c (.str []))) E0 h fun v34 h =>
    (wb v34
    (wi F L (.nilck (.c a0)) E0 h fun v36 h =>
    (wi F L (.faddr 3 (.c v36)) E0 h fun v37 h =>
    (wi F L (.store 1 (.c v37) (.c (.bool true))) E0 h fun _ h =>
    (∃ v, some (.int .i64 0) = some v ∧ K v h))))
    (wi F L (.nilck (.c a0)) E0 h fun v40 h =>
    (wi F L (.faddr 15 (.c v40)) E0 h fun v41 h =>
    (wi F L (.load false 1 (.c v41)) E0 h fun v42 h =>
    (wi F L (.len 1 (.c v42)) E0 h fun v43 h =>
    (wi F L (.bin .eql (.c v43) (.c (.int .i64 64))) E0 h fun v44 h =>
    (wb v44
    (∃ v, some (.int .i64 3) = some v ∧ K v h)
    (k___gatepost_head_Reader__ended_0 L K a0 a1 h))))))))))))))))))))))
theorem run___gatepost_head_Reader__ended {L : FuncId → List V → V → Prop} {K : V → Heap → Prop} {a0 a1 : V} {h : Heap} (hp : p___gatepost_head_Reader__ended L K a0 a1 h) : Cf F L i___gatepost_head_Reader__ended [a0, a1] h K :=
  wcallp F___gatepost_head_Reader__ended (show 2 ≤ 61 by decide) (p := p___gatepost_head_Reader__ended L K a0 a1 h) (by kernel_rfl) hp
def p_line_words (L : FuncId → List V → V → Prop) (K : V → Heap → Prop) (a0 : V) (h : Heap) : Prop :=
    (wi F L (.call i_strings_Split [(.c a0), (.c (.str [32]))]) E0 h fun v5 h =>
    (wi F L (.len 1 (.c v5)) E0 h fun v8 h =>
    (wi F L (.len 1 (.c v5)) E0 h fun v10 h =>
    (wi F L (.slsl 1 (.c v5) none (some (.c v8)) (some (.c v10))) E0 h fun v11 h =>
    (∃ v, some v11 = some v ∧ K v h)))))
theorem run_line_words {L : FuncId → List V → V → Prop} {K : V → Heap → Prop} {a0 : V} {h : Heap} (hp : p_line_words L K a0 h) : Cf F L i_line_words [a0] h K :=
  wcallp F_line_words (show 1 ≤ 12 by decide) (p := p_line_words L K a0 h) (by kernel_rfl) hp
def p_token_Is (L : FuncId → List V → V → Prop) (K : V → Heap → Prop) (a0 : V) (h : Heap) : Prop :=
    (wi F L (.bin .neq (.c a0) (.c (.str []))) E0 h fun v4 h =>
    (wg v4 true (wi F L (.mv (.c a0)) E0 h) h fun v6 h =>
    (wg v4 true (wi F L (.call i_token_all [(.c v6), (.c (.fn i_token_inToken []))]) E0 h) h fun v7 h =>
    (wi F L (.pick (.c v4) (.c v7) (.c (.bool false))) E0 h fun v8 h =>
    (∃ v, some v8 = some v ∧ K v h)))))
theorem run_token_Is {L : FuncId → List V → V → Prop} {K : V → Heap → Prop} {a0 : V} {h : Heap} (hp : p_token_Is L K a0 h) : Cf F L i_token_Is [a0] h K :=
  wcallp F_token_Is (show 1 ≤ 9 by decide) (p := p_token_Is L K a0 h) (by kernel_rfl) hp
def k_line_isTarget_0 (L : FuncId → List V → V → Prop) (K : V → Heap → Prop) (v0 : V) (h : Heap) : Prop :=
    (wi F L (.bin .neq (.c v0) (.c (.str []))) E0 h fun v21 h =>
    (∃ v, some v21 = some v ∧ K v h))
def k_line_isTarget_2 (L : FuncId → List V → V → Prop) (K : V → Heap → Prop) (N0 : Env → Heap → Prop) (e : Env) (v6 : V) (h : Heap) : Prop :=
    (wi F L (.bin .add (.c v6) (.c (.int .i64 1))) E0 h fun v19 h =>
    (N0 (upd (upd e 19 v19) 6 v19) h))
def k_line_isTarget_1 (L : FuncId → List V → V → Prop) (K : V → Heap → Prop) (N0 : Env → Heap → Prop) (e : Env) (v0 v6 : V) (h : Heap) : Prop :=
    (wi F L (.ixStr (.c v0) (.c v6)) E0 h fun v11 h =>
    (wi F L (.bin .leq (.c v11) (.c (.int .u8 32))) E0 h fun v12 h =>
    (wg v12 false (wi F L (.mv (.c v0)) E0 h) h fun v14 h =>
    (wg v12 false (wi F L (.mv (.c v6)) E0 h) h fun v15 h =>
    (wg v12 false (wi F L (.ixStr (.c v14) (.c v15)) E0 h) h fun v16 h =>
    (wg v12 false (wi F L (.bin .gtr (.c v16) (.c (.int .u8 126))) E0 h) h fun v17 h =>
    (wi F L (.pick (.c v12) (.c (.bool true)) (.c v17)) E0 h fun v18 h =>
    (wb v18
    (∃ v, some (.bool false) = some v ∧ K v h)
    (k_line_isTarget_2 L K N0 (upd (upd (upd (upd (upd (upd (upd (upd (upd (upd (upd (upd e 8 v6) 3 v6) 9 v0) 10 v6) 11 v11) 12 v12) 13 v12) 14 v14) 15 v15) 16 v16) 17 v17) 18 v18) v6 h)))))))))
def q_line_isTarget_0 (L : FuncId → List V → V → Prop) (K : V → Heap → Prop) : X → Env → Heap → Prop := (fun x => (seqX (fun e h => k_line_isTarget_0 L K (e 0) h) (retX c_line_isTarget.results K)) (X.out 0 x))
def lc_line_isTarget_0 : C :=
  (.seq (.region [⟨(some 7), none, .bin .lss (.t 6) (.t 5)⟩])
  (.seq (.cond (.t 7)
    .skip
    (.exit 0))
  (.seq (.block 1 (.seq (.region [⟨(some 8), none, .mv (.t 6)⟩, ⟨(some 3), none, .mv (.t 8)⟩])
  (.seq (.region [⟨(some 9), none, .mv (.t 0)⟩, ⟨(some 10), none, .mv (.t 3)⟩, ⟨(some 11), none, .ixStr (.t 9) (.t 10)⟩, ⟨(some 12), none, .bin .leq (.t 11) (.c (.int .u8 32))⟩, ⟨(some 13), none, .mv (.t 12)⟩, ⟨(some 14), (some (13, false)), .mv (.t 0)⟩, ⟨(some 15), (some (13, false)), .mv (.t 3)⟩, ⟨(some 16), (some (13, false)), .ixStr (.t 14) (.t 15)⟩, ⟨(some 17), (some (13, false)), .bin .gtr (.t 16) (.c (.int .u8 126))⟩, ⟨(some 18), none, .pick (.t 13) (.c (.bool true)) (.t 17)⟩])
  (.cond (.t 18)
    (.seq (.region [⟨(some 2), none, .mv (.c (.bool false))⟩])
    .ret)
    .skip))))
  (.region [⟨(some 19), none, .bin .add (.t 6) (.c (.int .i64 1))⟩, ⟨(some 6), none, .mv (.t 19)⟩]))))
def b_line_isTarget_0 (L : FuncId → List V → V → Prop) (K : V → Heap → Prop) (N0 : Env → Heap → Prop) (e : Env) (h : Heap) : Prop :=
    (wi F L (.bin .lss (.c (e 6)) (.c (e 5))) E0 h fun v7 h =>
    (wb v7
    (k_line_isTarget_1 L K N0 (upd e 7 v7) (e 0) (e 6) h)
    (k_line_isTarget_0 L K (e 0) h)))
theorem l_line_isTarget_0 {L : FuncId → List V → V → Prop} {K : V → Heap → Prop} (I : Nat → Env → Heap → Prop) (hr : ∀ n e h, I n e h → b_line_isTarget_0 L K (fun e' h' => ∃ m, m < n ∧ I m e' h') e h) {n : Nat} {e : Env} {h : Heap} (hi : I n e h) : Wl F L lc_line_isTarget_0 (q_line_isTarget_0 L K) e h :=
  wloopp (b := b_line_isTarget_0 L K) I (fun _ _ _ => by kernel_rfl) hr hi
def p_line_isTarget (L : FuncId → List V → V → Prop) (K : V → Heap → Prop) (a0 : V) (h : Heap) : Prop :=
    (wi F L (.len 0 (.c a0)) E0 h fun v5 h =>
    (Wl F L lc_line_isTarget_0 (q_line_isTarget_0 L K) (upd (upd (upd (upd (enterE [a0]) 2 (.bool false)) 4 a0) 5 v5) 6 (.int .i64 0)) h))
theorem run_line_isTarget {L : FuncId → List V → V → Prop} {K : V → Heap → Prop} {a0 : V} {h : Heap} (hp : p_line_isTarget L K a0 h) : Cf F L i_line_isTarget [a0] h K :=
  wcallp F_line_isTarget (show 1 ≤ 22 by decide) (p := p_line_isTarget L K a0 h) (by kernel_rfl) hp
def k_line_version_0 (L : FuncId → List V → V → Prop) (K : V → Heap → Prop) (h : Heap) : Prop :=
    (∃ v, some (.int .i64 (-1)) = some v ∧ K v h)
def p_line_version (L : FuncId → List V → V → Prop) (K : V → Heap → Prop) (a0 : V) (h : Heap) : Prop :=
    (wi F L (.bin .eql (.c a0) (.c (.str [72, 84, 84, 80, 47, 49, 46, 48]))) E0 h fun v5 h =>
    (wb v5
    (∃ v, some (.int .i64 0) = some v ∧ K v h)
    (wi F L (.bin .eql (.c a0) (.c (.str [72, 84, 84, 80, 47, 49, 46, 49]))) E0 h fun v7 h =>
    (wb v7
    (∃ v, some (.int .i64 1) = some v ∧ K v h)
    (k_line_version_0 L K  h)))))
theorem run_line_version {L : FuncId → List V → V → Prop} {K : V → Heap → Prop} {a0 : V} {h : Heap} (hp : p_line_version L K a0 h) : Cf F L i_line_version [a0] h K :=
  wcallp F_line_version (show 1 ≤ 8 by decide) (p := p_line_version L K a0 h) (by kernel_rfl) hp
def p_line_Status_1 (L : FuncId → List V → V → Prop) (K : V → Heap → Prop) (a0 : V) (h : Heap) : Prop :=
    (∃ v, resultsV h (enterE [(.int .i64 0), (.int .i64 0), (.str []), a0]) [.tmp 0, .tmp 1, .tmp 2, .tmp 3] = some v ∧ K v h)
theorem run_line_Status_1 {L : FuncId → List V → V → Prop} {K : V → Heap → Prop} {a0 : V} {h : Heap} (hp : p_line_Status_1 L K a0 h) : Cf F L i_line_Status_1 [a0] h K :=
  wcallp F_line_Status_1 (show 1 ≤ 7 by decide) (p := p_line_Status_1 L K a0 h) (by kernel_rfl) hp
def p_strings_Cut (L : FuncId → List V → V → Prop) (K : V → Heap → Prop) (a0 a1 : V) (h : Heap) : Prop :=
    (wi F L (.call i_internal_stringslite_Cut [(.c a0), (.c a1)]) E0 h fun v9 h =>
    (wi F L (.ext 0 (.c v9)) E0 h fun v10 h =>
    (wi F L (.ext 1 (.c v9)) E0 h fun v11 h =>
    (wi F L (.ext 2 (.c v9)) E0 h fun v12 h =>
    (∃ v, resultsV h (enterE [v10, v11, v12]) [.tmp 0, .tmp 1, .tmp 2] = some v ∧ K v h)))))
theorem run_strings_Cut {L : FuncId → List V → V → Prop} {K : V → Heap → Prop} {a0 a1 : V} {h : Heap} (hp : p_strings_Cut L K a0 a1 h) : Cf F L i_strings_Cut [a0, a1] h K :=
  wcallp F_strings_Cut (show 2 ≤ 13 by decide) (p := p_strings_Cut L K a0 a1 h) (by kernel_rfl) hp
def k_token_Number_1 (L : FuncId → List V → V → Prop) (K : V → Heap → Prop) (v6 : V) (h : Heap) : Prop :=
    (∃ v, resultsV h (enterE [v6, (.bool true)]) [.tmp 0, .tmp 1] = some v ∧ K v h)
def k_token_Number_3 (L : FuncId → List V → V → Prop) (K : V → Heap → Prop) (N0 : Env → Heap → Prop) (e : Env) (v22 : V) (h : Heap) : Prop :=
    (wi F L (.bin .add (.c v22) (.c (.int .i64 1))) E0 h fun v46 h =>
    (N0 (upd (upd e 46 v46) 22 v46) h))
def k_token_Number_4 (L : FuncId → List V → V → Prop) (K : V → Heap → Prop) (N0 : Env → Heap → Prop) (e : Env) (v6 v8 v22 : V) (h : Heap) : Prop :=
    (wi F L (.bin .mul (.c (.int .i64 10)) (.c v6)) E0 h fun v43 h =>
    (wi F L (.bin .add (.c v43) (.c v8)) E0 h fun v45 h =>
    (k_token_Number_3 L K N0 (upd (upd (upd (upd (upd e 42 v6) 43 v43) 44 v8) 45 v45) 6 v45) v22 h)))
def k_token_Number_2 (L : FuncId → List V → V → Prop) (K : V → Heap → Prop) (N0 : Env → Heap → Prop) (e : Env) (v0 v1 v6 v22 : V) (h : Heap) : Prop :=
    (wi F L (.ixStr (.c v0) (.c v22)) E0 h fun v27 h =>
    (wi F L (.bin .sub (.c v27) (.c (.int .u8 48))) E0 h fun v28 h =>
    (wi F L (.toInt .i64 (.c v28)) E0 h fun v29 h =>
    (wi F L (.bin .gtr (.c v29) (.c v1)) E0 h fun v32 h =>
    (wg v32 false (wi F L (.mv (.c v6)) E0 h) h fun v34 h =>
    (wg v32 false (wi F L (.mv (.c v1)) E0 h) h fun v35 h =>
    (wg v32 false (wi F L (.mv (.c v29)) E0 h) h fun v36 h =>
    (wg v32 false (wi F L (.bin .sub (.c v35) (.c v36)) E0 h) h fun v37 h =>
    (wg v32 false (wi F L (.bin .quo (.c v37) (.c (.int .i64 10))) E0 h) h fun v38 h =>
    (wg v32 false (wi F L (.bin .gtr (.c v34) (.c v38)) E0 h) h fun v39 h =>
    (wi F L (.pick (.c v32) (.c (.bool true)) (.c v39)) E0 h fun v40 h =>
    (wb v40
    (∃ v, resultsV h (enterE [v1, (.bool true)]) [.tmp 0, .tmp 1] = some v ∧ K v h)
    (k_token_Number_4 L K N0 (upd (upd (upd (upd (upd (upd (upd (upd (upd (upd (upd (upd (upd (upd (upd (upd (upd (upd (upd e 24 v22) 7 v22) 25 v0) 26 v22) 27 v27) 28 v28) 29 v29) 8 v29) 30 v29) 31 v1) 32 v32) 33 v32) 34 v34) 35 v35) 36 v36) 37 v37) 38 v38) 39 v39) 40 v40) v6 v29 v22 h)))))))))))))
def q_token_Number_0 (L : FuncId → List V → V → Prop) (K : V → Heap → Prop) : X → Env → Heap → Prop := (fun x => (seqX (fun e h => k_token_Number_1 L K (e 6) h) (retX c_token_Number.results K)) (X.out 0 x))
def lc_token_Number_0 : C :=
  (.seq (.region [⟨(some 23), none, .bin .lss (.t 22) (.t 21)⟩])
  (.seq (.cond (.t 23)
    .skip
    (.exit 0))
  (.seq (.block 1 (.seq (.region [⟨(some 24), none, .mv (.t 22)⟩, ⟨(some 7), none, .mv (.t 24)⟩])
  (.seq (.region [⟨(some 25), none, .mv (.t 0)⟩, ⟨(some 26), none, .mv (.t 7)⟩, ⟨(some 27), none, .ixStr (.t 25) (.t 26)⟩, ⟨(some 28), none, .bin .sub (.t 27) (.c (.int .u8 48))⟩, ⟨(some 29), none, .toInt .i64 (.t 28)⟩, ⟨(some 8), none, .mv (.t 29)⟩])
  (.seq (.seq (.region [⟨(some 30), none, .mv (.t 8)⟩, ⟨(some 31), none, .mv (.t 1)⟩, ⟨(some 32), none, .bin .gtr (.t 30) (.t 31)⟩, ⟨(some 33), none, .mv (.t 32)⟩, ⟨(some 34), (some (33, false)), .mv (.t 6)⟩, ⟨(some 35), (some (33, false)), .mv (.t 1)⟩, ⟨(some 36), (some (33, false)), .mv (.t 8)⟩, ⟨(some 37), (some (33, false)), .bin .sub (.t 35) (.t 36)⟩, ⟨(some 38), (some (33, false)), .bin .quo (.t 37) (.c (.int .i64 10))⟩, ⟨(some 39), (some (33, false)), .bin .gtr (.t 34) (.t 38)⟩, ⟨(some 40), none, .pick (.t 33) (.c (.bool true)) (.t 39)⟩])
  (.cond (.t 40)
    (.seq (.region [⟨(some 41), none, .mv (.t 1)⟩, ⟨(some 4), none, .mv (.t 41)⟩, ⟨(some 5), none, .mv (.c (.bool true))⟩])
    .ret)
    .skip))
  (.region [⟨(some 42), none, .mv (.t 6)⟩, ⟨(some 43), none, .bin .mul (.c (.int .i64 10)) (.t 42)⟩, ⟨(some 44), none, .mv (.t 8)⟩, ⟨(some 45), none, .bin .add (.t 43) (.t 44)⟩, ⟨(some 6), none, .mv (.t 45)⟩])))))
  (.region [⟨(some 46), none, .bin .add (.t 22) (.c (.int .i64 1))⟩, ⟨(some 22), none, .mv (.t 46)⟩]))))
def b_token_Number_0 (L : FuncId → List V → V → Prop) (K : V → Heap → Prop) (N0 : Env → Heap → Prop) (e : Env) (h : Heap) : Prop :=
    (wi F L (.bin .lss (.c (e 22)) (.c (e 21))) E0 h fun v23 h =>
    (wb v23
    (k_token_Number_2 L K N0 (upd e 23 v23) (e 0) (e 1) (e 6) (e 22) h)
    (k_token_Number_1 L K (e 6) h)))
theorem l_token_Number_0 {L : FuncId → List V → V → Prop} {K : V → Heap → Prop} (I : Nat → Env → Heap → Prop) (hr : ∀ n e h, I n e h → b_token_Number_0 L K (fun e' h' => ∃ m, m < n ∧ I m e' h') e h) {n : Nat} {e : Env} {h : Heap} (hi : I n e h) : Wl F L lc_token_Number_0 (q_token_Number_0 L K) e h :=
  wloopp (b := b_token_Number_0 L K) I (fun _ _ _ => by kernel_rfl) hr hi
def k_token_Number_0 (L : FuncId → List V → V → Prop) (K : V → Heap → Prop) (e : Env) (v0 : V) (h : Heap) : Prop :=
    (wi F L (.len 0 (.c v0)) E0 h fun v21 h =>
    (Wl F L lc_token_Number_0 (q_token_Number_0 L K) (upd (upd (upd (upd e 6 (.int .i64 0)) 20 v0) 21 v21) 22 (.int .i64 0)) h))
def p_token_Number (L : FuncId → List V → V → Prop) (K : V → Heap → Prop) (a0 a1 : V) (h : Heap) : Prop :=
    (wi F L (.bin .eql (.c a0) (.c (.str []))) E0 h fun v10 h =>
    (wg v10 false (wi F L (.mv (.c a1)) E0 h) h fun v12 h =>
    (wg v10 false (wi F L (.bin .lss (.c v12) (.c (.int .i64 0))) E0 h) h fun v13 h =>
    (wi F L (.pick (.c v10) (.c (.bool true)) (.c v13)) E0 h fun v14 h =>
    (wg v14 false (wi F L (.mv (.c a0)) E0 h) h fun v16 h =>
    (wg v14 false (wi F L (.call i_token_all [(.c v16), (.c (.fn i_token_Number_1 []))]) E0 h) h fun v17 h =>
    (wg v14 false (wi F L (.un .not (.c v17)) E0 h) h fun v18 h =>
    (wi F L (.pick (.c v14) (.c (.bool true)) (.c v18)) E0 h fun v19 h =>
    (wb v19
    (∃ v, resultsV h (enterE [(.int .i64 0), (.bool false)]) [.tmp 0, .tmp 1] = some v ∧ K v h)
    (k_token_Number_0 L K (upd (upd (upd (upd (upd (upd (upd (upd (upd (upd (upd (upd (upd (enterE [a0, a1]) 4 (.int .i64 0)) 5 (.bool false)) 9 a0) 10 v10) 11 v10) 12 v12) 13 v13) 14 v14) 15 v14) 16 v16) 17 v17) 18 v18) 19 v19) a0 h))))))))))
theorem run_token_Number {L : FuncId → List V → V → Prop} {K : V → Heap → Prop} {a0 a1 : V} {h : Heap} (hp : p_token_Number L K a0 a1 h) : Cf F L i_token_Number [a0, a1] h K :=
  wcallp F_token_Number (show 2 ≤ 48 by decide) (p := p_token_Number L K a0 a1 h) (by kernel_rfl) hp
def k_line_isReason_0 (L : FuncId → List V → V → Prop) (K : V → Heap → Prop) (h : Heap) : Prop :=
    (∃ v, some (.bool true) = some v ∧ K v h)
def k_line_isReason_2 (L : FuncId → List V → V → Prop) (K : V → Heap → Prop) (N0 : Env → Heap → Prop) (e : Env) (v7 : V) (h : Heap) : Prop :=
    (wi F L (.bin .add (.c v7) (.c (.int .i64 1))) E0 h fun v23 h =>
    (N0 (upd (upd e 23 v23) 7 v23) h))
def k_line_isReason_1 (L : FuncId → List V → V → Prop) (K : V → Heap → Prop) (N0 : Env → Heap → Prop) (e : Env) (v0 v7 : V) (h : Heap) : Prop :=
    (wi F L (.ixStr (.c v0) (.c v7)) E0 h fun v12 h =>
    (wi F L (.bin .lss (.c v12) (.c (.int .u8 32))) E0 h fun v14 h =>
    (wg v14 true (wi F L (.mv (.c v12)) E0 h) h fun v16 h =>
    (wg v14 true (wi F L (.bin .neq (.c v16) (.c (.int .u8 9))) E0 h) h fun v17 h =>
    (wi F L (.pick (.c v14) (.c v17) (.c (.bool false))) E0 h fun v18 h =>
    (wg v18 false (wi F L (.mv (.c v12)) E0 h) h fun v20 h =>
    (wg v18 false (wi F L (.bin .eql (.c v20) (.c (.int .u8 127))) E0 h) h fun v21 h =>
    (wi F L (.pick (.c v18) (.c (.bool true)) (.c v21)) E0 h fun v22 h =>
    (wb v22
    (∃ v, some (.bool false) = some v ∧ K v h)
    (k_line_isReason_2 L K N0 (upd (upd (upd (upd (upd (upd (upd (upd (upd (upd (upd (upd (upd (upd (upd (upd e 9 v7) 3 v7) 10 v0) 11 v7) 12 v12) 4 v12) 13 v12) 14 v14) 15 v14) 16 v16) 17 v17) 18 v18) 19 v18) 20 v20) 21 v21) 22 v22) v7 h))))))))))
def q_line_isReason_0 (L : FuncId → List V → V → Prop) (K : V → Heap → Prop) : X → Env → Heap → Prop := (fun x => (seqX (fun e h => k_line_isReason_0 L K  h) (retX c_line_isReason.results K)) (X.out 0 x))
def lc_line_isReason_0 : C :=
  (.seq (.region [⟨(some 8), none, .bin .lss (.t 7) (.t 6)⟩])
  (.seq (.cond (.t 8)
    .skip
    (.exit 0))
  (.seq (.block 1 (.seq (.region [⟨(some 9), none, .mv (.t 7)⟩, ⟨(some 3), none, .mv (.t 9)⟩])
  (.seq (.region [⟨(some 10), none, .mv (.t 0)⟩, ⟨(some 11), none, .mv (.t 3)⟩, ⟨(some 12), none, .ixStr (.t 10) (.t 11)⟩, ⟨(some 4), none, .mv (.t 12)⟩])
  (.seq (.region [⟨(some 13), none, .mv (.t 4)⟩, ⟨(some 14), none, .bin .lss (.t 13) (.c (.int .u8 32))⟩, ⟨(some 15), none, .mv (.t 14)⟩, ⟨(some 16), (some (15, true)), .mv (.t 4)⟩, ⟨(some 17), (some (15, true)), .bin .neq (.t 16) (.c (.int .u8 9))⟩, ⟨(some 18), none, .pick (.t 15) (.t 17) (.c (.bool false))⟩, ⟨(some 19), none, .mv (.t 18)⟩, ⟨(some 20), (some (19, false)), .mv (.t 4)⟩, ⟨(some 21), (some (19, false)), .bin .eql (.t 20) (.c (.int .u8 127))⟩, ⟨(some 22), none, .pick (.t 19) (.c (.bool true)) (.t 21)⟩])
  (.cond (.t 22)
    (.seq (.region [⟨(some 2), none, .mv (.c (.bool false))⟩])
    .ret)
    .skip)))))
  (.region [⟨(some 23), none, .bin .add (.t 7) (.c (.int .i64 1))⟩, ⟨(some 7), none, .mv (.t 23)⟩]))))
def b_line_isReason_0 (L : FuncId → List V → V → Prop) (K : V → Heap → Prop) (N0 : Env → Heap → Prop) (e : Env) (h : Heap) : Prop :=
    (wi F L (.bin .lss (.c (e 7)) (.c (e 6))) E0 h fun v8 h =>
    (wb v8
    (k_line_isReason_1 L K N0 (upd e 8 v8) (e 0) (e 7) h)
    (k_line_isReason_0 L K  h)))
theorem l_line_isReason_0 {L : FuncId → List V → V → Prop} {K : V → Heap → Prop} (I : Nat → Env → Heap → Prop) (hr : ∀ n e h, I n e h → b_line_isReason_0 L K (fun e' h' => ∃ m, m < n ∧ I m e' h') e h) {n : Nat} {e : Env} {h : Heap} (hi : I n e h) : Wl F L lc_line_isReason_0 (q_line_isReason_0 L K) e h :=
  wloopp (b := b_line_isReason_0 L K) I (fun _ _ _ => by kernel_rfl) hr hi
def p_line_isReason (L : FuncId → List V → V → Prop) (K : V → Heap → Prop) (a0 : V) (h : Heap) : Prop :=
    (wi F L (.len 0 (.c a0)) E0 h fun v6 h =>
    (Wl F L lc_line_isReason_0 (q_line_isReason_0 L K) (upd (upd (upd (upd (enterE [a0]) 2 (.bool false)) 5 a0) 6 v6) 7 (.int .i64 0)) h))
theorem run_line_isReason {L : FuncId → List V → V → Prop} {K : V → Heap → Prop} {a0 : V} {h : Heap} (hp : p_line_isReason L K a0 h) : Cf F L i_line_isReason [a0] h K :=
  wcallp F_line_isReason (show 1 ≤ 24 by decide) (p := p_line_isReason L K a0 h) (by kernel_rfl) hp
def k_field_Parse_0 (L : FuncId → List V → V → Prop) (K : V → Heap → Prop) (v2 v7 : V) (h : Heap) : Prop :=
    (wi F L (.load true 2 (.c v7)) E0 h fun v26 h =>
    (wi F L (.store 2 (.c v2) (.c v26)) E0 h fun _ h =>
    (∃ v, resultsV h (enterE [v2, (.int .i64 0)]) [.cell 0 true 2, .tmp 1] = some v ∧ K v h)))
def p_field_Parse (L : FuncId → List V → V → Prop) (K : V → Heap → Prop) (a0 : V) (h : Heap) : Prop :=
    (wi F L (.boxz [(.str []), (.str [])]) E0 h fun v2 h =>
    (wi F L (.call i_strings_Cut [(.c a0), (.c (.str [58]))]) E0 h fun v10 h =>
    (wi F L (.ext 0 (.c v10)) E0 h fun v11 h =>
    (wi F L (.ext 1 (.c v10)) E0 h fun v12 h =>
    (wi F L (.ext 2 (.c v10)) E0 h fun v13 h =>
    (wi F L (.call i_token_Trim [(.c v12)]) E0 h fun v16 h =>
    (wi F L (.build [(.str []), (.str [])] [(0, 1, (.c v11)), (1, 1, (.c v16))]) E0 h fun v17 h =>
    (wi F L (.boxz [(.str []), (.str [])]) E0 h fun v7 h =>
    (wi F L (.store 2 (.c v7) (.c v17)) E0 h fun _ h =>
    (wi F L (.un .not (.c v13)) E0 h fun v19 h =>
    (wg v19 false (wi F L (.load true 2 (.c v7)) E0 h) h fun v21 h =>
    (wg v19 false (wi F L (.call i_field_fine [(.c v21)]) E0 h) h fun v22 h =>
    (wg v19 false (wi F L (.un .not (.c v22)) E0 h) h fun v23 h =>
    (wi F L (.pick (.c v19) (.c (.bool true)) (.c v23)) E0 h fun v24 h =>
    (wb v24
    (wi F L (.build [(.str []), (.str [])] []) E0 h fun v25 h =>
    (wi F L (.store 2 (.c v2) (.c v25)) E0 h fun _ h =>
    (∃ v, resultsV h (enterE [v2, (.int .i64 31)]) [.cell 0 true 2, .tmp 1] = some v ∧ K v h)))
    (k_field_Parse_0 L K v2 v7 h))))))))))))))))
theorem run_field_Parse {L : FuncId → List V → V → Prop} {K : V → Heap → Prop} {a0 : V} {h : Heap} (hp : p_field_Parse L K a0 h) : Cf F L i_field_Parse [a0] h K :=
  wcallp F_field_Parse (show 1 ≤ 27 by decide) (p := p_field_Parse L K a0 h) (by kernel_rfl) hp
def p_strings_Split (L : FuncId → List V → V → Prop) (K : V → Heap → Prop) (a0 a1 : V) (h : Heap) : Prop :=
    (wi F L (.call i_strings_genSplit [(.c a0), (.c a1), (.c (.int .i64 0)), (.c (.int .i64 (-1)))]) E0 h fun v7 h =>
    (∃ v, some v7 = some v ∧ K v h))
theorem run_strings_Split {L : FuncId → List V → V → Prop} {K : V → Heap → Prop} {a0 a1 : V} {h : Heap} (hp : p_strings_Split L K a0 a1 h) : Cf F L i_strings_Split [a0, a1] h K :=
  wcallp F_strings_Split (show 2 ≤ 8 by decide) (p := p_strings_Split L K a0 a1 h) (by kernel_rfl) hp
def k_token_all_0 (L : FuncId → List V → V → Prop) (K : V → Heap → Prop) (h : Heap) : Prop :=
    (∃ v, some (.bool true) = some v ∧ K v h)
def k_token_all_2 (L : FuncId → List V → V → Prop) (K : V → Heap → Prop) (N0 : Env → Heap → Prop) (e : Env) (v8 : V) (h : Heap) : Prop :=
    (wi F L (.bin .add (.c v8) (.c (.int .i64 1))) E0 h fun v17 h =>
    (N0 (upd (upd e 17 v17) 8 v17) h))
def k_token_all_1 (L : FuncId → List V → V → Prop) (K : V → Heap → Prop) (N0 : Env → Heap → Prop) (e : Env) (v0 v1 v8 : V) (h : Heap) : Prop :=
    (wi F L (.ixStr (.c v0) (.c v8)) E0 h fun v14 h =>
    (wi F L (.callv (.c v1) [(.c v14)]) E0 h fun v15 h =>
    (wi F L (.un .not (.c v15)) E0 h fun v16 h =>
    (wb v16
    (∃ v, some (.bool false) = some v ∧ K v h)
    (k_token_all_2 L K N0 (upd (upd (upd (upd (upd (upd (upd (upd e 10 v8) 5 v8) 11 v1) 12 v0) 13 v8) 14 v14) 15 v15) 16 v16) v8 h)))))
def q_token_all_0 (L : FuncId → List V → V → Prop) (K : V → Heap → Prop) : X → Env → Heap → Prop := (fun x => (seqX (fun e h => k_token_all_0 L K  h) (retX c_token_all.results K)) (X.out 0 x))
def lc_token_all_0 : C :=
  (.seq (.region [⟨(some 9), none, .bin .lss (.t 8) (.t 7)⟩])
  (.seq (.cond (.t 9)
    .skip
    (.exit 0))
  (.seq (.block 1 (.seq (.region [⟨(some 10), none, .mv (.t 8)⟩, ⟨(some 5), none, .mv (.t 10)⟩])
  (.seq (.region [⟨(some 11), none, .mv (.t 1)⟩, ⟨(some 12), none, .mv (.t 0)⟩, ⟨(some 13), none, .mv (.t 5)⟩, ⟨(some 14), none, .ixStr (.t 12) (.t 13)⟩, ⟨(some 15), none, .callv (.t 11) [(.t 14)]⟩, ⟨(some 16), none, .un .not (.t 15)⟩])
  (.cond (.t 16)
    (.seq (.region [⟨(some 4), none, .mv (.c (.bool false))⟩])
    .ret)
    .skip))))
  (.region [⟨(some 17), none, .bin .add (.t 8) (.c (.int .i64 1))⟩, ⟨(some 8), none, .mv (.t 17)⟩]))))
def b_token_all_0 (L : FuncId → List V → V → Prop) (K : V → Heap → Prop) (N0 : Env → Heap → Prop) (e : Env) (h : Heap) : Prop :=
    (wi F L (.bin .lss (.c (e 8)) (.c (e 7))) E0 h fun v9 h =>
    (wb v9
    (k_token_all_1 L K N0 (upd e 9 v9) (e 0) (e 1) (e 8) h)
    (k_token_all_0 L K  h)))
theorem l_token_all_0 {L : FuncId → List V → V → Prop} {K : V → Heap → Prop} (I : Nat → Env → Heap → Prop) (hr : ∀ n e h, I n e h → b_token_all_0 L K (fun e' h' => ∃ m, m < n ∧ I m e' h') e h) {n : Nat} {e : Env} {h : Heap} (hi : I n e h) : Wl F L lc_token_all_0 (q_token_all_0 L K) e h :=
  wloopp (b := b_token_all_0 L K) I (fun _ _ _ => by kernel_rfl) hr hi
def p_token_all (L : FuncId → List V → V → Prop) (K : V → Heap → Prop) (a0 a1 : V) (h : Heap) : Prop :=
    (wi F L (.len 0 (.c a0)) E0 h fun v7 h =>
    (Wl F L lc_token_all_0 (q_token_all_0 L K) (upd (upd (upd (upd (enterE [a0, a1]) 4 (.bool false)) 6 a0) 7 v7) 8 (.int .i64 0)) h))
theorem run_token_all {L : FuncId → List V → V → Prop} {K : V → Heap → Prop} {a0 a1 : V} {h : Heap} (hp : p_token_all L K a0 a1 h) : Cf F L i_token_all [a0, a1] h K :=
  wcallp F_token_all (show 2 ≤ 18 by decide) (p := p_token_all L K a0 a1 h) (by kernel_rfl) hp
def k_token_inToken_1 (L : FuncId → List V → V → Prop) (K : V → Heap → Prop) (h : Heap) : Prop :=
    (∃ v, some (.bool false) = some v ∧ K v h)
def k_token_inToken_3 (L : FuncId → List V → V → Prop) (K : V → Heap → Prop) (N0 : Env → Heap → Prop) (e : Env) (v23 : V) (h : Heap) : Prop :=
    (wi F L (.bin .add (.c v23) (.c (.int .i64 1))) E0 h fun v29 h =>
    (N0 (upd (upd e 29 v29) 23 v29) h))
def k_token_inToken_2 (L : FuncId → List V → V → Prop) (K : V → Heap → Prop) (N0 : Env → Heap → Prop) (e : Env) (v0 v22 v23 : V) (h : Heap) : Prop :=
    (wi F L (.ixArr 15 1 false (.c v22) (.c v23)) E0 h fun v25 h =>
    (wi F L (.bin .eql (.c v25) (.c v0)) E0 h fun v28 h =>
    (wb v28
    (∃ v, some (.bool true) = some v ∧ K v h)
    (k_token_inToken_3 L K N0 (upd (upd (upd (upd (upd e 25 v25) 5 v25) 26 v25) 27 v0) 28 v28) v23 h))))
def q_token_inToken_0 (L : FuncId → List V → V → Prop) (K : V → Heap → Prop) : X → Env → Heap → Prop := (fun x => (seqX (fun e h => k_token_inToken_1 L K  h) (retX c_token_inToken.results K)) (X.out 0 x))
def lc_token_inToken_0 : C :=
  (.seq (.region [⟨(some 24), none, .bin .lss (.t 23) (.c (.int .i64 15))⟩])
  (.seq (.cond (.t 24)
    .skip
    (.exit 0))
  (.seq (.block 1 (.seq (.region [⟨(some 25), none, .ixArr 15 1 false (.t 22) (.t 23)⟩, ⟨(some 5), none, .mv (.t 25)⟩])
  (.seq (.region [⟨(some 26), none, .mv (.t 5)⟩, ⟨(some 27), none, .mv (.t 0)⟩, ⟨(some 28), none, .bin .eql (.t 26) (.t 27)⟩])
  (.cond (.t 28)
    (.seq (.region [⟨(some 2), none, .mv (.c (.bool true))⟩])
    .ret)
    .skip))))
  (.region [⟨(some 29), none, .bin .add (.t 23) (.c (.int .i64 1))⟩, ⟨(some 23), none, .mv (.t 29)⟩]))))
def b_token_inToken_0 (L : FuncId → List V → V → Prop) (K : V → Heap → Prop) (N0 : Env → Heap → Prop) (e : Env) (h : Heap) : Prop :=
    (wi F L (.bin .lss (.c (e 23)) (.c (.int .i64 15))) E0 h fun v24 h =>
    (wb v24
    (k_token_inToken_2 L K N0 (upd e 24 v24) (e 0) (e 22) (e 23) h)
    (k_token_inToken_1 L K  h)))
theorem l_token_inToken_0 {L : FuncId → List V → V → Prop} {K : V → Heap → Prop} (I : Nat → Env → Heap → Prop) (hr : ∀ n e h, I n e h → b_token_inToken_0 L K (fun e' h' => ∃ m, m < n ∧ I m e' h') e h) {n : Nat} {e : Env} {h : Heap} (hi : I n e h) : Wl F L lc_token_inToken_0 (q_token_inToken_0 L K) e h :=
  wloopp (b := b_token_inToken_0 L K) I (fun _ _ _ => by kernel_rfl) hr hi
def k_token_inToken_0 (L : FuncId → List V → V → Prop) (K : V → Heap → Prop) (e : Env) (h : Heap) : Prop :=
    (wi F L (.call i_token_marks []) E0 h fun v22 h =>
    (Wl F L lc_token_inToken_0 (q_token_inToken_0 L K) (upd (upd e 22 v22) 23 (.int .i64 0)) h))
def p_token_inToken (L : FuncId → List V → V → Prop) (K : V → Heap → Prop) (a0 : V) (h : Heap) : Prop :=
    (wi F L (.bin .or (.c a0) (.c (.int .u8 32))) E0 h fun v7 h =>
    (wi F L (.bin .geq (.c v7) (.c (.int .u8 97))) E0 h fun v9 h =>
    (wg v9 true (wi F L (.mv (.c v7)) E0 h) h fun v11 h =>
    (wg v9 true (wi F L (.bin .leq (.c v11) (.c (.int .u8 122))) E0 h) h fun v12 h =>
    (wi F L (.pick (.c v9) (.c v12) (.c (.bool false))) E0 h fun v13 h =>
    (wg v13 false (wi F L (.mv (.c a0)) E0 h) h fun v15 h =>
    (wg v13 false (wi F L (.bin .geq (.c v15) (.c (.int .u8 48))) E0 h) h fun v16 h =>
    (wg v13 false (wi F L (.mv (.c v16)) E0 h) h fun v17 h =>
    (wg v17 true (wi F L (.mv (.c a0)) E0 h) h fun v18 h =>
    (wg v17 true (wi F L (.bin .leq (.c v18) (.c (.int .u8 57))) E0 h) h fun v19 h =>
    (wg v13 false (wi F L (.pick (.c v17) (.c v19) (.c (.bool false))) E0 h) h fun v20 h =>
    (wi F L (.pick (.c v13) (.c (.bool true)) (.c v20)) E0 h fun v21 h =>
    (wb v21
    (∃ v, some (.bool true) = some v ∧ K v h)
    (k_token_inToken_0 L K (upd (upd (upd (upd (upd (upd (upd (upd (upd (upd (upd (upd (upd (upd (upd (upd (upd (upd (enterE [a0]) 2 (.bool false)) 6 a0) 7 v7) 3 v7) 8 v7) 9 v9) 10 v9) 11 v11) 12 v12) 13 v13) 14 v13) 15 v15) 16 v16) 17 v17) 18 v18) 19 v19) 20 v20) 21 v21)  h))))))))))))))
theorem run_token_inToken {L : FuncId → List V → V → Prop} {K : V → Heap → Prop} {a0 : V} {h : Heap} (hp : p_token_inToken L K a0 h) : Cf F L i_token_inToken [a0] h K :=
  wcallp F_token_inToken (show 1 ≤ 30 by decide) (p := p_token_inToken L K a0 h) (by kernel_rfl) hp
def k_internal_stringslite_Cut_0 (L : FuncId → List V → V → Prop) (K : V → Heap → Prop) (v0 : V) (h : Heap) : Prop :=
    (∃ v, resultsV h (enterE [v0, (.str []), (.bool false)]) [.tmp 0, .tmp 1, .tmp 2] = some v ∧ K v h)
def p_internal_stringslite_Cut (L : FuncId → List V → V → Prop) (K : V → Heap → Prop) (a0 a1 : V) (h : Heap) : Prop :=
    (wi F L (.call i_internal_stringslite_Index [(.c a0), (.c a1)]) E0 h fun v10 h =>
    (wi F L (.bin .geq (.c v10) (.c (.int .i64 0))) E0 h fun v12 h =>
    (wb v12
    (wi F L (.slstr (.c a0) none (some (.c v10))) E0 h fun v15 h' => Ext h h' ∧
    (wi F L (.len 0 (.c a1)) E0 h' fun v19 h => Ext h' h ∧
    (wi F L (.bin .add (.c v10) (.c v19)) E0 h fun v20 h' => Ext h h' ∧
    (wi F L (.slstr (.c a0) (some (.c v20)) none) E0 h' fun v21 h => Ext h' h ∧
    (∃ v, resultsV h (enterE [v15, v21, (.bool true)]) [.tmp 0, .tmp 1, .tmp 2] = some v ∧ K v h)))))
    (k_internal_stringslite_Cut_0 L K a0 h))))
theorem run_internal_stringslite_Cut {L : FuncId → List V → V → Prop} {K : V → Heap → Prop} {a0 a1 : V} {h : Heap} (hp : p_internal_stringslite_Cut L K a0 a1 h) : Cf F L i_internal_stringslite_Cut [a0, a1] h K :=
  wcallp F_internal_stringslite_Cut (show 2 ≤ 23 by decide) (p := p_internal_stringslite_Cut L K a0 a1 h) (by kernel_rfl) hp
def p_token_Number_1 (L : FuncId → List V → V → Prop) (K : V → Heap → Prop) (a0 : V) (h : Heap) : Prop :=
    (wi F L (.bin .geq (.c a0) (.c (.int .u8 48))) E0 h fun v4 h =>
    (wg v4 true (wi F L (.mv (.c a0)) E0 h) h fun v6 h =>
    (wg v4 true (wi F L (.bin .leq (.c v6) (.c (.int .u8 57))) E0 h) h fun v7 h =>
    (wi F L (.pick (.c v4) (.c v7) (.c (.bool false))) E0 h fun v8 h =>
    (∃ v, some v8 = some v ∧ K v h)))))
theorem run_token_Number_1 {L : FuncId → List V → V → Prop} {K : V → Heap → Prop} {a0 : V} {h : Heap} (hp : p_token_Number_1 L K a0 h) : Cf F L i_token_Number_1 [a0] h K :=
  wcallp F_token_Number_1 (show 1 ≤ 9 by decide) (p := p_token_Number_1 L K a0 h) (by kernel_rfl) hp
def p_token_Trim (L : FuncId → List V → V → Prop) (K : V → Heap → Prop) (a0 : V) (h : Heap) : Prop :=
    (wi F L (.call i_strings_Trim [(.c a0), (.c (.str [32, 9]))]) E0 h fun v4 h =>
    (∃ v, some v4 = some v ∧ K v h))
theorem run_token_Trim {L : FuncId → List V → V → Prop} {K : V → Heap → Prop} {a0 : V} {h : Heap} (hp : p_token_Trim L K a0 h) : Cf F L i_token_Trim [a0] h K :=
  wcallp F_token_Trim (show 1 ≤ 5 by decide) (p := p_token_Trim L K a0 h) (by kernel_rfl) hp
def p_field_fine (L : FuncId → List V → V → Prop) (K : V → Heap → Prop) (a0 : V) (h : Heap) : Prop :=
    (wi F L (.box (.c a0)) E0 h fun v1 h =>
    (wi F L (.faddr 0 (.c v1)) E0 h fun v3 h =>
    (wi F L (.load false 1 (.c v3)) E0 h fun v4 h =>
    (wi F L (.call i_token_Is [(.c v4)]) E0 h fun v5 h =>
    (wg v5 true (wi F L (.faddr 1 (.c v1)) E0 h) h fun v7 h =>
    (wg v5 true (wi F L (.load false 1 (.c v7)) E0 h) h fun v8 h =>
    (wg v5 true (wi F L (.call i_token_Value [(.c v8)]) E0 h) h fun v9 h =>
    (wi F L (.pick (.c v5) (.c v9) (.c (.bool false))) E0 h fun v10 h =>
    (∃ v, some v10 = some v ∧ K v h)))))))))
theorem run_field_fine {L : FuncId → List V → V → Prop} {K : V → Heap → Prop} {a0 : V} {h : Heap} (hp : p_field_fine L K a0 h) : Cf F L i_field_fine [a0] h K :=
  wcallp F_field_fine (show 1 ≤ 11 by decide) (p := p_field_fine L K a0 h) (by kernel_rfl) hp
def k_strings_genSplit_3 (L : FuncId → List V → V → Prop) (K : V → Heap → Prop) (v0 v9 v10 : V) (h : Heap) : Prop :=
    (wi F L (.ixaSl 1 (.c v9) (.c v10)) E0 h fun v61 h =>
    (wi F L (.store 1 (.c v61) (.c v0)) E0 h fun _ h =>
    (wi F L (.bin .add (.c v10) (.c (.int .i64 1))) E0 h fun v64 h =>
    (wi F L (.slsl 1 (.c v9) none (some (.c v64)) none) E0 h fun v65 h =>
    (∃ v, some v65 = some v ∧ K v h)))))
def k_strings_genSplit_5 (L : FuncId → List V → V → Prop) (K : V → Heap → Prop) (N0 : Env → Heap → Prop) (e : Env) (v0 v1 v2 v9 v10 v11 : V) (h : Heap) : Prop :=
    (wi F L (.bin .add (.c v11) (.c v2)) E0 h fun v47 h =>
    (wi F L (.slstr (.c v0) none (some (.c v47))) E0 h fun v48 h =>
    (wi F L (.ixaSl 1 (.c v9) (.c v10)) E0 h fun v49 h =>
    (wi F L (.store 1 (.c v49) (.c v48)) E0 h fun _ h =>
    (wi F L (.len 0 (.c v1)) E0 h fun v53 h =>
    (wi F L (.bin .add (.c v11) (.c v53)) E0 h fun v54 h =>
    (wi F L (.slstr (.c v0) (some (.c v54)) none) E0 h fun v55 h =>
    (wi F L (.bin .add (.c v10) (.c (.int .i64 1))) E0 h fun v57 h =>
    (N0 (upd (upd (upd (upd (upd (upd (upd (upd (upd (upd (upd (upd (upd (upd (upd (upd (upd (upd e 42 v9) 43 v10) 44 v0) 45 v11) 46 v2) 47 v47) 48 v48) 49 v49) 50 v0) 51 v11) 52 v1) 53 v53) 54 v54) 55 v55) 0 v55) 56 v10) 57 v57) 10 v57) h)))))))))
def k_strings_genSplit_4 (L : FuncId → List V → V → Prop) (K : V → Heap → Prop) (N0 : Env → Heap → Prop) (e : Env) (v0 v1 v2 v9 v10 : V) (h : Heap) : Prop :=
    (wi F L (.call i_strings_Index [(.c v0), (.c v1)]) E0 h fun v39 h =>
    (wi F L (.bin .lss (.c v39) (.c (.int .i64 0))) E0 h fun v41 h =>
    (wb v41
    (k_strings_genSplit_3 L K v0 v9 v10 h)
    (k_strings_genSplit_5 L K N0 (upd (upd (upd (upd (upd (upd e 37 v0) 38 v1) 39 v39) 11 v39) 40 v39) 41 v41) v0 v1 v2 v9 v10 v39 h))))
def q_strings_genSplit_0 (L : FuncId → List V → V → Prop) (K : V → Heap → Prop) : X → Env → Heap → Prop := (fun x => (seqX (fun e h => k_strings_genSplit_3 L K (e 0) (e 9) (e 10) h) (retX c_strings_genSplit.results K)) (X.out 0 x))
def lc_strings_genSplit_0 : C :=
  (.seq (.seq (.region [⟨(some 34), none, .mv (.t 10)⟩, ⟨(some 35), none, .mv (.t 3)⟩, ⟨(some 36), none, .bin .lss (.t 34) (.t 35)⟩])
  (.cond (.t 36)
    .skip
    (.exit 0)))
  (.block 1 (.seq (.region [⟨(some 37), none, .mv (.t 0)⟩, ⟨(some 38), none, .mv (.t 1)⟩, ⟨(some 39), none, .call i_strings_Index [(.t 37), (.t 38)]⟩, ⟨(some 11), none, .mv (.t 39)⟩])
  (.seq (.seq (.region [⟨(some 40), none, .mv (.t 11)⟩, ⟨(some 41), none, .bin .lss (.t 40) (.c (.int .i64 0))⟩])
  (.cond (.t 41)
    (.exit 0)
    .skip))
  (.seq (.region [⟨(some 42), none, .mv (.t 9)⟩, ⟨(some 43), none, .mv (.t 10)⟩, ⟨(some 44), none, .mv (.t 0)⟩, ⟨(some 45), none, .mv (.t 11)⟩, ⟨(some 46), none, .mv (.t 2)⟩, ⟨(some 47), none, .bin .add (.t 45) (.t 46)⟩, ⟨(some 48), none, .slstr (.t 44) none (some (.t 47))⟩, ⟨(some 49), none, .ixaSl 1 (.t 42) (.t 43)⟩, ⟨none, none, .store 1 (.t 49) (.t 48)⟩])
  (.seq (.region [⟨(some 50), none, .mv (.t 0)⟩, ⟨(some 51), none, .mv (.t 11)⟩, ⟨(some 52), none, .mv (.t 1)⟩, ⟨(some 53), none, .len 0 (.t 52)⟩, ⟨(some 54), none, .bin .add (.t 51) (.t 53)⟩, ⟨(some 55), none, .slstr (.t 50) (some (.t 54)) none⟩, ⟨(some 0), none, .mv (.t 55)⟩])
  (.region [⟨(some 56), none, .mv (.t 10)⟩, ⟨(some 57), none, .bin .add (.t 56) (.c (.int .i64 1))⟩, ⟨(some 10), none, .mv (.t 57)⟩])))))))
def b_strings_genSplit_0 (L : FuncId → List V → V → Prop) (K : V → Heap → Prop) (N0 : Env → Heap → Prop) (e : Env) (h : Heap) : Prop :=
    (wi F L (.bin .lss (.c (e 10)) (.c (e 3))) E0 h fun v36 h =>
    (wb v36
    (k_strings_genSplit_4 L K N0 (upd (upd (upd e 34 (e 10)) 35 (e 3)) 36 v36) (e 0) (e 1) (e 2) (e 9) (e 10) h)
    (k_strings_genSplit_3 L K (e 0) (e 9) (e 10) h)))
theorem l_strings_genSplit_0 {L : FuncId → List V → V → Prop} {K : V → Heap → Prop} (I : Nat → Env → Heap → Prop) (hr : ∀ n e h, I n e h → b_strings_genSplit_0 L K (fun e' h' => ∃ m, m < n ∧ I m e' h') e h) {n : Nat} {e : Env} {h : Heap} (hi : I n e h) : Wl F L lc_strings_genSplit_0 (q_strings_genSplit_0 L K) e h :=
  wloopp (b := b_strings_genSplit_0 L K) I (fun _ _ _ => by kernel_rfl) hr hi
def k_strings_genSplit_2 (L : FuncId → List V → V → Prop) (K : V → Heap → Prop) (e : Env) (v0 v3 : V) (h : Heap) : Prop :=
    (wi F L (.len 0 (.c v0)) E0 h fun v27 h =>
    (wi F L (.bin .add (.c v27) (.c (.int .i64 1))) E0 h fun v28 h =>
    (wi F L (.mn [(.c v3), (.c v28)]) E0 h fun v29 h =>
    (wi F L (.mksl 1 16 [(.str [])] (.c v29) (.c v29)) E0 h fun v31 h =>
    (wi F L (.bin .sub (.c v29) (.c (.int .i64 1))) E0 h fun v33 h =>
    (Wl F L lc_strings_genSplit_0 (q_strings_genSplit_0 L K) (upd (upd (upd (upd (upd (upd (upd (upd (upd (upd (upd (upd (upd e 25 v3) 26 v0) 27 v27) 28 v28) 29 v29) 3 v29) 30 v29) 31 v31) 9 v31) 32 v29) 33 v33) 3 v33) 10 (.int .i64 0)) h))))))
def k_strings_genSplit_1 (L : FuncId → List V → V → Prop) (K : V → Heap → Prop) (e : Env) (v0 v1 v3 : V) (h : Heap) : Prop :=
    (wi F L (.bin .lss (.c v3) (.c (.int .i64 0))) E0 h fun v20 h =>
    (wb v20
    (wi F L (.call i_strings_Count [(.c v0), (.c v1)]) E0 h fun v23 h =>
    (wi F L (.bin .add (.c v23) (.c (.int .i64 1))) E0 h fun v24 h =>
    (k_strings_genSplit_2 L K (upd (upd (upd (upd (upd (upd (upd e 19 v3) 20 v20) 21 v0) 22 v1) 23 v23) 24 v24) 3 v24) v0 v24 h)))
    (k_strings_genSplit_2 L K (upd (upd e 19 v3) 20 v20) v0 v3 h)))
def k_strings_genSplit_0 (L : FuncId → List V → V → Prop) (K : V → Heap → Prop) (e : Env) (v0 v1 v3 : V) (h : Heap) : Prop :=
    (wi F L (.bin .eql (.c v1) (.c (.str []))) E0 h fun v15 h =>
    (wb v15
    (wi F L (.call i_strings_explode [(.c v0), (.c v3)]) E0 h fun v18 h =>
    (∃ v, some v18 = some v ∧ K v h))
    (k_strings_genSplit_1 L K (upd (upd e 14 v1) 15 v15) v0 v1 v3 h)))
def p_strings_genSplit (L : FuncId → List V → V → Prop) (K : V → Heap → Prop) (a0 a1 a2 a3 : V) (h : Heap) : Prop :=
    (wi F L (.bin .eql (.c a3) (.c (.int .i64 0))) E0 h fun v13 h =>
    (wb v13
    (∃ v, some .nsl = some v ∧ K v h)
    (k_strings_genSplit_0 L K (upd (upd (upd (enterE [a0, a1, a2, a3]) 8 .nsl) 12 a3) 13 v13) a0 a1 a3 h)))
theorem run_strings_genSplit {L : FuncId → List V → V → Prop} {K : V → Heap → Prop} {a0 a1 a2 a3 : V} {h : Heap} (hp : p_strings_genSplit L K a0 a1 a2 a3 h) : Cf F L i_strings_genSplit [a0, a1, a2, a3] h K :=
  wcallp F_strings_genSplit (show 4 ≤ 66 by decide) (p := p_strings_genSplit L K a0 a1 a2 a3 h) (by kernel_rfl) hp
def p_token_marks (L : FuncId → List V → V → Prop) (K : V → Heap → Prop) (h : Heap) : Prop :=
    (wi F L (.boxz [(.int .u8 0), (.int .u8 0), (.int .u8 0), (.int .u8 0), (.int .u8 0), (.int .u8 0), (.int .u8 0), (.int .u8 0), (.int .u8 0), (.int .u8 0), (.int .u8 0), (.int .u8 0), (.int .u8 0), (.int .u8 0), (.int .u8 0)]) E0 h fun v0 h =>
    (wi F L (.build [(.int .u8 0), (.int .u8 0), (.int .u8 0), (.int .u8 0), (.int .u8 0), (.int .u8 0), (.int .u8 0), (.int .u8 0), (.int .u8 0), (.int .u8 0), (.int .u8 0), (.int .u8 0), (.int .u8 0), (.int .u8 0), (.int .u8 0)] [(0, 1, (.c (.int .u8 33))), (1, 1, (.c (.int .u8 35))), (2, 1, (.c (.int .u8 36))), (3, 1, (.c (.int .u8 37))), (4, 1, (.c (.int .u8 38))), (5, 1, (.c (.int .u8 39))), (6, 1, (.c (.int .u8 42))), (7, 1, (.c (.int .u8 43))), (8, 1, (.c (.int .u8 45))), (9, 1, (.c (.int .u8 46))), (10, 1, (.c (.int .u8 94))), (11, 1, (.c (.int .u8 95))), (12, 1, (.c (.int .u8 96))), (13, 1, (.c (.int .u8 124))), (14, 1, (.c (.int .u8 126)))]) E0 h fun v1 h =>
    (wi F L (.store 15 (.c v0) (.c v1)) E0 h fun _ h =>
    (∃ v, resultsV h (enterE [v0]) [.cell 0 true 15] = some v ∧ K v h))))
theorem run_token_marks {L : FuncId → List V → V → Prop} {K : V → Heap → Prop} {h : Heap} (hp : p_token_marks L K  h) : Cf F L i_token_marks [] h K :=
  wcallp F_token_marks (show 0 ≤ 2 by decide) (p := p_token_marks L K  h) (by kernel_rfl) hp
def k_strings_Trim_2 (L : FuncId → List V → V → Prop) (K : V → Heap → Prop) (v0 v1 : V) (h : Heap) : Prop :=
    (wi F L (.call i_strings_trimRightUnicode [(.c v0), (.c v1)]) E0 h fun v40 h =>
    (wi F L (.call i_strings_trimLeftUnicode [(.c v40), (.c v1)]) E0 h fun v42 h =>
    (∃ v, some v42 = some v ∧ K v h)))
def k_strings_Trim_1 (L : FuncId → List V → V → Prop) (K : V → Heap → Prop) (v0 v1 : V) (h : Heap) : Prop :=
    (wi F L (.call i_strings_makeASCIISet [(.c v1)]) E0 h fun v31 h =>
    (wi F L (.ext 0 (.c v31)) E0 h fun v32 h =>
    (wi F L (.ext 1 (.c v31)) E0 h fun v33 h =>
    (wi F L (.boxz (List.replicate 256 (.bool false))) E0 h fun v5 h =>
    (wi F L (.store 256 (.c v5) (.c v32)) E0 h fun _ h =>
    (wb v33
    (wi F L (.call i_strings_trimRightASCII [(.c v0), (.c v5)]) E0 h fun v36 h =>
    (wi F L (.call i_strings_trimLeftASCII [(.c v36), (.c v5)]) E0 h fun v37 h =>
    (∃ v, some v37 = some v ∧ K v h)))
    (k_strings_Trim_2 L K v0 v1 h)))))))
def k_strings_Trim_0 (L : FuncId → List V → V → Prop) (K : V → Heap → Prop) (v0 v1 : V) (h : Heap) : Prop :=
    (wi F L (.len 0 (.c v1)) E0 h fun v15 h =>
    (wi F L (.bin .eql (.c v15) (.c (.int .i64 1))) E0 h fun v16 h =>
    (wg v16 true (wi F L (.mv (.c v1)) E0 h) h fun v18 h =>
    (wg v16 true (wi F L (.ixStr (.c v18) (.c (.int .i64 0))) E0 h) h fun v19 h =>
    (wg v16 true (wi F L (.bin .lss (.c v19) (.c (.int .u8 128))) E0 h) h fun v20 h =>
    (wi F L (.pick (.c v16) (.c v20) (.c (.bool false))) E0 h fun v21 h =>
    (wb v21
    (wi F L (.ixStr (.c v1) (.c (.int .i64 0))) E0 h fun v24 h' => Ext h h' ∧
    (wi F L (.call i_strings_trimRightByte [(.c v0), (.c v24)]) E0 h' fun v25 h => Ext h' h ∧
    (wi F L (.ixStr (.c v1) (.c (.int .i64 0))) E0 h fun v27 h' => Ext h h' ∧
    (wi F L (.call i_strings_trimLeftByte [(.c v25), (.c v27)]) E0 h' fun v28 h =>
    (∃ v, some v28 = some v ∧ K v h)))))
    (k_strings_Trim_1 L K v0 v1 h))))))))
def p_strings_Trim (L : FuncId → List V → V → Prop) (K : V → Heap → Prop) (a0 a1 : V) (h : Heap) : Prop :=
    (wi F L (.bin .eql (.c a0) (.c (.str []))) E0 h fun v8 h =>
    (wg v8 false (wi F L (.mv (.c a1)) E0 h) h fun v10 h =>
    (wg v8 false (wi F L (.bin .eql (.c v10) (.c (.str []))) E0 h) h fun v11 h =>
    (wi F L (.pick (.c v8) (.c (.bool true)) (.c v11)) E0 h fun v12 h =>
    (wb v12
    (∃ v, some a0 = some v ∧ K v h)
    (k_strings_Trim_0 L K a0 a1 h))))))
theorem run_strings_Trim {L : FuncId → List V → V → Prop} {K : V → Heap → Prop} {a0 a1 : V} {h : Heap} (hp : p_strings_Trim L K a0 a1 h) : Cf F L i_strings_Trim [a0, a1] h K :=
  wcallp F_strings_Trim (show 2 ≤ 43 by decide) (p := p_strings_Trim L K a0 a1 h) (by kernel_rfl) hp
def p_token_Value (L : FuncId → List V → V → Prop) (K : V → Heap → Prop) (a0 : V) (h : Heap) : Prop :=
    (wi F L (.call i_token_Trim [(.c a0)]) E0 h fun v4 h =>
    (wi F L (.bin .eql (.c v4) (.c a0)) E0 h fun v6 h =>
    (wg v6 true (wi F L (.mv (.c a0)) E0 h) h fun v8 h =>
    (wg v6 true (wi F L (.call i_token_all [(.c v8), (.c (.fn i_token_Value_1 []))]) E0 h) h fun v9 h =>
    (wi F L (.pick (.c v6) (.c v9) (.c (.bool false))) E0 h fun v10 h =>
    (∃ v, some v10 = some v ∧ K v h))))))
theorem run_token_Value {L : FuncId → List V → V → Prop} {K : V → Heap → Prop} {a0 : V} {h : Heap} (hp : p_token_Value L K a0 h) : Cf F L i_token_Value [a0] h K :=
  wcallp F_token_Value (show 1 ≤ 11 by decide) (p := p_token_Value L K a0 h) (by kernel_rfl) hp
def p_strings_Index (L : FuncId → List V → V → Prop) (K : V → Heap → Prop) (a0 a1 : V) (h : Heap) : Prop :=
    (wi F L (.call i_internal_stringslite_Index [(.c a0), (.c a1)]) E0 h fun v7 h =>
    (∃ v, some v7 = some v ∧ K v h))
theorem run_strings_Index {L : FuncId → List V → V → Prop} {K : V → Heap → Prop} {a0 a1 : V} {h : Heap} (hp : p_strings_Index L K a0 a1 h) : Cf F L i_strings_Index [a0, a1] h K :=
  wcallp F_strings_Index (show 2 ≤ 8 by decide) (p := p_strings_Index L K a0 a1 h) (by kernel_rfl) hp
def k_strings_makeASCIISet_0 (L : FuncId → List V → V → Prop) (K : V → Heap → Prop) (v2 : V) (h : Heap) : Prop :=
    (wi F L (.load true 256 (.c v2)) E0 h fun v20 h =>
    (wi F L (.store 256 (.c v2) (.c v20)) E0 h fun _ h =>
    (∃ v, resultsV h (enterE [v2, (.bool true)]) [.cell 0 true 256, .tmp 1] = some v ∧ K v h)))
def k_strings_makeASCIISet_2 (L : FuncId → List V → V → Prop) (K : V → Heap → Prop) (N0 : Env → Heap → Prop) (e : Env) (v4 : V) (h : Heap) : Prop :=
    (wi F L (.bin .add (.c v4) (.c (.int .i64 1))) E0 h fun v11 h =>
    (N0 (upd (upd (upd e 10 v4) 11 v11) 4 v11) h))
def k_strings_makeASCIISet_3 (L : FuncId → List V → V → Prop) (K : V → Heap → Prop) (N0 : Env → Heap → Prop) (e : Env) (v2 v4 v5 : V) (h : Heap) : Prop :=
    (wi F L (.ixaArr 256 1 (.c v2) (.c v5)) E0 h fun v19 h =>
    (wi F L (.store 1 (.c v19) (.c (.bool true))) E0 h fun _ h =>
    (k_strings_makeASCIISet_2 L K N0 (upd (upd e 18 v5) 19 v19) v4 h)))
def k_strings_makeASCIISet_1 (L : FuncId → List V → V → Prop) (K : V → Heap → Prop) (N0 : Env → Heap → Prop) (e : Env) (v0 v2 v4 : V) (h : Heap) : Prop :=
    (wi F L (.ixStr (.c v0) (.c v4)) E0 h fun v14 h =>
    (wi F L (.bin .geq (.c v14) (.c (.int .u8 128))) E0 h fun v16 h =>
    (wb v16
    (wi F L (.load true 256 (.c v2)) E0 h fun v17 h =>
    (wi F L (.store 256 (.c v2) (.c v17)) E0 h fun _ h =>
    (∃ v, resultsV h (enterE [v2, (.bool false)]) [.cell 0 true 256, .tmp 1] = some v ∧ K v h)))
    (k_strings_makeASCIISet_3 L K N0 (upd (upd (upd (upd (upd (upd e 12 v0) 13 v4) 14 v14) 5 v14) 15 v14) 16 v16) v2 v4 v14 h))))
def q_strings_makeASCIISet_0 (L : FuncId → List V → V → Prop) (K : V → Heap → Prop) : X → Env → Heap → Prop := (fun x => (seqX (fun e h => k_strings_makeASCIISet_0 L K (e 2) h) (retX c_strings_makeASCIISet.results K)) (X.out 0 x))
def lc_strings_makeASCIISet_0 : C :=
  (.seq (.seq (.region [⟨(some 6), none, .mv (.t 4)⟩, ⟨(some 7), none, .mv (.t 0)⟩, ⟨(some 8), none, .len 0 (.t 7)⟩, ⟨(some 9), none, .bin .lss (.t 6) (.t 8)⟩])
  (.cond (.t 9)
    .skip
    (.exit 0)))
  (.seq (.block 1 (.seq (.region [⟨(some 12), none, .mv (.t 0)⟩, ⟨(some 13), none, .mv (.t 4)⟩, ⟨(some 14), none, .ixStr (.t 12) (.t 13)⟩, ⟨(some 5), none, .mv (.t 14)⟩])
  (.seq (.seq (.region [⟨(some 15), none, .mv (.t 5)⟩, ⟨(some 16), none, .bin .geq (.t 15) (.c (.int .u8 128))⟩])
  (.cond (.t 16)
    (.seq (.region [⟨(some 17), none, .load true 256 (.t 2)⟩, ⟨none, none, .store 256 (.t 2) (.t 17)⟩, ⟨(some 3), none, .mv (.c (.bool false))⟩])
    .ret)
    .skip))
  (.region [⟨(some 18), none, .mv (.t 5)⟩, ⟨(some 19), none, .ixaArr 256 1 (.t 2) (.t 18)⟩, ⟨none, none, .store 1 (.t 19) (.c (.bool true))⟩]))))
  (.region [⟨(some 10), none, .mv (.t 4)⟩, ⟨(some 11), none, .bin .add (.t 10) (.c (.int .i64 1))⟩, ⟨(some 4), none, .mv (.t 11)⟩])))
def b_strings_makeASCIISet_0 (L : FuncId → List V → V → Prop) (K : V → Heap → Prop) (N0 : Env → Heap → Prop) (e : Env) (h : Heap) : Prop :=
    (wi F L (.len 0 (.c (e 0))) E0 h fun v8 h =>
    (wi F L (.bin .lss (.c (e 4)) (.c v8)) E0 h fun v9 h =>
    (wb v9
    (k_strings_makeASCIISet_1 L K N0 (upd (upd (upd (upd e 6 (e 4)) 7 (e 0)) 8 v8) 9 v9) (e 0) (e 2) (e 4) h)
    (k_strings_makeASCIISet_0 L K (e 2) h))))
theorem l_strings_makeASCIISet_0 {L : FuncId → List V → V → Prop} {K : V → Heap → Prop} (I : Nat → Env → Heap → Prop) (hr : ∀ n e h, I n e h → b_strings_makeASCIISet_0 L K (fun e' h' => ∃ m, m < n ∧ I m e' h') e h) {n : Nat} {e : Env} {h : Heap} (hi : I n e h) : Wl F L lc_strings_makeASCIISet_0 (q_strings_makeASCIISet_0 L K) e h :=
  wloopp (b := b_strings_makeASCIISet_0 L K) I (fun _ _ _ => by kernel_rfl) hr hi
def p_strings_makeASCIISet (L : FuncId → List V → V → Prop) (K : V → Heap → Prop) (a0 : V) (h : Heap) : Prop :=
    (wi F L (.boxz (List.replicate 256 (.bool false))) E0 h fun v2 h =>
    (Wl F L lc_strings_makeASCIISet_0 (q_strings_makeASCIISet_0 L K) (upd (upd (upd (enterE [a0]) 2 v2) 3 (.bool false)) 4 (.int .i64 0)) h))
theorem run_strings_makeASCIISet {L : FuncId → List V → V → Prop} {K : V → Heap → Prop} {a0 : V} {h : Heap} (hp : p_strings_makeASCIISet L K a0 h) : Cf F L i_strings_makeASCIISet [a0] h K :=
  wcallp F_strings_makeASCIISet (show 1 ≤ 21 by decide) (p := p_strings_makeASCIISet L K a0 h) (by kernel_rfl) hp
def k_strings_trimLeftASCII_0 (L : FuncId → List V → V → Prop) (K : V → Heap → Prop) (v0 : V) (h : Heap) : Prop :=
    (∃ v, some v0 = some v ∧ K v h)
def k_strings_trimLeftASCII_2 (L : FuncId → List V → V → Prop) (K : V → Heap → Prop) (N0 : Env → Heap → Prop) (e : Env) (v0 : V) (h : Heap) : Prop :=
    (wi F L (.slstr (.c v0) (some (.c (.int .i64 1))) none) E0 h fun v14 h =>
    (N0 (upd (upd (upd e 13 v0) 14 v14) 0 v14) h))
def k_strings_trimLeftASCII_1 (L : FuncId → List V → V → Prop) (K : V → Heap → Prop) (N0 : Env → Heap → Prop) (e : Env) (v0 v1 : V) (h : Heap) : Prop :=
    (wi F L (.ixStr (.c v0) (.c (.int .i64 0))) E0 h fun v10 h =>
    (wi F L (.call i___strings_asciiSet__contains [(.c v1), (.c v10)]) E0 h fun v11 h =>
    (wi F L (.un .not (.c v11)) E0 h fun v12 h =>
    (wb v12
    (k_strings_trimLeftASCII_0 L K v0 h)
    (k_strings_trimLeftASCII_2 L K N0 (upd (upd (upd (upd (upd e 8 v1) 9 v0) 10 v10) 11 v11) 12 v12) v0 h)))))
def q_strings_trimLeftASCII_0 (L : FuncId → List V → V → Prop) (K : V → Heap → Prop) : X → Env → Heap → Prop := (fun x => (seqX (fun e h => k_strings_trimLeftASCII_0 L K (e 0) h) (retX c_strings_trimLeftASCII.results K)) (X.out 0 x))
def lc_strings_trimLeftASCII_0 : C :=
  (.seq (.seq (.region [⟨(some 5), none, .mv (.t 0)⟩, ⟨(some 6), none, .len 0 (.t 5)⟩, ⟨(some 7), none, .bin .gtr (.t 6) (.c (.int .i64 0))⟩])
  (.cond (.t 7)
    .skip
    (.exit 0)))
  (.block 1 (.seq (.seq (.region [⟨(some 8), none, .mv (.t 1)⟩, ⟨(some 9), none, .mv (.t 0)⟩, ⟨(some 10), none, .ixStr (.t 9) (.c (.int .i64 0))⟩, ⟨(some 11), none, .call i___strings_asciiSet__contains [(.t 8), (.t 10)]⟩, ⟨(some 12), none, .un .not (.t 11)⟩])
  (.cond (.t 12)
    (.exit 0)
    .skip))
  (.region [⟨(some 13), none, .mv (.t 0)⟩, ⟨(some 14), none, .slstr (.t 13) (some (.c (.int .i64 1))) none⟩, ⟨(some 0), none, .mv (.t 14)⟩]))))
def b_strings_trimLeftASCII_0 (L : FuncId → List V → V → Prop) (K : V → Heap → Prop) (N0 : Env → Heap → Prop) (e : Env) (h : Heap) : Prop :=
    (wi F L (.len 0 (.c (e 0))) E0 h fun v6 h =>
    (wi F L (.bin .gtr (.c v6) (.c (.int .i64 0))) E0 h fun v7 h =>
    (wb v7
    (k_strings_trimLeftASCII_1 L K N0 (upd (upd (upd e 5 (e 0)) 6 v6) 7 v7) (e 0) (e 1) h)
    (k_strings_trimLeftASCII_0 L K (e 0) h))))
theorem l_strings_trimLeftASCII_0 {L : FuncId → List V → V → Prop} {K : V → Heap → Prop} (I : Nat → Env → Heap → Prop) (hr : ∀ n e h, I n e h → b_strings_trimLeftASCII_0 L K (fun e' h' => ∃ m, m < n ∧ I m e' h') e h) {n : Nat} {e : Env} {h : Heap} (hi : I n e h) : Wl F L lc_strings_trimLeftASCII_0 (q_strings_trimLeftASCII_0 L K) e h :=
  wloopp (b := b_strings_trimLeftASCII_0 L K) I (fun _ _ _ => by kernel_rfl) hr hi
def p_strings_trimLeftASCII (L : FuncId → List V → V → Prop) (K : V → Heap → Prop) (a0 a1 : V) (h : Heap) : Prop :=
    (Wl F L lc_strings_trimLeftASCII_0 (q_strings_trimLeftASCII_0 L K) (upd (enterE [a0, a1]) 4 (.str [])) h)
theorem run_strings_trimLeftASCII {L : FuncId → List V → V → Prop} {K : V → Heap → Prop} {a0 a1 : V} {h : Heap} (hp : p_strings_trimLeftASCII L K a0 a1 h) : Cf F L i_strings_trimLeftASCII [a0, a1] h K :=
  wcallp F_strings_trimLeftASCII (show 2 ≤ 16 by decide) (p := p_strings_trimLeftASCII L K a0 a1 h) (by kernel_rfl) hp
def k_strings_trimRightASCII_0 (L : FuncId → List V → V → Prop) (K : V → Heap → Prop) (v0 : V) (h : Heap) : Prop :=
    (∃ v, some v0 = some v ∧ K v h)
def k_strings_trimRightASCII_2 (L : FuncId → List V → V → Prop) (K : V → Heap → Prop) (N0 : Env → Heap → Prop) (e : Env) (v0 : V) (h : Heap) : Prop :=
    (wi F L (.len 0 (.c v0)) E0 h fun v18 h =>
    (wi F L (.bin .sub (.c v18) (.c (.int .i64 1))) E0 h fun v19 h =>
    (wi F L (.slstr (.c v0) none (some (.c v19))) E0 h fun v20 h =>
    (N0 (upd (upd (upd (upd (upd (upd e 16 v0) 17 v0) 18 v18) 19 v19) 20 v20) 0 v20) h))))
def k_strings_trimRightASCII_1 (L : FuncId → List V → V → Prop) (K : V → Heap → Prop) (N0 : Env → Heap → Prop) (e : Env) (v0 v1 : V) (h : Heap) : Prop :=
    (wi F L (.len 0 (.c v0)) E0 h fun v11 h =>
    (wi F L (.bin .sub (.c v11) (.c (.int .i64 1))) E0 h fun v12 h =>
    (wi F L (.ixStr (.c v0) (.c v12)) E0 h fun v13 h =>
    (wi F L (.call i___strings_asciiSet__contains [(.c v1), (.c v13)]) E0 h fun v14 h =>
    (wi F L (.un .not (.c v14)) E0 h fun v15 h =>
    (wb v15
    (k_strings_trimRightASCII_0 L K v0 h)
    (k_strings_trimRightASCII_2 L K N0 (upd (upd (upd (upd (upd (upd (upd (upd e 8 v1) 9 v0) 10 v0) 11 v11) 12 v12) 13 v13) 14 v14) 15 v15) v0 h)))))))
def q_strings_trimRightASCII_0 (L : FuncId → List V → V → Prop) (K : V → Heap → Prop) : X → Env → Heap → Prop := (fun x => (seqX (fun e h => k_strings_trimRightASCII_0 L K (e 0) h) (retX c_strings_trimRightASCII.results K)) (X.out 0 x))
def lc_strings_trimRightASCII_0 : C :=
  (.seq (.seq (.region [⟨(some 5), none, .mv (.t 0)⟩, ⟨(some 6), none, .len 0 (.t 5)⟩, ⟨(some 7), none, .bin .gtr (.t 6) (.c (.int .i64 0))⟩])
  (.cond (.t 7)
    .skip
    (.exit 0)))
  (.block 1 (.seq (.seq (.region [⟨(some 8), none, .mv (.t 1)⟩, ⟨(some 9), none, .mv (.t 0)⟩, ⟨(some 10), none, .mv (.t 0)⟩, ⟨(some 11), none, .len 0 (.t 10)⟩, ⟨(some 12), none, .bin .sub (.t 11) (.c (.int .i64 1))⟩, ⟨(some 13), none, .ixStr (.t 9) (.t 12)⟩, ⟨(some 14), none, .call i___strings_asciiSet__contains [(.t 8), (.t 13)]⟩, ⟨(some 15), none, .un .not (.t 14)⟩])
  (.cond (.t 15)
    (.exit 0)
    .skip))
  (.region [⟨(some 16), none, .mv (.t 0)⟩, ⟨(some 17), none, .mv (.t 0)⟩, ⟨(some 18), none, .len 0 (.t 17)⟩, ⟨(some 19), none, .bin .sub (.t 18) (.c (.int .i64 1))⟩, ⟨(some 20), none, .slstr (.t 16) none (some (.t 19))⟩, ⟨(some 0), none, .mv (.t 20)⟩]))))
def b_strings_trimRightASCII_0 (L : FuncId → List V → V → Prop) (K : V → Heap → Prop) (N0 : Env → Heap → Prop) (e : Env) (h : Heap) : Prop :=
    (wi F L (.len 0 (.c (e 0))) E0 h fun v6 h =>
    (wi F L (.bin .gtr (.c v6) (.c (.int .i64 0))) E0 h fun v7 h =>
    (wb v7
    (k_strings_trimRightASCII_1 L K N0 (upd (upd (upd e 5 (e 0)) 6 v6) 7 v7) (e 0) (e 1) h)
    (k_strings_trimRightASCII_0 L K (e 0) h))))
theorem l_strings_trimRightASCII_0 {L : FuncId → List V → V → Prop} {K : V → Heap → Prop} (I : Nat → Env → Heap → Prop) (hr : ∀ n e h, I n e h → b_strings_trimRightASCII_0 L K (fun e' h' => ∃ m, m < n ∧ I m e' h') e h) {n : Nat} {e : Env} {h : Heap} (hi : I n e h) : Wl F L lc_strings_trimRightASCII_0 (q_strings_trimRightASCII_0 L K) e h :=
  wloopp (b := b_strings_trimRightASCII_0 L K) I (fun _ _ _ => by kernel_rfl) hr hi
def p_strings_trimRightASCII (L : FuncId → List V → V → Prop) (K : V → Heap → Prop) (a0 a1 : V) (h : Heap) : Prop :=
    (Wl F L lc_strings_trimRightASCII_0 (q_strings_trimRightASCII_0 L K) (upd (enterE [a0, a1]) 4 (.str [])) h)
theorem run_strings_trimRightASCII {L : FuncId → List V → V → Prop} {K : V → Heap → Prop} {a0 a1 : V} {h : Heap} (hp : p_strings_trimRightASCII L K a0 a1 h) : Cf F L i_strings_trimRightASCII [a0, a1] h K :=
  wcallp F_strings_trimRightASCII (show 2 ≤ 22 by decide) (p := p_strings_trimRightASCII L K a0 a1 h) (by kernel_rfl) hp
def p_token_Value_1 (L : FuncId → List V → V → Prop) (K : V → Heap → Prop) (a0 : V) (h : Heap) : Prop :=
    (wi F L (.call i_token_isBlank [(.c a0)]) E0 h fun v4 h =>
    (wg v4 false (wi F L (.mv (.c a0)) E0 h) h fun v6 h =>
    (wg v4 false (wi F L (.bin .gtr (.c v6) (.c (.int .u8 32))) E0 h) h fun v7 h =>
    (wg v4 false (wi F L (.mv (.c v7)) E0 h) h fun v8 h =>
    (wg v8 true (wi F L (.mv (.c a0)) E0 h) h fun v9 h =>
    (wg v8 true (wi F L (.bin .neq (.c v9) (.c (.int .u8 127))) E0 h) h fun v10 h =>
    (wg v4 false (wi F L (.pick (.c v8) (.c v10) (.c (.bool false))) E0 h) h fun v11 h =>
    (wi F L (.pick (.c v4) (.c (.bool true)) (.c v11)) E0 h fun v12 h =>
    (∃ v, some v12 = some v ∧ K v h)))))))))
theorem run_token_Value_1 {L : FuncId → List V → V → Prop} {K : V → Heap → Prop} {a0 : V} {h : Heap} (hp : p_token_Value_1 L K a0 h) : Cf F L i_token_Value_1 [a0] h K :=
  wcallp F_token_Value_1 (show 1 ≤ 13 by decide) (p := p_token_Value_1 L K a0 h) (by kernel_rfl) hp
def p_token_isBlank (L : FuncId → List V → V → Prop) (K : V → Heap → Prop) (a0 : V) (h : Heap) : Prop :=
    (wi F L (.bin .eql (.c a0) (.c (.int .u8 32))) E0 h fun v4 h =>
    (wg v4 false (wi F L (.mv (.c a0)) E0 h) h fun v6 h =>
    (wg v4 false (wi F L (.bin .eql (.c v6) (.c (.int .u8 9))) E0 h) h fun v7 h =>
    (wi F L (.pick (.c v4) (.c (.bool true)) (.c v7)) E0 h fun v8 h =>
    (∃ v, some v8 = some v ∧ K v h)))))
theorem run_token_isBlank {L : FuncId → List V → V → Prop} {K : V → Heap → Prop} {a0 : V} {h : Heap} (hp : p_token_isBlank L K a0 h) : Cf F L i_token_isBlank [a0] h K :=
  wcallp F_token_isBlank (show 1 ≤ 9 by decide) (p := p_token_isBlank L K a0 h) (by kernel_rfl) hp
def p___strings_asciiSet__contains (L : FuncId → List V → V → Prop) (K : V → Heap → Prop) (a0 a1 : V) (h : Heap) : Prop :=
    (wi F L (.nilck (.c a0)) E0 h fun v7 h =>
    (wi F L (.ixaArr 256 1 (.c v7) (.c a1)) E0 h fun v8 h =>
    (wi F L (.load false 1 (.c v8)) E0 h fun v9 h =>
    (∃ v, some v9 = some v ∧ K v h))))
theorem run___strings_asciiSet__contains {L : FuncId → List V → V → Prop} {K : V → Heap → Prop} {a0 a1 : V} {h : Heap} (hp : p___strings_asciiSet__contains L K a0 a1 h) : Cf F L i___strings_asciiSet__contains [a0, a1] h K :=
  wcallp F___strings_asciiSet__contains (show 2 ≤ 10 by decide) (p := p___strings_asciiSet__contains L K a0 a1 h) (by kernel_rfl) hp
theorem hF : ∀ f fn, F f = some fn → compF Tryd.prog f = some fn := lookup_all ⟨kc_gatepostlaw05_HeadNobody, kc_gatepostlaw05_HeadMany, kc_gatepostlaw05_HeadFields, kc_gatepostlaw05_HeadReads, kc_gatepostlaw05_HeadCuts, kc___gatepost_head_Reader__Feed, kc___gatepost_head_Reader__Request, kc___gatepost_head_Reader__Response, kc_head_New, kc_gatepostref01_Value, kc_gatepostlaw05_names, kc_gatepostlaw05_piece, kc___gatepost_gatepostref05_Reader__Feed, kc___gatepost_gatepostref05_Reader__Request, kc___gatepost_gatepostref05_Reader__Response, kc_gatepostref05_SameRequest, kc_gatepostref05_SameResponse, kc___gatepost_head_Reader__none, kc___gatepost_head_Reader__take, kc___gatepost_head_Reader__whole, kc_head_New_1, kc_line_Request, kc_head_New_2, kc_line_Status, kc_gatepostref01_blank, kc___gatepost_gatepostref05_Reader__ended, kc_gatepostref04_Same, kc_head_cut, kc___gatepost_head_Reader__ended, kc_line_words, kc_token_Is, kc_line_isTarget, kc_line_version, kc_line_Status_1, kc_strings_Cut, kc_token_Number, kc_line_isReason, kc_gatepostref03_Status, kc_gatepostref03_Request, kc_gatepostref04_Parse, kc_field_Parse, kc_strings_Split, kc_token_all, kc_token_inToken, kc_internal_stringslite_Cut, kc_token_Number_1, kc_gatepostref03_version, kc_gatepostref01_Number, kc_gatepostref03_reason, kc_gatepostref01_Is, kc_gatepostref03_target, kc_gatepostref01_Trim, kc_token_Trim, kc_field_fine, kc_strings_genSplit, kc_token_marks, kc_gatepostref01_tchar, kc_strings_Trim, kc_token_Value, kc_strings_Index, kc_strings_makeASCIISet, kc_strings_trimLeftASCII, kc_strings_trimRightASCII, kc_token_Value_1, kc_token_isBlank, kc___strings_asciiSet__contains, trivial⟩
theorem hm : Tryd.prog.follows .mixedOrders = true := by kernel_rfl
end Go.Proofs.YtnfcjeajbjcppaaDoor.Vh
end
