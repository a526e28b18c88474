/- The functions of a seat, compiled for the small machine. Printed by Print.lean. -/
import Derived.Test.YtlnhcdafagpfhaaDoorVc
import Derived.KernelRfl
set_option maxRecDepth 100000
set_option linter.unusedVariables false
namespace Go.Proofs.YtlnhcdafagpfhaaDoor.Vh
open Go.Vm
theorem kc_gatepostlaw14_RangesContent : compF Tryd.prog i_gatepostlaw14_RangesContent = some c_gatepostlaw14_RangesContent := by kernel_rfl
theorem F_gatepostlaw14_RangesBack : F i_gatepostlaw14_RangesBack = some c_gatepostlaw14_RangesBack := rfl
theorem kc_gatepostlaw14_RangesBack : compF Tryd.prog i_gatepostlaw14_RangesBack = some c_gatepostlaw14_RangesBack := by kernel_rfl
theorem F_gatepostlaw14_RangesTells : F i_gatepostlaw14_RangesTells = some c_gatepostlaw14_RangesTells := rfl
theorem kc_gatepostlaw14_RangesTells : compF Tryd.prog i_gatepostlaw14_RangesTells = some c_gatepostlaw14_RangesTells := by kernel_rfl
theorem F_gatepostlaw14_RangesOne : F i_gatepostlaw14_RangesOne = some c_gatepostlaw14_RangesOne := rfl
theorem kc_gatepostlaw14_RangesOne : compF Tryd.prog i_gatepostlaw14_RangesOne = some c_gatepostlaw14_RangesOne := by kernel_rfl
theorem F_gatepostlaw14_RangesMany : F i_gatepostlaw14_RangesMany = some c_gatepostlaw14_RangesMany := rfl
theorem kc_gatepostlaw14_RangesMany : compF Tryd.prog i_gatepostlaw14_RangesMany = some c_gatepostlaw14_RangesMany := by kernel_rfl
theorem F_ranges_Content : F i_ranges_Content = some c_ranges_Content := rfl
theorem kc_ranges_Content : compF Tryd.prog i_ranges_Content = some c_ranges_Content := by kernel_rfl
theorem F_gatepostref14_Content : F i_gatepostref14_Content = some c_gatepostref14_Content := rfl
theorem kc_gatepostref14_Content : compF Tryd.prog i_gatepostref14_Content = some c_gatepostref14_Content := by kernel_rfl
theorem F_ranges_Read : F i_ranges_Read = some c_ranges_Read := rfl
theorem kc_ranges_Read : compF Tryd.prog i_ranges_Read = some c_ranges_Read := by kernel_rfl
theorem F_gatepostref14_Read : F i_gatepostref14_Read = some c_gatepostref14_Read := rfl
theorem kc_gatepostref14_Read : compF Tryd.prog i_gatepostref14_Read = some c_gatepostref14_Read := by kernel_rfl
theorem F_ranges_Resolve : F i_ranges_Resolve = some c_ranges_Resolve := rfl
theorem kc_ranges_Resolve : compF Tryd.prog i_ranges_Resolve = some c_ranges_Resolve := by kernel_rfl
theorem F_ranges_Parse : F i_ranges_Parse = some c_ranges_Parse := rfl
theorem kc_ranges_Parse : compF Tryd.prog i_ranges_Parse = some c_ranges_Parse := by kernel_rfl
theorem F_gatepostref14_Parse : F i_gatepostref14_Parse = some c_gatepostref14_Parse := rfl
theorem kc_gatepostref14_Parse : compF Tryd.prog i_gatepostref14_Parse = some c_gatepostref14_Parse := by kernel_rfl
theorem F_gatepostref14_Resolve : F i_gatepostref14_Resolve = some c_gatepostref14_Resolve := rfl
theorem kc_gatepostref14_Resolve : compF Tryd.prog i_gatepostref14_Resolve = some c_gatepostref14_Resolve := by kernel_rfl
theorem F_ranges_Pick : F i_ranges_Pick = some c_ranges_Pick := rfl
theorem kc_ranges_Pick : compF Tryd.prog i_ranges_Pick = some c_ranges_Pick := by kernel_rfl
theorem F_gatepostref14_Pick : F i_gatepostref14_Pick = some c_gatepostref14_Pick := rfl
theorem kc_gatepostref14_Pick : compF Tryd.prog i_gatepostref14_Pick = some c_gatepostref14_Pick := by kernel_rfl
theorem F_gatepostlaw14_number : F i_gatepostlaw14_number = some c_gatepostlaw14_number := rfl
theorem kc_gatepostlaw14_number : compF Tryd.prog i_gatepostlaw14_number = some c_gatepostlaw14_number := by kernel_rfl
theorem F_ranges_may : F i_ranges_may = some c_ranges_may := rfl
theorem kc_ranges_may : compF Tryd.prog i_ranges_may = some c_ranges_may := by kernel_rfl
theorem F_gatepostref14_right : F i_gatepostref14_right = some c_gatepostref14_right := rfl
theorem kc_gatepostref14_right : compF Tryd.prog i_gatepostref14_right = some c_gatepostref14_right := by kernel_rfl
theorem F_gatepostref14_digits : F i_gatepostref14_digits = some c_gatepostref14_digits := rfl
theorem kc_gatepostref14_digits : compF Tryd.prog i_gatepostref14_digits = some c_gatepostref14_digits := by kernel_rfl
theorem F_strings_CutPrefix : F i_strings_CutPrefix = some c_strings_CutPrefix := rfl
theorem kc_strings_CutPrefix : compF Tryd.prog i_strings_CutPrefix = some c_strings_CutPrefix := by kernel_rfl
theorem F_strings_Cut : F i_strings_Cut = some c_strings_Cut := rfl
theorem kc_strings_Cut : compF Tryd.prog i_strings_Cut = some c_strings_Cut := by kernel_rfl
theorem F_ranges_Read_1 : F i_ranges_Read_1 = some c_ranges_Read_1 := rfl
theorem kc_ranges_Read_1 : compF Tryd.prog i_ranges_Read_1 = some c_ranges_Read_1 := by kernel_rfl
theorem F_token_Number : F i_token_Number = some c_token_Number := rfl
theorem kc_token_Number : compF Tryd.prog i_token_Number = some c_token_Number := by kernel_rfl
theorem F_gatepostref01_Number : F i_gatepostref01_Number = some c_gatepostref01_Number := rfl
theorem kc_gatepostref01_Number : compF Tryd.prog i_gatepostref01_Number = some c_gatepostref01_Number := by kernel_rfl
theorem F_ranges_fine : F i_ranges_fine = some c_ranges_fine := rfl
theorem kc_ranges_fine : compF Tryd.prog i_ranges_fine = some c_ranges_fine := by kernel_rfl
theorem F_token_Same : F i_token_Same = some c_token_Same := rfl
theorem kc_token_Same : compF Tryd.prog i_token_Same = some c_token_Same := by kernel_rfl
theorem F_token_Split : F i_token_Split = some c_token_Split := rfl
theorem kc_token_Split : compF Tryd.prog i_token_Split = some c_token_Split := by kernel_rfl
theorem F_ranges_one : F i_ranges_one = some c_ranges_one := rfl
theorem kc_ranges_one : compF Tryd.prog i_ranges_one = some c_ranges_one := by kernel_rfl
theorem F_gatepostref01_Lower : F i_gatepostref01_Lower = some c_gatepostref01_Lower := rfl
theorem kc_gatepostref01_Lower : compF Tryd.prog i_gatepostref01_Lower = some c_gatepostref01_Lower := by kernel_rfl
theorem F_gatepostref01_Split : F i_gatepostref01_Split = some c_gatepostref01_Split := rfl
theorem kc_gatepostref01_Split : compF Tryd.prog i_gatepostref01_Split = some c_gatepostref01_Split := by kernel_rfl
theorem F_gatepostref14_one : F i_gatepostref14_one = some c_gatepostref14_one := rfl
theorem kc_gatepostref14_one : compF Tryd.prog i_gatepostref14_one = some c_gatepostref14_one := by kernel_rfl
theorem F_internal_stringslite_CutPrefix : F i_internal_stringslite_CutPrefix = some c_internal_stringslite_CutPrefix := rfl
theorem kc_internal_stringslite_CutPrefix : compF Tryd.prog i_internal_stringslite_CutPrefix = some c_internal_stringslite_CutPrefix := by kernel_rfl
theorem F_internal_stringslite_Cut : F i_internal_stringslite_Cut = some c_internal_stringslite_Cut := rfl
theorem kc_internal_stringslite_Cut : compF Tryd.prog i_internal_stringslite_Cut = some c_internal_stringslite_Cut := by kernel_rfl
theorem F_token_all : F i_token_all = some c_token_all := rfl
theorem kc_token_all : compF Tryd.prog i_token_all = some c_token_all := by kernel_rfl
theorem F_token_Number_1 : F i_token_Number_1 = some c_token_Number_1 := rfl
theorem kc_token_Number_1 : compF Tryd.prog i_token_Number_1 = some c_token_Number_1 := by kernel_rfl
theorem F_token_Lower : F i_token_Lower = some c_token_Lower := rfl
theorem kc_token_Lower : compF Tryd.prog i_token_Lower = some c_token_Lower := by kernel_rfl
theorem F_token_Split_1 : F i_token_Split_1 = some c_token_Split_1 := rfl
theorem kc_token_Split_1 : compF Tryd.prog i_token_Split_1 = some c_token_Split_1 := by kernel_rfl
theorem F_token_Trim : F i_token_Trim = some c_token_Trim := rfl
theorem kc_token_Trim : compF Tryd.prog i_token_Trim = some c_token_Trim := by kernel_rfl
theorem F_ranges_one_1 : F i_ranges_one_1 = some c_ranges_one_1 := rfl
theorem kc_ranges_one_1 : compF Tryd.prog i_ranges_one_1 = some c_ranges_one_1 := by kernel_rfl
theorem F_gatepostref01_Trim : F i_gatepostref01_Trim = some c_gatepostref01_Trim := rfl
theorem kc_gatepostref01_Trim : compF Tryd.prog i_gatepostref01_Trim = some c_gatepostref01_Trim := by kernel_rfl
theorem F_internal_stringslite_HasPrefix : F i_internal_stringslite_HasPrefix = some c_internal_stringslite_HasPrefix := rfl
theorem kc_internal_stringslite_HasPrefix : compF Tryd.prog i_internal_stringslite_HasPrefix = some c_internal_stringslite_HasPrefix := by kernel_rfl
theorem F_strings_Trim : F i_strings_Trim = some c_strings_Trim := rfl
theorem kc_strings_Trim : compF Tryd.prog i_strings_Trim = some c_strings_Trim := by kernel_rfl
theorem F_gatepostref01_blank : F i_gatepostref01_blank = some c_gatepostref01_blank := rfl
theorem kc_gatepostref01_blank : compF Tryd.prog i_gatepostref01_blank = some c_gatepostref01_blank := by kernel_rfl
theorem F_strings_makeASCIISet : F i_strings_makeASCIISet = some c_strings_makeASCIISet := rfl
theorem kc_strings_makeASCIISet : compF Tryd.prog i_strings_makeASCIISet = some c_strings_makeASCIISet := by kernel_rfl
theorem F_strings_trimLeftASCII : F i_strings_trimLeftASCII = some c_strings_trimLeftASCII := rfl
theorem kc_strings_trimLeftASCII : compF Tryd.prog i_strings_trimLeftASCII = some c_strings_trimLeftASCII := by kernel_rfl
theorem F_strings_trimRightASCII : F i_strings_trimRightASCII = some c_strings_trimRightASCII := rfl
theorem kc_strings_trimRightASCII : compF Tryd.prog i_strings_trimRightASCII = some c_strings_trimRightASCII := by kernel_rfl
theorem F___strings_asciiSet__contains : F i___strings_asciiSet__contains = some c___strings_asciiSet__contains := rfl
theorem kc___strings_asciiSet__contains : compF Tryd.prog i___strings_asciiSet__contains = some c___strings_asciiSet__contains := by kernel_rfl
def p_gatepostlaw14_RangesContent (L : FuncId → List V → V → Prop) (K : V → Heap → Prop) (a0 a1 a2 : V) (h : Heap) : Prop :=
    (wi F L (.box (.c a0)) E0 h fun v3 h =>
    (wi F L (.load true 2 (.c v3)) E0 h fun v20 h =>
    (wi F L (.call i_ranges_Content [(.c v20), (.c a1)]) E0 h fun v22 h =>
    (wi F L (.ext 0 (.c v22)) E0 h fun v23 h =>
    (wi F L (.ext 1 (.c v22)) E0 h fun v24 h =>
    (wi F L (.load true 2 (.c v3)) E0 h fun v26 h =>
    (wi F L (.call i_gatepostref14_Content [(.c v26), (.c a1)]) E0 h fun v28 h =>
    (wi F L (.ext 0 (.c v28)) E0 h fun v29 h =>
    (wi F L (.ext 1 (.c v28)) E0 h fun v30 h =>
    (wi F L (.call i_ranges_Read [(.c a2)]) E0 h fun v33 h =>
    (wi F L (.ext 0 (.c v33)) E0 h fun v34 h =>
    (wi F L (.ext 1 (.c v33)) E0 h fun v35 h =>
    (wi F L (.ext 2 (.c v33)) E0 h fun v36 h =>
    (wi F L (.boxz [(.int .i64 0), (.int .i64 0)]) E0 h fun v11 h =>
    (wi F L (.store 2 (.c v11) (.c v34)) E0 h fun _ h =>
    (wi F L (.call i_gatepostref14_Read [(.c a2)]) E0 h fun v39 h =>
    (wi F L (.ext 0 (.c v39)) E0 h fun v40 h =>
    (wi F L (.ext 1 (.c v39)) E0 h fun v41 h =>
    (wi F L (.ext 2 (.c v39)) E0 h fun v42 h =>
    (wi F L (.boxz [(.int .i64 0), (.int .i64 0)]) E0 h fun v14 h =>
    (wi F L (.store 2 (.c v14) (.c v40)) E0 h fun _ h =>
    (wi F L (.build [(.int .i64 0), (.int .i64 0)] []) E0 h fun v44 h =>
    (wi F L (.call i_ranges_Content [(.c v44), (.c (.int .i64 5))]) E0 h fun v45 h =>
    (wi F L (.ext 0 (.c v45)) E0 h fun v46 h =>
    (wi F L (.ext 1 (.c v45)) E0 h fun v47 h =>
    (wi F L (.bin .eql (.c v23) (.c v29)) E0 h fun v50 h =>
    (wg v50 true (wi F L (.mv (.c v24)) E0 h) h fun v52 h =>
    (wg v50 true (wi F L (.mv (.c v30)) E0 h) h fun v53 h =>
    (wg v50 true (wi F L (.bin .eql (.c v52) (.c v53)) E0 h) h fun v54 h =>
    (wi F L (.pick (.c v50) (.c v54) (.c (.bool false))) E0 h fun v55 h =>
    (wg v55 true (wi F L (.load true 2 (.c v11)) E0 h) h fun v57 h =>
    (wg v55 true (wi F L (.load true 2 (.c v14)) E0 h) h fun v58 h =>
    (wg v55 true (wi F L (.eq (.agg [.i, .i]) false (.c v57) (.c v58)) E0 h) h fun v59 h =>
    (wi F L (.pick (.c v55) (.c v59) (.c (.bool false))) E0 h fun v60 h =>
    (wg v60 true (wi F L (.mv (.c v35)) E0 h) h fun v62 h =>
    (wg v60 true (wi F L (.mv (.c v41)) E0 h) h fun v63 h =>
    (wg v60 true (wi F L (.bin .eql (.c v62) (.c v63)) E0 h) h fun v64 h =>
    (wi F L (.pick (.c v60) (.c v64) (.c (.bool false))) E0 h fun v65 h =>
    (wg v65 true (wi F L (.mv (.c v36)) E0 h) h fun v67 h =>
    (wg v65 true (wi F L (.mv (.c v42)) E0 h) h fun v68 h =>
    (wg v65 true (wi F L (.eq .bool false (.c v67) (.c v68)) E0 h) h fun v69 h =>
    (wi F L (.pick (.c v65) (.c v69) (.c (.bool false))) E0 h fun v70 h =>
    (wg v70 true (wi F L (.mv (.c v46)) E0 h) h fun v72 h =>
    (wg v70 true (wi F L (.bin .eql (.c v72) (.c (.str [98, 121, 116, 101, 115, 32, 42, 47, 53]))) E0 h) h fun v73 h =>
    (wi F L (.pick (.c v70) (.c v73) (.c (.bool false))) E0 h fun v74 h =>
    (wg v74 true (wi F L (.mv (.c v47)) E0 h) h fun v76 h =>
    (wg v74 true (wi F L (.bin .eql (.c v76) (.c (.int .i64 0))) E0 h) h fun v77 h =>
    (wi F L (.pick (.c v74) (.c v77) (.c (.bool false))) E0 h fun v78 h =>
    (∃ v, some v78 = some v ∧ K v h)))))))))))))))))))))))))))))))))))))))))))))))))
theorem run_gatepostlaw14_RangesContent {L : FuncId → List V → V → Prop} {K : V → Heap → Prop} {a0 a1 a2 : V} {h : Heap} (hp : p_gatepostlaw14_RangesContent L K a0 a1 a2 h) : Cf F L i_gatepostlaw14_RangesContent [a0, a1, a2] h K :=
  wcallp F_gatepostlaw14_RangesContent (show 3 ≤ 79 by decide) (p := p_gatepostlaw14_RangesContent L K a0 a1 a2 h) (by kernel_rfl) hp
def k_gatepostlaw14_RangesBack_1 (L : FuncId → List V → V → Prop) (K : V → Heap → Prop) (v1 v5 : V) (h : Heap) : Prop :=
    (wi F L (.load true 2 (.c v5)) E0 h fun v62 h =>
    (wi F L (.call i_ranges_Resolve [(.c v62), (.c v1)]) E0 h fun v64 h =>
    (wi F L (.ext 0 (.c v64)) E0 h fun v65 h =>
    (wi F L (.ext 1 (.c v64)) E0 h fun v66 h =>
    (wi F L (.boxz [(.int .i64 0), (.int .i64 0)]) E0 h fun v15 h =>
    (wi F L (.store 2 (.c v15) (.c v65)) E0 h fun _ h =>
    (wi F L (.un .not (.c v66)) E0 h fun v68 h =>
    (wg v68 true (wi F L (.load true 2 (.c v15)) E0 h) h fun v70 h =>
    (wg v68 true (wi F L (.build [(.int .i64 0), (.int .i64 0)] []) E0 h) h fun v71 h =>
    (wg v68 true (wi F L (.eq (.agg [.i, .i]) false (.c v70) (.c v71)) E0 h) h fun v72 h =>
    (wi F L (.pick (.c v68) (.c v72) (.c (.bool false))) E0 h fun v73 h =>
    (wg v73 false (wi F L (.mv (.c v66)) E0 h) h fun v75 h =>
    (wg v73 false (wi F L (.mv (.c v75)) E0 h) h fun v76 h =>
    (wg v76 true (wi F L (.faddr 0 (.c v15)) E0 h) h fun v77 h =>
    (wg v76 true (wi F L (.load false 1 (.c v77)) E0 h) h fun v78 h =>
    (wg v76 true (wi F L (.bin .geq (.c v78) (.c (.int .i64 0))) E0 h) h fun v79 h =>
    (wg v73 false (wi F L (.pick (.c v76) (.c v79) (.c (.bool false))) E0 h) h fun v80 h =>
    (wg v73 false (wi F L (.mv (.c v80)) E0 h) h fun v81 h =>
    (wg v81 true (wi F L (.faddr 0 (.c v15)) E0 h) h fun v82 h =>
    (wg v81 true (wi F L (.load false 1 (.c v82)) E0 h) h fun v83 h =>
    (wg v81 true (wi F L (.faddr 1 (.c v15)) E0 h) h fun v84 h =>
    (wg v81 true (wi F L (.load false 1 (.c v84)) E0 h) h fun v85 h =>
    (wg v81 true (wi F L (.bin .lss (.c v83) (.c v85)) E0 h) h fun v86 h =>
    (wg v73 false (wi F L (.pick (.c v81) (.c v86) (.c (.bool false))) E0 h) h fun v87 h =>
    (wg v73 false (wi F L (.mv (.c v87)) E0 h) h fun v88 h =>
    (wg v88 true (wi F L (.faddr 1 (.c v15)) E0 h) h fun v89 h =>
    (wg v88 true (wi F L (.load false 1 (.c v89)) E0 h) h fun v90 h =>
    (wg v88 true (wi F L (.mv (.c v1)) E0 h) h fun v91 h =>
    (wg v88 true (wi F L (.bin .leq (.c v90) (.c v91)) E0 h) h fun v92 h =>
    (wg v73 false (wi F L (.pick (.c v88) (.c v92) (.c (.bool false))) E0 h) h fun v93 h =>
    (wi F L (.pick (.c v73) (.c (.bool true)) (.c v93)) E0 h fun v94 h =>
    (∃ v, some v94 = some v ∧ K v h))))))))))))))))))))))))))))))))
def k_gatepostlaw14_RangesBack_2 (L : FuncId → List V → V → Prop) (K : V → Heap → Prop) (v1 v3 v5 v12 v13 v14 : V) (h : Heap) : Prop :=
    (wi F L (.load true 2 (.c v12)) E0 h fun v49 h =>
    (wi F L (.load true 2 (.c v3)) E0 h fun v50 h =>
    (wi F L (.eq (.agg [.i, .i]) true (.c v49) (.c v50)) E0 h fun v51 h =>
    (wg v51 false (wi F L (.mv (.c v13)) E0 h) h fun v53 h =>
    (wg v51 false (wi F L (.mv (.c v1)) E0 h) h fun v54 h =>
    (wg v51 false (wi F L (.bin .neq (.c v53) (.c v54)) E0 h) h fun v55 h =>
    (wi F L (.pick (.c v51) (.c (.bool true)) (.c v55)) E0 h fun v56 h =>
    (wg v56 false (wi F L (.mv (.c v14)) E0 h) h fun v58 h =>
    (wg v56 false (wi F L (.un .not (.c v58)) E0 h) h fun v59 h =>
    (wi F L (.pick (.c v56) (.c (.bool true)) (.c v59)) E0 h fun v60 h =>
    (wb v60
    (∃ v, some (.bool false) = some v ∧ K v h)
    (k_gatepostlaw14_RangesBack_1 L K v1 v5 h))))))))))))
def k_gatepostlaw14_RangesBack_0 (L : FuncId → List V → V → Prop) (K : V → Heap → Prop) (v1 v3 v5 : V) (h : Heap) : Prop :=
    (wi F L (.load true 2 (.c v3)) E0 h fun v30 h =>
    (wi F L (.call i_ranges_Content [(.c v30), (.c v1)]) E0 h fun v32 h =>
    (wi F L (.ext 0 (.c v32)) E0 h fun v33 h =>
    (wi F L (.ext 1 (.c v32)) E0 h fun v34 h =>
    (wi F L (.bin .eql (.c v34) (.c (.int .i64 0))) E0 h fun v36 h =>
    (wb v36
    (wi F L (.call i_ranges_Read [(.c v33)]) E0 h fun v39 h =>
    (wi F L (.ext 0 (.c v39)) E0 h fun v40 h =>
    (wi F L (.ext 1 (.c v39)) E0 h fun v41 h =>
    (wi F L (.ext 2 (.c v39)) E0 h fun v42 h =>
    (wi F L (.boxz [(.int .i64 0), (.int .i64 0)]) E0 h fun v12 h =>
    (wi F L (.store 2 (.c v12) (.c v40)) E0 h fun _ h =>
    (wi F L (.faddr 0 (.c v3)) E0 h fun v43 h =>
    (wi F L (.load false 1 (.c v43)) E0 h fun v44 h =>
    (wi F L (.faddr 1 (.c v3)) E0 h fun v45 h =>
    (wi F L (.load false 1 (.c v45)) E0 h fun v46 h =>
    (wi F L (.bin .eql (.c v44) (.c v46)) E0 h fun v47 h =>
    (wb v47
    (wi F L (.build [(.int .i64 0), (.int .i64 0)] []) E0 h fun v48 h =>
    (wi F L (.store 2 (.c v3) (.c v48)) E0 h fun _ h =>
    (k_gatepostlaw14_RangesBack_2 L K v1 v3 v5 v12 v41 v42 h)))
    (k_gatepostlaw14_RangesBack_2 L K v1 v3 v5 v12 v41 v42 h)))))))))))))
    (k_gatepostlaw14_RangesBack_1 L K v1 v5 h)))))))
def p_gatepostlaw14_RangesBack (L : FuncId → List V → V → Prop) (K : V → Heap → Prop) (a0 a1 a2 : V) (h : Heap) : Prop :=
    (wi F L (.box (.c a0)) E0 h fun v3 h =>
    (wi F L (.box (.c a2)) E0 h fun v5 h =>
    (wi F L (.call i_ranges_Read [(.c (.str [98, 121, 116, 101, 115, 32, 48, 45, 52, 47, 53]))]) E0 h fun v18 h =>
    (wi F L (.ext 0 (.c v18)) E0 h fun v19 h =>
    (wi F L (.ext 1 (.c v18)) E0 h fun v20 h =>
    (wi F L (.ext 2 (.c v18)) E0 h fun v21 h =>
    (wi F L (.boxz [(.int .i64 0), (.int .i64 0)]) E0 h fun v7 h =>
    (wi F L (.store 2 (.c v7) (.c v19)) E0 h fun _ h =>
    (wi F L (.faddr 1 (.c v7)) E0 h fun v22 h =>
    (wi F L (.load false 1 (.c v22)) E0 h fun v23 h =>
    (wi F L (.bin .neq (.c v23) (.c (.int .i64 5))) E0 h fun v24 h =>
    (wg v24 false (wi F L (.mv (.c v21)) E0 h) h fun v26 h =>
    (wg v24 false (wi F L (.un .not (.c v26)) E0 h) h fun v27 h =>
    (wi F L (.pick (.c v24) (.c (.bool true)) (.c v27)) E0 h fun v28 h =>
    (wb v28
    (∃ v, some (.bool false) = some v ∧ K v h)
    (k_gatepostlaw14_RangesBack_0 L K a1 v3 v5 h))))))))))))))))
theorem run_gatepostlaw14_RangesBack {L : FuncId → List V → V → Prop} {K : V → Heap → Prop} {a0 a1 a2 : V} {h : Heap} (hp : p_gatepostlaw14_RangesBack L K a0 a1 a2 h) : Cf F L i_gatepostlaw14_RangesBack [a0, a1, a2] h K :=
  wcallp F_gatepostlaw14_RangesBack (show 3 ≤ 95 by decide) (p := p_gatepostlaw14_RangesBack L K a0 a1 a2 h) (by kernel_rfl) hp
def k_gatepostlaw14_RangesTells_2 (L : FuncId → List V → V → Prop) (K : V → Heap → Prop) (v0 v2 v4 : V) (h : Heap) : Prop :=
    (wi F L (.load true 2 (.c v4)) E0 h fun v61 h =>
    (wi F L (.call i_ranges_Resolve [(.c v61), (.c v2)]) E0 h fun v63 h =>
    (wi F L (.ext 0 (.c v63)) E0 h fun v64 h =>
    (wi F L (.ext 1 (.c v63)) E0 h fun v65 h =>
    (wi F L (.boxz [(.int .i64 0), (.int .i64 0)]) E0 h fun v12 h =>
    (wi F L (.store 2 (.c v12) (.c v64)) E0 h fun _ h =>
    (wi F L (.load true 2 (.c v4)) E0 h fun v67 h =>
    (wi F L (.call i_gatepostref14_Resolve [(.c v67), (.c v2)]) E0 h fun v69 h =>
    (wi F L (.ext 0 (.c v69)) E0 h fun v70 h =>
    (wi F L (.ext 1 (.c v69)) E0 h fun v71 h =>
    (wi F L (.boxz [(.int .i64 0), (.int .i64 0)]) E0 h fun v14 h =>
    (wi F L (.store 2 (.c v14) (.c v70)) E0 h fun _ h =>
    (wi F L (.call i_ranges_Pick [(.c v0), (.c v2)]) E0 h fun v75 h =>
    (wi F L (.ext 0 (.c v75)) E0 h fun v76 h =>
    (wi F L (.ext 1 (.c v75)) E0 h fun v77 h =>
    (wi F L (.boxz [(.int .i64 0), (.int .i64 0)]) E0 h fun v16 h =>
    (wi F L (.store 2 (.c v16) (.c v76)) E0 h fun _ h =>
    (wi F L (.call i_gatepostref14_Pick [(.c v0), (.c v2)]) E0 h fun v81 h =>
    (wi F L (.ext 0 (.c v81)) E0 h fun v82 h =>
    (wi F L (.ext 1 (.c v81)) E0 h fun v83 h =>
    (wi F L (.boxz [(.int .i64 0), (.int .i64 0)]) E0 h fun v18 h =>
    (wi F L (.store 2 (.c v18) (.c v82)) E0 h fun _ h =>
    (wi F L (.call i_ranges_Pick [(.c (.str [98, 121, 116, 101, 115, 61, 48, 45, 49])), (.c (.int .i64 10))]) E0 h fun v85 h =>
    (wi F L (.ext 0 (.c v85)) E0 h fun v86 h =>
    (wi F L (.ext 1 (.c v85)) E0 h fun v87 h =>
    (wi F L (.boxz [(.int .i64 0), (.int .i64 0)]) E0 h fun v20 h =>
    (wi F L (.store 2 (.c v20) (.c v86)) E0 h fun _ h =>
    (wi F L (.load true 2 (.c v12)) E0 h fun v88 h =>
    (wi F L (.load true 2 (.c v14)) E0 h fun v89 h =>
    (wi F L (.eq (.agg [.i, .i]) false (.c v88) (.c v89)) E0 h fun v90 h =>
    (wg v90 true (wi F L (.mv (.c v65)) E0 h) h fun v92 h =>
    (wg v90 true (wi F L (.mv (.c v71)) E0 h) h fun v93 h =>
    (wg v90 true (wi F L (.eq .bool false (.c v92) (.c v93)) E0 h) h fun v94 h =>
    (wi F L (.pick (.c v90) (.c v94) (.c (.bool false))) E0 h fun v95 h =>
    (wg v95 true (wi F L (.load true 2 (.c v16)) E0 h) h fun v97 h =>
    (wg v95 true (wi F L (.load true 2 (.c v18)) E0 h) h fun v98 h =>
    (wg v95 true (wi F L (.eq (.agg [.i, .i]) false (.c v97) (.c v98)) E0 h) h fun v99 h =>
    (wi F L (.pick (.c v95) (.c v99) (.c (.bool false))) E0 h fun v100 h =>
    (wg v100 true (wi F L (.mv (.c v77)) E0 h) h fun v102 h =>
    (wg v100 true (wi F L (.mv (.c v83)) E0 h) h fun v103 h =>
    (wg v100 true (wi F L (.bin .eql (.c v102) (.c v103)) E0 h) h fun v104 h =>
    (wi F L (.pick (.c v100) (.c v104) (.c (.bool false))) E0 h fun v105 h =>
    (wg v105 true (wi F L (.load true 2 (.c v20)) E0 h) h fun v107 h =>
    (wg v105 true (wi F L (.build [(.int .i64 0), (.int .i64 0)] [(0, 1, (.c (.int .i64 0))), (1, 1, (.c (.int .i64 2)))]) E0 h) h fun v108 h =>
    (wg v105 true (wi F L (.eq (.agg [.i, .i]) false (.c v107) (.c v108)) E0 h) h fun v109 h =>
    (wi F L (.pick (.c v105) (.c v109) (.c (.bool false))) E0 h fun v110 h =>
    (wg v110 true (wi F L (.mv (.c v87)) E0 h) h fun v112 h =>
    (wg v110 true (wi F L (.bin .eql (.c v112) (.c (.int .i64 1))) E0 h) h fun v113 h =>
    (wi F L (.pick (.c v110) (.c v113) (.c (.bool false))) E0 h fun v114 h =>
    (∃ v, some v114 = some v ∧ K v h))))))))))))))))))))))))))))))))))))))))))))))))))
def k_gatepostlaw14_RangesTells_4 (L : FuncId → List V → V → Prop) (K : V → Heap → Prop) (N0 : Env → Heap → Prop) (e : Env) (v11 : V) (h : Heap) : Prop :=
    (wi F L (.bin .add (.c v11) (.c (.int .i64 1))) E0 h fun v50 h =>
    (N0 (upd (upd (upd e 49 v11) 50 v50) 11 v50) h))
def k_gatepostlaw14_RangesTells_3 (L : FuncId → List V → V → Prop) (K : V → Heap → Prop) (N0 : Env → Heap → Prop) (e : Env) (v7 v9 v11 : V) (h : Heap) : Prop :=
    (wi F L (.ixaSl 2 (.c v7) (.c v11)) E0 h fun v53 h' => Ext h h' ∧
    (wi F L (.load true 2 (.c v53)) E0 h' fun v54 h => Ext h' h ∧
    (wi F L (.ixaSl 2 (.c v9) (.c v11)) E0 h fun v57 h' => Ext h h' ∧
    (wi F L (.load true 2 (.c v57)) E0 h' fun v58 h => Ext h' h ∧
    (wi F L (.eq (.agg [.i, .i]) true (.c v54) (.c v58)) E0 h fun v59 h =>
    (wb v59
    (∃ v, some (.bool false) = some v ∧ K v h)
    (k_gatepostlaw14_RangesTells_4 L K N0 (upd (upd (upd (upd (upd (upd (upd (upd (upd e 51 v7) 52 v11) 53 v53) 54 v54) 55 v9) 56 v11) 57 v57) 58 v58) 59 v59) v11 h)))))))
def q_gatepostlaw14_RangesTells_0 (L : FuncId → List V → V → Prop) (K : V → Heap → Prop) : X → Env → Heap → Prop := (fun x => (seqX (fun e h => k_gatepostlaw14_RangesTells_2 L K (e 0) (e 2) (e 4) h) (retX c_gatepostlaw14_RangesTells.results K)) (X.out 0 x))
def lc_gatepostlaw14_RangesTells_0 : C :=
  (.seq (.seq (.region [⟨(some 45), none, .mv (.t 11)⟩, ⟨(some 46), none, .mv (.t 9)⟩, ⟨(some 47), none, .len 1 (.t 46)⟩, ⟨(some 48), none, .bin .lss (.t 45) (.t 47)⟩])
  (.cond (.t 48)
    .skip
    (.exit 0)))
  (.seq (.block 1 (.seq (.dregion [⟨(some 51), none, .mv (.t 7)⟩, ⟨(some 52), none, .mv (.t 11)⟩, ⟨(some 53), none, .ixaSl 2 (.t 51) (.t 52)⟩, ⟨(some 54), none, .load true 2 (.t 53)⟩, ⟨(some 55), none, .mv (.t 9)⟩, ⟨(some 56), none, .mv (.t 11)⟩, ⟨(some 57), none, .ixaSl 2 (.t 55) (.t 56)⟩, ⟨(some 58), none, .load true 2 (.t 57)⟩] [⟨(some 59), none, .eq (.agg [.i, .i]) true (.t 54) (.t 58)⟩])
  (.cond (.t 59)
    (.seq (.region [⟨(some 6), none, .mv (.c (.bool false))⟩])
    .ret)
    .skip)))
  (.region [⟨(some 49), none, .mv (.t 11)⟩, ⟨(some 50), none, .bin .add (.t 49) (.c (.int .i64 1))⟩, ⟨(some 11), none, .mv (.t 50)⟩])))
def b_gatepostlaw14_RangesTells_0 (L : FuncId → List V → V → Prop) (K : V → Heap → Prop) (N0 : Env → Heap → Prop) (e : Env) (h : Heap) : Prop :=
    (wi F L (.len 1 (.c (e 9))) E0 h fun v47 h =>
    (wi F L (.bin .lss (.c (e 11)) (.c v47)) E0 h fun v48 h =>
    (wb v48
    (k_gatepostlaw14_RangesTells_3 L K N0 (upd (upd (upd (upd e 45 (e 11)) 46 (e 9)) 47 v47) 48 v48) (e 7) (e 9) (e 11) h)
    (k_gatepostlaw14_RangesTells_2 L K (e 0) (e 2) (e 4) h))))
theorem l_gatepostlaw14_RangesTells_0 {L : FuncId → List V → V → Prop} {K : V → Heap → Prop} (I : Nat → Env → Heap → Prop) (hr : ∀ n e h, I n e h → b_gatepostlaw14_RangesTells_0 L K (fun e' h' => ∃ m, m < n ∧ I m e' h') e h) {n : Nat} {e : Env} {h : Heap} (hi : I n e h) : Wl F L lc_gatepostlaw14_RangesTells_0 (q_gatepostlaw14_RangesTells_0 L K) e h :=
  wloopp (b := b_gatepostlaw14_RangesTells_0 L K) I (fun _ _ _ => by kernel_rfl) hr hi
def k_gatepostlaw14_RangesTells_1 (L : FuncId → List V → V → Prop) (K : V → Heap → Prop) (e : Env) (h : Heap) : Prop :=
    (Wl F L lc_gatepostlaw14_RangesTells_0 (q_gatepostlaw14_RangesTells_0 L K) (upd e 11 (.int .i64 0)) h)
def k_gatepostlaw14_RangesTells_0 (L : FuncId → List V → V → Prop) (K : V → Heap → Prop) (e : Env) (v0 : V) (h : Heap) : Prop :=
    (wi F L (.call i_ranges_Parse [(.c v0)]) E0 h fun v27 h =>
    (wi F L (.ext 0 (.c v27)) E0 h fun v28 h =>
    (wi F L (.ext 1 (.c v27)) E0 h fun v29 h =>
    (wi F L (.call i_gatepostref14_Parse [(.c v0)]) E0 h fun v32 h =>
    (wi F L (.ext 0 (.c v32)) E0 h fun v33 h =>
    (wi F L (.ext 1 (.c v32)) E0 h fun v34 h =>
    (wi F L (.eq .bool true (.c v29) (.c v34)) E0 h fun v37 h =>
    (wg v37 false (wi F L (.mv (.c v28)) E0 h) h fun v39 h =>
    (wg v37 false (wi F L (.len 1 (.c v39)) E0 h) h fun v40 h =>
    (wg v37 false (wi F L (.mv (.c v33)) E0 h) h fun v41 h =>
    (wg v37 false (wi F L (.len 1 (.c v41)) E0 h) h fun v42 h =>
    (wg v37 false (wi F L (.bin .neq (.c v40) (.c v42)) E0 h) h fun v43 h =>
    (wi F L (.pick (.c v37) (.c (.bool true)) (.c v43)) E0 h fun v44 h =>
    (wb v44
    (∃ v, some (.bool false) = some v ∧ K v h)
    (k_gatepostlaw14_RangesTells_1 L K (upd (upd (upd (upd (upd (upd (upd (upd (upd (upd (upd (upd (upd (upd (upd (upd (upd (upd (upd (upd (upd (upd (upd (upd e 26 v0) 27 v27) 25 v27) 28 v28) 29 v29) 7 v28) 8 v29) 31 v0) 32 v32) 30 v32) 33 v33) 34 v34) 9 v33) 10 v34) 35 v29) 36 v34) 37 v37) 38 v37) 39 v39) 40 v40) 41 v41) 42 v42) 43 v43) 44 v44)  h)))))))))))))))
def p_gatepostlaw14_RangesTells (L : FuncId → List V → V → Prop) (K : V → Heap → Prop) (a0 a1 a2 : V) (h : Heap) : Prop :=
    (wi F L (.box (.c a1)) E0 h fun v4 h =>
    (wi F L (.len 0 (.c a0)) E0 h fun v23 h =>
    (wi F L (.bin .gtr (.c v23) (.c (.int .i64 1000))) E0 h fun v24 h =>
    (wb v24
    (∃ v, some (.bool true) = some v ∧ K v h)
    (k_gatepostlaw14_RangesTells_0 L K (upd (upd (upd (upd (upd (enterE [a0, a1, a2]) 4 v4) 6 (.bool false)) 22 a0) 23 v23) 24 v24) a0 h)))))
theorem run_gatepostlaw14_RangesTells {L : FuncId → List V → V → Prop} {K : V → Heap → Prop} {a0 a1 a2 : V} {h : Heap} (hp : p_gatepostlaw14_RangesTells L K a0 a1 a2 h) : Cf F L i_gatepostlaw14_RangesTells [a0, a1, a2] h K :=
  wcallp F_gatepostlaw14_RangesTells (show 3 ≤ 115 by decide) (p := p_gatepostlaw14_RangesTells L K a0 a1 a2 h) (by kernel_rfl) hp
def k_gatepostlaw14_RangesOne_2 (L : FuncId → List V → V → Prop) (K : V → Heap → Prop) (v0 v2 v12 v13 : V) (h : Heap) : Prop :=
    (wi F L (.bin .eql (.c v13) (.c (.int .i64 1))) E0 h fun v99 h =>
    (wg v99 true (wi F L (.load true 2 (.c v12)) E0 h) h fun v101 h =>
    (wg v99 true (wi F L (.mv (.c v2)) E0 h) h fun v102 h =>
    (wg v99 true (wi F L (.mv (.c v0)) E0 h) h fun v103 h =>
    (wg v99 true (wi F L (.bin .sub (.c v102) (.c v103)) E0 h) h fun v104 h =>
    (wg v99 true (wi F L (.mx [(.c (.int .i64 0)), (.c v104)]) E0 h) h fun v105 h =>
    (wg v99 true (wi F L (.mv (.c v2)) E0 h) h fun v106 h =>
    (wg v99 true (wi F L (.build [(.int .i64 0), (.int .i64 0)] [(0, 1, (.c v105)), (1, 1, (.c v106))]) E0 h) h fun v107 h =>
    (wg v99 true (wi F L (.eq (.agg [.i, .i]) false (.c v101) (.c v107)) E0 h) h fun v108 h =>
    (wi F L (.pick (.c v99) (.c v108) (.c (.bool false))) E0 h fun v109 h =>
    (∃ v, some v109 = some v ∧ K v h)))))))))))
def k_gatepostlaw14_RangesOne_1 (L : FuncId → List V → V → Prop) (K : V → Heap → Prop) (v0 v2 v12 v13 : V) (h : Heap) : Prop :=
    (wi F L (.bin .eql (.c v0) (.c (.int .i64 0))) E0 h fun v91 h =>
    (wg v91 false (wi F L (.mv (.c v2)) E0 h) h fun v93 h =>
    (wg v91 false (wi F L (.bin .eql (.c v93) (.c (.int .i64 0))) E0 h) h fun v94 h =>
    (wi F L (.pick (.c v91) (.c (.bool true)) (.c v94)) E0 h fun v95 h =>
    (wb v95
    (wi F L (.bin .eql (.c v13) (.c (.int .i64 2))) E0 h fun v97 h =>
    (∃ v, some v97 = some v ∧ K v h))
    (k_gatepostlaw14_RangesOne_2 L K v0 v2 v12 v13 h))))))
def k_gatepostlaw14_RangesOne_0 (L : FuncId → List V → V → Prop) (K : V → Heap → Prop) (v0 v1 v2 : V) (h : Heap) : Prop :=
    (wi F L (.call i_gatepostlaw14_number [(.c v0)]) E0 h fun v26 h =>
    (wi F L (.bin .add (.c v26) (.c (.str [45]))) E0 h fun v27 h =>
    (wi F L (.call i_gatepostlaw14_number [(.c v1)]) E0 h fun v29 h =>
    (wi F L (.bin .add (.c v27) (.c v29)) E0 h fun v30 h =>
    (wi F L (.bin .add (.c (.str [98, 121, 116, 101, 115, 61])) (.c v30)) E0 h fun v33 h =>
    (wi F L (.call i_ranges_Pick [(.c v33), (.c v2)]) E0 h fun v35 h =>
    (wi F L (.ext 0 (.c v35)) E0 h fun v36 h =>
    (wi F L (.ext 1 (.c v35)) E0 h fun v37 h =>
    (wi F L (.boxz [(.int .i64 0), (.int .i64 0)]) E0 h fun v8 h =>
    (wi F L (.store 2 (.c v8) (.c v36)) E0 h fun _ h =>
    (wi F L (.bin .add (.c (.str [66, 89, 84, 69, 83, 61])) (.c v30)) E0 h fun v40 h =>
    (wi F L (.bin .add (.c v40) (.c (.str [44, 32, 48, 45, 48]))) E0 h fun v41 h =>
    (wi F L (.call i_ranges_Pick [(.c v41), (.c v2)]) E0 h fun v43 h =>
    (wi F L (.ext 0 (.c v43)) E0 h fun v44 h =>
    (wi F L (.ext 1 (.c v43)) E0 h fun v45 h =>
    (wi F L (.boxz [(.int .i64 0), (.int .i64 0)]) E0 h fun v10 h =>
    (wi F L (.store 2 (.c v10) (.c v44)) E0 h fun _ h =>
    (wi F L (.call i_gatepostlaw14_number [(.c v0)]) E0 h fun v48 h =>
    (wi F L (.bin .add (.c (.str [98, 121, 116, 101, 115, 61, 45])) (.c v48)) E0 h fun v49 h =>
    (wi F L (.call i_ranges_Pick [(.c v49), (.c v2)]) E0 h fun v51 h =>
    (wi F L (.ext 0 (.c v51)) E0 h fun v52 h =>
    (wi F L (.ext 1 (.c v51)) E0 h fun v53 h =>
    (wi F L (.boxz [(.int .i64 0), (.int .i64 0)]) E0 h fun v12 h =>
    (wi F L (.store 2 (.c v12) (.c v52)) E0 h fun _ h =>
    (wi F L (.bin .geq (.c v0) (.c v2)) E0 h fun v56 h =>
    (wb v56
    (wi F L (.bin .neq (.c v37) (.c (.int .i64 2))) E0 h fun v58 h =>
    (wg v58 false (wi F L (.load true 2 (.c v8)) E0 h) h fun v60 h =>
    (wg v58 false (wi F L (.build [(.int .i64 0), (.int .i64 0)] []) E0 h) h fun v61 h =>
    (wg v58 false (wi F L (.eq (.agg [.i, .i]) true (.c v60) (.c v61)) E0 h) h fun v62 h =>
    (wi F L (.pick (.c v58) (.c (.bool true)) (.c v62)) E0 h fun v63 h =>
    (wb v63
    (∃ v, some (.bool false) = some v ∧ K v h)
    (k_gatepostlaw14_RangesOne_1 L K v0 v2 v12 v53 h)))))))
    (wi F L (.bin .neq (.c v37) (.c (.int .i64 1))) E0 h fun v65 h =>
    (wg v65 false (wi F L (.faddr 0 (.c v8)) E0 h) h fun v67 h =>
    (wg v65 false (wi F L (.load false 1 (.c v67)) E0 h) h fun v68 h =>
    (wg v65 false (wi F L (.mv (.c v0)) E0 h) h fun v69 h =>
    (wg v65 false (wi F L (.bin .neq (.c v68) (.c v69)) E0 h) h fun v70 h =>
    (wi F L (.pick (.c v65) (.c (.bool true)) (.c v70)) E0 h fun v71 h =>
    (wg v71 false (wi F L (.faddr 1 (.c v8)) E0 h) h fun v73 h =>
    (wg v71 false (wi F L (.load false 1 (.c v73)) E0 h) h fun v74 h =>
    (wg v71 false (wi F L (.mv (.c v1)) E0 h) h fun v75 h =>
    (wg v71 false (wi F L (.bin .add (.c v75) (.c (.int .i64 1))) E0 h) h fun v76 h =>
    (wg v71 false (wi F L (.mv (.c v2)) E0 h) h fun v77 h =>
    (wg v71 false (wi F L (.mn [(.c v76), (.c v77)]) E0 h) h fun v78 h =>
    (wg v71 false (wi F L (.bin .neq (.c v74) (.c v78)) E0 h) h fun v79 h =>
    (wi F L (.pick (.c v71) (.c (.bool true)) (.c v79)) E0 h fun v80 h =>
    (wg v80 false (wi F L (.mv (.c v45)) E0 h) h fun v82 h =>
    (wg v80 false (wi F L (.bin .neq (.c v82) (.c (.int .i64 0))) E0 h) h fun v83 h =>
    (wi F L (.pick (.c v80) (.c (.bool true)) (.c v83)) E0 h fun v84 h =>
    (wg v84 false (wi F L (.load true 2 (.c v10)) E0 h) h fun v86 h =>
    (wg v84 false (wi F L (.build [(.int .i64 0), (.int .i64 0)] []) E0 h) h fun v87 h =>
    (wg v84 false (wi F L (.eq (.agg [.i, .i]) true (.c v86) (.c v87)) E0 h) h fun v88 h =>
    (wi F L (.pick (.c v84) (.c (.bool true)) (.c v88)) E0 h fun v89 h =>
    (wb v89
    (∃ v, some (.bool false) = some v ∧ K v h)
    (k_gatepostlaw14_RangesOne_1 L K v0 v2 v12 v53 h)))))))))))))))))))))))))))))))))))))))))))))))))
def p_gatepostlaw14_RangesOne (L : FuncId → List V → V → Prop) (K : V → Heap → Prop) (a0 a1 a2 : V) (h : Heap) : Prop :=
    (wi F L (.bin .and (.c a0) (.c (.int .i64 31))) E0 h fun v15 h =>
    (wi F L (.bin .and (.c a1) (.c (.int .i64 31))) E0 h fun v17 h =>
    (wi F L (.bin .and (.c a2) (.c (.int .i64 31))) E0 h fun v19 h =>
    (wi F L (.bin .gtr (.c v15) (.c v17)) E0 h fun v22 h =>
    (wb v22
    (k_gatepostlaw14_RangesOne_0 L K v17 v15 v19 h)
    (k_gatepostlaw14_RangesOne_0 L K v15 v17 v19 h))))))
theorem run_gatepostlaw14_RangesOne {L : FuncId → List V → V → Prop} {K : V → Heap → Prop} {a0 a1 a2 : V} {h : Heap} (hp : p_gatepostlaw14_RangesOne L K a0 a1 a2 h) : Cf F L i_gatepostlaw14_RangesOne [a0, a1, a2] h K :=
  wcallp F_gatepostlaw14_RangesOne (show 3 ≤ 110 by decide) (p := p_gatepostlaw14_RangesOne L K a0 a1 a2 h) (by kernel_rfl) hp
def k_gatepostlaw14_RangesMany_4 (L : FuncId → List V → V → Prop) (K : V → Heap → Prop) (v9 v10 : V) (h : Heap) : Prop :=
    (wi F L (.bin .eql (.c v10) (.c (.int .i64 0))) E0 h fun v78 h =>
    (wg v78 true (wi F L (.load true 2 (.c v9)) E0 h) h fun v80 h =>
    (wg v78 true (wi F L (.build [(.int .i64 0), (.int .i64 0)] []) E0 h) h fun v81 h =>
    (wg v78 true (wi F L (.eq (.agg [.i, .i]) false (.c v80) (.c v81)) E0 h) h fun v82 h =>
    (wi F L (.pick (.c v78) (.c v82) (.c (.bool false))) E0 h fun v83 h =>
    (∃ v, some v83 = some v ∧ K v h))))))
def k_gatepostlaw14_RangesMany_3 (L : FuncId → List V → V → Prop) (K : V → Heap → Prop) (v1 v9 v10 : V) (h : Heap) : Prop :=
    (wi F L (.bin .eql (.c v1) (.c (.int .i64 1))) E0 h fun v69 h =>
    (wb v69
    (wi F L (.bin .eql (.c v10) (.c (.int .i64 1))) E0 h fun v71 h =>
    (wg v71 true (wi F L (.load true 2 (.c v9)) E0 h) h fun v73 h =>
    (wg v71 true (wi F L (.build [(.int .i64 0), (.int .i64 0)] [(0, 1, (.c (.int .i64 0))), (1, 1, (.c (.int .i64 1)))]) E0 h) h fun v74 h =>
    (wg v71 true (wi F L (.eq (.agg [.i, .i]) false (.c v73) (.c v74)) E0 h) h fun v75 h =>
    (wi F L (.pick (.c v71) (.c v75) (.c (.bool false))) E0 h fun v76 h =>
    (∃ v, some v76 = some v ∧ K v h))))))
    (k_gatepostlaw14_RangesMany_4 L K v9 v10 h)))
def k_gatepostlaw14_RangesMany_2 (L : FuncId → List V → V → Prop) (K : V → Heap → Prop) (v1 v9 v10 : V) (h : Heap) : Prop :=
    (wi F L (.bin .eql (.c v1) (.c (.int .i64 0))) E0 h fun v65 h =>
    (wb v65
    (wi F L (.bin .eql (.c v10) (.c (.int .i64 2))) E0 h fun v67 h =>
    (∃ v, some v67 = some v ∧ K v h))
    (k_gatepostlaw14_RangesMany_3 L K v1 v9 v10 h)))
def k_gatepostlaw14_RangesMany_1 (L : FuncId → List V → V → Prop) (K : V → Heap → Prop) (v1 v8 v9 v10 : V) (h : Heap) : Prop :=
    (wi F L (.un .not (.c v8)) E0 h fun v63 h =>
    (wb v63
    (∃ v, some (.bool true) = some v ∧ K v h)
    (k_gatepostlaw14_RangesMany_2 L K v1 v9 v10 h)))
def k_gatepostlaw14_RangesMany_0 (L : FuncId → List V → V → Prop) (K : V → Heap → Prop) (v0 v1 v5 : V) (h : Heap) : Prop :=
    (wi F L (.call i_ranges_Parse [(.c v5)]) E0 h fun v32 h =>
    (wi F L (.ext 0 (.c v32)) E0 h fun v33 h =>
    (wi F L (.ext 1 (.c v32)) E0 h fun v34 h =>
    (wi F L (.call i_ranges_Pick [(.c v5), (.c v1)]) E0 h fun v38 h =>
    (wi F L (.ext 0 (.c v38)) E0 h fun v39 h =>
    (wi F L (.ext 1 (.c v38)) E0 h fun v40 h =>
    (wi F L (.boxz [(.int .i64 0), (.int .i64 0)]) E0 h fun v9 h =>
    (wi F L (.store 2 (.c v9) (.c v39)) E0 h fun _ h =>
    (wi F L (.bin .leq (.c v0) (.c (.int .i64 32))) E0 h fun v43 h =>
    (wi F L (.eq .bool true (.c v34) (.c v43)) E0 h fun v44 h =>
    (wg v44 false (wi F L (.mv (.c v34)) E0 h) h fun v46 h =>
    (wg v44 false (wi F L (.mv (.c v46)) E0 h) h fun v47 h =>
    (wg v47 true (wi F L (.mv (.c v33)) E0 h) h fun v48 h =>
    (wg v47 true (wi F L (.len 1 (.c v48)) E0 h) h fun v49 h =>
    (wg v47 true (wi F L (.mv (.c v0)) E0 h) h fun v50 h =>
    (wg v47 true (wi F L (.bin .neq (.c v49) (.c v50)) E0 h) h fun v51 h =>
    (wg v44 false (wi F L (.pick (.c v47) (.c v51) (.c (.bool false))) E0 h) h fun v52 h =>
    (wi F L (.pick (.c v44) (.c (.bool true)) (.c v52)) E0 h fun v53 h =>
    (wg v53 false (wi F L (.mv (.c v34)) E0 h) h fun v55 h =>
    (wg v53 false (wi F L (.un .not (.c v55)) E0 h) h fun v56 h =>
    (wg v53 false (wi F L (.mv (.c v56)) E0 h) h fun v57 h =>
    (wg v57 true (wi F L (.mv (.c v40)) E0 h) h fun v58 h =>
    (wg v57 true (wi F L (.bin .neq (.c v58) (.c (.int .i64 0))) E0 h) h fun v59 h =>
    (wg v53 false (wi F L (.pick (.c v57) (.c v59) (.c (.bool false))) E0 h) h fun v60 h =>
    (wi F L (.pick (.c v53) (.c (.bool true)) (.c v60)) E0 h fun v61 h =>
    (wb v61
    (∃ v, some (.bool false) = some v ∧ K v h)
    (k_gatepostlaw14_RangesMany_1 L K v1 v34 v9 v40 h)))))))))))))))))))))))))))
def k_gatepostlaw14_RangesMany_6 (L : FuncId → List V → V → Prop) (K : V → Heap → Prop) (N0 : Env → Heap → Prop) (e : Env) (v6 : V) (h : Heap) : Prop :=
    (wi F L (.bin .add (.c v6) (.c (.int .i64 1))) E0 h fun v20 h =>
    (N0 (upd (upd (upd e 19 v6) 20 v20) 6 v20) h))
def k_gatepostlaw14_RangesMany_5 (L : FuncId → List V → V → Prop) (K : V → Heap → Prop) (N0 : Env → Heap → Prop) (e : Env) (v5 v6 : V) (h : Heap) : Prop :=
    (wi F L (.call i_gatepostlaw14_number [(.c v6)]) E0 h fun v23 h =>
    (wi F L (.bin .add (.c v5) (.c v23)) E0 h fun v24 h =>
    (wi F L (.bin .add (.c v24) (.c (.str [45]))) E0 h fun v25 h =>
    (wi F L (.call i_gatepostlaw14_number [(.c v6)]) E0 h fun v27 h =>
    (wi F L (.bin .add (.c v25) (.c v27)) E0 h fun v28 h =>
    (wi F L (.bin .add (.c v28) (.c (.str [44]))) E0 h fun v29 h =>
    (k_gatepostlaw14_RangesMany_6 L K N0 (upd (upd (upd (upd (upd (upd (upd (upd (upd (upd e 21 v5) 22 v6) 23 v23) 24 v24) 25 v25) 26 v6) 27 v27) 28 v28) 29 v29) 5 v29) v6 h)))))))
def q_gatepostlaw14_RangesMany_0 (L : FuncId → List V → V → Prop) (K : V → Heap → Prop) : X → Env → Heap → Prop := (fun x => (seqX (fun e h => k_gatepostlaw14_RangesMany_0 L K (e 0) (e 1) (e 5) h) (retX c_gatepostlaw14_RangesMany.results K)) (X.out 0 x))
def lc_gatepostlaw14_RangesMany_0 : C :=
  (.seq (.seq (.region [⟨(some 16), none, .mv (.t 6)⟩, ⟨(some 17), none, .mv (.t 0)⟩, ⟨(some 18), none, .bin .lss (.t 16) (.t 17)⟩])
  (.cond (.t 18)
    .skip
    (.exit 0)))
  (.seq (.block 1 (.region [⟨(some 21), none, .mv (.t 5)⟩, ⟨(some 22), none, .mv (.t 6)⟩, ⟨(some 23), none, .call i_gatepostlaw14_number [(.t 22)]⟩, ⟨(some 24), none, .bin .add (.t 21) (.t 23)⟩, ⟨(some 25), none, .bin .add (.t 24) (.c (.str [45]))⟩, ⟨(some 26), none, .mv (.t 6)⟩, ⟨(some 27), none, .call i_gatepostlaw14_number [(.t 26)]⟩, ⟨(some 28), none, .bin .add (.t 25) (.t 27)⟩, ⟨(some 29), none, .bin .add (.t 28) (.c (.str [44]))⟩, ⟨(some 5), none, .mv (.t 29)⟩]))
  (.region [⟨(some 19), none, .mv (.t 6)⟩, ⟨(some 20), none, .bin .add (.t 19) (.c (.int .i64 1))⟩, ⟨(some 6), none, .mv (.t 20)⟩])))
def b_gatepostlaw14_RangesMany_0 (L : FuncId → List V → V → Prop) (K : V → Heap → Prop) (N0 : Env → Heap → Prop) (e : Env) (h : Heap) : Prop :=
    (wi F L (.bin .lss (.c (e 6)) (.c (e 0))) E0 h fun v18 h =>
    (wb v18
    (k_gatepostlaw14_RangesMany_5 L K N0 (upd (upd (upd e 16 (e 6)) 17 (e 0)) 18 v18) (e 5) (e 6) h)
    (k_gatepostlaw14_RangesMany_0 L K (e 0) (e 1) (e 5) h)))
theorem l_gatepostlaw14_RangesMany_0 {L : FuncId → List V → V → Prop} {K : V → Heap → Prop} (I : Nat → Env → Heap → Prop) (hr : ∀ n e h, I n e h → b_gatepostlaw14_RangesMany_0 L K (fun e' h' => ∃ m, m < n ∧ I m e' h') e h) {n : Nat} {e : Env} {h : Heap} (hi : I n e h) : Wl F L lc_gatepostlaw14_RangesMany_0 (q_gatepostlaw14_RangesMany_0 L K) e h :=
  wloopp (b := b_gatepostlaw14_RangesMany_0 L K) I (fun _ _ _ => by kernel_rfl) hr hi
def p_gatepostlaw14_RangesMany (L : FuncId → List V → V → Prop) (K : V → Heap → Prop) (a0 a1 : V) (h : Heap) : Prop :=
    (wi F L (.bin .and (.c a0) (.c (.int .i64 7))) E0 h fun v12 h =>
    (wi F L (.bin .add (.c (.int .i64 28)) (.c v12)) E0 h fun v13 h =>
    (wi F L (.bin .and (.c a1) (.c (.int .i64 63))) E0 h fun v15 h =>
    (Wl F L lc_gatepostlaw14_RangesMany_0 (q_gatepostlaw14_RangesMany_0 L K) (upd (upd (upd (upd (upd (upd (upd (upd (upd (upd (enterE [a0, a1]) 4 (.bool false)) 11 a0) 12 v12) 13 v13) 0 v13) 14 a1) 15 v15) 1 v15) 5 (.str [98, 121, 116, 101, 115, 61])) 6 (.int .i64 0)) h))))
theorem run_gatepostlaw14_RangesMany {L : FuncId → List V → V → Prop} {K : V → Heap → Prop} {a0 a1 : V} {h : Heap} (hp : p_gatepostlaw14_RangesMany L K a0 a1 h) : Cf F L i_gatepostlaw14_RangesMany [a0, a1] h K :=
  wcallp F_gatepostlaw14_RangesMany (show 2 ≤ 84 by decide) (p := p_gatepostlaw14_RangesMany L K a0 a1 h) (by kernel_rfl) hp
def k_ranges_Content_2 (L : FuncId → List V → V → Prop) (K : V → Heap → Prop) (v6 v7 : V) (h : Heap) : Prop :=
    (wi F L (.bin .add (.c (.str [98, 121, 116, 101, 115, 32])) (.c v6)) E0 h fun v31 h =>
    (wi F L (.bin .add (.c v31) (.c (.str [47]))) E0 h fun v32 h =>
    (wi F L (.bin .add (.c v32) (.c v7)) E0 h fun v34 h =>
    (∃ v, resultsV h (enterE [v34, (.int .i64 0)]) [.tmp 0, .tmp 1] = some v ∧ K v h))))
def k_ranges_Content_1 (L : FuncId → List V → V → Prop) (K : V → Heap → Prop) (v1 v6 v7 : V) (h : Heap) : Prop :=
    (wi F L (.bin .neq (.c v1) (.c (.int .i64 (-1)))) E0 h fun v27 h =>
    (wb v27
    (wi F L (.call i_strconv_Itoa [(.c v1)]) E0 h fun v29 h =>
    (k_ranges_Content_2 L K v6 v29 h))
    (k_ranges_Content_2 L K v6 v7 h)))
def k_ranges_Content_0 (L : FuncId → List V → V → Prop) (K : V → Heap → Prop) (v1 v2 : V) (h : Heap) : Prop :=
    (wi F L (.faddr 0 (.c v2)) E0 h fun v12 h =>
    (wi F L (.load false 1 (.c v12)) E0 h fun v13 h =>
    (wi F L (.faddr 1 (.c v2)) E0 h fun v14 h =>
    (wi F L (.load false 1 (.c v14)) E0 h fun v15 h =>
    (wi F L (.bin .lss (.c v13) (.c v15)) E0 h fun v16 h =>
    (wb v16
    (wi F L (.faddr 0 (.c v2)) E0 h fun v17 h' => Ext h h' ∧
    (wi F L (.load false 1 (.c v17)) E0 h' fun v18 h => Ext h' h ∧
    (wi F L (.call i_strconv_Itoa [(.c v18)]) E0 h fun v19 h' => Ext h h' ∧
    (wi F L (.bin .add (.c v19) (.c (.str [45]))) E0 h' fun v20 h => Ext h' h ∧
    (wi F L (.faddr 1 (.c v2)) E0 h fun v21 h' => Ext h h' ∧
    (wi F L (.load false 1 (.c v21)) E0 h' fun v22 h => Ext h' h ∧
    (wi F L (.bin .sub (.c v22) (.c (.int .i64 1))) E0 h fun v23 h' => Ext h h' ∧
    (wi F L (.call i_strconv_Itoa [(.c v23)]) E0 h' fun v24 h => Ext h' h ∧
    (wi F L (.bin .add (.c v20) (.c v24)) E0 h fun v25 h =>
    (k_ranges_Content_1 L K v1 v25 (.str [42]) h))))))))))
    (k_ranges_Content_1 L K v1 (.str [42]) (.str [42]) h)))))))
def p_ranges_Content (L : FuncId → List V → V → Prop) (K : V → Heap → Prop) (a0 a1 : V) (h : Heap) : Prop :=
    (wi F L (.box (.c a0)) E0 h fun v2 h =>
    (wi F L (.load true 2 (.c v2)) E0 h fun v8 h =>
    (wi F L (.call i_ranges_may [(.c v8), (.c a1)]) E0 h fun v10 h =>
    (wi F L (.un .not (.c v10)) E0 h fun v11 h =>
    (wb v11
    (∃ v, resultsV h (enterE [(.str []), (.int .i64 2)]) [.tmp 0, .tmp 1] = some v ∧ K v h)
    (k_ranges_Content_0 L K a1 v2 h))))))
theorem run_ranges_Content {L : FuncId → List V → V → Prop} {K : V → Heap → Prop} {a0 a1 : V} {h : Heap} (hp : p_ranges_Content L K a0 a1 h) : Cf F L i_ranges_Content [a0, a1] h K :=
  wcallp F_ranges_Content (show 2 ≤ 35 by decide) (p := p_ranges_Content L K a0 a1 h) (by kernel_rfl) hp
def k_gatepostref14_Content_2 (L : FuncId → List V → V → Prop) (K : V → Heap → Prop) (v2 v6 : V) (h : Heap) : Prop :=
    (wi F L (.faddr 0 (.c v2)) E0 h fun v22 h' => Ext h h' ∧
    (wi F L (.load false 1 (.c v22)) E0 h' fun v23 h => Ext h' h ∧
    (wi F L (.call i_gatepostref14_digits [(.c v23)]) E0 h fun v24 h' => Ext h h' ∧
    (wi F L (.bin .add (.c (.str [98, 121, 116, 101, 115, 32])) (.c v24)) E0 h' fun v25 h => Ext h' h ∧
    (wi F L (.bin .add (.c v25) (.c (.str [45]))) E0 h fun v26 h' => Ext h h' ∧
    (wi F L (.faddr 1 (.c v2)) E0 h' fun v27 h => Ext h' h ∧
    (wi F L (.load false 1 (.c v27)) E0 h fun v28 h' => Ext h h' ∧
    (wi F L (.bin .sub (.c v28) (.c (.int .i64 1))) E0 h' fun v29 h => Ext h' h ∧
    (wi F L (.call i_gatepostref14_digits [(.c v29)]) E0 h fun v30 h' => Ext h h' ∧
    (wi F L (.bin .add (.c v26) (.c v30)) E0 h' fun v31 h => Ext h' h ∧
    (wi F L (.bin .add (.c v31) (.c (.str [47]))) E0 h fun v32 h' => Ext h h' ∧
    (wi F L (.bin .add (.c v32) (.c v6)) E0 h' fun v34 h =>
    (∃ v, resultsV h (enterE [v34, (.int .i64 0)]) [.tmp 0, .tmp 1] = some v ∧ K v h)))))))))))))
def k_gatepostref14_Content_1 (L : FuncId → List V → V → Prop) (K : V → Heap → Prop) (v2 v6 : V) (h : Heap) : Prop :=
    (wi F L (.faddr 0 (.c v2)) E0 h fun v15 h =>
    (wi F L (.load false 1 (.c v15)) E0 h fun v16 h =>
    (wi F L (.faddr 1 (.c v2)) E0 h fun v17 h =>
    (wi F L (.load false 1 (.c v17)) E0 h fun v18 h =>
    (wi F L (.bin .eql (.c v16) (.c v18)) E0 h fun v19 h =>
    (wb v19
    (wi F L (.bin .add (.c (.str [98, 121, 116, 101, 115, 32, 42, 47])) (.c v6)) E0 h fun v21 h =>
    (∃ v, resultsV h (enterE [v21, (.int .i64 0)]) [.tmp 0, .tmp 1] = some v ∧ K v h))
    (k_gatepostref14_Content_2 L K v2 v6 h)))))))
def k_gatepostref14_Content_0 (L : FuncId → List V → V → Prop) (K : V → Heap → Prop) (v1 v2 : V) (h : Heap) : Prop :=
    (wi F L (.bin .geq (.c v1) (.c (.int .i64 0))) E0 h fun v12 h =>
    (wb v12
    (wi F L (.call i_gatepostref14_digits [(.c v1)]) E0 h fun v14 h =>
    (k_gatepostref14_Content_1 L K v2 v14 h))
    (k_gatepostref14_Content_1 L K v2 (.str [42]) h)))
def p_gatepostref14_Content (L : FuncId → List V → V → Prop) (K : V → Heap → Prop) (a0 a1 : V) (h : Heap) : Prop :=
    (wi F L (.box (.c a0)) E0 h fun v2 h =>
    (wi F L (.load true 2 (.c v2)) E0 h fun v7 h =>
    (wi F L (.call i_gatepostref14_right [(.c v7), (.c a1)]) E0 h fun v9 h =>
    (wi F L (.un .not (.c v9)) E0 h fun v10 h =>
    (wb v10
    (∃ v, resultsV h (enterE [(.str []), (.int .i64 2)]) [.tmp 0, .tmp 1] = some v ∧ K v h)
    (k_gatepostref14_Content_0 L K a1 v2 h))))))
theorem run_gatepostref14_Content {L : FuncId → List V → V → Prop} {K : V → Heap → Prop} {a0 a1 : V} {h : Heap} (hp : p_gatepostref14_Content L K a0 a1 h) : Cf F L i_gatepostref14_Content [a0, a1] h K :=
  wcallp F_gatepostref14_Content (show 2 ≤ 35 by decide) (p := p_gatepostref14_Content L K a0 a1 h) (by kernel_rfl) hp
def k_ranges_Read_2 (L : FuncId → List V → V → Prop) (K : V → Heap → Prop) (v2 v12 v13 : V) (h : Heap) : Prop :=
    (wi F L (.load true 2 (.c v13)) E0 h fun v76 h =>
    (wi F L (.store 2 (.c v2) (.c v76)) E0 h fun _ h =>
    (∃ v, resultsV h (enterE [v2, v12, (.bool true)]) [.cell 0 true 2, .tmp 1, .tmp 2] = some v ∧ K v h)))
def k_ranges_Read_1 (L : FuncId → List V → V → Prop) (K : V → Heap → Prop) (v2 v10 v12 v13 : V) (h : Heap) : Prop :=
    (wi F L (.load false 1 (.c v10)) E0 h fun v67 h =>
    (wi F L (.un .not (.c v67)) E0 h fun v68 h =>
    (wg v68 false (wi F L (.load true 2 (.c v13)) E0 h) h fun v70 h =>
    (wg v68 false (wi F L (.mv (.c v12)) E0 h) h fun v71 h =>
    (wg v68 false (wi F L (.call i_ranges_may [(.c v70), (.c v71)]) E0 h) h fun v72 h =>
    (wg v68 false (wi F L (.un .not (.c v72)) E0 h) h fun v73 h =>
    (wi F L (.pick (.c v68) (.c (.bool true)) (.c v73)) E0 h fun v74 h =>
    (wb v74
    (wi F L (.build [(.int .i64 0), (.int .i64 0)] []) E0 h fun v75 h =>
    (wi F L (.store 2 (.c v2) (.c v75)) E0 h fun _ h =>
    (∃ v, resultsV h (enterE [v2, (.int .i64 0), (.bool false)]) [.cell 0 true 2, .tmp 1, .tmp 2] = some v ∧ K v h)))
    (k_ranges_Read_2 L K v2 v12 v13 h)))))))))
def k_ranges_Read_0 (L : FuncId → List V → V → Prop) (K : V → Heap → Prop) (v2 v7 v10 v11 v12 : V) (h : Heap) : Prop :=
    (wi F L (.build [(.int .i64 0), (.int .i64 0)] []) E0 h fun v38 h =>
    (wi F L (.boxz [(.int .i64 0), (.int .i64 0)]) E0 h fun v13 h =>
    (wi F L (.store 2 (.c v13) (.c v38)) E0 h fun _ h =>
    (wi F L (.bin .neq (.c v7) (.c (.str [42]))) E0 h fun v40 h =>
    (wb v40
    (wi F L (.call i_strings_Cut [(.c v7), (.c (.str [45]))]) E0 h fun v43 h =>
    (wi F L (.ext 0 (.c v43)) E0 h fun v44 h =>
    (wi F L (.ext 1 (.c v43)) E0 h fun v45 h =>
    (wi F L (.ext 2 (.c v43)) E0 h fun v46 h =>
    (wi F L (.callv (.c v11) [(.c v44)]) E0 h fun v49 h =>
    (wi F L (.faddr 0 (.c v13)) E0 h fun v50 h =>
    (wi F L (.store 1 (.c v50) (.c v49)) E0 h fun _ h =>
    (wi F L (.callv (.c v11) [(.c v45)]) E0 h fun v53 h =>
    (wi F L (.bin .add (.c v53) (.c (.int .i64 1))) E0 h fun v54 h =>
    (wi F L (.faddr 1 (.c v13)) E0 h fun v55 h =>
    (wi F L (.store 1 (.c v55) (.c v54)) E0 h fun _ h =>
    (wi F L (.load false 1 (.c v10)) E0 h fun v56 h =>
    (wg v56 true (wi F L (.mv (.c v46)) E0 h) h fun v58 h =>
    (wi F L (.pick (.c v56) (.c v58) (.c (.bool false))) E0 h fun v59 h =>
    (wg v59 true (wi F L (.faddr 0 (.c v13)) E0 h) h fun v61 h =>
    (wg v59 true (wi F L (.load false 1 (.c v61)) E0 h) h fun v62 h =>
    (wg v59 true (wi F L (.faddr 1 (.c v13)) E0 h) h fun v63 h =>
    (wg v59 true (wi F L (.load false 1 (.c v63)) E0 h) h fun v64 h =>
    (wg v59 true (wi F L (.bin .lss (.c v62) (.c v64)) E0 h) h fun v65 h =>
    (wi F L (.pick (.c v59) (.c v65) (.c (.bool false))) E0 h fun v66 h =>
    (wi F L (.store 1 (.c v10) (.c v66)) E0 h fun _ h =>
    (k_ranges_Read_1 L K v2 v10 v12 v13 h))))))))))))))))))))))
    (k_ranges_Read_1 L K v2 v10 v12 v13 h))))))
def p_ranges_Read (L : FuncId → List V → V → Prop) (K : V → Heap → Prop) (a0 : V) (h : Heap) : Prop :=
    (wi F L (.boxz [(.int .i64 0), (.int .i64 0)]) E0 h fun v2 h =>
    (wi F L (.call i_strings_CutPrefix [(.c a0), (.c (.str [98, 121, 116, 101, 115, 32]))]) E0 h fun v19 h =>
    (wi F L (.ext 0 (.c v19)) E0 h fun v20 h =>
    (wi F L (.ext 1 (.c v19)) E0 h fun v21 h =>
    (wi F L (.call i_strings_Cut [(.c v20), (.c (.str [47]))]) E0 h fun v24 h =>
    (wi F L (.ext 0 (.c v24)) E0 h fun v25 h =>
    (wi F L (.ext 1 (.c v24)) E0 h fun v26 h =>
    (wi F L (.ext 2 (.c v24)) E0 h fun v27 h =>
    (wg v21 true (wi F L (.mv (.c v27)) E0 h) h fun v30 h =>
    (wi F L (.pick (.c v21) (.c v30) (.c (.bool false))) E0 h fun v31 h =>
    (wi F L (.boxz [(.bool false)]) E0 h fun v10 h =>
    (wi F L (.store 1 (.c v10) (.c v31)) E0 h fun _ h =>
    (wi F L (.mkfn i_ranges_Read_1 [(.c v10)]) E0 h fun v32 h =>
    (wi F L (.bin .neq (.c v26) (.c (.str [42]))) E0 h fun v34 h =>
    (wb v34
    (wi F L (.callv (.c v32) [(.c v26)]) E0 h fun v37 h =>
    (k_ranges_Read_0 L K v2 v25 v10 v32 v37 h))
    (k_ranges_Read_0 L K v2 v25 v10 v32 (.int .i64 (-1)) h))))))))))))))))
theorem run_ranges_Read {L : FuncId → List V → V → Prop} {K : V → Heap → Prop} {a0 : V} {h : Heap} (hp : p_ranges_Read L K a0 h) : Cf F L i_ranges_Read [a0] h K :=
  wcallp F_ranges_Read (show 1 ≤ 78 by decide) (p := p_ranges_Read L K a0 h) (by kernel_rfl) hp
def k_gatepostref14_Read_5 (L : FuncId → List V → V → Prop) (K : V → Heap → Prop) (v2 v6 v9 : V) (h : Heap) : Prop :=
    (wi F L (.load true 2 (.c v9)) E0 h fun v117 h =>
    (wi F L (.store 2 (.c v2) (.c v117)) E0 h fun _ h =>
    (∃ v, resultsV h (enterE [v2, v6, (.bool true)]) [.cell 0 true 2, .tmp 1, .tmp 2] = some v ∧ K v h)))
def k_gatepostref14_Read_4 (L : FuncId → List V → V → Prop) (K : V → Heap → Prop) (v2 v6 v9 : V) (h : Heap) : Prop :=
    (wi F L (.load true 2 (.c v9)) E0 h fun v112 h =>
    (wi F L (.call i_gatepostref14_right [(.c v112), (.c v6)]) E0 h fun v114 h =>
    (wi F L (.un .not (.c v114)) E0 h fun v115 h =>
    (wb v115
    (wi F L (.build [(.int .i64 0), (.int .i64 0)] []) E0 h fun v116 h =>
    (wi F L (.store 2 (.c v2) (.c v116)) E0 h fun _ h =>
    (∃ v, resultsV h (enterE [v2, (.int .i64 0), (.bool false)]) [.cell 0 true 2, .tmp 1, .tmp 2] = some v ∧ K v h)))
    (k_gatepostref14_Read_5 L K v2 v6 v9 h)))))
def k_gatepostref14_Read_7 (L : FuncId → List V → V → Prop) (K : V → Heap → Prop) (v0 v2 v5 v6 v9 v10 : V) (h : Heap) : Prop :=
    (wi F L (.slstr (.c v0) none (some (.c v10))) E0 h fun v83 h =>
    (wi F L (.call i_gatepostref01_Number [(.c v83), (.c (.int .i64 1048577))]) E0 h fun v84 h =>
    (wi F L (.ext 0 (.c v84)) E0 h fun v85 h =>
    (wi F L (.ext 1 (.c v84)) E0 h fun v86 h =>
    (wi F L (.bin .add (.c v10) (.c (.int .i64 1))) E0 h fun v90 h =>
    (wi F L (.slstr (.c v0) (some (.c v90)) (some (.c v5))) E0 h fun v92 h =>
    (wi F L (.call i_gatepostref01_Number [(.c v92), (.c (.int .i64 1048577))]) E0 h fun v93 h =>
    (wi F L (.ext 0 (.c v93)) E0 h fun v94 h =>
    (wi F L (.ext 1 (.c v93)) E0 h fun v95 h =>
    (wi F L (.bin .add (.c v94) (.c (.int .i64 1))) E0 h fun v98 h =>
    (wi F L (.build [(.int .i64 0), (.int .i64 0)] [(0, 1, (.c v85)), (1, 1, (.c v98))]) E0 h fun v99 h =>
    (wi F L (.store 2 (.c v9) (.c v99)) E0 h fun _ h =>
    (wi F L (.un .not (.c v86)) E0 h fun v101 h =>
    (wg v101 false (wi F L (.mv (.c v95)) E0 h) h fun v103 h =>
    (wg v101 false (wi F L (.un .not (.c v103)) E0 h) h fun v104 h =>
    (wi F L (.pick (.c v101) (.c (.bool true)) (.c v104)) E0 h fun v105 h =>
    (wg v105 false (wi F L (.mv (.c v85)) E0 h) h fun v107 h =>
    (wg v105 false (wi F L (.mv (.c v94)) E0 h) h fun v108 h =>
    (wg v105 false (wi F L (.bin .gtr (.c v107) (.c v108)) E0 h) h fun v109 h =>
    (wi F L (.pick (.c v105) (.c (.bool true)) (.c v109)) E0 h fun v110 h =>
    (wb v110
    (wi F L (.build [(.int .i64 0), (.int .i64 0)] []) E0 h fun v111 h =>
    (wi F L (.store 2 (.c v2) (.c v111)) E0 h fun _ h =>
    (∃ v, resultsV h (enterE [v2, (.int .i64 0), (.bool false)]) [.cell 0 true 2, .tmp 1, .tmp 2] = some v ∧ K v h)))
    (k_gatepostref14_Read_4 L K v2 v6 v9 h))))))))))))))))))))))
def k_gatepostref14_Read_6 (L : FuncId → List V → V → Prop) (K : V → Heap → Prop) (v0 v2 v5 v6 v9 v10 : V) (h : Heap) : Prop :=
    (wi F L (.bin .eql (.c v10) (.c v5)) E0 h fun v78 h =>
    (wb v78
    (wi F L (.build [(.int .i64 0), (.int .i64 0)] []) E0 h fun v79 h =>
    (wi F L (.store 2 (.c v2) (.c v79)) E0 h fun _ h =>
    (∃ v, resultsV h (enterE [v2, (.int .i64 0), (.bool false)]) [.cell 0 true 2, .tmp 1, .tmp 2] = some v ∧ K v h)))
    (k_gatepostref14_Read_7 L K v0 v2 v5 v6 v9 v10 h)))
def k_gatepostref14_Read_8 (L : FuncId → List V → V → Prop) (K : V → Heap → Prop) (N0 : Env → Heap → Prop) (e : Env) (v10 : V) (h : Heap) : Prop :=
    (wi F L (.bin .add (.c v10) (.c (.int .i64 1))) E0 h fun v75 h =>
    (N0 (upd (upd (upd e 74 v10) 75 v75) 10 v75) h))
def q_gatepostref14_Read_0 (L : FuncId → List V → V → Prop) (K : V → Heap → Prop) : X → Env → Heap → Prop := (fun x => (seqX (fun e h => k_gatepostref14_Read_6 L K (e 0) (e 2) (e 5) (e 6) (e 9) (e 10) h) (seqX (fun e h => k_gatepostref14_Read_4 L K (e 2) (e 6) (e 9) h) (retX c_gatepostref14_Read.results K))) (X.out 2 x))
def lc_gatepostref14_Read_0 : C :=
  (.seq (.seq (.region [⟨(some 65), none, .mv (.t 10)⟩, ⟨(some 66), none, .mv (.t 5)⟩, ⟨(some 67), none, .bin .lss (.t 65) (.t 66)⟩, ⟨(some 68), none, .mv (.t 67)⟩, ⟨(some 69), (some (68, true)), .mv (.t 0)⟩, ⟨(some 70), (some (68, true)), .mv (.t 10)⟩, ⟨(some 71), (some (68, true)), .ixStr (.t 69) (.t 70)⟩, ⟨(some 72), (some (68, true)), .bin .neq (.t 71) (.c (.int .u8 45))⟩, ⟨(some 73), none, .pick (.t 68) (.t 72) (.c (.bool false))⟩])
  (.cond (.t 73)
    .skip
    (.exit 2)))
  (.block 3 (.region [⟨(some 74), none, .mv (.t 10)⟩, ⟨(some 75), none, .bin .add (.t 74) (.c (.int .i64 1))⟩, ⟨(some 10), none, .mv (.t 75)⟩])))
def b_gatepostref14_Read_0 (L : FuncId → List V → V → Prop) (K : V → Heap → Prop) (N0 : Env → Heap → Prop) (e : Env) (h : Heap) : Prop :=
    (wi F L (.bin .lss (.c (e 10)) (.c (e 5))) E0 h fun v67 h =>
    (wg v67 true (wi F L (.mv (.c (e 0))) E0 h) h fun v69 h =>
    (wg v67 true (wi F L (.mv (.c (e 10))) E0 h) h fun v70 h =>
    (wg v67 true (wi F L (.ixStr (.c v69) (.c v70)) E0 h) h fun v71 h =>
    (wg v67 true (wi F L (.bin .neq (.c v71) (.c (.int .u8 45))) E0 h) h fun v72 h =>
    (wi F L (.pick (.c v67) (.c v72) (.c (.bool false))) E0 h fun v73 h =>
    (wb v73
    (k_gatepostref14_Read_8 L K N0 (upd (upd (upd (upd (upd (upd (upd (upd (upd e 65 (e 10)) 66 (e 5)) 67 v67) 68 v67) 69 v69) 70 v70) 71 v71) 72 v72) 73 v73) (e 10) h)
    (k_gatepostref14_Read_6 L K (e 0) (e 2) (e 5) (e 6) (e 9) (e 10) h))))))))
theorem l_gatepostref14_Read_0 {L : FuncId → List V → V → Prop} {K : V → Heap → Prop} (I : Nat → Env → Heap → Prop) (hr : ∀ n e h, I n e h → b_gatepostref14_Read_0 L K (fun e' h' => ∃ m, m < n ∧ I m e' h') e h) {n : Nat} {e : Env} {h : Heap} (hi : I n e h) : Wl F L lc_gatepostref14_Read_0 (q_gatepostref14_Read_0 L K) e h :=
  wloopp (b := b_gatepostref14_Read_0 L K) I (fun _ _ _ => by kernel_rfl) hr hi
def k_gatepostref14_Read_3 (L : FuncId → List V → V → Prop) (K : V → Heap → Prop) (e : Env) (v0 v2 v5 v6 : V) (h : Heap) : Prop :=
    (wi F L (.build [(.int .i64 0), (.int .i64 0)] []) E0 h fun v60 h =>
    (wi F L (.boxz [(.int .i64 0), (.int .i64 0)]) E0 h fun v9 h =>
    (wi F L (.store 2 (.c v9) (.c v60)) E0 h fun _ h =>
    (wi F L (.slstr (.c v0) none (some (.c v5))) E0 h fun v63 h =>
    (wi F L (.bin .neq (.c v63) (.c (.str [42]))) E0 h fun v64 h =>
    (wb v64
    (Wl F L lc_gatepostref14_Read_0 (q_gatepostref14_Read_0 L K) (upd (upd (upd (upd (upd (upd (upd e 60 v60) 9 v9) 61 v0) 62 v5) 63 v63) 64 v64) 10 (.int .i64 0)) h)
    (k_gatepostref14_Read_4 L K v2 v6 v9 h)))))))
def k_gatepostref14_Read_9 (L : FuncId → List V → V → Prop) (K : V → Heap → Prop) (e : Env) (v0 v2 v5 v7 : V) (h : Heap) : Prop :=
    (k_gatepostref14_Read_3 L K (upd (upd e 59 v7) 6 v7) v0 v2 v5 v7 h)
def k_gatepostref14_Read_2 (L : FuncId → List V → V → Prop) (K : V → Heap → Prop) (e : Env) (v0 v2 v5 : V) (h : Heap) : Prop :=
    (wi F L (.bin .add (.c v5) (.c (.int .i64 1))) E0 h fun v45 h =>
    (wi F L (.slstr (.c v0) (some (.c v45)) none) E0 h fun v46 h =>
    (wi F L (.bin .neq (.c v46) (.c (.str [42]))) E0 h fun v47 h =>
    (wb v47
    (wi F L (.bin .add (.c v5) (.c (.int .i64 1))) E0 h fun v51 h =>
    (wi F L (.slstr (.c v0) (some (.c v51)) none) E0 h fun v52 h =>
    (wi F L (.call i_gatepostref01_Number [(.c v52), (.c (.int .i64 1048577))]) E0 h fun v53 h =>
    (wi F L (.ext 0 (.c v53)) E0 h fun v54 h =>
    (wi F L (.ext 1 (.c v53)) E0 h fun v55 h =>
    (wi F L (.un .not (.c v55)) E0 h fun v57 h =>
    (wb v57
    (wi F L (.build [(.int .i64 0), (.int .i64 0)] []) E0 h fun v58 h =>
    (wi F L (.store 2 (.c v2) (.c v58)) E0 h fun _ h =>
    (∃ v, resultsV h (enterE [v2, (.int .i64 0), (.bool false)]) [.cell 0 true 2, .tmp 1, .tmp 2] = some v ∧ K v h)))
    (k_gatepostref14_Read_9 L K (upd (upd (upd (upd (upd (upd (upd (upd (upd (upd (upd (upd (upd (upd (upd (upd (upd (upd e 6 (.int .i64 (-1))) 43 v0) 44 v5) 45 v45) 46 v46) 47 v47) 49 v0) 50 v5) 51 v51) 52 v52) 53 v53) 48 v53) 54 v54) 55 v55) 7 v54) 8 v55) 56 v55) 57 v57) v0 v2 v5 v54 h))))))))
    (k_gatepostref14_Read_3 L K (upd (upd (upd (upd (upd (upd e 6 (.int .i64 (-1))) 43 v0) 44 v5) 45 v45) 46 v46) 47 v47) v0 v2 v5 (.int .i64 (-1)) h)))))
def k_gatepostref14_Read_1 (L : FuncId → List V → V → Prop) (K : V → Heap → Prop) (e : Env) (v0 v2 v5 : V) (h : Heap) : Prop :=
    (wi F L (.len 0 (.c v0)) E0 h fun v40 h =>
    (wi F L (.bin .eql (.c v5) (.c v40)) E0 h fun v41 h =>
    (wb v41
    (wi F L (.build [(.int .i64 0), (.int .i64 0)] []) E0 h fun v42 h =>
    (wi F L (.store 2 (.c v2) (.c v42)) E0 h fun _ h =>
    (∃ v, resultsV h (enterE [v2, (.int .i64 0), (.bool false)]) [.cell 0 true 2, .tmp 1, .tmp 2] = some v ∧ K v h)))
    (k_gatepostref14_Read_2 L K (upd (upd (upd (upd e 38 v5) 39 v0) 40 v40) 41 v41) v0 v2 v5 h))))
def k_gatepostref14_Read_10 (L : FuncId → List V → V → Prop) (K : V → Heap → Prop) (N0 : Env → Heap → Prop) (e : Env) (v5 : V) (h : Heap) : Prop :=
    (wi F L (.bin .add (.c v5) (.c (.int .i64 1))) E0 h fun v37 h =>
    (N0 (upd (upd (upd e 36 v5) 37 v37) 5 v37) h))
def q_gatepostref14_Read_1 (L : FuncId → List V → V → Prop) (K : V → Heap → Prop) : X → Env → Heap → Prop := (fun x => (seqX (fun e h => k_gatepostref14_Read_1 L K e (e 0) (e 2) (e 5) h) (retX c_gatepostref14_Read.results K)) (X.out 0 x))
def lc_gatepostref14_Read_1 : C :=
  (.seq (.seq (.region [⟨(some 26), none, .mv (.t 5)⟩, ⟨(some 27), none, .mv (.t 0)⟩, ⟨(some 28), none, .len 0 (.t 27)⟩, ⟨(some 29), none, .bin .lss (.t 26) (.t 28)⟩, ⟨(some 30), none, .mv (.t 29)⟩, ⟨(some 31), (some (30, true)), .mv (.t 0)⟩, ⟨(some 32), (some (30, true)), .mv (.t 5)⟩, ⟨(some 33), (some (30, true)), .ixStr (.t 31) (.t 32)⟩, ⟨(some 34), (some (30, true)), .bin .neq (.t 33) (.c (.int .u8 47))⟩, ⟨(some 35), none, .pick (.t 30) (.t 34) (.c (.bool false))⟩])
  (.cond (.t 35)
    .skip
    (.exit 0)))
  (.block 1 (.region [⟨(some 36), none, .mv (.t 5)⟩, ⟨(some 37), none, .bin .add (.t 36) (.c (.int .i64 1))⟩, ⟨(some 5), none, .mv (.t 37)⟩])))
def b_gatepostref14_Read_1 (L : FuncId → List V → V → Prop) (K : V → Heap → Prop) (N0 : Env → Heap → Prop) (e : Env) (h : Heap) : Prop :=
    (wi F L (.len 0 (.c (e 0))) E0 h fun v28 h =>
    (wi F L (.bin .lss (.c (e 5)) (.c v28)) E0 h fun v29 h =>
    (wg v29 true (wi F L (.mv (.c (e 0))) E0 h) h fun v31 h =>
    (wg v29 true (wi F L (.mv (.c (e 5))) E0 h) h fun v32 h =>
    (wg v29 true (wi F L (.ixStr (.c v31) (.c v32)) E0 h) h fun v33 h =>
    (wg v29 true (wi F L (.bin .neq (.c v33) (.c (.int .u8 47))) E0 h) h fun v34 h =>
    (wi F L (.pick (.c v29) (.c v34) (.c (.bool false))) E0 h fun v35 h =>
    (wb v35
    (k_gatepostref14_Read_10 L K N0 (upd (upd (upd (upd (upd (upd (upd (upd (upd (upd e 26 (e 5)) 27 (e 0)) 28 v28) 29 v29) 30 v29) 31 v31) 32 v32) 33 v33) 34 v34) 35 v35) (e 5) h)
    (k_gatepostref14_Read_1 L K (upd (upd (upd (upd (upd (upd (upd (upd (upd (upd e 26 (e 5)) 27 (e 0)) 28 v28) 29 v29) 30 v29) 31 v31) 32 v32) 33 v33) 34 v34) 35 v35) (e 0) (e 2) (e 5) h)))))))))
theorem l_gatepostref14_Read_1 {L : FuncId → List V → V → Prop} {K : V → Heap → Prop} (I : Nat → Env → Heap → Prop) (hr : ∀ n e h, I n e h → b_gatepostref14_Read_1 L K (fun e' h' => ∃ m, m < n ∧ I m e' h') e h) {n : Nat} {e : Env} {h : Heap} (hi : I n e h) : Wl F L lc_gatepostref14_Read_1 (q_gatepostref14_Read_1 L K) e h :=
  wloopp (b := b_gatepostref14_Read_1 L K) I (fun _ _ _ => by kernel_rfl) hr hi
def k_gatepostref14_Read_0 (L : FuncId → List V → V → Prop) (K : V → Heap → Prop) (e : Env) (v0 : V) (h : Heap) : Prop :=
    (wi F L (.slstr (.c v0) (some (.c (.int .i64 6))) none) E0 h fun v25 h =>
    (Wl F L lc_gatepostref14_Read_1 (q_gatepostref14_Read_1 L K) (upd (upd (upd (upd e 24 v0) 25 v25) 0 v25) 5 (.int .i64 0)) h))
def p_gatepostref14_Read (L : FuncId → List V → V → Prop) (K : V → Heap → Prop) (a0 : V) (h : Heap) : Prop :=
    (wi F L (.boxz [(.int .i64 0), (.int .i64 0)]) E0 h fun v2 h =>
    (wi F L (.len 0 (.c a0)) E0 h fun v16 h =>
    (wi F L (.bin .lss (.c v16) (.c (.int .i64 6))) E0 h fun v17 h =>
    (wg v17 false (wi F L (.mv (.c a0)) E0 h) h fun v19 h =>
    (wg v17 false (wi F L (.slstr (.c v19) none (some (.c (.int .i64 6)))) E0 h) h fun v20 h =>
    (wg v17 false (wi F L (.bin .neq (.c v20) (.c (.str [98, 121, 116, 101, 115, 32]))) E0 h) h fun v21 h =>
    (wi F L (.pick (.c v17) (.c (.bool true)) (.c v21)) E0 h fun v22 h =>
    (wb v22
    (wi F L (.build [(.int .i64 0), (.int .i64 0)] []) E0 h fun v23 h =>
    (wi F L (.store 2 (.c v2) (.c v23)) E0 h fun _ h =>
    (∃ v, resultsV h (enterE [v2, (.int .i64 0), (.bool false)]) [.cell 0 true 2, .tmp 1, .tmp 2] = some v ∧ K v h)))
    (k_gatepostref14_Read_0 L K (upd (upd (upd (upd (upd (upd (upd (upd (upd (upd (upd (enterE [a0]) 2 v2) 3 (.int .i64 0)) 4 (.bool false)) 15 a0) 16 v16) 17 v17) 18 v17) 19 v19) 20 v20) 21 v21) 22 v22) a0 h)))))))))
theorem run_gatepostref14_Read {L : FuncId → List V → V → Prop} {K : V → Heap → Prop} {a0 : V} {h : Heap} (hp : p_gatepostref14_Read L K a0 h) : Cf F L i_gatepostref14_Read [a0] h K :=
  wcallp F_gatepostref14_Read (show 1 ≤ 119 by decide) (p := p_gatepostref14_Read L K a0 h) (by kernel_rfl) hp
def k_ranges_Resolve_1 (L : FuncId → List V → V → Prop) (K : V → Heap → Prop) (v4 v6 : V) (h : Heap) : Prop :=
    (wi F L (.load true 2 (.c v6)) E0 h fun v54 h =>
    (wi F L (.store 2 (.c v4) (.c v54)) E0 h fun _ h =>
    (∃ v, resultsV h (enterE [v4, (.bool true)]) [.cell 0 true 2, .tmp 1] = some v ∧ K v h)))
def k_ranges_Resolve_0 (L : FuncId → List V → V → Prop) (K : V → Heap → Prop) (v4 v6 : V) (h : Heap) : Prop :=
    (wi F L (.faddr 0 (.c v6)) E0 h fun v48 h =>
    (wi F L (.load false 1 (.c v48)) E0 h fun v49 h =>
    (wi F L (.faddr 1 (.c v6)) E0 h fun v50 h =>
    (wi F L (.load false 1 (.c v50)) E0 h fun v51 h =>
    (wi F L (.bin .geq (.c v49) (.c v51)) E0 h fun v52 h =>
    (wb v52
    (wi F L (.build [(.int .i64 0), (.int .i64 0)] []) E0 h fun v53 h =>
    (wi F L (.store 2 (.c v4) (.c v53)) E0 h fun _ h =>
    (∃ v, resultsV h (enterE [v4, (.bool false)]) [.cell 0 true 2, .tmp 1] = some v ∧ K v h)))
    (k_ranges_Resolve_1 L K v4 v6 h)))))))
def p_ranges_Resolve (L : FuncId → List V → V → Prop) (K : V → Heap → Prop) (a0 a1 : V) (h : Heap) : Prop :=
    (wi F L (.box (.c a0)) E0 h fun v2 h =>
    (wi F L (.boxz [(.int .i64 0), (.int .i64 0)]) E0 h fun v4 h =>
    (wi F L (.faddr 0 (.c v2)) E0 h fun v7 h =>
    (wi F L (.load false 1 (.c v7)) E0 h fun v8 h =>
    (wi F L (.build [(.int .i64 0), (.int .i64 0)] [(0, 1, (.c v8)), (1, 1, (.c a1))]) E0 h fun v10 h =>
    (wi F L (.boxz [(.int .i64 0), (.int .i64 0)]) E0 h fun v6 h =>
    (wi F L (.store 2 (.c v6) (.c v10)) E0 h fun _ h =>
    (wi F L (.bin .lss (.c a1) (.c (.int .i64 0))) E0 h fun v13 h =>
    (wg v13 false (wi F L (.mv (.c a1)) E0 h) h fun v15 h =>
    (wg v13 false (wi F L (.bin .gtr (.c v15) (.c (.int .i64 1048576))) E0 h) h fun v16 h =>
    (wi F L (.pick (.c v13) (.c (.bool true)) (.c v16)) E0 h fun v17 h =>
    (wg v17 false (wi F L (.load true 2 (.c v2)) E0 h) h fun v19 h =>
    (wg v17 false (wi F L (.call i_ranges_fine [(.c v19)]) E0 h) h fun v20 h =>
    (wg v17 false (wi F L (.un .not (.c v20)) E0 h) h fun v21 h =>
    (wi F L (.pick (.c v17) (.c (.bool true)) (.c v21)) E0 h fun v22 h =>
    (wb v22
    (wi F L (.build [(.int .i64 0), (.int .i64 0)] []) E0 h fun v23 h =>
    (wi F L (.store 2 (.c v4) (.c v23)) E0 h fun _ h =>
    (∃ v, resultsV h (enterE [v4, (.bool false)]) [.cell 0 true 2, .tmp 1] = some v ∧ K v h)))
    (wi F L (.faddr 0 (.c v2)) E0 h fun v25 h =>
    (wi F L (.load false 1 (.c v25)) E0 h fun v26 h =>
    (wi F L (.bin .eql (.c v26) (.c (.int .i64 (-1)))) E0 h fun v27 h =>
    (wb v27
    (wi F L (.faddr 1 (.c v2)) E0 h fun v29 h =>
    (wi F L (.load false 1 (.c v29)) E0 h fun v30 h =>
    (wi F L (.bin .sub (.c a1) (.c v30)) E0 h fun v31 h =>
    (wi F L (.mx [(.c (.int .i64 0)), (.c v31)]) E0 h fun v32 h =>
    (wi F L (.faddr 0 (.c v6)) E0 h fun v33 h =>
    (wi F L (.store 1 (.c v33) (.c v32)) E0 h fun _ h =>
    (k_ranges_Resolve_0 L K v4 v6 h)))))))
    (wi F L (.faddr 1 (.c v2)) E0 h fun v35 h =>
    (wi F L (.load false 1 (.c v35)) E0 h fun v36 h =>
    (wi F L (.bin .neq (.c v36) (.c (.int .i64 (-1)))) E0 h fun v37 h =>
    (wg v37 true (wi F L (.faddr 1 (.c v2)) E0 h) h fun v39 h =>
    (wg v37 true (wi F L (.load false 1 (.c v39)) E0 h) h fun v40 h =>
    (wg v37 true (wi F L (.mv (.c a1)) E0 h) h fun v41 h =>
    (wg v37 true (wi F L (.bin .lss (.c v40) (.c v41)) E0 h) h fun v42 h =>
    (wi F L (.pick (.c v37) (.c v42) (.c (.bool false))) E0 h fun v43 h =>
    (wb v43
    (wi F L (.faddr 1 (.c v2)) E0 h fun v44 h =>
    (wi F L (.load false 1 (.c v44)) E0 h fun v45 h =>
    (wi F L (.bin .add (.c v45) (.c (.int .i64 1))) E0 h fun v46 h =>
    (wi F L (.faddr 1 (.c v6)) E0 h fun v47 h =>
    (wi F L (.store 1 (.c v47) (.c v46)) E0 h fun _ h =>
    (k_ranges_Resolve_0 L K v4 v6 h))))))
    (k_ranges_Resolve_0 L K v4 v6 h))))))))))))))))))))))))))))))
theorem run_ranges_Resolve {L : FuncId → List V → V → Prop} {K : V → Heap → Prop} {a0 a1 : V} {h : Heap} (hp : p_ranges_Resolve L K a0 a1 h) : Cf F L i_ranges_Resolve [a0, a1] h K :=
  wcallp F_ranges_Resolve (show 2 ≤ 55 by decide) (p := p_ranges_Resolve L K a0 a1 h) (by kernel_rfl) hp
def k_ranges_Parse_2 (L : FuncId → List V → V → Prop) (K : V → Heap → Prop) (v6 : V) (h : Heap) : Prop :=
    (∃ v, resultsV h (enterE [v6, (.bool true)]) [.tmp 0, .tmp 1] = some v ∧ K v h)
def k_ranges_Parse_4 (L : FuncId → List V → V → Prop) (K : V → Heap → Prop) (N0 : Env → Heap → Prop) (e : Env) (v40 : V) (h : Heap) : Prop :=
    (wi F L (.bin .add (.c v40) (.c (.int .i64 1))) E0 h fun v55 h =>
    (N0 (upd (upd e 55 v55) 40 v55) h))
def k_ranges_Parse_5 (L : FuncId → List V → V → Prop) (K : V → Heap → Prop) (N0 : Env → Heap → Prop) (e : Env) (v6 v9 v40 : V) (h : Heap) : Prop :=
    (wi F L (.load true 2 (.c v9)) E0 h fun v52 h =>
    (wi F L (.bsl 2 [(.c v52)]) E0 h fun v53 h =>
    (wi F L (.app 2 16 false (.c v6) (.c v53)) E0 h fun v54 h =>
    (k_ranges_Parse_4 L K N0 (upd (upd (upd (upd (upd e 51 v6) 52 v52) 53 v53) 54 v54) 6 v54) v40 h))))
def k_ranges_Parse_3 (L : FuncId → List V → V → Prop) (K : V → Heap → Prop) (N0 : Env → Heap → Prop) (e : Env) (v6 v38 v40 : V) (h : Heap) : Prop :=
    (wi F L (.ixaSl 1 (.c v38) (.c v40)) E0 h fun v42 h =>
    (wi F L (.load false 1 (.c v42)) E0 h fun v43 h =>
    (wi F L (.call i_ranges_one [(.c v43)]) E0 h fun v46 h =>
    (wi F L (.ext 0 (.c v46)) E0 h fun v47 h =>
    (wi F L (.ext 1 (.c v46)) E0 h fun v48 h =>
    (wi F L (.boxz [(.int .i64 0), (.int .i64 0)]) E0 h fun v9 h =>
    (wi F L (.store 2 (.c v9) (.c v47)) E0 h fun _ h =>
    (wi F L (.un .not (.c v48)) E0 h fun v50 h =>
    (wb v50
    (∃ v, resultsV h (enterE [.nsl, (.bool false)]) [.tmp 0, .tmp 1] = some v ∧ K v h)
    (k_ranges_Parse_5 L K N0 (upd (upd (upd (upd (upd (upd (upd (upd (upd (upd (upd (upd e 42 v42) 43 v43) 8 v43) 45 v43) 46 v46) 44 v46) 47 v47) 48 v48) 9 v9) 10 v48) 49 v48) 50 v50) v6 v9 v40 h))))))))))
def q_ranges_Parse_0 (L : FuncId → List V → V → Prop) (K : V → Heap → Prop) : X → Env → Heap → Prop := (fun x => (seqX (fun e h => k_ranges_Parse_2 L K (e 6) h) (retX c_ranges_Parse.results K)) (X.out 0 x))
def lc_ranges_Parse_0 : C :=
  (.seq (.region [⟨(some 41), none, .bin .lss (.t 40) (.t 39)⟩])
  (.seq (.cond (.t 41)
    .skip
    (.exit 0))
  (.seq (.block 1 (.seq (.region [⟨(some 42), none, .ixaSl 1 (.t 38) (.t 40)⟩, ⟨(some 43), none, .load false 1 (.t 42)⟩, ⟨(some 8), none, .mv (.t 43)⟩])
  (.seq (.region [⟨(some 45), none, .mv (.t 8)⟩, ⟨(some 46), none, .call i_ranges_one [(.t 45)]⟩, ⟨(some 44), none, .mv (.t 46)⟩, ⟨(some 47), none, .ext 0 (.t 44)⟩, ⟨(some 48), none, .ext 1 (.t 44)⟩, ⟨(some 9), none, .boxz [(.int .i64 0), (.int .i64 0)]⟩, ⟨none, none, .store 2 (.t 9) (.t 47)⟩, ⟨(some 10), none, .mv (.t 48)⟩])
  (.seq (.seq (.region [⟨(some 49), none, .mv (.t 10)⟩, ⟨(some 50), none, .un .not (.t 49)⟩])
  (.cond (.t 50)
    (.seq (.region [⟨(some 2), none, .mv (.c .nsl)⟩, ⟨(some 3), none, .mv (.c (.bool false))⟩])
    .ret)
    .skip))
  (.region [⟨(some 51), none, .mv (.t 6)⟩, ⟨(some 52), none, .load true 2 (.t 9)⟩, ⟨(some 53), none, .bsl 2 [(.t 52)]⟩, ⟨(some 54), none, .app 2 16 false (.t 51) (.t 53)⟩, ⟨(some 6), none, .mv (.t 54)⟩])))))
  (.region [⟨(some 55), none, .bin .add (.t 40) (.c (.int .i64 1))⟩, ⟨(some 40), none, .mv (.t 55)⟩]))))
def b_ranges_Parse_0 (L : FuncId → List V → V → Prop) (K : V → Heap → Prop) (N0 : Env → Heap → Prop) (e : Env) (h : Heap) : Prop :=
    (wi F L (.bin .lss (.c (e 40)) (.c (e 39))) E0 h fun v41 h =>
    (wb v41
    (k_ranges_Parse_3 L K N0 (upd e 41 v41) (e 6) (e 38) (e 40) h)
    (k_ranges_Parse_2 L K (e 6) h)))
theorem l_ranges_Parse_0 {L : FuncId → List V → V → Prop} {K : V → Heap → Prop} (I : Nat → Env → Heap → Prop) (hr : ∀ n e h, I n e h → b_ranges_Parse_0 L K (fun e' h' => ∃ m, m < n ∧ I m e' h') e h) {n : Nat} {e : Env} {h : Heap} (hi : I n e h) : Wl F L lc_ranges_Parse_0 (q_ranges_Parse_0 L K) e h :=
  wloopp (b := b_ranges_Parse_0 L K) I (fun _ _ _ => by kernel_rfl) hr hi
def k_ranges_Parse_1 (L : FuncId → List V → V → Prop) (K : V → Heap → Prop) (e : Env) (v4 : V) (h : Heap) : Prop :=
    (wi F L (.len 1 (.c v4)) E0 h fun v39 h =>
    (Wl F L lc_ranges_Parse_0 (q_ranges_Parse_0 L K) (upd (upd (upd (upd e 6 .nsl) 38 v4) 39 v39) 40 (.int .i64 0)) h))
def k_ranges_Parse_0 (L : FuncId → List V → V → Prop) (K : V → Heap → Prop) (e : Env) (v0 : V) (h : Heap) : Prop :=
    (wi F L (.slstr (.c v0) (some (.c (.int .i64 6))) none) E0 h fun v22 h =>
    (wi F L (.call i_token_Split [(.c v22)]) E0 h fun v23 h =>
    (wi F L (.ext 0 (.c v23)) E0 h fun v24 h =>
    (wi F L (.ext 1 (.c v23)) E0 h fun v25 h =>
    (wi F L (.un .not (.c v25)) E0 h fun v27 h =>
    (wg v27 false (wi F L (.mv (.c v24)) E0 h) h fun v29 h =>
    (wg v27 false (wi F L (.len 1 (.c v29)) E0 h) h fun v30 h =>
    (wg v27 false (wi F L (.bin .eql (.c v30) (.c (.int .i64 0))) E0 h) h fun v31 h =>
    (wi F L (.pick (.c v27) (.c (.bool true)) (.c v31)) E0 h fun v32 h =>
    (wg v32 false (wi F L (.mv (.c v24)) E0 h) h fun v34 h =>
    (wg v32 false (wi F L (.len 1 (.c v34)) E0 h) h fun v35 h =>
    (wg v32 false (wi F L (.bin .gtr (.c v35) (.c (.int .i64 32))) E0 h) h fun v36 h =>
    (wi F L (.pick (.c v32) (.c (.bool true)) (.c v36)) E0 h fun v37 h =>
    (wb v37
    (∃ v, resultsV h (enterE [.nsl, (.bool false)]) [.tmp 0, .tmp 1] = some v ∧ K v h)
    (k_ranges_Parse_1 L K (upd (upd (upd (upd (upd (upd (upd (upd (upd (upd (upd (upd (upd (upd (upd (upd (upd (upd (upd (upd e 21 v0) 22 v22) 23 v23) 20 v23) 24 v24) 25 v25) 4 v24) 5 v25) 26 v25) 27 v27) 28 v27) 29 v29) 30 v30) 31 v31) 32 v32) 33 v32) 34 v34) 35 v35) 36 v36) 37 v37) v24 h)))))))))))))))
def p_ranges_Parse (L : FuncId → List V → V → Prop) (K : V → Heap → Prop) (a0 : V) (h : Heap) : Prop :=
    (wi F L (.len 0 (.c a0)) E0 h fun v12 h =>
    (wi F L (.bin .lss (.c v12) (.c (.int .i64 6))) E0 h fun v13 h =>
    (wg v13 false (wi F L (.mv (.c a0)) E0 h) h fun v15 h =>
    (wg v13 false (wi F L (.slstr (.c v15) none (some (.c (.int .i64 6)))) E0 h) h fun v16 h =>
    (wg v13 false (wi F L (.call i_token_Same [(.c v16), (.c (.str [98, 121, 116, 101, 115, 61]))]) E0 h) h fun v17 h =>
    (wg v13 false (wi F L (.un .not (.c v17)) E0 h) h fun v18 h =>
    (wi F L (.pick (.c v13) (.c (.bool true)) (.c v18)) E0 h fun v19 h =>
    (wb v19
    (∃ v, resultsV h (enterE [.nsl, (.bool false)]) [.tmp 0, .tmp 1] = some v ∧ K v h)
    (k_ranges_Parse_0 L K (upd (upd (upd (upd (upd (upd (upd (upd (upd (upd (upd (enterE [a0]) 2 .nsl) 3 (.bool false)) 11 a0) 12 v12) 13 v13) 14 v13) 15 v15) 16 v16) 17 v17) 18 v18) 19 v19) a0 h)))))))))
theorem run_ranges_Parse {L : FuncId → List V → V → Prop} {K : V → Heap → Prop} {a0 : V} {h : Heap} (hp : p_ranges_Parse L K a0 h) : Cf F L i_ranges_Parse [a0] h K :=
  wcallp F_ranges_Parse (show 1 ≤ 57 by decide) (p := p_ranges_Parse L K a0 h) (by kernel_rfl) hp
def k_gatepostref14_Parse_2 (L : FuncId → List V → V → Prop) (K : V → Heap → Prop) (v6 : V) (h : Heap) : Prop :=
    (∃ v, resultsV h (enterE [v6, (.bool true)]) [.tmp 0, .tmp 1] = some v ∧ K v h)
def k_gatepostref14_Parse_4 (L : FuncId → List V → V → Prop) (K : V → Heap → Prop) (N0 : Env → Heap → Prop) (e : Env) (v7 : V) (h : Heap) : Prop :=
    (wi F L (.bin .add (.c v7) (.c (.int .i64 1))) E0 h fun v42 h =>
    (N0 (upd (upd (upd e 41 v7) 42 v42) 7 v42) h))
def k_gatepostref14_Parse_5 (L : FuncId → List V → V → Prop) (K : V → Heap → Prop) (N0 : Env → Heap → Prop) (e : Env) (v6 v7 v8 : V) (h : Heap) : Prop :=
    (wi F L (.load true 2 (.c v8)) E0 h fun v54 h =>
    (wi F L (.bsl 2 [(.c v54)]) E0 h fun v55 h =>
    (wi F L (.app 2 16 false (.c v6) (.c v55)) E0 h fun v56 h =>
    (k_gatepostref14_Parse_4 L K N0 (upd (upd (upd (upd (upd e 53 v6) 54 v54) 55 v55) 56 v56) 6 v56) v7 h))))
def k_gatepostref14_Parse_3 (L : FuncId → List V → V → Prop) (K : V → Heap → Prop) (N0 : Env → Heap → Prop) (e : Env) (v4 v6 v7 : V) (h : Heap) : Prop :=
    (wi F L (.ixaSl 1 (.c v4) (.c v7)) E0 h fun v46 h =>
    (wi F L (.load false 1 (.c v46)) E0 h fun v47 h =>
    (wi F L (.call i_gatepostref14_one [(.c v47)]) E0 h fun v48 h =>
    (wi F L (.ext 0 (.c v48)) E0 h fun v49 h =>
    (wi F L (.ext 1 (.c v48)) E0 h fun v50 h =>
    (wi F L (.boxz [(.int .i64 0), (.int .i64 0)]) E0 h fun v8 h =>
    (wi F L (.store 2 (.c v8) (.c v49)) E0 h fun _ h =>
    (wi F L (.un .not (.c v50)) E0 h fun v52 h =>
    (wb v52
    (∃ v, resultsV h (enterE [.nsl, (.bool false)]) [.tmp 0, .tmp 1] = some v ∧ K v h)
    (k_gatepostref14_Parse_5 L K N0 (upd (upd (upd (upd (upd (upd (upd (upd (upd (upd (upd (upd e 44 v4) 45 v7) 46 v46) 47 v47) 48 v48) 43 v48) 49 v49) 50 v50) 8 v8) 9 v50) 51 v50) 52 v52) v6 v7 v8 h))))))))))
def q_gatepostref14_Parse_0 (L : FuncId → List V → V → Prop) (K : V → Heap → Prop) : X → Env → Heap → Prop := (fun x => (seqX (fun e h => k_gatepostref14_Parse_2 L K (e 6) h) (retX c_gatepostref14_Parse.results K)) (X.out 0 x))
def lc_gatepostref14_Parse_0 : C :=
  (.seq (.seq (.region [⟨(some 37), none, .mv (.t 7)⟩, ⟨(some 38), none, .mv (.t 4)⟩, ⟨(some 39), none, .len 1 (.t 38)⟩, ⟨(some 40), none, .bin .lss (.t 37) (.t 39)⟩])
  (.cond (.t 40)
    .skip
    (.exit 0)))
  (.seq (.block 1 (.seq (.region [⟨(some 44), none, .mv (.t 4)⟩, ⟨(some 45), none, .mv (.t 7)⟩, ⟨(some 46), none, .ixaSl 1 (.t 44) (.t 45)⟩, ⟨(some 47), none, .load false 1 (.t 46)⟩, ⟨(some 48), none, .call i_gatepostref14_one [(.t 47)]⟩, ⟨(some 43), none, .mv (.t 48)⟩, ⟨(some 49), none, .ext 0 (.t 43)⟩, ⟨(some 50), none, .ext 1 (.t 43)⟩, ⟨(some 8), none, .boxz [(.int .i64 0), (.int .i64 0)]⟩, ⟨none, none, .store 2 (.t 8) (.t 49)⟩, ⟨(some 9), none, .mv (.t 50)⟩])
  (.seq (.seq (.region [⟨(some 51), none, .mv (.t 9)⟩, ⟨(some 52), none, .un .not (.t 51)⟩])
  (.cond (.t 52)
    (.seq (.region [⟨(some 2), none, .mv (.c .nsl)⟩, ⟨(some 3), none, .mv (.c (.bool false))⟩])
    .ret)
    .skip))
  (.region [⟨(some 53), none, .mv (.t 6)⟩, ⟨(some 54), none, .load true 2 (.t 8)⟩, ⟨(some 55), none, .bsl 2 [(.t 54)]⟩, ⟨(some 56), none, .app 2 16 false (.t 53) (.t 55)⟩, ⟨(some 6), none, .mv (.t 56)⟩]))))
  (.region [⟨(some 41), none, .mv (.t 7)⟩, ⟨(some 42), none, .bin .add (.t 41) (.c (.int .i64 1))⟩, ⟨(some 7), none, .mv (.t 42)⟩])))
def b_gatepostref14_Parse_0 (L : FuncId → List V → V → Prop) (K : V → Heap → Prop) (N0 : Env → Heap → Prop) (e : Env) (h : Heap) : Prop :=
    (wi F L (.len 1 (.c (e 4))) E0 h fun v39 h =>
    (wi F L (.bin .lss (.c (e 7)) (.c v39)) E0 h fun v40 h =>
    (wb v40
    (k_gatepostref14_Parse_3 L K N0 (upd (upd (upd (upd e 37 (e 7)) 38 (e 4)) 39 v39) 40 v40) (e 4) (e 6) (e 7) h)
    (k_gatepostref14_Parse_2 L K (e 6) h))))
theorem l_gatepostref14_Parse_0 {L : FuncId → List V → V → Prop} {K : V → Heap → Prop} (I : Nat → Env → Heap → Prop) (hr : ∀ n e h, I n e h → b_gatepostref14_Parse_0 L K (fun e' h' => ∃ m, m < n ∧ I m e' h') e h) {n : Nat} {e : Env} {h : Heap} (hi : I n e h) : Wl F L lc_gatepostref14_Parse_0 (q_gatepostref14_Parse_0 L K) e h :=
  wloopp (b := b_gatepostref14_Parse_0 L K) I (fun _ _ _ => by kernel_rfl) hr hi
def k_gatepostref14_Parse_1 (L : FuncId → List V → V → Prop) (K : V → Heap → Prop) (e : Env) (h : Heap) : Prop :=
    (Wl F L lc_gatepostref14_Parse_0 (q_gatepostref14_Parse_0 L K) (upd (upd e 6 .nsl) 7 (.int .i64 0)) h)
def k_gatepostref14_Parse_0 (L : FuncId → List V → V → Prop) (K : V → Heap → Prop) (e : Env) (v0 : V) (h : Heap) : Prop :=
    (wi F L (.slstr (.c v0) (some (.c (.int .i64 6))) none) E0 h fun v21 h =>
    (wi F L (.call i_gatepostref01_Split [(.c v21)]) E0 h fun v22 h =>
    (wi F L (.ext 0 (.c v22)) E0 h fun v23 h =>
    (wi F L (.ext 1 (.c v22)) E0 h fun v24 h =>
    (wi F L (.un .not (.c v24)) E0 h fun v26 h =>
    (wg v26 false (wi F L (.mv (.c v23)) E0 h) h fun v28 h =>
    (wg v26 false (wi F L (.len 1 (.c v28)) E0 h) h fun v29 h =>
    (wg v26 false (wi F L (.bin .lss (.c v29) (.c (.int .i64 1))) E0 h) h fun v30 h =>
    (wi F L (.pick (.c v26) (.c (.bool true)) (.c v30)) E0 h fun v31 h =>
    (wg v31 false (wi F L (.mv (.c v23)) E0 h) h fun v33 h =>
    (wg v31 false (wi F L (.len 1 (.c v33)) E0 h) h fun v34 h =>
    (wg v31 false (wi F L (.bin .gtr (.c v34) (.c (.int .i64 32))) E0 h) h fun v35 h =>
    (wi F L (.pick (.c v31) (.c (.bool true)) (.c v35)) E0 h fun v36 h =>
    (wb v36
    (∃ v, resultsV h (enterE [.nsl, (.bool false)]) [.tmp 0, .tmp 1] = some v ∧ K v h)
    (k_gatepostref14_Parse_1 L K (upd (upd (upd (upd (upd (upd (upd (upd (upd (upd (upd (upd (upd (upd (upd (upd (upd (upd (upd (upd e 20 v0) 21 v21) 22 v22) 19 v22) 23 v23) 24 v24) 4 v23) 5 v24) 25 v24) 26 v26) 27 v26) 28 v28) 29 v29) 30 v30) 31 v31) 32 v31) 33 v33) 34 v34) 35 v35) 36 v36)  h)))))))))))))))
def p_gatepostref14_Parse (L : FuncId → List V → V → Prop) (K : V → Heap → Prop) (a0 : V) (h : Heap) : Prop :=
    (wi F L (.len 0 (.c a0)) E0 h fun v11 h =>
    (wi F L (.bin .lss (.c v11) (.c (.int .i64 6))) E0 h fun v12 h =>
    (wg v12 false (wi F L (.mv (.c a0)) E0 h) h fun v14 h =>
    (wg v12 false (wi F L (.slstr (.c v14) none (some (.c (.int .i64 6)))) E0 h) h fun v15 h =>
    (wg v12 false (wi F L (.call i_gatepostref01_Lower [(.c v15)]) E0 h) h fun v16 h =>
    (wg v12 false (wi F L (.bin .neq (.c v16) (.c (.str [98, 121, 116, 101, 115, 61]))) E0 h) h fun v17 h =>
    (wi F L (.pick (.c v12) (.c (.bool true)) (.c v17)) E0 h fun v18 h =>
    (wb v18
    (∃ v, resultsV h (enterE [.nsl, (.bool false)]) [.tmp 0, .tmp 1] = some v ∧ K v h)
    (k_gatepostref14_Parse_0 L K (upd (upd (upd (upd (upd (upd (upd (upd (upd (upd (upd (enterE [a0]) 2 .nsl) 3 (.bool false)) 10 a0) 11 v11) 12 v12) 13 v12) 14 v14) 15 v15) 16 v16) 17 v17) 18 v18) a0 h)))))))))
theorem run_gatepostref14_Parse {L : FuncId → List V → V → Prop} {K : V → Heap → Prop} {a0 : V} {h : Heap} (hp : p_gatepostref14_Parse L K a0 h) : Cf F L i_gatepostref14_Parse [a0] h K :=
  wcallp F_gatepostref14_Parse (show 1 ≤ 58 by decide) (p := p_gatepostref14_Parse L K a0 h) (by kernel_rfl) hp
def k_gatepostref14_Resolve_3 (L : FuncId → List V → V → Prop) (K : V → Heap → Prop) (v2 v4 : V) (h : Heap) : Prop :=
    (wi F L (.faddr 0 (.c v2)) E0 h fun v101 h =>
    (wi F L (.load false 1 (.c v101)) E0 h fun v102 h =>
    (wi F L (.faddr 1 (.c v2)) E0 h fun v103 h =>
    (wi F L (.load false 1 (.c v103)) E0 h fun v104 h =>
    (wi F L (.bin .add (.c v104) (.c (.int .i64 1))) E0 h fun v105 h =>
    (wi F L (.build [(.int .i64 0), (.int .i64 0)] [(0, 1, (.c v102)), (1, 1, (.c v105))]) E0 h fun v106 h =>
    (wi F L (.store 2 (.c v4) (.c v106)) E0 h fun _ h =>
    (∃ v, resultsV h (enterE [v4, (.bool true)]) [.cell 0 true 2, .tmp 1] = some v ∧ K v h))))))))
def k_gatepostref14_Resolve_2 (L : FuncId → List V → V → Prop) (K : V → Heap → Prop) (v1 v2 v4 : V) (h : Heap) : Prop :=
    (wi F L (.faddr 1 (.c v2)) E0 h fun v88 h =>
    (wi F L (.load false 1 (.c v88)) E0 h fun v89 h =>
    (wi F L (.bin .eql (.c v89) (.c (.int .i64 (-1)))) E0 h fun v90 h =>
    (wg v90 false (wi F L (.faddr 1 (.c v2)) E0 h) h fun v92 h =>
    (wg v90 false (wi F L (.load false 1 (.c v92)) E0 h) h fun v93 h =>
    (wg v90 false (wi F L (.mv (.c v1)) E0 h) h fun v94 h =>
    (wg v90 false (wi F L (.bin .geq (.c v93) (.c v94)) E0 h) h fun v95 h =>
    (wi F L (.pick (.c v90) (.c (.bool true)) (.c v95)) E0 h fun v96 h =>
    (wb v96
    (wi F L (.faddr 0 (.c v2)) E0 h fun v97 h =>
    (wi F L (.load false 1 (.c v97)) E0 h fun v98 h =>
    (wi F L (.build [(.int .i64 0), (.int .i64 0)] [(0, 1, (.c v98)), (1, 1, (.c v1))]) E0 h fun v100 h =>
    (wi F L (.store 2 (.c v4) (.c v100)) E0 h fun _ h =>
    (∃ v, resultsV h (enterE [v4, (.bool true)]) [.cell 0 true 2, .tmp 1] = some v ∧ K v h)))))
    (k_gatepostref14_Resolve_3 L K v2 v4 h))))))))))
def k_gatepostref14_Resolve_1 (L : FuncId → List V → V → Prop) (K : V → Heap → Prop) (v1 v2 v4 : V) (h : Heap) : Prop :=
    (wi F L (.faddr 0 (.c v2)) E0 h fun v83 h =>
    (wi F L (.load false 1 (.c v83)) E0 h fun v84 h =>
    (wi F L (.bin .geq (.c v84) (.c v1)) E0 h fun v86 h =>
    (wb v86
    (wi F L (.build [(.int .i64 0), (.int .i64 0)] []) E0 h fun v87 h =>
    (wi F L (.store 2 (.c v4) (.c v87)) E0 h fun _ h =>
    (∃ v, resultsV h (enterE [v4, (.bool false)]) [.cell 0 true 2, .tmp 1] = some v ∧ K v h)))
    (k_gatepostref14_Resolve_2 L K v1 v2 v4 h)))))
def k_gatepostref14_Resolve_5 (L : FuncId → List V → V → Prop) (K : V → Heap → Prop) (v1 v4 v6 : V) (h : Heap) : Prop :=
    (wi F L (.build [(.int .i64 0), (.int .i64 0)] [(0, 1, (.c v6)), (1, 1, (.c v1))]) E0 h fun v82 h =>
    (wi F L (.store 2 (.c v4) (.c v82)) E0 h fun _ h =>
    (∃ v, resultsV h (enterE [v4, (.bool true)]) [.cell 0 true 2, .tmp 1] = some v ∧ K v h)))
def k_gatepostref14_Resolve_4 (L : FuncId → List V → V → Prop) (K : V → Heap → Prop) (v1 v2 v4 : V) (h : Heap) : Prop :=
    (wi F L (.faddr 1 (.c v2)) E0 h fun v72 h =>
    (wi F L (.load false 1 (.c v72)) E0 h fun v73 h =>
    (wi F L (.bin .lss (.c v73) (.c v1)) E0 h fun v75 h =>
    (wb v75
    (wi F L (.faddr 1 (.c v2)) E0 h fun v77 h =>
    (wi F L (.load false 1 (.c v77)) E0 h fun v78 h =>
    (wi F L (.bin .sub (.c v1) (.c v78)) E0 h fun v79 h =>
    (k_gatepostref14_Resolve_5 L K v1 v4 v79 h))))
    (k_gatepostref14_Resolve_5 L K v1 v4 (.int .i64 0) h)))))
def k_gatepostref14_Resolve_0 (L : FuncId → List V → V → Prop) (K : V → Heap → Prop) (v1 v2 v4 : V) (h : Heap) : Prop :=
    (wi F L (.faddr 0 (.c v2)) E0 h fun v61 h =>
    (wi F L (.load false 1 (.c v61)) E0 h fun v62 h =>
    (wi F L (.bin .eql (.c v62) (.c (.int .i64 (-1)))) E0 h fun v63 h =>
    (wb v63
    (wi F L (.faddr 1 (.c v2)) E0 h fun v64 h =>
    (wi F L (.load false 1 (.c v64)) E0 h fun v65 h =>
    (wi F L (.bin .eql (.c v65) (.c (.int .i64 0))) E0 h fun v66 h =>
    (wg v66 false (wi F L (.mv (.c v1)) E0 h) h fun v68 h =>
    (wg v66 false (wi F L (.bin .eql (.c v68) (.c (.int .i64 0))) E0 h) h fun v69 h =>
    (wi F L (.pick (.c v66) (.c (.bool true)) (.c v69)) E0 h fun v70 h =>
    (wb v70
    (wi F L (.build [(.int .i64 0), (.int .i64 0)] []) E0 h fun v71 h =>
    (wi F L (.store 2 (.c v4) (.c v71)) E0 h fun _ h =>
    (∃ v, resultsV h (enterE [v4, (.bool false)]) [.cell 0 true 2, .tmp 1] = some v ∧ K v h)))
    (k_gatepostref14_Resolve_4 L K v1 v2 v4 h))))))))
    (k_gatepostref14_Resolve_1 L K v1 v2 v4 h)))))
def p_gatepostref14_Resolve (L : FuncId → List V → V → Prop) (K : V → Heap → Prop) (a0 a1 : V) (h : Heap) : Prop :=
    (wi F L (.box (.c a0)) E0 h fun v2 h =>
    (wi F L (.boxz [(.int .i64 0), (.int .i64 0)]) E0 h fun v4 h =>
    (wi F L (.bin .lss (.c a1) (.c (.int .i64 0))) E0 h fun v8 h =>
    (wg v8 false (wi F L (.mv (.c a1)) E0 h) h fun v10 h =>
    (wg v8 false (wi F L (.bin .gtr (.c v10) (.c (.int .i64 1048576))) E0 h) h fun v11 h =>
    (wi F L (.pick (.c v8) (.c (.bool true)) (.c v11)) E0 h fun v12 h =>
    (wg v12 false (wi F L (.faddr 0 (.c v2)) E0 h) h fun v14 h =>
    (wg v12 false (wi F L (.load false 1 (.c v14)) E0 h) h fun v15 h =>
    (wg v12 false (wi F L (.bin .lss (.c v15) (.c (.int .i64 (-1)))) E0 h) h fun v16 h =>
    (wi F L (.pick (.c v12) (.c (.bool true)) (.c v16)) E0 h fun v17 h =>
    (wg v17 false (wi F L (.faddr 1 (.c v2)) E0 h) h fun v19 h =>
    (wg v17 false (wi F L (.load false 1 (.c v19)) E0 h) h fun v20 h =>
    (wg v17 false (wi F L (.bin .lss (.c v20) (.c (.int .i64 (-1)))) E0 h) h fun v21 h =>
    (wi F L (.pick (.c v17) (.c (.bool true)) (.c v21)) E0 h fun v22 h =>
    (wg v22 false (wi F L (.faddr 0 (.c v2)) E0 h) h fun v24 h =>
    (wg v22 false (wi F L (.load false 1 (.c v24)) E0 h) h fun v25 h =>
    (wg v22 false (wi F L (.bin .gtr (.c v25) (.c (.int .i64 1099511627776))) E0 h) h fun v26 h =>
    (wi F L (.pick (.c v22) (.c (.bool true)) (.c v26)) E0 h fun v27 h =>
    (wg v27 false (wi F L (.faddr 1 (.c v2)) E0 h) h fun v29 h =>
    (wg v27 false (wi F L (.load false 1 (.c v29)) E0 h) h fun v30 h =>
    (wg v27 false (wi F L (.bin .gtr (.c v30) (.c (.int .i64 1099511627776))) E0 h) h fun v31 h =>
    (wi F L (.pick (.c v27) (.c (.bool true)) (.c v31)) E0 h fun v32 h =>
    (wg v32 false (wi F L (.faddr 0 (.c v2)) E0 h) h fun v34 h =>
    (wg v32 false (wi F L (.load false 1 (.c v34)) E0 h) h fun v35 h =>
    (wg v32 false (wi F L (.bin .eql (.c v35) (.c (.int .i64 (-1)))) E0 h) h fun v36 h =>
    (wg v32 false (wi F L (.mv (.c v36)) E0 h) h fun v37 h =>
    (wg v37 true (wi F L (.faddr 1 (.c v2)) E0 h) h fun v38 h =>
    (wg v37 true (wi F L (.load false 1 (.c v38)) E0 h) h fun v39 h =>
    (wg v37 true (wi F L (.bin .eql (.c v39) (.c (.int .i64 (-1)))) E0 h) h fun v40 h =>
    (wg v32 false (wi F L (.pick (.c v37) (.c v40) (.c (.bool false))) E0 h) h fun v41 h =>
    (wi F L (.pick (.c v32) (.c (.bool true)) (.c v41)) E0 h fun v42 h =>
    (wg v42 false (wi F L (.faddr 0 (.c v2)) E0 h) h fun v44 h =>
    (wg v42 false (wi F L (.load false 1 (.c v44)) E0 h) h fun v45 h =>
    (wg v42 false (wi F L (.bin .geq (.c v45) (.c (.int .i64 0))) E0 h) h fun v46 h =>
    (wg v42 false (wi F L (.mv (.c v46)) E0 h) h fun v47 h =>
    (wg v47 true (wi F L (.faddr 1 (.c v2)) E0 h) h fun v48 h =>
    (wg v47 true (wi F L (.load false 1 (.c v48)) E0 h) h fun v49 h =>
    (wg v47 true (wi F L (.bin .geq (.c v49) (.c (.int .i64 0))) E0 h) h fun v50 h =>
    (wg v42 false (wi F L (.pick (.c v47) (.c v50) (.c (.bool false))) E0 h) h fun v51 h =>
    (wg v42 false (wi F L (.mv (.c v51)) E0 h) h fun v52 h =>
    (wg v52 true (wi F L (.faddr 0 (.c v2)) E0 h) h fun v53 h =>
    (wg v52 true (wi F L (.load false 1 (.c v53)) E0 h) h fun v54 h =>
    (wg v52 true (wi F L (.faddr 1 (.c v2)) E0 h) h fun v55 h =>
    (wg v52 true (wi F L (.load false 1 (.c v55)) E0 h) h fun v56 h =>
    (wg v52 true (wi F L (.bin .gtr (.c v54) (.c v56)) E0 h) h fun v57 h =>
    (wg v42 false (wi F L (.pick (.c v52) (.c v57) (.c (.bool false))) E0 h) h fun v58 h =>
    (wi F L (.pick (.c v42) (.c (.bool true)) (.c v58)) E0 h fun v59 h =>
    (wb v59
    (wi F L (.build [(.int .i64 0), (.int .i64 0)] []) E0 h fun v60 h =>
    (wi F L (.store 2 (.c v4) (.c v60)) E0 h fun _ h =>
    (∃ v, resultsV h (enterE [v4, (.bool false)]) [.cell 0 true 2, .tmp 1] = some v ∧ K v h)))
    (k_gatepostref14_Resolve_0 L K a1 v2 v4 h)))))))))))))))))))))))))))))))))))))))))))))))))
theorem run_gatepostref14_Resolve {L : FuncId → List V → V → Prop} {K : V → Heap → Prop} {a0 a1 : V} {h : Heap} (hp : p_gatepostref14_Resolve L K a0 a1 h) : Cf F L i_gatepostref14_Resolve [a0, a1] h K :=
  wcallp F_gatepostref14_Resolve (show 2 ≤ 107 by decide) (p := p_gatepostref14_Resolve L K a0 a1 h) (by kernel_rfl) hp
def k_ranges_Pick_2 (L : FuncId → List V → V → Prop) (K : V → Heap → Prop) (v4 : V) (h : Heap) : Prop :=
    (wi F L (.build [(.int .i64 0), (.int .i64 0)] []) E0 h fun v57 h =>
    (wi F L (.store 2 (.c v4) (.c v57)) E0 h fun _ h =>
    (∃ v, resultsV h (enterE [v4, (.int .i64 0)]) [.cell 0 true 2, .tmp 1] = some v ∧ K v h)))
def k_ranges_Pick_1 (L : FuncId → List V → V → Prop) (K : V → Heap → Prop) (v4 v8 : V) (h : Heap) : Prop :=
    (wi F L (.len 1 (.c v8)) E0 h fun v48 h =>
    (wi F L (.bin .eql (.c v48) (.c (.int .i64 0))) E0 h fun v50 h =>
    (wb v50
    (wi F L (.build [(.int .i64 0), (.int .i64 0)] []) E0 h fun v51 h =>
    (wi F L (.store 2 (.c v4) (.c v51)) E0 h fun _ h =>
    (∃ v, resultsV h (enterE [v4, (.int .i64 2)]) [.cell 0 true 2, .tmp 1] = some v ∧ K v h)))
    (wi F L (.bin .eql (.c v48) (.c (.int .i64 1))) E0 h fun v53 h =>
    (wb v53
    (wi F L (.ixaSl 2 (.c v8) (.c (.int .i64 0))) E0 h fun v55 h =>
    (wi F L (.load true 2 (.c v55)) E0 h fun v56 h =>
    (wi F L (.store 2 (.c v4) (.c v56)) E0 h fun _ h =>
    (∃ v, resultsV h (enterE [v4, (.int .i64 1)]) [.cell 0 true 2, .tmp 1] = some v ∧ K v h))))
    (k_ranges_Pick_2 L K v4 h))))))
def k_ranges_Pick_4 (L : FuncId → List V → V → Prop) (K : V → Heap → Prop) (N0 : Env → Heap → Prop) (e : Env) (v31 : V) (h : Heap) : Prop :=
    (wi F L (.bin .add (.c v31) (.c (.int .i64 1))) E0 h fun v46 h =>
    (N0 (upd (upd e 46 v46) 31 v46) h))
def k_ranges_Pick_3 (L : FuncId → List V → V → Prop) (K : V → Heap → Prop) (N0 : Env → Heap → Prop) (e : Env) (v1 v8 v29 v31 : V) (h : Heap) : Prop :=
    (wi F L (.ixaSl 2 (.c v29) (.c v31)) E0 h fun v33 h =>
    (wi F L (.load true 2 (.c v33)) E0 h fun v34 h =>
    (wi F L (.boxz [(.int .i64 0), (.int .i64 0)]) E0 h fun v10 h =>
    (wi F L (.store 2 (.c v10) (.c v34)) E0 h fun _ h =>
    (wi F L (.load true 2 (.c v10)) E0 h fun v36 h =>
    (wi F L (.call i_ranges_Resolve [(.c v36), (.c v1)]) E0 h fun v38 h =>
    (wi F L (.ext 0 (.c v38)) E0 h fun v39 h =>
    (wi F L (.ext 1 (.c v38)) E0 h fun v40 h =>
    (wi F L (.boxz [(.int .i64 0), (.int .i64 0)]) E0 h fun v11 h =>
    (wi F L (.store 2 (.c v11) (.c v39)) E0 h fun _ h =>
    (wb v40
    (wi F L (.load true 2 (.c v11)) E0 h fun v43 h =>
    (wi F L (.bsl 2 [(.c v43)]) E0 h fun v44 h =>
    (wi F L (.app 2 16 false (.c v8) (.c v44)) E0 h fun v45 h =>
    (k_ranges_Pick_4 L K N0 (upd (upd (upd (upd (upd (upd (upd (upd (upd (upd (upd (upd (upd (upd (upd (upd (upd e 33 v33) 34 v34) 10 v10) 36 v36) 37 v1) 38 v38) 35 v38) 39 v39) 40 v40) 11 v11) 12 v40) 41 v40) 42 v8) 43 v43) 44 v44) 45 v45) 8 v45) v31 h))))
    (k_ranges_Pick_4 L K N0 (upd (upd (upd (upd (upd (upd (upd (upd (upd (upd (upd (upd e 33 v33) 34 v34) 10 v10) 36 v36) 37 v1) 38 v38) 35 v38) 39 v39) 40 v40) 11 v11) 12 v40) 41 v40) v31 h))))))))))))
def q_ranges_Pick_0 (L : FuncId → List V → V → Prop) (K : V → Heap → Prop) : X → Env → Heap → Prop := (fun x => (seqX (fun e h => k_ranges_Pick_1 L K (e 4) (e 8) h) (retX c_ranges_Pick.results K)) (X.out 0 x))
def lc_ranges_Pick_0 : C :=
  (.seq (.region [⟨(some 32), none, .bin .lss (.t 31) (.t 30)⟩])
  (.seq (.cond (.t 32)
    .skip
    (.exit 0))
  (.seq (.block 1 (.seq (.region [⟨(some 33), none, .ixaSl 2 (.t 29) (.t 31)⟩, ⟨(some 34), none, .load true 2 (.t 33)⟩, ⟨(some 10), none, .boxz [(.int .i64 0), (.int .i64 0)]⟩, ⟨none, none, .store 2 (.t 10) (.t 34)⟩])
  (.seq (.region [⟨(some 36), none, .load true 2 (.t 10)⟩, ⟨(some 37), none, .mv (.t 1)⟩, ⟨(some 38), none, .call i_ranges_Resolve [(.t 36), (.t 37)]⟩, ⟨(some 35), none, .mv (.t 38)⟩, ⟨(some 39), none, .ext 0 (.t 35)⟩, ⟨(some 40), none, .ext 1 (.t 35)⟩, ⟨(some 11), none, .boxz [(.int .i64 0), (.int .i64 0)]⟩, ⟨none, none, .store 2 (.t 11) (.t 39)⟩, ⟨(some 12), none, .mv (.t 40)⟩])
  (.seq (.region [⟨(some 41), none, .mv (.t 12)⟩])
  (.cond (.t 41)
    (.region [⟨(some 42), none, .mv (.t 8)⟩, ⟨(some 43), none, .load true 2 (.t 11)⟩, ⟨(some 44), none, .bsl 2 [(.t 43)]⟩, ⟨(some 45), none, .app 2 16 false (.t 42) (.t 44)⟩, ⟨(some 8), none, .mv (.t 45)⟩])
    .skip)))))
  (.region [⟨(some 46), none, .bin .add (.t 31) (.c (.int .i64 1))⟩, ⟨(some 31), none, .mv (.t 46)⟩]))))
def b_ranges_Pick_0 (L : FuncId → List V → V → Prop) (K : V → Heap → Prop) (N0 : Env → Heap → Prop) (e : Env) (h : Heap) : Prop :=
    (wi F L (.bin .lss (.c (e 31)) (.c (e 30))) E0 h fun v32 h =>
    (wb v32
    (k_ranges_Pick_3 L K N0 (upd e 32 v32) (e 1) (e 8) (e 29) (e 31) h)
    (k_ranges_Pick_1 L K (e 4) (e 8) h)))
theorem l_ranges_Pick_0 {L : FuncId → List V → V → Prop} {K : V → Heap → Prop} (I : Nat → Env → Heap → Prop) (hr : ∀ n e h, I n e h → b_ranges_Pick_0 L K (fun e' h' => ∃ m, m < n ∧ I m e' h') e h) {n : Nat} {e : Env} {h : Heap} (hi : I n e h) : Wl F L lc_ranges_Pick_0 (q_ranges_Pick_0 L K) e h :=
  wloopp (b := b_ranges_Pick_0 L K) I (fun _ _ _ => by kernel_rfl) hr hi
def k_ranges_Pick_0 (L : FuncId → List V → V → Prop) (K : V → Heap → Prop) (e : Env) (v6 : V) (h : Heap) : Prop :=
    (wi F L (.len 1 (.c v6)) E0 h fun v30 h =>
    (Wl F L lc_ranges_Pick_0 (q_ranges_Pick_0 L K) (upd (upd (upd (upd e 8 .nsl) 29 v6) 30 v30) 31 (.int .i64 0)) h))
def p_ranges_Pick (L : FuncId → List V → V → Prop) (K : V → Heap → Prop) (a0 a1 : V) (h : Heap) : Prop :=
    (wi F L (.boxz [(.int .i64 0), (.int .i64 0)]) E0 h fun v4 h =>
    (wi F L (.call i_ranges_Parse [(.c a0)]) E0 h fun v15 h =>
    (wi F L (.ext 0 (.c v15)) E0 h fun v16 h =>
    (wi F L (.ext 1 (.c v15)) E0 h fun v17 h =>
    (wi F L (.un .not (.c v17)) E0 h fun v19 h =>
    (wg v19 false (wi F L (.mv (.c a1)) E0 h) h fun v21 h =>
    (wg v19 false (wi F L (.bin .lss (.c v21) (.c (.int .i64 0))) E0 h) h fun v22 h =>
    (wi F L (.pick (.c v19) (.c (.bool true)) (.c v22)) E0 h fun v23 h =>
    (wg v23 false (wi F L (.mv (.c a1)) E0 h) h fun v25 h =>
    (wg v23 false (wi F L (.bin .gtr (.c v25) (.c (.int .i64 1048576))) E0 h) h fun v26 h =>
    (wi F L (.pick (.c v23) (.c (.bool true)) (.c v26)) E0 h fun v27 h =>
    (wb v27
    (wi F L (.build [(.int .i64 0), (.int .i64 0)] []) E0 h fun v28 h =>
    (wi F L (.store 2 (.c v4) (.c v28)) E0 h fun _ h =>
    (∃ v, resultsV h (enterE [v4, (.int .i64 0)]) [.cell 0 true 2, .tmp 1] = some v ∧ K v h)))
    (k_ranges_Pick_0 L K (upd (upd (upd (upd (upd (upd (upd (upd (upd (upd (upd (upd (upd (upd (upd (upd (upd (upd (upd (enterE [a0, a1]) 4 v4) 5 (.int .i64 0)) 14 a0) 15 v15) 13 v15) 16 v16) 17 v17) 6 v16) 7 v17) 18 v17) 19 v19) 20 v19) 21 v21) 22 v22) 23 v23) 24 v23) 25 v25) 26 v26) 27 v27) v16 h)))))))))))))
theorem run_ranges_Pick {L : FuncId → List V → V → Prop} {K : V → Heap → Prop} {a0 a1 : V} {h : Heap} (hp : p_ranges_Pick L K a0 a1 h) : Cf F L i_ranges_Pick [a0, a1] h K :=
  wcallp F_ranges_Pick (show 2 ≤ 58 by decide) (p := p_ranges_Pick L K a0 a1 h) (by kernel_rfl) hp
def k_gatepostref14_Pick_3 (L : FuncId → List V → V → Prop) (K : V → Heap → Prop) (v4 v9 : V) (h : Heap) : Prop :=
    (wi F L (.load true 2 (.c v9)) E0 h fun v55 h =>
    (wi F L (.store 2 (.c v4) (.c v55)) E0 h fun _ h =>
    (∃ v, resultsV h (enterE [v4, (.int .i64 1)]) [.cell 0 true 2, .tmp 1] = some v ∧ K v h)))
def k_gatepostref14_Pick_2 (L : FuncId → List V → V → Prop) (K : V → Heap → Prop) (v4 v8 v9 : V) (h : Heap) : Prop :=
    (wi F L (.bin .gtr (.c v8) (.c (.int .i64 1))) E0 h fun v53 h =>
    (wb v53
    (wi F L (.build [(.int .i64 0), (.int .i64 0)] []) E0 h fun v54 h =>
    (wi F L (.store 2 (.c v4) (.c v54)) E0 h fun _ h =>
    (∃ v, resultsV h (enterE [v4, (.int .i64 0)]) [.cell 0 true 2, .tmp 1] = some v ∧ K v h)))
    (k_gatepostref14_Pick_3 L K v4 v9 h)))
def k_gatepostref14_Pick_1 (L : FuncId → List V → V → Prop) (K : V → Heap → Prop) (v4 v8 v9 : V) (h : Heap) : Prop :=
    (wi F L (.bin .eql (.c v8) (.c (.int .i64 0))) E0 h fun v50 h =>
    (wb v50
    (wi F L (.build [(.int .i64 0), (.int .i64 0)] []) E0 h fun v51 h =>
    (wi F L (.store 2 (.c v4) (.c v51)) E0 h fun _ h =>
    (∃ v, resultsV h (enterE [v4, (.int .i64 2)]) [.cell 0 true 2, .tmp 1] = some v ∧ K v h)))
    (k_gatepostref14_Pick_2 L K v4 v8 v9 h)))
def k_gatepostref14_Pick_5 (L : FuncId → List V → V → Prop) (K : V → Heap → Prop) (N0 : Env → Heap → Prop) (e : Env) (v10 : V) (h : Heap) : Prop :=
    (wi F L (.bin .add (.c v10) (.c (.int .i64 1))) E0 h fun v35 h =>
    (N0 (upd (upd (upd e 34 v10) 35 v35) 10 v35) h))
def k_gatepostref14_Pick_4 (L : FuncId → List V → V → Prop) (K : V → Heap → Prop) (N0 : Env → Heap → Prop) (e : Env) (v1 v6 v8 v9 v10 : V) (h : Heap) : Prop :=
    (wi F L (.ixaSl 2 (.c v6) (.c v10)) E0 h fun v39 h =>
    (wi F L (.load true 2 (.c v39)) E0 h fun v40 h =>
    (wi F L (.call i_gatepostref14_Resolve [(.c v40), (.c v1)]) E0 h fun v42 h =>
    (wi F L (.ext 0 (.c v42)) E0 h fun v43 h =>
    (wi F L (.ext 1 (.c v42)) E0 h fun v44 h =>
    (wi F L (.boxz [(.int .i64 0), (.int .i64 0)]) E0 h fun v11 h =>
    (wi F L (.store 2 (.c v11) (.c v43)) E0 h fun _ h =>
    (wb v44
    (wi F L (.bin .add (.c v8) (.c (.int .i64 1))) E0 h fun v47 h =>
    (wi F L (.load true 2 (.c v11)) E0 h fun v48 h =>
    (wi F L (.store 2 (.c v9) (.c v48)) E0 h fun _ h =>
    (k_gatepostref14_Pick_5 L K N0 (upd (upd (upd (upd (upd (upd (upd (upd (upd (upd (upd (upd (upd (upd (upd (upd e 37 v6) 38 v10) 39 v39) 40 v40) 41 v1) 42 v42) 36 v42) 43 v43) 44 v44) 11 v11) 12 v44) 45 v44) 46 v8) 47 v47) 8 v47) 48 v48) v10 h))))
    (k_gatepostref14_Pick_5 L K N0 (upd (upd (upd (upd (upd (upd (upd (upd (upd (upd (upd (upd e 37 v6) 38 v10) 39 v39) 40 v40) 41 v1) 42 v42) 36 v42) 43 v43) 44 v44) 11 v11) 12 v44) 45 v44) v10 h)))))))))
def q_gatepostref14_Pick_0 (L : FuncId → List V → V → Prop) (K : V → Heap → Prop) : X → Env → Heap → Prop := (fun x => (seqX (fun e h => k_gatepostref14_Pick_1 L K (e 4) (e 8) (e 9) h) (retX c_gatepostref14_Pick.results K)) (X.out 0 x))
def lc_gatepostref14_Pick_0 : C :=
  (.seq (.seq (.region [⟨(some 30), none, .mv (.t 10)⟩, ⟨(some 31), none, .mv (.t 6)⟩, ⟨(some 32), none, .len 1 (.t 31)⟩, ⟨(some 33), none, .bin .lss (.t 30) (.t 32)⟩])
  (.cond (.t 33)
    .skip
    (.exit 0)))
  (.seq (.block 1 (.seq (.region [⟨(some 37), none, .mv (.t 6)⟩, ⟨(some 38), none, .mv (.t 10)⟩, ⟨(some 39), none, .ixaSl 2 (.t 37) (.t 38)⟩, ⟨(some 40), none, .load true 2 (.t 39)⟩, ⟨(some 41), none, .mv (.t 1)⟩, ⟨(some 42), none, .call i_gatepostref14_Resolve [(.t 40), (.t 41)]⟩, ⟨(some 36), none, .mv (.t 42)⟩, ⟨(some 43), none, .ext 0 (.t 36)⟩, ⟨(some 44), none, .ext 1 (.t 36)⟩, ⟨(some 11), none, .boxz [(.int .i64 0), (.int .i64 0)]⟩, ⟨none, none, .store 2 (.t 11) (.t 43)⟩, ⟨(some 12), none, .mv (.t 44)⟩])
  (.seq (.region [⟨(some 45), none, .mv (.t 12)⟩])
  (.cond (.t 45)
    (.seq (.region [⟨(some 46), none, .mv (.t 8)⟩, ⟨(some 47), none, .bin .add (.t 46) (.c (.int .i64 1))⟩, ⟨(some 8), none, .mv (.t 47)⟩])
    (.region [⟨(some 48), none, .load true 2 (.t 11)⟩, ⟨none, none, .store 2 (.t 9) (.t 48)⟩]))
    .skip))))
  (.region [⟨(some 34), none, .mv (.t 10)⟩, ⟨(some 35), none, .bin .add (.t 34) (.c (.int .i64 1))⟩, ⟨(some 10), none, .mv (.t 35)⟩])))
def b_gatepostref14_Pick_0 (L : FuncId → List V → V → Prop) (K : V → Heap → Prop) (N0 : Env → Heap → Prop) (e : Env) (h : Heap) : Prop :=
    (wi F L (.len 1 (.c (e 6))) E0 h fun v32 h =>
    (wi F L (.bin .lss (.c (e 10)) (.c v32)) E0 h fun v33 h =>
    (wb v33
    (k_gatepostref14_Pick_4 L K N0 (upd (upd (upd (upd e 30 (e 10)) 31 (e 6)) 32 v32) 33 v33) (e 1) (e 6) (e 8) (e 9) (e 10) h)
    (k_gatepostref14_Pick_1 L K (e 4) (e 8) (e 9) h))))
theorem l_gatepostref14_Pick_0 {L : FuncId → List V → V → Prop} {K : V → Heap → Prop} (I : Nat → Env → Heap → Prop) (hr : ∀ n e h, I n e h → b_gatepostref14_Pick_0 L K (fun e' h' => ∃ m, m < n ∧ I m e' h') e h) {n : Nat} {e : Env} {h : Heap} (hi : I n e h) : Wl F L lc_gatepostref14_Pick_0 (q_gatepostref14_Pick_0 L K) e h :=
  wloopp (b := b_gatepostref14_Pick_0 L K) I (fun _ _ _ => by kernel_rfl) hr hi
def k_gatepostref14_Pick_0 (L : FuncId → List V → V → Prop) (K : V → Heap → Prop) (e : Env) (h : Heap) : Prop :=
    (wi F L (.build [(.int .i64 0), (.int .i64 0)] []) E0 h fun v29 h =>
    (wi F L (.boxz [(.int .i64 0), (.int .i64 0)]) E0 h fun v9 h =>
    (wi F L (.store 2 (.c v9) (.c v29)) E0 h fun _ h =>
    (Wl F L lc_gatepostref14_Pick_0 (q_gatepostref14_Pick_0 L K) (upd (upd (upd (upd e 8 (.int .i64 0)) 29 v29) 9 v9) 10 (.int .i64 0)) h))))
def p_gatepostref14_Pick (L : FuncId → List V → V → Prop) (K : V → Heap → Prop) (a0 a1 : V) (h : Heap) : Prop :=
    (wi F L (.boxz [(.int .i64 0), (.int .i64 0)]) E0 h fun v4 h =>
    (wi F L (.call i_gatepostref14_Parse [(.c a0)]) E0 h fun v15 h =>
    (wi F L (.ext 0 (.c v15)) E0 h fun v16 h =>
    (wi F L (.ext 1 (.c v15)) E0 h fun v17 h =>
    (wi F L (.un .not (.c v17)) E0 h fun v19 h =>
    (wg v19 false (wi F L (.mv (.c a1)) E0 h) h fun v21 h =>
    (wg v19 false (wi F L (.bin .lss (.c v21) (.c (.int .i64 0))) E0 h) h fun v22 h =>
    (wi F L (.pick (.c v19) (.c (.bool true)) (.c v22)) E0 h fun v23 h =>
    (wg v23 false (wi F L (.mv (.c a1)) E0 h) h fun v25 h =>
    (wg v23 false (wi F L (.bin .gtr (.c v25) (.c (.int .i64 1048576))) E0 h) h fun v26 h =>
    (wi F L (.pick (.c v23) (.c (.bool true)) (.c v26)) E0 h fun v27 h =>
    (wb v27
    (wi F L (.build [(.int .i64 0), (.int .i64 0)] []) E0 h fun v28 h =>
    (wi F L (.store 2 (.c v4) (.c v28)) E0 h fun _ h =>
    (∃ v, resultsV h (enterE [v4, (.int .i64 0)]) [.cell 0 true 2, .tmp 1] = some v ∧ K v h)))
    (k_gatepostref14_Pick_0 L K (upd (upd (upd (upd (upd (upd (upd (upd (upd (upd (upd (upd (upd (upd (upd (upd (upd (upd (upd (enterE [a0, a1]) 4 v4) 5 (.int .i64 0)) 14 a0) 15 v15) 13 v15) 16 v16) 17 v17) 6 v16) 7 v17) 18 v17) 19 v19) 20 v19) 21 v21) 22 v22) 23 v23) 24 v23) 25 v25) 26 v26) 27 v27)  h)))))))))))))
theorem run_gatepostref14_Pick {L : FuncId → List V → V → Prop} {K : V → Heap → Prop} {a0 a1 : V} {h : Heap} (hp : p_gatepostref14_Pick L K a0 a1 h) : Cf F L i_gatepostref14_Pick [a0, a1] h K :=
  wcallp F_gatepostref14_Pick (show 2 ≤ 56 by decide) (p := p_gatepostref14_Pick L K a0 a1 h) (by kernel_rfl) hp
def k_gatepostlaw14_number_0 (L : FuncId → List V → V → Prop) (K : V → Heap → Prop) (v0 : V) (h : Heap) : Prop :=
    (wi F L (.bin .quo (.c v0) (.c (.int .i64 10))) E0 h fun v10 h =>
    (wi F L (.call i_gatepostlaw14_number [(.c v10)]) E0 h fun v11 h =>
    (wi F L (.bin .rem (.c v0) (.c (.int .i64 10))) E0 h fun v13 h =>
    (wi F L (.call i_gatepostlaw14_number [(.c v13)]) E0 h fun v14 h =>
    (wi F L (.bin .add (.c v11) (.c v14)) E0 h fun v15 h =>
    (∃ v, some v15 = some v ∧ K v h))))))
def p_gatepostlaw14_number (L : FuncId → List V → V → Prop) (K : V → Heap → Prop) (a0 : V) (h : Heap) : Prop :=
    (wi F L (.bin .lss (.c a0) (.c (.int .i64 10))) E0 h fun v4 h =>
    (wb v4
    (wi F L (.bin .add (.c a0) (.c (.int .i64 1))) E0 h fun v7 h =>
    (wi F L (.slstr (.c (.str [48, 49, 50, 51, 52, 53, 54, 55, 56, 57])) (some (.c a0)) (some (.c v7))) E0 h fun v8 h =>
    (∃ v, some v8 = some v ∧ K v h)))
    (k_gatepostlaw14_number_0 L K a0 h)))
theorem run_gatepostlaw14_number {L : FuncId → List V → V → Prop} {K : V → Heap → Prop} {a0 : V} {h : Heap} (hp : p_gatepostlaw14_number L K a0 h) : Cf F L i_gatepostlaw14_number [a0] h K :=
  wcallp F_gatepostlaw14_number (show 1 ≤ 16 by decide) (p := p_gatepostlaw14_number L K a0 h) (by kernel_rfl) hp
def k_ranges_may_0 (L : FuncId → List V → V → Prop) (K : V → Heap → Prop) (v1 v2 : V) (h : Heap) : Prop :=
    (wi F L (.bin .eql (.c v1) (.c (.int .i64 (-1)))) E0 h fun v29 h =>
    (wg v29 true (wi F L (.faddr 0 (.c v2)) E0 h) h fun v31 h =>
    (wg v29 true (wi F L (.load false 1 (.c v31)) E0 h) h fun v32 h =>
    (wg v29 true (wi F L (.faddr 1 (.c v2)) E0 h) h fun v33 h =>
    (wg v29 true (wi F L (.load false 1 (.c v33)) E0 h) h fun v34 h =>
    (wg v29 true (wi F L (.bin .lss (.c v32) (.c v34)) E0 h) h fun v35 h =>
    (wi F L (.pick (.c v29) (.c v35) (.c (.bool false))) E0 h fun v36 h =>
    (wg v36 false (wi F L (.mv (.c v1)) E0 h) h fun v38 h =>
    (wg v36 false (wi F L (.bin .neq (.c v38) (.c (.int .i64 (-1)))) E0 h) h fun v39 h =>
    (wg v36 false (wi F L (.mv (.c v39)) E0 h) h fun v40 h =>
    (wg v40 true (wi F L (.faddr 1 (.c v2)) E0 h) h fun v41 h =>
    (wg v40 true (wi F L (.load false 1 (.c v41)) E0 h) h fun v42 h =>
    (wg v40 true (wi F L (.mv (.c v1)) E0 h) h fun v43 h =>
    (wg v40 true (wi F L (.bin .leq (.c v42) (.c v43)) E0 h) h fun v44 h =>
    (wg v36 false (wi F L (.pick (.c v40) (.c v44) (.c (.bool false))) E0 h) h fun v45 h =>
    (wi F L (.pick (.c v36) (.c (.bool true)) (.c v45)) E0 h fun v46 h =>
    (∃ v, some v46 = some v ∧ K v h)))))))))))))))))
def p_ranges_may (L : FuncId → List V → V → Prop) (K : V → Heap → Prop) (a0 a1 : V) (h : Heap) : Prop :=
    (wi F L (.box (.c a0)) E0 h fun v2 h =>
    (wi F L (.bin .lss (.c a1) (.c (.int .i64 (-1)))) E0 h fun v6 h =>
    (wg v6 false (wi F L (.mv (.c a1)) E0 h) h fun v8 h =>
    (wg v6 false (wi F L (.bin .gtr (.c v8) (.c (.int .i64 1048576))) E0 h) h fun v9 h =>
    (wi F L (.pick (.c v6) (.c (.bool true)) (.c v9)) E0 h fun v10 h =>
    (wg v10 false (wi F L (.faddr 0 (.c v2)) E0 h) h fun v12 h =>
    (wg v10 false (wi F L (.load false 1 (.c v12)) E0 h) h fun v13 h =>
    (wg v10 false (wi F L (.bin .lss (.c v13) (.c (.int .i64 0))) E0 h) h fun v14 h =>
    (wi F L (.pick (.c v10) (.c (.bool true)) (.c v14)) E0 h fun v15 h =>
    (wg v15 false (wi F L (.faddr 0 (.c v2)) E0 h) h fun v17 h =>
    (wg v15 false (wi F L (.load false 1 (.c v17)) E0 h) h fun v18 h =>
    (wg v15 false (wi F L (.faddr 1 (.c v2)) E0 h) h fun v19 h =>
    (wg v15 false (wi F L (.load false 1 (.c v19)) E0 h) h fun v20 h =>
    (wg v15 false (wi F L (.bin .gtr (.c v18) (.c v20)) E0 h) h fun v21 h =>
    (wi F L (.pick (.c v15) (.c (.bool true)) (.c v21)) E0 h fun v22 h =>
    (wg v22 false (wi F L (.faddr 1 (.c v2)) E0 h) h fun v24 h =>
    (wg v22 false (wi F L (.load false 1 (.c v24)) E0 h) h fun v25 h =>
    (wg v22 false (wi F L (.bin .gtr (.c v25) (.c (.int .i64 1048576))) E0 h) h fun v26 h =>
    (wi F L (.pick (.c v22) (.c (.bool true)) (.c v26)) E0 h fun v27 h =>
    (wb v27
    (∃ v, some (.bool false) = some v ∧ K v h)
    (k_ranges_may_0 L K a1 v2 h)))))))))))))))))))))
theorem run_ranges_may {L : FuncId → List V → V → Prop} {K : V → Heap → Prop} {a0 a1 : V} {h : Heap} (hp : p_ranges_may L K a0 a1 h) : Cf F L i_ranges_may [a0, a1] h K :=
  wcallp F_ranges_may (show 2 ≤ 47 by decide) (p := p_ranges_may L K a0 a1 h) (by kernel_rfl) hp
def k_gatepostref14_right_0 (L : FuncId → List V → V → Prop) (K : V → Heap → Prop) (v1 v2 : V) (h : Heap) : Prop :=
    (wi F L (.faddr 0 (.c v2)) E0 h fun v38 h =>
    (wi F L (.load false 1 (.c v38)) E0 h fun v39 h =>
    (wi F L (.faddr 1 (.c v2)) E0 h fun v40 h =>
    (wi F L (.load false 1 (.c v40)) E0 h fun v41 h =>
    (wi F L (.bin .lss (.c v39) (.c v41)) E0 h fun v42 h =>
    (wg v42 false (wi F L (.mv (.c v1)) E0 h) h fun v44 h =>
    (wg v42 false (wi F L (.bin .geq (.c v44) (.c (.int .i64 0))) E0 h) h fun v45 h =>
    (wi F L (.pick (.c v42) (.c (.bool true)) (.c v45)) E0 h fun v46 h =>
    (∃ v, some v46 = some v ∧ K v h)))))))))
def p_gatepostref14_right (L : FuncId → List V → V → Prop) (K : V → Heap → Prop) (a0 a1 : V) (h : Heap) : Prop :=
    (wi F L (.box (.c a0)) E0 h fun v2 h =>
    (wi F L (.bin .lss (.c a1) (.c (.int .i64 (-1)))) E0 h fun v6 h =>
    (wg v6 false (wi F L (.mv (.c a1)) E0 h) h fun v8 h =>
    (wg v6 false (wi F L (.bin .gtr (.c v8) (.c (.int .i64 1048576))) E0 h) h fun v9 h =>
    (wi F L (.pick (.c v6) (.c (.bool true)) (.c v9)) E0 h fun v10 h =>
    (wg v10 false (wi F L (.faddr 0 (.c v2)) E0 h) h fun v12 h =>
    (wg v10 false (wi F L (.load false 1 (.c v12)) E0 h) h fun v13 h =>
    (wg v10 false (wi F L (.bin .lss (.c v13) (.c (.int .i64 0))) E0 h) h fun v14 h =>
    (wi F L (.pick (.c v10) (.c (.bool true)) (.c v14)) E0 h fun v15 h =>
    (wg v15 false (wi F L (.faddr 0 (.c v2)) E0 h) h fun v17 h =>
    (wg v15 false (wi F L (.load false 1 (.c v17)) E0 h) h fun v18 h =>
    (wg v15 false (wi F L (.faddr 1 (.c v2)) E0 h) h fun v19 h =>
    (wg v15 false (wi F L (.load false 1 (.c v19)) E0 h) h fun v20 h =>
    (wg v15 false (wi F L (.bin .gtr (.c v18) (.c v20)) E0 h) h fun v21 h =>
    (wi F L (.pick (.c v15) (.c (.bool true)) (.c v21)) E0 h fun v22 h =>
    (wg v22 false (wi F L (.faddr 1 (.c v2)) E0 h) h fun v24 h =>
    (wg v22 false (wi F L (.load false 1 (.c v24)) E0 h) h fun v25 h =>
    (wg v22 false (wi F L (.bin .gtr (.c v25) (.c (.int .i64 1048576))) E0 h) h fun v26 h =>
    (wi F L (.pick (.c v22) (.c (.bool true)) (.c v26)) E0 h fun v27 h =>
    (wg v27 false (wi F L (.mv (.c a1)) E0 h) h fun v29 h =>
    (wg v27 false (wi F L (.bin .geq (.c v29) (.c (.int .i64 0))) E0 h) h fun v30 h =>
    (wg v27 false (wi F L (.mv (.c v30)) E0 h) h fun v31 h =>
    (wg v31 true (wi F L (.faddr 1 (.c v2)) E0 h) h fun v32 h =>
    (wg v31 true (wi F L (.load false 1 (.c v32)) E0 h) h fun v33 h =>
    (wg v31 true (wi F L (.mv (.c a1)) E0 h) h fun v34 h =>
    (wg v31 true (wi F L (.bin .gtr (.c v33) (.c v34)) E0 h) h fun v35 h =>
    (wg v27 false (wi F L (.pick (.c v31) (.c v35) (.c (.bool false))) E0 h) h fun v36 h =>
    (wi F L (.pick (.c v27) (.c (.bool true)) (.c v36)) E0 h fun v37 h =>
    (wb v37
    (∃ v, some (.bool false) = some v ∧ K v h)
    (k_gatepostref14_right_0 L K a1 v2 h))))))))))))))))))))))))))))))
theorem run_gatepostref14_right {L : FuncId → List V → V → Prop} {K : V → Heap → Prop} {a0 a1 : V} {h : Heap} (hp : p_gatepostref14_right L K a0 a1 h) : Cf F L i_gatepostref14_right [a0, a1] h K :=
  wcallp F_gatepostref14_right (show 2 ≤ 47 by decide) (p := p_gatepostref14_right L K a0 a1 h) (by kernel_rfl) hp
def k_gatepostref14_digits_0 (L : FuncId → List V → V → Prop) (K : V → Heap → Prop) (v0 : V) (h : Heap) : Prop :=
    (wi F L (.bin .quo (.c v0) (.c (.int .i64 10))) E0 h fun v10 h =>
    (wi F L (.call i_gatepostref14_digits [(.c v10)]) E0 h fun v11 h =>
    (wi F L (.bin .rem (.c v0) (.c (.int .i64 10))) E0 h fun v13 h =>
    (wi F L (.call i_gatepostref14_digits [(.c v13)]) E0 h fun v14 h =>
    (wi F L (.bin .add (.c v11) (.c v14)) E0 h fun v15 h =>
    (∃ v, some v15 = some v ∧ K v h))))))
def p_gatepostref14_digits (L : FuncId → List V → V → Prop) (K : V → Heap → Prop) (a0 : V) (h : Heap) : Prop :=
    (wi F L (.bin .lss (.c a0) (.c (.int .i64 10))) E0 h fun v4 h =>
    (wb v4
    (wi F L (.bin .add (.c a0) (.c (.int .i64 1))) E0 h fun v7 h =>
    (wi F L (.slstr (.c (.str [48, 49, 50, 51, 52, 53, 54, 55, 56, 57])) (some (.c a0)) (some (.c v7))) E0 h fun v8 h =>
    (∃ v, some v8 = some v ∧ K v h)))
    (k_gatepostref14_digits_0 L K a0 h)))
theorem run_gatepostref14_digits {L : FuncId → List V → V → Prop} {K : V → Heap → Prop} {a0 : V} {h : Heap} (hp : p_gatepostref14_digits L K a0 h) : Cf F L i_gatepostref14_digits [a0] h K :=
  wcallp F_gatepostref14_digits (show 1 ≤ 16 by decide) (p := p_gatepostref14_digits L K a0 h) (by kernel_rfl) hp
def p_strings_CutPrefix (L : FuncId → List V → V → Prop) (K : V → Heap → Prop) (a0 a1 : V) (h : Heap) : Prop :=
    (wi F L (.call i_internal_stringslite_CutPrefix [(.c a0), (.c a1)]) E0 h fun v8 h =>
    (wi F L (.ext 0 (.c v8)) E0 h fun v9 h =>
    (wi F L (.ext 1 (.c v8)) E0 h fun v10 h =>
    (∃ v, resultsV h (enterE [v9, v10]) [.tmp 0, .tmp 1] = some v ∧ K v h))))
theorem run_strings_CutPrefix {L : FuncId → List V → V → Prop} {K : V → Heap → Prop} {a0 a1 : V} {h : Heap} (hp : p_strings_CutPrefix L K a0 a1 h) : Cf F L i_strings_CutPrefix [a0, a1] h K :=
  wcallp F_strings_CutPrefix (show 2 ≤ 11 by decide) (p := p_strings_CutPrefix L K a0 a1 h) (by kernel_rfl) hp
def p_strings_Cut (L : FuncId → List V → V → Prop) (K : V → Heap → Prop) (a0 a1 : V) (h : Heap) : Prop :=
    (wi F L (.call i_internal_stringslite_Cut [(.c a0), (.c a1)]) E0 h fun v9 h =>
    (wi F L (.ext 0 (.c v9)) E0 h fun v10 h =>
    (wi F L (.ext 1 (.c v9)) E0 h fun v11 h =>
    (wi F L (.ext 2 (.c v9)) E0 h fun v12 h =>
    (∃ v, resultsV h (enterE [v10, v11, v12]) [.tmp 0, .tmp 1, .tmp 2] = some v ∧ K v h)))))
theorem run_strings_Cut {L : FuncId → List V → V → Prop} {K : V → Heap → Prop} {a0 a1 : V} {h : Heap} (hp : p_strings_Cut L K a0 a1 h) : Cf F L i_strings_Cut [a0, a1] h K :=
  wcallp F_strings_Cut (show 2 ≤ 13 by decide) (p := p_strings_Cut L K a0 a1 h) (by kernel_rfl) hp
def p_ranges_Read_1 (L : FuncId → List V → V → Prop) (K : V → Heap → Prop) (a0 a1 : V) (h : Heap) : Prop :=
    (wi F L (.call i_token_Number [(.c a0), (.c (.int .i64 1048577))]) E0 h fun v8 h =>
    (wi F L (.ext 0 (.c v8)) E0 h fun v9 h =>
    (wi F L (.ext 1 (.c v8)) E0 h fun v10 h =>
    (wi F L (.load false 1 (.c a1)) E0 h fun v11 h =>
    (wg v11 true (wi F L (.mv (.c v10)) E0 h) h fun v13 h =>
    (wi F L (.pick (.c v11) (.c v13) (.c (.bool false))) E0 h fun v14 h =>
    (wi F L (.store 1 (.c a1) (.c v14)) E0 h fun _ h =>
    (∃ v, some v9 = some v ∧ K v h))))))))
theorem run_ranges_Read_1 {L : FuncId → List V → V → Prop} {K : V → Heap → Prop} {a0 a1 : V} {h : Heap} (hp : p_ranges_Read_1 L K a0 a1 h) : Cf F L i_ranges_Read_1 [a0, a1] h K :=
  wcallp F_ranges_Read_1 (show 2 ≤ 16 by decide) (p := p_ranges_Read_1 L K a0 a1 h) (by kernel_rfl) hp
def k_token_Number_1 (L : FuncId → List V → V → Prop) (K : V → Heap → Prop) (v6 : V) (h : Heap) : Prop :=
    (∃ v, resultsV h (enterE [v6, (.bool true)]) [.tmp 0, .tmp 1] = some v ∧ K v h)
def k_token_Number_3 (L : FuncId → List V → V → Prop) (K : V → Heap → Prop) (N0 : Env → Heap → Prop) (e : Env) (v22 : V) (h : Heap) : Prop :=
    (wi F L (.bin .add (.c v22) (.c (.int .i64 1))) E0 h fun v46 h =>
    (N0 (upd (upd e 46 v46) 22 v46) h))
def k_token_Number_4 (L : FuncId → List V → V → Prop) (K : V → Heap → Prop) (N0 : Env → Heap → Prop) (e : Env) (v6 v8 v22 : V) (h : Heap) : Prop :=
    (wi F L (.bin .mul (.c (.int .i64 10)) (.c v6)) E0 h fun v43 h =>
    (wi F L (.bin .add (.c v43) (.c v8)) E0 h fun v45 h =>
    (k_token_Number_3 L K N0 (upd (upd (upd (upd (upd e 42 v6) 43 v43) 44 v8) 45 v45) 6 v45) v22 h)))
def k_token_Number_2 (L : FuncId → List V → V → Prop) (K : V → Heap → Prop) (N0 : Env → Heap → Prop) (e : Env) (v0 v1 v6 v22 : V) (h : Heap) : Prop :=
    (wi F L (.ixStr (.c v0) (.c v22)) E0 h fun v27 h =>
    (wi F L (.bin .sub (.c v27) (.c (.int .u8 48))) E0 h fun v28 h =>
    (wi F L (.toInt .i64 (.c v28)) E0 h fun v29 h =>
    (wi F L (.bin .gtr (.c v29) (.c v1)) E0 h fun v32 h =>
    (wg v32 false (wi F L (.mv (.c v6)) E0 h) h fun v34 h =>
    (wg v32 false (wi F L (.mv (.c v1)) E0 h) h fun v35 h =>
    (wg v32 false (wi F L (.mv (.c v29)) E0 h) h fun v36 h =>
    (wg v32 false (wi F L (.bin .sub (.c v35) (.c v36)) E0 h) h fun v37 h =>
    (wg v32 false (wi F L (.bin .quo (.c v37) (.c (.int .i64 10))) E0 h) h fun v38 h =>
    (wg v32 false (wi F L (.bin .gtr (.c v34) (.c v38)) E0 h) h fun v39 h =>
    (wi F L (.pick (.c v32) (.c (.bool true)) (.c v39)) E0 h fun v40 h =>
    (wb v40
    (∃ v, resultsV h (enterE [v1, (.bool true)]) [.tmp 0, .tmp 1] = some v ∧ K v h)
    (k_token_Number_4 L K N0 (upd (upd (upd (upd (upd (upd (upd (upd (upd (upd (upd (upd (upd (upd (upd (upd (upd (upd (upd e 24 v22) 7 v22) 25 v0) 26 v22) 27 v27) 28 v28) 29 v29) 8 v29) 30 v29) 31 v1) 32 v32) 33 v32) 34 v34) 35 v35) 36 v36) 37 v37) 38 v38) 39 v39) 40 v40) v6 v29 v22 h)))))))))))))
def q_token_Number_0 (L : FuncId → List V → V → Prop) (K : V → Heap → Prop) : X → Env → Heap → Prop := (fun x => (seqX (fun e h => k_token_Number_1 L K (e 6) h) (retX c_token_Number.results K)) (X.out 0 x))
def lc_token_Number_0 : C :=
  (.seq (.region [⟨(some 23), none, .bin .lss (.t 22) (.t 21)⟩])
  (.seq (.cond (.t 23)
    .skip
    (.exit 0))
  (.seq (.block 1 (.seq (.region [⟨(some 24), none, .mv (.t 22)⟩, ⟨(some 7), none, .mv (.t 24)⟩])
  (.seq (.region [⟨(some 25), none, .mv (.t 0)⟩, ⟨(some 26), none, .mv (.t 7)⟩, ⟨(some 27), none, .ixStr (.t 25) (.t 26)⟩, ⟨(some 28), none, .bin .sub (.t 27) (.c (.int .u8 48))⟩, ⟨(some 29), none, .toInt .i64 (.t 28)⟩, ⟨(some 8), none, .mv (.t 29)⟩])
  (.seq (.seq (.region [⟨(some 30), none, .mv (.t 8)⟩, ⟨(some 31), none, .mv (.t 1)⟩, ⟨(some 32), none, .bin .gtr (.t 30) (.t 31)⟩, ⟨(some 33), none, .mv (.t 32)⟩, ⟨(some 34), (some (33, false)), .mv (.t 6)⟩, ⟨(some 35), (some (33, false)), .mv (.t 1)⟩, ⟨(some 36), (some (33, false)), .mv (.t 8)⟩, ⟨(some 37), (some (33, false)), .bin .sub (.t 35) (.t 36)⟩, ⟨(some 38), (some (33, false)), .bin .quo (.t 37) (.c (.int .i64 10))⟩, ⟨(some 39), (some (33, false)), .bin .gtr (.t 34) (.t 38)⟩, ⟨(some 40), none, .pick (.t 33) (.c (.bool true)) (.t 39)⟩])
  (.cond (.t 40)
    (.seq (.region [⟨(some 41), none, .mv (.t 1)⟩, ⟨(some 4), none, .mv (.t 41)⟩, ⟨(some 5), none, .mv (.c (.bool true))⟩])
    .ret)
    .skip))
  (.region [⟨(some 42), none, .mv (.t 6)⟩, ⟨(some 43), none, .bin .mul (.c (.int .i64 10)) (.t 42)⟩, ⟨(some 44), none, .mv (.t 8)⟩, ⟨(some 45), none, .bin .add (.t 43) (.t 44)⟩, ⟨(some 6), none, .mv (.t 45)⟩])))))
  (.region [⟨(some 46), none, .bin .add (.t 22) (.c (.int .i64 1))⟩, ⟨(some 22), none, .mv (.t 46)⟩]))))
def b_token_Number_0 (L : FuncId → List V → V → Prop) (K : V → Heap → Prop) (N0 : Env → Heap → Prop) (e : Env) (h : Heap) : Prop :=
    (wi F L (.bin .lss (.c (e 22)) (.c (e 21))) E0 h fun v23 h =>
    (wb v23
    (k_token_Number_2 L K N0 (upd e 23 v23) (e 0) (e 1) (e 6) (e 22) h)
    (k_token_Number_1 L K (e 6) h)))
theorem l_token_Number_0 {L : FuncId → List V → V → Prop} {K : V → Heap → Prop} (I : Nat → Env → Heap → Prop) (hr : ∀ n e h, I n e h → b_token_Number_0 L K (fun e' h' => ∃ m, m < n ∧ I m e' h') e h) {n : Nat} {e : Env} {h : Heap} (hi : I n e h) : Wl F L lc_token_Number_0 (q_token_Number_0 L K) e h :=
  wloopp (b := b_token_Number_0 L K) I (fun _ _ _ => by kernel_rfl) hr hi
def k_token_Number_0 (L : FuncId → List V → V → Prop) (K : V → Heap → Prop) (e : Env) (v0 : V) (h : Heap) : Prop :=
    (wi F L (.len 0 (.c v0)) E0 h fun v21 h =>
    (Wl F L lc_token_Number_0 (q_token_Number_0 L K) (upd (upd (upd (upd e 6 (.int .i64 0)) 20 v0) 21 v21) 22 (.int .i64 0)) h))
def p_token_Number (L : FuncId → List V → V → Prop) (K : V → Heap → Prop) (a0 a1 : V) (h : Heap) : Prop :=
    (wi F L (.bin .eql (.c a0) (.c (.str []))) E0 h fun v10 h =>
    (wg v10 false (wi F L (.mv (.c a1)) E0 h) h fun v12 h =>
    (wg v10 false (wi F L (.bin .lss (.c v12) (.c (.int .i64 0))) E0 h) h fun v13 h =>
    (wi F L (.pick (.c v10) (.c (.bool true)) (.c v13)) E0 h fun v14 h =>
    (wg v14 false (wi F L (.mv (.c a0)) E0 h) h fun v16 h =>
    (wg v14 false (wi F L (.call i_token_all [(.c v16), (.c (.fn i_token_Number_1 []))]) E0 h) h fun v17 h =>
    (wg v14 false (wi F L (.un .not (.c v17)) E0 h) h fun v18 h =>
    (wi F L (.pick (.c v14) (.c (.bool true)) (.c v18)) E0 h fun v19 h =>
    (wb v19
    (∃ v, resultsV h (enterE [(.int .i64 0), (.bool false)]) [.tmp 0, .tmp 1] = some v ∧ K v h)
    (k_token_Number_0 L K (upd (upd (upd (upd (upd (upd (upd (upd (upd (upd (upd (upd (upd (enterE [a0, a1]) 4 (.int .i64 0)) 5 (.bool false)) 9 a0) 10 v10) 11 v10) 12 v12) 13 v13) 14 v14) 15 v14) 16 v16) 17 v17) 18 v18) 19 v19) a0 h))))))))))
theorem run_token_Number {L : FuncId → List V → V → Prop} {K : V → Heap → Prop} {a0 a1 : V} {h : Heap} (hp : p_token_Number L K a0 a1 h) : Cf F L i_token_Number [a0, a1] h K :=
  wcallp F_token_Number (show 2 ≤ 48 by decide) (p := p_token_Number L K a0 a1 h) (by kernel_rfl) hp
def k_gatepostref01_Number_2 (L : FuncId → List V → V → Prop) (K : V → Heap → Prop) (v6 : V) (h : Heap) : Prop :=
    (∃ v, resultsV h (enterE [v6, (.bool true)]) [.tmp 0, .tmp 1] = some v ∧ K v h)
def k_gatepostref01_Number_4 (L : FuncId → List V → V → Prop) (K : V → Heap → Prop) (N0 : Env → Heap → Prop) (e : Env) (v8 : V) (h : Heap) : Prop :=
    (wi F L (.bin .add (.c v8) (.c (.int .i64 1))) E0 h fun v38 h =>
    (N0 (upd (upd (upd e 37 v8) 38 v38) 8 v38) h))
def k_gatepostref01_Number_5 (L : FuncId → List V → V → Prop) (K : V → Heap → Prop) (N0 : Env → Heap → Prop) (e : Env) (v6 v8 v9 : V) (h : Heap) : Prop :=
    (wi F L (.bin .mul (.c v6) (.c (.int .i64 10))) E0 h fun v57 h =>
    (wi F L (.bin .add (.c v57) (.c v9)) E0 h fun v59 h =>
    (k_gatepostref01_Number_4 L K N0 (upd (upd (upd (upd (upd e 56 v6) 57 v57) 58 v9) 59 v59) 6 v59) v8 h)))
def k_gatepostref01_Number_3 (L : FuncId → List V → V → Prop) (K : V → Heap → Prop) (N0 : Env → Heap → Prop) (e : Env) (v0 v1 v6 v8 : V) (h : Heap) : Prop :=
    (wi F L (.ixStr (.c v0) (.c v8)) E0 h fun v41 h =>
    (wi F L (.bin .sub (.c v41) (.c (.int .u8 48))) E0 h fun v42 h =>
    (wi F L (.toInt .i64 (.c v42)) E0 h fun v43 h =>
    (wi F L (.bin .sub (.c v1) (.c v43)) E0 h fun v47 h =>
    (wi F L (.bin .quo (.c v47) (.c (.int .i64 10))) E0 h fun v48 h =>
    (wi F L (.bin .gtr (.c v6) (.c v48)) E0 h fun v49 h =>
    (wg v49 false (wi F L (.mv (.c v1)) E0 h) h fun v51 h =>
    (wg v49 false (wi F L (.mv (.c v43)) E0 h) h fun v52 h =>
    (wg v49 false (wi F L (.bin .lss (.c v51) (.c v52)) E0 h) h fun v53 h =>
    (wi F L (.pick (.c v49) (.c (.bool true)) (.c v53)) E0 h fun v54 h =>
    (wb v54
    (∃ v, resultsV h (enterE [v1, (.bool true)]) [.tmp 0, .tmp 1] = some v ∧ K v h)
    (k_gatepostref01_Number_5 L K N0 (upd (upd (upd (upd (upd (upd (upd (upd (upd (upd (upd (upd (upd (upd (upd (upd (upd e 39 v0) 40 v8) 41 v41) 42 v42) 43 v43) 9 v43) 44 v6) 45 v1) 46 v43) 47 v47) 48 v48) 49 v49) 50 v49) 51 v51) 52 v52) 53 v53) 54 v54) v6 v8 v43 h))))))))))))
def q_gatepostref01_Number_0 (L : FuncId → List V → V → Prop) (K : V → Heap → Prop) : X → Env → Heap → Prop := (fun x => (seqX (fun e h => k_gatepostref01_Number_2 L K (e 6) h) (retX c_gatepostref01_Number.results K)) (X.out 2 x))
def lc_gatepostref01_Number_0 : C :=
  (.seq (.seq (.region [⟨(some 33), none, .mv (.t 8)⟩, ⟨(some 34), none, .mv (.t 0)⟩, ⟨(some 35), none, .len 0 (.t 34)⟩, ⟨(some 36), none, .bin .lss (.t 33) (.t 35)⟩])
  (.cond (.t 36)
    .skip
    (.exit 2)))
  (.seq (.block 3 (.seq (.region [⟨(some 39), none, .mv (.t 0)⟩, ⟨(some 40), none, .mv (.t 8)⟩, ⟨(some 41), none, .ixStr (.t 39) (.t 40)⟩, ⟨(some 42), none, .bin .sub (.t 41) (.c (.int .u8 48))⟩, ⟨(some 43), none, .toInt .i64 (.t 42)⟩, ⟨(some 9), none, .mv (.t 43)⟩])
  (.seq (.seq (.region [⟨(some 44), none, .mv (.t 6)⟩, ⟨(some 45), none, .mv (.t 1)⟩, ⟨(some 46), none, .mv (.t 9)⟩, ⟨(some 47), none, .bin .sub (.t 45) (.t 46)⟩, ⟨(some 48), none, .bin .quo (.t 47) (.c (.int .i64 10))⟩, ⟨(some 49), none, .bin .gtr (.t 44) (.t 48)⟩, ⟨(some 50), none, .mv (.t 49)⟩, ⟨(some 51), (some (50, false)), .mv (.t 1)⟩, ⟨(some 52), (some (50, false)), .mv (.t 9)⟩, ⟨(some 53), (some (50, false)), .bin .lss (.t 51) (.t 52)⟩, ⟨(some 54), none, .pick (.t 50) (.c (.bool true)) (.t 53)⟩])
  (.cond (.t 54)
    (.seq (.region [⟨(some 55), none, .mv (.t 1)⟩, ⟨(some 4), none, .mv (.t 55)⟩, ⟨(some 5), none, .mv (.c (.bool true))⟩])
    .ret)
    .skip))
  (.region [⟨(some 56), none, .mv (.t 6)⟩, ⟨(some 57), none, .bin .mul (.t 56) (.c (.int .i64 10))⟩, ⟨(some 58), none, .mv (.t 9)⟩, ⟨(some 59), none, .bin .add (.t 57) (.t 58)⟩, ⟨(some 6), none, .mv (.t 59)⟩]))))
  (.region [⟨(some 37), none, .mv (.t 8)⟩, ⟨(some 38), none, .bin .add (.t 37) (.c (.int .i64 1))⟩, ⟨(some 8), none, .mv (.t 38)⟩])))
def b_gatepostref01_Number_0 (L : FuncId → List V → V → Prop) (K : V → Heap → Prop) (N0 : Env → Heap → Prop) (e : Env) (h : Heap) : Prop :=
    (wi F L (.len 0 (.c (e 0))) E0 h fun v35 h =>
    (wi F L (.bin .lss (.c (e 8)) (.c v35)) E0 h fun v36 h =>
    (wb v36
    (k_gatepostref01_Number_3 L K N0 (upd (upd (upd (upd e 33 (e 8)) 34 (e 0)) 35 v35) 36 v36) (e 0) (e 1) (e 6) (e 8) h)
    (k_gatepostref01_Number_2 L K (e 6) h))))
theorem l_gatepostref01_Number_0 {L : FuncId → List V → V → Prop} {K : V → Heap → Prop} (I : Nat → Env → Heap → Prop) (hr : ∀ n e h, I n e h → b_gatepostref01_Number_0 L K (fun e' h' => ∃ m, m < n ∧ I m e' h') e h) {n : Nat} {e : Env} {h : Heap} (hi : I n e h) : Wl F L lc_gatepostref01_Number_0 (q_gatepostref01_Number_0 L K) e h :=
  wloopp (b := b_gatepostref01_Number_0 L K) I (fun _ _ _ => by kernel_rfl) hr hi
def k_gatepostref01_Number_1 (L : FuncId → List V → V → Prop) (K : V → Heap → Prop) (e : Env) (h : Heap) : Prop :=
    (Wl F L lc_gatepostref01_Number_0 (q_gatepostref01_Number_0 L K) (upd e 8 (.int .i64 0)) h)
def k_gatepostref01_Number_7 (L : FuncId → List V → V → Prop) (K : V → Heap → Prop) (N0 : Env → Heap → Prop) (e : Env) (v7 : V) (h : Heap) : Prop :=
    (wi F L (.bin .add (.c v7) (.c (.int .i64 1))) E0 h fun v22 h =>
    (N0 (upd (upd (upd e 21 v7) 22 v22) 7 v22) h))
def k_gatepostref01_Number_6 (L : FuncId → List V → V → Prop) (K : V → Heap → Prop) (N0 : Env → Heap → Prop) (e : Env) (v0 v7 : V) (h : Heap) : Prop :=
    (wi F L (.ixStr (.c v0) (.c v7)) E0 h fun v25 h =>
    (wi F L (.bin .lss (.c v25) (.c (.int .u8 48))) E0 h fun v26 h =>
    (wg v26 false (wi F L (.mv (.c v0)) E0 h) h fun v28 h =>
    (wg v26 false (wi F L (.mv (.c v7)) E0 h) h fun v29 h =>
    (wg v26 false (wi F L (.ixStr (.c v28) (.c v29)) E0 h) h fun v30 h =>
    (wg v26 false (wi F L (.bin .gtr (.c v30) (.c (.int .u8 57))) E0 h) h fun v31 h =>
    (wi F L (.pick (.c v26) (.c (.bool true)) (.c v31)) E0 h fun v32 h =>
    (wb v32
    (∃ v, resultsV h (enterE [(.int .i64 0), (.bool false)]) [.tmp 0, .tmp 1] = some v ∧ K v h)
    (k_gatepostref01_Number_7 L K N0 (upd (upd (upd (upd (upd (upd (upd (upd (upd (upd e 23 v0) 24 v7) 25 v25) 26 v26) 27 v26) 28 v28) 29 v29) 30 v30) 31 v31) 32 v32) v7 h)))))))))
def q_gatepostref01_Number_1 (L : FuncId → List V → V → Prop) (K : V → Heap → Prop) : X → Env → Heap → Prop := (fun x => (seqX (fun e h => k_gatepostref01_Number_1 L K e  h) (retX c_gatepostref01_Number.results K)) (X.out 0 x))
def lc_gatepostref01_Number_1 : C :=
  (.seq (.seq (.region [⟨(some 17), none, .mv (.t 7)⟩, ⟨(some 18), none, .mv (.t 0)⟩, ⟨(some 19), none, .len 0 (.t 18)⟩, ⟨(some 20), none, .bin .lss (.t 17) (.t 19)⟩])
  (.cond (.t 20)
    .skip
    (.exit 0)))
  (.seq (.block 1 (.seq (.region [⟨(some 23), none, .mv (.t 0)⟩, ⟨(some 24), none, .mv (.t 7)⟩, ⟨(some 25), none, .ixStr (.t 23) (.t 24)⟩, ⟨(some 26), none, .bin .lss (.t 25) (.c (.int .u8 48))⟩, ⟨(some 27), none, .mv (.t 26)⟩, ⟨(some 28), (some (27, false)), .mv (.t 0)⟩, ⟨(some 29), (some (27, false)), .mv (.t 7)⟩, ⟨(some 30), (some (27, false)), .ixStr (.t 28) (.t 29)⟩, ⟨(some 31), (some (27, false)), .bin .gtr (.t 30) (.c (.int .u8 57))⟩, ⟨(some 32), none, .pick (.t 27) (.c (.bool true)) (.t 31)⟩])
  (.cond (.t 32)
    (.seq (.region [⟨(some 4), none, .mv (.c (.int .i64 0))⟩, ⟨(some 5), none, .mv (.c (.bool false))⟩])
    .ret)
    .skip)))
  (.region [⟨(some 21), none, .mv (.t 7)⟩, ⟨(some 22), none, .bin .add (.t 21) (.c (.int .i64 1))⟩, ⟨(some 7), none, .mv (.t 22)⟩])))
def b_gatepostref01_Number_1 (L : FuncId → List V → V → Prop) (K : V → Heap → Prop) (N0 : Env → Heap → Prop) (e : Env) (h : Heap) : Prop :=
    (wi F L (.len 0 (.c (e 0))) E0 h fun v19 h =>
    (wi F L (.bin .lss (.c (e 7)) (.c v19)) E0 h fun v20 h =>
    (wb v20
    (k_gatepostref01_Number_6 L K N0 (upd (upd (upd (upd e 17 (e 7)) 18 (e 0)) 19 v19) 20 v20) (e 0) (e 7) h)
    (k_gatepostref01_Number_1 L K (upd (upd (upd (upd e 17 (e 7)) 18 (e 0)) 19 v19) 20 v20)  h))))
theorem l_gatepostref01_Number_1 {L : FuncId → List V → V → Prop} {K : V → Heap → Prop} (I : Nat → Env → Heap → Prop) (hr : ∀ n e h, I n e h → b_gatepostref01_Number_1 L K (fun e' h' => ∃ m, m < n ∧ I m e' h') e h) {n : Nat} {e : Env} {h : Heap} (hi : I n e h) : Wl F L lc_gatepostref01_Number_1 (q_gatepostref01_Number_1 L K) e h :=
  wloopp (b := b_gatepostref01_Number_1 L K) I (fun _ _ _ => by kernel_rfl) hr hi
def k_gatepostref01_Number_0 (L : FuncId → List V → V → Prop) (K : V → Heap → Prop) (e : Env) (h : Heap) : Prop :=
    (Wl F L lc_gatepostref01_Number_1 (q_gatepostref01_Number_1 L K) (upd (upd e 6 (.int .i64 0)) 7 (.int .i64 0)) h)
def p_gatepostref01_Number (L : FuncId → List V → V → Prop) (K : V → Heap → Prop) (a0 a1 : V) (h : Heap) : Prop :=
    (wi F L (.bin .lss (.c a1) (.c (.int .i64 0))) E0 h fun v11 h =>
    (wg v11 false (wi F L (.mv (.c a0)) E0 h) h fun v13 h =>
    (wg v11 false (wi F L (.len 0 (.c v13)) E0 h) h fun v14 h =>
    (wg v11 false (wi F L (.bin .eql (.c v14) (.c (.int .i64 0))) E0 h) h fun v15 h =>
    (wi F L (.pick (.c v11) (.c (.bool true)) (.c v15)) E0 h fun v16 h =>
    (wb v16
    (∃ v, resultsV h (enterE [(.int .i64 0), (.bool false)]) [.tmp 0, .tmp 1] = some v ∧ K v h)
    (k_gatepostref01_Number_0 L K (upd (upd (upd (upd (upd (upd (upd (upd (upd (enterE [a0, a1]) 4 (.int .i64 0)) 5 (.bool false)) 10 a1) 11 v11) 12 v11) 13 v13) 14 v14) 15 v15) 16 v16)  h)))))))
theorem run_gatepostref01_Number {L : FuncId → List V → V → Prop} {K : V → Heap → Prop} {a0 a1 : V} {h : Heap} (hp : p_gatepostref01_Number L K a0 a1 h) : Cf F L i_gatepostref01_Number [a0, a1] h K :=
  wcallp F_gatepostref01_Number (show 2 ≤ 61 by decide) (p := p_gatepostref01_Number L K a0 a1 h) (by kernel_rfl) hp
def p_ranges_fine (L : FuncId → List V → V → Prop) (K : V → Heap → Prop) (a0 : V) (h : Heap) : Prop :=
    (wi F L (.box (.c a0)) E0 h fun v1 h =>
    (wi F L (.faddr 0 (.c v1)) E0 h fun v4 h =>
    (wi F L (.load false 1 (.c v4)) E0 h fun v5 h =>
    (wi F L (.bin .geq (.c v5) (.c (.int .i64 (-1)))) E0 h fun v6 h =>
    (wg v6 true (wi F L (.faddr 1 (.c v1)) E0 h) h fun v8 h =>
    (wg v6 true (wi F L (.load false 1 (.c v8)) E0 h) h fun v9 h =>
    (wg v6 true (wi F L (.bin .geq (.c v9) (.c (.int .i64 (-1)))) E0 h) h fun v10 h =>
    (wi F L (.pick (.c v6) (.c v10) (.c (.bool false))) E0 h fun v11 h =>
    (wg v11 true (wi F L (.faddr 0 (.c v1)) E0 h) h fun v13 h =>
    (wg v11 true (wi F L (.load false 1 (.c v13)) E0 h) h fun v14 h =>
    (wg v11 true (wi F L (.bin .leq (.c v14) (.c (.int .i64 1099511627776))) E0 h) h fun v15 h =>
    (wi F L (.pick (.c v11) (.c v15) (.c (.bool false))) E0 h fun v16 h =>
    (wg v16 true (wi F L (.faddr 1 (.c v1)) E0 h) h fun v18 h =>
    (wg v16 true (wi F L (.load false 1 (.c v18)) E0 h) h fun v19 h =>
    (wg v16 true (wi F L (.bin .leq (.c v19) (.c (.int .i64 1099511627776))) E0 h) h fun v20 h =>
    (wi F L (.pick (.c v16) (.c v20) (.c (.bool false))) E0 h fun v21 h =>
    (wg v21 true (wi F L (.load true 2 (.c v1)) E0 h) h fun v24 h =>
    (wg v21 true (wi F L (.build [(.int .i64 0), (.int .i64 0)] [(0, 1, (.c (.int .i64 (-1)))), (1, 1, (.c (.int .i64 (-1))))]) E0 h) h fun v25 h =>
    (wg v21 true (wi F L (.eq (.agg [.i, .i]) true (.c v24) (.c v25)) E0 h) h fun v26 h =>
    (wi F L (.pick (.c v21) (.c v26) (.c (.bool false))) E0 h fun v27 h =>
    (wg v27 true (wi F L (.faddr 0 (.c v1)) E0 h) h fun v29 h =>
    (wg v27 true (wi F L (.load false 1 (.c v29)) E0 h) h fun v30 h =>
    (wg v27 true (wi F L (.bin .eql (.c v30) (.c (.int .i64 (-1)))) E0 h) h fun v31 h =>
    (wg v27 true (wi F L (.mv (.c v31)) E0 h) h fun v32 h =>
    (wg v32 false (wi F L (.faddr 1 (.c v1)) E0 h) h fun v33 h =>
    (wg v32 false (wi F L (.load false 1 (.c v33)) E0 h) h fun v34 h =>
    (wg v32 false (wi F L (.bin .eql (.c v34) (.c (.int .i64 (-1)))) E0 h) h fun v35 h =>
    (wg v27 true (wi F L (.pick (.c v32) (.c (.bool true)) (.c v35)) E0 h) h fun v36 h =>
    (wg v27 true (wi F L (.mv (.c v36)) E0 h) h fun v37 h =>
    (wg v37 false (wi F L (.faddr 0 (.c v1)) E0 h) h fun v38 h =>
    (wg v37 false (wi F L (.load false 1 (.c v38)) E0 h) h fun v39 h =>
    (wg v37 false (wi F L (.faddr 1 (.c v1)) E0 h) h fun v40 h =>
    (wg v37 false (wi F L (.load false 1 (.c v40)) E0 h) h fun v41 h =>
    (wg v37 false (wi F L (.bin .leq (.c v39) (.c v41)) E0 h) h fun v42 h =>
    (wg v27 true (wi F L (.pick (.c v37) (.c (.bool true)) (.c v42)) E0 h) h fun v43 h =>
    (wi F L (.pick (.c v27) (.c v43) (.c (.bool false))) E0 h fun v44 h =>
    (∃ v, some v44 = some v ∧ K v h)))))))))))))))))))))))))))))))))))))
theorem run_ranges_fine {L : FuncId → List V → V → Prop} {K : V → Heap → Prop} {a0 : V} {h : Heap} (hp : p_ranges_fine L K a0 h) : Cf F L i_ranges_fine [a0] h K :=
  wcallp F_ranges_fine (show 1 ≤ 45 by decide) (p := p_ranges_fine L K a0 h) (by kernel_rfl) hp
def p_token_Same (L : FuncId → List V → V → Prop) (K : V → Heap → Prop) (a0 a1 : V) (h : Heap) : Prop :=
    (wi F L (.len 0 (.c a0)) E0 h fun v6 h =>
    (wi F L (.len 0 (.c a1)) E0 h fun v8 h =>
    (wi F L (.bin .eql (.c v6) (.c v8)) E0 h fun v9 h =>
    (wg v9 true (wi F L (.mv (.c a0)) E0 h) h fun v11 h =>
    (wg v9 true (wi F L (.call i_token_Lower [(.c v11)]) E0 h) h fun v12 h =>
    (wg v9 true (wi F L (.mv (.c a1)) E0 h) h fun v13 h =>
    (wg v9 true (wi F L (.call i_token_Lower [(.c v13)]) E0 h) h fun v14 h =>
    (wg v9 true (wi F L (.bin .eql (.c v12) (.c v14)) E0 h) h fun v15 h =>
    (wi F L (.pick (.c v9) (.c v15) (.c (.bool false))) E0 h fun v16 h =>
    (∃ v, some v16 = some v ∧ K v h))))))))))
theorem run_token_Same {L : FuncId → List V → V → Prop} {K : V → Heap → Prop} {a0 a1 : V} {h : Heap} (hp : p_token_Same L K a0 a1 h) : Cf F L i_token_Same [a0, a1] h K :=
  wcallp F_token_Same (show 2 ≤ 17 by decide) (p := p_token_Same L K a0 a1 h) (by kernel_rfl) hp
def k_token_Split_1 (L : FuncId → List V → V → Prop) (K : V → Heap → Prop) (v1 v4 v6 : V) (h : Heap) : Prop :=
    (wi F L (.load false 1 (.c v1)) E0 h fun v45 h =>
    (wi F L (.len 0 (.c v45)) E0 h fun v46 h =>
    (wi F L (.callv (.c v6) [(.c v46)]) E0 h fun v47 h =>
    (wi F L (.load false 1 (.c v4)) E0 h fun v48 h =>
    (wi F L (.load false 1 (.c v4)) E0 h fun v49 h =>
    (wi F L (.len 1 (.c v49)) E0 h fun v50 h =>
    (wi F L (.load false 1 (.c v4)) E0 h fun v51 h =>
    (wi F L (.len 1 (.c v51)) E0 h fun v52 h =>
    (wi F L (.slsl 1 (.c v48) none (some (.c v50)) (some (.c v52))) E0 h fun v53 h =>
    (∃ v, resultsV h (enterE [v53, (.bool true)]) [.tmp 0, .tmp 1] = some v ∧ K v h))))))))))
def k_token_Split_0 (L : FuncId → List V → V → Prop) (K : V → Heap → Prop) (v1 v4 v6 v7 : V) (h : Heap) : Prop :=
    (wb v7
    (∃ v, resultsV h (enterE [.nsl, (.bool false)]) [.tmp 0, .tmp 1] = some v ∧ K v h)
    (k_token_Split_1 L K v1 v4 v6 h))
def k_token_Split_3 (L : FuncId → List V → V → Prop) (K : V → Heap → Prop) (N0 : Env → Heap → Prop) (e : Env) (v8 : V) (h : Heap) : Prop :=
    (wi F L (.bin .add (.c v8) (.c (.int .i64 1))) E0 h fun v16 h =>
    (N0 (upd (upd (upd e 15 v8) 16 v16) 8 v16) h))
def k_token_Split_2 (L : FuncId → List V → V → Prop) (K : V → Heap → Prop) (N0 : Env → Heap → Prop) (e : Env) (v1 v6 v7 v8 : V) (h : Heap) : Prop :=
    (wi F L (.load false 1 (.c v1)) E0 h fun v17 h =>
    (wi F L (.ixStr (.c v17) (.c v8)) E0 h fun v19 h =>
    (wi F L (.bin .eql (.c v19) (.c (.int .u8 34))) E0 h fun v22 h =>
    (wb v22
    (wi F L (.un .not (.c v7)) E0 h fun v24 h =>
    (k_token_Split_3 L K N0 (upd (upd (upd (upd (upd (upd (upd (upd (upd (upd e 17 v17) 18 v8) 19 v19) 9 v19) 21 v19) 22 v22) 20 v22) 23 v7) 24 v24) 7 v24) v8 h))
    (wg v7 true (wi F L (.mv (.c v19)) E0 h) h fun v28 h =>
    (wg v7 true (wi F L (.bin .eql (.c v28) (.c (.int .u8 92))) E0 h) h fun v29 h =>
    (wi F L (.pick (.c v7) (.c v29) (.c (.bool false))) E0 h fun v30 h =>
    (wb v30
    (wi F L (.bin .add (.c v8) (.c (.int .i64 1))) E0 h fun v32 h =>
    (k_token_Split_3 L K N0 (upd (upd (upd (upd (upd (upd (upd (upd (upd (upd (upd (upd (upd (upd (upd (upd e 17 v17) 18 v8) 19 v19) 9 v19) 21 v19) 22 v22) 20 v22) 26 v7) 27 v7) 28 v28) 29 v29) 30 v30) 25 v30) 31 v8) 32 v32) 8 v32) v32 h))
    (wi F L (.un .not (.c v7)) E0 h fun v35 h =>
    (wg v35 true (wi F L (.mv (.c v19)) E0 h) h fun v37 h =>
    (wg v35 true (wi F L (.bin .eql (.c v37) (.c (.int .u8 44))) E0 h) h fun v38 h =>
    (wi F L (.pick (.c v35) (.c v38) (.c (.bool false))) E0 h fun v39 h =>
    (wb v39
    (wi F L (.callv (.c v6) [(.c v8)]) E0 h fun v42 h =>
    (k_token_Split_3 L K N0 (upd (upd (upd (upd (upd (upd (upd (upd (upd (upd (upd (upd (upd (upd (upd (upd (upd (upd (upd (upd (upd (upd (upd e 17 v17) 18 v8) 19 v19) 9 v19) 21 v19) 22 v22) 20 v22) 26 v7) 27 v7) 28 v28) 29 v29) 30 v30) 25 v30) 34 v7) 35 v35) 36 v35) 37 v37) 38 v38) 39 v39) 33 v39) 40 v6) 41 v8) 42 v42) v8 h))
    (k_token_Split_3 L K N0 (upd (upd (upd (upd (upd (upd (upd (upd (upd (upd (upd (upd (upd (upd (upd (upd (upd (upd (upd (upd e 17 v17) 18 v8) 19 v19) 9 v19) 21 v19) 22 v22) 20 v22) 26 v7) 27 v7) 28 v28) 29 v29) 30 v30) 25 v30) 34 v7) 35 v35) 36 v35) 37 v37) 38 v38) 39 v39) 33 v39) v8 h))))))))))))))
def q_token_Split_0 (L : FuncId → List V → V → Prop) (K : V → Heap → Prop) : X → Env → Heap → Prop := (fun x => (seqX (fun e h => k_token_Split_0 L K (e 1) (e 4) (e 6) (e 7) h) (retX c_token_Split.results K)) (X.out 0 x))
def lc_token_Split_0 : C :=
  (.seq (.seq (.region [⟨(some 11), none, .mv (.t 8)⟩, ⟨(some 12), none, .load false 1 (.t 1)⟩, ⟨(some 13), none, .len 0 (.t 12)⟩, ⟨(some 14), none, .bin .lss (.t 11) (.t 13)⟩])
  (.cond (.t 14)
    .skip
    (.exit 0)))
  (.seq (.block 1 (.seq (.region [⟨(some 17), none, .load false 1 (.t 1)⟩, ⟨(some 18), none, .mv (.t 8)⟩, ⟨(some 19), none, .ixStr (.t 17) (.t 18)⟩, ⟨(some 9), none, .mv (.t 19)⟩])
  (.block 2 (.seq (.region [⟨(some 21), none, .mv (.t 9)⟩, ⟨(some 22), none, .bin .eql (.t 21) (.c (.int .u8 34))⟩, ⟨(some 20), none, .mv (.t 22)⟩])
  (.cond (.t 20)
    (.region [⟨(some 23), none, .mv (.t 7)⟩, ⟨(some 24), none, .un .not (.t 23)⟩, ⟨(some 7), none, .mv (.t 24)⟩])
    (.seq (.region [⟨(some 26), none, .mv (.t 7)⟩, ⟨(some 27), none, .mv (.t 26)⟩, ⟨(some 28), (some (27, true)), .mv (.t 9)⟩, ⟨(some 29), (some (27, true)), .bin .eql (.t 28) (.c (.int .u8 92))⟩, ⟨(some 30), none, .pick (.t 27) (.t 29) (.c (.bool false))⟩, ⟨(some 25), none, .mv (.t 30)⟩])
    (.cond (.t 25)
      (.region [⟨(some 31), none, .mv (.t 8)⟩, ⟨(some 32), none, .bin .add (.t 31) (.c (.int .i64 1))⟩, ⟨(some 8), none, .mv (.t 32)⟩])
      (.seq (.region [⟨(some 34), none, .mv (.t 7)⟩, ⟨(some 35), none, .un .not (.t 34)⟩, ⟨(some 36), none, .mv (.t 35)⟩, ⟨(some 37), (some (36, true)), .mv (.t 9)⟩, ⟨(some 38), (some (36, true)), .bin .eql (.t 37) (.c (.int .u8 44))⟩, ⟨(some 39), none, .pick (.t 36) (.t 38) (.c (.bool false))⟩, ⟨(some 33), none, .mv (.t 39)⟩])
      (.cond (.t 33)
        (.region [⟨(some 40), none, .mv (.t 6)⟩, ⟨(some 41), none, .mv (.t 8)⟩, ⟨(some 42), none, .callv (.t 40) [(.t 41)]⟩])
        .skip)))))))))
  (.region [⟨(some 15), none, .mv (.t 8)⟩, ⟨(some 16), none, .bin .add (.t 15) (.c (.int .i64 1))⟩, ⟨(some 8), none, .mv (.t 16)⟩])))
def b_token_Split_0 (L : FuncId → List V → V → Prop) (K : V → Heap → Prop) (N0 : Env → Heap → Prop) (e : Env) (h : Heap) : Prop :=
    (wi F L (.load false 1 (.c (e 1))) E0 h fun v12 h =>
    (wi F L (.len 0 (.c v12)) E0 h fun v13 h =>
    (wi F L (.bin .lss (.c (e 8)) (.c v13)) E0 h fun v14 h =>
    (wb v14
    (k_token_Split_2 L K N0 (upd (upd (upd (upd e 11 (e 8)) 12 v12) 13 v13) 14 v14) (e 1) (e 6) (e 7) (e 8) h)
    (k_token_Split_0 L K (e 1) (e 4) (e 6) (e 7) h)))))
theorem l_token_Split_0 {L : FuncId → List V → V → Prop} {K : V → Heap → Prop} (I : Nat → Env → Heap → Prop) (hr : ∀ n e h, I n e h → b_token_Split_0 L K (fun e' h' => ∃ m, m < n ∧ I m e' h') e h) {n : Nat} {e : Env} {h : Heap} (hi : I n e h) : Wl F L lc_token_Split_0 (q_token_Split_0 L K) e h :=
  wloopp (b := b_token_Split_0 L K) I (fun _ _ _ => by kernel_rfl) hr hi
def p_token_Split (L : FuncId → List V → V → Prop) (K : V → Heap → Prop) (a0 : V) (h : Heap) : Prop :=
    (wi F L (.box (.c a0)) E0 h fun v1 h =>
    (wi F L (.boxz [.nsl]) E0 h fun v4 h =>
    (wi F L (.boxz [(.int .i64 0)]) E0 h fun v5 h =>
    (wi F L (.store 1 (.c v5) (.c (.int .i64 0))) E0 h fun _ h =>
    (wi F L (.mkfn i_token_Split_1 [(.c v1), (.c v5), (.c v4)]) E0 h fun v10 h =>
    (Wl F L lc_token_Split_0 (q_token_Split_0 L K) (upd (upd (upd (upd (upd (upd (upd (upd (upd (enterE [a0]) 1 v1) 2 .nsl) 3 (.bool false)) 4 v4) 5 v5) 10 v10) 6 v10) 7 (.bool false)) 8 (.int .i64 0)) h))))))
theorem run_token_Split {L : FuncId → List V → V → Prop} {K : V → Heap → Prop} {a0 : V} {h : Heap} (hp : p_token_Split L K a0 h) : Cf F L i_token_Split [a0] h K :=
  wcallp F_token_Split (show 1 ≤ 54 by decide) (p := p_token_Split L K a0 h) (by kernel_rfl) hp
def k_ranges_one_0 (L : FuncId → List V → V → Prop) (K : V → Heap → Prop) (v2 v8 : V) (h : Heap) : Prop :=
    (wi F L (.load true 2 (.c v8)) E0 h fun v48 h' => Ext h h' ∧
    (wi F L (.load true 2 (.c v8)) E0 h' fun v49 h => Ext h' h ∧
    (wi F L (.call i_ranges_fine [(.c v49)]) E0 h fun v50 h' => Ext h h' ∧
    (wi F L (.store 2 (.c v2) (.c v48)) E0 h' fun _ h =>
    (∃ v, resultsV h (enterE [v2, v50]) [.cell 0 true 2, .tmp 1] = some v ∧ K v h)))))
def p_ranges_one (L : FuncId → List V → V → Prop) (K : V → Heap → Prop) (a0 : V) (h : Heap) : Prop :=
    (wi F L (.boxz [(.int .i64 0), (.int .i64 0)]) E0 h fun v2 h =>
    (wi F L (.call i_strings_Cut [(.c a0), (.c (.str [45]))]) E0 h fun v11 h =>
    (wi F L (.ext 0 (.c v11)) E0 h fun v12 h =>
    (wi F L (.ext 1 (.c v11)) E0 h fun v13 h =>
    (wi F L (.ext 2 (.c v11)) E0 h fun v14 h =>
    (wi F L (.callv (.c (.fn i_ranges_one_1 [])) [(.c v12)]) E0 h fun v17 h =>
    (wi F L (.callv (.c (.fn i_ranges_one_1 [])) [(.c v13)]) E0 h fun v20 h =>
    (wi F L (.build [(.int .i64 0), (.int .i64 0)] [(0, 1, (.c v17)), (1, 1, (.c v20))]) E0 h fun v21 h =>
    (wi F L (.boxz [(.int .i64 0), (.int .i64 0)]) E0 h fun v8 h =>
    (wi F L (.store 2 (.c v8) (.c v21)) E0 h fun _ h =>
    (wi F L (.un .not (.c v14)) E0 h fun v23 h =>
    (wg v23 false (wi F L (.mv (.c v12)) E0 h) h fun v25 h =>
    (wg v23 false (wi F L (.bin .neq (.c v25) (.c (.str []))) E0 h) h fun v26 h =>
    (wg v23 false (wi F L (.mv (.c v26)) E0 h) h fun v27 h =>
    (wg v27 true (wi F L (.faddr 0 (.c v8)) E0 h) h fun v28 h =>
    (wg v27 true (wi F L (.load false 1 (.c v28)) E0 h) h fun v29 h =>
    (wg v27 true (wi F L (.bin .eql (.c v29) (.c (.int .i64 (-1)))) E0 h) h fun v30 h =>
    (wg v23 false (wi F L (.pick (.c v27) (.c v30) (.c (.bool false))) E0 h) h fun v31 h =>
    (wi F L (.pick (.c v23) (.c (.bool true)) (.c v31)) E0 h fun v32 h =>
    (wg v32 false (wi F L (.mv (.c v13)) E0 h) h fun v34 h =>
    (wg v32 false (wi F L (.bin .neq (.c v34) (.c (.str []))) E0 h) h fun v35 h =>
    (wg v32 false (wi F L (.mv (.c v35)) E0 h) h fun v36 h =>
    (wg v36 true (wi F L (.faddr 1 (.c v8)) E0 h) h fun v37 h =>
    (wg v36 true (wi F L (.load false 1 (.c v37)) E0 h) h fun v38 h =>
    (wg v36 true (wi F L (.bin .eql (.c v38) (.c (.int .i64 (-1)))) E0 h) h fun v39 h =>
    (wg v32 false (wi F L (.pick (.c v36) (.c v39) (.c (.bool false))) E0 h) h fun v40 h =>
    (wi F L (.pick (.c v32) (.c (.bool true)) (.c v40)) E0 h fun v41 h =>
    (wg v41 false (wi F L (.load true 2 (.c v8)) E0 h) h fun v43 h =>
    (wg v41 false (wi F L (.build [(.int .i64 0), (.int .i64 0)] [(0, 1, (.c (.int .i64 (-1)))), (1, 1, (.c (.int .i64 (-1))))]) E0 h) h fun v44 h =>
    (wg v41 false (wi F L (.eq (.agg [.i, .i]) false (.c v43) (.c v44)) E0 h) h fun v45 h =>
    (wi F L (.pick (.c v41) (.c (.bool true)) (.c v45)) E0 h fun v46 h =>
    (wb v46
    (wi F L (.build [(.int .i64 0), (.int .i64 0)] []) E0 h fun v47 h =>
    (wi F L (.store 2 (.c v2) (.c v47)) E0 h fun _ h =>
    (∃ v, resultsV h (enterE [v2, (.bool false)]) [.cell 0 true 2, .tmp 1] = some v ∧ K v h)))
    (k_ranges_one_0 L K v2 v8 h)))))))))))))))))))))))))))))))))
theorem run_ranges_one {L : FuncId → List V → V → Prop} {K : V → Heap → Prop} {a0 : V} {h : Heap} (hp : p_ranges_one L K a0 h) : Cf F L i_ranges_one [a0] h K :=
  wcallp F_ranges_one (show 1 ≤ 51 by decide) (p := p_ranges_one L K a0 h) (by kernel_rfl) hp
def k_gatepostref01_Lower_0 (L : FuncId → List V → V → Prop) (K : V → Heap → Prop) (v3 : V) (h : Heap) : Prop :=
    (∃ v, some v3 = some v ∧ K v h)
def k_gatepostref01_Lower_2 (L : FuncId → List V → V → Prop) (K : V → Heap → Prop) (N0 : Env → Heap → Prop) (e : Env) (v4 : V) (h : Heap) : Prop :=
    (wi F L (.bin .add (.c v4) (.c (.int .i64 1))) E0 h fun v11 h =>
    (N0 (upd (upd (upd e 10 v4) 11 v11) 4 v11) h))
def k_gatepostref01_Lower_3 (L : FuncId → List V → V → Prop) (K : V → Heap → Prop) (N0 : Env → Heap → Prop) (e : Env) (v3 v4 v5 : V) (h : Heap) : Prop :=
    (wi F L (.bsl 1 [(.c v5)]) E0 h fun v25 h =>
    (wi F L (.toStr (.c v25)) E0 h fun v26 h =>
    (wi F L (.bin .add (.c v3) (.c v26)) E0 h fun v27 h =>
    (k_gatepostref01_Lower_2 L K N0 (upd (upd (upd (upd (upd (upd e 23 v3) 24 v5) 25 v25) 26 v26) 27 v27) 3 v27) v4 h))))
def k_gatepostref01_Lower_1 (L : FuncId → List V → V → Prop) (K : V → Heap → Prop) (N0 : Env → Heap → Prop) (e : Env) (v0 v3 v4 : V) (h : Heap) : Prop :=
    (wi F L (.ixStr (.c v0) (.c v4)) E0 h fun v14 h =>
    (wi F L (.bin .geq (.c v14) (.c (.int .u8 65))) E0 h fun v16 h =>
    (wg v16 true (wi F L (.mv (.c v14)) E0 h) h fun v18 h =>
    (wg v16 true (wi F L (.bin .leq (.c v18) (.c (.int .u8 90))) E0 h) h fun v19 h =>
    (wi F L (.pick (.c v16) (.c v19) (.c (.bool false))) E0 h fun v20 h =>
    (wb v20
    (wi F L (.bin .add (.c v14) (.c (.int .u8 32))) E0 h fun v22 h =>
    (k_gatepostref01_Lower_3 L K N0 (upd (upd (upd (upd (upd (upd (upd (upd (upd (upd (upd (upd (upd e 12 v0) 13 v4) 14 v14) 5 v14) 15 v14) 16 v16) 17 v16) 18 v18) 19 v19) 20 v20) 21 v14) 22 v22) 5 v22) v3 v4 v22 h))
    (k_gatepostref01_Lower_3 L K N0 (upd (upd (upd (upd (upd (upd (upd (upd (upd (upd e 12 v0) 13 v4) 14 v14) 5 v14) 15 v14) 16 v16) 17 v16) 18 v18) 19 v19) 20 v20) v3 v4 v14 h)))))))
def q_gatepostref01_Lower_0 (L : FuncId → List V → V → Prop) (K : V → Heap → Prop) : X → Env → Heap → Prop := (fun x => (seqX (fun e h => k_gatepostref01_Lower_0 L K (e 3) h) (retX c_gatepostref01_Lower.results K)) (X.out 0 x))
def lc_gatepostref01_Lower_0 : C :=
  (.seq (.seq (.region [⟨(some 6), none, .mv (.t 4)⟩, ⟨(some 7), none, .mv (.t 0)⟩, ⟨(some 8), none, .len 0 (.t 7)⟩, ⟨(some 9), none, .bin .lss (.t 6) (.t 8)⟩])
  (.cond (.t 9)
    .skip
    (.exit 0)))
  (.seq (.block 1 (.seq (.region [⟨(some 12), none, .mv (.t 0)⟩, ⟨(some 13), none, .mv (.t 4)⟩, ⟨(some 14), none, .ixStr (.t 12) (.t 13)⟩, ⟨(some 5), none, .mv (.t 14)⟩])
  (.seq (.seq (.region [⟨(some 15), none, .mv (.t 5)⟩, ⟨(some 16), none, .bin .geq (.t 15) (.c (.int .u8 65))⟩, ⟨(some 17), none, .mv (.t 16)⟩, ⟨(some 18), (some (17, true)), .mv (.t 5)⟩, ⟨(some 19), (some (17, true)), .bin .leq (.t 18) (.c (.int .u8 90))⟩, ⟨(some 20), none, .pick (.t 17) (.t 19) (.c (.bool false))⟩])
  (.cond (.t 20)
    (.region [⟨(some 21), none, .mv (.t 5)⟩, ⟨(some 22), none, .bin .add (.t 21) (.c (.int .u8 32))⟩, ⟨(some 5), none, .mv (.t 22)⟩])
    .skip))
  (.region [⟨(some 23), none, .mv (.t 3)⟩, ⟨(some 24), none, .mv (.t 5)⟩, ⟨(some 25), none, .bsl 1 [(.t 24)]⟩, ⟨(some 26), none, .toStr (.t 25)⟩, ⟨(some 27), none, .bin .add (.t 23) (.t 26)⟩, ⟨(some 3), none, .mv (.t 27)⟩]))))
  (.region [⟨(some 10), none, .mv (.t 4)⟩, ⟨(some 11), none, .bin .add (.t 10) (.c (.int .i64 1))⟩, ⟨(some 4), none, .mv (.t 11)⟩])))
def b_gatepostref01_Lower_0 (L : FuncId → List V → V → Prop) (K : V → Heap → Prop) (N0 : Env → Heap → Prop) (e : Env) (h : Heap) : Prop :=
    (wi F L (.len 0 (.c (e 0))) E0 h fun v8 h =>
    (wi F L (.bin .lss (.c (e 4)) (.c v8)) E0 h fun v9 h =>
    (wb v9
    (k_gatepostref01_Lower_1 L K N0 (upd (upd (upd (upd e 6 (e 4)) 7 (e 0)) 8 v8) 9 v9) (e 0) (e 3) (e 4) h)
    (k_gatepostref01_Lower_0 L K (e 3) h))))
theorem l_gatepostref01_Lower_0 {L : FuncId → List V → V → Prop} {K : V → Heap → Prop} (I : Nat → Env → Heap → Prop) (hr : ∀ n e h, I n e h → b_gatepostref01_Lower_0 L K (fun e' h' => ∃ m, m < n ∧ I m e' h') e h) {n : Nat} {e : Env} {h : Heap} (hi : I n e h) : Wl F L lc_gatepostref01_Lower_0 (q_gatepostref01_Lower_0 L K) e h :=
  wloopp (b := b_gatepostref01_Lower_0 L K) I (fun _ _ _ => by kernel_rfl) hr hi
def p_gatepostref01_Lower (L : FuncId → List V → V → Prop) (K : V → Heap → Prop) (a0 : V) (h : Heap) : Prop :=
    (Wl F L lc_gatepostref01_Lower_0 (q_gatepostref01_Lower_0 L K) (upd (upd (upd (enterE [a0]) 2 (.str [])) 3 (.str [])) 4 (.int .i64 0)) h)
theorem run_gatepostref01_Lower {L : FuncId → List V → V → Prop} {K : V → Heap → Prop} {a0 : V} {h : Heap} (hp : p_gatepostref01_Lower L K a0 h) : Cf F L i_gatepostref01_Lower [a0] h K :=
  wcallp F_gatepostref01_Lower (show 1 ≤ 29 by decide) (p := p_gatepostref01_Lower L K a0 h) (by kernel_rfl) hp
def k_gatepostref01_Split_2 (L : FuncId → List V → V → Prop) (K : V → Heap → Prop) (v4 : V) (h : Heap) : Prop :=
    (∃ v, resultsV h (enterE [v4, (.bool true)]) [.tmp 0, .tmp 1] = some v ∧ K v h)
def k_gatepostref01_Split_1 (L : FuncId → List V → V → Prop) (K : V → Heap → Prop) (v4 v5 : V) (h : Heap) : Prop :=
    (wi F L (.bin .neq (.c v5) (.c (.str []))) E0 h fun v68 h =>
    (wb v68
    (wi F L (.bsl 1 [(.c v5)]) E0 h fun v71 h =>
    (wi F L (.app 1 16 false (.c v4) (.c v71)) E0 h fun v72 h =>
    (k_gatepostref01_Split_2 L K v72 h)))
    (k_gatepostref01_Split_2 L K v4 h)))
def k_gatepostref01_Split_0 (L : FuncId → List V → V → Prop) (K : V → Heap → Prop) (v4 v5 v6 : V) (h : Heap) : Prop :=
    (wi F L (.call i_gatepostref01_Trim [(.c v5)]) E0 h fun v65 h =>
    (wb v6
    (∃ v, resultsV h (enterE [.nsl, (.bool false)]) [.tmp 0, .tmp 1] = some v ∧ K v h)
    (k_gatepostref01_Split_1 L K v4 v65 h)))
def k_gatepostref01_Split_4 (L : FuncId → List V → V → Prop) (K : V → Heap → Prop) (N0 : Env → Heap → Prop) (e : Env) (v7 : V) (h : Heap) : Prop :=
    (wi F L (.bin .add (.c v7) (.c (.int .i64 1))) E0 h fun v14 h =>
    (N0 (upd (upd (upd e 13 v7) 14 v14) 7 v14) h))
def k_gatepostref01_Split_6 (L : FuncId → List V → V → Prop) (K : V → Heap → Prop) (N0 : Env → Heap → Prop) (e : Env) (v0 v5 v6 v7 v8 : V) (h : Heap) : Prop :=
    (wg v6 true (wi F L (.mv (.c v8)) E0 h) h fun v45 h =>
    (wg v6 true (wi F L (.bin .eql (.c v45) (.c (.int .u8 92))) E0 h) h fun v46 h =>
    (wi F L (.pick (.c v6) (.c v46) (.c (.bool false))) E0 h fun v47 h =>
    (wg v47 true (wi F L (.mv (.c v7)) E0 h) h fun v49 h =>
    (wg v47 true (wi F L (.bin .add (.c v49) (.c (.int .i64 1))) E0 h) h fun v50 h =>
    (wg v47 true (wi F L (.mv (.c v0)) E0 h) h fun v51 h =>
    (wg v47 true (wi F L (.len 0 (.c v51)) E0 h) h fun v52 h =>
    (wg v47 true (wi F L (.bin .lss (.c v50) (.c v52)) E0 h) h fun v53 h =>
    (wi F L (.pick (.c v47) (.c v53) (.c (.bool false))) E0 h fun v54 h =>
    (wb v54
    (wi F L (.bin .add (.c v7) (.c (.int .i64 1))) E0 h fun v56 h =>
    (wi F L (.bin .add (.c v56) (.c (.int .i64 1))) E0 h fun v61 h =>
    (wi F L (.slstr (.c v0) (some (.c v56)) (some (.c v61))) E0 h fun v62 h =>
    (wi F L (.bin .add (.c v5) (.c v62)) E0 h fun v63 h =>
    (k_gatepostref01_Split_4 L K N0 (upd (upd (upd (upd (upd (upd (upd (upd (upd (upd (upd (upd (upd (upd (upd (upd (upd (upd (upd (upd (upd (upd (upd e 43 v6) 44 v6) 45 v45) 46 v46) 47 v47) 48 v47) 49 v49) 50 v50) 51 v51) 52 v52) 53 v53) 54 v54) 55 v7) 56 v56) 7 v56) 57 v5) 58 v0) 59 v56) 60 v56) 61 v61) 62 v62) 63 v63) 5 v63) v56 h)))))
    (k_gatepostref01_Split_4 L K N0 (upd (upd (upd (upd (upd (upd (upd (upd (upd (upd (upd (upd e 43 v6) 44 v6) 45 v45) 46 v46) 47 v47) 48 v47) 49 v49) 50 v50) 51 v51) 52 v52) 53 v53) 54 v54) v7 h)))))))))))
def k_gatepostref01_Split_5 (L : FuncId → List V → V → Prop) (K : V → Heap → Prop) (N0 : Env → Heap → Prop) (e : Env) (v0 v5 v6 v7 v8 : V) (h : Heap) : Prop :=
    (wi F L (.bin .add (.c v7) (.c (.int .i64 1))) E0 h fun v36 h =>
    (wi F L (.slstr (.c v0) (some (.c v7)) (some (.c v36))) E0 h fun v37 h =>
    (wi F L (.bin .add (.c v5) (.c v37)) E0 h fun v38 h =>
    (wi F L (.bin .eql (.c v8) (.c (.int .u8 34))) E0 h fun v40 h =>
    (wb v40
    (wi F L (.un .not (.c v6)) E0 h fun v42 h =>
    (k_gatepostref01_Split_6 L K N0 (upd (upd (upd (upd (upd (upd (upd (upd (upd (upd (upd (upd (upd e 32 v5) 33 v0) 34 v7) 35 v7) 36 v36) 37 v37) 38 v38) 5 v38) 39 v8) 40 v40) 41 v6) 42 v42) 6 v42) v0 v38 v42 v7 v8 h))
    (k_gatepostref01_Split_6 L K N0 (upd (upd (upd (upd (upd (upd (upd (upd (upd (upd e 32 v5) 33 v0) 34 v7) 35 v7) 36 v36) 37 v37) 38 v38) 5 v38) 39 v8) 40 v40) v0 v38 v6 v7 v8 h))))))
def k_gatepostref01_Split_7 (L : FuncId → List V → V → Prop) (K : V → Heap → Prop) (N0 : Env → Heap → Prop) (e : Env) (v7 : V) (h : Heap) : Prop :=
    (k_gatepostref01_Split_4 L K N0 (upd e 5 (.str [])) v7 h)
def k_gatepostref01_Split_3 (L : FuncId → List V → V → Prop) (K : V → Heap → Prop) (N0 : Env → Heap → Prop) (e : Env) (v0 v4 v5 v6 v7 : V) (h : Heap) : Prop :=
    (wi F L (.ixStr (.c v0) (.c v7)) E0 h fun v17 h =>
    (wi F L (.un .not (.c v6)) E0 h fun v19 h =>
    (wg v19 true (wi F L (.mv (.c v17)) E0 h) h fun v21 h =>
    (wg v19 true (wi F L (.bin .eql (.c v21) (.c (.int .u8 44))) E0 h) h fun v22 h =>
    (wi F L (.pick (.c v19) (.c v22) (.c (.bool false))) E0 h fun v23 h =>
    (wb v23
    (wi F L (.call i_gatepostref01_Trim [(.c v5)]) E0 h fun v25 h =>
    (wi F L (.bin .neq (.c v25) (.c (.str []))) E0 h fun v27 h =>
    (wb v27
    (wi F L (.bsl 1 [(.c v25)]) E0 h fun v30 h =>
    (wi F L (.app 1 16 false (.c v4) (.c v30)) E0 h fun v31 h =>
    (k_gatepostref01_Split_7 L K N0 (upd (upd (upd (upd (upd (upd (upd (upd (upd (upd (upd (upd (upd (upd (upd (upd (upd (upd (upd (upd e 15 v0) 16 v7) 17 v17) 8 v17) 18 v6) 19 v19) 20 v19) 21 v21) 22 v22) 23 v23) 24 v5) 25 v25) 5 v25) 26 v25) 27 v27) 28 v4) 29 v25) 30 v30) 31 v31) 4 v31) v7 h)))
    (k_gatepostref01_Split_7 L K N0 (upd (upd (upd (upd (upd (upd (upd (upd (upd (upd (upd (upd (upd (upd (upd e 15 v0) 16 v7) 17 v17) 8 v17) 18 v6) 19 v19) 20 v19) 21 v21) 22 v22) 23 v23) 24 v5) 25 v25) 5 v25) 26 v25) 27 v27) v7 h))))
    (k_gatepostref01_Split_5 L K N0 (upd (upd (upd (upd (upd (upd (upd (upd (upd (upd e 15 v0) 16 v7) 17 v17) 8 v17) 18 v6) 19 v19) 20 v19) 21 v21) 22 v22) 23 v23) v0 v5 v6 v7 v17 h)))))))
def q_gatepostref01_Split_0 (L : FuncId → List V → V → Prop) (K : V → Heap → Prop) : X → Env → Heap → Prop := (fun x => (seqX (fun e h => k_gatepostref01_Split_0 L K (e 4) (e 5) (e 6) h) (retX c_gatepostref01_Split.results K)) (X.out 0 x))
def lc_gatepostref01_Split_0 : C :=
  (.seq (.seq (.region [⟨(some 9), none, .mv (.t 7)⟩, ⟨(some 10), none, .mv (.t 0)⟩, ⟨(some 11), none, .len 0 (.t 10)⟩, ⟨(some 12), none, .bin .lss (.t 9) (.t 11)⟩])
  (.cond (.t 12)
    .skip
    (.exit 0)))
  (.seq (.block 1 (.seq (.region [⟨(some 15), none, .mv (.t 0)⟩, ⟨(some 16), none, .mv (.t 7)⟩, ⟨(some 17), none, .ixStr (.t 15) (.t 16)⟩, ⟨(some 8), none, .mv (.t 17)⟩])
  (.seq (.seq (.region [⟨(some 18), none, .mv (.t 6)⟩, ⟨(some 19), none, .un .not (.t 18)⟩, ⟨(some 20), none, .mv (.t 19)⟩, ⟨(some 21), (some (20, true)), .mv (.t 8)⟩, ⟨(some 22), (some (20, true)), .bin .eql (.t 21) (.c (.int .u8 44))⟩, ⟨(some 23), none, .pick (.t 20) (.t 22) (.c (.bool false))⟩])
  (.cond (.t 23)
    (.seq (.region [⟨(some 24), none, .mv (.t 5)⟩, ⟨(some 25), none, .call i_gatepostref01_Trim [(.t 24)]⟩, ⟨(some 5), none, .mv (.t 25)⟩])
    (.seq (.seq (.region [⟨(some 26), none, .mv (.t 5)⟩, ⟨(some 27), none, .bin .neq (.t 26) (.c (.str []))⟩])
    (.cond (.t 27)
      (.region [⟨(some 28), none, .mv (.t 4)⟩, ⟨(some 29), none, .mv (.t 5)⟩, ⟨(some 30), none, .bsl 1 [(.t 29)]⟩, ⟨(some 31), none, .app 1 16 false (.t 28) (.t 30)⟩, ⟨(some 4), none, .mv (.t 31)⟩])
      .skip))
    (.seq (.region [⟨(some 5), none, .mv (.c (.str []))⟩])
    (.exit 1))))
    .skip))
  (.seq (.region [⟨(some 32), none, .mv (.t 5)⟩, ⟨(some 33), none, .mv (.t 0)⟩, ⟨(some 34), none, .mv (.t 7)⟩, ⟨(some 35), none, .mv (.t 7)⟩, ⟨(some 36), none, .bin .add (.t 35) (.c (.int .i64 1))⟩, ⟨(some 37), none, .slstr (.t 33) (some (.t 34)) (some (.t 36))⟩, ⟨(some 38), none, .bin .add (.t 32) (.t 37)⟩, ⟨(some 5), none, .mv (.t 38)⟩])
  (.seq (.seq (.region [⟨(some 39), none, .mv (.t 8)⟩, ⟨(some 40), none, .bin .eql (.t 39) (.c (.int .u8 34))⟩])
  (.cond (.t 40)
    (.region [⟨(some 41), none, .mv (.t 6)⟩, ⟨(some 42), none, .un .not (.t 41)⟩, ⟨(some 6), none, .mv (.t 42)⟩])
    .skip))
  (.seq (.region [⟨(some 43), none, .mv (.t 6)⟩, ⟨(some 44), none, .mv (.t 43)⟩, ⟨(some 45), (some (44, true)), .mv (.t 8)⟩, ⟨(some 46), (some (44, true)), .bin .eql (.t 45) (.c (.int .u8 92))⟩, ⟨(some 47), none, .pick (.t 44) (.t 46) (.c (.bool false))⟩, ⟨(some 48), none, .mv (.t 47)⟩, ⟨(some 49), (some (48, true)), .mv (.t 7)⟩, ⟨(some 50), (some (48, true)), .bin .add (.t 49) (.c (.int .i64 1))⟩, ⟨(some 51), (some (48, true)), .mv (.t 0)⟩, ⟨(some 52), (some (48, true)), .len 0 (.t 51)⟩, ⟨(some 53), (some (48, true)), .bin .lss (.t 50) (.t 52)⟩, ⟨(some 54), none, .pick (.t 48) (.t 53) (.c (.bool false))⟩])
  (.cond (.t 54)
    (.seq (.region [⟨(some 55), none, .mv (.t 7)⟩, ⟨(some 56), none, .bin .add (.t 55) (.c (.int .i64 1))⟩, ⟨(some 7), none, .mv (.t 56)⟩])
    (.region [⟨(some 57), none, .mv (.t 5)⟩, ⟨(some 58), none, .mv (.t 0)⟩, ⟨(some 59), none, .mv (.t 7)⟩, ⟨(some 60), none, .mv (.t 7)⟩, ⟨(some 61), none, .bin .add (.t 60) (.c (.int .i64 1))⟩, ⟨(some 62), none, .slstr (.t 58) (some (.t 59)) (some (.t 61))⟩, ⟨(some 63), none, .bin .add (.t 57) (.t 62)⟩, ⟨(some 5), none, .mv (.t 63)⟩]))
    .skip)))))))
  (.region [⟨(some 13), none, .mv (.t 7)⟩, ⟨(some 14), none, .bin .add (.t 13) (.c (.int .i64 1))⟩, ⟨(some 7), none, .mv (.t 14)⟩])))
def b_gatepostref01_Split_0 (L : FuncId → List V → V → Prop) (K : V → Heap → Prop) (N0 : Env → Heap → Prop) (e : Env) (h : Heap) : Prop :=
    (wi F L (.len 0 (.c (e 0))) E0 h fun v11 h =>
    (wi F L (.bin .lss (.c (e 7)) (.c v11)) E0 h fun v12 h =>
    (wb v12
    (k_gatepostref01_Split_3 L K N0 (upd (upd (upd (upd e 9 (e 7)) 10 (e 0)) 11 v11) 12 v12) (e 0) (e 4) (e 5) (e 6) (e 7) h)
    (k_gatepostref01_Split_0 L K (e 4) (e 5) (e 6) h))))
theorem l_gatepostref01_Split_0 {L : FuncId → List V → V → Prop} {K : V → Heap → Prop} (I : Nat → Env → Heap → Prop) (hr : ∀ n e h, I n e h → b_gatepostref01_Split_0 L K (fun e' h' => ∃ m, m < n ∧ I m e' h') e h) {n : Nat} {e : Env} {h : Heap} (hi : I n e h) : Wl F L lc_gatepostref01_Split_0 (q_gatepostref01_Split_0 L K) e h :=
  wloopp (b := b_gatepostref01_Split_0 L K) I (fun _ _ _ => by kernel_rfl) hr hi
def p_gatepostref01_Split (L : FuncId → List V → V → Prop) (K : V → Heap → Prop) (a0 : V) (h : Heap) : Prop :=
    (Wl F L lc_gatepostref01_Split_0 (q_gatepostref01_Split_0 L K) (upd (upd (upd (upd (upd (upd (enterE [a0]) 2 .nsl) 3 (.bool false)) 4 .nsl) 5 (.str [])) 6 (.bool false)) 7 (.int .i64 0)) h)
theorem run_gatepostref01_Split {L : FuncId → List V → V → Prop} {K : V → Heap → Prop} {a0 : V} {h : Heap} (hp : p_gatepostref01_Split L K a0 h) : Cf F L i_gatepostref01_Split [a0] h K :=
  wcallp F_gatepostref01_Split (show 1 ≤ 74 by decide) (p := p_gatepostref01_Split L K a0 h) (by kernel_rfl) hp
def k_gatepostref14_one_3 (L : FuncId → List V → V → Prop) (K : V → Heap → Prop) (v2 v5 v6 v7 v8 : V) (h : Heap) : Prop :=
    (wi F L (.build [(.int .i64 0), (.int .i64 0)] [(0, 1, (.c v5)), (1, 1, (.c v7))]) E0 h fun v56 h =>
    (wg v6 true (wi F L (.mv (.c v8)) E0 h) h fun v59 h =>
    (wi F L (.pick (.c v6) (.c v59) (.c (.bool false))) E0 h fun v60 h =>
    (wg v60 true (wi F L (.mv (.c v5)) E0 h) h fun v62 h =>
    (wg v60 true (wi F L (.mv (.c v7)) E0 h) h fun v63 h =>
    (wg v60 true (wi F L (.bin .leq (.c v62) (.c v63)) E0 h) h fun v64 h =>
    (wi F L (.pick (.c v60) (.c v64) (.c (.bool false))) E0 h fun v65 h =>
    (wi F L (.store 2 (.c v2) (.c v56)) E0 h fun _ h =>
    (∃ v, resultsV h (enterE [v2, v65]) [.cell 0 true 2, .tmp 1] = some v ∧ K v h)))))))))
def k_gatepostref14_one_2 (L : FuncId → List V → V → Prop) (K : V → Heap → Prop) (v0 v2 v4 v5 v6 v7 v8 : V) (h : Heap) : Prop :=
    (wi F L (.bin .add (.c v4) (.c (.int .i64 1))) E0 h fun v47 h =>
    (wi F L (.len 0 (.c v0)) E0 h fun v49 h =>
    (wi F L (.bin .eql (.c v47) (.c v49)) E0 h fun v50 h =>
    (wb v50
    (wi F L (.build [(.int .i64 0), (.int .i64 0)] [(0, 1, (.c v5)), (1, 1, (.c (.int .i64 (-1))))]) E0 h fun v52 h =>
    (wi F L (.store 2 (.c v2) (.c v52)) E0 h fun _ h =>
    (∃ v, resultsV h (enterE [v2, v6]) [.cell 0 true 2, .tmp 1] = some v ∧ K v h)))
    (k_gatepostref14_one_3 L K v2 v5 v6 v7 v8 h)))))
def k_gatepostref14_one_1 (L : FuncId → List V → V → Prop) (K : V → Heap → Prop) (v0 v2 v4 : V) (h : Heap) : Prop :=
    (wi F L (.slstr (.c v0) none (some (.c v4))) E0 h fun v29 h =>
    (wi F L (.call i_gatepostref01_Number [(.c v29), (.c (.int .i64 1099511627776))]) E0 h fun v30 h =>
    (wi F L (.ext 0 (.c v30)) E0 h fun v31 h =>
    (wi F L (.ext 1 (.c v30)) E0 h fun v32 h =>
    (wi F L (.bin .add (.c v4) (.c (.int .i64 1))) E0 h fun v36 h =>
    (wi F L (.slstr (.c v0) (some (.c v36)) none) E0 h fun v37 h =>
    (wi F L (.call i_gatepostref01_Number [(.c v37), (.c (.int .i64 1099511627776))]) E0 h fun v38 h =>
    (wi F L (.ext 0 (.c v38)) E0 h fun v39 h =>
    (wi F L (.ext 1 (.c v38)) E0 h fun v40 h =>
    (wi F L (.bin .eql (.c v4) (.c (.int .i64 0))) E0 h fun v42 h =>
    (wb v42
    (wi F L (.build [(.int .i64 0), (.int .i64 0)] [(0, 1, (.c (.int .i64 (-1)))), (1, 1, (.c v39))]) E0 h fun v44 h =>
    (wi F L (.store 2 (.c v2) (.c v44)) E0 h fun _ h =>
    (∃ v, resultsV h (enterE [v2, v40]) [.cell 0 true 2, .tmp 1] = some v ∧ K v h)))
    (k_gatepostref14_one_2 L K v0 v2 v4 v31 v32 v39 v40 h))))))))))))
def k_gatepostref14_one_0 (L : FuncId → List V → V → Prop) (K : V → Heap → Prop) (v0 v2 v4 : V) (h : Heap) : Prop :=
    (wi F L (.len 0 (.c v0)) E0 h fun v23 h =>
    (wi F L (.bin .eql (.c v4) (.c v23)) E0 h fun v24 h =>
    (wb v24
    (wi F L (.build [(.int .i64 0), (.int .i64 0)] []) E0 h fun v25 h =>
    (wi F L (.store 2 (.c v2) (.c v25)) E0 h fun _ h =>
    (∃ v, resultsV h (enterE [v2, (.bool false)]) [.cell 0 true 2, .tmp 1] = some v ∧ K v h)))
    (k_gatepostref14_one_1 L K v0 v2 v4 h))))
def k_gatepostref14_one_4 (L : FuncId → List V → V → Prop) (K : V → Heap → Prop) (N0 : Env → Heap → Prop) (e : Env) (v4 : V) (h : Heap) : Prop :=
    (wi F L (.bin .add (.c v4) (.c (.int .i64 1))) E0 h fun v20 h =>
    (N0 (upd (upd (upd e 19 v4) 20 v20) 4 v20) h))
def q_gatepostref14_one_0 (L : FuncId → List V → V → Prop) (K : V → Heap → Prop) : X → Env → Heap → Prop := (fun x => (seqX (fun e h => k_gatepostref14_one_0 L K (e 0) (e 2) (e 4) h) (retX c_gatepostref14_one.results K)) (X.out 0 x))
def lc_gatepostref14_one_0 : C :=
  (.seq (.seq (.region [⟨(some 9), none, .mv (.t 4)⟩, ⟨(some 10), none, .mv (.t 0)⟩, ⟨(some 11), none, .len 0 (.t 10)⟩, ⟨(some 12), none, .bin .lss (.t 9) (.t 11)⟩, ⟨(some 13), none, .mv (.t 12)⟩, ⟨(some 14), (some (13, true)), .mv (.t 0)⟩, ⟨(some 15), (some (13, true)), .mv (.t 4)⟩, ⟨(some 16), (some (13, true)), .ixStr (.t 14) (.t 15)⟩, ⟨(some 17), (some (13, true)), .bin .neq (.t 16) (.c (.int .u8 45))⟩, ⟨(some 18), none, .pick (.t 13) (.t 17) (.c (.bool false))⟩])
  (.cond (.t 18)
    .skip
    (.exit 0)))
  (.block 1 (.region [⟨(some 19), none, .mv (.t 4)⟩, ⟨(some 20), none, .bin .add (.t 19) (.c (.int .i64 1))⟩, ⟨(some 4), none, .mv (.t 20)⟩])))
def b_gatepostref14_one_0 (L : FuncId → List V → V → Prop) (K : V → Heap → Prop) (N0 : Env → Heap → Prop) (e : Env) (h : Heap) : Prop :=
    (wi F L (.len 0 (.c (e 0))) E0 h fun v11 h =>
    (wi F L (.bin .lss (.c (e 4)) (.c v11)) E0 h fun v12 h =>
    (wg v12 true (wi F L (.mv (.c (e 0))) E0 h) h fun v14 h =>
    (wg v12 true (wi F L (.mv (.c (e 4))) E0 h) h fun v15 h =>
    (wg v12 true (wi F L (.ixStr (.c v14) (.c v15)) E0 h) h fun v16 h =>
    (wg v12 true (wi F L (.bin .neq (.c v16) (.c (.int .u8 45))) E0 h) h fun v17 h =>
    (wi F L (.pick (.c v12) (.c v17) (.c (.bool false))) E0 h fun v18 h =>
    (wb v18
    (k_gatepostref14_one_4 L K N0 (upd (upd (upd (upd (upd (upd (upd (upd (upd (upd e 9 (e 4)) 10 (e 0)) 11 v11) 12 v12) 13 v12) 14 v14) 15 v15) 16 v16) 17 v17) 18 v18) (e 4) h)
    (k_gatepostref14_one_0 L K (e 0) (e 2) (e 4) h)))))))))
theorem l_gatepostref14_one_0 {L : FuncId → List V → V → Prop} {K : V → Heap → Prop} (I : Nat → Env → Heap → Prop) (hr : ∀ n e h, I n e h → b_gatepostref14_one_0 L K (fun e' h' => ∃ m, m < n ∧ I m e' h') e h) {n : Nat} {e : Env} {h : Heap} (hi : I n e h) : Wl F L lc_gatepostref14_one_0 (q_gatepostref14_one_0 L K) e h :=
  wloopp (b := b_gatepostref14_one_0 L K) I (fun _ _ _ => by kernel_rfl) hr hi
def p_gatepostref14_one (L : FuncId → List V → V → Prop) (K : V → Heap → Prop) (a0 : V) (h : Heap) : Prop :=
    (wi F L (.boxz [(.int .i64 0), (.int .i64 0)]) E0 h fun v2 h =>
    (Wl F L lc_gatepostref14_one_0 (q_gatepostref14_one_0 L K) (upd (upd (upd (enterE [a0]) 2 v2) 3 (.bool false)) 4 (.int .i64 0)) h))
theorem run_gatepostref14_one {L : FuncId → List V → V → Prop} {K : V → Heap → Prop} {a0 : V} {h : Heap} (hp : p_gatepostref14_one L K a0 h) : Cf F L i_gatepostref14_one [a0] h K :=
  wcallp F_gatepostref14_one (show 1 ≤ 66 by decide) (p := p_gatepostref14_one L K a0 h) (by kernel_rfl) hp
def k_internal_stringslite_CutPrefix_0 (L : FuncId → List V → V → Prop) (K : V → Heap → Prop) (v0 v1 : V) (h : Heap) : Prop :=
    (wi F L (.len 0 (.c v1)) E0 h fun v13 h =>
    (wi F L (.slstr (.c v0) (some (.c v13)) none) E0 h fun v14 h =>
    (∃ v, resultsV h (enterE [v14, (.bool true)]) [.tmp 0, .tmp 1] = some v ∧ K v h)))
def p_internal_stringslite_CutPrefix (L : FuncId → List V → V → Prop) (K : V → Heap → Prop) (a0 a1 : V) (h : Heap) : Prop :=
    (wi F L (.call i_internal_stringslite_HasPrefix [(.c a0), (.c a1)]) E0 h fun v8 h =>
    (wi F L (.un .not (.c v8)) E0 h fun v9 h =>
    (wb v9
    (∃ v, resultsV h (enterE [a0, (.bool false)]) [.tmp 0, .tmp 1] = some v ∧ K v h)
    (k_internal_stringslite_CutPrefix_0 L K a0 a1 h))))
theorem run_internal_stringslite_CutPrefix {L : FuncId → List V → V → Prop} {K : V → Heap → Prop} {a0 a1 : V} {h : Heap} (hp : p_internal_stringslite_CutPrefix L K a0 a1 h) : Cf F L i_internal_stringslite_CutPrefix [a0, a1] h K :=
  wcallp F_internal_stringslite_CutPrefix (show 2 ≤ 15 by decide) (p := p_internal_stringslite_CutPrefix L K a0 a1 h) (by kernel_rfl) hp
def k_internal_stringslite_Cut_0 (L : FuncId → List V → V → Prop) (K : V → Heap → Prop) (v0 : V) (h : Heap) : Prop :=
    (∃ v, resultsV h (enterE [v0, (.str []), (.bool false)]) [.tmp 0, .tmp 1, .tmp 2] = some v ∧ K v h)
def p_internal_stringslite_Cut (L : FuncId → List V → V → Prop) (K : V → Heap → Prop) (a0 a1 : V) (h : Heap) : Prop :=
    (wi F L (.call i_internal_stringslite_Index [(.c a0), (.c a1)]) E0 h fun v10 h =>
    (wi F L (.bin .geq (.c v10) (.c (.int .i64 0))) E0 h fun v12 h =>
    (wb v12
    (wi F L (.slstr (.c a0) none (some (.c v10))) E0 h fun v15 h' => Ext h h' ∧
    (wi F L (.len 0 (.c a1)) E0 h' fun v19 h => Ext h' h ∧
    (wi F L (.bin .add (.c v10) (.c v19)) E0 h fun v20 h' => Ext h h' ∧
    (wi F L (.slstr (.c a0) (some (.c v20)) none) E0 h' fun v21 h => Ext h' h ∧
    (∃ v, resultsV h (enterE [v15, v21, (.bool true)]) [.tmp 0, .tmp 1, .tmp 2] = some v ∧ K v h)))))
    (k_internal_stringslite_Cut_0 L K a0 h))))
theorem run_internal_stringslite_Cut {L : FuncId → List V → V → Prop} {K : V → Heap → Prop} {a0 a1 : V} {h : Heap} (hp : p_internal_stringslite_Cut L K a0 a1 h) : Cf F L i_internal_stringslite_Cut [a0, a1] h K :=
  wcallp F_internal_stringslite_Cut (show 2 ≤ 23 by decide) (p := p_internal_stringslite_Cut L K a0 a1 h) (by kernel_rfl) hp
def k_token_all_0 (L : FuncId → List V → V → Prop) (K : V → Heap → Prop) (h : Heap) : Prop :=
    (∃ v, some (.bool true) = some v ∧ K v h)
def k_token_all_2 (L : FuncId → List V → V → Prop) (K : V → Heap → Prop) (N0 : Env → Heap → Prop) (e : Env) (v8 : V) (h : Heap) : Prop :=
    (wi F L (.bin .add (.c v8) (.c (.int .i64 1))) E0 h fun v17 h =>
    (N0 (upd (upd e 17 v17) 8 v17) h))
def k_token_all_1 (L : FuncId → List V → V → Prop) (K : V → Heap → Prop) (N0 : Env → Heap → Prop) (e : Env) (v0 v1 v8 : V) (h : Heap) : Prop :=
    (wi F L (.ixStr (.c v0) (.c v8)) E0 h fun v14 h =>
    (wi F L (.callv (.c v1) [(.c v14)]) E0 h fun v15 h =>
    (wi F L (.un .not (.c v15)) E0 h fun v16 h =>
    (wb v16
    (∃ v, some (.bool false) = some v ∧ K v h)
    (k_token_all_2 L K N0 (upd (upd (upd (upd (upd (upd (upd (upd e 10 v8) 5 v8) 11 v1) 12 v0) 13 v8) 14 v14) 15 v15) 16 v16) v8 h)))))
def q_token_all_0 (L : FuncId → List V → V → Prop) (K : V → Heap → Prop) : X → Env → Heap → Prop := (fun x => (seqX (fun e h => k_token_all_0 L K  h) (retX c_token_all.results K)) (X.out 0 x))
def lc_token_all_0 : C :=
  (.seq (.region [⟨(some 9), none, .bin .lss (.t 8) (.t 7)⟩])
  (.seq (.cond (.t 9)
    .skip
    (.exit 0))
  (.seq (.block 1 (.seq (.region [⟨(some 10), none, .mv (.t 8)⟩, ⟨(some 5), none, .mv (.t 10)⟩])
  (.seq (.region [⟨(some 11), none, .mv (.t 1)⟩, ⟨(some 12), none, .mv (.t 0)⟩, ⟨(some 13), none, .mv (.t 5)⟩, ⟨(some 14), none, .ixStr (.t 12) (.t 13)⟩, ⟨(some 15), none, .callv (.t 11) [(.t 14)]⟩, ⟨(some 16), none, .un .not (.t 15)⟩])
  (.cond (.t 16)
    (.seq (.region [⟨(some 4), none, .mv (.c (.bool false))⟩])
    .ret)
    .skip))))
  (.region [⟨(some 17), none, .bin .add (.t 8) (.c (.int .i64 1))⟩, ⟨(some 8), none, .mv (.t 17)⟩]))))
def b_token_all_0 (L : FuncId → List V → V → Prop) (K : V → Heap → Prop) (N0 : Env → Heap → Prop) (e : Env) (h : Heap) : Prop :=
    (wi F L (.bin .lss (.c (e 8)) (.c (e 7))) E0 h fun v9 h =>
    (wb v9
    (k_token_all_1 L K N0 (upd e 9 v9) (e 0) (e 1) (e 8) h)
    (k_token_all_0 L K  h)))
theorem l_token_all_0 {L : FuncId → List V → V → Prop} {K : V → Heap → Prop} (I : Nat → Env → Heap → Prop) (hr : ∀ n e h, I n e h → b_token_all_0 L K (fun e' h' => ∃ m, m < n ∧ I m e' h') e h) {n : Nat} {e : Env} {h : Heap} (hi : I n e h) : Wl F L lc_token_all_0 (q_token_all_0 L K) e h :=
  wloopp (b := b_token_all_0 L K) I (fun _ _ _ => by kernel_rfl) hr hi
def p_token_all (L : FuncId → List V → V → Prop) (K : V → Heap → Prop) (a0 a1 : V) (h : Heap) : Prop :=
    (wi F L (.len 0 (.c a0)) E0 h fun v7 h =>
    (Wl F L lc_token_all_0 (q_token_all_0 L K) (upd (upd (upd (upd (enterE [a0, a1]) 4 (.bool false)) 6 a0) 7 v7) 8 (.int .i64 0)) h))
theorem run_token_all {L : FuncId → List V → V → Prop} {K : V → Heap → Prop} {a0 a1 : V} {h : Heap} (hp : p_token_all L K a0 a1 h) : Cf F L i_token_all [a0, a1] h K :=
  wcallp F_token_all (show 2 ≤ 18 by decide) (p := p_token_all L K a0 a1 h) (by kernel_rfl) hp
def p_token_Number_1 (L : FuncId → List V → V → Prop) (K : V → Heap → Prop) (a0 : V) (h : Heap) : Prop :=
    (wi F L (.bin .geq (.c a0) (.c (.int .u8 48))) E0 h fun v4 h =>
    (wg v4 true (wi F L (.mv (.c a0)) E0 h) h fun v6 h =>
    (wg v4 true (wi F L (.bin .leq (.c v6) (.c (.int .u8 57))) E0 h) h fun v7 h =>
    (wi F L (.pick (.c v4) (.c v7) (.c (.bool false))) E0 h fun v8 h =>
    (∃ v, some v8 = some v ∧ K v h)))))
theorem run_token_Number_1 {L : FuncId → List V → V → Prop} {K : V → Heap → Prop} {a0 : V} {h : Heap} (hp : p_token_Number_1 L K a0 h) : Cf F L i_token_Number_1 [a0] h K :=
  wcallp F_token_Number_1 (show 1 ≤ 9 by decide) (p := p_token_Number_1 L K a0 h) (by kernel_rfl) hp
def k_token_Lower_0 (L : FuncId → List V → V → Prop) (K : V → Heap → Prop) (v3 : V) (h : Heap) : Prop :=
    (wi F L (.toStr (.c v3)) E0 h fun v28 h =>
    (∃ v, some v28 = some v ∧ K v h))
def k_token_Lower_2 (L : FuncId → List V → V → Prop) (K : V → Heap → Prop) (N0 : Env → Heap → Prop) (e : Env) (v10 : V) (h : Heap) : Prop :=
    (wi F L (.bin .add (.c v10) (.c (.int .i64 1))) E0 h fun v26 h =>
    (N0 (upd (upd e 26 v26) 10 v26) h))
def k_token_Lower_1 (L : FuncId → List V → V → Prop) (K : V → Heap → Prop) (N0 : Env → Heap → Prop) (e : Env) (v3 v8 v10 : V) (h : Heap) : Prop :=
    (wi F L (.ixaSl 1 (.c v8) (.c v10)) E0 h fun v13 h =>
    (wi F L (.load false 1 (.c v13)) E0 h fun v14 h =>
    (wi F L (.bin .geq (.c v14) (.c (.int .u8 65))) E0 h fun v16 h =>
    (wg v16 true (wi F L (.mv (.c v14)) E0 h) h fun v18 h =>
    (wg v16 true (wi F L (.bin .leq (.c v18) (.c (.int .u8 90))) E0 h) h fun v19 h =>
    (wi F L (.pick (.c v16) (.c v19) (.c (.bool false))) E0 h fun v20 h =>
    (wb v20
    (wi F L (.bin .or (.c v14) (.c (.int .u8 32))) E0 h fun v24 h =>
    (wi F L (.ixaSl 1 (.c v3) (.c v10)) E0 h fun v25 h =>
    (wi F L (.store 1 (.c v25) (.c v24)) E0 h fun _ h =>
    (k_token_Lower_2 L K N0 (upd (upd (upd (upd (upd (upd (upd (upd (upd (upd (upd (upd (upd (upd (upd (upd e 12 v10) 13 v13) 14 v14) 4 v10) 5 v14) 15 v14) 16 v16) 17 v16) 18 v18) 19 v19) 20 v20) 21 v3) 22 v10) 23 v14) 24 v24) 25 v25) v10 h))))
    (k_token_Lower_2 L K N0 (upd (upd (upd (upd (upd (upd (upd (upd (upd (upd (upd e 12 v10) 13 v13) 14 v14) 4 v10) 5 v14) 15 v14) 16 v16) 17 v16) 18 v18) 19 v19) 20 v20) v10 h))))))))
def q_token_Lower_0 (L : FuncId → List V → V → Prop) (K : V → Heap → Prop) : X → Env → Heap → Prop := (fun x => (seqX (fun e h => k_token_Lower_0 L K (e 3) h) (retX c_token_Lower.results K)) (X.out 0 x))
def lc_token_Lower_0 : C :=
  (.seq (.region [⟨(some 11), none, .bin .lss (.t 10) (.t 9)⟩])
  (.seq (.cond (.t 11)
    .skip
    (.exit 0))
  (.seq (.block 1 (.seq (.region [⟨(some 12), none, .mv (.t 10)⟩, ⟨(some 13), none, .ixaSl 1 (.t 8) (.t 10)⟩, ⟨(some 14), none, .load false 1 (.t 13)⟩, ⟨(some 4), none, .mv (.t 12)⟩, ⟨(some 5), none, .mv (.t 14)⟩])
  (.seq (.region [⟨(some 15), none, .mv (.t 5)⟩, ⟨(some 16), none, .bin .geq (.t 15) (.c (.int .u8 65))⟩, ⟨(some 17), none, .mv (.t 16)⟩, ⟨(some 18), (some (17, true)), .mv (.t 5)⟩, ⟨(some 19), (some (17, true)), .bin .leq (.t 18) (.c (.int .u8 90))⟩, ⟨(some 20), none, .pick (.t 17) (.t 19) (.c (.bool false))⟩])
  (.cond (.t 20)
    (.region [⟨(some 21), none, .mv (.t 3)⟩, ⟨(some 22), none, .mv (.t 4)⟩, ⟨(some 23), none, .mv (.t 5)⟩, ⟨(some 24), none, .bin .or (.t 23) (.c (.int .u8 32))⟩, ⟨(some 25), none, .ixaSl 1 (.t 21) (.t 22)⟩, ⟨none, none, .store 1 (.t 25) (.t 24)⟩])
    .skip))))
  (.region [⟨(some 26), none, .bin .add (.t 10) (.c (.int .i64 1))⟩, ⟨(some 10), none, .mv (.t 26)⟩]))))
def b_token_Lower_0 (L : FuncId → List V → V → Prop) (K : V → Heap → Prop) (N0 : Env → Heap → Prop) (e : Env) (h : Heap) : Prop :=
    (wi F L (.bin .lss (.c (e 10)) (.c (e 9))) E0 h fun v11 h =>
    (wb v11
    (k_token_Lower_1 L K N0 (upd e 11 v11) (e 3) (e 8) (e 10) h)
    (k_token_Lower_0 L K (e 3) h)))
theorem l_token_Lower_0 {L : FuncId → List V → V → Prop} {K : V → Heap → Prop} (I : Nat → Env → Heap → Prop) (hr : ∀ n e h, I n e h → b_token_Lower_0 L K (fun e' h' => ∃ m, m < n ∧ I m e' h') e h) {n : Nat} {e : Env} {h : Heap} (hi : I n e h) : Wl F L lc_token_Lower_0 (q_token_Lower_0 L K) e h :=
  wloopp (b := b_token_Lower_0 L K) I (fun _ _ _ => by kernel_rfl) hr hi
def p_token_Lower (L : FuncId → List V → V → Prop) (K : V → Heap → Prop) (a0 : V) (h : Heap) : Prop :=
    (wi F L (.toBytes (.c a0)) E0 h fun v7 h =>
    (wi F L (.len 1 (.c v7)) E0 h fun v9 h =>
    (Wl F L lc_token_Lower_0 (q_token_Lower_0 L K) (upd (upd (upd (upd (upd (upd (upd (enterE [a0]) 2 (.str [])) 6 a0) 7 v7) 3 v7) 8 v7) 9 v9) 10 (.int .i64 0)) h)))
theorem run_token_Lower {L : FuncId → List V → V → Prop} {K : V → Heap → Prop} {a0 : V} {h : Heap} (hp : p_token_Lower L K a0 h) : Cf F L i_token_Lower [a0] h K :=
  wcallp F_token_Lower (show 1 ≤ 29 by decide) (p := p_token_Lower L K a0 h) (by kernel_rfl) hp
def k_token_Split_1_0 (L : FuncId → List V → V → Prop) (K : V → Heap → Prop) (v0 v2 : V) (h : Heap) : Prop :=
    (wi F L (.bin .add (.c v0) (.c (.int .i64 1))) E0 h fun v18 h =>
    (wi F L (.store 1 (.c v2) (.c v18)) E0 h fun _ h =>
    (∃ v, resultsV h (enterE []) [] = some v ∧ K v h)))
def p_token_Split_1 (L : FuncId → List V → V → Prop) (K : V → Heap → Prop) (a0 a1 a2 a3 : V) (h : Heap) : Prop :=
    (wi F L (.load false 1 (.c a1)) E0 h fun v6 h =>
    (wi F L (.load false 1 (.c a2)) E0 h fun v7 h =>
    (wi F L (.slstr (.c v6) (some (.c v7)) (some (.c a0))) E0 h fun v9 h =>
    (wi F L (.call i_token_Trim [(.c v9)]) E0 h fun v10 h =>
    (wi F L (.bin .neq (.c v10) (.c (.str []))) E0 h fun v12 h =>
    (wb v12
    (wi F L (.load false 1 (.c a3)) E0 h fun v13 h =>
    (wi F L (.bsl 1 [(.c v10)]) E0 h fun v15 h =>
    (wi F L (.app 1 16 false (.c v13) (.c v15)) E0 h fun v16 h =>
    (wi F L (.store 1 (.c a3) (.c v16)) E0 h fun _ h =>
    (k_token_Split_1_0 L K a0 a2 h)))))
    (k_token_Split_1_0 L K a0 a2 h)))))))
theorem run_token_Split_1 {L : FuncId → List V → V → Prop} {K : V → Heap → Prop} {a0 a1 a2 a3 : V} {h : Heap} (hp : p_token_Split_1 L K a0 a1 a2 a3 h) : Cf F L i_token_Split_1 [a0, a1, a2, a3] h K :=
  wcallp F_token_Split_1 (show 4 ≤ 19 by decide) (p := p_token_Split_1 L K a0 a1 a2 a3 h) (by kernel_rfl) hp
def p_token_Trim (L : FuncId → List V → V → Prop) (K : V → Heap → Prop) (a0 : V) (h : Heap) : Prop :=
    (wi F L (.call i_strings_Trim [(.c a0), (.c (.str [32, 9]))]) E0 h fun v4 h =>
    (∃ v, some v4 = some v ∧ K v h))
theorem run_token_Trim {L : FuncId → List V → V → Prop} {K : V → Heap → Prop} {a0 : V} {h : Heap} (hp : p_token_Trim L K a0 h) : Cf F L i_token_Trim [a0] h K :=
  wcallp F_token_Trim (show 1 ≤ 5 by decide) (p := p_token_Trim L K a0 h) (by kernel_rfl) hp
def k_ranges_one_1_0 (L : FuncId → List V → V → Prop) (K : V → Heap → Prop) (h : Heap) : Prop :=
    (∃ v, some (.int .i64 (-1)) = some v ∧ K v h)
def p_ranges_one_1 (L : FuncId → List V → V → Prop) (K : V → Heap → Prop) (a0 : V) (h : Heap) : Prop :=
    (wi F L (.call i_token_Number [(.c a0), (.c (.int .i64 1099511627776))]) E0 h fun v7 h =>
    (wi F L (.ext 0 (.c v7)) E0 h fun v8 h =>
    (wi F L (.ext 1 (.c v7)) E0 h fun v9 h =>
    (wb v9
    (∃ v, some v8 = some v ∧ K v h)
    (k_ranges_one_1_0 L K  h)))))
theorem run_ranges_one_1 {L : FuncId → List V → V → Prop} {K : V → Heap → Prop} {a0 : V} {h : Heap} (hp : p_ranges_one_1 L K a0 h) : Cf F L i_ranges_one_1 [a0] h K :=
  wcallp F_ranges_one_1 (show 1 ≤ 12 by decide) (p := p_ranges_one_1 L K a0 h) (by kernel_rfl) hp
def k_gatepostref01_Trim_1 (L : FuncId → List V → V → Prop) (K : V → Heap → Prop) (v0 : V) (h : Heap) : Prop :=
    (∃ v, some v0 = some v ∧ K v h)
def k_gatepostref01_Trim_2 (L : FuncId → List V → V → Prop) (K : V → Heap → Prop) (N0 : Env → Heap → Prop) (e : Env) (v0 : V) (h : Heap) : Prop :=
    (wi F L (.len 0 (.c v0)) E0 h fun v26 h =>
    (wi F L (.bin .sub (.c v26) (.c (.int .i64 1))) E0 h fun v27 h =>
    (wi F L (.slstr (.c v0) none (some (.c v27))) E0 h fun v28 h =>
    (N0 (upd (upd (upd (upd (upd (upd e 24 v0) 25 v0) 26 v26) 27 v27) 28 v28) 0 v28) h))))
def q_gatepostref01_Trim_0 (L : FuncId → List V → V → Prop) (K : V → Heap → Prop) : X → Env → Heap → Prop := (fun x => (seqX (fun e h => k_gatepostref01_Trim_1 L K (e 0) h) (retX c_gatepostref01_Trim.results K)) (X.out 2 x))
def lc_gatepostref01_Trim_0 : C :=
  (.seq (.seq (.region [⟨(some 13), none, .mv (.t 0)⟩, ⟨(some 14), none, .len 0 (.t 13)⟩, ⟨(some 15), none, .bin .gtr (.t 14) (.c (.int .i64 0))⟩, ⟨(some 16), none, .mv (.t 15)⟩, ⟨(some 17), (some (16, true)), .mv (.t 0)⟩, ⟨(some 18), (some (16, true)), .mv (.t 0)⟩, ⟨(some 19), (some (16, true)), .len 0 (.t 18)⟩, ⟨(some 20), (some (16, true)), .bin .sub (.t 19) (.c (.int .i64 1))⟩, ⟨(some 21), (some (16, true)), .ixStr (.t 17) (.t 20)⟩, ⟨(some 22), (some (16, true)), .call i_gatepostref01_blank [(.t 21)]⟩, ⟨(some 23), none, .pick (.t 16) (.t 22) (.c (.bool false))⟩])
  (.cond (.t 23)
    .skip
    (.exit 2)))
  (.block 3 (.region [⟨(some 24), none, .mv (.t 0)⟩, ⟨(some 25), none, .mv (.t 0)⟩, ⟨(some 26), none, .len 0 (.t 25)⟩, ⟨(some 27), none, .bin .sub (.t 26) (.c (.int .i64 1))⟩, ⟨(some 28), none, .slstr (.t 24) none (some (.t 27))⟩, ⟨(some 0), none, .mv (.t 28)⟩])))
def b_gatepostref01_Trim_0 (L : FuncId → List V → V → Prop) (K : V → Heap → Prop) (N0 : Env → Heap → Prop) (e : Env) (h : Heap) : Prop :=
    (wi F L (.len 0 (.c (e 0))) E0 h fun v14 h =>
    (wi F L (.bin .gtr (.c v14) (.c (.int .i64 0))) E0 h fun v15 h =>
    (wg v15 true (wi F L (.mv (.c (e 0))) E0 h) h fun v17 h =>
    (wg v15 true (wi F L (.mv (.c (e 0))) E0 h) h fun v18 h =>
    (wg v15 true (wi F L (.len 0 (.c v18)) E0 h) h fun v19 h =>
    (wg v15 true (wi F L (.bin .sub (.c v19) (.c (.int .i64 1))) E0 h) h fun v20 h =>
    (wg v15 true (wi F L (.ixStr (.c v17) (.c v20)) E0 h) h fun v21 h =>
    (wg v15 true (wi F L (.call i_gatepostref01_blank [(.c v21)]) E0 h) h fun v22 h =>
    (wi F L (.pick (.c v15) (.c v22) (.c (.bool false))) E0 h fun v23 h =>
    (wb v23
    (k_gatepostref01_Trim_2 L K N0 (upd (upd (upd (upd (upd (upd (upd (upd (upd (upd (upd e 13 (e 0)) 14 v14) 15 v15) 16 v15) 17 v17) 18 v18) 19 v19) 20 v20) 21 v21) 22 v22) 23 v23) (e 0) h)
    (k_gatepostref01_Trim_1 L K (e 0) h)))))))))))
theorem l_gatepostref01_Trim_0 {L : FuncId → List V → V → Prop} {K : V → Heap → Prop} (I : Nat → Env → Heap → Prop) (hr : ∀ n e h, I n e h → b_gatepostref01_Trim_0 L K (fun e' h' => ∃ m, m < n ∧ I m e' h') e h) {n : Nat} {e : Env} {h : Heap} (hi : I n e h) : Wl F L lc_gatepostref01_Trim_0 (q_gatepostref01_Trim_0 L K) e h :=
  wloopp (b := b_gatepostref01_Trim_0 L K) I (fun _ _ _ => by kernel_rfl) hr hi
def k_gatepostref01_Trim_0 (L : FuncId → List V → V → Prop) (K : V → Heap → Prop) (e : Env) (h : Heap) : Prop :=
    (Wl F L lc_gatepostref01_Trim_0 (q_gatepostref01_Trim_0 L K) e h)
def k_gatepostref01_Trim_3 (L : FuncId → List V → V → Prop) (K : V → Heap → Prop) (N0 : Env → Heap → Prop) (e : Env) (v0 : V) (h : Heap) : Prop :=
    (wi F L (.slstr (.c v0) (some (.c (.int .i64 1))) none) E0 h fun v12 h =>
    (N0 (upd (upd (upd e 11 v0) 12 v12) 0 v12) h))
def q_gatepostref01_Trim_1 (L : FuncId → List V → V → Prop) (K : V → Heap → Prop) : X → Env → Heap → Prop := (fun x => (seqX (fun e h => k_gatepostref01_Trim_0 L K e  h) (retX c_gatepostref01_Trim.results K)) (X.out 0 x))
def lc_gatepostref01_Trim_1 : C :=
  (.seq (.seq (.region [⟨(some 3), none, .mv (.t 0)⟩, ⟨(some 4), none, .len 0 (.t 3)⟩, ⟨(some 5), none, .bin .gtr (.t 4) (.c (.int .i64 0))⟩, ⟨(some 6), none, .mv (.t 5)⟩, ⟨(some 7), (some (6, true)), .mv (.t 0)⟩, ⟨(some 8), (some (6, true)), .ixStr (.t 7) (.c (.int .i64 0))⟩, ⟨(some 9), (some (6, true)), .call i_gatepostref01_blank [(.t 8)]⟩, ⟨(some 10), none, .pick (.t 6) (.t 9) (.c (.bool false))⟩])
  (.cond (.t 10)
    .skip
    (.exit 0)))
  (.block 1 (.region [⟨(some 11), none, .mv (.t 0)⟩, ⟨(some 12), none, .slstr (.t 11) (some (.c (.int .i64 1))) none⟩, ⟨(some 0), none, .mv (.t 12)⟩])))
def b_gatepostref01_Trim_1 (L : FuncId → List V → V → Prop) (K : V → Heap → Prop) (N0 : Env → Heap → Prop) (e : Env) (h : Heap) : Prop :=
    (wi F L (.len 0 (.c (e 0))) E0 h fun v4 h =>
    (wi F L (.bin .gtr (.c v4) (.c (.int .i64 0))) E0 h fun v5 h =>
    (wg v5 true (wi F L (.mv (.c (e 0))) E0 h) h fun v7 h =>
    (wg v5 true (wi F L (.ixStr (.c v7) (.c (.int .i64 0))) E0 h) h fun v8 h =>
    (wg v5 true (wi F L (.call i_gatepostref01_blank [(.c v8)]) E0 h) h fun v9 h =>
    (wi F L (.pick (.c v5) (.c v9) (.c (.bool false))) E0 h fun v10 h =>
    (wb v10
    (k_gatepostref01_Trim_3 L K N0 (upd (upd (upd (upd (upd (upd (upd (upd e 3 (e 0)) 4 v4) 5 v5) 6 v5) 7 v7) 8 v8) 9 v9) 10 v10) (e 0) h)
    (k_gatepostref01_Trim_0 L K (upd (upd (upd (upd (upd (upd (upd (upd e 3 (e 0)) 4 v4) 5 v5) 6 v5) 7 v7) 8 v8) 9 v9) 10 v10)  h))))))))
theorem l_gatepostref01_Trim_1 {L : FuncId → List V → V → Prop} {K : V → Heap → Prop} (I : Nat → Env → Heap → Prop) (hr : ∀ n e h, I n e h → b_gatepostref01_Trim_1 L K (fun e' h' => ∃ m, m < n ∧ I m e' h') e h) {n : Nat} {e : Env} {h : Heap} (hi : I n e h) : Wl F L lc_gatepostref01_Trim_1 (q_gatepostref01_Trim_1 L K) e h :=
  wloopp (b := b_gatepostref01_Trim_1 L K) I (fun _ _ _ => by kernel_rfl) hr hi
def p_gatepostref01_Trim (L : FuncId → List V → V → Prop) (K : V → Heap → Prop) (a0 : V) (h : Heap) : Prop :=
    (Wl F L lc_gatepostref01_Trim_1 (q_gatepostref01_Trim_1 L K) (upd (enterE [a0]) 2 (.str [])) h)
theorem run_gatepostref01_Trim {L : FuncId → List V → V → Prop} {K : V → Heap → Prop} {a0 : V} {h : Heap} (hp : p_gatepostref01_Trim L K a0 h) : Cf F L i_gatepostref01_Trim [a0] h K :=
  wcallp F_gatepostref01_Trim (show 1 ≤ 30 by decide) (p := p_gatepostref01_Trim L K a0 h) (by kernel_rfl) hp
def p_internal_stringslite_HasPrefix (L : FuncId → List V → V → Prop) (K : V → Heap → Prop) (a0 a1 : V) (h : Heap) : Prop :=
    (wi F L (.len 0 (.c a0)) E0 h fun v6 h =>
    (wi F L (.len 0 (.c a1)) E0 h fun v8 h =>
    (wi F L (.bin .geq (.c v6) (.c v8)) E0 h fun v9 h =>
    (wg v9 true (wi F L (.mv (.c a0)) E0 h) h fun v11 h =>
    (wg v9 true (wi F L (.mv (.c a1)) E0 h) h fun v12 h =>
    (wg v9 true (wi F L (.len 0 (.c v12)) E0 h) h fun v13 h =>
    (wg v9 true (wi F L (.slstr (.c v11) none (some (.c v13))) E0 h) h fun v14 h =>
    (wg v9 true (wi F L (.mv (.c a1)) E0 h) h fun v15 h =>
    (wg v9 true (wi F L (.bin .eql (.c v14) (.c v15)) E0 h) h fun v16 h =>
    (wi F L (.pick (.c v9) (.c v16) (.c (.bool false))) E0 h fun v17 h =>
    (∃ v, some v17 = some v ∧ K v h)))))))))))
theorem run_internal_stringslite_HasPrefix {L : FuncId → List V → V → Prop} {K : V → Heap → Prop} {a0 a1 : V} {h : Heap} (hp : p_internal_stringslite_HasPrefix L K a0 a1 h) : Cf F L i_internal_stringslite_HasPrefix [a0, a1] h K :=
  wcallp F_internal_stringslite_HasPrefix (show 2 ≤ 18 by decide) (p := p_internal_stringslite_HasPrefix L K a0 a1 h) (by kernel_rfl) hp
def k_strings_Trim_2 (L : FuncId → List V → V → Prop) (K : V → Heap → Prop) (v0 v1 : V) (h : Heap) : Prop :=
    (wi F L (.call i_strings_trimRightUnicode [(.c v0), (.c v1)]) E0 h fun v40 h =>
    (wi F L (.call i_strings_trimLeftUnicode [(.c v40), (.c v1)]) E0 h fun v42 h =>
    (∃ v, some v42 = some v ∧ K v h)))
def k_strings_Trim_1 (L : FuncId → List V → V → Prop) (K : V → Heap → Prop) (v0 v1 : V) (h : Heap) : Prop :=
    (wi F L (.call i_strings_makeASCIISet [(.c v1)]) E0 h fun v31 h =>
    (wi F L (.ext 0 (.c v31)) E0 h fun v32 h =>
    (wi F L (.ext 1 (.c v31)) E0 h fun v33 h =>
    (wi F L (.boxz (List.replicate 256 (.bool false))) E0 h fun v5 h =>
    (wi F L (.store 256 (.c v5) (.c v32)) E0 h fun _ h =>
    (wb v33
    (wi F L (.call i_strings_trimRightASCII [(.c v0), (.c v5)]) E0 h fun v36 h =>
    (wi F L (.call i_strings_trimLeftASCII [(.c v36), (.c v5)]) E0 h fun v37 h =>
    (∃ v, some v37 = some v ∧ K v h)))
    (k_strings_Trim_2 L K v0 v1 h)))))))
def k_strings_Trim_0 (L : FuncId → List V → V → Prop) (K : V → Heap → Prop) (v0 v1 : V) (h : Heap) : Prop :=
    (wi F L (.len 0 (.c v1)) E0 h fun v15 h =>
    (wi F L (.bin .eql (.c v15) (.c (.int .i64 1))) E0 h fun v16 h =>
    (wg v16 true (wi F L (.mv (.c v1)) E0 h) h fun v18 h =>
    (wg v16 true (wi F L (.ixStr (.c v18) (.c (.int .i64 0))) E0 h) h fun v19 h =>
    (wg v16 true (wi F L (.bin .lss (.c v19) (.c (.int .u8 128))) E0 h) h fun v20 h =>
    (wi F L (.pick (.c v16) (.c v20) (.c (.bool false))) E0 h fun v21 h =>
    (wb v21
    (wi F L (.ixStr (.c v1) (.c (.int .i64 0))) E0 h fun v24 h' => Ext h h' ∧
    (wi F L (.call i_strings_trimRightByte [(.c v0), (.c v24)]) E0 h' fun v25 h => Ext h' h ∧
    (wi F L (.ixStr (.c v1) (.c (.int .i64 0))) E0 h fun v27 h' => Ext h h' ∧
    (wi F L (.call i_strings_trimLeftByte [(.c v25), (.c v27)]) E0 h' fun v28 h =>
    (∃ v, some v28 = some v ∧ K v h)))))
    (k_strings_Trim_1 L K v0 v1 h))))))))
def p_strings_Trim (L : FuncId → List V → V → Prop) (K : V → Heap → Prop) (a0 a1 : V) (h : Heap) : Prop :=
    (wi F L (.bin .eql (.c a0) (.c (.str []))) E0 h fun v8 h =>
    (wg v8 false (wi F L (.mv (.c a1)) E0 h) h fun v10 h =>
    (wg v8 false (wi F L (.bin .eql (.c v10) (.c (.str []))) E0 h) h fun v11 h =>
    (wi F L (.pick (.c v8) (.c (.bool true)) (.c v11)) E0 h fun v12 h =>
    (wb v12
    (∃ v, some a0 = some v ∧ K v h)
    (k_strings_Trim_0 L K a0 a1 h))))))
theorem run_strings_Trim {L : FuncId → List V → V → Prop} {K : V → Heap → Prop} {a0 a1 : V} {h : Heap} (hp : p_strings_Trim L K a0 a1 h) : Cf F L i_strings_Trim [a0, a1] h K :=
  wcallp F_strings_Trim (show 2 ≤ 43 by decide) (p := p_strings_Trim L K a0 a1 h) (by kernel_rfl) hp
def p_gatepostref01_blank (L : FuncId → List V → V → Prop) (K : V → Heap → Prop) (a0 : V) (h : Heap) : Prop :=
    (wi F L (.bin .eql (.c a0) (.c (.int .u8 32))) E0 h fun v4 h =>
    (wg v4 false (wi F L (.mv (.c a0)) E0 h) h fun v6 h =>
    (wg v4 false (wi F L (.bin .eql (.c v6) (.c (.int .u8 9))) E0 h) h fun v7 h =>
    (wi F L (.pick (.c v4) (.c (.bool true)) (.c v7)) E0 h fun v8 h =>
    (∃ v, some v8 = some v ∧ K v h)))))
theorem run_gatepostref01_blank {L : FuncId → List V → V → Prop} {K : V → Heap → Prop} {a0 : V} {h : Heap} (hp : p_gatepostref01_blank L K a0 h) : Cf F L i_gatepostref01_blank [a0] h K :=
  wcallp F_gatepostref01_blank (show 1 ≤ 9 by decide) (p := p_gatepostref01_blank L K a0 h) (by kernel_rfl) hp
def k_strings_makeASCIISet_0 (L : FuncId → List V → V → Prop) (K : V → Heap → Prop) (v2 : V) (h : Heap) : Prop :=
    (wi F L (.load true 256 (.c v2)) E0 h fun v20 h =>
    (wi F L (.store 256 (.c v2) (.c v20)) E0 h fun _ h =>
    (∃ v, resultsV h (enterE [v2, (.bool true)]) [.cell 0 true 256, .tmp 1] = some v ∧ K v h)))
def k_strings_makeASCIISet_2 (L : FuncId → List V → V → Prop) (K : V → Heap → Prop) (N0 : Env → Heap → Prop) (e : Env) (v4 : V) (h : Heap) : Prop :=
    (wi F L (.bin .add (.c v4) (.c (.int .i64 1))) E0 h fun v11 h =>
    (N0 (upd (upd (upd e 10 v4) 11 v11) 4 v11) h))
def k_strings_makeASCIISet_3 (L : FuncId → List V → V → Prop) (K : V → Heap → Prop) (N0 : Env → Heap → Prop) (e : Env) (v2 v4 v5 : V) (h : Heap) : Prop :=
    (wi F L (.ixaArr 256 1 (.c v2) (.c v5)) E0 h fun v19 h =>
    (wi F L (.store 1 (.c v19) (.c (.bool true))) E0 h fun _ h =>
    (k_strings_makeASCIISet_2 L K N0 (upd (upd e 18 v5) 19 v19) v4 h)))
def k_strings_makeASCIISet_1 (L : FuncId → List V → V → Prop) (K : V → Heap → Prop) (N0 : Env → Heap → Prop) (e : Env) (v0 v2 v4 : V) (h : Heap) : Prop :=
    (wi F L (.ixStr (.c v0) (.c v4)) E0 h fun v14 h =>
    (wi F L (.bin .geq (.c v14) (.c (.int .u8 128))) E0 h fun v16 h =>
    (wb v16
    (wi F L (.load true 256 (.c v2)) E0 h fun v17 h =>
    (wi F L (.store 256 (.c v2) (.c v17)) E0 h fun _ h =>
    (∃ v, resultsV h (enterE [v2, (.bool false)]) [.cell 0 true 256, .tmp 1] = some v ∧ K v h)))
    (k_strings_makeASCIISet_3 L K N0 (upd (upd (upd (upd (upd (upd e 12 v0) 13 v4) 14 v14) 5 v14) 15 v14) 16 v16) v2 v4 v14 h))))
def q_strings_makeASCIISet_0 (L : FuncId → List V → V → Prop) (K : V → Heap → Prop) : X → Env → Heap → Prop := (fun x => (seqX (fun e h => k_strings_makeASCIISet_0 L K (e 2) h) (retX c_strings_makeASCIISet.results K)) (X.out 0 x))
def lc_strings_makeASCIISet_0 : C :=
  (.seq (.seq (.region [⟨(some 6), none, .mv (.t 4)⟩, ⟨(some 7), none, .mv (.t 0)⟩, ⟨(some 8), none, .len 0 (.t 7)⟩, ⟨(some 9), none, .bin .lss (.t 6) (.t 8)⟩])
  (.cond (.t 9)
    .skip
    (.exit 0)))
  (.seq (.block 1 (.seq (.region [⟨(some 12), none, .mv (.t 0)⟩, ⟨(some 13), none, .mv (.t 4)⟩, ⟨(some 14), none, .ixStr (.t 12) (.t 13)⟩, ⟨(some 5), none, .mv (.t 14)⟩])
  (.seq (.seq (.region [⟨(some 15), none, .mv (.t 5)⟩, ⟨(some 16), none, .bin .geq (.t 15) (.c (.int .u8 128))⟩])
  (.cond (.t 16)
    (.seq (.region [⟨(some 17), none, .load true 256 (.t 2)⟩, ⟨none, none, .store 256 (.t 2) (.t 17)⟩, ⟨(some 3), none, .mv (.c (.bool false))⟩])
    .ret)
    .skip))
  (.region [⟨(some 18), none, .mv (.t 5)⟩, ⟨(some 19), none, .ixaArr 256 1 (.t 2) (.t 18)⟩, ⟨none, none, .store 1 (.t 19) (.c (.bool true))⟩]))))
  (.region [⟨(some 10), none, .mv (.t 4)⟩, ⟨(some 11), none, .bin .add (.t 10) (.c (.int .i64 1))⟩, ⟨(some 4), none, .mv (.t 11)⟩])))
def b_strings_makeASCIISet_0 (L : FuncId → List V → V → Prop) (K : V → Heap → Prop) (N0 : Env → Heap → Prop) (e : Env) (h : Heap) : Prop :=
    (wi F L (.len 0 (.c (e 0))) E0 h fun v8 h =>
    (wi F L (.bin .lss (.c (e 4)) (.c v8)) E0 h fun v9 h =>
    (wb v9
    (k_strings_makeASCIISet_1 L K N0 (upd (upd (upd (upd e 6 (e 4)) 7 (e 0)) 8 v8) 9 v9) (e 0) (e 2) (e 4) h)
    (k_strings_makeASCIISet_0 L K (e 2) h))))
theorem l_strings_makeASCIISet_0 {L : FuncId → List V → V → Prop} {K : V → Heap → Prop} (I : Nat → Env → Heap → Prop) (hr : ∀ n e h, I n e h → b_strings_makeASCIISet_0 L K (fun e' h' => ∃ m, m < n ∧ I m e' h') e h) {n : Nat} {e : Env} {h : Heap} (hi : I n e h) : Wl F L lc_strings_makeASCIISet_0 (q_strings_makeASCIISet_0 L K) e h :=
  wloopp (b := b_strings_makeASCIISet_0 L K) I (fun _ _ _ => by kernel_rfl) hr hi
def p_strings_makeASCIISet (L : FuncId → List V → V → Prop) (K : V → Heap → Prop) (a0 : V) (h : Heap) : Prop :=
    (wi F L (.boxz (List.replicate 256 (.bool false))) E0 h fun v2 h =>
    (Wl F L lc_strings_makeASCIISet_0 (q_strings_makeASCIISet_0 L K) (upd (upd (upd (enterE [a0]) 2 v2) 3 (.bool false)) 4 (.int .i64 0)) h))
theorem run_strings_makeASCIISet {L : FuncId → List V → V → Prop} {K : V → Heap → Prop} {a0 : V} {h : Heap} (hp : p_strings_makeASCIISet L K a0 h) : Cf F L i_strings_makeASCIISet [a0] h K :=
  wcallp F_strings_makeASCIISet (show 1 ≤ 21 by decide) (p := p_strings_makeASCIISet L K a0 h) (by kernel_rfl) hp
def k_strings_trimLeftASCII_0 (L : FuncId → List V → V → Prop) (K : V → Heap → Prop) (v0 : V) (h : Heap) : Prop :=
    (∃ v, some v0 = some v ∧ K v h)
def k_strings_trimLeftASCII_2 (L : FuncId → List V → V → Prop) (K : V → Heap → Prop) (N0 : Env → Heap → Prop) (e : Env) (v0 : V) (h : Heap) : Prop :=
    (wi F L (.slstr (.c v0) (some (.c (.int .i64 1))) none) E0 h fun v14 h =>
    (N0 (upd (upd (upd e 13 v0) 14 v14) 0 v14) h))
def k_strings_trimLeftASCII_1 (L : FuncId → List V → V → Prop) (K : V → Heap → Prop) (N0 : Env → Heap → Prop) (e : Env) (v0 v1 : V) (h : Heap) : Prop :=
    (wi F L (.ixStr (.c v0) (.c (.int .i64 0))) E0 h fun v10 h =>
    (wi F L (.call i___strings_asciiSet__contains [(.c v1), (.c v10)]) E0 h fun v11 h =>
    (wi F L (.un .not (.c v11)) E0 h fun v12 h =>
    (wb v12
    (k_strings_trimLeftASCII_0 L K v0 h)
    (k_strings_trimLeftASCII_2 L K N0 (upd (upd (upd (upd (upd e 8 v1) 9 v0) 10 v10) 11 v11) 12 v12) v0 h)))))
def q_strings_trimLeftASCII_0 (L : FuncId → List V → V → Prop) (K : V → Heap → Prop) : X → Env → Heap → Prop := (fun x => (seqX (fun e h => k_strings_trimLeftASCII_0 L K (e 0) h) (retX c_strings_trimLeftASCII.results K)) (X.out 0 x))
def lc_strings_trimLeftASCII_0 : C :=
  (.seq (.seq (.region [⟨(some 5), none, .mv (.t 0)⟩, ⟨(some 6), none, .len 0 (.t 5)⟩, ⟨(some 7), none, .bin .gtr (.t 6) (.c (.int .i64 0))⟩])
  (.cond (.t 7)
    .skip
    (.exit 0)))
  (.block 1 (.seq (.seq (.region [⟨(some 8), none, .mv (.t 1)⟩, ⟨(some 9), none, .mv (.t 0)⟩, ⟨(some 10), none, .ixStr (.t 9) (.c (.int .i64 0))⟩, ⟨(some 11), none, .call i___strings_asciiSet__contains [(.t 8), (.t 10)]⟩, ⟨(some 12), none, .un .not (.t 11)⟩])
  (.cond (.t 12)
    (.exit 0)
    .skip))
  (.region [⟨(some 13), none, .mv (.t 0)⟩, ⟨(some 14), none, .slstr (.t 13) (some (.c (.int .i64 1))) none⟩, ⟨(some 0), none, .mv (.t 14)⟩]))))
def b_strings_trimLeftASCII_0 (L : FuncId → List V → V → Prop) (K : V → Heap → Prop) (N0 : Env → Heap → Prop) (e : Env) (h : Heap) : Prop :=
    (wi F L (.len 0 (.c (e 0))) E0 h fun v6 h =>
    (wi F L (.bin .gtr (.c v6) (.c (.int .i64 0))) E0 h fun v7 h =>
    (wb v7
    (k_strings_trimLeftASCII_1 L K N0 (upd (upd (upd e 5 (e 0)) 6 v6) 7 v7) (e 0) (e 1) h)
    (k_strings_trimLeftASCII_0 L K (e 0) h))))
theorem l_strings_trimLeftASCII_0 {L : FuncId → List V → V → Prop} {K : V → Heap → Prop} (I : Nat → Env → Heap → Prop) (hr : ∀ n e h, I n e h → b_strings_trimLeftASCII_0 L K (fun e' h' => ∃ m, m < n ∧ I m e' h') e h) {n : Nat} {e : Env} {h : Heap} (hi : I n e h) : Wl F L lc_strings_trimLeftASCII_0 (q_strings_trimLeftASCII_0 L K) e h :=
  wloopp (b := b_strings_trimLeftASCII_0 L K) I (fun _ _ _ => by kernel_rfl) hr hi
def p_strings_trimLeftASCII (L : FuncId → List V → V → Prop) (K : V → Heap → Prop) (a0 a1 : V) (h : Heap) : Prop :=
    (Wl F L lc_strings_trimLeftASCII_0 (q_strings_trimLeftASCII_0 L K) (upd (enterE [a0, a1]) 4 (.str [])) h)
theorem run_strings_trimLeftASCII {L : FuncId → List V → V → Prop} {K : V → Heap → Prop} {a0 a1 : V} {h : Heap} (hp : p_strings_trimLeftASCII L K a0 a1 h) : Cf F L i_strings_trimLeftASCII [a0, a1] h K :=
  wcallp F_strings_trimLeftASCII (show 2 ≤ 16 by decide) (p := p_strings_trimLeftASCII L K a0 a1 h) (by kernel_rfl) hp
def k_strings_trimRightASCII_0 (L : FuncId → List V → V → Prop) (K : V → Heap → Prop) (v0 : V) (h : Heap) : Prop :=
    (∃ v, some v0 = some v ∧ K v h)
def k_strings_trimRightASCII_2 (L : FuncId → List V → V → Prop) (K : V → Heap → Prop) (N0 : Env → Heap → Prop) (e : Env) (v0 : V) (h : Heap) : Prop :=
    (wi F L (.len 0 (.c v0)) E0 h fun v18 h =>
    (wi F L (.bin .sub (.c v18) (.c (.int .i64 1))) E0 h fun v19 h =>
    (wi F L (.slstr (.c v0) none (some (.c v19))) E0 h fun v20 h =>
    (N0 (upd (upd (upd (upd (upd (upd e 16 v0) 17 v0) 18 v18) 19 v19) 20 v20) 0 v20) h))))
def k_strings_trimRightASCII_1 (L : FuncId → List V → V → Prop) (K : V → Heap → Prop) (N0 : Env → Heap → Prop) (e : Env) (v0 v1 : V) (h : Heap) : Prop :=
    (wi F L (.len 0 (.c v0)) E0 h fun v11 h =>
    (wi F L (.bin .sub (.c v11) (.c (.int .i64 1))) E0 h fun v12 h =>
    (wi F L (.ixStr (.c v0) (.c v12)) E0 h fun v13 h =>
    (wi F L (.call i___strings_asciiSet__contains [(.c v1), (.c v13)]) E0 h fun v14 h =>
    (wi F L (.un .not (.c v14)) E0 h fun v15 h =>
    (wb v15
    (k_strings_trimRightASCII_0 L K v0 h)
    (k_strings_trimRightASCII_2 L K N0 (upd (upd (upd (upd (upd (upd (upd (upd e 8 v1) 9 v0) 10 v0) 11 v11) 12 v12) 13 v13) 14 v14) 15 v15) v0 h)))))))
def q_strings_trimRightASCII_0 (L : FuncId → List V → V → Prop) (K : V → Heap → Prop) : X → Env → Heap → Prop := (fun x => (seqX (fun e h => k_strings_trimRightASCII_0 L K (e 0) h) (retX c_strings_trimRightASCII.results K)) (X.out 0 x))
def lc_strings_trimRightASCII_0 : C :=
  (.seq (.seq (.region [⟨(some 5), none, .mv (.t 0)⟩, ⟨(some 6), none, .len 0 (.t 5)⟩, ⟨(some 7), none, .bin .gtr (.t 6) (.c (.int .i64 0))⟩])
  (.cond (.t 7)
    .skip
    (.exit 0)))
  (.block 1 (.seq (.seq (.region [⟨(some 8), none, .mv (.t 1)⟩, ⟨(some 9), none, .mv (.t 0)⟩, ⟨(some 10), none, .mv (.t 0)⟩, ⟨(some 11), none, .len 0 (.t 10)⟩, ⟨(some 12), none, .bin .sub (.t 11) (.c (.int .i64 1))⟩, ⟨(some 13), none, .ixStr (.t 9) (.t 12)⟩, ⟨(some 14), none, .call i___strings_asciiSet__contains [(.t 8), (.t 13)]⟩, ⟨(some 15), none, .un .not (.t 14)⟩])
  (.cond (.t 15)
    (.exit 0)
    .skip))
  (.region [⟨(some 16), none, .mv (.t 0)⟩, ⟨(some 17), none, .mv (.t 0)⟩, ⟨(some 18), none, .len 0 (.t 17)⟩, ⟨(some 19), none, .bin .sub (.t 18) (.c (.int .i64 1))⟩, ⟨(some 20), none, .slstr (.t 16) none (some (.t 19))⟩, ⟨(some 0), none, .mv (.t 20)⟩]))))
def b_strings_trimRightASCII_0 (L : FuncId → List V → V → Prop) (K : V → Heap → Prop) (N0 : Env → Heap → Prop) (e : Env) (h : Heap) : Prop :=
    (wi F L (.len 0 (.c (e 0))) E0 h fun v6 h =>
    (wi F L (.bin .gtr (.c v6) (.c (.int .i64 0))) E0 h fun v7 h =>
    (wb v7
    (k_strings_trimRightASCII_1 L K N0 (upd (upd (upd e 5 (e 0)) 6 v6) 7 v7) (e 0) (e 1) h)
    (k_strings_trimRightASCII_0 L K (e 0) h))))
theorem l_strings_trimRightASCII_0 {L : FuncId → List V → V → Prop} {K : V → Heap → Prop} (I : Nat → Env → Heap → Prop) (hr : ∀ n e h, I n e h → b_strings_trimRightASCII_0 L K (fun e' h' => ∃ m, m < n ∧ I m e' h') e h) {n : Nat} {e : Env} {h : Heap} (hi : I n e h) : Wl F L lc_strings_trimRightASCII_0 (q_strings_trimRightASCII_0 L K) e h :=
  wloopp (b := b_strings_trimRightASCII_0 L K) I (fun _ _ _ => by kernel_rfl) hr hi
def p_strings_trimRightASCII (L : FuncId → List V → V → Prop) (K : V → Heap → Prop) (a0 a1 : V) (h : Heap) : Prop :=
    (Wl F L lc_strings_trimRightASCII_0 (q_strings_trimRightASCII_0 L K) (upd (enterE [a0, a1]) 4 (.str [])) h)
theorem run_strings_trimRightASCII {L : FuncId → List V → V → Prop} {K : V → Heap → Prop} {a0 a1 : V} {h : Heap} (hp : p_strings_trimRightASCII L K a0 a1 h) : Cf F L i_strings_trimRightASCII [a0, a1] h K :=
  wcallp F_strings_trimRightASCII (show 2 ≤ 22 by decide) (p := p_strings_trimRightASCII L K a0 a1 h) (by kernel_rfl) hp
def p___strings_asciiSet__contains (L : FuncId → List V → V → Prop) (K : V → Heap → Prop) (a0 a1 : V) (h : Heap) : Prop :=
    (wi F L (.nilck (.c a0)) E0 h fun v7 h =>
    (wi F L (.ixaArr 256 1 (.c v7) (.c a1)) E0 h fun v8 h =>
    (wi F L (.load false 1 (.c v8)) E0 h fun v9 h =>
    (∃ v, some v9 = some v ∧ K v h))))
theorem run___strings_asciiSet__contains {L : FuncId → List V → V → Prop} {K : V → Heap → Prop} {a0 a1 : V} {h : Heap} (hp : p___strings_asciiSet__contains L K a0 a1 h) : Cf F L i___strings_asciiSet__contains [a0, a1] h K :=
  wcallp F___strings_asciiSet__contains (show 2 ≤ 10 by decide) (p := p___strings_asciiSet__contains L K a0 a1 h) (by kernel_rfl) hp
theorem hF : ∀ f fn, F f = some fn → compF Tryd.prog f = some fn := lookup_all ⟨kc_gatepostlaw14_RangesContent, kc_gatepostlaw14_RangesBack, kc_gatepostlaw14_RangesTells, kc_gatepostlaw14_RangesOne, kc_gatepostlaw14_RangesMany, kc_ranges_Content, kc_gatepostref14_Content, kc_ranges_Read, kc_gatepostref14_Read, kc_ranges_Resolve, kc_ranges_Parse, kc_gatepostref14_Parse, kc_gatepostref14_Resolve, kc_ranges_Pick, kc_gatepostref14_Pick, kc_gatepostlaw14_number, kc_ranges_may, kc_gatepostref14_right, kc_gatepostref14_digits, kc_strings_CutPrefix, kc_strings_Cut, kc_ranges_Read_1, kc_token_Number, kc_gatepostref01_Number, kc_ranges_fine, kc_token_Same, kc_token_Split, kc_ranges_one, kc_gatepostref01_Lower, kc_gatepostref01_Split, kc_gatepostref14_one, kc_internal_stringslite_CutPrefix, kc_internal_stringslite_Cut, kc_token_all, kc_token_Number_1, kc_token_Lower, kc_token_Split_1, kc_token_Trim, kc_ranges_one_1, kc_gatepostref01_Trim, kc_internal_stringslite_HasPrefix, kc_strings_Trim, kc_gatepostref01_blank, kc_strings_makeASCIISet, kc_strings_trimLeftASCII, kc_strings_trimRightASCII, kc___strings_asciiSet__contains, trivial⟩
theorem hm : Tryd.prog.follows .mixedOrders = true := by kernel_rfl
end Go.Proofs.YtlnhcdafagpfhaaDoor.Vh
