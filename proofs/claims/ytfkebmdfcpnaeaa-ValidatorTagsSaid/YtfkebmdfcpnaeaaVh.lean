/- The functions of a seat, compiled for the small machine. Printed by Print.lean. -/
import Derived.Test.YtfkebmdfcpnaeaaProg
import Derived.Test.YtfkebmdfcpnaeaaVmSet
import Derived.KernelRfl
set_option maxRecDepth 100000
set_option linter.unusedVariables false
namespace Go.Proofs.Ytfkebmdfcpnaeaa.Vh
open Go.Vm
def i_main_main : FuncId := 0
def i_gosem_cut : FuncId := 1
def i_gosem_cut_init : FuncId := 2
def i_gatepostlaw12_ValidatorTags : FuncId := 3
def i_gatepostlaw12_ValidatorWeak : FuncId := 4
def i_validator_Parse : FuncId := 5
def i_gatepostref12_Parse : FuncId := 6
def i_validator_Weak : FuncId := 7
def i_validator_Strong : FuncId := 8
def i_strings_CutPrefix : FuncId := 9
def i_strings_CutSuffix : FuncId := 10
def i_internal_stringslite_CutPrefix : FuncId := 11
def i_internal_stringslite_CutSuffix : FuncId := 12
def i_internal_stringslite_HasPrefix : FuncId := 13
def i_internal_stringslite_HasSuffix : FuncId := 14
def i___runtime_TypeAssertionError__Error : FuncId := 23
def i___runtime_TypeAssertionError__RuntimeError : FuncId := 24
def i___runtime_PanicNilError__Error : FuncId := 25
def i___runtime_PanicNilError__RuntimeError : FuncId := 26
def i___internal_abi_Type__Align : FuncId := 27
def i__internal_runtime_maps_unhashableTypeError__Error : FuncId := 28
def i__internal_runtime_maps_unhashableTypeError__RuntimeError : FuncId := 29
def i__internal_abi_Kind__String : FuncId := 30
/-- gatepost/gatepostlaw12.ValidatorTags -/
def c_gatepostlaw12_ValidatorTags : FnC := ⟨89, [.tmp 4],
  (.seq (.region [⟨(some 4), none, .mv (.c (.bool false))⟩])
  (.seq (.region [⟨(some 16), none, .mv (.t 0)⟩, ⟨(some 17), none, .call i_validator_Parse [(.t 16)]⟩, ⟨(some 15), none, .mv (.t 17)⟩, ⟨(some 18), none, .ext 0 (.t 15)⟩, ⟨(some 19), none, .ext 1 (.t 15)⟩, ⟨(some 5), none, .boxz [(.bool false), (.str [])]⟩, ⟨none, none, .store 2 (.t 5) (.t 18)⟩, ⟨(some 6), none, .mv (.t 19)⟩])
  (.seq (.region [⟨(some 21), none, .mv (.t 0)⟩, ⟨(some 22), none, .call i_gatepostref12_Parse [(.t 21)]⟩, ⟨(some 20), none, .mv (.t 22)⟩, ⟨(some 23), none, .ext 0 (.t 20)⟩, ⟨(some 24), none, .ext 1 (.t 20)⟩, ⟨(some 7), none, .boxz [(.bool false), (.str [])]⟩, ⟨none, none, .store 2 (.t 7) (.t 23)⟩, ⟨(some 8), none, .mv (.t 24)⟩])
  (.seq (.region [⟨(some 26), none, .mv (.t 1)⟩, ⟨(some 27), none, .call i_validator_Parse [(.t 26)]⟩, ⟨(some 25), none, .mv (.t 27)⟩, ⟨(some 28), none, .ext 0 (.t 25)⟩, ⟨(some 29), none, .ext 1 (.t 25)⟩, ⟨(some 9), none, .boxz [(.bool false), (.str [])]⟩, ⟨none, none, .store 2 (.t 9) (.t 28)⟩, ⟨(some 10), none, .mv (.t 29)⟩])
  (.seq (.region [⟨(some 31), none, .mv (.t 1)⟩, ⟨(some 32), none, .call i_gatepostref12_Parse [(.t 31)]⟩, ⟨(some 30), none, .mv (.t 32)⟩, ⟨(some 33), none, .ext 0 (.t 30)⟩, ⟨(some 34), none, .ext 1 (.t 30)⟩, ⟨(some 11), none, .boxz [(.bool false), (.str [])]⟩, ⟨none, none, .store 2 (.t 11) (.t 33)⟩, ⟨(some 12), none, .mv (.t 34)⟩])
  (.seq (.region [⟨(some 36), none, .call i_validator_Parse [(.c (.str [87, 47, 34, 97, 34]))]⟩, ⟨(some 35), none, .mv (.t 36)⟩, ⟨(some 37), none, .ext 0 (.t 35)⟩, ⟨(some 38), none, .ext 1 (.t 35)⟩, ⟨(some 13), none, .boxz [(.bool false), (.str [])]⟩, ⟨none, none, .store 2 (.t 13) (.t 37)⟩, ⟨(some 14), none, .mv (.t 38)⟩])
  (.seq (.dregion [⟨(some 39), none, .load true 2 (.t 5)⟩, ⟨(some 40), none, .load true 2 (.t 7)⟩, ⟨(some 41), none, .eq (.agg [.b, .s]) false (.t 39) (.t 40)⟩, ⟨(some 42), none, .mv (.t 41)⟩, ⟨(some 43), (some (42, true)), .mv (.t 6)⟩, ⟨(some 44), (some (42, true)), .mv (.t 8)⟩, ⟨(some 45), (some (42, true)), .eq .bool false (.t 43) (.t 44)⟩, ⟨(some 46), none, .pick (.t 42) (.t 45) (.c (.bool false))⟩, ⟨(some 47), none, .mv (.t 46)⟩, ⟨(some 48), (some (47, true)), .load true 2 (.t 9)⟩, ⟨(some 49), (some (47, true)), .load true 2 (.t 11)⟩, ⟨(some 50), (some (47, true)), .eq (.agg [.b, .s]) false (.t 48) (.t 49)⟩, ⟨(some 51), none, .pick (.t 47) (.t 50) (.c (.bool false))⟩, ⟨(some 52), none, .mv (.t 51)⟩, ⟨(some 53), (some (52, true)), .load true 2 (.t 5)⟩, ⟨(some 54), (some (52, true)), .load true 2 (.t 9)⟩, ⟨(some 55), (some (52, true)), .call i_validator_Weak [(.t 53), (.t 54)]⟩, ⟨(some 56), (some (52, true)), .faddr 1 (.t 7)⟩, ⟨(some 57), (some (52, true)), .load false 1 (.t 56)⟩, ⟨(some 58), (some (52, true)), .faddr 1 (.t 11)⟩, ⟨(some 59), (some (52, true)), .load false 1 (.t 58)⟩, ⟨(some 60), (some (52, true)), .bin .eql (.t 57) (.t 59)⟩, ⟨(some 61), (some (52, true)), .eq .bool false (.t 55) (.t 60)⟩, ⟨(some 62), none, .pick (.t 52) (.t 61) (.c (.bool false))⟩, ⟨(some 63), none, .mv (.t 62)⟩, ⟨(some 64), (some (63, true)), .load true 2 (.t 5)⟩, ⟨(some 65), (some (63, true)), .load true 2 (.t 9)⟩, ⟨(some 66), (some (63, true)), .call i_validator_Strong [(.t 64), (.t 65)]⟩, ⟨(some 67), (some (63, true)), .load true 2 (.t 7)⟩, ⟨(some 68), (some (63, true)), .load true 2 (.t 11)⟩, ⟨(some 69), (some (63, true)), .eq (.agg [.b, .s]) false (.t 67) (.t 68)⟩] [⟨(some 70), (some (63, true)), .mv (.t 69)⟩, ⟨(some 71), (some (70, true)), .faddr 0 (.t 7)⟩, ⟨(some 72), (some (70, true)), .load false 1 (.t 71)⟩, ⟨(some 73), (some (70, true)), .un .not (.t 72)⟩, ⟨(some 74), (some (63, true)), .pick (.t 70) (.t 73) (.c (.bool false))⟩, ⟨(some 75), (some (63, true)), .eq .bool false (.t 66) (.t 74)⟩, ⟨(some 76), none, .pick (.t 63) (.t 75) (.c (.bool false))⟩, ⟨(some 77), none, .mv (.t 76)⟩, ⟨(some 78), (some (77, true)), .faddr 0 (.t 13)⟩, ⟨(some 79), (some (77, true)), .load false 1 (.t 78)⟩, ⟨(some 80), none, .pick (.t 77) (.t 79) (.c (.bool false))⟩, ⟨(some 81), none, .mv (.t 80)⟩, ⟨(some 82), (some (81, true)), .faddr 1 (.t 13)⟩, ⟨(some 83), (some (81, true)), .load false 1 (.t 82)⟩, ⟨(some 84), (some (81, true)), .bin .eql (.t 83) (.c (.str [97]))⟩, ⟨(some 85), none, .pick (.t 81) (.t 84) (.c (.bool false))⟩, ⟨(some 86), none, .mv (.t 85)⟩, ⟨(some 87), (some (86, true)), .mv (.t 14)⟩, ⟨(some 88), none, .pick (.t 86) (.t 87) (.c (.bool false))⟩, ⟨(some 4), none, .mv (.t 88)⟩])
  .ret)))))))⟩
/-- gatepost/gatepostlaw12.ValidatorWeak -/
def c_gatepostlaw12_ValidatorWeak : FnC := ⟨95, [.tmp 4],
  (.seq (.region [⟨(some 4), none, .mv (.c (.bool false))⟩])
  (.seq (.region [⟨(some 12), none, .mv (.t 0)⟩, ⟨(some 13), none, .call i_validator_Parse [(.t 12)]⟩, ⟨(some 11), none, .mv (.t 13)⟩, ⟨(some 14), none, .ext 0 (.t 11)⟩, ⟨(some 15), none, .ext 1 (.t 11)⟩, ⟨(some 5), none, .boxz [(.bool false), (.str [])]⟩, ⟨none, none, .store 2 (.t 5) (.t 14)⟩, ⟨(some 6), none, .mv (.t 15)⟩])
  (.seq (.region [⟨(some 17), none, .mv (.t 1)⟩, ⟨(some 18), none, .call i_validator_Parse [(.t 17)]⟩, ⟨(some 16), none, .mv (.t 18)⟩, ⟨(some 19), none, .ext 0 (.t 16)⟩, ⟨(some 20), none, .ext 1 (.t 16)⟩, ⟨(some 7), none, .boxz [(.bool false), (.str [])]⟩, ⟨none, none, .store 2 (.t 7) (.t 19)⟩, ⟨(some 8), none, .mv (.t 20)⟩])
  (.seq (.region [⟨(some 22), none, .call i_validator_Parse [(.c (.str [87, 47, 34, 34]))]⟩, ⟨(some 21), none, .mv (.t 22)⟩, ⟨(some 23), none, .ext 0 (.t 21)⟩, ⟨(some 24), none, .ext 1 (.t 21)⟩, ⟨(some 9), none, .boxz [(.bool false), (.str [])]⟩, ⟨none, none, .store 2 (.t 9) (.t 23)⟩, ⟨(some 10), none, .mv (.t 24)⟩])
  (.seq (.seq (.region [⟨(some 25), none, .mv (.t 10)⟩, ⟨(some 26), none, .un .not (.t 25)⟩, ⟨(some 27), none, .mv (.t 26)⟩, ⟨(some 28), (some (27, false)), .load true 2 (.t 9)⟩, ⟨(some 29), (some (27, false)), .load true 2 (.t 9)⟩, ⟨(some 30), (some (27, false)), .call i_validator_Strong [(.t 28), (.t 29)]⟩, ⟨(some 31), none, .pick (.t 27) (.c (.bool true)) (.t 30)⟩, ⟨(some 32), none, .mv (.t 31)⟩, ⟨(some 33), (some (32, false)), .load true 2 (.t 9)⟩, ⟨(some 34), (some (32, false)), .load true 2 (.t 9)⟩, ⟨(some 35), (some (32, false)), .call i_validator_Weak [(.t 33), (.t 34)]⟩, ⟨(some 36), (some (32, false)), .un .not (.t 35)⟩, ⟨(some 37), none, .pick (.t 32) (.c (.bool true)) (.t 36)⟩])
  (.cond (.t 37)
    (.seq (.region [⟨(some 4), none, .mv (.c (.bool false))⟩])
    .ret)
    .skip))
  (.seq (.seq (.region [⟨(some 38), none, .mv (.t 6)⟩, ⟨(some 39), none, .un .not (.t 38)⟩, ⟨(some 40), none, .mv (.t 39)⟩, ⟨(some 41), (some (40, false)), .mv (.t 8)⟩, ⟨(some 42), (some (40, false)), .un .not (.t 41)⟩, ⟨(some 43), none, .pick (.t 40) (.c (.bool true)) (.t 42)⟩])
  (.cond (.t 43)
    (.seq (.region [⟨(some 4), none, .mv (.c (.bool true))⟩])
    .ret)
    .skip))
  (.seq (.seq (.region [⟨(some 44), none, .load true 2 (.t 5)⟩, ⟨(some 45), none, .load true 2 (.t 7)⟩, ⟨(some 46), none, .call i_validator_Strong [(.t 44), (.t 45)]⟩, ⟨(some 47), none, .mv (.t 46)⟩, ⟨(some 48), (some (47, true)), .load true 2 (.t 5)⟩, ⟨(some 49), (some (47, true)), .load true 2 (.t 7)⟩, ⟨(some 50), (some (47, true)), .call i_validator_Weak [(.t 48), (.t 49)]⟩, ⟨(some 51), (some (47, true)), .un .not (.t 50)⟩, ⟨(some 52), (some (47, true)), .mv (.t 51)⟩, ⟨(some 53), (some (52, false)), .faddr 0 (.t 5)⟩, ⟨(some 54), (some (52, false)), .load false 1 (.t 53)⟩, ⟨(some 55), (some (47, true)), .pick (.t 52) (.c (.bool true)) (.t 54)⟩, ⟨(some 56), (some (47, true)), .mv (.t 55)⟩, ⟨(some 57), (some (56, false)), .faddr 0 (.t 7)⟩, ⟨(some 58), (some (56, false)), .load false 1 (.t 57)⟩, ⟨(some 59), (some (47, true)), .pick (.t 56) (.c (.bool true)) (.t 58)⟩, ⟨(some 60), (some (47, true)), .mv (.t 59)⟩, ⟨(some 61), (some (60, false)), .mv (.t 0)⟩, ⟨(some 62), (some (60, false)), .mv (.t 1)⟩, ⟨(some 63), (some (60, false)), .bin .neq (.t 61) (.t 62)⟩, ⟨(some 64), (some (47, true)), .pick (.t 60) (.c (.bool true)) (.t 63)⟩, ⟨(some 65), none, .pick (.t 47) (.t 64) (.c (.bool false))⟩])
  (.cond (.t 65)
    (.seq (.region [⟨(some 4), none, .mv (.c (.bool false))⟩])
    .ret)
    .skip))
  (.seq (.dregion [⟨(some 66), none, .load true 2 (.t 5)⟩, ⟨(some 67), none, .load true 2 (.t 7)⟩, ⟨(some 68), none, .call i_validator_Strong [(.t 66), (.t 67)]⟩, ⟨(some 69), none, .load true 2 (.t 7)⟩, ⟨(some 70), none, .load true 2 (.t 5)⟩, ⟨(some 71), none, .call i_validator_Strong [(.t 69), (.t 70)]⟩, ⟨(some 72), none, .eq .bool false (.t 68) (.t 71)⟩, ⟨(some 73), none, .mv (.t 72)⟩, ⟨(some 74), (some (73, true)), .load true 2 (.t 5)⟩, ⟨(some 75), (some (73, true)), .load true 2 (.t 7)⟩, ⟨(some 76), (some (73, true)), .call i_validator_Weak [(.t 74), (.t 75)]⟩, ⟨(some 77), (some (73, true)), .load true 2 (.t 7)⟩, ⟨(some 78), (some (73, true)), .load true 2 (.t 5)⟩, ⟨(some 79), (some (73, true)), .call i_validator_Weak [(.t 77), (.t 78)]⟩, ⟨(some 80), (some (73, true)), .eq .bool false (.t 76) (.t 79)⟩, ⟨(some 81), none, .pick (.t 73) (.t 80) (.c (.bool false))⟩, ⟨(some 82), none, .mv (.t 81)⟩, ⟨(some 83), (some (82, true)), .load true 2 (.t 5)⟩, ⟨(some 84), (some (82, true)), .load true 2 (.t 5)⟩, ⟨(some 85), (some (82, true)), .call i_validator_Weak [(.t 83), (.t 84)]⟩, ⟨(some 86), none, .pick (.t 82) (.t 85) (.c (.bool false))⟩, ⟨(some 87), none, .mv (.t 86)⟩, ⟨(some 88), (some (87, true)), .load true 2 (.t 5)⟩, ⟨(some 89), (some (87, true)), .load true 2 (.t 5)⟩, ⟨(some 90), (some (87, true)), .call i_validator_Strong [(.t 88), (.t 89)]⟩, ⟨(some 91), (some (87, true)), .faddr 0 (.t 5)⟩, ⟨(some 92), (some (87, true)), .load false 1 (.t 91)⟩] [⟨(some 93), (some (87, true)), .eq .bool true (.t 90) (.t 92)⟩, ⟨(some 94), none, .pick (.t 87) (.t 93) (.c (.bool false))⟩, ⟨(some 4), none, .mv (.t 94)⟩])
  .ret))))))))⟩
/-- gatepost/validator.Parse -/
def c_validator_Parse : FnC := ⟨59, [.cell 2 true 2, .tmp 3],
  (.seq (.region [⟨(some 2), none, .boxz [(.bool false), (.str [])]⟩, ⟨(some 3), none, .mv (.c (.bool false))⟩])
  (.seq (.region [⟨(some 11), none, .mv (.t 0)⟩, ⟨(some 12), none, .call i_strings_CutPrefix [(.t 11), (.c (.str [87, 47]))]⟩, ⟨(some 10), none, .mv (.t 12)⟩, ⟨(some 13), none, .ext 0 (.t 10)⟩, ⟨(some 14), none, .ext 1 (.t 10)⟩, ⟨(some 0), none, .mv (.t 13)⟩, ⟨(some 4), none, .mv (.t 14)⟩])
  (.seq (.region [⟨(some 16), none, .mv (.t 0)⟩, ⟨(some 17), none, .call i_strings_CutPrefix [(.t 16), (.c (.str [34]))]⟩, ⟨(some 15), none, .mv (.t 17)⟩, ⟨(some 18), none, .ext 0 (.t 15)⟩, ⟨(some 19), none, .ext 1 (.t 15)⟩, ⟨(some 5), none, .mv (.t 18)⟩, ⟨(some 6), none, .mv (.t 19)⟩])
  (.seq (.region [⟨(some 21), none, .mv (.t 5)⟩, ⟨(some 22), none, .call i_strings_CutSuffix [(.t 21), (.c (.str [34]))]⟩, ⟨(some 20), none, .mv (.t 22)⟩, ⟨(some 23), none, .ext 0 (.t 20)⟩, ⟨(some 24), none, .ext 1 (.t 20)⟩, ⟨(some 5), none, .mv (.t 23)⟩, ⟨(some 7), none, .mv (.t 24)⟩])
  (.seq (.seq (.region [⟨(some 25), none, .mv (.t 6)⟩, ⟨(some 26), none, .un .not (.t 25)⟩, ⟨(some 27), none, .mv (.t 26)⟩, ⟨(some 28), (some (27, false)), .mv (.t 7)⟩, ⟨(some 29), (some (27, false)), .un .not (.t 28)⟩, ⟨(some 30), none, .pick (.t 27) (.c (.bool true)) (.t 29)⟩])
  (.cond (.t 30)
    (.seq (.region [⟨(some 31), none, .build [(.bool false), (.str [])] []⟩, ⟨none, none, .store 2 (.t 2) (.t 31)⟩, ⟨(some 3), none, .mv (.c (.bool false))⟩])
    .ret)
    .skip))
  (.seq (.seq (.region [⟨(some 32), none, .mv (.t 5)⟩, ⟨(some 33), none, .len 0 (.t 32)⟩, ⟨(some 34), none, .mv (.c (.int .i64 0))⟩])
  (.block 0 (.loop
    (.seq (.region [⟨(some 35), none, .bin .lss (.t 34) (.t 33)⟩])
    (.seq (.cond (.t 35)
      .skip
      (.exit 0))
    (.seq (.block 1 (.seq (.region [⟨(some 36), none, .mv (.t 34)⟩, ⟨(some 8), none, .mv (.t 36)⟩])
    (.seq (.region [⟨(some 37), none, .mv (.t 5)⟩, ⟨(some 38), none, .mv (.t 8)⟩, ⟨(some 39), none, .ixStr (.t 37) (.t 38)⟩, ⟨(some 9), none, .mv (.t 39)⟩])
    (.seq (.region [⟨(some 40), none, .mv (.t 9)⟩, ⟨(some 41), none, .bin .leq (.t 40) (.c (.int .u8 32))⟩, ⟨(some 42), none, .mv (.t 41)⟩, ⟨(some 43), (some (42, false)), .mv (.t 9)⟩, ⟨(some 44), (some (42, false)), .bin .eql (.t 43) (.c (.int .u8 34))⟩, ⟨(some 45), none, .pick (.t 42) (.c (.bool true)) (.t 44)⟩, ⟨(some 46), none, .mv (.t 45)⟩, ⟨(some 47), (some (46, false)), .mv (.t 9)⟩, ⟨(some 48), (some (46, false)), .bin .eql (.t 47) (.c (.int .u8 92))⟩, ⟨(some 49), none, .pick (.t 46) (.c (.bool true)) (.t 48)⟩, ⟨(some 50), none, .mv (.t 49)⟩, ⟨(some 51), (some (50, false)), .mv (.t 9)⟩, ⟨(some 52), (some (50, false)), .bin .eql (.t 51) (.c (.int .u8 127))⟩, ⟨(some 53), none, .pick (.t 50) (.c (.bool true)) (.t 52)⟩])
    (.cond (.t 53)
      (.seq (.region [⟨(some 54), none, .build [(.bool false), (.str [])] []⟩, ⟨none, none, .store 2 (.t 2) (.t 54)⟩, ⟨(some 3), none, .mv (.c (.bool false))⟩])
      .ret)
      .skip)))))
    (.region [⟨(some 55), none, .bin .add (.t 34) (.c (.int .i64 1))⟩, ⟨(some 34), none, .mv (.t 55)⟩])))))))
  (.seq (.region [⟨(some 56), none, .mv (.t 4)⟩, ⟨(some 57), none, .mv (.t 5)⟩, ⟨(some 58), none, .build [(.bool false), (.str [])] [(0, 1, (.t 56)), (1, 1, (.t 57))]⟩, ⟨none, none, .store 2 (.t 2) (.t 58)⟩, ⟨(some 3), none, .mv (.c (.bool true))⟩])
  .ret)))))))⟩
/-- gatepost/gatepostref12.Parse -/
def c_gatepostref12_Parse : FnC := ⟨77, [.cell 2 true 2, .tmp 3],
  (.seq (.region [⟨(some 2), none, .boxz [(.bool false), (.str [])]⟩, ⟨(some 3), none, .mv (.c (.bool false))⟩])
  (.seq (.region [⟨(some 6), none, .build [(.bool false), (.str [])] []⟩, ⟨(some 4), none, .boxz [(.bool false), (.str [])]⟩, ⟨none, none, .store 2 (.t 4) (.t 6)⟩])
  (.seq (.seq (.region [⟨(some 7), none, .mv (.t 0)⟩, ⟨(some 8), none, .len 0 (.t 7)⟩, ⟨(some 9), none, .bin .gtr (.t 8) (.c (.int .i64 2))⟩, ⟨(some 10), none, .mv (.t 9)⟩, ⟨(some 11), (some (10, true)), .mv (.t 0)⟩, ⟨(some 12), (some (10, true)), .ixStr (.t 11) (.c (.int .i64 0))⟩, ⟨(some 13), (some (10, true)), .bin .eql (.t 12) (.c (.int .u8 87))⟩, ⟨(some 14), none, .pick (.t 10) (.t 13) (.c (.bool false))⟩, ⟨(some 15), none, .mv (.t 14)⟩, ⟨(some 16), (some (15, true)), .mv (.t 0)⟩, ⟨(some 17), (some (15, true)), .ixStr (.t 16) (.c (.int .i64 1))⟩, ⟨(some 18), (some (15, true)), .bin .eql (.t 17) (.c (.int .u8 47))⟩, ⟨(some 19), none, .pick (.t 15) (.t 18) (.c (.bool false))⟩])
  (.cond (.t 19)
    (.seq (.region [⟨(some 20), none, .faddr 0 (.t 4)⟩, ⟨none, none, .store 1 (.t 20) (.c (.bool true))⟩])
    (.region [⟨(some 21), none, .mv (.t 0)⟩, ⟨(some 22), none, .slstr (.t 21) (some (.c (.int .i64 2))) none⟩, ⟨(some 0), none, .mv (.t 22)⟩]))
    .skip))
  (.seq (.seq (.region [⟨(some 23), none, .mv (.t 0)⟩, ⟨(some 24), none, .len 0 (.t 23)⟩, ⟨(some 25), none, .bin .lss (.t 24) (.c (.int .i64 2))⟩, ⟨(some 26), none, .mv (.t 25)⟩, ⟨(some 27), (some (26, false)), .mv (.t 0)⟩, ⟨(some 28), (some (26, false)), .ixStr (.t 27) (.c (.int .i64 0))⟩, ⟨(some 29), (some (26, false)), .bin .neq (.t 28) (.c (.int .u8 34))⟩, ⟨(some 30), none, .pick (.t 26) (.c (.bool true)) (.t 29)⟩, ⟨(some 31), none, .mv (.t 30)⟩, ⟨(some 32), (some (31, false)), .mv (.t 0)⟩, ⟨(some 33), (some (31, false)), .mv (.t 0)⟩, ⟨(some 34), (some (31, false)), .len 0 (.t 33)⟩, ⟨(some 35), (some (31, false)), .bin .sub (.t 34) (.c (.int .i64 1))⟩, ⟨(some 36), (some (31, false)), .ixStr (.t 32) (.t 35)⟩, ⟨(some 37), (some (31, false)), .bin .neq (.t 36) (.c (.int .u8 34))⟩, ⟨(some 38), none, .pick (.t 31) (.c (.bool true)) (.t 37)⟩])
  (.cond (.t 38)
    (.seq (.region [⟨(some 39), none, .build [(.bool false), (.str [])] []⟩, ⟨none, none, .store 2 (.t 2) (.t 39)⟩, ⟨(some 3), none, .mv (.c (.bool false))⟩])
    .ret)
    .skip))
  (.seq (.seq (.region [⟨(some 5), none, .mv (.c (.int .i64 1))⟩])
  (.block 0 (.loop
    (.seq (.seq (.region [⟨(some 40), none, .mv (.t 5)⟩, ⟨(some 41), none, .mv (.t 0)⟩, ⟨(some 42), none, .len 0 (.t 41)⟩, ⟨(some 43), none, .bin .sub (.t 42) (.c (.int .i64 1))⟩, ⟨(some 44), none, .bin .lss (.t 40) (.t 43)⟩])
    (.cond (.t 44)
      .skip
      (.exit 0)))
    (.seq (.block 1 (.seq (.region [⟨(some 47), none, .mv (.t 0)⟩, ⟨(some 48), none, .mv (.t 5)⟩, ⟨(some 49), none, .ixStr (.t 47) (.t 48)⟩, ⟨(some 50), none, .bin .lss (.t 49) (.c (.int .u8 33))⟩, ⟨(some 51), none, .mv (.t 50)⟩, ⟨(some 52), (some (51, false)), .mv (.t 0)⟩, ⟨(some 53), (some (51, false)), .mv (.t 5)⟩, ⟨(some 54), (some (51, false)), .ixStr (.t 52) (.t 53)⟩, ⟨(some 55), (some (51, false)), .bin .eql (.t 54) (.c (.int .u8 34))⟩, ⟨(some 56), none, .pick (.t 51) (.c (.bool true)) (.t 55)⟩, ⟨(some 57), none, .mv (.t 56)⟩, ⟨(some 58), (some (57, false)), .mv (.t 0)⟩, ⟨(some 59), (some (57, false)), .mv (.t 5)⟩, ⟨(some 60), (some (57, false)), .ixStr (.t 58) (.t 59)⟩, ⟨(some 61), (some (57, false)), .bin .eql (.t 60) (.c (.int .u8 92))⟩, ⟨(some 62), none, .pick (.t 57) (.c (.bool true)) (.t 61)⟩, ⟨(some 63), none, .mv (.t 62)⟩, ⟨(some 64), (some (63, false)), .mv (.t 0)⟩, ⟨(some 65), (some (63, false)), .mv (.t 5)⟩, ⟨(some 66), (some (63, false)), .ixStr (.t 64) (.t 65)⟩, ⟨(some 67), (some (63, false)), .bin .eql (.t 66) (.c (.int .u8 127))⟩, ⟨(some 68), none, .pick (.t 63) (.c (.bool true)) (.t 67)⟩])
    (.cond (.t 68)
      (.seq (.region [⟨(some 69), none, .build [(.bool false), (.str [])] []⟩, ⟨none, none, .store 2 (.t 2) (.t 69)⟩, ⟨(some 3), none, .mv (.c (.bool false))⟩])
      .ret)
      .skip)))
    (.region [⟨(some 45), none, .mv (.t 5)⟩, ⟨(some 46), none, .bin .add (.t 45) (.c (.int .i64 1))⟩, ⟨(some 5), none, .mv (.t 46)⟩]))))))
  (.seq (.region [⟨(some 70), none, .mv (.t 0)⟩, ⟨(some 71), none, .mv (.t 0)⟩, ⟨(some 72), none, .len 0 (.t 71)⟩, ⟨(some 73), none, .bin .sub (.t 72) (.c (.int .i64 1))⟩, ⟨(some 74), none, .slstr (.t 70) (some (.c (.int .i64 1))) (some (.t 73))⟩, ⟨(some 75), none, .faddr 1 (.t 4)⟩, ⟨none, none, .store 1 (.t 75) (.t 74)⟩])
  (.seq (.region [⟨(some 76), none, .load true 2 (.t 4)⟩, ⟨none, none, .store 2 (.t 2) (.t 76)⟩, ⟨(some 3), none, .mv (.c (.bool true))⟩])
  .ret)))))))⟩
/-- gatepost/validator.Weak -/
def c_validator_Weak : FnC := ⟨10, [.tmp 4],
  (.seq (.region [⟨(some 2), none, .box (.t 0)⟩, ⟨(some 3), none, .box (.t 1)⟩, ⟨(some 4), none, .mv (.c (.bool false))⟩])
  (.seq (.region [⟨(some 5), none, .faddr 1 (.t 2)⟩, ⟨(some 6), none, .load false 1 (.t 5)⟩, ⟨(some 7), none, .faddr 1 (.t 3)⟩, ⟨(some 8), none, .load false 1 (.t 7)⟩, ⟨(some 9), none, .bin .eql (.t 6) (.t 8)⟩, ⟨(some 4), none, .mv (.t 9)⟩])
  .ret))⟩
/-- gatepost/validator.Strong -/
def c_validator_Strong : FnC := ⟨13, [.tmp 4],
  (.seq (.region [⟨(some 2), none, .box (.t 0)⟩, ⟨(some 3), none, .box (.t 1)⟩, ⟨(some 4), none, .mv (.c (.bool false))⟩])
  (.seq (.region [⟨(some 5), none, .load true 2 (.t 2)⟩, ⟨(some 6), none, .load true 2 (.t 3)⟩, ⟨(some 7), none, .eq (.agg [.b, .s]) false (.t 5) (.t 6)⟩, ⟨(some 8), none, .mv (.t 7)⟩, ⟨(some 9), (some (8, true)), .faddr 0 (.t 2)⟩, ⟨(some 10), (some (8, true)), .load false 1 (.t 9)⟩, ⟨(some 11), (some (8, true)), .un .not (.t 10)⟩, ⟨(some 12), none, .pick (.t 8) (.t 11) (.c (.bool false))⟩, ⟨(some 4), none, .mv (.t 12)⟩])
  .ret))⟩
/-- strings.CutPrefix -/
def c_strings_CutPrefix : FnC := ⟨11, [.tmp 4, .tmp 5],
  (.seq (.region [⟨(some 4), none, .mv (.c (.str []))⟩, ⟨(some 5), none, .mv (.c (.bool false))⟩])
  (.seq (.region [⟨(some 6), none, .mv (.t 0)⟩, ⟨(some 7), none, .mv (.t 1)⟩, ⟨(some 8), none, .call i_internal_stringslite_CutPrefix [(.t 6), (.t 7)]⟩, ⟨(some 9), none, .ext 0 (.t 8)⟩, ⟨(some 10), none, .ext 1 (.t 8)⟩, ⟨(some 4), none, .mv (.t 9)⟩, ⟨(some 5), none, .mv (.t 10)⟩])
  .ret))⟩
/-- strings.CutSuffix -/
def c_strings_CutSuffix : FnC := ⟨11, [.tmp 4, .tmp 5],
  (.seq (.region [⟨(some 4), none, .mv (.c (.str []))⟩, ⟨(some 5), none, .mv (.c (.bool false))⟩])
  (.seq (.region [⟨(some 6), none, .mv (.t 0)⟩, ⟨(some 7), none, .mv (.t 1)⟩, ⟨(some 8), none, .call i_internal_stringslite_CutSuffix [(.t 6), (.t 7)]⟩, ⟨(some 9), none, .ext 0 (.t 8)⟩, ⟨(some 10), none, .ext 1 (.t 8)⟩, ⟨(some 4), none, .mv (.t 9)⟩, ⟨(some 5), none, .mv (.t 10)⟩])
  .ret))⟩
/-- internal/stringslite.CutPrefix -/
def c_internal_stringslite_CutPrefix : FnC := ⟨15, [.tmp 4, .tmp 5],
  (.seq (.region [⟨(some 4), none, .mv (.c (.str []))⟩, ⟨(some 5), none, .mv (.c (.bool false))⟩])
  (.seq (.seq (.region [⟨(some 6), none, .mv (.t 0)⟩, ⟨(some 7), none, .mv (.t 1)⟩, ⟨(some 8), none, .call i_internal_stringslite_HasPrefix [(.t 6), (.t 7)]⟩, ⟨(some 9), none, .un .not (.t 8)⟩])
  (.cond (.t 9)
    (.seq (.region [⟨(some 10), none, .mv (.t 0)⟩, ⟨(some 4), none, .mv (.t 10)⟩, ⟨(some 5), none, .mv (.c (.bool false))⟩])
    .ret)
    .skip))
  (.seq (.region [⟨(some 11), none, .mv (.t 0)⟩, ⟨(some 12), none, .mv (.t 1)⟩, ⟨(some 13), none, .len 0 (.t 12)⟩, ⟨(some 14), none, .slstr (.t 11) (some (.t 13)) none⟩, ⟨(some 4), none, .mv (.t 14)⟩, ⟨(some 5), none, .mv (.c (.bool true))⟩])
  .ret)))⟩
/-- internal/stringslite.CutSuffix -/
def c_internal_stringslite_CutSuffix : FnC := ⟨18, [.tmp 4, .tmp 5],
  (.seq (.region [⟨(some 4), none, .mv (.c (.str []))⟩, ⟨(some 5), none, .mv (.c (.bool false))⟩])
  (.seq (.seq (.region [⟨(some 6), none, .mv (.t 0)⟩, ⟨(some 7), none, .mv (.t 1)⟩, ⟨(some 8), none, .call i_internal_stringslite_HasSuffix [(.t 6), (.t 7)]⟩, ⟨(some 9), none, .un .not (.t 8)⟩])
  (.cond (.t 9)
    (.seq (.region [⟨(some 10), none, .mv (.t 0)⟩, ⟨(some 4), none, .mv (.t 10)⟩, ⟨(some 5), none, .mv (.c (.bool false))⟩])
    .ret)
    .skip))
  (.seq (.region [⟨(some 11), none, .mv (.t 0)⟩, ⟨(some 12), none, .mv (.t 0)⟩, ⟨(some 13), none, .len 0 (.t 12)⟩, ⟨(some 14), none, .mv (.t 1)⟩, ⟨(some 15), none, .len 0 (.t 14)⟩, ⟨(some 16), none, .bin .sub (.t 13) (.t 15)⟩, ⟨(some 17), none, .slstr (.t 11) none (some (.t 16))⟩, ⟨(some 4), none, .mv (.t 17)⟩, ⟨(some 5), none, .mv (.c (.bool true))⟩])
  .ret)))⟩
/-- internal/stringslite.HasPrefix -/
def c_internal_stringslite_HasPrefix : FnC := ⟨18, [.tmp 4],
  (.seq (.region [⟨(some 4), none, .mv (.c (.bool false))⟩])
  (.seq (.region [⟨(some 5), none, .mv (.t 0)⟩, ⟨(some 6), none, .len 0 (.t 5)⟩, ⟨(some 7), none, .mv (.t 1)⟩, ⟨(some 8), none, .len 0 (.t 7)⟩, ⟨(some 9), none, .bin .geq (.t 6) (.t 8)⟩, ⟨(some 10), none, .mv (.t 9)⟩, ⟨(some 11), (some (10, true)), .mv (.t 0)⟩, ⟨(some 12), (some (10, true)), .mv (.t 1)⟩, ⟨(some 13), (some (10, true)), .len 0 (.t 12)⟩, ⟨(some 14), (some (10, true)), .slstr (.t 11) none (some (.t 13))⟩, ⟨(some 15), (some (10, true)), .mv (.t 1)⟩, ⟨(some 16), (some (10, true)), .bin .eql (.t 14) (.t 15)⟩, ⟨(some 17), none, .pick (.t 10) (.t 16) (.c (.bool false))⟩, ⟨(some 4), none, .mv (.t 17)⟩])
  .ret))⟩
/-- internal/stringslite.HasSuffix -/
def c_internal_stringslite_HasSuffix : FnC := ⟨21, [.tmp 4],
  (.seq (.region [⟨(some 4), none, .mv (.c (.bool false))⟩])
  (.seq (.region [⟨(some 5), none, .mv (.t 0)⟩, ⟨(some 6), none, .len 0 (.t 5)⟩, ⟨(some 7), none, .mv (.t 1)⟩, ⟨(some 8), none, .len 0 (.t 7)⟩, ⟨(some 9), none, .bin .geq (.t 6) (.t 8)⟩, ⟨(some 10), none, .mv (.t 9)⟩, ⟨(some 11), (some (10, true)), .mv (.t 0)⟩, ⟨(some 12), (some (10, true)), .mv (.t 0)⟩, ⟨(some 13), (some (10, true)), .len 0 (.t 12)⟩, ⟨(some 14), (some (10, true)), .mv (.t 1)⟩, ⟨(some 15), (some (10, true)), .len 0 (.t 14)⟩, ⟨(some 16), (some (10, true)), .bin .sub (.t 13) (.t 15)⟩, ⟨(some 17), (some (10, true)), .slstr (.t 11) (some (.t 16)) none⟩, ⟨(some 18), (some (10, true)), .mv (.t 1)⟩, ⟨(some 19), (some (10, true)), .bin .eql (.t 17) (.t 18)⟩, ⟨(some 20), none, .pick (.t 10) (.t 19) (.c (.bool false))⟩, ⟨(some 4), none, .mv (.t 20)⟩])
  .ret))⟩
def tab : List (FuncId × FnC) := [(i_gatepostlaw12_ValidatorTags, c_gatepostlaw12_ValidatorTags), (i_gatepostlaw12_ValidatorWeak, c_gatepostlaw12_ValidatorWeak), (i_validator_Parse, c_validator_Parse), (i_gatepostref12_Parse, c_gatepostref12_Parse), (i_validator_Weak, c_validator_Weak), (i_validator_Strong, c_validator_Strong), (i_strings_CutPrefix, c_strings_CutPrefix), (i_strings_CutSuffix, c_strings_CutSuffix), (i_internal_stringslite_CutPrefix, c_internal_stringslite_CutPrefix), (i_internal_stringslite_CutSuffix, c_internal_stringslite_CutSuffix), (i_internal_stringslite_HasPrefix, c_internal_stringslite_HasPrefix), (i_internal_stringslite_HasSuffix, c_internal_stringslite_HasSuffix)]
def F (f : FuncId) : Option FnC := tab.lookup f
theorem F_gatepostlaw12_ValidatorTags : F i_gatepostlaw12_ValidatorTags = some c_gatepostlaw12_ValidatorTags := rfl
theorem kc_gatepostlaw12_ValidatorTags : compF Try.prog i_gatepostlaw12_ValidatorTags = some c_gatepostlaw12_ValidatorTags := by kernel_rfl
theorem F_gatepostlaw12_ValidatorWeak : F i_gatepostlaw12_ValidatorWeak = some c_gatepostlaw12_ValidatorWeak := rfl
theorem kc_gatepostlaw12_ValidatorWeak : compF Try.prog i_gatepostlaw12_ValidatorWeak = some c_gatepostlaw12_ValidatorWeak := by kernel_rfl
theorem F_validator_Parse : F i_validator_Parse = some c_validator_Parse := rfl
theorem kc_validator_Parse : compF Try.prog i_validator_Parse = some c_validator_Parse := by kernel_rfl
theorem F_gatepostref12_Parse : F i_gatepostref12_Parse = some c_gatepostref12_Parse := rfl
theorem kc_gatepostref12_Parse : compF Try.prog i_gatepostref12_Parse = some c_gatepostref12_Parse := by kernel_rfl
theorem F_validator_Weak : F i_validator_Weak = some c_validator_Weak := rfl
theorem kc_validator_Weak : compF Try.prog i_validator_Weak = some c_validator_Weak := by kernel_rfl
theorem F_validator_Strong : F i_validator_Strong = some c_validator_Strong := rfl
theorem kc_validator_Strong : compF Try.prog i_validator_Strong = some c_validator_Strong := by kernel_rfl
theorem F_strings_CutPrefix : F i_strings_CutPrefix = some c_strings_CutPrefix := rfl
theorem kc_strings_CutPrefix : compF Try.prog i_strings_CutPrefix = some c_strings_CutPrefix := by kernel_rfl
theorem F_strings_CutSuffix : F i_strings_CutSuffix = some c_strings_CutSuffix := rfl
theorem kc_strings_CutSuffix : compF Try.prog i_strings_CutSuffix = some c_strings_CutSuffix := by kernel_rfl
theorem F_internal_stringslite_CutPrefix : F i_internal_stringslite_CutPrefix = some c_internal_stringslite_CutPrefix := rfl
theorem kc_internal_stringslite_CutPrefix : compF Try.prog i_internal_stringslite_CutPrefix = some c_internal_stringslite_CutPrefix := by kernel_rfl
theorem F_internal_stringslite_CutSuffix : F i_internal_stringslite_CutSuffix = some c_internal_stringslite_CutSuffix := rfl
theorem kc_internal_stringslite_CutSuffix : compF Try.prog i_internal_stringslite_CutSuffix = some c_internal_stringslite_CutSuffix := by kernel_rfl
theorem F_internal_stringslite_HasPrefix : F i_internal_stringslite_HasPrefix = some c_internal_stringslite_HasPrefix := rfl
theorem kc_internal_stringslite_HasPrefix : compF Try.prog i_internal_stringslite_HasPrefix = some c_internal_stringslite_HasPrefix := by kernel_rfl
theorem F_internal_stringslite_HasSuffix : F i_internal_stringslite_HasSuffix = some c_internal_stringslite_HasSuffix := rfl
theorem kc_internal_stringslite_HasSuffix : compF Try.prog i_internal_stringslite_HasSuffix = some c_internal_stringslite_HasSuffix := by kernel_rfl
def p_gatepostlaw12_ValidatorTags (L : FuncId → List V → V → Prop) (K : V → Heap → Prop) (a0 a1 : V) (h : Heap) : Prop :=
    (wi F L (.call i_validator_Parse [(.c a0)]) E0 h fun v17 h =>
    (wi F L (.ext 0 (.c v17)) E0 h fun v18 h =>
    (wi F L (.ext 1 (.c v17)) E0 h fun v19 h =>
    (wi F L (.boxz [(.bool false), (.str [])]) E0 h fun v5 h =>
    (wi F L (.store 2 (.c v5) (.c v18)) E0 h fun _ h =>
    (wi F L (.call i_gatepostref12_Parse [(.c a0)]) E0 h fun v22 h =>
    (wi F L (.ext 0 (.c v22)) E0 h fun v23 h =>
    (wi F L (.ext 1 (.c v22)) E0 h fun v24 h =>
    (wi F L (.boxz [(.bool false), (.str [])]) E0 h fun v7 h =>
    (wi F L (.store 2 (.c v7) (.c v23)) E0 h fun _ h =>
    (wi F L (.call i_validator_Parse [(.c a1)]) E0 h fun v27 h =>
    (wi F L (.ext 0 (.c v27)) E0 h fun v28 h =>
    (wi F L (.ext 1 (.c v27)) E0 h fun v29 h =>
    (wi F L (.boxz [(.bool false), (.str [])]) E0 h fun v9 h =>
    (wi F L (.store 2 (.c v9) (.c v28)) E0 h fun _ h =>
    (wi F L (.call i_gatepostref12_Parse [(.c a1)]) E0 h fun v32 h =>
    (wi F L (.ext 0 (.c v32)) E0 h fun v33 h =>
    (wi F L (.ext 1 (.c v32)) E0 h fun v34 h =>
    (wi F L (.boxz [(.bool false), (.str [])]) E0 h fun v11 h =>
    (wi F L (.store 2 (.c v11) (.c v33)) E0 h fun _ h =>
    (wi F L (.call i_validator_Parse [(.c (.str [87, 47, 34, 97, 34]))]) E0 h fun v36 h =>
    (wi F L (.ext 0 (.c v36)) E0 h fun v37 h =>
    (wi F L (.ext 1 (.c v36)) E0 h fun v38 h =>
    (wi F L (.boxz [(.bool false), (.str [])]) E0 h fun v13 h =>
    (wi F L (.store 2 (.c v13) (.c v37)) E0 h fun _ h =>
    (wi F L (.load true 2 (.c v5)) E0 h fun v39 h' => Ext h h' ∧
    (wi F L (.load true 2 (.c v7)) E0 h' fun v40 h => Ext h' h ∧
    (wi F L (.eq (.agg [.b, .s]) false (.c v39) (.c v40)) E0 h fun v41 h' => Ext h h' ∧
    (wgd v41 true (wi F L (.mv (.c v19)) E0 h') h' fun v43 h =>
    (wgd v41 true (wi F L (.mv (.c v24)) E0 h) h fun v44 h' =>
    (wgd v41 true (wi F L (.eq .bool false (.c v43) (.c v44)) E0 h') h' fun v45 h =>
    (wi F L (.pick (.c v41) (.c v45) (.c (.bool false))) E0 h fun v46 h' => Ext h h' ∧
    (wgd v46 true (wi F L (.load true 2 (.c v9)) E0 h') h' fun v48 h =>
    (wgd v46 true (wi F L (.load true 2 (.c v11)) E0 h) h fun v49 h' =>
    (wgd v46 true (wi F L (.eq (.agg [.b, .s]) false (.c v48) (.c v49)) E0 h') h' fun v50 h =>
    (wi F L (.pick (.c v46) (.c v50) (.c (.bool false))) E0 h fun v51 h' => Ext h h' ∧
    (wgd v51 true (wi F L (.load true 2 (.c v5)) E0 h') h' fun v53 h =>
    (wgd v51 true (wi F L (.load true 2 (.c v9)) E0 h) h fun v54 h' =>
    (wgd v51 true (wi F L (.call i_validator_Weak [(.c v53), (.c v54)]) E0 h') h' fun v55 h =>
    (wgd v51 true (wi F L (.faddr 1 (.c v7)) E0 h) h fun v56 h' =>
    (wgd v51 true (wi F L (.load false 1 (.c v56)) E0 h') h' fun v57 h =>
    (wgd v51 true (wi F L (.faddr 1 (.c v11)) E0 h) h fun v58 h' =>
    (wgd v51 true (wi F L (.load false 1 (.c v58)) E0 h') h' fun v59 h =>
    (wgd v51 true (wi F L (.bin .eql (.c v57) (.c v59)) E0 h) h fun v60 h' =>
    (wgd v51 true (wi F L (.eq .bool false (.c v55) (.c v60)) E0 h') h' fun v61 h =>
    (wi F L (.pick (.c v51) (.c v61) (.c (.bool false))) E0 h fun v62 h' => Ext h h' ∧
    (wgd v62 true (wi F L (.load true 2 (.c v5)) E0 h') h' fun v64 h =>
    (wgd v62 true (wi F L (.load true 2 (.c v9)) E0 h) h fun v65 h' =>
    (wgd v62 true (wi F L (.call i_validator_Strong [(.c v64), (.c v65)]) E0 h') h' fun v66 h =>
    (wgd v62 true (wi F L (.load true 2 (.c v7)) E0 h) h fun v67 h' =>
    (wgd v62 true (wi F L (.load true 2 (.c v11)) E0 h') h' fun v68 h =>
    (wgd v62 true (wi F L (.eq (.agg [.b, .s]) false (.c v67) (.c v68)) E0 h) h fun v69 h' =>
    (wg v62 true (wi F L (.mv (.c v69)) E0 h') h' fun v70 h =>
    (wg v70 true (wi F L (.faddr 0 (.c v7)) E0 h) h fun v71 h =>
    (wg v70 true (wi F L (.load false 1 (.c v71)) E0 h) h fun v72 h =>
    (wg v70 true (wi F L (.un .not (.c v72)) E0 h) h fun v73 h =>
    (wg v62 true (wi F L (.pick (.c v70) (.c v73) (.c (.bool false))) E0 h) h fun v74 h =>
    (wg v62 true (wi F L (.eq .bool false (.c v66) (.c v74)) E0 h) h fun v75 h =>
    (wi F L (.pick (.c v62) (.c v75) (.c (.bool false))) E0 h fun v76 h =>
    (wg v76 true (wi F L (.faddr 0 (.c v13)) E0 h) h fun v78 h =>
    (wg v76 true (wi F L (.load false 1 (.c v78)) E0 h) h fun v79 h =>
    (wi F L (.pick (.c v76) (.c v79) (.c (.bool false))) E0 h fun v80 h =>
    (wg v80 true (wi F L (.faddr 1 (.c v13)) E0 h) h fun v82 h =>
    (wg v80 true (wi F L (.load false 1 (.c v82)) E0 h) h fun v83 h =>
    (wg v80 true (wi F L (.bin .eql (.c v83) (.c (.str [97]))) E0 h) h fun v84 h =>
    (wi F L (.pick (.c v80) (.c v84) (.c (.bool false))) E0 h fun v85 h =>
    (wg v85 true (wi F L (.mv (.c v38)) E0 h) h fun v87 h =>
    (wi F L (.pick (.c v85) (.c v87) (.c (.bool false))) E0 h fun v88 h =>
    (∃ v, some v88 = some v ∧ K v h)))))))))))))))))))))))))))))))))))))))))))))))))))))))))))))))))))))
theorem run_gatepostlaw12_ValidatorTags {L : FuncId → List V → V → Prop} {K : V → Heap → Prop} {a0 a1 : V} {h : Heap} (hp : p_gatepostlaw12_ValidatorTags L K a0 a1 h) : Cf F L i_gatepostlaw12_ValidatorTags [a0, a1] h K :=
  wcallp F_gatepostlaw12_ValidatorTags (show 2 ≤ 89 by decide) (p := p_gatepostlaw12_ValidatorTags L K a0 a1 h) (by kernel_rfl) hp
def k_gatepostlaw12_ValidatorWeak_2 (L : FuncId → List V → V → Prop) (K : V → Heap → Prop) (v5 v7 : V) (h : Heap) : Prop :=
    (wi F L (.load true 2 (.c v5)) E0 h fun v66 h' => Ext h h' ∧
    (wi F L (.load true 2 (.c v7)) E0 h' fun v67 h => Ext h' h ∧
    (wi F L (.call i_validator_Strong [(.c v66), (.c v67)]) E0 h fun v68 h' => Ext h h' ∧
    (wi F L (.load true 2 (.c v7)) E0 h' fun v69 h => Ext h' h ∧
    (wi F L (.load true 2 (.c v5)) E0 h fun v70 h' => Ext h h' ∧
    (wi F L (.call i_validator_Strong [(.c v69), (.c v70)]) E0 h' fun v71 h => Ext h' h ∧
    (wi F L (.eq .bool false (.c v68) (.c v71)) E0 h fun v72 h' => Ext h h' ∧
    (wgd v72 true (wi F L (.load true 2 (.c v5)) E0 h') h' fun v74 h =>
    (wgd v72 true (wi F L (.load true 2 (.c v7)) E0 h) h fun v75 h' =>
    (wgd v72 true (wi F L (.call i_validator_Weak [(.c v74), (.c v75)]) E0 h') h' fun v76 h =>
    (wgd v72 true (wi F L (.load true 2 (.c v7)) E0 h) h fun v77 h' =>
    (wgd v72 true (wi F L (.load true 2 (.c v5)) E0 h') h' fun v78 h =>
    (wgd v72 true (wi F L (.call i_validator_Weak [(.c v77), (.c v78)]) E0 h) h fun v79 h' =>
    (wgd v72 true (wi F L (.eq .bool false (.c v76) (.c v79)) E0 h') h' fun v80 h =>
    (wi F L (.pick (.c v72) (.c v80) (.c (.bool false))) E0 h fun v81 h' => Ext h h' ∧
    (wgd v81 true (wi F L (.load true 2 (.c v5)) E0 h') h' fun v83 h =>
    (wgd v81 true (wi F L (.load true 2 (.c v5)) E0 h) h fun v84 h' =>
    (wgd v81 true (wi F L (.call i_validator_Weak [(.c v83), (.c v84)]) E0 h') h' fun v85 h =>
    (wi F L (.pick (.c v81) (.c v85) (.c (.bool false))) E0 h fun v86 h' => Ext h h' ∧
    (wgd v86 true (wi F L (.load true 2 (.c v5)) E0 h') h' fun v88 h =>
    (wgd v86 true (wi F L (.load true 2 (.c v5)) E0 h) h fun v89 h' =>
    (wgd v86 true (wi F L (.call i_validator_Strong [(.c v88), (.c v89)]) E0 h') h' fun v90 h =>
    (wgd v86 true (wi F L (.faddr 0 (.c v5)) E0 h) h fun v91 h' =>
    (wgd v86 true (wi F L (.load false 1 (.c v91)) E0 h') h' fun v92 h =>
    (wg v86 true (wi F L (.eq .bool true (.c v90) (.c v92)) E0 h) h fun v93 h =>
    (wi F L (.pick (.c v86) (.c v93) (.c (.bool false))) E0 h fun v94 h =>
    (∃ v, some v94 = some v ∧ K v h)))))))))))))))))))))))))))
def k_gatepostlaw12_ValidatorWeak_1 (L : FuncId → List V → V → Prop) (K : V → Heap → Prop) (v0 v1 v5 v7 : V) (h : Heap) : Prop :=
    (wi F L (.load true 2 (.c v5)) E0 h fun v44 h =>
    (wi F L (.load true 2 (.c v7)) E0 h fun v45 h =>
    (wi F L (.call i_validator_Strong [(.c v44), (.c v45)]) E0 h fun v46 h =>
    (wg v46 true (wi F L (.load true 2 (.c v5)) E0 h) h fun v48 h =>
    (wg v46 true (wi F L (.load true 2 (.c v7)) E0 h) h fun v49 h =>
    (wg v46 true (wi F L (.call i_validator_Weak [(.c v48), (.c v49)]) E0 h) h fun v50 h =>
    (wg v46 true (wi F L (.un .not (.c v50)) E0 h) h fun v51 h =>
    (wg v46 true (wi F L (.mv (.c v51)) E0 h) h fun v52 h =>
    (wg v52 false (wi F L (.faddr 0 (.c v5)) E0 h) h fun v53 h =>
    (wg v52 false (wi F L (.load false 1 (.c v53)) E0 h) h fun v54 h =>
    (wg v46 true (wi F L (.pick (.c v52) (.c (.bool true)) (.c v54)) E0 h) h fun v55 h =>
    (wg v46 true (wi F L (.mv (.c v55)) E0 h) h fun v56 h =>
    (wg v56 false (wi F L (.faddr 0 (.c v7)) E0 h) h fun v57 h =>
    (wg v56 false (wi F L (.load false 1 (.c v57)) E0 h) h fun v58 h =>
    (wg v46 true (wi F L (.pick (.c v56) (.c (.bool true)) (.c v58)) E0 h) h fun v59 h =>
    (wg v46 true (wi F L (.mv (.c v59)) E0 h) h fun v60 h =>
    (wg v60 false (wi F L (.mv (.c v0)) E0 h) h fun v61 h =>
    (wg v60 false (wi F L (.mv (.c v1)) E0 h) h fun v62 h =>
    (wg v60 false (wi F L (.bin .neq (.c v61) (.c v62)) E0 h) h fun v63 h =>
    (wg v46 true (wi F L (.pick (.c v60) (.c (.bool true)) (.c v63)) E0 h) h fun v64 h =>
    (wi F L (.pick (.c v46) (.c v64) (.c (.bool false))) E0 h fun v65 h =>
    (wb v65
    (∃ v, some (.bool false) = some v ∧ K v h)
    (k_gatepostlaw12_ValidatorWeak_2 L K v5 v7 h)))))))))))))))))))))))
def k_gatepostlaw12_ValidatorWeak_0 (L : FuncId → List V → V → Prop) (K : V → Heap → Prop) (v0 v1 v5 v6 v7 v8 : V) (h : Heap) : Prop :=
    (wi F L (.un .not (.c v6)) E0 h fun v39 h =>
    (wg v39 false (wi F L (.mv (.c v8)) E0 h) h fun v41 h =>
    (wg v39 false (wi F L (.un .not (.c v41)) E0 h) h fun v42 h =>
    (wi F L (.pick (.c v39) (.c (.bool true)) (.c v42)) E0 h fun v43 h =>
    (wb v43
    (∃ v, some (.bool true) = some v ∧ K v h)
    (k_gatepostlaw12_ValidatorWeak_1 L K v0 v1 v5 v7 h))))))
def p_gatepostlaw12_ValidatorWeak (L : FuncId → List V → V → Prop) (K : V → Heap → Prop) (a0 a1 : V) (h : Heap) : Prop :=
    (wi F L (.call i_validator_Parse [(.c a0)]) E0 h fun v13 h =>
    (wi F L (.ext 0 (.c v13)) E0 h fun v14 h =>
    (wi F L (.ext 1 (.c v13)) E0 h fun v15 h =>
    (wi F L (.boxz [(.bool false), (.str [])]) E0 h fun v5 h =>
    (wi F L (.store 2 (.c v5) (.c v14)) E0 h fun _ h =>
    (wi F L (.call i_validator_Parse [(.c a1)]) E0 h fun v18 h =>
    (wi F L (.ext 0 (.c v18)) E0 h fun v19 h =>
    (wi F L (.ext 1 (.c v18)) E0 h fun v20 h =>
    (wi F L (.boxz [(.bool false), (.str [])]) E0 h fun v7 h =>
    (wi F L (.store 2 (.c v7) (.c v19)) E0 h fun _ h =>
    (wi F L (.call i_validator_Parse [(.c (.str [87, 47, 34, 34]))]) E0 h fun v22 h =>
    (wi F L (.ext 0 (.c v22)) E0 h fun v23 h =>
    (wi F L (.ext 1 (.c v22)) E0 h fun v24 h =>
    (wi F L (.boxz [(.bool false), (.str [])]) E0 h fun v9 h =>
    (wi F L (.store 2 (.c v9) (.c v23)) E0 h fun _ h =>
    (wi F L (.un .not (.c v24)) E0 h fun v26 h =>
    (wg v26 false (wi F L (.load true 2 (.c v9)) E0 h) h fun v28 h =>
    (wg v26 false (wi F L (.load true 2 (.c v9)) E0 h) h fun v29 h =>
    (wg v26 false (wi F L (.call i_validator_Strong [(.c v28), (.c v29)]) E0 h) h fun v30 h =>
    (wi F L (.pick (.c v26) (.c (.bool true)) (.c v30)) E0 h fun v31 h =>
    (wg v31 false (wi F L (.load true 2 (.c v9)) E0 h) h fun v33 h =>
    (wg v31 false (wi F L (.load true 2 (.c v9)) E0 h) h fun v34 h =>
    (wg v31 false (wi F L (.call i_validator_Weak [(.c v33), (.c v34)]) E0 h) h fun v35 h =>
    (wg v31 false (wi F L (.un .not (.c v35)) E0 h) h fun v36 h =>
    (wi F L (.pick (.c v31) (.c (.bool true)) (.c v36)) E0 h fun v37 h =>
    (wb v37
    (∃ v, some (.bool false) = some v ∧ K v h)
    (k_gatepostlaw12_ValidatorWeak_0 L K a0 a1 v5 v15 v7 v20 h)))))))))))))))))))))))))))
theorem run_gatepostlaw12_ValidatorWeak {L : FuncId → List V → V → Prop} {K : V → Heap → Prop} {a0 a1 : V} {h : Heap} (hp : p_gatepostlaw12_ValidatorWeak L K a0 a1 h) : Cf F L i_gatepostlaw12_ValidatorWeak [a0, a1] h K :=
  wcallp F_gatepostlaw12_ValidatorWeak (show 2 ≤ 95 by decide) (p := p_gatepostlaw12_ValidatorWeak L K a0 a1 h) (by kernel_rfl) hp
def k_validator_Parse_1 (L : FuncId → List V → V → Prop) (K : V → Heap → Prop) (v2 v4 v5 : V) (h : Heap) : Prop :=
    (wi F L (.build [(.bool false), (.str [])] [(0, 1, (.c v4)), (1, 1, (.c v5))]) E0 h fun v58 h =>
    (wi F L (.store 2 (.c v2) (.c v58)) E0 h fun _ h =>
    (∃ v, resultsV h (enterE [v2, (.bool true)]) [.cell 0 true 2, .tmp 1] = some v ∧ K v h)))
def k_validator_Parse_3 (L : FuncId → List V → V → Prop) (K : V → Heap → Prop) (N0 : Env → Heap → Prop) (e : Env) (v34 : V) (h : Heap) : Prop :=
    (wi F L (.bin .add (.c v34) (.c (.int .i64 1))) E0 h fun v55 h =>
    (N0 (upd (upd e 55 v55) 34 v55) h))
def k_validator_Parse_2 (L : FuncId → List V → V → Prop) (K : V → Heap → Prop) (N0 : Env → Heap → Prop) (e : Env) (v2 v5 v34 : V) (h : Heap) : Prop :=
    (wi F L (.ixStr (.c v5) (.c v34)) E0 h fun v39 h =>
    (wi F L (.bin .leq (.c v39) (.c (.int .u8 32))) E0 h fun v41 h =>
    (wg v41 false (wi F L (.mv (.c v39)) E0 h) h fun v43 h =>
    (wg v41 false (wi F L (.bin .eql (.c v43) (.c (.int .u8 34))) E0 h) h fun v44 h =>
    (wi F L (.pick (.c v41) (.c (.bool true)) (.c v44)) E0 h fun v45 h =>
    (wg v45 false (wi F L (.mv (.c v39)) E0 h) h fun v47 h =>
    (wg v45 false (wi F L (.bin .eql (.c v47) (.c (.int .u8 92))) E0 h) h fun v48 h =>
    (wi F L (.pick (.c v45) (.c (.bool true)) (.c v48)) E0 h fun v49 h =>
    (wg v49 false (wi F L (.mv (.c v39)) E0 h) h fun v51 h =>
    (wg v49 false (wi F L (.bin .eql (.c v51) (.c (.int .u8 127))) E0 h) h fun v52 h =>
    (wi F L (.pick (.c v49) (.c (.bool true)) (.c v52)) E0 h fun v53 h =>
    (wb v53
    (wi F L (.build [(.bool false), (.str [])] []) E0 h fun v54 h =>
    (wi F L (.store 2 (.c v2) (.c v54)) E0 h fun _ h =>
    (∃ v, resultsV h (enterE [v2, (.bool false)]) [.cell 0 true 2, .tmp 1] = some v ∧ K v h)))
    (k_validator_Parse_3 L K N0 (upd (upd (upd (upd (upd (upd (upd (upd (upd (upd (upd (upd (upd (upd (upd (upd (upd (upd (upd (upd e 36 v34) 8 v34) 37 v5) 38 v34) 39 v39) 9 v39) 40 v39) 41 v41) 42 v41) 43 v43) 44 v44) 45 v45) 46 v45) 47 v47) 48 v48) 49 v49) 50 v49) 51 v51) 52 v52) 53 v53) v34 h)))))))))))))
def q_validator_Parse_0 (L : FuncId → List V → V → Prop) (K : V → Heap → Prop) : X → Env → Heap → Prop := (fun x => (seqX (fun e h => k_validator_Parse_1 L K (e 2) (e 4) (e 5) h) (retX c_validator_Parse.results K)) (X.out 0 x))
def lc_validator_Parse_0 : C :=
  (.seq (.region [⟨(some 35), none, .bin .lss (.t 34) (.t 33)⟩])
  (.seq (.cond (.t 35)
    .skip
    (.exit 0))
  (.seq (.block 1 (.seq (.region [⟨(some 36), none, .mv (.t 34)⟩, ⟨(some 8), none, .mv (.t 36)⟩])
  (.seq (.region [⟨(some 37), none, .mv (.t 5)⟩, ⟨(some 38), none, .mv (.t 8)⟩, ⟨(some 39), none, .ixStr (.t 37) (.t 38)⟩, ⟨(some 9), none, .mv (.t 39)⟩])
  (.seq (.region [⟨(some 40), none, .mv (.t 9)⟩, ⟨(some 41), none, .bin .leq (.t 40) (.c (.int .u8 32))⟩, ⟨(some 42), none, .mv (.t 41)⟩, ⟨(some 43), (some (42, false)), .mv (.t 9)⟩, ⟨(some 44), (some (42, false)), .bin .eql (.t 43) (.c (.int .u8 34))⟩, ⟨(some 45), none, .pick (.t 42) (.c (.bool true)) (.t 44)⟩, ⟨(some 46), none, .mv (.t 45)⟩, ⟨(some 47), (some (46, false)), .mv (.t 9)⟩, ⟨(some 48), (some (46, false)), .bin .eql (.t 47) (.c (.int .u8 92))⟩, ⟨(some 49), none, .pick (.t 46) (.c (.bool true)) (.t 48)⟩, ⟨(some 50), none, .mv (.t 49)⟩, ⟨(some 51), (some (50, false)), .mv (.t 9)⟩, ⟨(some 52), (some (50, false)), .bin .eql (.t 51) (.c (.int .u8 127))⟩, ⟨(some 53), none, .pick (.t 50) (.c (.bool true)) (.t 52)⟩])
  (.cond (.t 53)
    (.seq (.region [⟨(some 54), none, .build [(.bool false), (.str [])] []⟩, ⟨none, none, .store 2 (.t 2) (.t 54)⟩, ⟨(some 3), none, .mv (.c (.bool false))⟩])
    .ret)
    .skip)))))
  (.region [⟨(some 55), none, .bin .add (.t 34) (.c (.int .i64 1))⟩, ⟨(some 34), none, .mv (.t 55)⟩]))))
def b_validator_Parse_0 (L : FuncId → List V → V → Prop) (K : V → Heap → Prop) (N0 : Env → Heap → Prop) (e : Env) (h : Heap) : Prop :=
    (wi F L (.bin .lss (.c (e 34)) (.c (e 33))) E0 h fun v35 h =>
    (wb v35
    (k_validator_Parse_2 L K N0 (upd e 35 v35) (e 2) (e 5) (e 34) h)
    (k_validator_Parse_1 L K (e 2) (e 4) (e 5) h)))
theorem l_validator_Parse_0 {L : FuncId → List V → V → Prop} {K : V → Heap → Prop} (I : Nat → Env → Heap → Prop) (hr : ∀ n e h, I n e h → b_validator_Parse_0 L K (fun e' h' => ∃ m, m < n ∧ I m e' h') e h) {n : Nat} {e : Env} {h : Heap} (hi : I n e h) : Wl F L lc_validator_Parse_0 (q_validator_Parse_0 L K) e h :=
  wloopp (b := b_validator_Parse_0 L K) I (fun _ _ _ => by kernel_rfl) hr hi
def k_validator_Parse_0 (L : FuncId → List V → V → Prop) (K : V → Heap → Prop) (e : Env) (v5 : V) (h : Heap) : Prop :=
    (wi F L (.len 0 (.c v5)) E0 h fun v33 h =>
    (Wl F L lc_validator_Parse_0 (q_validator_Parse_0 L K) (upd (upd (upd e 32 v5) 33 v33) 34 (.int .i64 0)) h))
def p_validator_Parse (L : FuncId → List V → V → Prop) (K : V → Heap → Prop) (a0 : V) (h : Heap) : Prop :=
    (wi F L (.boxz [(.bool false), (.str [])]) E0 h fun v2 h =>
    (wi F L (.call i_strings_CutPrefix [(.c a0), (.c (.str [87, 47]))]) E0 h fun v12 h =>
    (wi F L (.ext 0 (.c v12)) E0 h fun v13 h =>
    (wi F L (.ext 1 (.c v12)) E0 h fun v14 h =>
    (wi F L (.call i_strings_CutPrefix [(.c v13), (.c (.str [34]))]) E0 h fun v17 h =>
    (wi F L (.ext 0 (.c v17)) E0 h fun v18 h =>
    (wi F L (.ext 1 (.c v17)) E0 h fun v19 h =>
    (wi F L (.call i_strings_CutSuffix [(.c v18), (.c (.str [34]))]) E0 h fun v22 h =>
    (wi F L (.ext 0 (.c v22)) E0 h fun v23 h =>
    (wi F L (.ext 1 (.c v22)) E0 h fun v24 h =>
    (wi F L (.un .not (.c v19)) E0 h fun v26 h =>
    (wg v26 false (wi F L (.mv (.c v24)) E0 h) h fun v28 h =>
    (wg v26 false (wi F L (.un .not (.c v28)) E0 h) h fun v29 h =>
    (wi F L (.pick (.c v26) (.c (.bool true)) (.c v29)) E0 h fun v30 h =>
    (wb v30
    (wi F L (.build [(.bool false), (.str [])] []) E0 h fun v31 h =>
    (wi F L (.store 2 (.c v2) (.c v31)) E0 h fun _ h =>
    (∃ v, resultsV h (enterE [v2, (.bool false)]) [.cell 0 true 2, .tmp 1] = some v ∧ K v h)))
    (k_validator_Parse_0 L K (upd (upd (upd (upd (upd (upd (upd (upd (upd (upd (upd (upd (upd (upd (upd (upd (upd (upd (upd (upd (upd (upd (upd (upd (upd (upd (upd (upd (upd (enterE [a0]) 2 v2) 3 (.bool false)) 11 a0) 12 v12) 10 v12) 13 v13) 14 v14) 0 v13) 4 v14) 16 v13) 17 v17) 15 v17) 18 v18) 19 v19) 5 v18) 6 v19) 21 v18) 22 v22) 20 v22) 23 v23) 24 v24) 5 v23) 7 v24) 25 v19) 26 v26) 27 v26) 28 v28) 29 v29) 30 v30) v23 h))))))))))))))))
theorem run_validator_Parse {L : FuncId → List V → V → Prop} {K : V → Heap → Prop} {a0 : V} {h : Heap} (hp : p_validator_Parse L K a0 h) : Cf F L i_validator_Parse [a0] h K :=
  wcallp F_validator_Parse (show 1 ≤ 59 by decide) (p := p_validator_Parse L K a0 h) (by kernel_rfl) hp
def k_gatepostref12_Parse_2 (L : FuncId → List V → V → Prop) (K : V → Heap → Prop) (v0 v2 v4 : V) (h : Heap) : Prop :=
    (wi F L (.len 0 (.c v0)) E0 h fun v72 h =>
    (wi F L (.bin .sub (.c v72) (.c (.int .i64 1))) E0 h fun v73 h =>
    (wi F L (.slstr (.c v0) (some (.c (.int .i64 1))) (some (.c v73))) E0 h fun v74 h =>
    (wi F L (.faddr 1 (.c v4)) E0 h fun v75 h =>
    (wi F L (.store 1 (.c v75) (.c v74)) E0 h fun _ h =>
    (wi F L (.load true 2 (.c v4)) E0 h fun v76 h =>
    (wi F L (.store 2 (.c v2) (.c v76)) E0 h fun _ h =>
    (∃ v, resultsV h (enterE [v2, (.bool true)]) [.cell 0 true 2, .tmp 1] = some v ∧ K v h))))))))
def k_gatepostref12_Parse_4 (L : FuncId → List V → V → Prop) (K : V → Heap → Prop) (N0 : Env → Heap → Prop) (e : Env) (v5 : V) (h : Heap) : Prop :=
    (wi F L (.bin .add (.c v5) (.c (.int .i64 1))) E0 h fun v46 h =>
    (N0 (upd (upd (upd e 45 v5) 46 v46) 5 v46) h))
def k_gatepostref12_Parse_3 (L : FuncId → List V → V → Prop) (K : V → Heap → Prop) (N0 : Env → Heap → Prop) (e : Env) (v0 v2 v5 : V) (h : Heap) : Prop :=
    (wi F L (.ixStr (.c v0) (.c v5)) E0 h fun v49 h =>
    (wi F L (.bin .lss (.c v49) (.c (.int .u8 33))) E0 h fun v50 h =>
    (wg v50 false (wi F L (.mv (.c v0)) E0 h) h fun v52 h =>
    (wg v50 false (wi F L (.mv (.c v5)) E0 h) h fun v53 h =>
    (wg v50 false (wi F L (.ixStr (.c v52) (.c v53)) E0 h) h fun v54 h =>
    (wg v50 false (wi F L (.bin .eql (.c v54) (.c (.int .u8 34))) E0 h) h fun v55 h =>
    (wi F L (.pick (.c v50) (.c (.bool true)) (.c v55)) E0 h fun v56 h =>
    (wg v56 false (wi F L (.mv (.c v0)) E0 h) h fun v58 h =>
    (wg v56 false (wi F L (.mv (.c v5)) E0 h) h fun v59 h =>
    (wg v56 false (wi F L (.ixStr (.c v58) (.c v59)) E0 h) h fun v60 h =>
    (wg v56 false (wi F L (.bin .eql (.c v60) (.c (.int .u8 92))) E0 h) h fun v61 h =>
    (wi F L (.pick (.c v56) (.c (.bool true)) (.c v61)) E0 h fun v62 h =>
    (wg v62 false (wi F L (.mv (.c v0)) E0 h) h fun v64 h =>
    (wg v62 false (wi F L (.mv (.c v5)) E0 h) h fun v65 h =>
    (wg v62 false (wi F L (.ixStr (.c v64) (.c v65)) E0 h) h fun v66 h =>
    (wg v62 false (wi F L (.bin .eql (.c v66) (.c (.int .u8 127))) E0 h) h fun v67 h =>
    (wi F L (.pick (.c v62) (.c (.bool true)) (.c v67)) E0 h fun v68 h =>
    (wb v68
    (wi F L (.build [(.bool false), (.str [])] []) E0 h fun v69 h =>
    (wi F L (.store 2 (.c v2) (.c v69)) E0 h fun _ h =>
    (∃ v, resultsV h (enterE [v2, (.bool false)]) [.cell 0 true 2, .tmp 1] = some v ∧ K v h)))
    (k_gatepostref12_Parse_4 L K N0 (upd (upd (upd (upd (upd (upd (upd (upd (upd (upd (upd (upd (upd (upd (upd (upd (upd (upd (upd (upd (upd (upd e 47 v0) 48 v5) 49 v49) 50 v50) 51 v50) 52 v52) 53 v53) 54 v54) 55 v55) 56 v56) 57 v56) 58 v58) 59 v59) 60 v60) 61 v61) 62 v62) 63 v62) 64 v64) 65 v65) 66 v66) 67 v67) 68 v68) v5 h)))))))))))))))))))
def q_gatepostref12_Parse_0 (L : FuncId → List V → V → Prop) (K : V → Heap → Prop) : X → Env → Heap → Prop := (fun x => (seqX (fun e h => k_gatepostref12_Parse_2 L K (e 0) (e 2) (e 4) h) (retX c_gatepostref12_Parse.results K)) (X.out 0 x))
def lc_gatepostref12_Parse_0 : C :=
  (.seq (.seq (.region [⟨(some 40), none, .mv (.t 5)⟩, ⟨(some 41), none, .mv (.t 0)⟩, ⟨(some 42), none, .len 0 (.t 41)⟩, ⟨(some 43), none, .bin .sub (.t 42) (.c (.int .i64 1))⟩, ⟨(some 44), none, .bin .lss (.t 40) (.t 43)⟩])
  (.cond (.t 44)
    .skip
    (.exit 0)))
  (.seq (.block 1 (.seq (.region [⟨(some 47), none, .mv (.t 0)⟩, ⟨(some 48), none, .mv (.t 5)⟩, ⟨(some 49), none, .ixStr (.t 47) (.t 48)⟩, ⟨(some 50), none, .bin .lss (.t 49) (.c (.int .u8 33))⟩, ⟨(some 51), none, .mv (.t 50)⟩, ⟨(some 52), (some (51, false)), .mv (.t 0)⟩, ⟨(some 53), (some (51, false)), .mv (.t 5)⟩, ⟨(some 54), (some (51, false)), .ixStr (.t 52) (.t 53)⟩, ⟨(some 55), (some (51, false)), .bin .eql (.t 54) (.c (.int .u8 34))⟩, ⟨(some 56), none, .pick (.t 51) (.c (.bool true)) (.t 55)⟩, ⟨(some 57), none, .mv (.t 56)⟩, ⟨(some 58), (some (57, false)), .mv (.t 0)⟩, ⟨(some 59), (some (57, false)), .mv (.t 5)⟩, ⟨(some 60), (some (57, false)), .ixStr (.t 58) (.t 59)⟩, ⟨(some 61), (some (57, false)), .bin .eql (.t 60) (.c (.int .u8 92))⟩, ⟨(some 62), none, .pick (.t 57) (.c (.bool true)) (.t 61)⟩, ⟨(some 63), none, .mv (.t 62)⟩, ⟨(some 64), (some (63, false)), .mv (.t 0)⟩, ⟨(some 65), (some (63, false)), .mv (.t 5)⟩, ⟨(some 66), (some (63, false)), .ixStr (.t 64) (.t 65)⟩, ⟨(some 67), (some (63, false)), .bin .eql (.t 66) (.c (.int .u8 127))⟩, ⟨(some 68), none, .pick (.t 63) (.c (.bool true)) (.t 67)⟩])
  (.cond (.t 68)
    (.seq (.region [⟨(some 69), none, .build [(.bool false), (.str [])] []⟩, ⟨none, none, .store 2 (.t 2) (.t 69)⟩, ⟨(some 3), none, .mv (.c (.bool false))⟩])
    .ret)
    .skip)))
  (.region [⟨(some 45), none, .mv (.t 5)⟩, ⟨(some 46), none, .bin .add (.t 45) (.c (.int .i64 1))⟩, ⟨(some 5), none, .mv (.t 46)⟩])))
def b_gatepostref12_Parse_0 (L : FuncId → List V → V → Prop) (K : V → Heap → Prop) (N0 : Env → Heap → Prop) (e : Env) (h : Heap) : Prop :=
    (wi F L (.len 0 (.c (e 0))) E0 h fun v42 h =>
    (wi F L (.bin .sub (.c v42) (.c (.int .i64 1))) E0 h fun v43 h =>
    (wi F L (.bin .lss (.c (e 5)) (.c v43)) E0 h fun v44 h =>
    (wb v44
    (k_gatepostref12_Parse_3 L K N0 (upd (upd (upd (upd (upd e 40 (e 5)) 41 (e 0)) 42 v42) 43 v43) 44 v44) (e 0) (e 2) (e 5) h)
    (k_gatepostref12_Parse_2 L K (e 0) (e 2) (e 4) h)))))
theorem l_gatepostref12_Parse_0 {L : FuncId → List V → V → Prop} {K : V → Heap → Prop} (I : Nat → Env → Heap → Prop) (hr : ∀ n e h, I n e h → b_gatepostref12_Parse_0 L K (fun e' h' => ∃ m, m < n ∧ I m e' h') e h) {n : Nat} {e : Env} {h : Heap} (hi : I n e h) : Wl F L lc_gatepostref12_Parse_0 (q_gatepostref12_Parse_0 L K) e h :=
  wloopp (b := b_gatepostref12_Parse_0 L K) I (fun _ _ _ => by kernel_rfl) hr hi
def k_gatepostref12_Parse_1 (L : FuncId → List V → V → Prop) (K : V → Heap → Prop) (e : Env) (h : Heap) : Prop :=
    (Wl F L lc_gatepostref12_Parse_0 (q_gatepostref12_Parse_0 L K) (upd e 5 (.int .i64 1)) h)
def k_gatepostref12_Parse_0 (L : FuncId → List V → V → Prop) (K : V → Heap → Prop) (e : Env) (v0 v2 : V) (h : Heap) : Prop :=
    (wi F L (.len 0 (.c v0)) E0 h fun v24 h =>
    (wi F L (.bin .lss (.c v24) (.c (.int .i64 2))) E0 h fun v25 h =>
    (wg v25 false (wi F L (.mv (.c v0)) E0 h) h fun v27 h =>
    (wg v25 false (wi F L (.ixStr (.c v27) (.c (.int .i64 0))) E0 h) h fun v28 h =>
    (wg v25 false (wi F L (.bin .neq (.c v28) (.c (.int .u8 34))) E0 h) h fun v29 h =>
    (wi F L (.pick (.c v25) (.c (.bool true)) (.c v29)) E0 h fun v30 h =>
    (wg v30 false (wi F L (.mv (.c v0)) E0 h) h fun v32 h =>
    (wg v30 false (wi F L (.mv (.c v0)) E0 h) h fun v33 h =>
    (wg v30 false (wi F L (.len 0 (.c v33)) E0 h) h fun v34 h =>
    (wg v30 false (wi F L (.bin .sub (.c v34) (.c (.int .i64 1))) E0 h) h fun v35 h =>
    (wg v30 false (wi F L (.ixStr (.c v32) (.c v35)) E0 h) h fun v36 h =>
    (wg v30 false (wi F L (.bin .neq (.c v36) (.c (.int .u8 34))) E0 h) h fun v37 h =>
    (wi F L (.pick (.c v30) (.c (.bool true)) (.c v37)) E0 h fun v38 h =>
    (wb v38
    (wi F L (.build [(.bool false), (.str [])] []) E0 h fun v39 h =>
    (wi F L (.store 2 (.c v2) (.c v39)) E0 h fun _ h =>
    (∃ v, resultsV h (enterE [v2, (.bool false)]) [.cell 0 true 2, .tmp 1] = some v ∧ K v h)))
    (k_gatepostref12_Parse_1 L K (upd (upd (upd (upd (upd (upd (upd (upd (upd (upd (upd (upd (upd (upd (upd (upd e 23 v0) 24 v24) 25 v25) 26 v25) 27 v27) 28 v28) 29 v29) 30 v30) 31 v30) 32 v32) 33 v33) 34 v34) 35 v35) 36 v36) 37 v37) 38 v38)  h)))))))))))))))
def p_gatepostref12_Parse (L : FuncId → List V → V → Prop) (K : V → Heap → Prop) (a0 : V) (h : Heap) : Prop :=
    (wi F L (.boxz [(.bool false), (.str [])]) E0 h fun v2 h =>
    (wi F L (.build [(.bool false), (.str [])] []) E0 h fun v6 h =>
    (wi F L (.boxz [(.bool false), (.str [])]) E0 h fun v4 h =>
    (wi F L (.store 2 (.c v4) (.c v6)) E0 h fun _ h =>
    (wi F L (.len 0 (.c a0)) E0 h fun v8 h =>
    (wi F L (.bin .gtr (.c v8) (.c (.int .i64 2))) E0 h fun v9 h =>
    (wg v9 true (wi F L (.mv (.c a0)) E0 h) h fun v11 h =>
    (wg v9 true (wi F L (.ixStr (.c v11) (.c (.int .i64 0))) E0 h) h fun v12 h =>
    (wg v9 true (wi F L (.bin .eql (.c v12) (.c (.int .u8 87))) E0 h) h fun v13 h =>
    (wi F L (.pick (.c v9) (.c v13) (.c (.bool false))) E0 h fun v14 h =>
    (wg v14 true (wi F L (.mv (.c a0)) E0 h) h fun v16 h =>
    (wg v14 true (wi F L (.ixStr (.c v16) (.c (.int .i64 1))) E0 h) h fun v17 h =>
    (wg v14 true (wi F L (.bin .eql (.c v17) (.c (.int .u8 47))) E0 h) h fun v18 h =>
    (wi F L (.pick (.c v14) (.c v18) (.c (.bool false))) E0 h fun v19 h =>
    (wb v19
    (wi F L (.faddr 0 (.c v4)) E0 h fun v20 h =>
    (wi F L (.store 1 (.c v20) (.c (.bool true))) E0 h fun _ h =>
    (wi F L (.slstr (.c a0) (some (.c (.int .i64 2))) none) E0 h fun v22 h =>
    (k_gatepostref12_Parse_0 L K (upd (upd (upd (upd (upd (upd (upd (upd (upd (upd (upd (upd (upd (upd (upd (upd (upd (upd (upd (upd (upd (enterE [a0]) 2 v2) 3 (.bool false)) 6 v6) 4 v4) 7 a0) 8 v8) 9 v9) 10 v9) 11 v11) 12 v12) 13 v13) 14 v14) 15 v14) 16 v16) 17 v17) 18 v18) 19 v19) 20 v20) 21 a0) 22 v22) 0 v22) v22 v2 h))))
    (k_gatepostref12_Parse_0 L K (upd (upd (upd (upd (upd (upd (upd (upd (upd (upd (upd (upd (upd (upd (upd (upd (upd (enterE [a0]) 2 v2) 3 (.bool false)) 6 v6) 4 v4) 7 a0) 8 v8) 9 v9) 10 v9) 11 v11) 12 v12) 13 v13) 14 v14) 15 v14) 16 v16) 17 v17) 18 v18) 19 v19) a0 v2 h))))))))))))))))
theorem run_gatepostref12_Parse {L : FuncId → List V → V → Prop} {K : V → Heap → Prop} {a0 : V} {h : Heap} (hp : p_gatepostref12_Parse L K a0 h) : Cf F L i_gatepostref12_Parse [a0] h K :=
  wcallp F_gatepostref12_Parse (show 1 ≤ 77 by decide) (p := p_gatepostref12_Parse L K a0 h) (by kernel_rfl) hp
def p_validator_Weak (L : FuncId → List V → V → Prop) (K : V → Heap → Prop) (a0 a1 : V) (h : Heap) : Prop :=
    (wi F L (.box (.c a0)) E0 h fun v2 h =>
    (wi F L (.box (.c a1)) E0 h fun v3 h =>
    (wi F L (.faddr 1 (.c v2)) E0 h fun v5 h =>
    (wi F L (.load false 1 (.c v5)) E0 h fun v6 h =>
    (wi F L (.faddr 1 (.c v3)) E0 h fun v7 h =>
    (wi F L (.load false 1 (.c v7)) E0 h fun v8 h =>
    (wi F L (.bin .eql (.c v6) (.c v8)) E0 h fun v9 h =>
    (∃ v, some v9 = some v ∧ K v h))))))))
theorem run_validator_Weak {L : FuncId → List V → V → Prop} {K : V → Heap → Prop} {a0 a1 : V} {h : Heap} (hp : p_validator_Weak L K a0 a1 h) : Cf F L i_validator_Weak [a0, a1] h K :=
  wcallp F_validator_Weak (show 2 ≤ 10 by decide) (p := p_validator_Weak L K a0 a1 h) (by kernel_rfl) hp
def p_validator_Strong (L : FuncId → List V → V → Prop) (K : V → Heap → Prop) (a0 a1 : V) (h : Heap) : Prop :=
    (wi F L (.box (.c a0)) E0 h fun v2 h =>
    (wi F L (.box (.c a1)) E0 h fun v3 h =>
    (wi F L (.load true 2 (.c v2)) E0 h fun v5 h =>
    (wi F L (.load true 2 (.c v3)) E0 h fun v6 h =>
    (wi F L (.eq (.agg [.b, .s]) false (.c v5) (.c v6)) E0 h fun v7 h =>
    (wg v7 true (wi F L (.faddr 0 (.c v2)) E0 h) h fun v9 h =>
    (wg v7 true (wi F L (.load false 1 (.c v9)) E0 h) h fun v10 h =>
    (wg v7 true (wi F L (.un .not (.c v10)) E0 h) h fun v11 h =>
    (wi F L (.pick (.c v7) (.c v11) (.c (.bool false))) E0 h fun v12 h =>
    (∃ v, some v12 = some v ∧ K v h))))))))))
theorem run_validator_Strong {L : FuncId → List V → V → Prop} {K : V → Heap → Prop} {a0 a1 : V} {h : Heap} (hp : p_validator_Strong L K a0 a1 h) : Cf F L i_validator_Strong [a0, a1] h K :=
  wcallp F_validator_Strong (show 2 ≤ 13 by decide) (p := p_validator_Strong L K a0 a1 h) (by kernel_rfl) hp
def p_strings_CutPrefix (L : FuncId → List V → V → Prop) (K : V → Heap → Prop) (a0 a1 : V) (h : Heap) : Prop :=
    (wi F L (.call i_internal_stringslite_CutPrefix [(.c a0), (.c a1)]) E0 h fun v8 h =>
    (wi F L (.ext 0 (.c v8)) E0 h fun v9 h =>
    (wi F L (.ext 1 (.c v8)) E0 h fun v10 h =>
    (∃ v, resultsV h (enterE [v9, v10]) [.tmp 0, .tmp 1] = some v ∧ K v h))))
theorem run_strings_CutPrefix {L : FuncId → List V → V → Prop} {K : V → Heap → Prop} {a0 a1 : V} {h : Heap} (hp : p_strings_CutPrefix L K a0 a1 h) : Cf F L i_strings_CutPrefix [a0, a1] h K :=
  wcallp F_strings_CutPrefix (show 2 ≤ 11 by decide) (p := p_strings_CutPrefix L K a0 a1 h) (by kernel_rfl) hp
def p_strings_CutSuffix (L : FuncId → List V → V → Prop) (K : V → Heap → Prop) (a0 a1 : V) (h : Heap) : Prop :=
    (wi F L (.call i_internal_stringslite_CutSuffix [(.c a0), (.c a1)]) E0 h fun v8 h =>
    (wi F L (.ext 0 (.c v8)) E0 h fun v9 h =>
    (wi F L (.ext 1 (.c v8)) E0 h fun v10 h =>
    (∃ v, resultsV h (enterE [v9, v10]) [.tmp 0, .tmp 1] = some v ∧ K v h))))
theorem run_strings_CutSuffix {L : FuncId → List V → V → Prop} {K : V → Heap → Prop} {a0 a1 : V} {h : Heap} (hp : p_strings_CutSuffix L K a0 a1 h) : Cf F L i_strings_CutSuffix [a0, a1] h K :=
  wcallp F_strings_CutSuffix (show 2 ≤ 11 by decide) (p := p_strings_CutSuffix L K a0 a1 h) (by kernel_rfl) hp
def k_internal_stringslite_CutPrefix_0 (L : FuncId → List V → V → Prop) (K : V → Heap → Prop) (v0 v1 : V) (h : Heap) : Prop :=
    (wi F L (.len 0 (.c v1)) E0 h fun v13 h =>
    (wi F L (.slstr (.c v0) (some (.c v13)) none) E0 h fun v14 h =>
    (∃ v, resultsV h (enterE [v14, (.bool true)]) [.tmp 0, .tmp 1] = some v ∧ K v h)))
def p_internal_stringslite_CutPrefix (L : FuncId → List V → V → Prop) (K : V → Heap → Prop) (a0 a1 : V) (h : Heap) : Prop :=
    (wi F L (.call i_internal_stringslite_HasPrefix [(.c a0), (.c a1)]) E0 h fun v8 h =>
    (wi F L (.un .not (.c v8)) E0 h fun v9 h =>
    (wb v9
    (∃ v, resultsV h (enterE [a0, (.bool false)]) [.tmp 0, .tmp 1] = some v ∧ K v h)
    (k_internal_stringslite_CutPrefix_0 L K a0 a1 h))))
theorem run_internal_stringslite_CutPrefix {L : FuncId → List V → V → Prop} {K : V → Heap → Prop} {a0 a1 : V} {h : Heap} (hp : p_internal_stringslite_CutPrefix L K a0 a1 h) : Cf F L i_internal_stringslite_CutPrefix [a0, a1] h K :=
  wcallp F_internal_stringslite_CutPrefix (show 2 ≤ 15 by decide) (p := p_internal_stringslite_CutPrefix L K a0 a1 h) (by kernel_rfl) hp
def k_internal_stringslite_CutSuffix_0 (L : FuncId → List V → V → Prop) (K : V → Heap → Prop) (v0 v1 : V) (h : Heap) : Prop :=
    (wi F L (.len 0 (.c v0)) E0 h fun v13 h =>
    (wi F L (.len 0 (.c v1)) E0 h fun v15 h =>
    (wi F L (.bin .sub (.c v13) (.c v15)) E0 h fun v16 h =>
    (wi F L (.slstr (.c v0) none (some (.c v16))) E0 h fun v17 h =>
    (∃ v, resultsV h (enterE [v17, (.bool true)]) [.tmp 0, .tmp 1] = some v ∧ K v h)))))
def p_internal_stringslite_CutSuffix (L : FuncId → List V → V → Prop) (K : V → Heap → Prop) (a0 a1 : V) (h : Heap) : Prop :=
    (wi F L (.call i_internal_stringslite_HasSuffix [(.c a0), (.c a1)]) E0 h fun v8 h =>
    (wi F L (.un .not (.c v8)) E0 h fun v9 h =>
    (wb v9
    (∃ v, resultsV h (enterE [a0, (.bool false)]) [.tmp 0, .tmp 1] = some v ∧ K v h)
    (k_internal_stringslite_CutSuffix_0 L K a0 a1 h))))
theorem run_internal_stringslite_CutSuffix {L : FuncId → List V → V → Prop} {K : V → Heap → Prop} {a0 a1 : V} {h : Heap} (hp : p_internal_stringslite_CutSuffix L K a0 a1 h) : Cf F L i_internal_stringslite_CutSuffix [a0, a1] h K :=
  wcallp F_internal_stringslite_CutSuffix (show 2 ≤ 18 by decide) (p := p_internal_stringslite_CutSuffix L K a0 a1 h) (by kernel_rfl) hp
def p_internal_stringslite_HasPrefix (L : FuncId → List V → V → Prop) (K : V → Heap → Prop) (a0 a1 : V) (h : Heap) : Prop :=
    (wi F L (.len 0 (.c a0)) E0 h fun v6 h =>
    (wi F L (.len 0 (.c a1)) E0 h fun v8 h =>
    (wi F L (.bin .geq (.c v6) (.c v8)) E0 h fun v9 h =>
    (wg v9 true (wi F L (.mv (.c a0)) E0 h) h fun v11 h =>
    (wg v9 true (wi F L (.mv (.c a1)) E0 h) h fun v12 h =>
    (wg v9 true (wi F L (.len 0 (.c v12)) E0 h) h fun v13 h =>
    (wg v9 true (wi F L (.slstr (.c v11) none (some (.c v13))) E0 h) h fun v14 h =>
    (wg v9 true (wi F L (.mv (.c a1)) E0 h) h fun v15 h =>
    (wg v9 true (wi F L (.bin .eql (.c v14) (.c v15)) E0 h) h fun v16 h =>
    (wi F L (.pick (.c v9) (.c v16) (.c (.bool false))) E0 h fun v17 h =>
    (∃ v, some v17 = some v ∧ K v h)))))))))))
theorem run_internal_stringslite_HasPrefix {L : FuncId → List V → V → Prop} {K : V → Heap → Prop} {a0 a1 : V} {h : Heap} (hp : p_internal_stringslite_HasPrefix L K a0 a1 h) : Cf F L i_internal_stringslite_HasPrefix [a0, a1] h K :=
  wcallp F_internal_stringslite_HasPrefix (show 2 ≤ 18 by decide) (p := p_internal_stringslite_HasPrefix L K a0 a1 h) (by kernel_rfl) hp
def p_internal_stringslite_HasSuffix (L : FuncId → List V → V → Prop) (K : V → Heap → Prop) (a0 a1 : V) (h : Heap) : Prop :=
    (wi F L (.len 0 (.c a0)) E0 h fun v6 h =>
    (wi F L (.len 0 (.c a1)) E0 h fun v8 h =>
    (wi F L (.bin .geq (.c v6) (.c v8)) E0 h fun v9 h =>
    (wg v9 true (wi F L (.mv (.c a0)) E0 h) h fun v11 h =>
    (wg v9 true (wi F L (.mv (.c a0)) E0 h) h fun v12 h =>
    (wg v9 true (wi F L (.len 0 (.c v12)) E0 h) h fun v13 h =>
    (wg v9 true (wi F L (.mv (.c a1)) E0 h) h fun v14 h =>
    (wg v9 true (wi F L (.len 0 (.c v14)) E0 h) h fun v15 h =>
    (wg v9 true (wi F L (.bin .sub (.c v13) (.c v15)) E0 h) h fun v16 h =>
    (wg v9 true (wi F L (.slstr (.c v11) (some (.c v16)) none) E0 h) h fun v17 h =>
    (wg v9 true (wi F L (.mv (.c a1)) E0 h) h fun v18 h =>
    (wg v9 true (wi F L (.bin .eql (.c v17) (.c v18)) E0 h) h fun v19 h =>
    (wi F L (.pick (.c v9) (.c v19) (.c (.bool false))) E0 h fun v20 h =>
    (∃ v, some v20 = some v ∧ K v h))))))))))))))
theorem run_internal_stringslite_HasSuffix {L : FuncId → List V → V → Prop} {K : V → Heap → Prop} {a0 a1 : V} {h : Heap} (hp : p_internal_stringslite_HasSuffix L K a0 a1 h) : Cf F L i_internal_stringslite_HasSuffix [a0, a1] h K :=
  wcallp F_internal_stringslite_HasSuffix (show 2 ≤ 21 by decide) (p := p_internal_stringslite_HasSuffix L K a0 a1 h) (by kernel_rfl) hp
theorem hF : ∀ f fn, F f = some fn → compF Try.prog f = some fn := lookup_all ⟨kc_gatepostlaw12_ValidatorTags, kc_gatepostlaw12_ValidatorWeak, kc_validator_Parse, kc_gatepostref12_Parse, kc_validator_Weak, kc_validator_Strong, kc_strings_CutPrefix, kc_strings_CutSuffix, kc_internal_stringslite_CutPrefix, kc_internal_stringslite_CutSuffix, kc_internal_stringslite_HasPrefix, kc_internal_stringslite_HasSuffix, trivial⟩
theorem hm : Try.prog.follows .mixedOrders = true := by kernel_rfl
end Go.Proofs.Ytfkebmdfcpnaeaa.Vh
