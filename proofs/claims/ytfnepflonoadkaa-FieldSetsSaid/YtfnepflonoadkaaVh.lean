/- The functions of a seat, compiled for the small machine. Printed by Print.lean. -/
import Derived.Test.YtfnepflonoadkaaProg
import Derived.Test.YtfnepflonoadkaaVmSet
import Derived.KernelRfl
set_option maxRecDepth 100000
set_option linter.unusedVariables false
namespace Go.Proofs.Ytfnepflonoadkaa.Vh
open Go.Vm
def i_main_main : FuncId := 0
def i_gosem_cut : FuncId := 1
def i_gosem_cut_init : FuncId := 2
def i_gatepostlaw04_FieldSets : FuncId := 3
def i_gatepostlaw04_few : FuncId := 4
def i_field_Set : FuncId := 5
def i_field_Get : FuncId := 6
def i_field_Del : FuncId := 7
def i_token_Same : FuncId := 8
def i_gatepostref04_Same : FuncId := 9
def i_field_without : FuncId := 10
def i_strings_Join : FuncId := 11
def i_token_Lower : FuncId := 12
def i_field_keep : FuncId := 13
def i_field_without_1 : FuncId := 14
def i___strings_Builder__Grow : FuncId := 15
def i___strings_Builder__WriteString : FuncId := 16
def i___strings_Builder__String : FuncId := 17
def i___strings_Builder__copyCheck : FuncId := 18
def i___strings_Builder__grow : FuncId := 19
def i_internal_abi_NoEscape : FuncId := 20
def i_internal_bytealg_MakeNoZero : FuncId := 21
def i___runtime_TypeAssertionError__Error : FuncId := 30
def i___runtime_TypeAssertionError__RuntimeError : FuncId := 31
def i___runtime_PanicNilError__Error : FuncId := 32
def i___runtime_PanicNilError__RuntimeError : FuncId := 33
def i___internal_abi_Type__Align : FuncId := 34
def i__internal_runtime_maps_unhashableTypeError__Error : FuncId := 35
def i__internal_runtime_maps_unhashableTypeError__RuntimeError : FuncId := 36
def i___strings_Builder__Reset : FuncId := 37
def i__internal_abi_Kind__String : FuncId := 38
/-- gatepost/gatepostlaw04.FieldSets -/
def c_gatepostlaw04_FieldSets : FnC := ⟨104, [.tmp 6],
  (.seq (.region [⟨(some 6), none, .mv (.c (.bool false))⟩])
  (.seq (.seq (.region [⟨(some 16), none, .mv (.t 0)⟩, ⟨(some 17), none, .call i_gatepostlaw04_few [(.t 16)]⟩, ⟨(some 18), none, .un .not (.t 17)⟩, ⟨(some 19), none, .mv (.t 18)⟩, ⟨(some 20), (some (19, false)), .mv (.t 1)⟩, ⟨(some 21), (some (19, false)), .len 0 (.t 20)⟩, ⟨(some 22), (some (19, false)), .mv (.t 2)⟩, ⟨(some 23), (some (19, false)), .len 0 (.t 22)⟩, ⟨(some 24), (some (19, false)), .bin .add (.t 21) (.t 23)⟩, ⟨(some 25), (some (19, false)), .bin .gtr (.t 24) (.c (.int .i64 2000))⟩, ⟨(some 26), none, .pick (.t 19) (.c (.bool true)) (.t 25)⟩])
  (.cond (.t 26)
    (.seq (.region [⟨(some 6), none, .mv (.c (.bool true))⟩])
    .ret)
    .skip))
  (.seq (.region [⟨(some 27), none, .mv (.t 0)⟩, ⟨(some 28), none, .mv (.t 1)⟩, ⟨(some 29), none, .call i_field_Set [(.t 27), (.t 28), (.c (.str [118]))]⟩, ⟨(some 7), none, .mv (.t 29)⟩])
  (.seq (.region [⟨(some 31), none, .mv (.t 7)⟩, ⟨(some 32), none, .mv (.t 1)⟩, ⟨(some 33), none, .call i_field_Get [(.t 31), (.t 32)]⟩, ⟨(some 30), none, .mv (.t 33)⟩, ⟨(some 34), none, .ext 0 (.t 30)⟩, ⟨(some 35), none, .ext 1 (.t 30)⟩, ⟨(some 8), none, .mv (.t 34)⟩, ⟨(some 9), none, .mv (.t 35)⟩])
  (.seq (.region [⟨(some 37), none, .mv (.t 0)⟩, ⟨(some 38), none, .mv (.t 1)⟩, ⟨(some 39), none, .call i_field_Del [(.t 37), (.t 38)]⟩, ⟨(some 40), none, .mv (.t 1)⟩, ⟨(some 41), none, .call i_field_Get [(.t 39), (.t 40)]⟩, ⟨(some 36), none, .mv (.t 41)⟩, ⟨(some 42), none, .ext 0 (.t 36)⟩, ⟨(some 43), none, .ext 1 (.t 36)⟩, ⟨(some 10), none, .mv (.t 42)⟩, ⟨(some 11), none, .mv (.t 43)⟩])
  (.seq (.seq (.region [⟨(some 44), none, .mv (.t 8)⟩, ⟨(some 45), none, .bin .neq (.t 44) (.c (.str [118]))⟩, ⟨(some 46), none, .mv (.t 45)⟩, ⟨(some 47), (some (46, false)), .mv (.t 9)⟩, ⟨(some 48), (some (46, false)), .bin .neq (.t 47) (.c (.int .i64 1))⟩, ⟨(some 49), none, .pick (.t 46) (.c (.bool true)) (.t 48)⟩, ⟨(some 50), none, .mv (.t 49)⟩, ⟨(some 51), (some (50, false)), .mv (.t 11)⟩, ⟨(some 52), (some (50, false)), .bin .neq (.t 51) (.c (.int .i64 0))⟩, ⟨(some 53), none, .pick (.t 50) (.c (.bool true)) (.t 52)⟩])
  (.cond (.t 53)
    (.seq (.region [⟨(some 6), none, .mv (.c (.bool false))⟩])
    .ret)
    .skip))
  (.seq (.seq (.region [⟨(some 54), none, .mv (.t 1)⟩, ⟨(some 55), none, .mv (.t 2)⟩, ⟨(some 56), none, .call i_token_Same [(.t 54), (.t 55)]⟩])
  (.cond (.t 56)
    (.seq (.region [⟨(some 6), none, .mv (.c (.bool true))⟩])
    .ret)
    .skip))
  (.seq (.region [⟨(some 58), none, .mv (.t 7)⟩, ⟨(some 59), none, .mv (.t 2)⟩, ⟨(some 60), none, .call i_field_Get [(.t 58), (.t 59)]⟩, ⟨(some 57), none, .mv (.t 60)⟩, ⟨(some 61), none, .ext 0 (.t 57)⟩, ⟨(some 62), none, .ext 1 (.t 57)⟩, ⟨(some 12), none, .mv (.t 61)⟩, ⟨(some 9), none, .mv (.t 62)⟩])
  (.seq (.region [⟨(some 64), none, .mv (.t 0)⟩, ⟨(some 65), none, .mv (.t 2)⟩, ⟨(some 66), none, .call i_field_Get [(.t 64), (.t 65)]⟩, ⟨(some 63), none, .mv (.t 66)⟩, ⟨(some 67), none, .ext 0 (.t 63)⟩, ⟨(some 68), none, .ext 1 (.t 63)⟩, ⟨(some 13), none, .mv (.t 67)⟩, ⟨(some 11), none, .mv (.t 68)⟩])
  (.seq (.region [⟨(some 70), none, .mv (.t 0)⟩, ⟨(some 71), none, .mv (.t 1)⟩, ⟨(some 72), none, .call i_field_Del [(.t 70), (.t 71)]⟩, ⟨(some 73), none, .mv (.t 2)⟩, ⟨(some 74), none, .call i_field_Get [(.t 72), (.t 73)]⟩, ⟨(some 69), none, .mv (.t 74)⟩, ⟨(some 75), none, .ext 0 (.t 69)⟩, ⟨(some 76), none, .ext 1 (.t 69)⟩, ⟨(some 14), none, .mv (.t 75)⟩, ⟨(some 15), none, .mv (.t 76)⟩])
  (.seq (.region [⟨(some 77), none, .mv (.t 12)⟩, ⟨(some 78), none, .mv (.t 13)⟩, ⟨(some 79), none, .bin .eql (.t 77) (.t 78)⟩, ⟨(some 80), none, .mv (.t 79)⟩, ⟨(some 81), (some (80, true)), .mv (.t 9)⟩, ⟨(some 82), (some (80, true)), .mv (.t 11)⟩, ⟨(some 83), (some (80, true)), .bin .eql (.t 81) (.t 82)⟩, ⟨(some 84), none, .pick (.t 80) (.t 83) (.c (.bool false))⟩, ⟨(some 85), none, .mv (.t 84)⟩, ⟨(some 86), (some (85, true)), .mv (.t 14)⟩, ⟨(some 87), (some (85, true)), .mv (.t 13)⟩, ⟨(some 88), (some (85, true)), .bin .eql (.t 86) (.t 87)⟩, ⟨(some 89), none, .pick (.t 85) (.t 88) (.c (.bool false))⟩, ⟨(some 90), none, .mv (.t 89)⟩, ⟨(some 91), (some (90, true)), .mv (.t 15)⟩, ⟨(some 92), (some (90, true)), .mv (.t 11)⟩, ⟨(some 93), (some (90, true)), .bin .eql (.t 91) (.t 92)⟩, ⟨(some 94), none, .pick (.t 90) (.t 93) (.c (.bool false))⟩, ⟨(some 95), none, .mv (.t 94)⟩, ⟨(some 96), (some (95, true)), .mv (.t 7)⟩, ⟨(some 97), (some (95, true)), .mv (.t 1)⟩, ⟨(some 98), (some (95, true)), .call i_field_Del [(.t 96), (.t 97)]⟩, ⟨(some 99), (some (95, true)), .mv (.t 0)⟩, ⟨(some 100), (some (95, true)), .mv (.t 1)⟩, ⟨(some 101), (some (95, true)), .call i_field_Del [(.t 99), (.t 100)]⟩, ⟨(some 102), (some (95, true)), .call i_gatepostref04_Same [(.t 98), (.t 101)]⟩, ⟨(some 103), none, .pick (.t 95) (.t 102) (.c (.bool false))⟩, ⟨(some 6), none, .mv (.t 103)⟩])
  .ret)))))))))))⟩
/-- gatepost/gatepostlaw04.few -/
def c_gatepostlaw04_few : FnC := ⟨34, [.tmp 2],
  (.seq (.region [⟨(some 2), none, .mv (.c (.bool false))⟩])
  (.seq (.region [⟨(some 5), none, .mv (.t 0)⟩, ⟨(some 6), none, .len 1 (.t 5)⟩, ⟨(some 3), none, .mv (.t 6)⟩])
  (.seq (.seq (.region [⟨(some 4), none, .mv (.c (.int .i64 0))⟩])
  (.block 0 (.loop
    (.seq (.seq (.region [⟨(some 7), none, .mv (.t 4)⟩, ⟨(some 8), none, .mv (.t 0)⟩, ⟨(some 9), none, .len 1 (.t 8)⟩, ⟨(some 10), none, .bin .lss (.t 7) (.t 9)⟩, ⟨(some 11), none, .mv (.t 10)⟩, ⟨(some 12), (some (11, true)), .mv (.t 3)⟩, ⟨(some 13), (some (11, true)), .bin .lss (.t 12) (.c (.int .i64 4000))⟩, ⟨(some 14), none, .pick (.t 11) (.t 13) (.c (.bool false))⟩])
    (.cond (.t 14)
      .skip
      (.exit 0)))
    (.seq (.block 1 (.dregion [⟨(some 17), none, .mv (.t 3)⟩, ⟨(some 18), none, .mv (.t 0)⟩, ⟨(some 19), none, .mv (.t 4)⟩, ⟨(some 20), none, .ixaSl 2 (.t 18) (.t 19)⟩, ⟨(some 21), none, .faddr 0 (.t 20)⟩, ⟨(some 22), none, .load false 1 (.t 21)⟩, ⟨(some 23), none, .len 0 (.t 22)⟩, ⟨(some 24), none, .bin .add (.t 17) (.t 23)⟩, ⟨(some 25), none, .mv (.t 0)⟩, ⟨(some 26), none, .mv (.t 4)⟩, ⟨(some 27), none, .ixaSl 2 (.t 25) (.t 26)⟩, ⟨(some 28), none, .faddr 1 (.t 27)⟩, ⟨(some 29), none, .load false 1 (.t 28)⟩, ⟨(some 30), none, .len 0 (.t 29)⟩] [⟨(some 31), none, .bin .add (.t 24) (.t 30)⟩, ⟨(some 3), none, .mv (.t 31)⟩]))
    (.region [⟨(some 15), none, .mv (.t 4)⟩, ⟨(some 16), none, .bin .add (.t 15) (.c (.int .i64 1))⟩, ⟨(some 4), none, .mv (.t 16)⟩]))))))
  (.seq (.region [⟨(some 32), none, .mv (.t 3)⟩, ⟨(some 33), none, .bin .lss (.t 32) (.c (.int .i64 4000))⟩, ⟨(some 2), none, .mv (.t 33)⟩])
  .ret))))⟩
/-- gatepost/field.Set -/
def c_field_Set : FnC := ⟨16, [.tmp 6],
  (.seq (.region [⟨(some 6), none, .mv (.c .nsl)⟩])
  (.seq (.region [⟨(some 7), none, .mv (.t 0)⟩, ⟨(some 8), none, .mv (.t 1)⟩, ⟨(some 9), none, .bsl 1 [(.t 8)]⟩, ⟨(some 10), none, .call i_field_without [(.t 7), (.t 9)]⟩, ⟨(some 11), none, .mv (.t 1)⟩, ⟨(some 12), none, .mv (.t 2)⟩, ⟨(some 13), none, .build [(.str []), (.str [])] [(0, 1, (.t 11)), (1, 1, (.t 12))]⟩, ⟨(some 14), none, .bsl 2 [(.t 13)]⟩, ⟨(some 15), none, .app 2 32 false (.t 10) (.t 14)⟩, ⟨(some 6), none, .mv (.t 15)⟩])
  .ret))⟩
/-- gatepost/field.Get -/
def c_field_Get : FnC := ⟨29, [.tmp 4, .tmp 5],
  (.seq (.region [⟨(some 4), none, .mv (.c (.str []))⟩, ⟨(some 5), none, .mv (.c (.int .i64 0))⟩])
  (.seq (.region [⟨(some 6), none, .mv (.c .nsl)⟩])
  (.seq (.seq (.region [⟨(some 9), none, .mv (.t 0)⟩, ⟨(some 10), none, .len 1 (.t 9)⟩, ⟨(some 11), none, .mv (.c (.int .i64 0))⟩])
  (.block 0 (.loop
    (.seq (.region [⟨(some 12), none, .bin .lss (.t 11) (.t 10)⟩])
    (.seq (.cond (.t 12)
      .skip
      (.exit 0))
    (.seq (.block 1 (.seq (.region [⟨(some 13), none, .ixaSl 2 (.t 9) (.t 11)⟩, ⟨(some 14), none, .load true 2 (.t 13)⟩, ⟨(some 8), none, .boxz [(.str []), (.str [])]⟩, ⟨none, none, .store 2 (.t 8) (.t 14)⟩])
    (.seq (.region [⟨(some 15), none, .faddr 0 (.t 8)⟩, ⟨(some 16), none, .load false 1 (.t 15)⟩, ⟨(some 17), none, .mv (.t 1)⟩, ⟨(some 18), none, .call i_token_Same [(.t 16), (.t 17)]⟩])
    (.cond (.t 18)
      (.region [⟨(some 19), none, .mv (.t 6)⟩, ⟨(some 20), none, .faddr 1 (.t 8)⟩, ⟨(some 21), none, .load false 1 (.t 20)⟩, ⟨(some 22), none, .bsl 1 [(.t 21)]⟩, ⟨(some 23), none, .app 1 16 false (.t 19) (.t 22)⟩, ⟨(some 6), none, .mv (.t 23)⟩])
      .skip))))
    (.region [⟨(some 24), none, .bin .add (.t 11) (.c (.int .i64 1))⟩, ⟨(some 11), none, .mv (.t 24)⟩])))))))
  (.seq (.region [⟨(some 25), none, .mv (.t 6)⟩, ⟨(some 26), none, .call i_strings_Join [(.t 25), (.c (.str [44, 32]))]⟩, ⟨(some 27), none, .mv (.t 6)⟩, ⟨(some 28), none, .len 1 (.t 27)⟩, ⟨(some 4), none, .mv (.t 26)⟩, ⟨(some 5), none, .mv (.t 28)⟩])
  .ret))))⟩
/-- gatepost/field.Del -/
def c_field_Del : FnC := ⟨9, [.tmp 4],
  (.seq (.region [⟨(some 4), none, .mv (.c .nsl)⟩])
  (.seq (.region [⟨(some 5), none, .mv (.t 0)⟩, ⟨(some 6), none, .mv (.t 1)⟩, ⟨(some 7), none, .bsl 1 [(.t 6)]⟩, ⟨(some 8), none, .call i_field_without [(.t 5), (.t 7)]⟩, ⟨(some 4), none, .mv (.t 8)⟩])
  .ret))⟩
/-- gatepost/token.Same -/
def c_token_Same : FnC := ⟨17, [.tmp 4],
  (.seq (.region [⟨(some 4), none, .mv (.c (.bool false))⟩])
  (.seq (.region [⟨(some 5), none, .mv (.t 0)⟩, ⟨(some 6), none, .len 0 (.t 5)⟩, ⟨(some 7), none, .mv (.t 1)⟩, ⟨(some 8), none, .len 0 (.t 7)⟩, ⟨(some 9), none, .bin .eql (.t 6) (.t 8)⟩, ⟨(some 10), none, .mv (.t 9)⟩, ⟨(some 11), (some (10, true)), .mv (.t 0)⟩, ⟨(some 12), (some (10, true)), .call i_token_Lower [(.t 11)]⟩, ⟨(some 13), (some (10, true)), .mv (.t 1)⟩, ⟨(some 14), (some (10, true)), .call i_token_Lower [(.t 13)]⟩, ⟨(some 15), (some (10, true)), .bin .eql (.t 12) (.t 14)⟩, ⟨(some 16), none, .pick (.t 10) (.t 15) (.c (.bool false))⟩, ⟨(some 4), none, .mv (.t 16)⟩])
  .ret))⟩
/-- gatepost/gatepostref04.Same -/
def c_gatepostref04_Same : FnC := ⟨41, [.tmp 4],
  (.seq (.region [⟨(some 4), none, .mv (.c (.bool false))⟩])
  (.seq (.seq (.region [⟨(some 6), none, .mv (.t 0)⟩, ⟨(some 7), none, .len 1 (.t 6)⟩, ⟨(some 8), none, .mv (.t 1)⟩, ⟨(some 9), none, .len 1 (.t 8)⟩, ⟨(some 10), none, .bin .neq (.t 7) (.t 9)⟩])
  (.cond (.t 10)
    (.seq (.region [⟨(some 4), none, .mv (.c (.bool false))⟩])
    .ret)
    .skip))
  (.seq (.seq (.region [⟨(some 5), none, .mv (.c (.int .i64 0))⟩])
  (.block 0 (.loop
    (.seq (.seq (.region [⟨(some 11), none, .mv (.t 5)⟩, ⟨(some 12), none, .mv (.t 0)⟩, ⟨(some 13), none, .len 1 (.t 12)⟩, ⟨(some 14), none, .bin .lss (.t 11) (.t 13)⟩])
    (.cond (.t 14)
      .skip
      (.exit 0)))
    (.seq (.block 1 (.seq (.dregion [⟨(some 17), none, .mv (.t 0)⟩, ⟨(some 18), none, .mv (.t 5)⟩, ⟨(some 19), none, .ixaSl 2 (.t 17) (.t 18)⟩, ⟨(some 20), none, .faddr 0 (.t 19)⟩, ⟨(some 21), none, .load false 1 (.t 20)⟩, ⟨(some 22), none, .mv (.t 1)⟩, ⟨(some 23), none, .mv (.t 5)⟩, ⟨(some 24), none, .ixaSl 2 (.t 22) (.t 23)⟩, ⟨(some 25), none, .faddr 0 (.t 24)⟩, ⟨(some 26), none, .load false 1 (.t 25)⟩, ⟨(some 27), none, .bin .neq (.t 21) (.t 26)⟩, ⟨(some 28), none, .mv (.t 27)⟩, ⟨(some 29), (some (28, false)), .mv (.t 0)⟩, ⟨(some 30), (some (28, false)), .mv (.t 5)⟩, ⟨(some 31), (some (28, false)), .ixaSl 2 (.t 29) (.t 30)⟩, ⟨(some 32), (some (28, false)), .faddr 1 (.t 31)⟩, ⟨(some 33), (some (28, false)), .load false 1 (.t 32)⟩, ⟨(some 34), (some (28, false)), .mv (.t 1)⟩, ⟨(some 35), (some (28, false)), .mv (.t 5)⟩, ⟨(some 36), (some (28, false)), .ixaSl 2 (.t 34) (.t 35)⟩, ⟨(some 37), (some (28, false)), .faddr 1 (.t 36)⟩, ⟨(some 38), (some (28, false)), .load false 1 (.t 37)⟩] [⟨(some 39), (some (28, false)), .bin .neq (.t 33) (.t 38)⟩, ⟨(some 40), none, .pick (.t 28) (.c (.bool true)) (.t 39)⟩])
    (.cond (.t 40)
      (.seq (.region [⟨(some 4), none, .mv (.c (.bool false))⟩])
      .ret)
      .skip)))
    (.region [⟨(some 15), none, .mv (.t 5)⟩, ⟨(some 16), none, .bin .add (.t 15) (.c (.int .i64 1))⟩, ⟨(some 5), none, .mv (.t 16)⟩]))))))
  (.seq (.region [⟨(some 4), none, .mv (.c (.bool true))⟩])
  .ret))))⟩
/-- gatepost/field.without -/
def c_field_without : FnC := ⟨22, [.tmp 4],
  (.seq (.region [⟨(some 4), none, .mv (.c .nsl)⟩])
  (.seq (.region [⟨(some 8), none, .mkmap⟩, ⟨(some 5), none, .boxz [.nmap]⟩, ⟨none, none, .store 1 (.t 5) (.t 8)⟩])
  (.seq (.seq (.region [⟨(some 9), none, .mv (.t 1)⟩, ⟨(some 10), none, .len 1 (.t 9)⟩, ⟨(some 11), none, .mv (.c (.int .i64 0))⟩])
  (.block 0 (.loop
    (.seq (.region [⟨(some 12), none, .bin .lss (.t 11) (.t 10)⟩])
    (.seq (.cond (.t 12)
      .skip
      (.exit 0))
    (.seq (.block 1 (.seq (.region [⟨(some 13), none, .ixaSl 1 (.t 9) (.t 11)⟩, ⟨(some 14), none, .load false 1 (.t 13)⟩, ⟨(some 7), none, .mv (.t 14)⟩])
    (.dregion [⟨(some 15), none, .load false 1 (.t 5)⟩, ⟨(some 16), none, .mv (.t 7)⟩, ⟨(some 17), none, .call i_token_Lower [(.t 16)]⟩] [⟨none, none, .mapset .s (.t 15) (.t 17) (.c (.bool true))⟩])))
    (.region [⟨(some 18), none, .bin .add (.t 11) (.c (.int .i64 1))⟩, ⟨(some 11), none, .mv (.t 18)⟩])))))))
  (.seq (.region [⟨(some 19), none, .mv (.t 0)⟩, ⟨(some 20), none, .mkfn i_field_without_1 [(.t 5)]⟩, ⟨(some 21), none, .call i_field_keep [(.t 19), (.t 20)]⟩, ⟨(some 4), none, .mv (.t 21)⟩])
  .ret))))⟩
/-- gatepost/token.Lower -/
def c_token_Lower : FnC := ⟨29, [.tmp 2],
  (.seq (.region [⟨(some 2), none, .mv (.c (.str []))⟩])
  (.seq (.region [⟨(some 6), none, .mv (.t 0)⟩, ⟨(some 7), none, .toBytes (.t 6)⟩, ⟨(some 3), none, .mv (.t 7)⟩])
  (.seq (.seq (.region [⟨(some 8), none, .mv (.t 3)⟩, ⟨(some 9), none, .len 1 (.t 8)⟩, ⟨(some 10), none, .mv (.c (.int .i64 0))⟩])
  (.block 0 (.loop
    (.seq (.region [⟨(some 11), none, .bin .lss (.t 10) (.t 9)⟩])
    (.seq (.cond (.t 11)
      .skip
      (.exit 0))
    (.seq (.block 1 (.seq (.region [⟨(some 12), none, .mv (.t 10)⟩, ⟨(some 13), none, .ixaSl 1 (.t 8) (.t 10)⟩, ⟨(some 14), none, .load false 1 (.t 13)⟩, ⟨(some 4), none, .mv (.t 12)⟩, ⟨(some 5), none, .mv (.t 14)⟩])
    (.seq (.region [⟨(some 15), none, .mv (.t 5)⟩, ⟨(some 16), none, .bin .geq (.t 15) (.c (.int .u8 65))⟩, ⟨(some 17), none, .mv (.t 16)⟩, ⟨(some 18), (some (17, true)), .mv (.t 5)⟩, ⟨(some 19), (some (17, true)), .bin .leq (.t 18) (.c (.int .u8 90))⟩, ⟨(some 20), none, .pick (.t 17) (.t 19) (.c (.bool false))⟩])
    (.cond (.t 20)
      (.region [⟨(some 21), none, .mv (.t 3)⟩, ⟨(some 22), none, .mv (.t 4)⟩, ⟨(some 23), none, .mv (.t 5)⟩, ⟨(some 24), none, .bin .or (.t 23) (.c (.int .u8 32))⟩, ⟨(some 25), none, .ixaSl 1 (.t 21) (.t 22)⟩, ⟨none, none, .store 1 (.t 25) (.t 24)⟩])
      .skip))))
    (.region [⟨(some 26), none, .bin .add (.t 10) (.c (.int .i64 1))⟩, ⟨(some 10), none, .mv (.t 26)⟩])))))))
  (.seq (.region [⟨(some 27), none, .mv (.t 3)⟩, ⟨(some 28), none, .toStr (.t 27)⟩, ⟨(some 2), none, .mv (.t 28)⟩])
  .ret))))⟩
/-- gatepost/field.keep -/
def c_field_keep : FnC := ⟨23, [.tmp 4],
  (.seq (.region [⟨(some 4), none, .mv (.c .nsl)⟩])
  (.seq (.region [⟨(some 5), none, .mv (.c .nsl)⟩])
  (.seq (.seq (.region [⟨(some 8), none, .mv (.t 0)⟩, ⟨(some 9), none, .len 1 (.t 8)⟩, ⟨(some 10), none, .mv (.c (.int .i64 0))⟩])
  (.block 0 (.loop
    (.seq (.region [⟨(some 11), none, .bin .lss (.t 10) (.t 9)⟩])
    (.seq (.cond (.t 11)
      .skip
      (.exit 0))
    (.seq (.block 1 (.seq (.region [⟨(some 12), none, .ixaSl 2 (.t 8) (.t 10)⟩, ⟨(some 13), none, .load true 2 (.t 12)⟩, ⟨(some 7), none, .boxz [(.str []), (.str [])]⟩, ⟨none, none, .store 2 (.t 7) (.t 13)⟩])
    (.seq (.region [⟨(some 14), none, .mv (.t 1)⟩, ⟨(some 15), none, .load true 2 (.t 7)⟩, ⟨(some 16), none, .callv (.t 14) [(.t 15)]⟩])
    (.cond (.t 16)
      (.region [⟨(some 17), none, .mv (.t 5)⟩, ⟨(some 18), none, .load true 2 (.t 7)⟩, ⟨(some 19), none, .bsl 2 [(.t 18)]⟩, ⟨(some 20), none, .app 2 32 false (.t 17) (.t 19)⟩, ⟨(some 5), none, .mv (.t 20)⟩])
      .skip))))
    (.region [⟨(some 21), none, .bin .add (.t 10) (.c (.int .i64 1))⟩, ⟨(some 10), none, .mv (.t 21)⟩])))))))
  (.seq (.region [⟨(some 22), none, .mv (.t 5)⟩, ⟨(some 4), none, .mv (.t 22)⟩])
  .ret))))⟩
/-- gatepost/field.without$1 -/
def c_field_without_1 : FnC := ⟨10, [.tmp 3],
  (.seq (.region [⟨(some 2), none, .box (.t 0)⟩, ⟨(some 3), none, .mv (.c (.bool false))⟩])
  (.seq (.dregion [⟨(some 4), none, .load false 1 (.t 1)⟩, ⟨(some 5), none, .faddr 0 (.t 2)⟩, ⟨(some 6), none, .load false 1 (.t 5)⟩, ⟨(some 7), none, .call i_token_Lower [(.t 6)]⟩] [⟨(some 8), none, .lookup .s (.bool false) false (.t 4) (.t 7)⟩, ⟨(some 9), none, .un .not (.t 8)⟩, ⟨(some 3), none, .mv (.t 9)⟩])
  .ret))⟩
def tab : List (FuncId × FnC) := [(i_gatepostlaw04_FieldSets, c_gatepostlaw04_FieldSets), (i_gatepostlaw04_few, c_gatepostlaw04_few), (i_field_Set, c_field_Set), (i_field_Get, c_field_Get), (i_field_Del, c_field_Del), (i_token_Same, c_token_Same), (i_gatepostref04_Same, c_gatepostref04_Same), (i_field_without, c_field_without), (i_token_Lower, c_token_Lower), (i_field_keep, c_field_keep), (i_field_without_1, c_field_without_1)]
def F (f : FuncId) : Option FnC := tab.lookup f
theorem F_gatepostlaw04_FieldSets : F i_gatepostlaw04_FieldSets = some c_gatepostlaw04_FieldSets := rfl
theorem kc_gatepostlaw04_FieldSets : compF Try.prog i_gatepostlaw04_FieldSets = some c_gatepostlaw04_FieldSets := by kernel_rfl
theorem F_gatepostlaw04_few : F i_gatepostlaw04_few = some c_gatepostlaw04_few := rfl
theorem kc_gatepostlaw04_few : compF Try.prog i_gatepostlaw04_few = some c_gatepostlaw04_few := by kernel_rfl
theorem F_field_Set : F i_field_Set = some c_field_Set := rfl
theorem kc_field_Set : compF Try.prog i_field_Set = some c_field_Set := by kernel_rfl
theorem F_field_Get : F i_field_Get = some c_field_Get := rfl
theorem kc_field_Get : compF Try.prog i_field_Get = some c_field_Get := by kernel_rfl
theorem F_field_Del : F i_field_Del = some c_field_Del := rfl
theorem kc_field_Del : compF Try.prog i_field_Del = some c_field_Del := by kernel_rfl
theorem F_token_Same : F i_token_Same = some c_token_Same := rfl
theorem kc_token_Same : compF Try.prog i_token_Same = some c_token_Same := by kernel_rfl
theorem F_gatepostref04_Same : F i_gatepostref04_Same = some c_gatepostref04_Same := rfl
theorem kc_gatepostref04_Same : compF Try.prog i_gatepostref04_Same = some c_gatepostref04_Same := by kernel_rfl
theorem F_field_without : F i_field_without = some c_field_without := rfl
theorem kc_field_without : compF Try.prog i_field_without = some c_field_without := by kernel_rfl
theorem F_token_Lower : F i_token_Lower = some c_token_Lower := rfl
theorem kc_token_Lower : compF Try.prog i_token_Lower = some c_token_Lower := by kernel_rfl
theorem F_field_keep : F i_field_keep = some c_field_keep := rfl
theorem kc_field_keep : compF Try.prog i_field_keep = some c_field_keep := by kernel_rfl
theorem F_field_without_1 : F i_field_without_1 = some c_field_without_1 := rfl
theorem kc_field_without_1 : compF Try.prog i_field_without_1 = some c_field_without_1 := by kernel_rfl
def k_gatepostlaw04_FieldSets_2 (L : FuncId → List V → V → Prop) (K : V → Heap → Prop) (v0 v1 v2 v7 : V) (h : Heap) : Prop :=
    (wi F L (.call i_field_Get [(.c v7), (.c v2)]) E0 h fun v60 h =>
    (wi F L (.ext 0 (.c v60)) E0 h fun v61 h =>
    (wi F L (.ext 1 (.c v60)) E0 h fun v62 h =>
    (wi F L (.call i_field_Get [(.c v0), (.c v2)]) E0 h fun v66 h =>
    (wi F L (.ext 0 (.c v66)) E0 h fun v67 h =>
    (wi F L (.ext 1 (.c v66)) E0 h fun v68 h =>
    (wi F L (.call i_field_Del [(.c v0), (.c v1)]) E0 h fun v72 h =>
    (wi F L (.call i_field_Get [(.c v72), (.c v2)]) E0 h fun v74 h =>
    (wi F L (.ext 0 (.c v74)) E0 h fun v75 h =>
    (wi F L (.ext 1 (.c v74)) E0 h fun v76 h =>
    (wi F L (.bin .eql (.c v61) (.c v67)) E0 h fun v79 h =>
    (wg v79 true (wi F L (.mv (.c v62)) E0 h) h fun v81 h =>
    (wg v79 true (wi F L (.mv (.c v68)) E0 h) h fun v82 h =>
    (wg v79 true (wi F L (.bin .eql (.c v81) (.c v82)) E0 h) h fun v83 h =>
    (wi F L (.pick (.c v79) (.c v83) (.c (.bool false))) E0 h fun v84 h =>
    (wg v84 true (wi F L (.mv (.c v75)) E0 h) h fun v86 h =>
    (wg v84 true (wi F L (.mv (.c v67)) E0 h) h fun v87 h =>
    (wg v84 true (wi F L (.bin .eql (.c v86) (.c v87)) E0 h) h fun v88 h =>
    (wi F L (.pick (.c v84) (.c v88) (.c (.bool false))) E0 h fun v89 h =>
    (wg v89 true (wi F L (.mv (.c v76)) E0 h) h fun v91 h =>
    (wg v89 true (wi F L (.mv (.c v68)) E0 h) h fun v92 h =>
    (wg v89 true (wi F L (.bin .eql (.c v91) (.c v92)) E0 h) h fun v93 h =>
    (wi F L (.pick (.c v89) (.c v93) (.c (.bool false))) E0 h fun v94 h =>
    (wg v94 true (wi F L (.mv (.c v7)) E0 h) h fun v96 h =>
    (wg v94 true (wi F L (.mv (.c v1)) E0 h) h fun v97 h =>
    (wg v94 true (wi F L (.call i_field_Del [(.c v96), (.c v97)]) E0 h) h fun v98 h =>
    (wg v94 true (wi F L (.mv (.c v0)) E0 h) h fun v99 h =>
    (wg v94 true (wi F L (.mv (.c v1)) E0 h) h fun v100 h =>
    (wg v94 true (wi F L (.call i_field_Del [(.c v99), (.c v100)]) E0 h) h fun v101 h =>
    (wg v94 true (wi F L (.call i_gatepostref04_Same [(.c v98), (.c v101)]) E0 h) h fun v102 h =>
    (wi F L (.pick (.c v94) (.c v102) (.c (.bool false))) E0 h fun v103 h =>
    (∃ v, some v103 = some v ∧ K v h))))))))))))))))))))))))))))))))
def k_gatepostlaw04_FieldSets_1 (L : FuncId → List V → V → Prop) (K : V → Heap → Prop) (v0 v1 v2 v7 : V) (h : Heap) : Prop :=
    (wi F L (.call i_token_Same [(.c v1), (.c v2)]) E0 h fun v56 h =>
    (wb v56
    (∃ v, some (.bool true) = some v ∧ K v h)
    (k_gatepostlaw04_FieldSets_2 L K v0 v1 v2 v7 h)))
def k_gatepostlaw04_FieldSets_0 (L : FuncId → List V → V → Prop) (K : V → Heap → Prop) (v0 v1 v2 : V) (h : Heap) : Prop :=
    (wi F L (.call i_field_Set [(.c v0), (.c v1), (.c (.str [118]))]) E0 h fun v29 h =>
    (wi F L (.call i_field_Get [(.c v29), (.c v1)]) E0 h fun v33 h =>
    (wi F L (.ext 0 (.c v33)) E0 h fun v34 h =>
    (wi F L (.ext 1 (.c v33)) E0 h fun v35 h =>
    (wi F L (.call i_field_Del [(.c v0), (.c v1)]) E0 h fun v39 h =>
    (wi F L (.call i_field_Get [(.c v39), (.c v1)]) E0 h fun v41 h =>
    (wi F L (.ext 0 (.c v41)) E0 h fun v42 h =>
    (wi F L (.ext 1 (.c v41)) E0 h fun v43 h =>
    (wi F L (.bin .neq (.c v34) (.c (.str [118]))) E0 h fun v45 h =>
    (wg v45 false (wi F L (.mv (.c v35)) E0 h) h fun v47 h =>
    (wg v45 false (wi F L (.bin .neq (.c v47) (.c (.int .i64 1))) E0 h) h fun v48 h =>
    (wi F L (.pick (.c v45) (.c (.bool true)) (.c v48)) E0 h fun v49 h =>
    (wg v49 false (wi F L (.mv (.c v43)) E0 h) h fun v51 h =>
    (wg v49 false (wi F L (.bin .neq (.c v51) (.c (.int .i64 0))) E0 h) h fun v52 h =>
    (wi F L (.pick (.c v49) (.c (.bool true)) (.c v52)) E0 h fun v53 h =>
    (wb v53
    (∃ v, some (.bool false) = some v ∧ K v h)
    (k_gatepostlaw04_FieldSets_1 L K v0 v1 v2 v29 h)))))))))))))))))
def p_gatepostlaw04_FieldSets (L : FuncId → List V → V → Prop) (K : V → Heap → Prop) (a0 a1 a2 : V) (h : Heap) : Prop :=
    (wi F L (.call i_gatepostlaw04_few [(.c a0)]) E0 h fun v17 h =>
    (wi F L (.un .not (.c v17)) E0 h fun v18 h =>
    (wg v18 false (wi F L (.mv (.c a1)) E0 h) h fun v20 h =>
    (wg v18 false (wi F L (.len 0 (.c v20)) E0 h) h fun v21 h =>
    (wg v18 false (wi F L (.mv (.c a2)) E0 h) h fun v22 h =>
    (wg v18 false (wi F L (.len 0 (.c v22)) E0 h) h fun v23 h =>
    (wg v18 false (wi F L (.bin .add (.c v21) (.c v23)) E0 h) h fun v24 h =>
    (wg v18 false (wi F L (.bin .gtr (.c v24) (.c (.int .i64 2000))) E0 h) h fun v25 h =>
    (wi F L (.pick (.c v18) (.c (.bool true)) (.c v25)) E0 h fun v26 h =>
    (wb v26
    (∃ v, some (.bool true) = some v ∧ K v h)
    (k_gatepostlaw04_FieldSets_0 L K a0 a1 a2 h)))))))))))
theorem run_gatepostlaw04_FieldSets {L : FuncId → List V → V → Prop} {K : V → Heap → Prop} {a0 a1 a2 : V} {h : Heap} (hp : p_gatepostlaw04_FieldSets L K a0 a1 a2 h) : Cf F L i_gatepostlaw04_FieldSets [a0, a1, a2] h K :=
  wcallp F_gatepostlaw04_FieldSets (show 3 ≤ 104 by decide) (p := p_gatepostlaw04_FieldSets L K a0 a1 a2 h) (by kernel_rfl) hp
def k_gatepostlaw04_few_0 (L : FuncId → List V → V → Prop) (K : V → Heap → Prop) (v3 : V) (h : Heap) : Prop :=
    (wi F L (.bin .lss (.c v3) (.c (.int .i64 4000))) E0 h fun v33 h =>
    (∃ v, some v33 = some v ∧ K v h))
def k_gatepostlaw04_few_2 (L : FuncId → List V → V → Prop) (K : V → Heap → Prop) (N0 : Env → Heap → Prop) (e : Env) (v4 : V) (h : Heap) : Prop :=
    (wi F L (.bin .add (.c v4) (.c (.int .i64 1))) E0 h fun v16 h =>
    (N0 (upd (upd (upd e 15 v4) 16 v16) 4 v16) h))
def k_gatepostlaw04_few_1 (L : FuncId → List V → V → Prop) (K : V → Heap → Prop) (N0 : Env → Heap → Prop) (e : Env) (v0 v3 v4 : V) (h : Heap) : Prop :=
    (wi F L (.ixaSl 2 (.c v0) (.c v4)) E0 h fun v20 h' => Ext h h' ∧
    (wi F L (.faddr 0 (.c v20)) E0 h' fun v21 h => Ext h' h ∧
    (wi F L (.load false 1 (.c v21)) E0 h fun v22 h' => Ext h h' ∧
    (wi F L (.len 0 (.c v22)) E0 h' fun v23 h => Ext h' h ∧
    (wi F L (.bin .add (.c v3) (.c v23)) E0 h fun v24 h' => Ext h h' ∧
    (wi F L (.ixaSl 2 (.c v0) (.c v4)) E0 h' fun v27 h => Ext h' h ∧
    (wi F L (.faddr 1 (.c v27)) E0 h fun v28 h' => Ext h h' ∧
    (wi F L (.load false 1 (.c v28)) E0 h' fun v29 h => Ext h' h ∧
    (wi F L (.len 0 (.c v29)) E0 h fun v30 h' => Ext h h' ∧
    (wi F L (.bin .add (.c v24) (.c v30)) E0 h' fun v31 h =>
    (k_gatepostlaw04_few_2 L K N0 (upd (upd (upd (upd (upd (upd (upd (upd (upd (upd (upd (upd (upd (upd (upd (upd e 17 v3) 18 v0) 19 v4) 20 v20) 21 v21) 22 v22) 23 v23) 24 v24) 25 v0) 26 v4) 27 v27) 28 v28) 29 v29) 30 v30) 31 v31) 3 v31) v4 h)))))))))))
def q_gatepostlaw04_few_0 (L : FuncId → List V → V → Prop) (K : V → Heap → Prop) : X → Env → Heap → Prop := (fun x => (seqX (fun e h => k_gatepostlaw04_few_0 L K (e 3) h) (retX c_gatepostlaw04_few.results K)) (X.out 0 x))
def lc_gatepostlaw04_few_0 : C :=
  (.seq (.seq (.region [⟨(some 7), none, .mv (.t 4)⟩, ⟨(some 8), none, .mv (.t 0)⟩, ⟨(some 9), none, .len 1 (.t 8)⟩, ⟨(some 10), none, .bin .lss (.t 7) (.t 9)⟩, ⟨(some 11), none, .mv (.t 10)⟩, ⟨(some 12), (some (11, true)), .mv (.t 3)⟩, ⟨(some 13), (some (11, true)), .bin .lss (.t 12) (.c (.int .i64 4000))⟩, ⟨(some 14), none, .pick (.t 11) (.t 13) (.c (.bool false))⟩])
  (.cond (.t 14)
    .skip
    (.exit 0)))
  (.seq (.block 1 (.dregion [⟨(some 17), none, .mv (.t 3)⟩, ⟨(some 18), none, .mv (.t 0)⟩, ⟨(some 19), none, .mv (.t 4)⟩, ⟨(some 20), none, .ixaSl 2 (.t 18) (.t 19)⟩, ⟨(some 21), none, .faddr 0 (.t 20)⟩, ⟨(some 22), none, .load false 1 (.t 21)⟩, ⟨(some 23), none, .len 0 (.t 22)⟩, ⟨(some 24), none, .bin .add (.t 17) (.t 23)⟩, ⟨(some 25), none, .mv (.t 0)⟩, ⟨(some 26), none, .mv (.t 4)⟩, ⟨(some 27), none, .ixaSl 2 (.t 25) (.t 26)⟩, ⟨(some 28), none, .faddr 1 (.t 27)⟩, ⟨(some 29), none, .load false 1 (.t 28)⟩, ⟨(some 30), none, .len 0 (.t 29)⟩] [⟨(some 31), none, .bin .add (.t 24) (.t 30)⟩, ⟨(some 3), none, .mv (.t 31)⟩]))
  (.region [⟨(some 15), none, .mv (.t 4)⟩, ⟨(some 16), none, .bin .add (.t 15) (.c (.int .i64 1))⟩, ⟨(some 4), none, .mv (.t 16)⟩])))
def b_gatepostlaw04_few_0 (L : FuncId → List V → V → Prop) (K : V → Heap → Prop) (N0 : Env → Heap → Prop) (e : Env) (h : Heap) : Prop :=
    (wi F L (.len 1 (.c (e 0))) E0 h fun v9 h =>
    (wi F L (.bin .lss (.c (e 4)) (.c v9)) E0 h fun v10 h =>
    (wg v10 true (wi F L (.mv (.c (e 3))) E0 h) h fun v12 h =>
    (wg v10 true (wi F L (.bin .lss (.c v12) (.c (.int .i64 4000))) E0 h) h fun v13 h =>
    (wi F L (.pick (.c v10) (.c v13) (.c (.bool false))) E0 h fun v14 h =>
    (wb v14
    (k_gatepostlaw04_few_1 L K N0 (upd (upd (upd (upd (upd (upd (upd (upd e 7 (e 4)) 8 (e 0)) 9 v9) 10 v10) 11 v10) 12 v12) 13 v13) 14 v14) (e 0) (e 3) (e 4) h)
    (k_gatepostlaw04_few_0 L K (e 3) h)))))))
theorem l_gatepostlaw04_few_0 {L : FuncId → List V → V → Prop} {K : V → Heap → Prop} (I : Nat → Env → Heap → Prop) (hr : ∀ n e h, I n e h → b_gatepostlaw04_few_0 L K (fun e' h' => ∃ m, m < n ∧ I m e' h') e h) {n : Nat} {e : Env} {h : Heap} (hi : I n e h) : Wl F L lc_gatepostlaw04_few_0 (q_gatepostlaw04_few_0 L K) e h :=
  wloopp (b := b_gatepostlaw04_few_0 L K) I (fun _ _ _ => by kernel_rfl) hr hi
def p_gatepostlaw04_few (L : FuncId → List V → V → Prop) (K : V → Heap → Prop) (a0 : V) (h : Heap) : Prop :=
    (wi F L (.len 1 (.c a0)) E0 h fun v6 h =>
    (Wl F L lc_gatepostlaw04_few_0 (q_gatepostlaw04_few_0 L K) (upd (upd (upd (upd (upd (enterE [a0]) 2 (.bool false)) 5 a0) 6 v6) 3 v6) 4 (.int .i64 0)) h))
theorem run_gatepostlaw04_few {L : FuncId → List V → V → Prop} {K : V → Heap → Prop} {a0 : V} {h : Heap} (hp : p_gatepostlaw04_few L K a0 h) : Cf F L i_gatepostlaw04_few [a0] h K :=
  wcallp F_gatepostlaw04_few (show 1 ≤ 34 by decide) (p := p_gatepostlaw04_few L K a0 h) (by kernel_rfl) hp
def p_field_Set (L : FuncId → List V → V → Prop) (K : V → Heap → Prop) (a0 a1 a2 : V) (h : Heap) : Prop :=
    (wi F L (.bsl 1 [(.c a1)]) E0 h fun v9 h =>
    (wi F L (.call i_field_without [(.c a0), (.c v9)]) E0 h fun v10 h =>
    (wi F L (.build [(.str []), (.str [])] [(0, 1, (.c a1)), (1, 1, (.c a2))]) E0 h fun v13 h =>
    (wi F L (.bsl 2 [(.c v13)]) E0 h fun v14 h =>
    (wi F L (.app 2 32 false (.c v10) (.c v14)) E0 h fun v15 h =>
    (∃ v, some v15 = some v ∧ K v h))))))
theorem run_field_Set {L : FuncId → List V → V → Prop} {K : V → Heap → Prop} {a0 a1 a2 : V} {h : Heap} (hp : p_field_Set L K a0 a1 a2 h) : Cf F L i_field_Set [a0, a1, a2] h K :=
  wcallp F_field_Set (show 3 ≤ 16 by decide) (p := p_field_Set L K a0 a1 a2 h) (by kernel_rfl) hp
def k_field_Get_0 (L : FuncId → List V → V → Prop) (K : V → Heap → Prop) (v6 : V) (h : Heap) : Prop :=
    (wi F L (.call i_strings_Join [(.c v6), (.c (.str [44, 32]))]) E0 h fun v26 h =>
    (wi F L (.len 1 (.c v6)) E0 h fun v28 h =>
    (∃ v, resultsV h (enterE [v26, v28]) [.tmp 0, .tmp 1] = some v ∧ K v h)))
def k_field_Get_2 (L : FuncId → List V → V → Prop) (K : V → Heap → Prop) (N0 : Env → Heap → Prop) (e : Env) (v11 : V) (h : Heap) : Prop :=
    (wi F L (.bin .add (.c v11) (.c (.int .i64 1))) E0 h fun v24 h =>
    (N0 (upd (upd e 24 v24) 11 v24) h))
def k_field_Get_1 (L : FuncId → List V → V → Prop) (K : V → Heap → Prop) (N0 : Env → Heap → Prop) (e : Env) (v1 v6 v9 v11 : V) (h : Heap) : Prop :=
    (wi F L (.ixaSl 2 (.c v9) (.c v11)) E0 h fun v13 h =>
    (wi F L (.load true 2 (.c v13)) E0 h fun v14 h =>
    (wi F L (.boxz [(.str []), (.str [])]) E0 h fun v8 h =>
    (wi F L (.store 2 (.c v8) (.c v14)) E0 h fun _ h =>
    (wi F L (.faddr 0 (.c v8)) E0 h fun v15 h =>
    (wi F L (.load false 1 (.c v15)) E0 h fun v16 h =>
    (wi F L (.call i_token_Same [(.c v16), (.c v1)]) E0 h fun v18 h =>
    (wb v18
    (wi F L (.faddr 1 (.c v8)) E0 h fun v20 h =>
    (wi F L (.load false 1 (.c v20)) E0 h fun v21 h =>
    (wi F L (.bsl 1 [(.c v21)]) E0 h fun v22 h =>
    (wi F L (.app 1 16 false (.c v6) (.c v22)) E0 h fun v23 h =>
    (k_field_Get_2 L K N0 (upd (upd (upd (upd (upd (upd (upd (upd (upd (upd (upd (upd (upd e 13 v13) 14 v14) 8 v8) 15 v15) 16 v16) 17 v1) 18 v18) 19 v6) 20 v20) 21 v21) 22 v22) 23 v23) 6 v23) v11 h)))))
    (k_field_Get_2 L K N0 (upd (upd (upd (upd (upd (upd (upd e 13 v13) 14 v14) 8 v8) 15 v15) 16 v16) 17 v1) 18 v18) v11 h)))))))))
def q_field_Get_0 (L : FuncId → List V → V → Prop) (K : V → Heap → Prop) : X → Env → Heap → Prop := (fun x => (seqX (fun e h => k_field_Get_0 L K (e 6) h) (retX c_field_Get.results K)) (X.out 0 x))
def lc_field_Get_0 : C :=
  (.seq (.region [⟨(some 12), none, .bin .lss (.t 11) (.t 10)⟩])
  (.seq (.cond (.t 12)
    .skip
    (.exit 0))
  (.seq (.block 1 (.seq (.region [⟨(some 13), none, .ixaSl 2 (.t 9) (.t 11)⟩, ⟨(some 14), none, .load true 2 (.t 13)⟩, ⟨(some 8), none, .boxz [(.str []), (.str [])]⟩, ⟨none, none, .store 2 (.t 8) (.t 14)⟩])
  (.seq (.region [⟨(some 15), none, .faddr 0 (.t 8)⟩, ⟨(some 16), none, .load false 1 (.t 15)⟩, ⟨(some 17), none, .mv (.t 1)⟩, ⟨(some 18), none, .call i_token_Same [(.t 16), (.t 17)]⟩])
  (.cond (.t 18)
    (.region [⟨(some 19), none, .mv (.t 6)⟩, ⟨(some 20), none, .faddr 1 (.t 8)⟩, ⟨(some 21), none, .load false 1 (.t 20)⟩, ⟨(some 22), none, .bsl 1 [(.t 21)]⟩, ⟨(some 23), none, .app 1 16 false (.t 19) (.t 22)⟩, ⟨(some 6), none, .mv (.t 23)⟩])
    .skip))))
  (.region [⟨(some 24), none, .bin .add (.t 11) (.c (.int .i64 1))⟩, ⟨(some 11), none, .mv (.t 24)⟩]))))
def b_field_Get_0 (L : FuncId → List V → V → Prop) (K : V → Heap → Prop) (N0 : Env → Heap → Prop) (e : Env) (h : Heap) : Prop :=
    (wi F L (.bin .lss (.c (e 11)) (.c (e 10))) E0 h fun v12 h =>
    (wb v12
    (k_field_Get_1 L K N0 (upd e 12 v12) (e 1) (e 6) (e 9) (e 11) h)
    (k_field_Get_0 L K (e 6) h)))
theorem l_field_Get_0 {L : FuncId → List V → V → Prop} {K : V → Heap → Prop} (I : Nat → Env → Heap → Prop) (hr : ∀ n e h, I n e h → b_field_Get_0 L K (fun e' h' => ∃ m, m < n ∧ I m e' h') e h) {n : Nat} {e : Env} {h : Heap} (hi : I n e h) : Wl F L lc_field_Get_0 (q_field_Get_0 L K) e h :=
  wloopp (b := b_field_Get_0 L K) I (fun _ _ _ => by kernel_rfl) hr hi
def p_field_Get (L : FuncId → List V → V → Prop) (K : V → Heap → Prop) (a0 a1 : V) (h : Heap) : Prop :=
    (wi F L (.len 1 (.c a0)) E0 h fun v10 h =>
    (Wl F L lc_field_Get_0 (q_field_Get_0 L K) (upd (upd (upd (upd (upd (upd (enterE [a0, a1]) 4 (.str [])) 5 (.int .i64 0)) 6 .nsl) 9 a0) 10 v10) 11 (.int .i64 0)) h))
theorem run_field_Get {L : FuncId → List V → V → Prop} {K : V → Heap → Prop} {a0 a1 : V} {h : Heap} (hp : p_field_Get L K a0 a1 h) : Cf F L i_field_Get [a0, a1] h K :=
  wcallp F_field_Get (show 2 ≤ 29 by decide) (p := p_field_Get L K a0 a1 h) (by kernel_rfl) hp
def p_field_Del (L : FuncId → List V → V → Prop) (K : V → Heap → Prop) (a0 a1 : V) (h : Heap) : Prop :=
    (wi F L (.bsl 1 [(.c a1)]) E0 h fun v7 h =>
    (wi F L (.call i_field_without [(.c a0), (.c v7)]) E0 h fun v8 h =>
    (∃ v, some v8 = some v ∧ K v h)))
theorem run_field_Del {L : FuncId → List V → V → Prop} {K : V → Heap → Prop} {a0 a1 : V} {h : Heap} (hp : p_field_Del L K a0 a1 h) : Cf F L i_field_Del [a0, a1] h K :=
  wcallp F_field_Del (show 2 ≤ 9 by decide) (p := p_field_Del L K a0 a1 h) (by kernel_rfl) hp
def p_token_Same (L : FuncId → List V → V → Prop) (K : V → Heap → Prop) (a0 a1 : V) (h : Heap) : Prop :=
    (wi F L (.len 0 (.c a0)) E0 h fun v6 h =>
    (wi F L (.len 0 (.c a1)) E0 h fun v8 h =>
    (wi F L (.bin .eql (.c v6) (.c v8)) E0 h fun v9 h =>
    (wg v9 true (wi F L (.mv (.c a0)) E0 h) h fun v11 h =>
    (wg v9 true (wi F L (.call i_token_Lower [(.c v11)]) E0 h) h fun v12 h =>
    (wg v9 true (wi F L (.mv (.c a1)) E0 h) h fun v13 h =>
    (wg v9 true (wi F L (.call i_token_Lower [(.c v13)]) E0 h) h fun v14 h =>
    (wg v9 true (wi F L (.bin .eql (.c v12) (.c v14)) E0 h) h fun v15 h =>
    (wi F L (.pick (.c v9) (.c v15) (.c (.bool false))) E0 h fun v16 h =>
    (∃ v, some v16 = some v ∧ K v h))))))))))
theorem run_token_Same {L : FuncId → List V → V → Prop} {K : V → Heap → Prop} {a0 a1 : V} {h : Heap} (hp : p_token_Same L K a0 a1 h) : Cf F L i_token_Same [a0, a1] h K :=
  wcallp F_token_Same (show 2 ≤ 17 by decide) (p := p_token_Same L K a0 a1 h) (by kernel_rfl) hp
def k_gatepostref04_Same_1 (L : FuncId → List V → V → Prop) (K : V → Heap → Prop) (h : Heap) : Prop :=
    (∃ v, some (.bool true) = some v ∧ K v h)
def k_gatepostref04_Same_3 (L : FuncId → List V → V → Prop) (K : V → Heap → Prop) (N0 : Env → Heap → Prop) (e : Env) (v5 : V) (h : Heap) : Prop :=
    (wi F L (.bin .add (.c v5) (.c (.int .i64 1))) E0 h fun v16 h =>
    (N0 (upd (upd (upd e 15 v5) 16 v16) 5 v16) h))
def k_gatepostref04_Same_2 (L : FuncId → List V → V → Prop) (K : V → Heap → Prop) (N0 : Env → Heap → Prop) (e : Env) (v0 v1 v5 : V) (h : Heap) : Prop :=
    (wi F L (.ixaSl 2 (.c v0) (.c v5)) E0 h fun v19 h' => Ext h h' ∧
    (wi F L (.faddr 0 (.c v19)) E0 h' fun v20 h => Ext h' h ∧
    (wi F L (.load false 1 (.c v20)) E0 h fun v21 h' => Ext h h' ∧
    (wi F L (.ixaSl 2 (.c v1) (.c v5)) E0 h' fun v24 h => Ext h' h ∧
    (wi F L (.faddr 0 (.c v24)) E0 h fun v25 h' => Ext h h' ∧
    (wi F L (.load false 1 (.c v25)) E0 h' fun v26 h => Ext h' h ∧
    (wi F L (.bin .neq (.c v21) (.c v26)) E0 h fun v27 h' => Ext h h' ∧
    (wgd v27 false (wi F L (.mv (.c v0)) E0 h') h' fun v29 h =>
    (wgd v27 false (wi F L (.mv (.c v5)) E0 h) h fun v30 h' =>
    (wgd v27 false (wi F L (.ixaSl 2 (.c v29) (.c v30)) E0 h') h' fun v31 h =>
    (wgd v27 false (wi F L (.faddr 1 (.c v31)) E0 h) h fun v32 h' =>
    (wgd v27 false (wi F L (.load false 1 (.c v32)) E0 h') h' fun v33 h =>
    (wgd v27 false (wi F L (.mv (.c v1)) E0 h) h fun v34 h' =>
    (wgd v27 false (wi F L (.mv (.c v5)) E0 h') h' fun v35 h =>
    (wgd v27 false (wi F L (.ixaSl 2 (.c v34) (.c v35)) E0 h) h fun v36 h' =>
    (wgd v27 false (wi F L (.faddr 1 (.c v36)) E0 h') h' fun v37 h =>
    (wgd v27 false (wi F L (.load false 1 (.c v37)) E0 h) h fun v38 h' =>
    (wg v27 false (wi F L (.bin .neq (.c v33) (.c v38)) E0 h') h' fun v39 h =>
    (wi F L (.pick (.c v27) (.c (.bool true)) (.c v39)) E0 h fun v40 h =>
    (wb v40
    (∃ v, some (.bool false) = some v ∧ K v h)
    (k_gatepostref04_Same_3 L K N0 (upd (upd (upd (upd (upd (upd (upd (upd (upd (upd (upd (upd (upd (upd (upd (upd (upd (upd (upd (upd (upd (upd (upd (upd e 17 v0) 18 v5) 19 v19) 20 v20) 21 v21) 22 v1) 23 v5) 24 v24) 25 v25) 26 v26) 27 v27) 28 v27) 29 v29) 30 v30) 31 v31) 32 v32) 33 v33) 34 v34) 35 v35) 36 v36) 37 v37) 38 v38) 39 v39) 40 v40) v5 h)))))))))))))))))))))
def q_gatepostref04_Same_0 (L : FuncId → List V → V → Prop) (K : V → Heap → Prop) : X → Env → Heap → Prop := (fun x => (seqX (fun e h => k_gatepostref04_Same_1 L K  h) (retX c_gatepostref04_Same.results K)) (X.out 0 x))
def lc_gatepostref04_Same_0 : C :=
  (.seq (.seq (.region [⟨(some 11), none, .mv (.t 5)⟩, ⟨(some 12), none, .mv (.t 0)⟩, ⟨(some 13), none, .len 1 (.t 12)⟩, ⟨(some 14), none, .bin .lss (.t 11) (.t 13)⟩])
  (.cond (.t 14)
    .skip
    (.exit 0)))
  (.seq (.block 1 (.seq (.dregion [⟨(some 17), none, .mv (.t 0)⟩, ⟨(some 18), none, .mv (.t 5)⟩, ⟨(some 19), none, .ixaSl 2 (.t 17) (.t 18)⟩, ⟨(some 20), none, .faddr 0 (.t 19)⟩, ⟨(some 21), none, .load false 1 (.t 20)⟩, ⟨(some 22), none, .mv (.t 1)⟩, ⟨(some 23), none, .mv (.t 5)⟩, ⟨(some 24), none, .ixaSl 2 (.t 22) (.t 23)⟩, ⟨(some 25), none, .faddr 0 (.t 24)⟩, ⟨(some 26), none, .load false 1 (.t 25)⟩, ⟨(some 27), none, .bin .neq (.t 21) (.t 26)⟩, ⟨(some 28), none, .mv (.t 27)⟩, ⟨(some 29), (some (28, false)), .mv (.t 0)⟩, ⟨(some 30), (some (28, false)), .mv (.t 5)⟩, ⟨(some 31), (some (28, false)), .ixaSl 2 (.t 29) (.t 30)⟩, ⟨(some 32), (some (28, false)), .faddr 1 (.t 31)⟩, ⟨(some 33), (some (28, false)), .load false 1 (.t 32)⟩, ⟨(some 34), (some (28, false)), .mv (.t 1)⟩, ⟨(some 35), (some (28, false)), .mv (.t 5)⟩, ⟨(some 36), (some (28, false)), .ixaSl 2 (.t 34) (.t 35)⟩, ⟨(some 37), (some (28, false)), .faddr 1 (.t 36)⟩, ⟨(some 38), (some (28, false)), .load false 1 (.t 37)⟩] [⟨(some 39), (some (28, false)), .bin .neq (.t 33) (.t 38)⟩, ⟨(some 40), none, .pick (.t 28) (.c (.bool true)) (.t 39)⟩])
  (.cond (.t 40)
    (.seq (.region [⟨(some 4), none, .mv (.c (.bool false))⟩])
    .ret)
    .skip)))
  (.region [⟨(some 15), none, .mv (.t 5)⟩, ⟨(some 16), none, .bin .add (.t 15) (.c (.int .i64 1))⟩, ⟨(some 5), none, .mv (.t 16)⟩])))
def b_gatepostref04_Same_0 (L : FuncId → List V → V → Prop) (K : V → Heap → Prop) (N0 : Env → Heap → Prop) (e : Env) (h : Heap) : Prop :=
    (wi F L (.len 1 (.c (e 0))) E0 h fun v13 h =>
    (wi F L (.bin .lss (.c (e 5)) (.c v13)) E0 h fun v14 h =>
    (wb v14
    (k_gatepostref04_Same_2 L K N0 (upd (upd (upd (upd e 11 (e 5)) 12 (e 0)) 13 v13) 14 v14) (e 0) (e 1) (e 5) h)
    (k_gatepostref04_Same_1 L K  h))))
theorem l_gatepostref04_Same_0 {L : FuncId → List V → V → Prop} {K : V → Heap → Prop} (I : Nat → Env → Heap → Prop) (hr : ∀ n e h, I n e h → b_gatepostref04_Same_0 L K (fun e' h' => ∃ m, m < n ∧ I m e' h') e h) {n : Nat} {e : Env} {h : Heap} (hi : I n e h) : Wl F L lc_gatepostref04_Same_0 (q_gatepostref04_Same_0 L K) e h :=
  wloopp (b := b_gatepostref04_Same_0 L K) I (fun _ _ _ => by kernel_rfl) hr hi
def k_gatepostref04_Same_0 (L : FuncId → List V → V → Prop) (K : V → Heap → Prop) (e : Env) (h : Heap) : Prop :=
    (Wl F L lc_gatepostref04_Same_0 (q_gatepostref04_Same_0 L K) (upd e 5 (.int .i64 0)) h)
def p_gatepostref04_Same (L : FuncId → List V → V → Prop) (K : V → Heap → Prop) (a0 a1 : V) (h : Heap) : Prop :=
    (wi F L (.len 1 (.c a0)) E0 h fun v7 h =>
    (wi F L (.len 1 (.c a1)) E0 h fun v9 h =>
    (wi F L (.bin .neq (.c v7) (.c v9)) E0 h fun v10 h =>
    (wb v10
    (∃ v, some (.bool false) = some v ∧ K v h)
    (k_gatepostref04_Same_0 L K (upd (upd (upd (upd (upd (upd (enterE [a0, a1]) 4 (.bool false)) 6 a0) 7 v7) 8 a1) 9 v9) 10 v10)  h)))))
theorem run_gatepostref04_Same {L : FuncId → List V → V → Prop} {K : V → Heap → Prop} {a0 a1 : V} {h : Heap} (hp : p_gatepostref04_Same L K a0 a1 h) : Cf F L i_gatepostref04_Same [a0, a1] h K :=
  wcallp F_gatepostref04_Same (show 2 ≤ 41 by decide) (p := p_gatepostref04_Same L K a0 a1 h) (by kernel_rfl) hp
def k_field_without_0 (L : FuncId → List V → V → Prop) (K : V → Heap → Prop) (v0 v5 : V) (h : Heap) : Prop :=
    (wi F L (.mkfn i_field_without_1 [(.c v5)]) E0 h fun v20 h =>
    (wi F L (.call i_field_keep [(.c v0), (.c v20)]) E0 h fun v21 h =>
    (∃ v, some v21 = some v ∧ K v h)))
def k_field_without_2 (L : FuncId → List V → V → Prop) (K : V → Heap → Prop) (N0 : Env → Heap → Prop) (e : Env) (v11 : V) (h : Heap) : Prop :=
    (wi F L (.bin .add (.c v11) (.c (.int .i64 1))) E0 h fun v18 h =>
    (N0 (upd (upd e 18 v18) 11 v18) h))
def k_field_without_1 (L : FuncId → List V → V → Prop) (K : V → Heap → Prop) (N0 : Env → Heap → Prop) (e : Env) (v5 v9 v11 : V) (h : Heap) : Prop :=
    (wi F L (.ixaSl 1 (.c v9) (.c v11)) E0 h fun v13 h =>
    (wi F L (.load false 1 (.c v13)) E0 h fun v14 h =>
    (wi F L (.load false 1 (.c v5)) E0 h fun v15 h' => Ext h h' ∧
    (wi F L (.call i_token_Lower [(.c v14)]) E0 h' fun v17 h => Ext h' h ∧
    (wi F L (.mapset .s (.c v15) (.c v17) (.c (.bool true))) E0 h fun _ h =>
    (k_field_without_2 L K N0 (upd (upd (upd (upd (upd (upd e 13 v13) 14 v14) 7 v14) 15 v15) 16 v14) 17 v17) v11 h))))))
def q_field_without_0 (L : FuncId → List V → V → Prop) (K : V → Heap → Prop) : X → Env → Heap → Prop := (fun x => (seqX (fun e h => k_field_without_0 L K (e 0) (e 5) h) (retX c_field_without.results K)) (X.out 0 x))
def lc_field_without_0 : C :=
  (.seq (.region [⟨(some 12), none, .bin .lss (.t 11) (.t 10)⟩])
  (.seq (.cond (.t 12)
    .skip
    (.exit 0))
  (.seq (.block 1 (.seq (.region [⟨(some 13), none, .ixaSl 1 (.t 9) (.t 11)⟩, ⟨(some 14), none, .load false 1 (.t 13)⟩, ⟨(some 7), none, .mv (.t 14)⟩])
  (.dregion [⟨(some 15), none, .load false 1 (.t 5)⟩, ⟨(some 16), none, .mv (.t 7)⟩, ⟨(some 17), none, .call i_token_Lower [(.t 16)]⟩] [⟨none, none, .mapset .s (.t 15) (.t 17) (.c (.bool true))⟩])))
  (.region [⟨(some 18), none, .bin .add (.t 11) (.c (.int .i64 1))⟩, ⟨(some 11), none, .mv (.t 18)⟩]))))
def b_field_without_0 (L : FuncId → List V → V → Prop) (K : V → Heap → Prop) (N0 : Env → Heap → Prop) (e : Env) (h : Heap) : Prop :=
    (wi F L (.bin .lss (.c (e 11)) (.c (e 10))) E0 h fun v12 h =>
    (wb v12
    (k_field_without_1 L K N0 (upd e 12 v12) (e 5) (e 9) (e 11) h)
    (k_field_without_0 L K (e 0) (e 5) h)))
theorem l_field_without_0 {L : FuncId → List V → V → Prop} {K : V → Heap → Prop} (I : Nat → Env → Heap → Prop) (hr : ∀ n e h, I n e h → b_field_without_0 L K (fun e' h' => ∃ m, m < n ∧ I m e' h') e h) {n : Nat} {e : Env} {h : Heap} (hi : I n e h) : Wl F L lc_field_without_0 (q_field_without_0 L K) e h :=
  wloopp (b := b_field_without_0 L K) I (fun _ _ _ => by kernel_rfl) hr hi
def p_field_without (L : FuncId → List V → V → Prop) (K : V → Heap → Prop) (a0 a1 : V) (h : Heap) : Prop :=
    (wi F L (.mkmap) E0 h fun v8 h =>
    (wi F L (.boxz [.nmap]) E0 h fun v5 h =>
    (wi F L (.store 1 (.c v5) (.c v8)) E0 h fun _ h =>
    (wi F L (.len 1 (.c a1)) E0 h fun v10 h =>
    (Wl F L lc_field_without_0 (q_field_without_0 L K) (upd (upd (upd (upd (upd (upd (enterE [a0, a1]) 4 .nsl) 8 v8) 5 v5) 9 a1) 10 v10) 11 (.int .i64 0)) h)))))
theorem run_field_without {L : FuncId → List V → V → Prop} {K : V → Heap → Prop} {a0 a1 : V} {h : Heap} (hp : p_field_without L K a0 a1 h) : Cf F L i_field_without [a0, a1] h K :=
  wcallp F_field_without (show 2 ≤ 22 by decide) (p := p_field_without L K a0 a1 h) (by kernel_rfl) hp
def k_token_Lower_0 (L : FuncId → List V → V → Prop) (K : V → Heap → Prop) (v3 : V) (h : Heap) : Prop :=
    (wi F L (.toStr (.c v3)) E0 h fun v28 h =>
    (∃ v, some v28 = some v ∧ K v h))
def k_token_Lower_2 (L : FuncId → List V → V → Prop) (K : V → Heap → Prop) (N0 : Env → Heap → Prop) (e : Env) (v10 : V) (h : Heap) : Prop :=
    (wi F L (.bin .add (.c v10) (.c (.int .i64 1))) E0 h fun v26 h =>
    (N0 (upd (upd e 26 v26) 10 v26) h))
def k_token_Lower_1 (L : FuncId → List V → V → Prop) (K : V → Heap → Prop) (N0 : Env → Heap → Prop) (e : Env) (v3 v8 v10 : V) (h : Heap) : Prop :=
    (wi F L (.ixaSl 1 (.c v8) (.c v10)) E0 h fun v13 h =>
    (wi F L (.load false 1 (.c v13)) E0 h fun v14 h =>
    (wi F L (.bin .geq (.c v14) (.c (.int .u8 65))) E0 h fun v16 h =>
    (wg v16 true (wi F L (.mv (.c v14)) E0 h) h fun v18 h =>
    (wg v16 true (wi F L (.bin .leq (.c v18) (.c (.int .u8 90))) E0 h) h fun v19 h =>
    (wi F L (.pick (.c v16) (.c v19) (.c (.bool false))) E0 h fun v20 h =>
    (wb v20
    (wi F L (.bin .or (.c v14) (.c (.int .u8 32))) E0 h fun v24 h =>
    (wi F L (.ixaSl 1 (.c v3) (.c v10)) E0 h fun v25 h =>
    (wi F L (.store 1 (.c v25) (.c v24)) E0 h fun _ h =>
    (k_token_Lower_2 L K N0 (upd (upd (upd (upd (upd (upd (upd (upd (upd (upd (upd (upd (upd (upd (upd (upd e 12 v10) 13 v13) 14 v14) 4 v10) 5 v14) 15 v14) 16 v16) 17 v16) 18 v18) 19 v19) 20 v20) 21 v3) 22 v10) 23 v14) 24 v24) 25 v25) v10 h))))
    (k_token_Lower_2 L K N0 (upd (upd (upd (upd (upd (upd (upd (upd (upd (upd (upd e 12 v10) 13 v13) 14 v14) 4 v10) 5 v14) 15 v14) 16 v16) 17 v16) 18 v18) 19 v19) 20 v20) v10 h))))))))
def q_token_Lower_0 (L : FuncId → List V → V → Prop) (K : V → Heap → Prop) : X → Env → Heap → Prop := (fun x => (seqX (fun e h => k_token_Lower_0 L K (e 3) h) (retX c_token_Lower.results K)) (X.out 0 x))
def lc_token_Lower_0 : C :=
  (.seq (.region [⟨(some 11), none, .bin .lss (.t 10) (.t 9)⟩])
  (.seq (.cond (.t 11)
    .skip
    (.exit 0))
  (.seq (.block 1 (.seq (.region [⟨(some 12), none, .mv (.t 10)⟩, ⟨(some 13), none, .ixaSl 1 (.t 8) (.t 10)⟩, ⟨(some 14), none, .load false 1 (.t 13)⟩, ⟨(some 4), none, .mv (.t 12)⟩, ⟨(some 5), none, .mv (.t 14)⟩])
  (.seq (.region [⟨(some 15), none, .mv (.t 5)⟩, ⟨(some 16), none, .bin .geq (.t 15) (.c (.int .u8 65))⟩, ⟨(some 17), none, .mv (.t 16)⟩, ⟨(some 18), (some (17, true)), .mv (.t 5)⟩, ⟨(some 19), (some (17, true)), .bin .leq (.t 18) (.c (.int .u8 90))⟩, ⟨(some 20), none, .pick (.t 17) (.t 19) (.c (.bool false))⟩])
  (.cond (.t 20)
    (.region [⟨(some 21), none, .mv (.t 3)⟩, ⟨(some 22), none, .mv (.t 4)⟩, ⟨(some 23), none, .mv (.t 5)⟩, ⟨(some 24), none, .bin .or (.t 23) (.c (.int .u8 32))⟩, ⟨(some 25), none, .ixaSl 1 (.t 21) (.t 22)⟩, ⟨none, none, .store 1 (.t 25) (.t 24)⟩])
    .skip))))
  (.region [⟨(some 26), none, .bin .add (.t 10) (.c (.int .i64 1))⟩, ⟨(some 10), none, .mv (.t 26)⟩]))))
def b_token_Lower_0 (L : FuncId → List V → V → Prop) (K : V → Heap → Prop) (N0 : Env → Heap → Prop) (e : Env) (h : Heap) : Prop :=
    (wi F L (.bin .lss (.c (e 10)) (.c (e 9))) E0 h fun v11 h =>
    (wb v11
    (k_token_Lower_1 L K N0 (upd e 11 v11) (e 3) (e 8) (e 10) h)
    (k_token_Lower_0 L K (e 3) h)))
theorem l_token_Lower_0 {L : FuncId → List V → V → Prop} {K : V → Heap → Prop} (I : Nat → Env → Heap → Prop) (hr : ∀ n e h, I n e h → b_token_Lower_0 L K (fun e' h' => ∃ m, m < n ∧ I m e' h') e h) {n : Nat} {e : Env} {h : Heap} (hi : I n e h) : Wl F L lc_token_Lower_0 (q_token_Lower_0 L K) e h :=
  wloopp (b := b_token_Lower_0 L K) I (fun _ _ _ => by kernel_rfl) hr hi
def p_token_Lower (L : FuncId → List V → V → Prop) (K : V → Heap → Prop) (a0 : V) (h : Heap) : Prop :=
    (wi F L (.toBytes (.c a0)) E0 h fun v7 h =>
    (wi F L (.len 1 (.c v7)) E0 h fun v9 h =>
    (Wl F L lc_token_Lower_0 (q_token_Lower_0 L K) (upd (upd (upd (upd (upd (upd (upd (enterE [a0]) 2 (.str [])) 6 a0) 7 v7) 3 v7) 8 v7) 9 v9) 10 (.int .i64 0)) h)))
theorem run_token_Lower {L : FuncId → List V → V → Prop} {K : V → Heap → Prop} {a0 : V} {h : Heap} (hp : p_token_Lower L K a0 h) : Cf F L i_token_Lower [a0] h K :=
  wcallp F_token_Lower (show 1 ≤ 29 by decide) (p := p_token_Lower L K a0 h) (by kernel_rfl) hp
def k_field_keep_0 (L : FuncId → List V → V → Prop) (K : V → Heap → Prop) (v5 : V) (h : Heap) : Prop :=
    (∃ v, some v5 = some v ∧ K v h)
def k_field_keep_2 (L : FuncId → List V → V → Prop) (K : V → Heap → Prop) (N0 : Env → Heap → Prop) (e : Env) (v10 : V) (h : Heap) : Prop :=
    (wi F L (.bin .add (.c v10) (.c (.int .i64 1))) E0 h fun v21 h =>
    (N0 (upd (upd e 21 v21) 10 v21) h))
def k_field_keep_1 (L : FuncId → List V → V → Prop) (K : V → Heap → Prop) (N0 : Env → Heap → Prop) (e : Env) (v1 v5 v8 v10 : V) (h : Heap) : Prop :=
    (wi F L (.ixaSl 2 (.c v8) (.c v10)) E0 h fun v12 h =>
    (wi F L (.load true 2 (.c v12)) E0 h fun v13 h =>
    (wi F L (.boxz [(.str []), (.str [])]) E0 h fun v7 h =>
    (wi F L (.store 2 (.c v7) (.c v13)) E0 h fun _ h =>
    (wi F L (.load true 2 (.c v7)) E0 h fun v15 h =>
    (wi F L (.callv (.c v1) [(.c v15)]) E0 h fun v16 h =>
    (wb v16
    (wi F L (.load true 2 (.c v7)) E0 h fun v18 h =>
    (wi F L (.bsl 2 [(.c v18)]) E0 h fun v19 h =>
    (wi F L (.app 2 32 false (.c v5) (.c v19)) E0 h fun v20 h =>
    (k_field_keep_2 L K N0 (upd (upd (upd (upd (upd (upd (upd (upd (upd (upd (upd e 12 v12) 13 v13) 7 v7) 14 v1) 15 v15) 16 v16) 17 v5) 18 v18) 19 v19) 20 v20) 5 v20) v10 h))))
    (k_field_keep_2 L K N0 (upd (upd (upd (upd (upd (upd e 12 v12) 13 v13) 7 v7) 14 v1) 15 v15) 16 v16) v10 h))))))))
def q_field_keep_0 (L : FuncId → List V → V → Prop) (K : V → Heap → Prop) : X → Env → Heap → Prop := (fun x => (seqX (fun e h => k_field_keep_0 L K (e 5) h) (retX c_field_keep.results K)) (X.out 0 x))
def lc_field_keep_0 : C :=
  (.seq (.region [⟨(some 11), none, .bin .lss (.t 10) (.t 9)⟩])
  (.seq (.cond (.t 11)
    .skip
    (.exit 0))
  (.seq (.block 1 (.seq (.region [⟨(some 12), none, .ixaSl 2 (.t 8) (.t 10)⟩, ⟨(some 13), none, .load true 2 (.t 12)⟩, ⟨(some 7), none, .boxz [(.str []), (.str [])]⟩, ⟨none, none, .store 2 (.t 7) (.t 13)⟩])
  (.seq (.region [⟨(some 14), none, .mv (.t 1)⟩, ⟨(some 15), none, .load true 2 (.t 7)⟩, ⟨(some 16), none, .callv (.t 14) [(.t 15)]⟩])
  (.cond (.t 16)
    (.region [⟨(some 17), none, .mv (.t 5)⟩, ⟨(some 18), none, .load true 2 (.t 7)⟩, ⟨(some 19), none, .bsl 2 [(.t 18)]⟩, ⟨(some 20), none, .app 2 32 false (.t 17) (.t 19)⟩, ⟨(some 5), none, .mv (.t 20)⟩])
    .skip))))
  (.region [⟨(some 21), none, .bin .add (.t 10) (.c (.int .i64 1))⟩, ⟨(some 10), none, .mv (.t 21)⟩]))))
def b_field_keep_0 (L : FuncId → List V → V → Prop) (K : V → Heap → Prop) (N0 : Env → Heap → Prop) (e : Env) (h : Heap) : Prop :=
    (wi F L (.bin .lss (.c (e 10)) (.c (e 9))) E0 h fun v11 h =>
    (wb v11
    (k_field_keep_1 L K N0 (upd e 11 v11) (e 1) (e 5) (e 8) (e 10) h)
    (k_field_keep_0 L K (e 5) h)))
theorem l_field_keep_0 {L : FuncId → List V → V → Prop} {K : V → Heap → Prop} (I : Nat → Env → Heap → Prop) (hr : ∀ n e h, I n e h → b_field_keep_0 L K (fun e' h' => ∃ m, m < n ∧ I m e' h') e h) {n : Nat} {e : Env} {h : Heap} (hi : I n e h) : Wl F L lc_field_keep_0 (q_field_keep_0 L K) e h :=
  wloopp (b := b_field_keep_0 L K) I (fun _ _ _ => by kernel_rfl) hr hi
def p_field_keep (L : FuncId → List V → V → Prop) (K : V → Heap → Prop) (a0 a1 : V) (h : Heap) : Prop :=
    (wi F L (.len 1 (.c a0)) E0 h fun v9 h =>
    (Wl F L lc_field_keep_0 (q_field_keep_0 L K) (upd (upd (upd (upd (upd (enterE [a0, a1]) 4 .nsl) 5 .nsl) 8 a0) 9 v9) 10 (.int .i64 0)) h))
theorem run_field_keep {L : FuncId → List V → V → Prop} {K : V → Heap → Prop} {a0 a1 : V} {h : Heap} (hp : p_field_keep L K a0 a1 h) : Cf F L i_field_keep [a0, a1] h K :=
  wcallp F_field_keep (show 2 ≤ 23 by decide) (p := p_field_keep L K a0 a1 h) (by kernel_rfl) hp
def p_field_without_1 (L : FuncId → List V → V → Prop) (K : V → Heap → Prop) (a0 a1 : V) (h : Heap) : Prop :=
    (wi F L (.box (.c a0)) E0 h fun v2 h =>
    (wi F L (.load false 1 (.c a1)) E0 h fun v4 h' => Ext h h' ∧
    (wi F L (.faddr 0 (.c v2)) E0 h' fun v5 h => Ext h' h ∧
    (wi F L (.load false 1 (.c v5)) E0 h fun v6 h' => Ext h h' ∧
    (wi F L (.call i_token_Lower [(.c v6)]) E0 h' fun v7 h => Ext h' h ∧
    (wi F L (.lookup .s (.bool false) false (.c v4) (.c v7)) E0 h fun v8 h =>
    (wi F L (.un .not (.c v8)) E0 h fun v9 h =>
    (∃ v, some v9 = some v ∧ K v h))))))))
theorem run_field_without_1 {L : FuncId → List V → V → Prop} {K : V → Heap → Prop} {a0 a1 : V} {h : Heap} (hp : p_field_without_1 L K a0 a1 h) : Cf F L i_field_without_1 [a0, a1] h K :=
  wcallp F_field_without_1 (show 2 ≤ 10 by decide) (p := p_field_without_1 L K a0 a1 h) (by kernel_rfl) hp
theorem hF : ∀ f fn, F f = some fn → compF Try.prog f = some fn := lookup_all ⟨kc_gatepostlaw04_FieldSets, kc_gatepostlaw04_few, kc_field_Set, kc_field_Get, kc_field_Del, kc_token_Same, kc_gatepostref04_Same, kc_field_without, kc_token_Lower, kc_field_keep, kc_field_without_1, trivial⟩
theorem hm : Try.prog.follows .mixedOrders = true := by kernel_rfl
end Go.Proofs.Ytfnepflonoadkaa.Vh
