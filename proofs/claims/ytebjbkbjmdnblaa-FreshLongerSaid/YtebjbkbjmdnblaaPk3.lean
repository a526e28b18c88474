/- The functions of a seat, compiled for the small machine. Printed by Print.lean. -/
import Derived.Test.YtebjbkbjmdnblaaProg
import Derived.Test.YtebjbkbjmdnblaaPk2
import Derived.KernelRfl
section
set_option maxRecDepth 100000
set_option linter.unusedVariables false
namespace Go.Proofs.Ytebjbkbjmdnblaa.Vh
open Go.Vm
def i_gatepostlaw09_FreshAges : FuncId := 3
def i_gatepostlaw09_FreshTells : FuncId := 4
def i_gatepostlaw09_FreshGrows : FuncId := 5
def i_gatepostlaw09_FreshAsks : FuncId := 6
def i_gatepostlaw09_FreshLonger : FuncId := 7
def i_fresh_Age : FuncId := 8
def i_fresh_Heuristic : FuncId := 9
def i_gatepostref09_Age : FuncId := 10
def i_fresh_Lifetime : FuncId := 11
def i_gatepostref09_Lifetime : FuncId := 12
def i_fresh_State : FuncId := 13
def i_gatepostref09_State : FuncId := 14
def i_gatepostref09_Heuristic : FuncId := 15
def i_fresh_Age_1 : FuncId := 16
def i_fresh_since : FuncId := 17
def i_fresh_keeps : FuncId := 18
def i_gatepostref09_less : FuncId := 19
def i_gatepostref09_cut : FuncId := 20
def i_gatepostref09_atMost : FuncId := 21
def i_fresh_late : FuncId := 22
/-- gatepost/gatepostlaw09.FreshAges -/
def c_gatepostlaw09_FreshAges : FnC := ⟨59, [.tmp 6],
  (.seq (.region [⟨(some 3), none, .box (.t 0)⟩, ⟨(some 6), none, .mv (.c (.bool false))⟩])
  (.seq (.region [⟨(some 11), none, .mv (.t 2)⟩, ⟨(some 12), none, .bin .and (.t 11) (.c (.int .i64 65535))⟩, ⟨(some 2), none, .mv (.t 12)⟩])
  (.seq (.region [⟨(some 13), none, .load true 21 (.t 3)⟩, ⟨(some 7), none, .boxz [(.int .i64 0), (.bool false), (.bool false), (.bool false), (.bool false), (.bool false), (.bool false), (.bool false), (.int .i64 0), (.int .i64 0), (.int .i64 0), (.int .i64 0), (.int .i64 0), (.int .i64 0), (.int .i64 0), (.int .i64 0), (.int .i64 0), (.int .i64 0), (.int .i64 0), (.int .i64 0), (.str [])]⟩, ⟨none, none, .store 21 (.t 7) (.t 13)⟩])
  (.seq (.region [⟨(some 14), none, .faddr 17 (.t 7)⟩, ⟨(some 15), none, .load false 1 (.t 14)⟩, ⟨(some 16), none, .bin .and (.t 15) (.c (.int .i64 1048575))⟩, ⟨(some 17), none, .mv (.t 2)⟩, ⟨(some 18), none, .bin .add (.t 16) (.t 17)⟩, ⟨(some 19), none, .faddr 17 (.t 7)⟩, ⟨none, none, .store 1 (.t 19) (.t 18)⟩])
  (.seq (.region [⟨(some 20), none, .load true 21 (.t 3)⟩, ⟨(some 8), none, .boxz [(.int .i64 0), (.bool false), (.bool false), (.bool false), (.bool false), (.bool false), (.bool false), (.bool false), (.int .i64 0), (.int .i64 0), (.int .i64 0), (.int .i64 0), (.int .i64 0), (.int .i64 0), (.int .i64 0), (.int .i64 0), (.int .i64 0), (.int .i64 0), (.int .i64 0), (.int .i64 0), (.str [])]⟩, ⟨none, none, .store 21 (.t 8) (.t 20)⟩])
  (.seq (.region [⟨(some 21), none, .faddr 17 (.t 8)⟩, ⟨(some 22), none, .load false 1 (.t 21)⟩, ⟨(some 23), none, .bin .and (.t 22) (.c (.int .i64 1048575))⟩, ⟨(some 24), none, .faddr 17 (.t 8)⟩, ⟨none, none, .store 1 (.t 24) (.t 23)⟩])
  (.seq (.seq (.dregion [⟨(some 25), none, .load true 21 (.t 7)⟩, ⟨(some 26), none, .mv (.t 1)⟩, ⟨(some 27), none, .call i_fresh_Age [(.t 25), (.t 26)]⟩, ⟨(some 28), none, .load true 21 (.t 8)⟩, ⟨(some 29), none, .mv (.t 1)⟩] [⟨(some 30), none, .call i_fresh_Age [(.t 28), (.t 29)]⟩, ⟨(some 31), none, .bin .lss (.t 27) (.t 30)⟩, ⟨(some 32), none, .mv (.t 31)⟩, ⟨(some 33), (some (32, false)), .call i_fresh_Heuristic [(.c (.int .i64 206))]⟩, ⟨(some 34), (some (32, false)), .un .not (.t 33)⟩, ⟨(some 35), none, .pick (.t 32) (.c (.bool true)) (.t 34)⟩])
  (.cond (.t 35)
    (.seq (.region [⟨(some 6), none, .mv (.c (.bool false))⟩])
    .ret)
    .skip))
  (.seq (.region [⟨(some 36), none, .build [(.int .i64 0), (.bool false), (.bool false), (.bool false), (.bool false), (.bool false), (.bool false), (.bool false), (.int .i64 0), (.int .i64 0), (.int .i64 0), (.int .i64 0), (.int .i64 0), (.int .i64 0), (.int .i64 0), (.int .i64 0), (.int .i64 0), (.int .i64 0), (.int .i64 0), (.int .i64 0), (.str [])] [(14, 1, (.c (.int .i64 (-1)))), (15, 1, (.c (.int .i64 (-1)))), (16, 1, (.c (.int .i64 (-1)))), (17, 1, (.c (.int .i64 (-1)))), (18, 1, (.c (.int .i64 (-1)))), (19, 1, (.c (.int .i64 (-1))))]⟩, ⟨(some 9), none, .boxz [(.int .i64 0), (.bool false), (.bool false), (.bool false), (.bool false), (.bool false), (.bool false), (.bool false), (.int .i64 0), (.int .i64 0), (.int .i64 0), (.int .i64 0), (.int .i64 0), (.int .i64 0), (.int .i64 0), (.int .i64 0), (.int .i64 0), (.int .i64 0), (.int .i64 0), (.int .i64 0), (.str [])]⟩, ⟨none, none, .store 21 (.t 9) (.t 36)⟩])
  (.seq (.region [⟨(some 37), none, .load true 21 (.t 9)⟩, ⟨(some 10), none, .boxz [(.int .i64 0), (.bool false), (.bool false), (.bool false), (.bool false), (.bool false), (.bool false), (.bool false), (.int .i64 0), (.int .i64 0), (.int .i64 0), (.int .i64 0), (.int .i64 0), (.int .i64 0), (.int .i64 0), (.int .i64 0), (.int .i64 0), (.int .i64 0), (.int .i64 0), (.int .i64 0), (.str [])]⟩, ⟨none, none, .store 21 (.t 10) (.t 37)⟩])
  (.seq (.region [⟨(some 38), none, .faddr 19 (.t 10)⟩, ⟨none, none, .store 1 (.t 38) (.c (.int .i64 100))⟩, ⟨(some 39), none, .faddr 18 (.t 10)⟩, ⟨none, none, .store 1 (.t 39) (.c (.int .i64 90))⟩, ⟨(some 40), none, .faddr 17 (.t 10)⟩, ⟨none, none, .store 1 (.t 40) (.c (.int .i64 7))⟩])
  (.seq (.region [⟨(some 41), none, .load true 21 (.t 9)⟩, ⟨(some 42), none, .mv (.t 1)⟩, ⟨(some 43), none, .call i_fresh_Age [(.t 41), (.t 42)]⟩, ⟨(some 44), none, .bin .eql (.t 43) (.c (.int .i64 0))⟩, ⟨(some 45), none, .mv (.t 44)⟩, ⟨(some 46), (some (45, true)), .load true 21 (.t 10)⟩, ⟨(some 47), (some (45, true)), .mv (.t 2)⟩, ⟨(some 48), (some (45, true)), .bin .add (.c (.int .i64 100)) (.t 47)⟩, ⟨(some 49), (some (45, true)), .call i_fresh_Age [(.t 46), (.t 48)]⟩, ⟨(some 50), (some (45, true)), .mv (.t 2)⟩, ⟨(some 51), (some (45, true)), .bin .add (.c (.int .i64 17)) (.t 50)⟩, ⟨(some 52), (some (45, true)), .bin .eql (.t 49) (.t 51)⟩, ⟨(some 53), none, .pick (.t 45) (.t 52) (.c (.bool false))⟩, ⟨(some 54), none, .mv (.t 53)⟩, ⟨(some 55), (some (54, true)), .load true 21 (.t 10)⟩, ⟨(some 56), (some (54, true)), .call i_fresh_Age [(.t 55), (.c (.int .i64 (-1)))]⟩, ⟨(some 57), (some (54, true)), .bin .eql (.t 56) (.c (.int .i64 17))⟩, ⟨(some 58), none, .pick (.t 54) (.t 57) (.c (.bool false))⟩, ⟨(some 6), none, .mv (.t 58)⟩])
  .ret)))))))))))⟩
/-- gatepost/gatepostlaw09.FreshTells -/
def c_gatepostlaw09_FreshTells : FnC := ⟨44, [.tmp 6],
  (.seq (.region [⟨(some 3), none, .box (.t 0)⟩, ⟨(some 4), none, .box (.t 1)⟩, ⟨(some 6), none, .mv (.c (.bool false))⟩])
  (.seq (.dregion [⟨(some 7), none, .load true 21 (.t 3)⟩, ⟨(some 8), none, .mv (.t 2)⟩, ⟨(some 9), none, .call i_fresh_Age [(.t 7), (.t 8)]⟩, ⟨(some 10), none, .load true 21 (.t 3)⟩, ⟨(some 11), none, .mv (.t 2)⟩, ⟨(some 12), none, .call i_gatepostref09_Age [(.t 10), (.t 11)]⟩, ⟨(some 13), none, .bin .eql (.t 9) (.t 12)⟩, ⟨(some 14), none, .mv (.t 13)⟩, ⟨(some 15), (some (14, true)), .load true 21 (.t 3)⟩, ⟨(some 16), (some (14, true)), .call i_fresh_Lifetime [(.t 15)]⟩, ⟨(some 17), (some (14, true)), .load true 21 (.t 3)⟩, ⟨(some 18), (some (14, true)), .call i_gatepostref09_Lifetime [(.t 17)]⟩, ⟨(some 19), (some (14, true)), .bin .eql (.t 16) (.t 18)⟩, ⟨(some 20), none, .pick (.t 14) (.t 19) (.c (.bool false))⟩, ⟨(some 21), none, .mv (.t 20)⟩, ⟨(some 22), (some (21, true)), .load true 21 (.t 3)⟩, ⟨(some 23), (some (21, true)), .load true 13 (.t 4)⟩, ⟨(some 24), (some (21, true)), .mv (.t 2)⟩, ⟨(some 25), (some (21, true)), .call i_fresh_State [(.t 22), (.t 23), (.t 24)]⟩, ⟨(some 26), (some (21, true)), .load true 21 (.t 3)⟩, ⟨(some 27), (some (21, true)), .load true 13 (.t 4)⟩, ⟨(some 28), (some (21, true)), .mv (.t 2)⟩, ⟨(some 29), (some (21, true)), .call i_gatepostref09_State [(.t 26), (.t 27), (.t 28)]⟩, ⟨(some 30), (some (21, true)), .bin .eql (.t 25) (.t 29)⟩, ⟨(some 31), none, .pick (.t 21) (.t 30) (.c (.bool false))⟩, ⟨(some 32), none, .mv (.t 31)⟩, ⟨(some 33), (some (32, true)), .faddr 0 (.t 3)⟩, ⟨(some 34), (some (32, true)), .load false 1 (.t 33)⟩, ⟨(some 35), (some (32, true)), .call i_fresh_Heuristic [(.t 34)]⟩, ⟨(some 36), (some (32, true)), .faddr 0 (.t 3)⟩, ⟨(some 37), (some (32, true)), .load false 1 (.t 36)⟩] [⟨(some 38), (some (32, true)), .call i_gatepostref09_Heuristic [(.t 37)]⟩, ⟨(some 39), (some (32, true)), .eq .bool false (.t 35) (.t 38)⟩, ⟨(some 40), none, .pick (.t 32) (.t 39) (.c (.bool false))⟩, ⟨(some 41), none, .mv (.t 40)⟩, ⟨(some 42), (some (41, true)), .call i_fresh_Heuristic [(.c (.int .i64 404))]⟩, ⟨(some 43), none, .pick (.t 41) (.t 42) (.c (.bool false))⟩, ⟨(some 6), none, .mv (.t 43)⟩])
  .ret))⟩
/-- gatepost/gatepostlaw09.FreshGrows -/
def c_gatepostlaw09_FreshGrows : FnC := ⟨105, [.tmp 4],
  (.seq (.region [⟨(some 2), none, .box (.t 0)⟩, ⟨(some 3), none, .box (.t 1)⟩, ⟨(some 4), none, .mv (.c (.bool false))⟩])
  (.seq (.seq (.region [⟨(some 13), none, .faddr 19 (.t 2)⟩, ⟨(some 14), none, .load false 1 (.t 13)⟩, ⟨(some 15), none, .bin .lss (.t 14) (.c (.int .i64 0))⟩, ⟨(some 16), none, .mv (.t 15)⟩, ⟨(some 17), (some (16, false)), .faddr 19 (.t 2)⟩, ⟨(some 18), (some (16, false)), .load false 1 (.t 17)⟩, ⟨(some 19), (some (16, false)), .bin .gtr (.t 18) (.c (.int .i64 1073741824))⟩, ⟨(some 20), none, .pick (.t 16) (.c (.bool true)) (.t 19)⟩, ⟨(some 21), none, .mv (.t 20)⟩, ⟨(some 22), (some (21, false)), .faddr 17 (.t 2)⟩, ⟨(some 23), (some (21, false)), .load false 1 (.t 22)⟩, ⟨(some 24), (some (21, false)), .bin .gtr (.t 23) (.c (.int .i64 536870912))⟩, ⟨(some 25), none, .pick (.t 21) (.c (.bool true)) (.t 24)⟩, ⟨(some 26), none, .mv (.t 25)⟩, ⟨(some 27), (some (26, false)), .faddr 14 (.t 2)⟩, ⟨(some 28), (some (26, false)), .load false 1 (.t 27)⟩, ⟨(some 29), (some (26, false)), .bin .gtr (.t 28) (.c (.int .i64 1073741824))⟩, ⟨(some 30), none, .pick (.t 26) (.c (.bool true)) (.t 29)⟩, ⟨(some 31), none, .mv (.t 30)⟩, ⟨(some 32), (some (31, false)), .faddr 18 (.t 2)⟩, ⟨(some 33), (some (31, false)), .load false 1 (.t 32)⟩, ⟨(some 34), (some (31, false)), .bin .gtr (.t 33) (.c (.int .i64 1073741824))⟩, ⟨(some 35), none, .pick (.t 31) (.c (.bool true)) (.t 34)⟩])
  (.cond (.t 35)
    (.region [⟨(some 36), none, .faddr 19 (.t 2)⟩, ⟨(some 37), none, .load false 1 (.t 36)⟩, ⟨(some 38), none, .bin .and (.t 37) (.c (.int .i64 65535))⟩, ⟨(some 39), none, .faddr 17 (.t 2)⟩, ⟨(some 40), none, .load false 1 (.t 39)⟩, ⟨(some 41), none, .bin .and (.t 40) (.c (.int .i64 255))⟩, ⟨(some 42), none, .faddr 14 (.t 2)⟩, ⟨(some 43), none, .load false 1 (.t 42)⟩, ⟨(some 44), none, .bin .and (.t 43) (.c (.int .i64 65535))⟩, ⟨(some 45), none, .faddr 18 (.t 2)⟩, ⟨(some 46), none, .load false 1 (.t 45)⟩, ⟨(some 47), none, .bin .and (.t 46) (.c (.int .i64 65535))⟩, ⟨(some 48), none, .faddr 19 (.t 2)⟩, ⟨none, none, .store 1 (.t 48) (.t 38)⟩, ⟨(some 49), none, .faddr 17 (.t 2)⟩, ⟨none, none, .store 1 (.t 49) (.t 41)⟩, ⟨(some 50), none, .faddr 14 (.t 2)⟩, ⟨none, none, .store 1 (.t 50) (.t 44)⟩, ⟨(some 51), none, .faddr 18 (.t 2)⟩, ⟨none, none, .store 1 (.t 51) (.t 47)⟩])
    .skip))
  (.seq (.dregion [⟨(some 52), none, .ixaArr 2 1 (.t 3) (.c (.int .i64 0))⟩, ⟨(some 53), none, .load false 1 (.t 52)⟩, ⟨(some 54), none, .bin .and (.t 53) (.c (.int .i64 1048575))⟩, ⟨(some 55), none, .ixaArr 2 1 (.t 3) (.c (.int .i64 1))⟩, ⟨(some 56), none, .load false 1 (.t 55)⟩, ⟨(some 57), none, .bin .and (.t 56) (.c (.int .i64 1048575))⟩, ⟨(some 5), none, .mv (.t 54)⟩] [⟨(some 6), none, .mv (.t 57)⟩])
  (.seq (.region [⟨(some 58), none, .faddr 19 (.t 2)⟩, ⟨(some 59), none, .load false 1 (.t 58)⟩, ⟨(some 60), none, .mv (.t 5)⟩, ⟨(some 61), none, .bin .add (.t 59) (.t 60)⟩, ⟨(some 7), none, .mv (.t 61)⟩])
  (.seq (.region [⟨(some 62), none, .build [(.bool false), (.bool false), (.bool false), (.bool false), (.bool false), (.bool false), (.bool false), (.int .i64 0), (.int .i64 0), (.int .i64 0), (.int .i64 0), (.int .i64 0), (.int .i64 0)] [(7, 1, (.c (.int .i64 (-1)))), (11, 1, (.c (.int .i64 (-1)))), (12, 1, (.c (.int .i64 (-1))))]⟩, ⟨(some 8), none, .boxz [(.bool false), (.bool false), (.bool false), (.bool false), (.bool false), (.bool false), (.bool false), (.int .i64 0), (.int .i64 0), (.int .i64 0), (.int .i64 0), (.int .i64 0), (.int .i64 0)]⟩, ⟨none, none, .store 13 (.t 8) (.t 62)⟩])
  (.seq (.dregion [⟨(some 63), none, .load true 21 (.t 2)⟩, ⟨(some 64), none, .mv (.t 7)⟩, ⟨(some 65), none, .call i_fresh_Age [(.t 63), (.t 64)]⟩, ⟨(some 66), none, .load true 21 (.t 2)⟩, ⟨(some 67), none, .mv (.t 7)⟩, ⟨(some 68), none, .mv (.t 6)⟩, ⟨(some 69), none, .bin .add (.t 67) (.t 68)⟩] [⟨(some 70), none, .call i_fresh_Age [(.t 66), (.t 69)]⟩, ⟨(some 9), none, .mv (.t 65)⟩, ⟨(some 10), none, .mv (.t 70)⟩])
  (.seq (.seq (.region [⟨(some 71), none, .mv (.t 10)⟩, ⟨(some 72), none, .mv (.t 9)⟩, ⟨(some 73), none, .mv (.t 6)⟩, ⟨(some 74), none, .bin .add (.t 72) (.t 73)⟩, ⟨(some 75), none, .bin .neq (.t 71) (.t 74)⟩, ⟨(some 76), none, .mv (.t 75)⟩, ⟨(some 77), (some (76, false)), .call i_fresh_Heuristic [(.c (.int .i64 200))]⟩, ⟨(some 78), (some (76, false)), .un .not (.t 77)⟩, ⟨(some 79), none, .pick (.t 76) (.c (.bool true)) (.t 78)⟩])
  (.cond (.t 79)
    (.seq (.region [⟨(some 4), none, .mv (.c (.bool false))⟩])
    .ret)
    .skip))
  (.seq (.dregion [⟨(some 80), none, .load true 21 (.t 2)⟩, ⟨(some 81), none, .load true 13 (.t 8)⟩, ⟨(some 82), none, .mv (.t 7)⟩, ⟨(some 83), none, .call i_fresh_State [(.t 80), (.t 81), (.t 82)]⟩, ⟨(some 84), none, .load true 21 (.t 2)⟩, ⟨(some 85), none, .load true 13 (.t 8)⟩, ⟨(some 86), none, .mv (.t 7)⟩, ⟨(some 87), none, .mv (.t 6)⟩, ⟨(some 88), none, .bin .add (.t 86) (.t 87)⟩] [⟨(some 89), none, .call i_fresh_State [(.t 84), (.t 85), (.t 88)]⟩, ⟨(some 11), none, .mv (.t 83)⟩, ⟨(some 12), none, .mv (.t 89)⟩])
  (.seq (.seq (.region [⟨(some 90), none, .mv (.t 12)⟩, ⟨(some 91), none, .mv (.t 11)⟩, ⟨(some 92), none, .bin .lss (.t 90) (.t 91)⟩])
  (.cond (.t 92)
    (.seq (.region [⟨(some 4), none, .mv (.c (.bool false))⟩])
    .ret)
    .skip))
  (.seq (.region [⟨(some 93), none, .faddr 1 (.t 2)⟩, ⟨(some 94), none, .faddr 1 (.t 93)⟩, ⟨(some 95), none, .load false 1 (.t 94)⟩, ⟨(some 96), none, .mv (.t 95)⟩, ⟨(some 97), (some (96, false)), .mv (.t 11)⟩, ⟨(some 98), (some (96, false)), .bin .eql (.t 97) (.c (.int .i64 0))⟩, ⟨(some 99), (some (96, false)), .mv (.t 9)⟩, ⟨(some 100), (some (96, false)), .load true 21 (.t 2)⟩, ⟨(some 101), (some (96, false)), .call i_fresh_Lifetime [(.t 100)]⟩, ⟨(some 102), (some (96, false)), .bin .lss (.t 99) (.t 101)⟩, ⟨(some 103), (some (96, false)), .eq .bool false (.t 98) (.t 102)⟩, ⟨(some 104), none, .pick (.t 96) (.c (.bool true)) (.t 103)⟩, ⟨(some 4), none, .mv (.t 104)⟩])
  .ret))))))))))⟩
/-- gatepost/gatepostlaw09.FreshAsks -/
def c_gatepostlaw09_FreshAsks : FnC := ⟨73, [.tmp 6],
  (.seq (.region [⟨(some 3), none, .box (.t 0)⟩, ⟨(some 4), none, .box (.t 1)⟩, ⟨(some 6), none, .mv (.c (.bool false))⟩])
  (.seq (.region [⟨(some 17), none, .build [(.bool false), (.bool false), (.bool false), (.bool false), (.bool false), (.bool false), (.bool false), (.int .i64 0), (.int .i64 0), (.int .i64 0), (.int .i64 0), (.int .i64 0), (.int .i64 0)] [(7, 1, (.c (.int .i64 (-1)))), (11, 1, (.c (.int .i64 (-1)))), (12, 1, (.c (.int .i64 (-1))))]⟩, ⟨(some 7), none, .boxz [(.bool false), (.bool false), (.bool false), (.bool false), (.bool false), (.bool false), (.bool false), (.int .i64 0), (.int .i64 0), (.int .i64 0), (.int .i64 0), (.int .i64 0), (.int .i64 0)]⟩, ⟨none, none, .store 13 (.t 7) (.t 17)⟩])
  (.seq (.region [⟨(some 18), none, .load true 13 (.t 4)⟩, ⟨(some 8), none, .boxz [(.bool false), (.bool false), (.bool false), (.bool false), (.bool false), (.bool false), (.bool false), (.int .i64 0), (.int .i64 0), (.int .i64 0), (.int .i64 0), (.int .i64 0), (.int .i64 0)]⟩, ⟨none, none, .store 13 (.t 8) (.t 18)⟩])
  (.seq (.region [⟨(some 19), none, .faddr 12 (.t 8)⟩, ⟨none, none, .store 1 (.t 19) (.c (.int .i64 (-1)))⟩])
  (.seq (.dregion [⟨(some 20), none, .load true 21 (.t 3)⟩, ⟨(some 21), none, .load true 13 (.t 7)⟩, ⟨(some 22), none, .mv (.t 2)⟩, ⟨(some 23), none, .call i_fresh_State [(.t 20), (.t 21), (.t 22)]⟩, ⟨(some 24), none, .load true 21 (.t 3)⟩, ⟨(some 25), none, .load true 13 (.t 8)⟩, ⟨(some 26), none, .mv (.t 2)⟩] [⟨(some 27), none, .call i_fresh_State [(.t 24), (.t 25), (.t 26)]⟩, ⟨(some 9), none, .mv (.t 23)⟩, ⟨(some 10), none, .mv (.t 27)⟩])
  (.seq (.seq (.region [⟨(some 28), none, .mv (.t 10)⟩, ⟨(some 29), none, .mv (.t 9)⟩, ⟨(some 30), none, .bin .lss (.t 28) (.t 29)⟩, ⟨(some 31), none, .mv (.t 30)⟩, ⟨(some 32), (some (31, false)), .call i_fresh_Heuristic [(.c (.int .i64 301))]⟩, ⟨(some 33), (some (31, false)), .un .not (.t 32)⟩, ⟨(some 34), none, .pick (.t 31) (.c (.bool true)) (.t 33)⟩])
  (.cond (.t 34)
    (.seq (.region [⟨(some 6), none, .mv (.c (.bool false))⟩])
    .ret)
    .skip))
  (.seq (.region [⟨(some 35), none, .load true 13 (.t 7)⟩, ⟨(some 11), none, .boxz [(.bool false), (.bool false), (.bool false), (.bool false), (.bool false), (.bool false), (.bool false), (.int .i64 0), (.int .i64 0), (.int .i64 0), (.int .i64 0), (.int .i64 0), (.int .i64 0)]⟩, ⟨none, none, .store 13 (.t 11) (.t 35)⟩])
  (.seq (.region [⟨(some 36), none, .faddr 1 (.t 11)⟩, ⟨none, none, .store 1 (.t 36) (.c (.bool true))⟩])
  (.seq (.region [⟨(some 37), none, .load true 13 (.t 7)⟩, ⟨(some 12), none, .boxz [(.bool false), (.bool false), (.bool false), (.bool false), (.bool false), (.bool false), (.bool false), (.int .i64 0), (.int .i64 0), (.int .i64 0), (.int .i64 0), (.int .i64 0), (.int .i64 0)]⟩, ⟨none, none, .store 13 (.t 12) (.t 37)⟩])
  (.seq (.region [⟨(some 38), none, .faddr 7 (.t 12)⟩, ⟨none, none, .store 1 (.t 38) (.c (.int .i64 0))⟩])
  (.seq (.dregion [⟨(some 39), none, .load true 21 (.t 3)⟩, ⟨(some 40), none, .load true 13 (.t 11)⟩, ⟨(some 41), none, .mv (.t 2)⟩, ⟨(some 42), none, .call i_fresh_State [(.t 39), (.t 40), (.t 41)]⟩, ⟨(some 43), none, .load true 21 (.t 3)⟩, ⟨(some 44), none, .load true 13 (.t 12)⟩, ⟨(some 45), none, .mv (.t 2)⟩] [⟨(some 46), none, .call i_fresh_State [(.t 43), (.t 44), (.t 45)]⟩, ⟨(some 13), none, .mv (.t 42)⟩, ⟨(some 14), none, .mv (.t 46)⟩])
  (.seq (.region [⟨(some 47), none, .load true 13 (.t 7)⟩, ⟨(some 15), none, .boxz [(.bool false), (.bool false), (.bool false), (.bool false), (.bool false), (.bool false), (.bool false), (.int .i64 0), (.int .i64 0), (.int .i64 0), (.int .i64 0), (.int .i64 0), (.int .i64 0)]⟩, ⟨none, none, .store 13 (.t 15) (.t 47)⟩])
  (.seq (.region [⟨(some 48), none, .faddr 12 (.t 15)⟩, ⟨none, none, .store 1 (.t 48) (.c (.int .i64 2147483648))⟩])
  (.seq (.region [⟨(some 49), none, .load true 21 (.t 3)⟩, ⟨(some 50), none, .load true 13 (.t 15)⟩, ⟨(some 51), none, .mv (.t 2)⟩, ⟨(some 52), none, .call i_fresh_State [(.t 49), (.t 50), (.t 51)]⟩, ⟨(some 16), none, .mv (.t 52)⟩])
  (.seq (.region [⟨(some 53), none, .mv (.t 13)⟩, ⟨(some 54), none, .bin .eql (.t 53) (.c (.int .i64 2))⟩, ⟨(some 55), none, .mv (.t 54)⟩, ⟨(some 56), (some (55, true)), .mv (.t 14)⟩, ⟨(some 57), (some (55, true)), .bin .eql (.t 56) (.c (.int .i64 2))⟩, ⟨(some 58), (some (55, true)), .mv (.t 57)⟩, ⟨(some 59), (some (58, false)), .load true 21 (.t 3)⟩, ⟨(some 60), (some (58, false)), .mv (.t 2)⟩, ⟨(some 61), (some (58, false)), .call i_fresh_Age [(.t 59), (.t 60)]⟩, ⟨(some 62), (some (58, false)), .bin .eql (.t 61) (.c (.int .i64 0))⟩, ⟨(some 63), (some (55, true)), .pick (.t 58) (.c (.bool true)) (.t 62)⟩, ⟨(some 64), none, .pick (.t 55) (.t 63) (.c (.bool false))⟩, ⟨(some 65), none, .mv (.t 64)⟩, ⟨(some 66), (some (65, true)), .mv (.t 16)⟩, ⟨(some 67), (some (65, true)), .bin .eql (.t 66) (.c (.int .i64 0))⟩, ⟨(some 68), (some (65, true)), .mv (.t 67)⟩, ⟨(some 69), (some (68, false)), .mv (.t 16)⟩, ⟨(some 70), (some (68, false)), .bin .eql (.t 69) (.c (.int .i64 2))⟩, ⟨(some 71), (some (65, true)), .pick (.t 68) (.c (.bool true)) (.t 70)⟩, ⟨(some 72), none, .pick (.t 65) (.t 71) (.c (.bool false))⟩, ⟨(some 6), none, .mv (.t 72)⟩])
  .ret)))))))))))))))⟩
/-- gatepost/gatepostlaw09.FreshLonger -/
def c_gatepostlaw09_FreshLonger : FnC := ⟨84, [.tmp 6],
  (.seq (.region [⟨(some 3), none, .box (.t 0)⟩, ⟨(some 5), none, .box (.t 2)⟩, ⟨(some 6), none, .mv (.c (.bool false))⟩])
  (.seq (.dregion [⟨(some 15), none, .ixaArr 2 1 (.t 5) (.c (.int .i64 0))⟩, ⟨(some 16), none, .load false 1 (.t 15)⟩, ⟨(some 17), none, .bin .and (.t 16) (.c (.int .i64 65535))⟩, ⟨(some 18), none, .ixaArr 2 1 (.t 5) (.c (.int .i64 1))⟩, ⟨(some 19), none, .load false 1 (.t 18)⟩, ⟨(some 20), none, .bin .and (.t 19) (.c (.int .i64 65535))⟩, ⟨(some 7), none, .mv (.t 17)⟩] [⟨(some 8), none, .mv (.t 20)⟩])
  (.seq (.seq (.region [⟨(some 21), none, .mv (.t 7)⟩, ⟨(some 22), none, .mv (.t 8)⟩, ⟨(some 23), none, .bin .gtr (.t 21) (.t 22)⟩])
  (.cond (.t 23)
    (.region [⟨(some 24), none, .mv (.t 8)⟩, ⟨(some 25), none, .mv (.t 7)⟩, ⟨(some 7), none, .mv (.t 24)⟩, ⟨(some 8), none, .mv (.t 25)⟩])
    .skip))
  (.seq (.region [⟨(some 26), none, .build [(.bool false), (.bool false), (.bool false), (.bool false), (.bool false), (.bool false), (.bool false), (.int .i64 0), (.int .i64 0), (.int .i64 0), (.int .i64 0), (.int .i64 0), (.int .i64 0)] [(7, 1, (.c (.int .i64 (-1)))), (11, 1, (.c (.int .i64 (-1)))), (12, 1, (.c (.int .i64 (-1))))]⟩, ⟨(some 9), none, .boxz [(.bool false), (.bool false), (.bool false), (.bool false), (.bool false), (.bool false), (.bool false), (.int .i64 0), (.int .i64 0), (.int .i64 0), (.int .i64 0), (.int .i64 0), (.int .i64 0)]⟩, ⟨none, none, .store 13 (.t 9) (.t 26)⟩])
  (.seq (.mregion [⟨(some 27), none, .load true 21 (.t 3)⟩, ⟨(some 28), none, .load true 21 (.t 3)⟩, ⟨(some 10), none, .boxz [(.int .i64 0), (.bool false), (.bool false), (.bool false), (.bool false), (.bool false), (.bool false), (.bool false), (.int .i64 0), (.int .i64 0), (.int .i64 0), (.int .i64 0), (.int .i64 0), (.int .i64 0), (.int .i64 0), (.int .i64 0), (.int .i64 0), (.int .i64 0), (.int .i64 0), (.int .i64 0), (.str [])]⟩, ⟨(some 11), none, .boxz [(.int .i64 0), (.bool false), (.bool false), (.bool false), (.bool false), (.bool false), (.bool false), (.bool false), (.int .i64 0), (.int .i64 0), (.int .i64 0), (.int .i64 0), (.int .i64 0), (.int .i64 0), (.int .i64 0), (.int .i64 0), (.int .i64 0), (.int .i64 0), (.int .i64 0), (.int .i64 0), (.str [])]⟩] [⟨none, none, .store 21 (.t 10) (.t 27)⟩] [⟨none, none, .store 21 (.t 11) (.t 28)⟩] [(28, true, 21, (.t 3))])
  (.seq (.region [⟨(some 29), none, .mv (.t 7)⟩, ⟨(some 30), none, .mv (.t 8)⟩, ⟨(some 31), none, .faddr 1 (.t 10)⟩, ⟨(some 32), none, .faddr 7 (.t 31)⟩, ⟨none, none, .store 1 (.t 32) (.t 29)⟩, ⟨(some 33), none, .faddr 1 (.t 11)⟩, ⟨(some 34), none, .faddr 7 (.t 33)⟩, ⟨none, none, .store 1 (.t 34) (.t 30)⟩])
  (.seq (.seq (.dregion [⟨(some 35), none, .load true 21 (.t 11)⟩, ⟨(some 36), none, .load true 13 (.t 9)⟩, ⟨(some 37), none, .mv (.t 1)⟩, ⟨(some 38), none, .call i_fresh_State [(.t 35), (.t 36), (.t 37)]⟩, ⟨(some 39), none, .load true 21 (.t 10)⟩, ⟨(some 40), none, .load true 13 (.t 9)⟩, ⟨(some 41), none, .mv (.t 1)⟩] [⟨(some 42), none, .call i_fresh_State [(.t 39), (.t 40), (.t 41)]⟩, ⟨(some 43), none, .bin .gtr (.t 38) (.t 42)⟩])
  (.cond (.t 43)
    (.seq (.region [⟨(some 6), none, .mv (.c (.bool false))⟩])
    .ret)
    .skip))
  (.seq (.region [⟨(some 44), none, .load true 21 (.t 3)⟩, ⟨(some 12), none, .boxz [(.int .i64 0), (.bool false), (.bool false), (.bool false), (.bool false), (.bool false), (.bool false), (.bool false), (.int .i64 0), (.int .i64 0), (.int .i64 0), (.int .i64 0), (.int .i64 0), (.int .i64 0), (.int .i64 0), (.int .i64 0), (.int .i64 0), (.int .i64 0), (.int .i64 0), (.int .i64 0), (.str [])]⟩, ⟨none, none, .store 21 (.t 12) (.t 44)⟩])
  (.seq (.region [⟨(some 45), none, .mv (.t 7)⟩, ⟨(some 46), none, .mv (.t 8)⟩, ⟨(some 47), none, .faddr 1 (.t 12)⟩, ⟨(some 48), none, .faddr 8 (.t 47)⟩, ⟨none, none, .store 1 (.t 48) (.t 45)⟩, ⟨(some 49), none, .faddr 1 (.t 12)⟩, ⟨(some 50), none, .faddr 7 (.t 49)⟩, ⟨none, none, .store 1 (.t 50) (.t 46)⟩, ⟨(some 51), none, .faddr 15 (.t 12)⟩, ⟨none, none, .store 1 (.t 51) (.c (.int .i64 7))⟩])
  (.seq (.region [⟨(some 52), none, .load true 21 (.t 3)⟩, ⟨(some 13), none, .boxz [(.int .i64 0), (.bool false), (.bool false), (.bool false), (.bool false), (.bool false), (.bool false), (.bool false), (.int .i64 0), (.int .i64 0), (.int .i64 0), (.int .i64 0), (.int .i64 0), (.int .i64 0), (.int .i64 0), (.int .i64 0), (.int .i64 0), (.int .i64 0), (.int .i64 0), (.int .i64 0), (.str [])]⟩, ⟨none, none, .store 21 (.t 13) (.t 52)⟩])
  (.seq (.region [⟨(some 53), none, .mv (.t 8)⟩, ⟨(some 54), none, .faddr 1 (.t 13)⟩, ⟨(some 55), none, .faddr 8 (.t 54)⟩, ⟨none, none, .store 1 (.t 55) (.c (.int .i64 (-1)))⟩, ⟨(some 56), none, .faddr 1 (.t 13)⟩, ⟨(some 57), none, .faddr 7 (.t 56)⟩, ⟨none, none, .store 1 (.t 57) (.t 53)⟩, ⟨(some 58), none, .faddr 15 (.t 13)⟩, ⟨none, none, .store 1 (.t 58) (.c (.int .i64 7))⟩])
  (.seq (.region [⟨(some 59), none, .load true 21 (.t 3)⟩, ⟨(some 14), none, .boxz [(.int .i64 0), (.bool false), (.bool false), (.bool false), (.bool false), (.bool false), (.bool false), (.bool false), (.int .i64 0), (.int .i64 0), (.int .i64 0), (.int .i64 0), (.int .i64 0), (.int .i64 0), (.int .i64 0), (.int .i64 0), (.int .i64 0), (.int .i64 0), (.int .i64 0), (.int .i64 0), (.str [])]⟩, ⟨none, none, .store 21 (.t 14) (.t 59)⟩])
  (.seq (.region [⟨(some 60), none, .mv (.t 7)⟩, ⟨(some 61), none, .bin .add (.c (.int .i64 100)) (.t 60)⟩, ⟨(some 62), none, .faddr 1 (.t 14)⟩, ⟨(some 63), none, .faddr 8 (.t 62)⟩, ⟨none, none, .store 1 (.t 63) (.c (.int .i64 (-1)))⟩, ⟨(some 64), none, .faddr 1 (.t 14)⟩, ⟨(some 65), none, .faddr 7 (.t 64)⟩, ⟨none, none, .store 1 (.t 65) (.c (.int .i64 (-1)))⟩, ⟨(some 66), none, .faddr 14 (.t 14)⟩, ⟨none, none, .store 1 (.t 66) (.c (.int .i64 100))⟩, ⟨(some 67), none, .faddr 15 (.t 14)⟩, ⟨none, none, .store 1 (.t 67) (.t 61)⟩])
  (.seq (.region [⟨(some 68), none, .load true 21 (.t 12)⟩, ⟨(some 69), none, .call i_fresh_Lifetime [(.t 68)]⟩, ⟨(some 70), none, .mv (.t 7)⟩, ⟨(some 71), none, .bin .eql (.t 69) (.t 70)⟩, ⟨(some 72), none, .mv (.t 71)⟩, ⟨(some 73), (some (72, true)), .load true 21 (.t 13)⟩, ⟨(some 74), (some (72, true)), .call i_fresh_Lifetime [(.t 73)]⟩, ⟨(some 75), (some (72, true)), .mv (.t 8)⟩, ⟨(some 76), (some (72, true)), .bin .eql (.t 74) (.t 75)⟩, ⟨(some 77), none, .pick (.t 72) (.t 76) (.c (.bool false))⟩, ⟨(some 78), none, .mv (.t 77)⟩, ⟨(some 79), (some (78, true)), .load true 21 (.t 14)⟩, ⟨(some 80), (some (78, true)), .call i_fresh_Lifetime [(.t 79)]⟩, ⟨(some 81), (some (78, true)), .mv (.t 7)⟩, ⟨(some 82), (some (78, true)), .bin .eql (.t 80) (.t 81)⟩, ⟨(some 83), none, .pick (.t 78) (.t 82) (.c (.bool false))⟩, ⟨(some 6), none, .mv (.t 83)⟩])
  .ret))))))))))))))⟩
/-- gatepost/fresh.Age -/
def c_fresh_Age : FnC := ⟨30, [.tmp 4],
  (.seq (.region [⟨(some 2), none, .box (.t 0)⟩, ⟨(some 4), none, .mv (.c (.int .i64 0))⟩])
  (.seq (.region [⟨(some 5), none, .mv (.c (.fn i_fresh_Age_1 []))⟩])
  (.seq (.dregion [⟨(some 7), none, .faddr 14 (.t 2)⟩, ⟨(some 8), none, .load false 1 (.t 7)⟩, ⟨(some 9), none, .faddr 19 (.t 2)⟩, ⟨(some 10), none, .load false 1 (.t 9)⟩, ⟨(some 11), none, .call i_fresh_since [(.t 8), (.t 10)]⟩, ⟨(some 12), none, .mv (.t 5)⟩, ⟨(some 13), none, .faddr 17 (.t 2)⟩, ⟨(some 14), none, .load false 1 (.t 13)⟩, ⟨(some 15), none, .callv (.t 12) [(.t 14)]⟩, ⟨(some 16), none, .faddr 18 (.t 2)⟩, ⟨(some 17), none, .load false 1 (.t 16)⟩, ⟨(some 18), none, .faddr 19 (.t 2)⟩, ⟨(some 19), none, .load false 1 (.t 18)⟩] [⟨(some 20), none, .call i_fresh_since [(.t 17), (.t 19)]⟩, ⟨(some 21), none, .bin .add (.t 15) (.t 20)⟩, ⟨(some 22), none, .mx [(.t 11), (.t 21)]⟩, ⟨(some 6), none, .mv (.t 22)⟩])
  (.seq (.region [⟨(some 23), none, .mv (.t 6)⟩, ⟨(some 24), none, .faddr 19 (.t 2)⟩, ⟨(some 25), none, .load false 1 (.t 24)⟩, ⟨(some 26), none, .mv (.t 1)⟩, ⟨(some 27), none, .call i_fresh_since [(.t 25), (.t 26)]⟩, ⟨(some 28), none, .bin .add (.t 23) (.t 27)⟩, ⟨(some 29), none, .mn [(.t 28), (.c (.int .i64 2147483648))]⟩, ⟨(some 4), none, .mv (.t 29)⟩])
  .ret))))⟩
/-- gatepost/fresh.Heuristic -/
def c_fresh_Heuristic : FnC := ⟨13, [.tmp 2],
  (.seq (.region [⟨(some 2), none, .mv (.c (.bool false))⟩])
  (.seq (.seq (.region [⟨(some 5), none, .call i_fresh_keeps []⟩, ⟨(some 6), none, .mv (.c (.int .i64 0))⟩])
  (.block 0 (.loop
    (.seq (.region [⟨(some 7), none, .bin .lss (.t 6) (.c (.int .i64 12))⟩])
    (.seq (.cond (.t 7)
      .skip
      (.exit 0))
    (.seq (.block 1 (.seq (.region [⟨(some 8), none, .ixArr 12 1 false (.t 5) (.t 6)⟩, ⟨(some 4), none, .mv (.t 8)⟩])
    (.seq (.region [⟨(some 9), none, .mv (.t 4)⟩, ⟨(some 10), none, .mv (.t 0)⟩, ⟨(some 11), none, .bin .eql (.t 9) (.t 10)⟩])
    (.cond (.t 11)
      (.seq (.region [⟨(some 2), none, .mv (.c (.bool true))⟩])
      .ret)
      .skip))))
    (.region [⟨(some 12), none, .bin .add (.t 6) (.c (.int .i64 1))⟩, ⟨(some 6), none, .mv (.t 12)⟩])))))))
  (.seq (.region [⟨(some 2), none, .mv (.c (.bool false))⟩])
  .ret)))⟩
/-- gatepost/gatepostref09.Age -/
def c_gatepostref09_Age : FnC := ⟨36, [.tmp 4],
  (.seq (.region [⟨(some 2), none, .box (.t 0)⟩, ⟨(some 4), none, .mv (.c (.int .i64 0))⟩])
  (.seq (.region [⟨(some 7), none, .faddr 19 (.t 2)⟩, ⟨(some 8), none, .load false 1 (.t 7)⟩, ⟨(some 9), none, .faddr 14 (.t 2)⟩, ⟨(some 10), none, .load false 1 (.t 9)⟩, ⟨(some 11), none, .call i_gatepostref09_less [(.t 8), (.t 10)]⟩, ⟨(some 5), none, .mv (.t 11)⟩])
  (.seq (.region [⟨(some 6), none, .mv (.c (.int .i64 0))⟩])
  (.seq (.seq (.region [⟨(some 12), none, .faddr 17 (.t 2)⟩, ⟨(some 13), none, .load false 1 (.t 12)⟩, ⟨(some 14), none, .bin .gtr (.t 13) (.c (.int .i64 0))⟩])
  (.cond (.t 14)
    (.region [⟨(some 15), none, .faddr 17 (.t 2)⟩, ⟨(some 16), none, .load false 1 (.t 15)⟩, ⟨(some 17), none, .call i_gatepostref09_cut [(.t 16)]⟩, ⟨(some 6), none, .mv (.t 17)⟩])
    .skip))
  (.seq (.region [⟨(some 18), none, .mv (.t 6)⟩, ⟨(some 19), none, .faddr 19 (.t 2)⟩, ⟨(some 20), none, .load false 1 (.t 19)⟩, ⟨(some 21), none, .faddr 18 (.t 2)⟩, ⟨(some 22), none, .load false 1 (.t 21)⟩, ⟨(some 23), none, .call i_gatepostref09_less [(.t 20), (.t 22)]⟩, ⟨(some 24), none, .bin .add (.t 18) (.t 23)⟩, ⟨(some 6), none, .mv (.t 24)⟩])
  (.seq (.seq (.region [⟨(some 25), none, .mv (.t 5)⟩, ⟨(some 26), none, .mv (.t 6)⟩, ⟨(some 27), none, .bin .gtr (.t 25) (.t 26)⟩])
  (.cond (.t 27)
    (.region [⟨(some 28), none, .mv (.t 5)⟩, ⟨(some 6), none, .mv (.t 28)⟩])
    .skip))
  (.seq (.region [⟨(some 29), none, .mv (.t 6)⟩, ⟨(some 30), none, .mv (.t 1)⟩, ⟨(some 31), none, .faddr 19 (.t 2)⟩, ⟨(some 32), none, .load false 1 (.t 31)⟩, ⟨(some 33), none, .call i_gatepostref09_less [(.t 30), (.t 32)]⟩, ⟨(some 34), none, .bin .add (.t 29) (.t 33)⟩, ⟨(some 35), none, .call i_gatepostref09_atMost [(.t 34), (.c (.int .i64 2147483648))]⟩, ⟨(some 4), none, .mv (.t 35)⟩])
  .ret)))))))⟩
/-- gatepost/fresh.Lifetime -/
def c_fresh_Lifetime : FnC := ⟨57, [.tmp 2],
  (.seq (.region [⟨(some 1), none, .box (.t 0)⟩, ⟨(some 2), none, .mv (.c (.int .i64 0))⟩])
  (.seq (.region [⟨(some 4), none, .faddr 1 (.t 1)⟩, ⟨(some 5), none, .load true 13 (.t 4)⟩, ⟨(some 3), none, .boxz [(.bool false), (.bool false), (.bool false), (.bool false), (.bool false), (.bool false), (.bool false), (.int .i64 0), (.int .i64 0), (.int .i64 0), (.int .i64 0), (.int .i64 0), (.int .i64 0)]⟩, ⟨none, none, .store 13 (.t 3) (.t 5)⟩])
  (.seq (.block 0 (.seq (.region [⟨(some 7), none, .faddr 8 (.t 3)⟩, ⟨(some 8), none, .load false 1 (.t 7)⟩, ⟨(some 9), none, .bin .geq (.t 8) (.c (.int .i64 0))⟩, ⟨(some 6), none, .mv (.t 9)⟩])
  (.cond (.t 6)
    (.seq (.region [⟨(some 10), none, .faddr 8 (.t 3)⟩, ⟨(some 11), none, .load false 1 (.t 10)⟩, ⟨(some 12), none, .mn [(.t 11), (.c (.int .i64 2147483648))]⟩, ⟨(some 2), none, .mv (.t 12)⟩])
    .ret)
    (.seq (.region [⟨(some 14), none, .faddr 7 (.t 3)⟩, ⟨(some 15), none, .load false 1 (.t 14)⟩, ⟨(some 16), none, .bin .geq (.t 15) (.c (.int .i64 0))⟩, ⟨(some 13), none, .mv (.t 16)⟩])
    (.cond (.t 13)
      (.seq (.region [⟨(some 17), none, .faddr 7 (.t 3)⟩, ⟨(some 18), none, .load false 1 (.t 17)⟩, ⟨(some 19), none, .mn [(.t 18), (.c (.int .i64 2147483648))]⟩, ⟨(some 2), none, .mv (.t 19)⟩])
      .ret)
      (.seq (.region [⟨(some 21), none, .faddr 15 (.t 1)⟩, ⟨(some 22), none, .load false 1 (.t 21)⟩, ⟨(some 23), none, .bin .geq (.t 22) (.c (.int .i64 0))⟩, ⟨(some 24), none, .mv (.t 23)⟩, ⟨(some 25), (some (24, true)), .faddr 14 (.t 1)⟩, ⟨(some 26), (some (24, true)), .load false 1 (.t 25)⟩, ⟨(some 27), (some (24, true)), .bin .geq (.t 26) (.c (.int .i64 0))⟩, ⟨(some 28), none, .pick (.t 24) (.t 27) (.c (.bool false))⟩, ⟨(some 20), none, .mv (.t 28)⟩])
      (.cond (.t 20)
        (.seq (.region [⟨(some 29), none, .faddr 14 (.t 1)⟩, ⟨(some 30), none, .load false 1 (.t 29)⟩, ⟨(some 31), none, .faddr 15 (.t 1)⟩, ⟨(some 32), none, .load false 1 (.t 31)⟩, ⟨(some 33), none, .call i_fresh_since [(.t 30), (.t 32)]⟩, ⟨(some 34), none, .mn [(.t 33), (.c (.int .i64 2147483648))]⟩, ⟨(some 2), none, .mv (.t 34)⟩])
        .ret)
        (.seq (.region [⟨(some 36), none, .faddr 15 (.t 1)⟩, ⟨(some 37), none, .load false 1 (.t 36)⟩, ⟨(some 38), none, .bin .geq (.t 37) (.c (.int .i64 0))⟩, ⟨(some 35), none, .mv (.t 38)⟩])
        (.cond (.t 35)
          (.seq (.region [⟨(some 39), none, .faddr 19 (.t 1)⟩, ⟨(some 40), none, .load false 1 (.t 39)⟩, ⟨(some 41), none, .mx [(.t 40), (.c (.int .i64 0))]⟩, ⟨(some 42), none, .faddr 15 (.t 1)⟩, ⟨(some 43), none, .load false 1 (.t 42)⟩, ⟨(some 44), none, .call i_fresh_since [(.t 41), (.t 43)]⟩, ⟨(some 45), none, .mn [(.t 44), (.c (.int .i64 2147483648))]⟩, ⟨(some 2), none, .mv (.t 45)⟩])
          .ret)
          (.seq (.region [⟨(some 47), none, .faddr 0 (.t 1)⟩, ⟨(some 48), none, .load false 1 (.t 47)⟩, ⟨(some 49), none, .call i_fresh_Heuristic [(.t 48)]⟩, ⟨(some 46), none, .mv (.t 49)⟩])
          (.cond (.t 46)
            (.seq (.region [⟨(some 50), none, .faddr 16 (.t 1)⟩, ⟨(some 51), none, .load false 1 (.t 50)⟩, ⟨(some 52), none, .faddr 14 (.t 1)⟩, ⟨(some 53), none, .load false 1 (.t 52)⟩, ⟨(some 54), none, .call i_fresh_since [(.t 51), (.t 53)]⟩, ⟨(some 55), none, .bin .quo (.t 54) (.c (.int .i64 10))⟩, ⟨(some 56), none, .mn [(.t 55), (.c (.int .i64 86400))]⟩, ⟨(some 2), none, .mv (.t 56)⟩])
            .ret)
            .skip)))))))))))
  (.seq (.region [⟨(some 2), none, .mv (.c (.int .i64 0))⟩])
  .ret))))⟩
/-- gatepost/gatepostref09.Lifetime -/
def c_gatepostref09_Lifetime : FnC := ⟨56, [.tmp 2],
  (.seq (.region [⟨(some 1), none, .box (.t 0)⟩, ⟨(some 2), none, .mv (.c (.int .i64 0))⟩])
  (.seq (.seq (.region [⟨(some 4), none, .faddr 1 (.t 1)⟩, ⟨(some 5), none, .faddr 8 (.t 4)⟩, ⟨(some 6), none, .load false 1 (.t 5)⟩, ⟨(some 7), none, .bin .geq (.t 6) (.c (.int .i64 0))⟩])
  (.cond (.t 7)
    (.seq (.region [⟨(some 8), none, .faddr 1 (.t 1)⟩, ⟨(some 9), none, .faddr 8 (.t 8)⟩, ⟨(some 10), none, .load false 1 (.t 9)⟩, ⟨(some 11), none, .call i_gatepostref09_atMost [(.t 10), (.c (.int .i64 2147483648))]⟩, ⟨(some 2), none, .mv (.t 11)⟩])
    .ret)
    .skip))
  (.seq (.seq (.region [⟨(some 12), none, .faddr 1 (.t 1)⟩, ⟨(some 13), none, .faddr 7 (.t 12)⟩, ⟨(some 14), none, .load false 1 (.t 13)⟩, ⟨(some 15), none, .bin .geq (.t 14) (.c (.int .i64 0))⟩])
  (.cond (.t 15)
    (.seq (.region [⟨(some 16), none, .faddr 1 (.t 1)⟩, ⟨(some 17), none, .faddr 7 (.t 16)⟩, ⟨(some 18), none, .load false 1 (.t 17)⟩, ⟨(some 19), none, .call i_gatepostref09_atMost [(.t 18), (.c (.int .i64 2147483648))]⟩, ⟨(some 2), none, .mv (.t 19)⟩])
    .ret)
    .skip))
  (.seq (.seq (.region [⟨(some 20), none, .faddr 15 (.t 1)⟩, ⟨(some 21), none, .load false 1 (.t 20)⟩, ⟨(some 22), none, .bin .geq (.t 21) (.c (.int .i64 0))⟩])
  (.cond (.t 22)
    (.seq (.region [⟨(some 23), none, .faddr 14 (.t 1)⟩, ⟨(some 24), none, .load false 1 (.t 23)⟩, ⟨(some 3), none, .mv (.t 24)⟩])
    (.seq (.seq (.region [⟨(some 25), none, .mv (.t 3)⟩, ⟨(some 26), none, .bin .lss (.t 25) (.c (.int .i64 0))⟩])
    (.cond (.t 26)
      (.region [⟨(some 27), none, .faddr 19 (.t 1)⟩, ⟨(some 28), none, .load false 1 (.t 27)⟩, ⟨(some 3), none, .mv (.t 28)⟩])
      .skip))
    (.seq (.seq (.region [⟨(some 29), none, .mv (.t 3)⟩, ⟨(some 30), none, .bin .lss (.t 29) (.c (.int .i64 0))⟩])
    (.cond (.t 30)
      (.region [⟨(some 3), none, .mv (.c (.int .i64 0))⟩])
      .skip))
    (.seq (.region [⟨(some 31), none, .faddr 15 (.t 1)⟩, ⟨(some 32), none, .load false 1 (.t 31)⟩, ⟨(some 33), none, .mv (.t 3)⟩, ⟨(some 34), none, .call i_gatepostref09_less [(.t 32), (.t 33)]⟩, ⟨(some 35), none, .call i_gatepostref09_atMost [(.t 34), (.c (.int .i64 2147483648))]⟩, ⟨(some 2), none, .mv (.t 35)⟩])
    .ret))))
    .skip))
  (.seq (.seq (.region [⟨(some 36), none, .faddr 0 (.t 1)⟩, ⟨(some 37), none, .load false 1 (.t 36)⟩, ⟨(some 38), none, .call i_gatepostref09_Heuristic [(.t 37)]⟩, ⟨(some 39), none, .mv (.t 38)⟩, ⟨(some 40), (some (39, true)), .faddr 16 (.t 1)⟩, ⟨(some 41), (some (39, true)), .load false 1 (.t 40)⟩, ⟨(some 42), (some (39, true)), .bin .geq (.t 41) (.c (.int .i64 0))⟩, ⟨(some 43), none, .pick (.t 39) (.t 42) (.c (.bool false))⟩, ⟨(some 44), none, .mv (.t 43)⟩, ⟨(some 45), (some (44, true)), .faddr 14 (.t 1)⟩, ⟨(some 46), (some (44, true)), .load false 1 (.t 45)⟩, ⟨(some 47), (some (44, true)), .bin .geq (.t 46) (.c (.int .i64 0))⟩, ⟨(some 48), none, .pick (.t 44) (.t 47) (.c (.bool false))⟩])
  (.cond (.t 48)
    (.seq (.region [⟨(some 49), none, .faddr 14 (.t 1)⟩, ⟨(some 50), none, .load false 1 (.t 49)⟩, ⟨(some 51), none, .faddr 16 (.t 1)⟩, ⟨(some 52), none, .load false 1 (.t 51)⟩, ⟨(some 53), none, .call i_gatepostref09_less [(.t 50), (.t 52)]⟩, ⟨(some 54), none, .bin .quo (.t 53) (.c (.int .i64 10))⟩, ⟨(some 55), none, .call i_gatepostref09_atMost [(.t 54), (.c (.int .i64 86400))]⟩, ⟨(some 2), none, .mv (.t 55)⟩])
    .ret)
    .skip))
  (.seq (.region [⟨(some 2), none, .mv (.c (.int .i64 0))⟩])
  .ret))))))⟩
/-- gatepost/fresh.State -/
def c_fresh_State : FnC := ⟨51, [.tmp 6],
  (.seq (.region [⟨(some 3), none, .box (.t 0)⟩, ⟨(some 4), none, .box (.t 1)⟩, ⟨(some 6), none, .mv (.c (.int .i64 0))⟩])
  (.seq (.dregion [⟨(some 9), none, .load true 21 (.t 3)⟩, ⟨(some 10), none, .mv (.t 2)⟩, ⟨(some 11), none, .call i_fresh_Age [(.t 9), (.t 10)]⟩, ⟨(some 12), none, .load true 21 (.t 3)⟩] [⟨(some 13), none, .call i_fresh_Lifetime [(.t 12)]⟩, ⟨(some 7), none, .mv (.t 11)⟩, ⟨(some 8), none, .mv (.t 13)⟩])
  (.seq (.block 0 (.seq (.region [⟨(some 15), none, .faddr 1 (.t 4)⟩, ⟨(some 16), none, .load false 1 (.t 15)⟩, ⟨(some 17), none, .mv (.t 16)⟩, ⟨(some 18), (some (17, false)), .faddr 1 (.t 3)⟩, ⟨(some 19), (some (17, false)), .faddr 1 (.t 18)⟩, ⟨(some 20), (some (17, false)), .load false 1 (.t 19)⟩, ⟨(some 21), none, .pick (.t 17) (.c (.bool true)) (.t 20)⟩, ⟨(some 22), none, .mv (.t 21)⟩, ⟨(some 23), (some (22, false)), .faddr 7 (.t 4)⟩, ⟨(some 24), (some (22, false)), .load false 1 (.t 23)⟩, ⟨(some 25), (some (22, false)), .bin .geq (.t 24) (.c (.int .i64 0))⟩, ⟨(some 26), (some (22, false)), .mv (.t 25)⟩, ⟨(some 27), (some (26, true)), .faddr 7 (.t 4)⟩, ⟨(some 28), (some (26, true)), .load false 1 (.t 27)⟩, ⟨(some 29), (some (26, true)), .mv (.t 7)⟩, ⟨(some 30), (some (26, true)), .bin .lss (.t 28) (.t 29)⟩, ⟨(some 31), (some (22, false)), .pick (.t 26) (.t 30) (.c (.bool false))⟩, ⟨(some 32), none, .pick (.t 22) (.c (.bool true)) (.t 31)⟩, ⟨(some 14), none, .mv (.t 32)⟩])
  (.cond (.t 14)
    (.seq (.region [⟨(some 6), none, .mv (.c (.int .i64 2))⟩])
    .ret)
    (.seq (.region [⟨(some 34), none, .mv (.t 7)⟩, ⟨(some 35), none, .mv (.t 8)⟩, ⟨(some 36), none, .bin .geq (.t 34) (.t 35)⟩, ⟨(some 33), none, .mv (.t 36)⟩])
    (.cond (.t 33)
      (.seq (.region [⟨(some 37), none, .faddr 1 (.t 3)⟩, ⟨(some 38), none, .load true 13 (.t 37)⟩, ⟨(some 39), none, .load true 13 (.t 4)⟩, ⟨(some 40), none, .mv (.t 7)⟩, ⟨(some 41), none, .mv (.t 8)⟩, ⟨(some 42), none, .bin .sub (.t 40) (.t 41)⟩, ⟨(some 43), none, .call i_fresh_late [(.t 38), (.t 39), (.t 42)]⟩, ⟨(some 6), none, .mv (.t 43)⟩])
      .ret)
      (.seq (.region [⟨(some 45), none, .faddr 11 (.t 4)⟩, ⟨(some 46), none, .load false 1 (.t 45)⟩, ⟨(some 47), none, .mv (.t 8)⟩, ⟨(some 48), none, .mv (.t 7)⟩, ⟨(some 49), none, .bin .sub (.t 47) (.t 48)⟩, ⟨(some 50), none, .bin .gtr (.t 46) (.t 49)⟩, ⟨(some 44), none, .mv (.t 50)⟩])
      (.cond (.t 44)
        (.seq (.region [⟨(some 6), none, .mv (.c (.int .i64 2))⟩])
        .ret)
        .skip)))))))
  (.seq (.region [⟨(some 6), none, .mv (.c (.int .i64 0))⟩])
  .ret))))⟩
/-- gatepost/gatepostref09.State -/
def c_gatepostref09_State : FnC := ⟨89, [.tmp 6],
  (.seq (.region [⟨(some 3), none, .box (.t 0)⟩, ⟨(some 4), none, .box (.t 1)⟩, ⟨(some 6), none, .mv (.c (.int .i64 0))⟩])
  (.seq (.region [⟨(some 10), none, .load true 21 (.t 3)⟩, ⟨(some 11), none, .mv (.t 2)⟩, ⟨(some 12), none, .call i_gatepostref09_Age [(.t 10), (.t 11)]⟩, ⟨(some 7), none, .mv (.t 12)⟩])
  (.seq (.region [⟨(some 13), none, .load true 21 (.t 3)⟩, ⟨(some 14), none, .call i_gatepostref09_Lifetime [(.t 13)]⟩, ⟨(some 8), none, .mv (.t 14)⟩])
  (.seq (.seq (.region [⟨(some 15), none, .faddr 1 (.t 4)⟩, ⟨(some 16), none, .load false 1 (.t 15)⟩, ⟨(some 17), none, .mv (.t 16)⟩, ⟨(some 18), (some (17, false)), .faddr 1 (.t 3)⟩, ⟨(some 19), (some (17, false)), .faddr 1 (.t 18)⟩, ⟨(some 20), (some (17, false)), .load false 1 (.t 19)⟩, ⟨(some 21), none, .pick (.t 17) (.c (.bool true)) (.t 20)⟩, ⟨(some 22), none, .mv (.t 21)⟩, ⟨(some 23), (some (22, false)), .faddr 7 (.t 4)⟩, ⟨(some 24), (some (22, false)), .load false 1 (.t 23)⟩, ⟨(some 25), (some (22, false)), .bin .geq (.t 24) (.c (.int .i64 0))⟩, ⟨(some 26), (some (22, false)), .mv (.t 25)⟩, ⟨(some 27), (some (26, true)), .faddr 7 (.t 4)⟩, ⟨(some 28), (some (26, true)), .load false 1 (.t 27)⟩, ⟨(some 29), (some (26, true)), .mv (.t 7)⟩, ⟨(some 30), (some (26, true)), .bin .lss (.t 28) (.t 29)⟩, ⟨(some 31), (some (22, false)), .pick (.t 26) (.t 30) (.c (.bool false))⟩, ⟨(some 32), none, .pick (.t 22) (.c (.bool true)) (.t 31)⟩])
  (.cond (.t 32)
    (.seq (.region [⟨(some 6), none, .mv (.c (.int .i64 2))⟩])
    .ret)
    .skip))
  (.seq (.seq (.region [⟨(some 33), none, .mv (.t 7)⟩, ⟨(some 34), none, .mv (.t 8)⟩, ⟨(some 35), none, .bin .lss (.t 33) (.t 34)⟩])
  (.cond (.t 35)
    (.seq (.seq (.region [⟨(some 36), none, .faddr 11 (.t 4)⟩, ⟨(some 37), none, .load false 1 (.t 36)⟩, ⟨(some 38), none, .bin .geq (.t 37) (.c (.int .i64 0))⟩, ⟨(some 39), none, .mv (.t 38)⟩, ⟨(some 40), (some (39, true)), .faddr 11 (.t 4)⟩, ⟨(some 41), (some (39, true)), .load false 1 (.t 40)⟩, ⟨(some 42), (some (39, true)), .mv (.t 8)⟩, ⟨(some 43), (some (39, true)), .mv (.t 7)⟩, ⟨(some 44), (some (39, true)), .bin .sub (.t 42) (.t 43)⟩, ⟨(some 45), (some (39, true)), .bin .gtr (.t 41) (.t 44)⟩, ⟨(some 46), none, .pick (.t 39) (.t 45) (.c (.bool false))⟩])
    (.cond (.t 46)
      (.seq (.region [⟨(some 6), none, .mv (.c (.int .i64 2))⟩])
      .ret)
      .skip))
    (.seq (.region [⟨(some 6), none, .mv (.c (.int .i64 0))⟩])
    .ret))
    .skip))
  (.seq (.region [⟨(some 47), none, .mv (.t 7)⟩, ⟨(some 48), none, .mv (.t 8)⟩, ⟨(some 49), none, .bin .sub (.t 47) (.t 48)⟩, ⟨(some 9), none, .mv (.t 49)⟩])
  (.seq (.seq (.region [⟨(some 50), none, .faddr 1 (.t 3)⟩, ⟨(some 51), none, .faddr 4 (.t 50)⟩, ⟨(some 52), none, .load false 1 (.t 51)⟩, ⟨(some 53), none, .mv (.t 52)⟩, ⟨(some 54), (some (53, false)), .faddr 1 (.t 3)⟩, ⟨(some 55), (some (53, false)), .faddr 5 (.t 54)⟩, ⟨(some 56), (some (53, false)), .load false 1 (.t 55)⟩, ⟨(some 57), none, .pick (.t 53) (.c (.bool true)) (.t 56)⟩, ⟨(some 58), none, .mv (.t 57)⟩, ⟨(some 59), (some (58, false)), .faddr 1 (.t 3)⟩, ⟨(some 60), (some (58, false)), .faddr 8 (.t 59)⟩, ⟨(some 61), (some (58, false)), .load false 1 (.t 60)⟩, ⟨(some 62), (some (58, false)), .bin .geq (.t 61) (.c (.int .i64 0))⟩, ⟨(some 63), none, .pick (.t 58) (.c (.bool true)) (.t 62)⟩])
  (.cond (.t 63)
    (.seq (.region [⟨(some 6), none, .mv (.c (.int .i64 2))⟩])
    .ret)
    .skip))
  (.seq (.seq (.region [⟨(some 64), none, .faddr 12 (.t 4)⟩, ⟨(some 65), none, .load false 1 (.t 64)⟩, ⟨(some 66), none, .bin .geq (.t 65) (.c (.int .i64 0))⟩, ⟨(some 67), none, .mv (.t 66)⟩, ⟨(some 68), (some (67, true)), .faddr 12 (.t 4)⟩, ⟨(some 69), (some (67, true)), .load false 1 (.t 68)⟩, ⟨(some 70), (some (67, true)), .mv (.t 9)⟩, ⟨(some 71), (some (67, true)), .bin .geq (.t 69) (.t 70)⟩, ⟨(some 72), none, .pick (.t 67) (.t 71) (.c (.bool false))⟩])
  (.cond (.t 72)
    (.seq (.region [⟨(some 6), none, .mv (.c (.int .i64 0))⟩])
    .ret)
    .skip))
  (.seq (.seq (.region [⟨(some 73), none, .faddr 1 (.t 3)⟩, ⟨(some 74), none, .faddr 9 (.t 73)⟩, ⟨(some 75), none, .load false 1 (.t 74)⟩, ⟨(some 76), none, .bin .geq (.t 75) (.c (.int .i64 0))⟩, ⟨(some 77), none, .mv (.t 76)⟩, ⟨(some 78), (some (77, true)), .faddr 1 (.t 3)⟩, ⟨(some 79), (some (77, true)), .faddr 9 (.t 78)⟩, ⟨(some 80), (some (77, true)), .load false 1 (.t 79)⟩, ⟨(some 81), (some (77, true)), .mv (.t 9)⟩, ⟨(some 82), (some (77, true)), .bin .gtr (.t 80) (.t 81)⟩, ⟨(some 83), none, .pick (.t 77) (.t 82) (.c (.bool false))⟩, ⟨(some 84), none, .mv (.t 83)⟩, ⟨(some 85), (some (84, true)), .faddr 11 (.t 4)⟩, ⟨(some 86), (some (84, true)), .load false 1 (.t 85)⟩, ⟨(some 87), (some (84, true)), .bin .leq (.t 86) (.c (.int .i64 0))⟩, ⟨(some 88), none, .pick (.t 84) (.t 87) (.c (.bool false))⟩])
  (.cond (.t 88)
    (.seq (.region [⟨(some 6), none, .mv (.c (.int .i64 1))⟩])
    .ret)
    .skip))
  (.seq (.region [⟨(some 6), none, .mv (.c (.int .i64 2))⟩])
  .ret))))))))))⟩
/-- gatepost/gatepostref09.Heuristic -/
def c_gatepostref09_Heuristic : FnC := ⟨17, [.tmp 2],
  (.seq (.region [⟨(some 2), none, .mv (.c (.bool false))⟩])
  (.seq (.seq (.region [⟨(some 3), none, .mv (.t 0)⟩])
  (.block 0 (.seq (.seq (.region [⟨(some 5), none, .bin .eql (.t 3) (.c (.int .i64 200))⟩, ⟨(some 4), none, .mv (.t 5)⟩])
  (.cond (.t 4)
    .skip
    (.seq (.region [⟨(some 6), none, .bin .eql (.t 3) (.c (.int .i64 203))⟩, ⟨(some 4), none, .mv (.t 6)⟩])
    (.cond (.t 4)
      .skip
      (.seq (.region [⟨(some 7), none, .bin .eql (.t 3) (.c (.int .i64 204))⟩, ⟨(some 4), none, .mv (.t 7)⟩])
      (.cond (.t 4)
        .skip
        (.seq (.region [⟨(some 8), none, .bin .eql (.t 3) (.c (.int .i64 206))⟩, ⟨(some 4), none, .mv (.t 8)⟩])
        (.cond (.t 4)
          .skip
          (.seq (.region [⟨(some 9), none, .bin .eql (.t 3) (.c (.int .i64 300))⟩, ⟨(some 4), none, .mv (.t 9)⟩])
          (.cond (.t 4)
            .skip
            (.seq (.region [⟨(some 10), none, .bin .eql (.t 3) (.c (.int .i64 301))⟩, ⟨(some 4), none, .mv (.t 10)⟩])
            (.cond (.t 4)
              .skip
              (.seq (.region [⟨(some 11), none, .bin .eql (.t 3) (.c (.int .i64 308))⟩, ⟨(some 4), none, .mv (.t 11)⟩])
              (.cond (.t 4)
                .skip
                (.seq (.region [⟨(some 12), none, .bin .eql (.t 3) (.c (.int .i64 404))⟩, ⟨(some 4), none, .mv (.t 12)⟩])
                (.cond (.t 4)
                  .skip
                  (.seq (.region [⟨(some 13), none, .bin .eql (.t 3) (.c (.int .i64 405))⟩, ⟨(some 4), none, .mv (.t 13)⟩])
                  (.cond (.t 4)
                    .skip
                    (.seq (.region [⟨(some 14), none, .bin .eql (.t 3) (.c (.int .i64 410))⟩, ⟨(some 4), none, .mv (.t 14)⟩])
                    (.cond (.t 4)
                      .skip
                      (.seq (.region [⟨(some 15), none, .bin .eql (.t 3) (.c (.int .i64 414))⟩, ⟨(some 4), none, .mv (.t 15)⟩])
                      (.cond (.t 4)
                        .skip
                        (.region [⟨(some 16), none, .bin .eql (.t 3) (.c (.int .i64 501))⟩, ⟨(some 4), none, .mv (.t 16)⟩])))))))))))))))))))))))
  (.cond (.t 4)
    (.seq (.region [⟨(some 2), none, .mv (.c (.bool true))⟩])
    .ret)
    .skip))))
  (.seq (.region [⟨(some 2), none, .mv (.c (.bool false))⟩])
  .ret)))⟩
/-- gatepost/fresh.Age$1 -/
def c_fresh_Age_1 : FnC := ⟨6, [.tmp 2],
  (.seq (.region [⟨(some 2), none, .mv (.c (.int .i64 0))⟩])
  (.seq (.region [⟨(some 3), none, .mv (.t 0)⟩, ⟨(some 4), none, .mn [(.t 3), (.c (.int .i64 1099511627776))]⟩, ⟨(some 5), none, .mx [(.c (.int .i64 0)), (.t 4)]⟩, ⟨(some 2), none, .mv (.t 5)⟩])
  .ret))⟩
/-- gatepost/fresh.since -/
def c_fresh_since : FnC := ⟨17, [.tmp 4],
  (.seq (.region [⟨(some 4), none, .mv (.c (.int .i64 0))⟩])
  (.seq (.seq (.region [⟨(some 5), none, .mv (.t 0)⟩, ⟨(some 6), none, .bin .lss (.t 5) (.c (.int .i64 0))⟩, ⟨(some 7), none, .mv (.t 6)⟩, ⟨(some 8), (some (7, false)), .mv (.t 1)⟩, ⟨(some 9), (some (7, false)), .bin .lss (.t 8) (.c (.int .i64 0))⟩, ⟨(some 10), none, .pick (.t 7) (.c (.bool true)) (.t 9)⟩])
  (.cond (.t 10)
    (.seq (.region [⟨(some 4), none, .mv (.c (.int .i64 0))⟩])
    .ret)
    .skip))
  (.seq (.region [⟨(some 11), none, .mv (.t 1)⟩, ⟨(some 12), none, .mn [(.t 11), (.c (.int .i64 1099511627776))]⟩, ⟨(some 13), none, .mv (.t 0)⟩, ⟨(some 14), none, .mn [(.t 13), (.c (.int .i64 1099511627776))]⟩, ⟨(some 15), none, .bin .sub (.t 12) (.t 14)⟩, ⟨(some 16), none, .mx [(.c (.int .i64 0)), (.t 15)]⟩, ⟨(some 4), none, .mv (.t 16)⟩])
  .ret)))⟩
/-- gatepost/fresh.keeps -/
def c_fresh_keeps : FnC := ⟨2, [.cell 0 true 12],
  (.seq (.region [⟨(some 0), none, .boxz [(.int .i64 0), (.int .i64 0), (.int .i64 0), (.int .i64 0), (.int .i64 0), (.int .i64 0), (.int .i64 0), (.int .i64 0), (.int .i64 0), (.int .i64 0), (.int .i64 0), (.int .i64 0)]⟩])
  (.seq (.region [⟨(some 1), none, .build [(.int .i64 0), (.int .i64 0), (.int .i64 0), (.int .i64 0), (.int .i64 0), (.int .i64 0), (.int .i64 0), (.int .i64 0), (.int .i64 0), (.int .i64 0), (.int .i64 0), (.int .i64 0)] [(0, 1, (.c (.int .i64 200))), (1, 1, (.c (.int .i64 203))), (2, 1, (.c (.int .i64 204))), (3, 1, (.c (.int .i64 206))), (4, 1, (.c (.int .i64 300))), (5, 1, (.c (.int .i64 301))), (6, 1, (.c (.int .i64 308))), (7, 1, (.c (.int .i64 404))), (8, 1, (.c (.int .i64 405))), (9, 1, (.c (.int .i64 410))), (10, 1, (.c (.int .i64 414))), (11, 1, (.c (.int .i64 501)))]⟩, ⟨none, none, .store 12 (.t 0) (.t 1)⟩])
  .ret))⟩
/-- gatepost/gatepostref09.less -/
def c_gatepostref09_less : FnC := ⟨23, [.tmp 4],
  (.seq (.region [⟨(some 4), none, .mv (.c (.int .i64 0))⟩])
  (.seq (.seq (.region [⟨(some 5), none, .mv (.t 0)⟩, ⟨(some 6), none, .bin .lss (.t 5) (.c (.int .i64 0))⟩, ⟨(some 7), none, .mv (.t 6)⟩, ⟨(some 8), (some (7, false)), .mv (.t 1)⟩, ⟨(some 9), (some (7, false)), .bin .lss (.t 8) (.c (.int .i64 0))⟩, ⟨(some 10), none, .pick (.t 7) (.c (.bool true)) (.t 9)⟩, ⟨(some 11), none, .mv (.t 10)⟩, ⟨(some 12), (some (11, false)), .mv (.t 0)⟩, ⟨(some 13), (some (11, false)), .call i_gatepostref09_cut [(.t 12)]⟩, ⟨(some 14), (some (11, false)), .mv (.t 1)⟩, ⟨(some 15), (some (11, false)), .call i_gatepostref09_cut [(.t 14)]⟩, ⟨(some 16), (some (11, false)), .bin .lss (.t 13) (.t 15)⟩, ⟨(some 17), none, .pick (.t 11) (.c (.bool true)) (.t 16)⟩])
  (.cond (.t 17)
    (.seq (.region [⟨(some 4), none, .mv (.c (.int .i64 0))⟩])
    .ret)
    .skip))
  (.seq (.region [⟨(some 18), none, .mv (.t 0)⟩, ⟨(some 19), none, .call i_gatepostref09_cut [(.t 18)]⟩, ⟨(some 20), none, .mv (.t 1)⟩, ⟨(some 21), none, .call i_gatepostref09_cut [(.t 20)]⟩, ⟨(some 22), none, .bin .sub (.t 19) (.t 21)⟩, ⟨(some 4), none, .mv (.t 22)⟩])
  .ret)))⟩
/-- gatepost/gatepostref09.cut -/
def c_gatepostref09_cut : FnC := ⟨6, [.tmp 2],
  (.seq (.region [⟨(some 2), none, .mv (.c (.int .i64 0))⟩])
  (.seq (.seq (.region [⟨(some 3), none, .mv (.t 0)⟩, ⟨(some 4), none, .bin .gtr (.t 3) (.c (.int .i64 1099511627776))⟩])
  (.cond (.t 4)
    (.seq (.region [⟨(some 2), none, .mv (.c (.int .i64 1099511627776))⟩])
    .ret)
    .skip))
  (.seq (.region [⟨(some 5), none, .mv (.t 0)⟩, ⟨(some 2), none, .mv (.t 5)⟩])
  .ret)))⟩
/-- gatepost/gatepostref09.atMost -/
def c_gatepostref09_atMost : FnC := ⟨10, [.tmp 4],
  (.seq (.region [⟨(some 4), none, .mv (.c (.int .i64 0))⟩])
  (.seq (.seq (.region [⟨(some 5), none, .mv (.t 0)⟩, ⟨(some 6), none, .mv (.t 1)⟩, ⟨(some 7), none, .bin .gtr (.t 5) (.t 6)⟩])
  (.cond (.t 7)
    (.seq (.region [⟨(some 8), none, .mv (.t 1)⟩, ⟨(some 4), none, .mv (.t 8)⟩])
    .ret)
    .skip))
  (.seq (.region [⟨(some 9), none, .mv (.t 0)⟩, ⟨(some 4), none, .mv (.t 9)⟩])
  .ret)))⟩
/-- gatepost/fresh.late -/
def c_fresh_late : FnC := ⟨34, [.tmp 6],
  (.seq (.region [⟨(some 3), none, .box (.t 0)⟩, ⟨(some 4), none, .box (.t 1)⟩, ⟨(some 6), none, .mv (.c (.int .i64 0))⟩])
  (.seq (.block 0 (.seq (.region [⟨(some 8), none, .faddr 4 (.t 3)⟩, ⟨(some 9), none, .load false 1 (.t 8)⟩, ⟨(some 10), none, .mv (.t 9)⟩, ⟨(some 11), (some (10, false)), .faddr 5 (.t 3)⟩, ⟨(some 12), (some (10, false)), .load false 1 (.t 11)⟩, ⟨(some 13), none, .pick (.t 10) (.c (.bool true)) (.t 12)⟩, ⟨(some 14), none, .mv (.t 13)⟩, ⟨(some 15), (some (14, false)), .faddr 8 (.t 3)⟩, ⟨(some 16), (some (14, false)), .load false 1 (.t 15)⟩, ⟨(some 17), (some (14, false)), .bin .geq (.t 16) (.c (.int .i64 0))⟩, ⟨(some 18), none, .pick (.t 14) (.c (.bool true)) (.t 17)⟩, ⟨(some 7), none, .mv (.t 18)⟩])
  (.cond (.t 7)
    (.seq (.region [⟨(some 6), none, .mv (.c (.int .i64 2))⟩])
    .ret)
    (.seq (.region [⟨(some 20), none, .faddr 12 (.t 4)⟩, ⟨(some 21), none, .load false 1 (.t 20)⟩, ⟨(some 22), none, .mv (.t 2)⟩, ⟨(some 23), none, .bin .geq (.t 21) (.t 22)⟩, ⟨(some 19), none, .mv (.t 23)⟩])
    (.cond (.t 19)
      (.seq (.region [⟨(some 6), none, .mv (.c (.int .i64 0))⟩])
      .ret)
      (.seq (.region [⟨(some 25), none, .faddr 9 (.t 3)⟩, ⟨(some 26), none, .load false 1 (.t 25)⟩, ⟨(some 27), none, .mv (.t 2)⟩, ⟨(some 28), none, .bin .gtr (.t 26) (.t 27)⟩, ⟨(some 29), none, .mv (.t 28)⟩, ⟨(some 30), (some (29, true)), .faddr 11 (.t 4)⟩, ⟨(some 31), (some (29, true)), .load false 1 (.t 30)⟩, ⟨(some 32), (some (29, true)), .bin .leq (.t 31) (.c (.int .i64 0))⟩, ⟨(some 33), none, .pick (.t 29) (.t 32) (.c (.bool false))⟩, ⟨(some 24), none, .mv (.t 33)⟩])
      (.cond (.t 24)
        (.seq (.region [⟨(some 6), none, .mv (.c (.int .i64 1))⟩])
        .ret)
        .skip)))))))
  (.seq (.region [⟨(some 6), none, .mv (.c (.int .i64 2))⟩])
  .ret)))⟩
def tab : List (FuncId × FnC) := [(i_gatepostlaw09_FreshAges, c_gatepostlaw09_FreshAges), (i_gatepostlaw09_FreshTells, c_gatepostlaw09_FreshTells), (i_gatepostlaw09_FreshGrows, c_gatepostlaw09_FreshGrows), (i_gatepostlaw09_FreshAsks, c_gatepostlaw09_FreshAsks), (i_gatepostlaw09_FreshLonger, c_gatepostlaw09_FreshLonger), (i_fresh_Age, c_fresh_Age), (i_fresh_Heuristic, c_fresh_Heuristic), (i_gatepostref09_Age, c_gatepostref09_Age), (i_fresh_Lifetime, c_fresh_Lifetime), (i_gatepostref09_Lifetime, c_gatepostref09_Lifetime), (i_fresh_State, c_fresh_State), (i_gatepostref09_State, c_gatepostref09_State), (i_gatepostref09_Heuristic, c_gatepostref09_Heuristic), (i_fresh_Age_1, c_fresh_Age_1), (i_fresh_since, c_fresh_since), (i_fresh_keeps, c_fresh_keeps), (i_gatepostref09_less, c_gatepostref09_less), (i_gatepostref09_cut, c_gatepostref09_cut), (i_gatepostref09_atMost, c_gatepostref09_atMost), (i_fresh_late, c_fresh_late)]
def F (f : FuncId) : Option FnC := tab.lookup f
theorem kc_gatepostlaw09_FreshAges : compF Try.prog i_gatepostlaw09_FreshAges = some c_gatepostlaw09_FreshAges := by kernel_rfl
theorem kc_gatepostlaw09_FreshTells : compF Try.prog i_gatepostlaw09_FreshTells = some c_gatepostlaw09_FreshTells := by kernel_rfl
theorem kc_gatepostlaw09_FreshGrows : compF Try.prog i_gatepostlaw09_FreshGrows = some c_gatepostlaw09_FreshGrows := by kernel_rfl
theorem kc_gatepostlaw09_FreshAsks : compF Try.prog i_gatepostlaw09_FreshAsks = some c_gatepostlaw09_FreshAsks := by kernel_rfl
theorem F_gatepostlaw09_FreshLonger : F i_gatepostlaw09_FreshLonger = some c_gatepostlaw09_FreshLonger := rfl
theorem kc_gatepostlaw09_FreshLonger : compF Try.prog i_gatepostlaw09_FreshLonger = some c_gatepostlaw09_FreshLonger := by kernel_rfl
theorem F_fresh_Age : F i_fresh_Age = some c_fresh_Age := rfl
theorem kc_fresh_Age : compF Try.prog i_fresh_Age = some c_fresh_Age := by kernel_rfl
theorem F_fresh_Heuristic : F i_fresh_Heuristic = some c_fresh_Heuristic := rfl
theorem kc_fresh_Heuristic : compF Try.prog i_fresh_Heuristic = some c_fresh_Heuristic := by kernel_rfl
theorem kc_gatepostref09_Age : compF Try.prog i_gatepostref09_Age = some c_gatepostref09_Age := by kernel_rfl
theorem F_fresh_Lifetime : F i_fresh_Lifetime = some c_fresh_Lifetime := rfl
theorem kc_fresh_Lifetime : compF Try.prog i_fresh_Lifetime = some c_fresh_Lifetime := by kernel_rfl
theorem kc_gatepostref09_Lifetime : compF Try.prog i_gatepostref09_Lifetime = some c_gatepostref09_Lifetime := by kernel_rfl
theorem F_fresh_State : F i_fresh_State = some c_fresh_State := rfl
theorem kc_fresh_State : compF Try.prog i_fresh_State = some c_fresh_State := by kernel_rfl
theorem kc_gatepostref09_State : compF Try.prog i_gatepostref09_State = some c_gatepostref09_State := by kernel_rfl
theorem kc_gatepostref09_Heuristic : compF Try.prog i_gatepostref09_Heuristic = some c_gatepostref09_Heuristic := by kernel_rfl
theorem F_fresh_Age_1 : F i_fresh_Age_1 = some c_fresh_Age_1 := rfl
theorem kc_fresh_Age_1 : compF Try.prog i_fresh_Age_1 = some c_fresh_Age_1 := by kernel_rfl
theorem F_fresh_since : F i_fresh_since = some c_fresh_since := rfl
theorem kc_fresh_since : compF Try.prog i_fresh_since = some c_fresh_since := by kernel_rfl
theorem F_fresh_keeps : F i_fresh_keeps = some c_fresh_keeps := rfl
theorem kc_fresh_keeps : compF Try.prog i_fresh_keeps = some c_fresh_keeps := by kernel_rfl
theorem kc_gatepostref09_less : compF Try.prog i_gatepostref09_less = some c_gatepostref09_less := by kernel_rfl
theorem kc_gatepostref09_cut : compF Try.prog i_gatepostref09_cut = some c_gatepostref09_cut := by kernel_rfl
theorem kc_gatepostref09_atMost : compF Try.prog i_gatepostref09_atMost = some c_gatepostref09_atMost := by kernel_rfl
theorem F_fresh_late : F i_fresh_late = some c_fresh_late := rfl
theorem kc_fresh_late : compF Try.prog i_fresh_late = some c_fresh_late := by kernel_rfl
def k_gatepostlaw09_FreshLonger_1 (L : FuncId → List V → V → Prop) (K : V → Heap → Prop) (v3 v7 v8 : V) (h : Heap) : Prop :=
    (wi F L (.load true 21 (.c v3)) E0 h fun v44 h =>
    (wi F L (.boxz [(.int .i64 0), (.bool false), (.bool false), (.bool false), (.bool false), (.bool false), (.bool false), (.bool false), (.int .i64 0), (.int .i64 0), (.int .i64 0), (.int .i64 0), (.int .i64 0), (.int .i64 0), (.int .i64 0), (.int .i64 0), (.int .i64 0), (.int .i64 0), (.int .i64 0), (.int .i64 0), (.str [])]) E0 h fun v12 h =>
    (wi F L (.store 21 (.c v12) (.c v44)) E0 h fun _ h =>
    (wi F L (.faddr 1 (.c v12)) E0 h fun v47 h =>
    (wi F L (.faddr 8 (.c v47)) E0 h fun v48 h =>
    (wi F L (.store 1 (.c v48) (.c v7)) E0 h fun _ h =>
    (wi F L (.faddr 1 (.c v12)) E0 h fun v49 h =>
    (wi F L (.faddr 7 (.c v49)) E0 h fun v50 h =>
    (wi F L (.store 1 (.c v50) (.c v8)) E0 h fun _ h =>
    (wi F L (.faddr 15 (.c v12)) E0 h fun v51 h =>
    (wi F L (.store 1 (.c v51) (.c (.int .i64 7))) E0 h fun _ h =>
    (wi F L (.load true 21 (.c v3)) E0 h fun v52 h =>
    (wi F L (.boxz [(.int .i64 0), (.bool false), (.bool false), (.bool false), (.bool false), (.bool false), (.bool false), (.bool false), (.int .i64 0), (.int .i64 0), (.int .i64 0), (.int .i64 0), (.int .i64 0), (.int .i64 0), (.int .i64 0), (.int .i64 0), (.int .i64 0), (.int .i64 0), (.int .i64 0), (.int .i64 0), (.str [])]) E0 h fun v13 h =>
    (wi F L (.store 21 (.c v13) (.c v52)) E0 h fun _ h =>
    (wi F L (.faddr 1 (.c v13)) E0 h fun v54 h =>
    (wi F L (.faddr 8 (.c v54)) E0 h fun v55 h =>
    (wi F L (.store 1 (.c v55) (.c (.int .i64 (-1)))) E0 h fun _ h =>
    (wi F L (.faddr 1 (.c v13)) E0 h fun v56 h =>
    (wi F L (.faddr 7 (.c v56)) E0 h fun v57 h =>
    (wi F L (.store 1 (.c v57) (.c v8)) E0 h fun _ h =>
    (wi F L (.faddr 15 (.c v13)) E0 h fun v58 h =>
    (wi F L (.store 1 (.c v58) (.c (.int .i64 7))) E0 h fun _ h =>
    (wi F L (.load true 21 (.c v3)) E0 h fun v59 h =>
    (wi F L (.boxz [(.int .i64 0), (.bool false), (.bool false), (.bool false), (.bool false), (.bool false), (.bool false), (.bool false), (.int .i64 0), (.int .i64 0), (.int .i64 0), (.int .i64 0), (.int .i64 0), (.int .i64 0), (.int .i64 0), (.int .i64 0), (.int .i64 0), (.int .i64 0), (.int .i64 0), (.int .i64 0), (.str [])]) E0 h fun v14 h =>
    (wi F L (.store 21 (.c v14) (.c v59)) E0 h fun _ h =>
    (wi F L (.bin .add (.c (.int .i64 100)) (.c v7)) E0 h fun v61 h =>
    (wi F L (.faddr 1 (.c v14)) E0 h fun v62 h =>
    (wi F L (.faddr 8 (.c v62)) E0 h fun v63 h =>
    (wi F L (.store 1 (.c v63) (.c (.int .i64 (-1)))) E0 h fun _ h =>
    (wi F L (.faddr 1 (.c v14)) E0 h fun v64 h =>
    (wi F L (.faddr 7 (.c v64)) E0 h fun v65 h =>
    (wi F L (.store 1 (.c v65) (.c (.int .i64 (-1)))) E0 h fun _ h =>
    (wi F L (.faddr 14 (.c v14)) E0 h fun v66 h =>
    (wi F L (.store 1 (.c v66) (.c (.int .i64 100))) E0 h fun _ h =>
    (wi F L (.faddr 15 (.c v14)) E0 h fun v67 h =>
    (wi F L (.store 1 (.c v67) (.c v61)) E0 h fun _ h =>
    (wi F L (.load true 21 (.c v12)) E0 h fun v68 h =>
    (wi F L (.call i_fresh_Lifetime [(.c v68)]) E0 h fun v69 h =>
    (wi F L (.bin .eql (.c v69) (.c v7)) E0 h fun v71 h =>
    (wg v71 true (wi F L (.load true 21 (.c v13)) E0 h) h fun v73 h =>
    (wg v71 true (wi F L (.call i_fresh_Lifetime [(.c v73)]) E0 h) h fun v74 h =>
    (wg v71 true (wi F L (.mv (.c v8)) E0 h) h fun v75 h =>
    (wg v71 true (wi F L (.bin .eql (.c v74) (.c v75)) E0 h) h fun v76 h =>
    (wi F L (.pick (.c v71) (.c v76) (.c (.bool false))) E0 h fun v77 h =>
    (wg v77 true (wi F L (.load true 21 (.c v14)) E0 h) h fun v79 h =>
    (wg v77 true (wi F L (.call i_fresh_Lifetime [(.c v79)]) E0 h) h fun v80 h =>
    (wg v77 true (wi F L (.mv (.c v7)) E0 h) h fun v81 h =>
    (wg v77 true (wi F L (.bin .eql (.c v80) (.c v81)) E0 h) h fun v82 h =>
    (wi F L (.pick (.c v77) (.c v82) (.c (.bool false))) E0 h fun v83 h =>
    (∃ v, some v83 = some v ∧ K v h))))))))))))))))))))))))))))))))))))))))))))))))))
def k_gatepostlaw09_FreshLonger_0 (L : FuncId → List V → V → Prop) (K : V → Heap → Prop) (v1 v3 v7 v8 : V) (h : Heap) : Prop :=
    (wi F L (.build [(.bool false), (.bool false), (.bool false), (.bool false), (.bool false), (.bool false), (.bool false), (.int .i64 0), (.int .i64 0), (.int .i64 0), (.int .i64 0), (.int .i64 0), (.int .i64 0)] [(7, 1, (.c (.int .i64 (-1)))), (11, 1, (.c (.int .i64 (-1)))), (12, 1, (.c (.int .i64 (-1))))]) E0 h fun v26 h =>
    (wi F L (.boxz [(.bool false), (.bool false), (.bool false), (.bool false), (.bool false), (.bool false), (.bool false), (.int .i64 0), (.int .i64 0), (.int .i64 0), (.int .i64 0), (.int .i64 0), (.int .i64 0)]) E0 h fun v9 h =>
    (wi F L (.store 13 (.c v9) (.c v26)) E0 h fun _ h =>
    (wi F L (.load true 21 (.c v3)) E0 h fun v27 h' => Ext h h' ∧
    (wi F L (.load true 21 (.c v3)) E0 h' fun v28 h => Ext h' h ∧
    (wi F L (.boxz [(.int .i64 0), (.bool false), (.bool false), (.bool false), (.bool false), (.bool false), (.bool false), (.bool false), (.int .i64 0), (.int .i64 0), (.int .i64 0), (.int .i64 0), (.int .i64 0), (.int .i64 0), (.int .i64 0), (.int .i64 0), (.int .i64 0), (.int .i64 0), (.int .i64 0), (.int .i64 0), (.str [])]) E0 h fun v10 h' => Ext h h' ∧
    (wi F L (.boxz [(.int .i64 0), (.bool false), (.bool false), (.bool false), (.bool false), (.bool false), (.bool false), (.bool false), (.int .i64 0), (.int .i64 0), (.int .i64 0), (.int .i64 0), (.int .i64 0), (.int .i64 0), (.int .i64 0), (.int .i64 0), (.int .i64 0), (.int .i64 0), (.int .i64 0), (.int .i64 0), (.str [])]) E0 h' fun v11 h => Ext h' h ∧
    (wi F L (.store 21 (.c v10) (.c v27)) E0 h fun _ h => (loadV h true 21 v3 = some v28 ∧ True) ∧
    (wi F L (.store 21 (.c v11) (.c v28)) E0 h fun _ h =>
    (wi F L (.faddr 1 (.c v10)) E0 h fun v31 h =>
    (wi F L (.faddr 7 (.c v31)) E0 h fun v32 h =>
    (wi F L (.store 1 (.c v32) (.c v7)) E0 h fun _ h =>
    (wi F L (.faddr 1 (.c v11)) E0 h fun v33 h =>
    (wi F L (.faddr 7 (.c v33)) E0 h fun v34 h =>
    (wi F L (.store 1 (.c v34) (.c v8)) E0 h fun _ h =>
    (wi F L (.load true 21 (.c v11)) E0 h fun v35 h' => Ext h h' ∧
    (wi F L (.load true 13 (.c v9)) E0 h' fun v36 h => Ext h' h ∧
    (wi F L (.call i_fresh_State [(.c v35), (.c v36), (.c v1)]) E0 h fun v38 h' => Ext h h' ∧
    (wi F L (.load true 21 (.c v10)) E0 h' fun v39 h => Ext h' h ∧
    (wi F L (.load true 13 (.c v9)) E0 h fun v40 h' => Ext h h' ∧
    (wi F L (.call i_fresh_State [(.c v39), (.c v40), (.c v1)]) E0 h' fun v42 h =>
    (wi F L (.bin .gtr (.c v38) (.c v42)) E0 h fun v43 h =>
    (wb v43
    (∃ v, some (.bool false) = some v ∧ K v h)
    (k_gatepostlaw09_FreshLonger_1 L K v3 v7 v8 h))))))))))))))))))))))))
def p_gatepostlaw09_FreshLonger (L : FuncId → List V → V → Prop) (K : V → Heap → Prop) (a0 a1 a2 : V) (h : Heap) : Prop :=
    (wi F L (.box (.c a0)) E0 h fun v3 h =>
    (wi F L (.box (.c a2)) E0 h fun v5 h =>
    (wi F L (.ixaArr 2 1 (.c v5) (.c (.int .i64 0))) E0 h fun v15 h' => Ext h h' ∧
    (wi F L (.load false 1 (.c v15)) E0 h' fun v16 h => Ext h' h ∧
    (wi F L (.bin .and (.c v16) (.c (.int .i64 65535))) E0 h fun v17 h' => Ext h h' ∧
    (wi F L (.ixaArr 2 1 (.c v5) (.c (.int .i64 1))) E0 h' fun v18 h => Ext h' h ∧
    (wi F L (.load false 1 (.c v18)) E0 h fun v19 h' => Ext h h' ∧
    (wi F L (.bin .and (.c v19) (.c (.int .i64 65535))) E0 h' fun v20 h => Ext h' h ∧
    (wi F L (.bin .gtr (.c v17) (.c v20)) E0 h fun v23 h =>
    (wb v23
    (k_gatepostlaw09_FreshLonger_0 L K a1 v3 v20 v17 h)
    (k_gatepostlaw09_FreshLonger_0 L K a1 v3 v17 v20 h)))))))))))
theorem run_gatepostlaw09_FreshLonger {L : FuncId → List V → V → Prop} {K : V → Heap → Prop} {a0 a1 a2 : V} {h : Heap} (hp : p_gatepostlaw09_FreshLonger L K a0 a1 a2 h) : Cf F L i_gatepostlaw09_FreshLonger [a0, a1, a2] h K :=
  wcallp F_gatepostlaw09_FreshLonger (show 3 ≤ 84 by decide) (p := p_gatepostlaw09_FreshLonger L K a0 a1 a2 h) (by kernel_rfl) hp
def p_fresh_Age (L : FuncId → List V → V → Prop) (K : V → Heap → Prop) (a0 a1 : V) (h : Heap) : Prop :=
    (wi F L (.box (.c a0)) E0 h fun v2 h =>
    (wi F L (.faddr 14 (.c v2)) E0 h fun v7 h' => Ext h h' ∧
    (wi F L (.load false 1 (.c v7)) E0 h' fun v8 h => Ext h' h ∧
    (wi F L (.faddr 19 (.c v2)) E0 h fun v9 h' => Ext h h' ∧
    (wi F L (.load false 1 (.c v9)) E0 h' fun v10 h => Ext h' h ∧
    (wi F L (.call i_fresh_since [(.c v8), (.c v10)]) E0 h fun v11 h' => Ext h h' ∧
    (wi F L (.faddr 17 (.c v2)) E0 h' fun v13 h => Ext h' h ∧
    (wi F L (.load false 1 (.c v13)) E0 h fun v14 h' => Ext h h' ∧
    (wi F L (.callv (.c (.fn i_fresh_Age_1 [])) [(.c v14)]) E0 h' fun v15 h => Ext h' h ∧
    (wi F L (.faddr 18 (.c v2)) E0 h fun v16 h' => Ext h h' ∧
    (wi F L (.load false 1 (.c v16)) E0 h' fun v17 h => Ext h' h ∧
    (wi F L (.faddr 19 (.c v2)) E0 h fun v18 h' => Ext h h' ∧
    (wi F L (.load false 1 (.c v18)) E0 h' fun v19 h => Ext h' h ∧
    (wi F L (.call i_fresh_since [(.c v17), (.c v19)]) E0 h fun v20 h =>
    (wi F L (.bin .add (.c v15) (.c v20)) E0 h fun v21 h =>
    (wi F L (.mx [(.c v11), (.c v21)]) E0 h fun v22 h =>
    (wi F L (.faddr 19 (.c v2)) E0 h fun v24 h =>
    (wi F L (.load false 1 (.c v24)) E0 h fun v25 h =>
    (wi F L (.call i_fresh_since [(.c v25), (.c a1)]) E0 h fun v27 h =>
    (wi F L (.bin .add (.c v22) (.c v27)) E0 h fun v28 h =>
    (wi F L (.mn [(.c v28), (.c (.int .i64 2147483648))]) E0 h fun v29 h =>
    (∃ v, some v29 = some v ∧ K v h))))))))))))))))))))))
theorem run_fresh_Age {L : FuncId → List V → V → Prop} {K : V → Heap → Prop} {a0 a1 : V} {h : Heap} (hp : p_fresh_Age L K a0 a1 h) : Cf F L i_fresh_Age [a0, a1] h K :=
  wcallp F_fresh_Age (show 2 ≤ 30 by decide) (p := p_fresh_Age L K a0 a1 h) (by kernel_rfl) hp
def k_fresh_Heuristic_0 (L : FuncId → List V → V → Prop) (K : V → Heap → Prop) (h : Heap) : Prop :=
    (∃ v, some (.bool false) = some v ∧ K v h)
def k_fresh_Heuristic_2 (L : FuncId → List V → V → Prop) (K : V → Heap → Prop) (N0 : Env → Heap → Prop) (e : Env) (v6 : V) (h : Heap) : Prop :=
    (wi F L (.bin .add (.c v6) (.c (.int .i64 1))) E0 h fun v12 h =>
    (N0 (upd (upd e 12 v12) 6 v12) h))
def k_fresh_Heuristic_1 (L : FuncId → List V → V → Prop) (K : V → Heap → Prop) (N0 : Env → Heap → Prop) (e : Env) (v0 v5 v6 : V) (h : Heap) : Prop :=
    (wi F L (.ixArr 12 1 false (.c v5) (.c v6)) E0 h fun v8 h =>
    (wi F L (.bin .eql (.c v8) (.c v0)) E0 h fun v11 h =>
    (wb v11
    (∃ v, some (.bool true) = some v ∧ K v h)
    (k_fresh_Heuristic_2 L K N0 (upd (upd (upd (upd (upd e 8 v8) 4 v8) 9 v8) 10 v0) 11 v11) v6 h))))
def q_fresh_Heuristic_0 (L : FuncId → List V → V → Prop) (K : V → Heap → Prop) : X → Env → Heap → Prop := (fun x => (seqX (fun e h => k_fresh_Heuristic_0 L K  h) (retX c_fresh_Heuristic.results K)) (X.out 0 x))
def lc_fresh_Heuristic_0 : C :=
  (.seq (.region [⟨(some 7), none, .bin .lss (.t 6) (.c (.int .i64 12))⟩])
  (.seq (.cond (.t 7)
    .skip
    (.exit 0))
  (.seq (.block 1 (.seq (.region [⟨(some 8), none, .ixArr 12 1 false (.t 5) (.t 6)⟩, ⟨(some 4), none, .mv (.t 8)⟩])
  (.seq (.region [⟨(some 9), none, .mv (.t 4)⟩, ⟨(some 10), none, .mv (.t 0)⟩, ⟨(some 11), none, .bin .eql (.t 9) (.t 10)⟩])
  (.cond (.t 11)
    (.seq (.region [⟨(some 2), none, .mv (.c (.bool true))⟩])
    .ret)
    .skip))))
  (.region [⟨(some 12), none, .bin .add (.t 6) (.c (.int .i64 1))⟩, ⟨(some 6), none, .mv (.t 12)⟩]))))
def b_fresh_Heuristic_0 (L : FuncId → List V → V → Prop) (K : V → Heap → Prop) (N0 : Env → Heap → Prop) (e : Env) (h : Heap) : Prop :=
    (wi F L (.bin .lss (.c (e 6)) (.c (.int .i64 12))) E0 h fun v7 h =>
    (wb v7
    (k_fresh_Heuristic_1 L K N0 (upd e 7 v7) (e 0) (e 5) (e 6) h)
    (k_fresh_Heuristic_0 L K  h)))
theorem l_fresh_Heuristic_0 {L : FuncId → List V → V → Prop} {K : V → Heap → Prop} (I : Nat → Env → Heap → Prop) (hr : ∀ n e h, I n e h → b_fresh_Heuristic_0 L K (fun e' h' => ∃ m, m < n ∧ I m e' h') e h) {n : Nat} {e : Env} {h : Heap} (hi : I n e h) : Wl F L lc_fresh_Heuristic_0 (q_fresh_Heuristic_0 L K) e h :=
  wloopp (b := b_fresh_Heuristic_0 L K) I (fun _ _ _ => by kernel_rfl) hr hi
def p_fresh_Heuristic (L : FuncId → List V → V → Prop) (K : V → Heap → Prop) (a0 : V) (h : Heap) : Prop :=
    (wi F L (.call i_fresh_keeps []) E0 h fun v5 h =>
    (Wl F L lc_fresh_Heuristic_0 (q_fresh_Heuristic_0 L K) (upd (upd (upd (enterE [a0]) 2 (.bool false)) 5 v5) 6 (.int .i64 0)) h))
theorem run_fresh_Heuristic {L : FuncId → List V → V → Prop} {K : V → Heap → Prop} {a0 : V} {h : Heap} (hp : p_fresh_Heuristic L K a0 h) : Cf F L i_fresh_Heuristic [a0] h K :=
  wcallp F_fresh_Heuristic (show 1 ≤ 13 by decide) (p := p_fresh_Heuristic L K a0 h) (by kernel_rfl) hp
def k_fresh_Lifetime_0 (L : FuncId → List V → V → Prop) (K : V → Heap → Prop) (h : Heap) : Prop :=
    (∃ v, some (.int .i64 0) = some v ∧ K v h)
def p_fresh_Lifetime (L : FuncId → List V → V → Prop) (K : V → Heap → Prop) (a0 : V) (h : Heap) : Prop :=
    (wi F L (.box (.c a0)) E0 h fun v1 h =>
    (wi F L (.faddr 1 (.c v1)) E0 h fun v4 h =>
    (wi F L (.load true 13 (.c v4)) E0 h fun v5 h =>
    (wi F L (.boxz [(.bool false), (.bool false), (.bool false), (.bool false), (.bool false), (.bool false), (.bool false), (.int .i64 0), (.int .i64 0), (.int .i64 0), (.int .i64 0), (.int .i64 0), (.int .i64 0)]) E0 h fun v3 h =>
    (wi F L (.store 13 (.c v3) (.c v5)) E0 h fun _ h =>
    (wi F L (.faddr 8 (.c v3)) E0 h fun v7 h =>
    (wi F L (.load false 1 (.c v7)) E0 h fun v8 h =>
    (wi F L (.bin .geq (.c v8) (.c (.int .i64 0))) E0 h fun v9 h =>
    (wb v9
    (wi F L (.faddr 8 (.c v3)) E0 h fun v10 h =>
    (wi F L (.load false 1 (.c v10)) E0 h fun v11 h =>
    (wi F L (.mn [(.c v11), (.c (.int .i64 2147483648))]) E0 h fun v12 h =>
    (∃ v, some v12 = some v ∧ K v h))))
    (wi F L (.faddr 7 (.c v3)) E0 h fun v14 h =>
    (wi F L (.load false 1 (.c v14)) E0 h fun v15 h =>
    (wi F L (.bin .geq (.c v15) (.c (.int .i64 0))) E0 h fun v16 h =>
    (wb v16
    (wi F L (.faddr 7 (.c v3)) E0 h fun v17 h =>
    (wi F L (.load false 1 (.c v17)) E0 h fun v18 h =>
    (wi F L (.mn [(.c v18), (.c (.int .i64 2147483648))]) E0 h fun v19 h =>
    (∃ v, some v19 = some v ∧ K v h))))
    (wi F L (.faddr 15 (.c v1)) E0 h fun v21 h =>
    (wi F L (.load false 1 (.c v21)) E0 h fun v22 h =>
    (wi F L (.bin .geq (.c v22) (.c (.int .i64 0))) E0 h fun v23 h =>
    (wg v23 true (wi F L (.faddr 14 (.c v1)) E0 h) h fun v25 h =>
    (wg v23 true (wi F L (.load false 1 (.c v25)) E0 h) h fun v26 h =>
    (wg v23 true (wi F L (.bin .geq (.c v26) (.c (.int .i64 0))) E0 h) h fun v27 h =>
    (wi F L (.pick (.c v23) (.c v27) (.c (.bool false))) E0 h fun v28 h =>
    (wb v28
    (wi F L (.faddr 14 (.c v1)) E0 h fun v29 h =>
    (wi F L (.load false 1 (.c v29)) E0 h fun v30 h =>
    (wi F L (.faddr 15 (.c v1)) E0 h fun v31 h =>
    (wi F L (.load false 1 (.c v31)) E0 h fun v32 h =>
    (wi F L (.call i_fresh_since [(.c v30), (.c v32)]) E0 h fun v33 h =>
    (wi F L (.mn [(.c v33), (.c (.int .i64 2147483648))]) E0 h fun v34 h =>
    (∃ v, some v34 = some v ∧ K v h)))))))
    (wi F L (.faddr 15 (.c v1)) E0 h fun v36 h =>
    (wi F L (.load false 1 (.c v36)) E0 h fun v37 h =>
    (wi F L (.bin .geq (.c v37) (.c (.int .i64 0))) E0 h fun v38 h =>
    (wb v38
    (wi F L (.faddr 19 (.c v1)) E0 h fun v39 h =>
    (wi F L (.load false 1 (.c v39)) E0 h fun v40 h =>
    (wi F L (.mx [(.c v40), (.c (.int .i64 0))]) E0 h fun v41 h =>
    (wi F L (.faddr 15 (.c v1)) E0 h fun v42 h =>
    (wi F L (.load false 1 (.c v42)) E0 h fun v43 h =>
    (wi F L (.call i_fresh_since [(.c v41), (.c v43)]) E0 h fun v44 h =>
    (wi F L (.mn [(.c v44), (.c (.int .i64 2147483648))]) E0 h fun v45 h =>
    (∃ v, some v45 = some v ∧ K v h))))))))
    (wi F L (.faddr 0 (.c v1)) E0 h fun v47 h =>
    (wi F L (.load false 1 (.c v47)) E0 h fun v48 h =>
    (wi F L (.call i_fresh_Heuristic [(.c v48)]) E0 h fun v49 h =>
    (wb v49
    (wi F L (.faddr 16 (.c v1)) E0 h fun v50 h =>
    (wi F L (.load false 1 (.c v50)) E0 h fun v51 h =>
    (wi F L (.faddr 14 (.c v1)) E0 h fun v52 h =>
    (wi F L (.load false 1 (.c v52)) E0 h fun v53 h =>
    (wi F L (.call i_fresh_since [(.c v51), (.c v53)]) E0 h fun v54 h =>
    (wi F L (.bin .quo (.c v54) (.c (.int .i64 10))) E0 h fun v55 h =>
    (wi F L (.mn [(.c v55), (.c (.int .i64 86400))]) E0 h fun v56 h =>
    (∃ v, some v56 = some v ∧ K v h))))))))
    (k_fresh_Lifetime_0 L K  h))))))))))))))))))))))))))))))
theorem run_fresh_Lifetime {L : FuncId → List V → V → Prop} {K : V → Heap → Prop} {a0 : V} {h : Heap} (hp : p_fresh_Lifetime L K a0 h) : Cf F L i_fresh_Lifetime [a0] h K :=
  wcallp F_fresh_Lifetime (show 1 ≤ 57 by decide) (p := p_fresh_Lifetime L K a0 h) (by kernel_rfl) hp
def k_fresh_State_0 (L : FuncId → List V → V → Prop) (K : V → Heap → Prop) (h : Heap) : Prop :=
    (∃ v, some (.int .i64 0) = some v ∧ K v h)
def p_fresh_State (L : FuncId → List V → V → Prop) (K : V → Heap → Prop) (a0 a1 a2 : V) (h : Heap) : Prop :=
    (wi F L (.box (.c a0)) E0 h fun v3 h =>
    (wi F L (.box (.c a1)) E0 h fun v4 h =>
    (wi F L (.load true 21 (.c v3)) E0 h fun v9 h' => Ext h h' ∧
    (wi F L (.call i_fresh_Age [(.c v9), (.c a2)]) E0 h' fun v11 h => Ext h' h ∧
    (wi F L (.load true 21 (.c v3)) E0 h fun v12 h' => Ext h h' ∧
    (wi F L (.call i_fresh_Lifetime [(.c v12)]) E0 h' fun v13 h =>
    (wi F L (.faddr 1 (.c v4)) E0 h fun v15 h =>
    (wi F L (.load false 1 (.c v15)) E0 h fun v16 h =>
    (wg v16 false (wi F L (.faddr 1 (.c v3)) E0 h) h fun v18 h =>
    (wg v16 false (wi F L (.faddr 1 (.c v18)) E0 h) h fun v19 h =>
    (wg v16 false (wi F L (.load false 1 (.c v19)) E0 h) h fun v20 h =>
    (wi F L (.pick (.c v16) (.c (.bool true)) (.c v20)) E0 h fun v21 h =>
    (wg v21 false (wi F L (.faddr 7 (.c v4)) E0 h) h fun v23 h =>
    (wg v21 false (wi F L (.load false 1 (.c v23)) E0 h) h fun v24 h =>
    (wg v21 false (wi F L (.bin .geq (.c v24) (.c (.int .i64 0))) E0 h) h fun v25 h =>
    (wg v21 false (wi F L (.mv (.c v25)) E0 h) h fun v26 h =>
    (wg v26 true (wi F L (.faddr 7 (.c v4)) E0 h) h fun v27 h =>
    (wg v26 true (wi F L (.load false 1 (.c v27)) E0 h) h fun v28 h =>
    (wg v26 true (wi F L (.mv (.c v11)) E0 h) h fun v29 h =>
    (wg v26 true (wi F L (.bin .lss (.c v28) (.c v29)) E0 h) h fun v30 h =>
    (wg v21 false (wi F L (.pick (.c v26) (.c v30) (.c (.bool false))) E0 h) h fun v31 h =>
    (wi F L (.pick (.c v21) (.c (.bool true)) (.c v31)) E0 h fun v32 h =>
    (wb v32
    (∃ v, some (.int .i64 2) = some v ∧ K v h)
    (wi F L (.bin .geq (.c v11) (.c v13)) E0 h fun v36 h =>
    (wb v36
    (wi F L (.faddr 1 (.c v3)) E0 h fun v37 h =>
    (wi F L (.load true 13 (.c v37)) E0 h fun v38 h =>
    (wi F L (.load true 13 (.c v4)) E0 h fun v39 h =>
    (wi F L (.bin .sub (.c v11) (.c v13)) E0 h fun v42 h =>
    (wi F L (.call i_fresh_late [(.c v38), (.c v39), (.c v42)]) E0 h fun v43 h =>
    (∃ v, some v43 = some v ∧ K v h))))))
    (wi F L (.faddr 11 (.c v4)) E0 h fun v45 h =>
    (wi F L (.load false 1 (.c v45)) E0 h fun v46 h =>
    (wi F L (.bin .sub (.c v13) (.c v11)) E0 h fun v49 h =>
    (wi F L (.bin .gtr (.c v46) (.c v49)) E0 h fun v50 h =>
    (wb v50
    (∃ v, some (.int .i64 2) = some v ∧ K v h)
    (k_fresh_State_0 L K  h)))))))))))))))))))))))))))))))
theorem run_fresh_State {L : FuncId → List V → V → Prop} {K : V → Heap → Prop} {a0 a1 a2 : V} {h : Heap} (hp : p_fresh_State L K a0 a1 a2 h) : Cf F L i_fresh_State [a0, a1, a2] h K :=
  wcallp F_fresh_State (show 3 ≤ 51 by decide) (p := p_fresh_State L K a0 a1 a2 h) (by kernel_rfl) hp
def p_fresh_Age_1 (L : FuncId → List V → V → Prop) (K : V → Heap → Prop) (a0 : V) (h : Heap) : Prop :=
    (wi F L (.mn [(.c a0), (.c (.int .i64 1099511627776))]) E0 h fun v4 h =>
    (wi F L (.mx [(.c (.int .i64 0)), (.c v4)]) E0 h fun v5 h =>
    (∃ v, some v5 = some v ∧ K v h)))
theorem run_fresh_Age_1 {L : FuncId → List V → V → Prop} {K : V → Heap → Prop} {a0 : V} {h : Heap} (hp : p_fresh_Age_1 L K a0 h) : Cf F L i_fresh_Age_1 [a0] h K :=
  wcallp F_fresh_Age_1 (show 1 ≤ 6 by decide) (p := p_fresh_Age_1 L K a0 h) (by kernel_rfl) hp
def k_fresh_since_0 (L : FuncId → List V → V → Prop) (K : V → Heap → Prop) (v0 v1 : V) (h : Heap) : Prop :=
    (wi F L (.mn [(.c v1), (.c (.int .i64 1099511627776))]) E0 h fun v12 h =>
    (wi F L (.mn [(.c v0), (.c (.int .i64 1099511627776))]) E0 h fun v14 h =>
    (wi F L (.bin .sub (.c v12) (.c v14)) E0 h fun v15 h =>
    (wi F L (.mx [(.c (.int .i64 0)), (.c v15)]) E0 h fun v16 h =>
    (∃ v, some v16 = some v ∧ K v h)))))
def p_fresh_since (L : FuncId → List V → V → Prop) (K : V → Heap → Prop) (a0 a1 : V) (h : Heap) : Prop :=
    (wi F L (.bin .lss (.c a0) (.c (.int .i64 0))) E0 h fun v6 h =>
    (wg v6 false (wi F L (.mv (.c a1)) E0 h) h fun v8 h =>
    (wg v6 false (wi F L (.bin .lss (.c v8) (.c (.int .i64 0))) E0 h) h fun v9 h =>
    (wi F L (.pick (.c v6) (.c (.bool true)) (.c v9)) E0 h fun v10 h =>
    (wb v10
    (∃ v, some (.int .i64 0) = some v ∧ K v h)
    (k_fresh_since_0 L K a0 a1 h))))))
theorem run_fresh_since {L : FuncId → List V → V → Prop} {K : V → Heap → Prop} {a0 a1 : V} {h : Heap} (hp : p_fresh_since L K a0 a1 h) : Cf F L i_fresh_since [a0, a1] h K :=
  wcallp F_fresh_since (show 2 ≤ 17 by decide) (p := p_fresh_since L K a0 a1 h) (by kernel_rfl) hp
def p_fresh_keeps (L : FuncId → List V → V → Prop) (K : V → Heap → Prop) (h : Heap) : Prop :=
    (wi F L (.boxz [(.int .i64 0), (.int .i64 0), (.int .i64 0), (.int .i64 0), (.int .i64 0), (.int .i64 0), (.int .i64 0), (.int .i64 0), (.int .i64 0), (.int .i64 0), (.int .i64 0), (.int .i64 0)]) E0 h fun v0 h =>
    (wi F L (.build [(.int .i64 0), (.int .i64 0), (.int .i64 0), (.int .i64 0), (.int .i64 0), (.int .i64 0), (.int .i64 0), (.int .i64 0), (.int .i64 0), (.int .i64 0), (.int .i64 0), (.int .i64 0)] [(0, 1, (.c (.int .i64 200))), (1, 1, (.c (.int .i64 203))), (2, 1, (.c (.int .i64 204))), (3, 1, (.c (.int .i64 206))), (4, 1, (.c (.int .i64 300))), (5, 1, (.c (.int .i64 301))), (6, 1, (.c (.int .i64 308))), (7, 1, (.c (.int .i64 404))), (8, 1, (.c (.int .i64 405))), (9, 1, (.c (.int .i64 410))), (10, 1, (.c (.int .i64 414))), (11, 1, (.c (.int .i64 501)))]) E0 h fun v1 h =>
    (wi F L (.store 12 (.c v0) (.c v1)) E0 h fun _ h =>
    (∃ v, resultsV h (enterE [v0]) [.cell 0 true 12] = some v ∧ K v h))))
theorem run_fresh_keeps {L : FuncId → List V → V → Prop} {K : V → Heap → Prop} {h : Heap} (hp : p_fresh_keeps L K  h) : Cf F L i_fresh_keeps [] h K :=
  wcallp F_fresh_keeps (show 0 ≤ 2 by decide) (p := p_fresh_keeps L K  h) (by kernel_rfl) hp
def k_fresh_late_0 (L : FuncId → List V → V → Prop) (K : V → Heap → Prop) (h : Heap) : Prop :=
    (∃ v, some (.int .i64 2) = some v ∧ K v h)
def p_fresh_late (L : FuncId → List V → V → Prop) (K : V → Heap → Prop) (a0 a1 a2 : V) (h : Heap) : Prop :=
    (wi F L (.box (.c a0)) E0 h fun v3 h =>
    (wi F L (.box (.c a1)) E0 h fun v4 h =>
    (wi F L (.faddr 4 (.c v3)) E0 h fun v8 h =>
    (wi F L (.load false 1 (.c v8)) E0 h fun v9 h =>
    (wg v9 false (wi F L (.faddr 5 (.c v3)) E0 h) h fun v11 h =>
    (wg v9 false (wi F L (.load false 1 (.c v11)) E0 h) h fun v12 h =>
    (wi F L (.pick (.c v9) (.c (.bool true)) (.c v12)) E0 h fun v13 h =>
    (wg v13 false (wi F L (.faddr 8 (.c v3)) E0 h) h fun v15 h =>
    (wg v13 false (wi F L (.load false 1 (.c v15)) E0 h) h fun v16 h =>
    (wg v13 false (wi F L (.bin .geq (.c v16) (.c (.int .i64 0))) E0 h) h fun v17 h =>
    (wi F L (.pick (.c v13) (.c (.bool true)) (.c v17)) E0 h fun v18 h =>
    (wb v18
    (∃ v, some (.int .i64 2) = some v ∧ K v h)
    (wi F L (.faddr 12 (.c v4)) E0 h fun v20 h =>
    (wi F L (.load false 1 (.c v20)) E0 h fun v21 h =>
    (wi F L (.bin .geq (.c v21) (.c a2)) E0 h fun v23 h =>
    (wb v23
    (∃ v, some (.int .i64 0) = some v ∧ K v h)
    (wi F L (.faddr 9 (.c v3)) E0 h fun v25 h =>
    (wi F L (.load false 1 (.c v25)) E0 h fun v26 h =>
    (wi F L (.bin .gtr (.c v26) (.c a2)) E0 h fun v28 h =>
    (wg v28 true (wi F L (.faddr 11 (.c v4)) E0 h) h fun v30 h =>
    (wg v28 true (wi F L (.load false 1 (.c v30)) E0 h) h fun v31 h =>
    (wg v28 true (wi F L (.bin .leq (.c v31) (.c (.int .i64 0))) E0 h) h fun v32 h =>
    (wi F L (.pick (.c v28) (.c v32) (.c (.bool false))) E0 h fun v33 h =>
    (wb v33
    (∃ v, some (.int .i64 1) = some v ∧ K v h)
    (k_fresh_late_0 L K  h)))))))))))))))))))))))))
theorem run_fresh_late {L : FuncId → List V → V → Prop} {K : V → Heap → Prop} {a0 a1 a2 : V} {h : Heap} (hp : p_fresh_late L K a0 a1 a2 h) : Cf F L i_fresh_late [a0, a1, a2] h K :=
  wcallp F_fresh_late (show 3 ≤ 34 by decide) (p := p_fresh_late L K a0 a1 a2 h) (by kernel_rfl) hp
theorem hF : ∀ f fn, F f = some fn → compF Try.prog f = some fn := lookup_all ⟨kc_gatepostlaw09_FreshAges, kc_gatepostlaw09_FreshTells, kc_gatepostlaw09_FreshGrows, kc_gatepostlaw09_FreshAsks, kc_gatepostlaw09_FreshLonger, kc_fresh_Age, kc_fresh_Heuristic, kc_gatepostref09_Age, kc_fresh_Lifetime, kc_gatepostref09_Lifetime, kc_fresh_State, kc_gatepostref09_State, kc_gatepostref09_Heuristic, kc_fresh_Age_1, kc_fresh_since, kc_fresh_keeps, kc_gatepostref09_less, kc_gatepostref09_cut, kc_gatepostref09_atMost, kc_fresh_late, trivial⟩
theorem hm : Try.prog.follows .mixedOrders = true := by kernel_rfl
end Go.Proofs.Ytebjbkbjmdnblaa.Vh
end
