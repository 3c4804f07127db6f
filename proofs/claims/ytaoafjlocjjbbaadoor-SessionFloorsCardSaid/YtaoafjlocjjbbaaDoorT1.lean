/- The texts of functions, compiled. -/
import Derived.Test.YtaoafjlocjjbbaaDoorSpD
import Derived.Test.YtaoafjlocjjbbaaDoorProg
import Derived.KernelRfl
namespace Go.Proofs.YtaoafjlocjjbbaaDoor
open Go.Sp
set_option maxRecDepth 100000
/-- vouch/vouchlaw16.SessionTries -/
def c3 : C := (.seq (.reg [⟨(some 4), (.mv (.const (.bool false))), none⟩])
 (.seq (.seq (.reg [⟨(some 16), (.call 13 []), none⟩,
 ⟨(some 17), (.nt (.tmp 16)), none⟩])
 (.cond (.tmp 17) (.seq (.reg [⟨(some 4), (.mv (.const (.bool false))), none⟩])
 .ret)
 .skip))
 (.seq (.reg [⟨(some 18), (.call 14 [(.const (.int .i64 3))]), none⟩,
 ⟨(some 5), (.mv (.tmp 18)), none⟩])
 (.seq (.reg [⟨(some 20), (.mv (.tmp 5)), none⟩,
 ⟨(some 21), (.call 16 [(.const (.string { data := #[107] })), (.const (.string { data := #[118] }))]), none⟩,
 ⟨(some 22), (.lit 37 1 3 [.string ⟨#[]⟩, .bool false, .string ⟨#[]⟩] [(0, 3, (.tmp 21))]), none⟩,
 ⟨(some 23), (.call 15 [(.tmp 20), (.tmp 22)]), none⟩,
 ⟨(some 19), (.mv (.tmp 23)), none⟩,
 ⟨(some 24), (.ext 0 (.tmp 19)), none⟩,
 ⟨(some 25), (.ext 1 (.tmp 19)), none⟩,
 ⟨(some 6), (.new 33 [.int .i64 (0), .int .i64 (0), .int .i64 (0), .int .i64 (0), .int .i64 (0), .int .i64 (0), .string ⟨#[]⟩, .int .i64 (0), .int .i64 (0), .bool false, .string ⟨#[]⟩, .bool false, .int .i64 (0), .int .i64 (0), .slice none 0 0, .slice none 0 0]), none⟩,
 ⟨none, (.st 16 (.tmp 6) (.tmp 24)), none⟩,
 ⟨(some 7), (.mv (.tmp 25)), none⟩])
 (.seq (.seq (.reg [⟨(some 26), (.mv (.tmp 7)), none⟩,
 ⟨(some 27), (.bin .neq (.tmp 26) (.const (.int .i64 0))), none⟩])
 (.cond (.tmp 27) (.seq (.reg [⟨(some 4), (.mv (.const (.bool false))), none⟩])
 .ret)
 .skip))
 (.seq (.seq (.reg [⟨(some 8), (.mv (.const (.int .i64 0))), none⟩])
 (.block 0 (.loop (.seq (.seq (.reg [⟨(some 28), (.mv (.tmp 8)), none⟩,
 ⟨(some 29), (.mv (.tmp 0)), none⟩,
 ⟨(some 30), (.conv .i64 (.tmp 29)), none⟩,
 ⟨(some 31), (.bin .lss (.tmp 28) (.tmp 30)), none⟩])
 (.cond (.tmp 31) .skip
 (.exit 0)))
 (.seq (.block 1 (.seq (.reg [⟨(some 35), (.mv (.tmp 5)), none⟩,
 ⟨(some 36), (.mv (.tmp 0)), none⟩,
 ⟨(some 37), (.conv .i64 (.tmp 36)), none⟩,
 ⟨(some 38), (.call 17 [(.tmp 35), (.tmp 37)]), none⟩,
 ⟨(some 34), (.mv (.tmp 38)), none⟩,
 ⟨(some 39), (.ext 0 (.tmp 34)), none⟩,
 ⟨(some 40), (.ext 1 (.tmp 34)), none⟩,
 ⟨(some 9), (.new 33 [.int .i64 (0), .int .i64 (0), .int .i64 (0), .int .i64 (0), .int .i64 (0), .int .i64 (0), .string ⟨#[]⟩, .int .i64 (0), .int .i64 (0), .bool false, .string ⟨#[]⟩, .bool false, .int .i64 (0), .int .i64 (0), .slice none 0 0, .slice none 0 0]), none⟩,
 ⟨none, (.st 16 (.tmp 9) (.tmp 39)), none⟩,
 ⟨(some 10), (.mv (.tmp 40)), none⟩])
 (.seq (.draw [⟨⟨(some 41), (.mv (.tmp 10)), none⟩, .p⟩,
 ⟨⟨(some 42), (.bin .neq (.tmp 41) (.const (.int .i64 0))), none⟩, .p⟩,
 ⟨⟨(some 43), (.mv (.tmp 42)), none⟩, .p⟩,
 ⟨⟨(some 44), (.fa 5 (.tmp 9)), (some (43, false))⟩, .p⟩,
 ⟨⟨(some 45), (.ld none (.tmp 44)), (some (43, false))⟩, .l⟩,
 ⟨⟨(some 46), (.fa 5 (.tmp 6)), (some (43, false))⟩, .p⟩,
 ⟨⟨(some 47), (.ld none (.tmp 46)), (some (43, false))⟩, .l⟩,
 ⟨⟨(some 48), (.bin .neq (.tmp 45) (.tmp 47)), (some (43, false))⟩, .p⟩,
 ⟨⟨(some 49), (.pick (.tmp 43) (.const (.bool true)) (.tmp 48)), none⟩, .p⟩,
 ⟨⟨(some 50), (.mv (.tmp 49)), none⟩, .p⟩,
 ⟨⟨(some 51), (.fa 3 (.tmp 9)), (some (50, false))⟩, .p⟩,
 ⟨⟨(some 52), (.ld none (.tmp 51)), (some (50, false))⟩, .l⟩,
 ⟨⟨(some 53), (.bin .neq (.tmp 52) (.const (.int .i64 3))), (some (50, false))⟩, .p⟩,
 ⟨⟨(some 54), (.pick (.tmp 50) (.const (.bool true)) (.tmp 53)), none⟩, .p⟩,
 ⟨⟨(some 55), (.mv (.tmp 54)), none⟩, .p⟩,
 ⟨⟨(some 56), (.fa 14 (.tmp 9)), (some (55, false))⟩, .p⟩,
 ⟨⟨(some 57), (.ld none (.tmp 56)), (some (55, false))⟩, .l⟩,
 ⟨⟨(some 58), (.len true (.tmp 57)), (some (55, false))⟩, .p⟩,
 ⟨⟨(some 59), (.bin .neq (.tmp 58) (.const (.int .i64 1))), (some (55, false))⟩, .p⟩,
 ⟨⟨(some 60), (.pick (.tmp 55) (.const (.bool true)) (.tmp 59)), none⟩, .p⟩,
 ⟨⟨(some 61), (.mv (.tmp 60)), none⟩, .p⟩,
 ⟨⟨(some 62), (.fa 14 (.tmp 9)), (some (61, false))⟩, .p⟩,
 ⟨⟨(some 63), (.ld none (.tmp 62)), (some (61, false))⟩, .l⟩,
 ⟨⟨(some 64), (.ia 3 (.tmp 63) (.const (.int .i64 0))), (some (61, false))⟩, .p⟩,
 ⟨⟨(some 65), (.ld (some 3) (.tmp 64)), (some (61, false))⟩, .l⟩,
 ⟨⟨(some 66), (.fa 14 (.tmp 6)), (some (61, false))⟩, .p⟩,
 ⟨⟨(some 67), (.ld none (.tmp 66)), (some (61, false))⟩, .l⟩,
 ⟨⟨(some 68), (.ia 3 (.tmp 67) (.const (.int .i64 0))), (some (61, false))⟩, .p⟩,
 ⟨⟨(some 69), (.ld (some 3) (.tmp 68)), (some (61, false))⟩, .l⟩,
 ⟨⟨(some 70), (.eqa true [.text, .truth, .text] (.tmp 65) (.tmp 69)), (some (61, false))⟩, .p⟩,
 ⟨⟨(some 71), (.pick (.tmp 61) (.const (.bool true)) (.tmp 70)), none⟩, .p⟩])
 (.cond (.tmp 71) (.seq (.reg [⟨(some 4), (.mv (.const (.bool false))), none⟩])
 .ret)
 .skip))))
 (.reg [⟨(some 32), (.mv (.tmp 8)), none⟩,
 ⟨(some 33), (.bin .add (.tmp 32) (.const (.int .i64 1))), none⟩,
 ⟨(some 8), (.mv (.tmp 33)), none⟩]))))))
 (.seq (.reg [⟨(some 73), (.mv (.tmp 5)), none⟩,
 ⟨(some 74), (.mv (.tmp 0)), none⟩,
 ⟨(some 75), (.conv .i64 (.tmp 74)), none⟩,
 ⟨(some 76), (.mv (.tmp 1)), none⟩,
 ⟨(some 77), (.conv .i64 (.tmp 76)), none⟩,
 ⟨(some 78), (.bin .sub (.tmp 75) (.tmp 77)), none⟩,
 ⟨(some 79), (.call 17 [(.tmp 73), (.tmp 78)]), none⟩,
 ⟨(some 72), (.mv (.tmp 79)), none⟩,
 ⟨(some 80), (.ext 0 (.tmp 72)), none⟩,
 ⟨(some 81), (.ext 1 (.tmp 72)), none⟩,
 ⟨(some 7), (.mv (.tmp 81)), none⟩])
 (.seq (.reg [⟨(some 82), (.mv (.tmp 5)), none⟩,
 ⟨(some 83), (.call 18 [(.tmp 82)]), none⟩,
 ⟨(some 11), (.new 41 [.int .i64 (0), .bool false, .int .i64 (0), .int .i64 (0), .int .i64 (0), .int .i64 (0)]), none⟩,
 ⟨none, (.st 6 (.tmp 11) (.tmp 83)), none⟩])
 (.seq (.reg [⟨(some 85), (.mv (.tmp 5)), none⟩,
 ⟨(some 86), (.call 17 [(.tmp 85), (.const (.int .i64 9))]), none⟩,
 ⟨(some 84), (.mv (.tmp 86)), none⟩,
 ⟨(some 87), (.ext 0 (.tmp 84)), none⟩,
 ⟨(some 88), (.ext 1 (.tmp 84)), none⟩,
 ⟨(some 12), (.new 33 [.int .i64 (0), .int .i64 (0), .int .i64 (0), .int .i64 (0), .int .i64 (0), .int .i64 (0), .string ⟨#[]⟩, .int .i64 (0), .int .i64 (0), .bool false, .string ⟨#[]⟩, .bool false, .int .i64 (0), .int .i64 (0), .slice none 0 0, .slice none 0 0]), none⟩,
 ⟨none, (.st 16 (.tmp 12) (.tmp 87)), none⟩,
 ⟨(some 13), (.mv (.tmp 88)), none⟩])
 (.seq (.reg [⟨(some 90), (.mv (.tmp 5)), none⟩,
 ⟨(some 91), (.call 16 [(.const (.string { data := #[107] })), (.const (.string { data := #[119] }))]), none⟩,
 ⟨(some 92), (.lit 37 1 3 [.string ⟨#[]⟩, .bool false, .string ⟨#[]⟩] [(0, 3, (.tmp 91))]), none⟩,
 ⟨(some 93), (.call 15 [(.tmp 90), (.tmp 92)]), none⟩,
 ⟨(some 89), (.mv (.tmp 93)), none⟩,
 ⟨(some 94), (.ext 0 (.tmp 89)), none⟩,
 ⟨(some 95), (.ext 1 (.tmp 89)), none⟩,
 ⟨(some 14), (.new 33 [.int .i64 (0), .int .i64 (0), .int .i64 (0), .int .i64 (0), .int .i64 (0), .int .i64 (0), .string ⟨#[]⟩, .int .i64 (0), .int .i64 (0), .bool false, .string ⟨#[]⟩, .bool false, .int .i64 (0), .int .i64 (0), .slice none 0 0, .slice none 0 0]), none⟩,
 ⟨none, (.st 16 (.tmp 14) (.tmp 94)), none⟩,
 ⟨(some 15), (.mv (.tmp 95)), none⟩])
 (.seq (.reg [⟨(some 96), (.mv (.tmp 7)), none⟩,
 ⟨(some 97), (.bin .eql (.tmp 96) (.const (.int .i64 41))), none⟩,
 ⟨(some 98), (.mv (.tmp 97)), none⟩,
 ⟨(some 99), (.fa 1 (.tmp 11)), (some (98, true))⟩,
 ⟨(some 100), (.ld none (.tmp 99)), (some (98, true))⟩,
 ⟨(some 101), (.nt (.tmp 100)), (some (98, true))⟩,
 ⟨(some 102), (.pick (.tmp 98) (.tmp 101) (.const (.bool false))), none⟩,
 ⟨(some 103), (.mv (.tmp 102)), none⟩,
 ⟨(some 104), (.fa 5 (.tmp 11)), (some (103, true))⟩,
 ⟨(some 105), (.ld none (.tmp 104)), (some (103, true))⟩,
 ⟨(some 106), (.bin .eql (.tmp 105) (.const (.int .i64 41))), (some (103, true))⟩,
 ⟨(some 107), (.pick (.tmp 103) (.tmp 106) (.const (.bool false))), none⟩,
 ⟨(some 108), (.mv (.tmp 107)), none⟩,
 ⟨(some 109), (.mv (.tmp 13)), (some (108, true))⟩,
 ⟨(some 110), (.bin .eql (.tmp 109) (.const (.int .i64 3))), (some (108, true))⟩,
 ⟨(some 111), (.pick (.tmp 108) (.tmp 110) (.const (.bool false))), none⟩,
 ⟨(some 112), (.mv (.tmp 111)), none⟩,
 ⟨(some 113), (.mv (.tmp 15)), (some (112, true))⟩,
 ⟨(some 114), (.bin .eql (.tmp 113) (.const (.int .i64 0))), (some (112, true))⟩,
 ⟨(some 115), (.pick (.tmp 112) (.tmp 114) (.const (.bool false))), none⟩,
 ⟨(some 116), (.mv (.tmp 115)), none⟩,
 ⟨(some 117), (.fa 5 (.tmp 14)), (some (116, true))⟩,
 ⟨(some 118), (.ld none (.tmp 117)), (some (116, true))⟩,
 ⟨(some 119), (.fa 5 (.tmp 6)), (some (116, true))⟩,
 ⟨(some 120), (.ld none (.tmp 119)), (some (116, true))⟩,
 ⟨(some 121), (.bin .add (.tmp 120) (.const (.int .i64 1))), (some (116, true))⟩,
 ⟨(some 122), (.bin .eql (.tmp 118) (.tmp 121)), (some (116, true))⟩,
 ⟨(some 123), (.pick (.tmp 116) (.tmp 122) (.const (.bool false))), none⟩,
 ⟨(some 4), (.mv (.tmp 123)), none⟩])
 .ret)))))))))))
def r3 : List RV := [.tmp 4]
theorem ok3 : FnOk Tryd.prog 3 124 c3 r3 := ⟨[25, 24], _, _, Tryd.func3, rfl, rfl, by kernel_rfl, by kernel_rfl, by kernel_rfl⟩
/-- vouch/vouchlaw16.SessionTokens -/
def c4 : C := (.seq (.reg [⟨(some 4), (.mv (.const (.bool false))), none⟩])
 (.seq (.seq (.reg [⟨(some 13), (.call 13 []), none⟩,
 ⟨(some 14), (.nt (.tmp 13)), none⟩])
 (.cond (.tmp 14) (.seq (.reg [⟨(some 4), (.mv (.const (.bool false))), none⟩])
 .ret)
 .skip))
 (.seq (.reg [⟨(some 16), (.mv (.tmp 0)), none⟩,
 ⟨(some 17), (.call 19 [(.tmp 16)]), none⟩,
 ⟨(some 15), (.mv (.tmp 17)), none⟩,
 ⟨(some 18), (.ext 0 (.tmp 15)), none⟩,
 ⟨(some 19), (.ext 1 (.tmp 15)), none⟩,
 ⟨(some 5), (.mv (.tmp 18)), none⟩,
 ⟨(some 6), (.mv (.tmp 19)), none⟩])
 (.seq (.reg [⟨(some 21), (.mv (.tmp 0)), none⟩,
 ⟨(some 22), (.call 20 [(.tmp 21)]), none⟩,
 ⟨(some 20), (.mv (.tmp 22)), none⟩,
 ⟨(some 23), (.ext 0 (.tmp 20)), none⟩,
 ⟨(some 24), (.ext 1 (.tmp 20)), none⟩,
 ⟨(some 7), (.mv (.tmp 23)), none⟩,
 ⟨(some 8), (.mv (.tmp 24)), none⟩])
 (.seq (.reg [⟨(some 26), (.mv (.tmp 1)), none⟩,
 ⟨(some 27), (.call 21 [(.tmp 26)]), none⟩,
 ⟨(some 25), (.mv (.tmp 27)), none⟩,
 ⟨(some 28), (.ext 0 (.tmp 25)), none⟩,
 ⟨(some 29), (.ext 1 (.tmp 25)), none⟩,
 ⟨(some 9), (.mv (.tmp 28)), none⟩,
 ⟨(some 10), (.mv (.tmp 29)), none⟩])
 (.seq (.reg [⟨(some 31), (.mv (.tmp 1)), none⟩,
 ⟨(some 32), (.call 22 [(.tmp 31)]), none⟩,
 ⟨(some 30), (.mv (.tmp 32)), none⟩,
 ⟨(some 33), (.ext 0 (.tmp 30)), none⟩,
 ⟨(some 34), (.ext 1 (.tmp 30)), none⟩,
 ⟨(some 11), (.mv (.tmp 33)), none⟩,
 ⟨(some 12), (.mv (.tmp 34)), none⟩])
 (.seq (.reg [⟨(some 35), (.mv (.tmp 5)), none⟩,
 ⟨(some 36), (.mv (.tmp 7)), none⟩,
 ⟨(some 37), (.bin .eql (.tmp 35) (.tmp 36)), none⟩,
 ⟨(some 38), (.mv (.tmp 37)), none⟩,
 ⟨(some 39), (.mv (.tmp 6)), (some (38, true))⟩,
 ⟨(some 40), (.mv (.tmp 8)), (some (38, true))⟩,
 ⟨(some 41), (.bin .eql (.tmp 39) (.tmp 40)), (some (38, true))⟩,
 ⟨(some 42), (.pick (.tmp 38) (.tmp 41) (.const (.bool false))), none⟩,
 ⟨(some 43), (.mv (.tmp 42)), none⟩,
 ⟨(some 44), (.mv (.tmp 9)), (some (43, true))⟩,
 ⟨(some 45), (.mv (.tmp 11)), (some (43, true))⟩,
 ⟨(some 46), (.bin .eql (.tmp 44) (.tmp 45)), (some (43, true))⟩,
 ⟨(some 47), (.pick (.tmp 43) (.tmp 46) (.const (.bool false))), none⟩,
 ⟨(some 48), (.mv (.tmp 47)), none⟩,
 ⟨(some 49), (.mv (.tmp 10)), (some (48, true))⟩,
 ⟨(some 50), (.mv (.tmp 12)), (some (48, true))⟩,
 ⟨(some 51), (.bin .eql (.tmp 49) (.tmp 50)), (some (48, true))⟩,
 ⟨(some 52), (.pick (.tmp 48) (.tmp 51) (.const (.bool false))), none⟩,
 ⟨(some 4), (.mv (.tmp 52)), none⟩])
 .ret)))))))
def r4 : List RV := [.tmp 4]
theorem ok4 : FnOk Tryd.prog 4 53 c4 r4 := ⟨[25, 24], _, _, Tryd.func4, rfl, rfl, by kernel_rfl, by kernel_rfl, by kernel_rfl⟩
/-- vouch/vouchlaw16.SessionBack -/
def c5 : C := (.seq (.reg [⟨(some 4), (.mv (.const (.bool false))), none⟩])
 (.seq (.seq (.reg [⟨(some 13), (.call 13 []), none⟩,
 ⟨(some 14), (.nt (.tmp 13)), none⟩])
 (.cond (.tmp 14) (.seq (.reg [⟨(some 4), (.mv (.const (.bool false))), none⟩])
 .ret)
 .skip))
 (.seq (.reg [⟨(some 16), (.mv (.tmp 0)), none⟩,
 ⟨(some 17), (.call 19 [(.tmp 16)]), none⟩,
 ⟨(some 15), (.mv (.tmp 17)), none⟩,
 ⟨(some 18), (.ext 0 (.tmp 15)), none⟩,
 ⟨(some 19), (.ext 1 (.tmp 15)), none⟩,
 ⟨(some 5), (.mv (.tmp 18)), none⟩,
 ⟨(some 6), (.mv (.tmp 19)), none⟩])
 (.seq (.reg [⟨(some 21), (.mv (.tmp 5)), none⟩,
 ⟨(some 22), (.call 21 [(.tmp 21)]), none⟩,
 ⟨(some 20), (.mv (.tmp 22)), none⟩,
 ⟨(some 23), (.ext 0 (.tmp 20)), none⟩,
 ⟨(some 24), (.ext 1 (.tmp 20)), none⟩,
 ⟨(some 7), (.mv (.tmp 23)), none⟩,
 ⟨(some 8), (.mv (.tmp 24)), none⟩])
 (.seq (.seq (.reg [⟨(some 25), (.mv (.tmp 0)), none⟩,
 ⟨(some 26), (.bin .lss (.tmp 25) (.const (.int .i64 0))), none⟩,
 ⟨(some 27), (.mv (.tmp 26)), none⟩,
 ⟨(some 28), (.mv (.tmp 0)), (some (27, false))⟩,
 ⟨(some 29), (.bin .gtr (.tmp 28) (.const (.int .i64 1099511627776))), (some (27, false))⟩,
 ⟨(some 30), (.pick (.tmp 27) (.const (.bool true)) (.tmp 29)), none⟩])
 (.cond (.tmp 30) (.seq (.reg [⟨(some 31), (.mv (.tmp 6)), none⟩,
 ⟨(some 32), (.bin .neq (.tmp 31) (.const (.int .i64 1))), none⟩,
 ⟨(some 33), (.mv (.tmp 32)), none⟩,
 ⟨(some 34), (.mv (.tmp 5)), (some (33, false))⟩,
 ⟨(some 35), (.bin .neq (.tmp 34) (.const (.string { data := #[] }))), (some (33, false))⟩,
 ⟨(some 36), (.pick (.tmp 33) (.const (.bool true)) (.tmp 35)), none⟩])
 (.cond (.tmp 36) (.seq (.reg [⟨(some 4), (.mv (.const (.bool false))), none⟩])
 .ret)
 .skip))
 (.seq (.reg [⟨(some 37), (.mv (.tmp 6)), none⟩,
 ⟨(some 38), (.bin .neq (.tmp 37) (.const (.int .i64 0))), none⟩,
 ⟨(some 39), (.mv (.tmp 38)), none⟩,
 ⟨(some 40), (.mv (.tmp 8)), (some (39, false))⟩,
 ⟨(some 41), (.bin .neq (.tmp 40) (.const (.int .i64 0))), (some (39, false))⟩,
 ⟨(some 42), (.pick (.tmp 39) (.const (.bool true)) (.tmp 41)), none⟩,
 ⟨(some 43), (.mv (.tmp 42)), none⟩,
 ⟨(some 44), (.mv (.tmp 7)), (some (43, false))⟩,
 ⟨(some 45), (.mv (.tmp 0)), (some (43, false))⟩,
 ⟨(some 46), (.bin .neq (.tmp 44) (.tmp 45)), (some (43, false))⟩,
 ⟨(some 47), (.pick (.tmp 43) (.const (.bool true)) (.tmp 46)), none⟩])
 (.cond (.tmp 47) (.seq (.reg [⟨(some 4), (.mv (.const (.bool false))), none⟩])
 .ret)
 .skip))))
 (.seq (.reg [⟨(some 49), (.mv (.tmp 1)), none⟩,
 ⟨(some 50), (.call 21 [(.tmp 49)]), none⟩,
 ⟨(some 48), (.mv (.tmp 50)), none⟩,
 ⟨(some 51), (.ext 0 (.tmp 48)), none⟩,
 ⟨(some 52), (.ext 1 (.tmp 48)), none⟩,
 ⟨(some 9), (.mv (.tmp 51)), none⟩,
 ⟨(some 10), (.mv (.tmp 52)), none⟩])
 (.seq (.seq (.reg [⟨(some 53), (.mv (.tmp 10)), none⟩,
 ⟨(some 54), (.bin .neq (.tmp 53) (.const (.int .i64 0))), none⟩])
 (.cond (.tmp 54) (.seq (.reg [⟨(some 55), (.mv (.tmp 9)), none⟩,
 ⟨(some 56), (.bin .eql (.tmp 55) (.const (.int .i64 0))), none⟩,
 ⟨(some 57), (.mv (.tmp 56)), none⟩,
 ⟨(some 58), (.mv (.tmp 10)), (some (57, true))⟩,
 ⟨(some 59), (.bin .eql (.tmp 58) (.const (.int .i64 30))), (some (57, true))⟩,
 ⟨(some 60), (.pick (.tmp 57) (.tmp 59) (.const (.bool false))), none⟩,
 ⟨(some 4), (.mv (.tmp 60)), none⟩])
 .ret)
 .skip))
 (.seq (.reg [⟨(some 62), (.mv (.tmp 9)), none⟩,
 ⟨(some 63), (.call 19 [(.tmp 62)]), none⟩,
 ⟨(some 61), (.mv (.tmp 63)), none⟩,
 ⟨(some 64), (.ext 0 (.tmp 61)), none⟩,
 ⟨(some 65), (.ext 1 (.tmp 61)), none⟩,
 ⟨(some 11), (.mv (.tmp 64)), none⟩,
 ⟨(some 12), (.mv (.tmp 65)), none⟩])
 (.seq (.reg [⟨(some 66), (.mv (.tmp 12)), none⟩,
 ⟨(some 67), (.bin .eql (.tmp 66) (.const (.int .i64 0))), none⟩,
 ⟨(some 68), (.mv (.tmp 67)), none⟩,
 ⟨(some 69), (.mv (.tmp 11)), (some (68, true))⟩,
 ⟨(some 70), (.mv (.tmp 1)), (some (68, true))⟩,
 ⟨(some 71), (.bin .eql (.tmp 69) (.tmp 70)), (some (68, true))⟩,
 ⟨(some 72), (.pick (.tmp 68) (.tmp 71) (.const (.bool false))), none⟩,
 ⟨(some 4), (.mv (.tmp 72)), none⟩])
 .ret)))))))))
def r5 : List RV := [.tmp 4]
theorem ok5 : FnOk Tryd.prog 5 73 c5 r5 := ⟨[25, 24], _, _, Tryd.func5, rfl, rfl, by kernel_rfl, by kernel_rfl, by kernel_rfl⟩
/-- vouch/vouchlaw16.SessionFloors -/
def c6 : C := (.seq (.reg [⟨(some 2), (.mv (.const (.bool false))), none⟩])
 (.seq (.seq (.reg [⟨(some 9), (.call 13 []), none⟩,
 ⟨(some 10), (.nt (.tmp 9)), none⟩])
 (.cond (.tmp 10) (.seq (.reg [⟨(some 2), (.mv (.const (.bool false))), none⟩])
 .ret)
 .skip))
 (.seq (.reg [⟨(some 11), (.call 14 [(.const (.int .i64 0))]), none⟩,
 ⟨(some 3), (.mv (.tmp 11)), none⟩])
 (.seq (.reg [⟨(some 4), (.mv (.const (.int .i64 0))), none⟩])
 (.seq (.seq (.reg [⟨(some 5), (.mv (.const (.int .i64 0))), none⟩])
 (.block 0 (.loop (.seq (.seq (.reg [⟨(some 12), (.mv (.tmp 5)), none⟩,
 ⟨(some 13), (.mv (.tmp 0)), none⟩,
 ⟨(some 14), (.len true (.tmp 13)), none⟩,
 ⟨(some 15), (.bin .lss (.tmp 12) (.tmp 14)), none⟩])
 (.cond (.tmp 15) .skip
 (.exit 0)))
 (.seq (.block 1 (.seq (.reg [⟨(some 18), (.mv (.tmp 0)), none⟩,
 ⟨(some 19), (.mv (.tmp 5)), none⟩,
 ⟨(some 20), (.ia 20 (.tmp 18) (.tmp 19)), none⟩,
 ⟨(some 21), (.ld (some 20) (.tmp 20)), none⟩,
 ⟨(some 6), (.new 55 [.int .u8 (0), .slice none 0 0, .int .i64 (0), .int .i64 (0), .int .i64 (0), .int .i64 (0), .int .i64 (0), .int .i64 (0), .int .i64 (0), .string ⟨#[]⟩, .int .i64 (0), .int .i64 (0), .bool false, .string ⟨#[]⟩, .bool false, .int .i64 (0), .int .i64 (0), .slice none 0 0, .slice none 0 0, .string ⟨#[]⟩]), none⟩,
 ⟨none, (.st 20 (.tmp 6) (.tmp 21)), none⟩])
 (.seq (.reg [⟨(some 7), (.mv (.const (.int .i64 (-1)))), none⟩])
 (.seq (.seq (.reg [⟨(some 22), (.fa 0 (.tmp 6)), none⟩,
 ⟨(some 23), (.ld none (.tmp 22)), none⟩,
 ⟨(some 24), (.bin .rem (.tmp 23) (.const (.int .u8 4))), none⟩])
 (.block 2 (.seq (.reg [⟨(some 26), (.bin .eql (.tmp 24) (.const (.int .u8 0))), none⟩,
 ⟨(some 25), (.mv (.tmp 26)), none⟩])
 (.cond (.tmp 25) (.seq (.reg [⟨(some 27), (.mv (.tmp 3)), none⟩,
 ⟨(some 28), (.fa 2 (.tmp 6)), none⟩,
 ⟨(some 29), (.ld none (.tmp 28)), none⟩,
 ⟨(some 30), (.call 23 [(.tmp 27), (.tmp 29)]), none⟩])
 (.reg [⟨(some 31), (.fa 2 (.tmp 6)), none⟩,
 ⟨(some 32), (.ld none (.tmp 31)), none⟩,
 ⟨(some 7), (.mv (.tmp 32)), none⟩]))
 (.seq (.reg [⟨(some 34), (.bin .eql (.tmp 24) (.const (.int .u8 1))), none⟩,
 ⟨(some 33), (.mv (.tmp 34)), none⟩])
 (.cond (.tmp 33) (.seq (.reg [⟨(some 35), (.mv (.tmp 3)), none⟩,
 ⟨(some 36), (.fa 19 (.tmp 6)), none⟩,
 ⟨(some 37), (.ld none (.tmp 36)), none⟩,
 ⟨(some 38), (.call 24 [(.tmp 35), (.tmp 37)]), none⟩,
 ⟨(some 39), (.bin .eql (.tmp 38) (.const (.int .i64 0))), none⟩])
 (.cond (.tmp 39) (.reg [⟨(some 41), (.fa 19 (.tmp 6)), none⟩,
 ⟨(some 42), (.ld none (.tmp 41)), none⟩,
 ⟨(some 43), (.call 21 [(.tmp 42)]), none⟩,
 ⟨(some 40), (.mv (.tmp 43)), none⟩,
 ⟨(some 44), (.ext 0 (.tmp 40)), none⟩,
 ⟨(some 45), (.ext 1 (.tmp 40)), none⟩,
 ⟨(some 7), (.mv (.tmp 44)), none⟩])
 .skip))
 (.seq (.reg [⟨(some 47), (.bin .eql (.tmp 24) (.const (.int .u8 2))), none⟩,
 ⟨(some 46), (.mv (.tmp 47)), none⟩])
 (.cond (.tmp 46) (.reg [⟨(some 48), (.mv (.tmp 3)), none⟩,
 ⟨(some 49), (.fa 1 (.tmp 6)), none⟩,
 ⟨(some 50), (.ld none (.tmp 49)), none⟩,
 ⟨(some 51), (.call 15 [(.tmp 48), (.tmp 50)]), none⟩])
 (.seq (.reg [⟨(some 53), (.bin .eql (.tmp 24) (.const (.int .u8 3))), none⟩,
 ⟨(some 52), (.mv (.tmp 53)), none⟩])
 (.cond (.tmp 52) (.seq (.draw [⟨⟨(some 54), (.mv (.tmp 3)), none⟩, .p⟩,
 ⟨⟨(some 55), (.call 18 [(.tmp 54)]), none⟩, .g⟩,
 ⟨⟨(some 56), (.fld none 2 (.tmp 55)), none⟩, .p⟩,
 ⟨⟨(some 57), (.fa 2 (.tmp 6)), none⟩, .p⟩,
 ⟨⟨(some 58), (.ld none (.tmp 57)), none⟩, .l⟩,
 ⟨⟨(some 59), (.fa 3 (.tmp 6)), none⟩, .p⟩,
 ⟨⟨(some 60), (.fa 12 (.tmp 59)), none⟩, .p⟩,
 ⟨⟨(some 61), (.ld none (.tmp 60)), none⟩, .l⟩,
 ⟨⟨(some 62), (.bld [.int .i64 (0), .int .i64 (0), .int .i64 (0), .int .i64 (0), .int .i64 (0), .int .i64 (0), .string ⟨#[]⟩, .int .i64 (0), .int .i64 (0), .bool false, .string ⟨#[]⟩, .bool false, .int .i64 (0), .int .i64 (0), .slice none 0 0, .slice none 0 0] [(0, 1, (.const (.int .i64 2))), (5, 1, (.tmp 56)), (13, 1, (.tmp 58)), (12, 1, (.tmp 61))]), none⟩, .p⟩,
 ⟨⟨(some 8), (.new 33 [.int .i64 (0), .int .i64 (0), .int .i64 (0), .int .i64 (0), .int .i64 (0), .int .i64 (0), .string ⟨#[]⟩, .int .i64 (0), .int .i64 (0), .bool false, .string ⟨#[]⟩, .bool false, .int .i64 (0), .int .i64 (0), .slice none 0 0, .slice none 0 0]), none⟩, .f⟩,
 ⟨⟨none, (.st 16 (.tmp 8) (.tmp 62)), none⟩, .m⟩])
 (.seq (.reg [⟨(some 63), (.mv (.tmp 3)), none⟩,
 ⟨(some 64), (.ld (some 16) (.tmp 8)), none⟩,
 ⟨(some 65), (.call 25 [(.tmp 63), (.tmp 64)]), none⟩,
 ⟨(some 66), (.mv (.tmp 65)), none⟩,
 ⟨(some 67), (.fa 12 (.tmp 8)), (some (66, true))⟩,
 ⟨(some 68), (.ld none (.tmp 67)), (some (66, true))⟩,
 ⟨(some 69), (.bin .eql (.tmp 68) (.const (.int .i64 0))), (some (66, true))⟩,
 ⟨(some 70), (.pick (.tmp 66) (.tmp 69) (.const (.bool false))), none⟩])
 (.cond (.tmp 70) (.reg [⟨(some 71), (.fa 2 (.tmp 6)), none⟩,
 ⟨(some 72), (.ld none (.tmp 71)), none⟩,
 ⟨(some 7), (.mv (.tmp 72)), none⟩])
 .skip)))
 .skip))))))))))
 (.seq (.seq (.reg [⟨(some 73), (.mv (.tmp 7)), none⟩,
 ⟨(some 74), (.mv (.tmp 4)), none⟩,
 ⟨(some 75), (.bin .gtr (.tmp 73) (.tmp 74)), none⟩,
 ⟨(some 76), (.mv (.tmp 75)), none⟩,
 ⟨(some 77), (.mv (.tmp 7)), (some (76, true))⟩,
 ⟨(some 78), (.bin .leq (.tmp 77) (.const (.int .i64 1099511627776))), (some (76, true))⟩,
 ⟨(some 79), (.pick (.tmp 76) (.tmp 78) (.const (.bool false))), none⟩])
 (.cond (.tmp 79) (.reg [⟨(some 80), (.mv (.tmp 7)), none⟩,
 ⟨(some 4), (.mv (.tmp 80)), none⟩])
 .skip))
 (.seq (.reg [⟨(some 81), (.mv (.tmp 3)), none⟩,
 ⟨(some 82), (.call 26 [(.tmp 81)]), none⟩,
 ⟨(some 83), (.mv (.tmp 4)), none⟩,
 ⟨(some 84), (.bin .neq (.tmp 82) (.tmp 83)), none⟩])
 (.cond (.tmp 84) (.seq (.reg [⟨(some 2), (.mv (.const (.bool false))), none⟩])
 .ret)
 .skip)))))))
 (.reg [⟨(some 16), (.mv (.tmp 5)), none⟩,
 ⟨(some 17), (.bin .add (.tmp 16) (.const (.int .i64 1))), none⟩,
 ⟨(some 5), (.mv (.tmp 17)), none⟩]))))))
 (.seq (.reg [⟨(some 2), (.mv (.const (.bool true))), none⟩])
 .ret))))))
def r6 : List RV := [.tmp 2]
theorem ok6 : FnOk Tryd.prog 6 85 c6 r6 := ⟨[25, 24], _, _, Tryd.func6, rfl, rfl, by kernel_rfl, by kernel_rfl, by kernel_rfl⟩
/-- vouch/vouchlaw16.SessionPlays -/
def c7 : C := (.seq (.reg [⟨(some 4), (.mv (.const (.bool false))), none⟩])
 (.seq (.seq (.reg [⟨(some 8), (.call 13 []), none⟩,
 ⟨(some 9), (.nt (.tmp 8)), none⟩])
 (.cond (.tmp 9) (.seq (.reg [⟨(some 4), (.mv (.const (.bool false))), none⟩])
 .ret)
 .skip))
 (.seq (.reg [⟨(some 10), (.mv (.tmp 0)), none⟩,
 ⟨(some 11), (.call 14 [(.tmp 10)]), none⟩,
 ⟨(some 12), (.mv (.tmp 0)), none⟩,
 ⟨(some 13), (.bld [.int .i64 (0), .int .i64 (0), .bool false, .int .i64 (0), .int .i64 (0), .int .i64 (0), .int .i64 (0), .slice none 0 0] [(0, 1, (.tmp 12))]), none⟩,
 ⟨(some 14), (.box 63 (.tmp 13)), none⟩,
 ⟨(some 5), (.mv (.tmp 11)), none⟩,
 ⟨(some 6), (.mv (.tmp 14)), none⟩])
 (.seq (.seq (.reg [⟨(some 15), (.mv (.tmp 5)), none⟩,
 ⟨(some 16), (.eqs false .ptr (.tmp 15) (.const (.pointer none))), none⟩])
 (.cond (.tmp 16) (.seq (.reg [⟨(some 4), (.mv (.const (.bool false))), none⟩])
 .ret)
 .skip))
 (.seq (.seq (.reg [⟨(some 7), (.mv (.const (.int .i64 0))), none⟩])
 (.block 0 (.loop (.seq (.seq (.reg [⟨(some 17), (.mv (.tmp 7)), none⟩,
 ⟨(some 18), (.mv (.tmp 1)), none⟩,
 ⟨(some 19), (.len true (.tmp 18)), none⟩,
 ⟨(some 20), (.bin .lss (.tmp 17) (.tmp 19)), none⟩])
 (.cond (.tmp 20) .skip
 (.exit 0)))
 (.seq (.block 1 (.seq (.reg [⟨(some 23), (.mv (.tmp 5)), none⟩,
 ⟨(some 24), (.mv (.tmp 6)), none⟩,
 ⟨(some 25), (.mv (.tmp 1)), none⟩,
 ⟨(some 26), (.mv (.tmp 7)), none⟩,
 ⟨(some 27), (.ia 20 (.tmp 25) (.tmp 26)), none⟩,
 ⟨(some 28), (.ld (some 20) (.tmp 27)), none⟩,
 ⟨(some 29), (.call 27 [(.tmp 23), (.tmp 24), (.tmp 28)]), none⟩,
 ⟨(some 30), (.nt (.tmp 29)), none⟩])
 (.cond (.tmp 30) (.seq (.reg [⟨(some 4), (.mv (.const (.bool false))), none⟩])
 .ret)
 .skip)))
 (.reg [⟨(some 21), (.mv (.tmp 7)), none⟩,
 ⟨(some 22), (.bin .add (.tmp 21) (.const (.int .i64 1))), none⟩,
 ⟨(some 7), (.mv (.tmp 22)), none⟩]))))))
 (.seq (.reg [⟨(some 4), (.mv (.const (.bool true))), none⟩])
 .ret))))))
def r7 : List RV := [.tmp 4]
theorem ok7 : FnOk Tryd.prog 7 31 c7 r7 := ⟨[25, 24], _, _, Tryd.func7, rfl, rfl, by kernel_rfl, by kernel_rfl, by kernel_rfl⟩
/-- vouch/vouchlaw16.SessionClones -/
def c8 : C := (.seq (.reg [⟨(some 6), (.mv (.const (.bool false))), none⟩])
 (.seq (.seq (.reg [⟨(some 21), (.call 13 []), none⟩,
 ⟨(some 22), (.nt (.tmp 21)), none⟩])
 (.cond (.tmp 22) (.seq (.reg [⟨(some 6), (.mv (.const (.bool false))), none⟩])
 .ret)
 .skip))
 (.seq (.reg [⟨(some 23), (.mv (.tmp 0)), none⟩,
 ⟨(some 24), (.call 14 [(.tmp 23)]), none⟩,
 ⟨(some 25), (.mv (.tmp 0)), none⟩,
 ⟨(some 26), (.bld [.int .i64 (0), .int .i64 (0), .bool false, .int .i64 (0), .int .i64 (0), .int .i64 (0), .int .i64 (0), .slice none 0 0] [(0, 1, (.tmp 25))]), none⟩,
 ⟨(some 27), (.box 63 (.tmp 26)), none⟩,
 ⟨(some 7), (.mv (.tmp 24)), none⟩,
 ⟨(some 8), (.mv (.tmp 27)), none⟩])
 (.seq (.seq (.reg [⟨(some 9), (.mv (.const (.int .i64 0))), none⟩])
 (.block 0 (.loop (.seq (.seq (.reg [⟨(some 28), (.mv (.tmp 9)), none⟩,
 ⟨(some 29), (.mv (.tmp 1)), none⟩,
 ⟨(some 30), (.len true (.tmp 29)), none⟩,
 ⟨(some 31), (.bin .lss (.tmp 28) (.tmp 30)), none⟩])
 (.cond (.tmp 31) .skip
 (.exit 0)))
 (.seq (.block 1 (.seq (.reg [⟨(some 34), (.mv (.tmp 1)), none⟩,
 ⟨(some 35), (.mv (.tmp 9)), none⟩,
 ⟨(some 36), (.ia 20 (.tmp 34) (.tmp 35)), none⟩,
 ⟨(some 37), (.ld (some 20) (.tmp 36)), none⟩,
 ⟨(some 10), (.new 55 [.int .u8 (0), .slice none 0 0, .int .i64 (0), .int .i64 (0), .int .i64 (0), .int .i64 (0), .int .i64 (0), .int .i64 (0), .int .i64 (0), .string ⟨#[]⟩, .int .i64 (0), .int .i64 (0), .bool false, .string ⟨#[]⟩, .bool false, .int .i64 (0), .int .i64 (0), .slice none 0 0, .slice none 0 0, .string ⟨#[]⟩]), none⟩,
 ⟨none, (.st 20 (.tmp 10) (.tmp 37)), none⟩])
 (.seq (.draw [⟨⟨(some 38), (.lit 37 0 3 [] []), none⟩, .f⟩,
 ⟨⟨(some 39), (.mv (.tmp 1)), none⟩, .p⟩,
 ⟨⟨(some 40), (.mv (.tmp 9)), none⟩, .p⟩,
 ⟨⟨(some 41), (.ia 20 (.tmp 39) (.tmp 40)), none⟩, .p⟩,
 ⟨⟨(some 42), (.fa 1 (.tmp 41)), none⟩, .p⟩,
 ⟨⟨(some 43), (.ld none (.tmp 42)), none⟩, .l⟩,
 ⟨⟨(some 44), (.app 37 3 40 (.tmp 38) (.tmp 43)), none⟩, .w⟩,
 ⟨⟨(some 45), (.call 16 [(.const (.string { data := #[115, 112, 97, 114, 101] })), (.const (.string { data := #[114, 111, 111, 109] }))]), none⟩, .g⟩,
 ⟨⟨(some 46), (.lit 37 1 3 [.string ⟨#[]⟩, .bool false, .string ⟨#[]⟩] [(0, 3, (.tmp 45))]), none⟩, .f⟩,
 ⟨⟨(some 47), (.app 37 3 40 (.tmp 44) (.tmp 46)), none⟩, .w⟩,
 ⟨⟨(some 48), (.mv (.tmp 1)), none⟩, .p⟩,
 ⟨⟨(some 49), (.mv (.tmp 9)), none⟩, .p⟩,
 ⟨⟨(some 50), (.ia 20 (.tmp 48) (.tmp 49)), none⟩, .p⟩,
 ⟨⟨(some 51), (.fa 1 (.tmp 50)), none⟩, .p⟩,
 ⟨⟨(some 52), (.ld none (.tmp 51)), none⟩, .l⟩,
 ⟨⟨(some 53), (.len true (.tmp 52)), none⟩, .p⟩,
 ⟨⟨(some 54), (.fnl (.slh 3) [(.tmp 47), (.tmp 53)]), none⟩, .p⟩,
 ⟨⟨(some 55), (.fa 1 (.tmp 10)), none⟩, .p⟩,
 ⟨⟨none, (.st 1 (.tmp 55) (.tmp 54)), none⟩, .m⟩])
 (.seq (.seq (.draw [⟨⟨(some 56), (.mv (.tmp 7)), none⟩, .p⟩,
 ⟨⟨(some 57), (.mv (.tmp 8)), none⟩, .p⟩,
 ⟨⟨(some 58), (.ld (some 20) (.tmp 10)), none⟩, .l⟩,
 ⟨⟨(some 59), (.call 27 [(.tmp 56), (.tmp 57), (.tmp 58)]), none⟩, .m⟩,
 ⟨⟨(some 60), (.nt (.tmp 59)), none⟩, .p⟩,
 ⟨⟨(some 61), (.mv (.tmp 60)), none⟩, .p⟩,
 ⟨⟨(some 62), (.fa 1 (.tmp 10)), (some (61, false))⟩, .p⟩,
 ⟨⟨(some 63), (.ld none (.tmp 62)), (some (61, false))⟩, .l⟩,
 ⟨⟨(some 64), (.mv (.tmp 1)), (some (61, false))⟩, .p⟩,
 ⟨⟨(some 65), (.mv (.tmp 9)), (some (61, false))⟩, .p⟩,
 ⟨⟨(some 66), (.ia 20 (.tmp 64) (.tmp 65)), (some (61, false))⟩, .p⟩,
 ⟨⟨(some 67), (.fa 1 (.tmp 66)), (some (61, false))⟩, .p⟩,
 ⟨⟨(some 68), (.ld none (.tmp 67)), (some (61, false))⟩, .l⟩,
 ⟨⟨(some 69), (.len true (.tmp 68)), (some (61, false))⟩, .p⟩,
 ⟨⟨(some 70), (.bin .add (.tmp 69) (.const (.int .i64 1))), (some (61, false))⟩, .p⟩,
 ⟨⟨(some 71), (.fnl (.slh 3) [(.tmp 63), (.tmp 70)]), (some (61, false))⟩, .p⟩,
 ⟨⟨(some 72), (.mv (.tmp 1)), (some (61, false))⟩, .p⟩,
 ⟨⟨(some 73), (.mv (.tmp 9)), (some (61, false))⟩, .p⟩,
 ⟨⟨(some 74), (.ia 20 (.tmp 72) (.tmp 73)), (some (61, false))⟩, .p⟩,
 ⟨⟨(some 75), (.fa 1 (.tmp 74)), (some (61, false))⟩, .p⟩,
 ⟨⟨(some 76), (.ld none (.tmp 75)), (some (61, false))⟩, .l⟩,
 ⟨⟨(some 77), (.len true (.tmp 76)), (some (61, false))⟩, .p⟩,
 ⟨⟨(some 78), (.ia 3 (.tmp 71) (.tmp 77)), (some (61, false))⟩, .p⟩,
 ⟨⟨(some 79), (.fa 0 (.tmp 78)), (some (61, false))⟩, .p⟩,
 ⟨⟨(some 80), (.ld none (.tmp 79)), (some (61, false))⟩, .l⟩,
 ⟨⟨(some 81), (.bin .neq (.tmp 80) (.const (.string { data := #[115, 112, 97, 114, 101] }))), (some (61, false))⟩, .p⟩,
 ⟨⟨(some 82), (.pick (.tmp 61) (.const (.bool true)) (.tmp 81)), none⟩, .p⟩])
 (.cond (.tmp 82) (.seq (.reg [⟨(some 6), (.mv (.const (.bool false))), none⟩])
 .ret)
 .skip))
 (.seq (.seq (.reg [⟨(some 11), (.mv (.const (.int .i64 0))), none⟩])
 (.block 2 (.loop (.seq (.seq (.reg [⟨(some 83), (.mv (.tmp 11)), none⟩,
 ⟨(some 84), (.fa 1 (.tmp 10)), none⟩,
 ⟨(some 85), (.ld none (.tmp 84)), none⟩,
 ⟨(some 86), (.len true (.tmp 85)), none⟩,
 ⟨(some 87), (.bin .lss (.tmp 83) (.tmp 86)), none⟩])
 (.cond (.tmp 87) .skip
 (.exit 2)))
 (.seq (.block 3 (.draw [⟨⟨(some 90), (.fa 1 (.tmp 10)), none⟩, .p⟩,
 ⟨⟨(some 91), (.ld none (.tmp 90)), none⟩, .l⟩,
 ⟨⟨(some 92), (.mv (.tmp 11)), none⟩, .p⟩,
 ⟨⟨(some 93), (.call 16 [(.const (.string { data := #[111, 118, 101, 114] })), (.const (.string { data := #[119, 114, 105, 116, 116, 101, 110] }))]), none⟩, .g⟩,
 ⟨⟨(some 94), (.ia 3 (.tmp 91) (.tmp 92)), none⟩, .p⟩,
 ⟨⟨none, (.st 3 (.tmp 94) (.tmp 93)), none⟩, .m⟩]))
 (.reg [⟨(some 88), (.mv (.tmp 11)), none⟩,
 ⟨(some 89), (.bin .add (.tmp 88) (.const (.int .i64 1))), none⟩,
 ⟨(some 11), (.mv (.tmp 89)), none⟩]))))))
 (.seq (.reg [⟨(some 95), (.mv (.tmp 7)), none⟩,
 ⟨(some 96), (.call 18 [(.tmp 95)]), none⟩,
 ⟨(some 97), (.fld none 1 (.tmp 96)), none⟩])
 (.cond (.tmp 97) (.seq (.reg [⟨(some 98), (.mv (.tmp 7)), none⟩,
 ⟨(some 99), (.call 28 [(.tmp 98)]), none⟩,
 ⟨(some 12), (.mv (.tmp 99)), none⟩])
 (.seq (.reg [⟨(some 101), (.mv (.tmp 12)), none⟩,
 ⟨(some 102), (.call 17 [(.tmp 101), (.const (.int .i64 1099511627776))]), none⟩,
 ⟨(some 100), (.mv (.tmp 102)), none⟩,
 ⟨(some 103), (.ext 0 (.tmp 100)), none⟩,
 ⟨(some 104), (.ext 1 (.tmp 100)), none⟩,
 ⟨(some 13), (.new 33 [.int .i64 (0), .int .i64 (0), .int .i64 (0), .int .i64 (0), .int .i64 (0), .int .i64 (0), .string ⟨#[]⟩, .int .i64 (0), .int .i64 (0), .bool false, .string ⟨#[]⟩, .bool false, .int .i64 (0), .int .i64 (0), .slice none 0 0, .slice none 0 0]), none⟩,
 ⟨none, (.st 16 (.tmp 13) (.tmp 103)), none⟩,
 ⟨(some 14), (.mv (.tmp 104)), none⟩])
 (.seq (.seq (.reg [⟨(some 15), (.mv (.const (.int .i64 0))), none⟩])
 (.block 4 (.loop (.seq (.seq (.reg [⟨(some 105), (.mv (.tmp 15)), none⟩,
 ⟨(some 106), (.fa 14 (.tmp 13)), none⟩,
 ⟨(some 107), (.ld none (.tmp 106)), none⟩,
 ⟨(some 108), (.len true (.tmp 107)), none⟩,
 ⟨(some 109), (.bin .lss (.tmp 105) (.tmp 108)), none⟩])
 (.cond (.tmp 109) .skip
 (.exit 4)))
 (.seq (.block 5 (.draw [⟨⟨(some 112), (.fa 14 (.tmp 13)), none⟩, .p⟩,
 ⟨⟨(some 113), (.ld none (.tmp 112)), none⟩, .l⟩,
 ⟨⟨(some 114), (.mv (.tmp 15)), none⟩, .p⟩,
 ⟨⟨(some 115), (.call 16 [(.const (.string { data := #[109, 97, 114, 107] })), (.const (.string { data := #[101, 100] }))]), none⟩, .g⟩,
 ⟨⟨(some 116), (.ia 3 (.tmp 113) (.tmp 114)), none⟩, .p⟩,
 ⟨⟨none, (.st 3 (.tmp 116) (.tmp 115)), none⟩, .m⟩]))
 (.reg [⟨(some 110), (.mv (.tmp 15)), none⟩,
 ⟨(some 111), (.bin .add (.tmp 110) (.const (.int .i64 1))), none⟩,
 ⟨(some 15), (.mv (.tmp 111)), none⟩]))))))
 (.seq (.reg [⟨(some 118), (.mv (.tmp 12)), none⟩,
 ⟨(some 119), (.call 17 [(.tmp 118), (.const (.int .i64 1099511627776))]), none⟩,
 ⟨(some 117), (.mv (.tmp 119)), none⟩,
 ⟨(some 120), (.ext 0 (.tmp 117)), none⟩,
 ⟨(some 121), (.ext 1 (.tmp 117)), none⟩,
 ⟨(some 16), (.new 33 [.int .i64 (0), .int .i64 (0), .int .i64 (0), .int .i64 (0), .int .i64 (0), .int .i64 (0), .string ⟨#[]⟩, .int .i64 (0), .int .i64 (0), .bool false, .string ⟨#[]⟩, .bool false, .int .i64 (0), .int .i64 (0), .slice none 0 0, .slice none 0 0]), none⟩,
 ⟨none, (.st 16 (.tmp 16) (.tmp 120)), none⟩,
 ⟨(some 17), (.mv (.tmp 121)), none⟩])
 (.seq (.draw [⟨⟨(some 122), (.fa 14 (.tmp 16)), none⟩, .p⟩,
 ⟨⟨(some 123), (.ld none (.tmp 122)), none⟩, .l⟩,
 ⟨⟨(some 124), (.len true (.tmp 123)), none⟩, .p⟩,
 ⟨⟨(some 125), (.mv (.tmp 8)), none⟩, .p⟩,
 ⟨⟨(some 126), (.nilc (.tmp 125)), none⟩, .p⟩,
 ⟨⟨(some 127), (.fa 7 (.tmp 126)), none⟩, .p⟩,
 ⟨⟨(some 128), (.ld none (.tmp 127)), none⟩, .l⟩,
 ⟨⟨(some 129), (.len true (.tmp 128)), none⟩, .p⟩,
 ⟨⟨(some 130), (.bin .neq (.tmp 124) (.tmp 129)), none⟩, .p⟩,
 ⟨⟨(some 131), (.mv (.tmp 130)), none⟩, .p⟩,
 ⟨⟨(some 132), (.fa 14 (.tmp 16)), (some (131, false))⟩, .p⟩,
 ⟨⟨(some 133), (.ld none (.tmp 132)), (some (131, false))⟩, .l⟩,
 ⟨⟨(some 134), (.len true (.tmp 133)), (some (131, false))⟩, .p⟩,
 ⟨⟨(some 135), (.bin .eql (.tmp 134) (.const (.int .i64 0))), (some (131, false))⟩, .p⟩,
 ⟨⟨(some 136), (.pick (.tmp 131) (.const (.bool true)) (.tmp 135)), none⟩, .p⟩,
 ⟨⟨(some 137), (.mv (.tmp 136)), none⟩, .p⟩,
 ⟨⟨(some 138), (.fa 14 (.tmp 16)), (some (137, false))⟩, .p⟩,
 ⟨⟨(some 139), (.ld none (.tmp 138)), (some (137, false))⟩, .l⟩,
 ⟨⟨(some 140), (.ia 3 (.tmp 139) (.const (.int .i64 0))), (some (137, false))⟩, .p⟩,
 ⟨⟨(some 141), (.ld (some 3) (.tmp 140)), (some (137, false))⟩, .l⟩,
 ⟨⟨(some 142), (.mv (.tmp 8)), (some (137, false))⟩, .p⟩,
 ⟨⟨(some 143), (.nilc (.tmp 142)), (some (137, false))⟩, .p⟩,
 ⟨⟨(some 144), (.fa 7 (.tmp 143)), (some (137, false))⟩, .p⟩,
 ⟨⟨(some 145), (.ld none (.tmp 144)), (some (137, false))⟩, .l⟩,
 ⟨⟨(some 146), (.ia 3 (.tmp 145) (.const (.int .i64 0))), (some (137, false))⟩, .p⟩,
 ⟨⟨(some 147), (.ld (some 3) (.tmp 146)), (some (137, false))⟩, .l⟩,
 ⟨⟨(some 148), (.eqa true [.text, .truth, .text] (.tmp 141) (.tmp 147)), (some (137, false))⟩, .p⟩,
 ⟨⟨(some 149), (.pick (.tmp 137) (.const (.bool true)) (.tmp 148)), none⟩, .p⟩])
 (.cond (.tmp 149) (.seq (.reg [⟨(some 6), (.mv (.const (.bool false))), none⟩])
 .ret)
 .skip))))))
 .skip)))))))
 (.reg [⟨(some 32), (.mv (.tmp 9)), none⟩,
 ⟨(some 33), (.bin .add (.tmp 32) (.const (.int .i64 1))), none⟩,
 ⟨(some 9), (.mv (.tmp 33)), none⟩]))))))
 (.seq (.draw [⟨⟨(some 150), (.mv (.tmp 7)), none⟩, .p⟩,
 ⟨⟨(some 151), (.call 28 [(.tmp 150)]), none⟩, .g⟩,
 ⟨⟨(some 152), (.mv (.tmp 0)), none⟩, .p⟩,
 ⟨⟨(some 153), (.mv (.tmp 8)), none⟩, .p⟩,
 ⟨⟨(some 154), (.nilc (.tmp 153)), none⟩, .p⟩,
 ⟨⟨(some 155), (.fa 1 (.tmp 154)), none⟩, .p⟩,
 ⟨⟨(some 156), (.ld (some 6) (.tmp 155)), none⟩, .l⟩,
 ⟨⟨(some 157), (.lit 37 0 3 [] []), none⟩, .f⟩,
 ⟨⟨(some 158), (.mv (.tmp 8)), none⟩, .p⟩,
 ⟨⟨(some 159), (.nilc (.tmp 158)), none⟩, .p⟩,
 ⟨⟨(some 160), (.fa 7 (.tmp 159)), none⟩, .p⟩,
 ⟨⟨(some 161), (.ld none (.tmp 160)), none⟩, .l⟩,
 ⟨⟨(some 162), (.app 37 3 40 (.tmp 157) (.tmp 161)), none⟩, .w⟩,
 ⟨⟨(some 163), (.bld [.int .i64 (0), .int .i64 (0), .bool false, .int .i64 (0), .int .i64 (0), .int .i64 (0), .int .i64 (0), .slice none 0 0] [(0, 1, (.tmp 152)), (1, 6, (.tmp 156)), (7, 1, (.tmp 162))]), none⟩, .p⟩,
 ⟨⟨(some 164), (.box 63 (.tmp 163)), none⟩, .f⟩,
 ⟨⟨(some 18), (.mv (.tmp 151)), none⟩, .p⟩,
 ⟨⟨(some 19), (.mv (.tmp 164)), none⟩, .p⟩])
 (.seq (.seq (.reg [⟨(some 165), (.mv (.tmp 18)), none⟩,
 ⟨(some 166), (.eqs false .ptr (.tmp 165) (.const (.pointer none))), none⟩])
 (.cond (.tmp 166) (.seq (.reg [⟨(some 6), (.mv (.const (.bool false))), none⟩])
 .ret)
 .skip))
 (.seq (.seq (.reg [⟨(some 20), (.mv (.const (.int .i64 0))), none⟩])
 (.block 6 (.loop (.seq (.seq (.reg [⟨(some 167), (.mv (.tmp 20)), none⟩,
 ⟨(some 168), (.mv (.tmp 2)), none⟩,
 ⟨(some 169), (.len true (.tmp 168)), none⟩,
 ⟨(some 170), (.bin .lss (.tmp 167) (.tmp 169)), none⟩])
 (.cond (.tmp 170) .skip
 (.exit 6)))
 (.seq (.block 7 (.seq (.reg [⟨(some 173), (.mv (.tmp 18)), none⟩,
 ⟨(some 174), (.mv (.tmp 19)), none⟩,
 ⟨(some 175), (.mv (.tmp 2)), none⟩,
 ⟨(some 176), (.mv (.tmp 20)), none⟩,
 ⟨(some 177), (.ia 20 (.tmp 175) (.tmp 176)), none⟩,
 ⟨(some 178), (.ld (some 20) (.tmp 177)), none⟩,
 ⟨(some 179), (.call 27 [(.tmp 173), (.tmp 174), (.tmp 178)]), none⟩,
 ⟨(some 180), (.nt (.tmp 179)), none⟩])
 (.cond (.tmp 180) (.seq (.reg [⟨(some 6), (.mv (.const (.bool false))), none⟩])
 .ret)
 .skip)))
 (.reg [⟨(some 171), (.mv (.tmp 20)), none⟩,
 ⟨(some 172), (.bin .add (.tmp 171) (.const (.int .i64 1))), none⟩,
 ⟨(some 20), (.mv (.tmp 172)), none⟩]))))))
 (.seq (.draw [⟨⟨(some 181), (.mv (.tmp 7)), none⟩, .p⟩,
 ⟨⟨(some 182), (.call 18 [(.tmp 181)]), none⟩, .g⟩,
 ⟨⟨(some 183), (.mv (.tmp 8)), none⟩, .p⟩,
 ⟨⟨(some 184), (.nilc (.tmp 183)), none⟩, .p⟩,
 ⟨⟨(some 185), (.fa 1 (.tmp 184)), none⟩, .p⟩,
 ⟨⟨(some 186), (.ld (some 6) (.tmp 185)), none⟩, .l⟩,
 ⟨⟨(some 187), (.eqa false [.num, .truth, .num, .num, .num, .num] (.tmp 182) (.tmp 186)), none⟩, .p⟩,
 ⟨⟨(some 6), (.mv (.tmp 187)), none⟩, .p⟩])
 .ret))))))))
def r8 : List RV := [.tmp 6]
theorem ok8 : FnOk Tryd.prog 8 188 c8 r8 := ⟨[25, 24], _, _, Tryd.func8, rfl, rfl, by kernel_rfl, by kernel_rfl, by kernel_rfl⟩
/-- vouch/vouchlaw16.SessionNone -/
def c9 : C := (.seq (.reg [⟨(some 1), (.box 55 (.tmp 0)), none⟩,
 ⟨(some 2), (.mv (.const (.bool false))), none⟩])
 (.seq (.seq (.reg [⟨(some 8), (.call 13 []), none⟩,
 ⟨(some 9), (.nt (.tmp 8)), none⟩])
 (.cond (.tmp 9) (.seq (.reg [⟨(some 2), (.mv (.const (.bool false))), none⟩])
 .ret)
 .skip))
 (.seq (.reg [⟨(some 3), (.mv (.const (.pointer none))), none⟩])
 (.seq (.reg [⟨(some 10), (.mv (.tmp 3)), none⟩,
 ⟨(some 11), (.fa 2 (.tmp 1)), none⟩,
 ⟨(some 12), (.ld none (.tmp 11)), none⟩,
 ⟨(some 13), (.call 23 [(.tmp 10), (.tmp 12)]), none⟩])
 (.seq (.reg [⟨(some 15), (.mv (.tmp 3)), none⟩,
 ⟨(some 16), (.fa 1 (.tmp 1)), none⟩,
 ⟨(some 17), (.ld none (.tmp 16)), none⟩,
 ⟨(some 18), (.call 15 [(.tmp 15), (.tmp 17)]), none⟩,
 ⟨(some 14), (.mv (.tmp 18)), none⟩,
 ⟨(some 19), (.ext 0 (.tmp 14)), none⟩,
 ⟨(some 20), (.ext 1 (.tmp 14)), none⟩,
 ⟨(some 4), (.new 33 [.int .i64 (0), .int .i64 (0), .int .i64 (0), .int .i64 (0), .int .i64 (0), .int .i64 (0), .string ⟨#[]⟩, .int .i64 (0), .int .i64 (0), .bool false, .string ⟨#[]⟩, .bool false, .int .i64 (0), .int .i64 (0), .slice none 0 0, .slice none 0 0]), none⟩,
 ⟨none, (.st 16 (.tmp 4) (.tmp 19)), none⟩,
 ⟨(some 5), (.mv (.tmp 20)), none⟩])
 (.seq (.reg [⟨(some 22), (.mv (.tmp 3)), none⟩,
 ⟨(some 23), (.fa 2 (.tmp 1)), none⟩,
 ⟨(some 24), (.ld none (.tmp 23)), none⟩,
 ⟨(some 25), (.call 17 [(.tmp 22), (.tmp 24)]), none⟩,
 ⟨(some 21), (.mv (.tmp 25)), none⟩,
 ⟨(some 26), (.ext 0 (.tmp 21)), none⟩,
 ⟨(some 27), (.ext 1 (.tmp 21)), none⟩,
 ⟨(some 6), (.new 33 [.int .i64 (0), .int .i64 (0), .int .i64 (0), .int .i64 (0), .int .i64 (0), .int .i64 (0), .string ⟨#[]⟩, .int .i64 (0), .int .i64 (0), .bool false, .string ⟨#[]⟩, .bool false, .int .i64 (0), .int .i64 (0), .slice none 0 0, .slice none 0 0]), none⟩,
 ⟨none, (.st 16 (.tmp 6) (.tmp 26)), none⟩,
 ⟨(some 7), (.mv (.tmp 27)), none⟩])
 (.seq (.reg [⟨(some 28), (.fa 0 (.tmp 4)), none⟩,
 ⟨(some 29), (.ld none (.tmp 28)), none⟩,
 ⟨(some 30), (.bin .eql (.tmp 29) (.const (.int .i64 0))), none⟩,
 ⟨(some 31), (.mv (.tmp 30)), none⟩,
 ⟨(some 32), (.mv (.tmp 5)), (some (31, true))⟩,
 ⟨(some 33), (.bin .eql (.tmp 32) (.const (.int .i64 3))), (some (31, true))⟩,
 ⟨(some 34), (.pick (.tmp 31) (.tmp 33) (.const (.bool false))), none⟩,
 ⟨(some 35), (.mv (.tmp 34)), none⟩,
 ⟨(some 36), (.fa 0 (.tmp 6)), (some (35, true))⟩,
 ⟨(some 37), (.ld none (.tmp 36)), (some (35, true))⟩,
 ⟨(some 38), (.bin .eql (.tmp 37) (.const (.int .i64 0))), (some (35, true))⟩,
 ⟨(some 39), (.pick (.tmp 35) (.tmp 38) (.const (.bool false))), none⟩,
 ⟨(some 40), (.mv (.tmp 39)), none⟩,
 ⟨(some 41), (.mv (.tmp 7)), (some (40, true))⟩,
 ⟨(some 42), (.bin .eql (.tmp 41) (.const (.int .i64 3))), (some (40, true))⟩,
 ⟨(some 43), (.pick (.tmp 40) (.tmp 42) (.const (.bool false))), none⟩,
 ⟨(some 44), (.mv (.tmp 43)), none⟩,
 ⟨(some 45), (.mv (.tmp 3)), (some (44, true))⟩,
 ⟨(some 46), (.call 26 [(.tmp 45)]), (some (44, true))⟩,
 ⟨(some 47), (.bin .eql (.tmp 46) (.const (.int .i64 0))), (some (44, true))⟩,
 ⟨(some 48), (.pick (.tmp 44) (.tmp 47) (.const (.bool false))), none⟩,
 ⟨(some 49), (.mv (.tmp 48)), none⟩,
 ⟨(some 50), (.mv (.tmp 3)), (some (49, true))⟩,
 ⟨(some 51), (.fa 19 (.tmp 1)), (some (49, true))⟩,
 ⟨(some 52), (.ld none (.tmp 51)), (some (49, true))⟩,
 ⟨(some 53), (.call 24 [(.tmp 50), (.tmp 52)]), (some (49, true))⟩,
 ⟨(some 54), (.bin .eql (.tmp 53) (.const (.int .i64 3))), (some (49, true))⟩,
 ⟨(some 55), (.pick (.tmp 49) (.tmp 54) (.const (.bool false))), none⟩,
 ⟨(some 56), (.mv (.tmp 55)), none⟩,
 ⟨(some 57), (.mv (.tmp 3)), (some (56, true))⟩,
 ⟨(some 58), (.fa 3 (.tmp 1)), (some (56, true))⟩,
 ⟨(some 59), (.ld (some 16) (.tmp 58)), (some (56, true))⟩,
 ⟨(some 60), (.call 25 [(.tmp 57), (.tmp 59)]), (some (56, true))⟩,
 ⟨(some 61), (.nt (.tmp 60)), (some (56, true))⟩,
 ⟨(some 62), (.pick (.tmp 56) (.tmp 61) (.const (.bool false))), none⟩,
 ⟨(some 63), (.mv (.tmp 62)), none⟩,
 ⟨(some 64), (.mv (.tmp 3)), (some (63, true))⟩,
 ⟨(some 65), (.call 18 [(.tmp 64)]), (some (63, true))⟩,
 ⟨(some 66), (.bld [.int .i64 (0), .bool false, .int .i64 (0), .int .i64 (0), .int .i64 (0), .int .i64 (0)] []), (some (63, true))⟩,
 ⟨(some 67), (.eqa false [.num, .truth, .num, .num, .num, .num] (.tmp 65) (.tmp 66)), (some (63, true))⟩,
 ⟨(some 68), (.pick (.tmp 63) (.tmp 67) (.const (.bool false))), none⟩,
 ⟨(some 69), (.mv (.tmp 68)), none⟩,
 ⟨(some 70), (.mv (.tmp 3)), (some (69, true))⟩,
 ⟨(some 71), (.call 28 [(.tmp 70)]), (some (69, true))⟩,
 ⟨(some 72), (.eqs false .ptr (.tmp 71) (.const (.pointer none))), (some (69, true))⟩,
 ⟨(some 73), (.pick (.tmp 69) (.tmp 72) (.const (.bool false))), none⟩,
 ⟨(some 2), (.mv (.tmp 73)), none⟩])
 .ret)))))))
def r9 : List RV := [.tmp 2]
theorem ok9 : FnOk Tryd.prog 9 74 c9 r9 := ⟨[25, 24], _, _, Tryd.func9, rfl, rfl, by kernel_rfl, by kernel_rfl, by kernel_rfl⟩
/-- vouch/vouchlaw16.fixed -/
def c13 : C := (.seq (.reg [⟨(some 0), (.mv (.const (.bool false))), none⟩])
 (.seq (.reg [⟨(some 8), (.call 14 [(.const (.int .i64 4))]), none⟩,
 ⟨(some 1), (.mv (.tmp 8)), none⟩])
 (.seq (.seq (.reg [⟨(some 9), (.mv (.tmp 1)), none⟩,
 ⟨(some 10), (.eqs false .ptr (.tmp 9) (.const (.pointer none))), none⟩])
 (.cond (.tmp 10) (.seq (.reg [⟨(some 0), (.mv (.const (.bool false))), none⟩])
 .ret)
 .skip))
 (.seq (.reg [⟨(some 12), (.mv (.tmp 1)), none⟩,
 ⟨(some 13), (.call 16 [(.const (.string { data := #[97] })), (.const (.string { data := #[120] }))]), none⟩,
 ⟨(some 14), (.lit 37 1 3 [.string ⟨#[]⟩, .bool false, .string ⟨#[]⟩] [(0, 3, (.tmp 13))]), none⟩,
 ⟨(some 15), (.call 15 [(.tmp 12), (.tmp 14)]), none⟩,
 ⟨(some 11), (.mv (.tmp 15)), none⟩,
 ⟨(some 16), (.ext 0 (.tmp 11)), none⟩,
 ⟨(some 17), (.ext 1 (.tmp 11)), none⟩,
 ⟨(some 2), (.new 33 [.int .i64 (0), .int .i64 (0), .int .i64 (0), .int .i64 (0), .int .i64 (0), .int .i64 (0), .string ⟨#[]⟩, .int .i64 (0), .int .i64 (0), .bool false, .string ⟨#[]⟩, .bool false, .int .i64 (0), .int .i64 (0), .slice none 0 0, .slice none 0 0]), none⟩,
 ⟨none, (.st 16 (.tmp 2) (.tmp 16)), none⟩,
 ⟨(some 3), (.mv (.tmp 17)), none⟩])
 (.seq (.reg [⟨(some 19), (.mv (.tmp 1)), none⟩,
 ⟨(some 20), (.call 16 [(.const (.string { data := #[98] })), (.const (.string { data := #[121] }))]), none⟩,
 ⟨(some 21), (.lit 37 1 3 [.string ⟨#[]⟩, .bool false, .string ⟨#[]⟩] [(0, 3, (.tmp 20))]), none⟩,
 ⟨(some 22), (.call 15 [(.tmp 19), (.tmp 21)]), none⟩,
 ⟨(some 18), (.mv (.tmp 22)), none⟩,
 ⟨(some 23), (.ext 0 (.tmp 18)), none⟩,
 ⟨(some 24), (.ext 1 (.tmp 18)), none⟩,
 ⟨(some 4), (.new 33 [.int .i64 (0), .int .i64 (0), .int .i64 (0), .int .i64 (0), .int .i64 (0), .int .i64 (0), .string ⟨#[]⟩, .int .i64 (0), .int .i64 (0), .bool false, .string ⟨#[]⟩, .bool false, .int .i64 (0), .int .i64 (0), .slice none 0 0, .slice none 0 0]), none⟩,
 ⟨none, (.st 16 (.tmp 4) (.tmp 23)), none⟩,
 ⟨(some 5), (.mv (.tmp 24)), none⟩])
 (.seq (.reg [⟨(some 26), (.call 19 [(.const (.int .i64 12))]), none⟩,
 ⟨(some 25), (.mv (.tmp 26)), none⟩,
 ⟨(some 27), (.ext 0 (.tmp 25)), none⟩,
 ⟨(some 28), (.ext 1 (.tmp 25)), none⟩,
 ⟨(some 6), (.mv (.tmp 27)), none⟩,
 ⟨(some 7), (.mv (.tmp 28)), none⟩])
 (.seq (.reg [⟨(some 29), (.fa 0 (.tmp 2)), none⟩,
 ⟨(some 30), (.ld none (.tmp 29)), none⟩,
 ⟨(some 31), (.bin .eql (.tmp 30) (.const (.int .i64 1))), none⟩,
 ⟨(some 32), (.mv (.tmp 31)), none⟩,
 ⟨(some 33), (.fa 3 (.tmp 2)), (some (32, true))⟩,
 ⟨(some 34), (.ld none (.tmp 33)), (some (32, true))⟩,
 ⟨(some 35), (.bin .eql (.tmp 34) (.const (.int .i64 4))), (some (32, true))⟩,
 ⟨(some 36), (.pick (.tmp 32) (.tmp 35) (.const (.bool false))), none⟩,
 ⟨(some 37), (.mv (.tmp 36)), none⟩,
 ⟨(some 38), (.fa 5 (.tmp 2)), (some (37, true))⟩,
 ⟨(some 39), (.ld none (.tmp 38)), (some (37, true))⟩,
 ⟨(some 40), (.bin .eql (.tmp 39) (.const (.int .i64 1))), (some (37, true))⟩,
 ⟨(some 41), (.pick (.tmp 37) (.tmp 40) (.const (.bool false))), none⟩,
 ⟨(some 42), (.mv (.tmp 41)), none⟩,
 ⟨(some 43), (.fa 14 (.tmp 2)), (some (42, true))⟩,
 ⟨(some 44), (.ld none (.tmp 43)), (some (42, true))⟩,
 ⟨(some 45), (.len true (.tmp 44)), (some (42, true))⟩,
 ⟨(some 46), (.bin .eql (.tmp 45) (.const (.int .i64 1))), (some (42, true))⟩,
 ⟨(some 47), (.pick (.tmp 42) (.tmp 46) (.const (.bool false))), none⟩,
 ⟨(some 48), (.mv (.tmp 47)), none⟩,
 ⟨(some 49), (.mv (.tmp 3)), (some (48, true))⟩,
 ⟨(some 50), (.bin .eql (.tmp 49) (.const (.int .i64 0))), (some (48, true))⟩,
 ⟨(some 51), (.pick (.tmp 48) (.tmp 50) (.const (.bool false))), none⟩,
 ⟨(some 52), (.mv (.tmp 51)), none⟩,
 ⟨(some 53), (.mv (.tmp 5)), (some (52, true))⟩,
 ⟨(some 54), (.bin .eql (.tmp 53) (.const (.int .i64 31))), (some (52, true))⟩,
 ⟨(some 55), (.pick (.tmp 52) (.tmp 54) (.const (.bool false))), none⟩,
 ⟨(some 56), (.mv (.tmp 55)), none⟩,
 ⟨(some 57), (.mv (.tmp 1)), (some (56, true))⟩,
 ⟨(some 58), (.bld [.int .i64 (0), .int .i64 (0), .int .i64 (0), .int .i64 (0), .int .i64 (0), .int .i64 (0), .string ⟨#[]⟩, .int .i64 (0), .int .i64 (0), .bool false, .string ⟨#[]⟩, .bool false, .int .i64 (0), .int .i64 (0), .slice none 0 0, .slice none 0 0] [(0, 1, (.const (.int .i64 2))), (3, 1, (.const (.int .i64 4))), (5, 1, (.const (.int .i64 1))), (13, 1, (.const (.int .i64 10)))]), (some (56, true))⟩,
 ⟨(some 59), (.call 25 [(.tmp 57), (.tmp 58)]), (some (56, true))⟩,
 ⟨(some 60), (.pick (.tmp 56) (.tmp 59) (.const (.bool false))), none⟩,
 ⟨(some 61), (.mv (.tmp 60)), none⟩,
 ⟨(some 62), (.mv (.tmp 1)), (some (61, true))⟩,
 ⟨(some 63), (.call 26 [(.tmp 62)]), (some (61, true))⟩,
 ⟨(some 64), (.bin .eql (.tmp 63) (.const (.int .i64 10))), (some (61, true))⟩,
 ⟨(some 65), (.pick (.tmp 61) (.tmp 64) (.const (.bool false))), none⟩,
 ⟨(some 66), (.mv (.tmp 65)), none⟩,
 ⟨(some 67), (.mv (.tmp 6)), (some (66, true))⟩,
 ⟨(some 68), (.bin .eql (.tmp 67) (.const (.string { data := #[116, 49, 50, 46, 106] }))), (some (66, true))⟩,
 ⟨(some 69), (.pick (.tmp 66) (.tmp 68) (.const (.bool false))), none⟩,
 ⟨(some 70), (.mv (.tmp 69)), none⟩,
 ⟨(some 71), (.mv (.tmp 7)), (some (70, true))⟩,
 ⟨(some 72), (.bin .eql (.tmp 71) (.const (.int .i64 0))), (some (70, true))⟩,
 ⟨(some 73), (.pick (.tmp 70) (.tmp 72) (.const (.bool false))), none⟩,
 ⟨(some 0), (.mv (.tmp 73)), none⟩])
 .ret)))))))
def r13 : List RV := [.tmp 0]
theorem ok13 : FnOk Tryd.prog 13 74 c13 r13 := ⟨[25, 24], _, _, Tryd.func13, rfl, rfl, by kernel_rfl, by kernel_rfl, by kernel_rfl⟩
/-- vouch/session.New -/
def c14 : C := (.seq (.reg [⟨(some 2), (.mv (.const (.pointer none))), none⟩])
 (.seq (.reg [⟨(some 3), (.mv (.tmp 0)), none⟩,
 ⟨(some 4), (.bld [.int .i64 (0), .int .i64 (0), .bool false, .int .i64 (0), .int .i64 (0), .int .i64 (0), .int .i64 (0), .slice none 0 0] [(0, 1, (.tmp 3))]), none⟩,
 ⟨(some 5), (.box 101 (.tmp 4)), none⟩,
 ⟨(some 2), (.mv (.tmp 5)), none⟩])
 .ret))
def r14 : List RV := [.tmp 2]
theorem ok14 : FnOk Tryd.prog 14 6 c14 r14 := ⟨[25, 24], _, _, Tryd.func14, rfl, rfl, by kernel_rfl, by kernel_rfl, by kernel_rfl⟩
/-- (*vouch/session.Session).Send -/
def c15 : C := (.seq (.reg [⟨(some 4), (.new 33 [.int .i64 (0), .int .i64 (0), .int .i64 (0), .int .i64 (0), .int .i64 (0), .int .i64 (0), .string ⟨#[]⟩, .int .i64 (0), .int .i64 (0), .bool false, .string ⟨#[]⟩, .bool false, .int .i64 (0), .int .i64 (0), .slice none 0 0, .slice none 0 0]), none⟩,
 ⟨(some 5), (.mv (.const (.int .i64 0))), none⟩])
 (.seq (.block 0 (.seq (.reg [⟨(some 9), (.mv (.tmp 0)), none⟩,
 ⟨(some 10), (.eqs false .ptr (.tmp 9) (.const (.pointer none))), none⟩,
 ⟨(some 8), (.mv (.tmp 10)), none⟩])
 (.cond (.tmp 8) (.seq (.reg [⟨(some 11), (.bld [.int .i64 (0), .int .i64 (0), .int .i64 (0), .int .i64 (0), .int .i64 (0), .int .i64 (0), .string ⟨#[]⟩, .int .i64 (0), .int .i64 (0), .bool false, .string ⟨#[]⟩, .bool false, .int .i64 (0), .int .i64 (0), .slice none 0 0, .slice none 0 0] []), none⟩,
 ⟨none, (.st 16 (.tmp 4) (.tmp 11)), none⟩,
 ⟨(some 5), (.mv (.const (.int .i64 3))), none⟩])
 .ret)
 (.seq (.reg [⟨(some 13), (.mv (.tmp 0)), none⟩,
 ⟨(some 14), (.nilc (.tmp 13)), none⟩,
 ⟨(some 15), (.fa 1 (.tmp 14)), none⟩,
 ⟨(some 16), (.fa 1 (.tmp 15)), none⟩,
 ⟨(some 17), (.ld none (.tmp 16)), none⟩,
 ⟨(some 12), (.mv (.tmp 17)), none⟩])
 (.cond (.tmp 12) (.seq (.reg [⟨(some 18), (.bld [.int .i64 (0), .int .i64 (0), .int .i64 (0), .int .i64 (0), .int .i64 (0), .int .i64 (0), .string ⟨#[]⟩, .int .i64 (0), .int .i64 (0), .bool false, .string ⟨#[]⟩, .bool false, .int .i64 (0), .int .i64 (0), .slice none 0 0, .slice none 0 0] []), none⟩,
 ⟨none, (.st 16 (.tmp 4) (.tmp 18)), none⟩,
 ⟨(some 5), (.mv (.const (.int .i64 31))), none⟩])
 .ret)
 .skip)))))
 (.seq (.seq (.reg [⟨(some 20), (.call 44 [(.const (.int .i64 1))]), none⟩,
 ⟨(some 21), (.mv (.tmp 1)), none⟩,
 ⟨(some 22), (.call 45 [(.tmp 20), (.tmp 21)]), none⟩,
 ⟨(some 19), (.mv (.tmp 22)), none⟩,
 ⟨(some 23), (.ext 0 (.tmp 19)), none⟩,
 ⟨(some 24), (.ext 1 (.tmp 19)), none⟩,
 ⟨(some 6), (.mv (.tmp 23)), none⟩,
 ⟨(some 7), (.mv (.tmp 24)), none⟩])
 (.seq (.reg [⟨(some 25), (.mv (.tmp 7)), none⟩,
 ⟨(some 26), (.bin .neq (.tmp 25) (.const (.int .i64 0))), none⟩])
 (.cond (.tmp 26) (.seq (.reg [⟨(some 27), (.bld [.int .i64 (0), .int .i64 (0), .int .i64 (0), .int .i64 (0), .int .i64 (0), .int .i64 (0), .string ⟨#[]⟩, .int .i64 (0), .int .i64 (0), .bool false, .string ⟨#[]⟩, .bool false, .int .i64 (0), .int .i64 (0), .slice none 0 0, .slice none 0 0] []), none⟩,
 ⟨(some 28), (.mv (.tmp 7)), none⟩,
 ⟨none, (.st 16 (.tmp 4) (.tmp 27)), none⟩,
 ⟨(some 5), (.mv (.tmp 28)), none⟩])
 .ret)
 .skip)))
 (.seq (.seq (.reg [⟨(some 29), (.mv (.tmp 0)), none⟩,
 ⟨(some 30), (.nilc (.tmp 29)), none⟩,
 ⟨(some 31), (.fa 1 (.tmp 30)), none⟩,
 ⟨(some 32), (.fa 2 (.tmp 31)), none⟩,
 ⟨(some 33), (.ld none (.tmp 32)), none⟩,
 ⟨(some 34), (.bin .geq (.tmp 33) (.const (.int .i64 2147483647))), none⟩])
 (.cond (.tmp 34) (.seq (.reg [⟨(some 35), (.bld [.int .i64 (0), .int .i64 (0), .int .i64 (0), .int .i64 (0), .int .i64 (0), .int .i64 (0), .string ⟨#[]⟩, .int .i64 (0), .int .i64 (0), .bool false, .string ⟨#[]⟩, .bool false, .int .i64 (0), .int .i64 (0), .slice none 0 0, .slice none 0 0] []), none⟩,
 ⟨none, (.st 16 (.tmp 4) (.tmp 35)), none⟩,
 ⟨(some 5), (.mv (.const (.int .i64 2))), none⟩])
 .ret)
 .skip))
 (.seq (.reg [⟨(some 36), (.mv (.tmp 0)), none⟩,
 ⟨(some 37), (.nilc (.tmp 36)), none⟩,
 ⟨(some 38), (.fa 1 (.tmp 37)), none⟩,
 ⟨(some 39), (.fa 2 (.tmp 38)), none⟩,
 ⟨(some 40), (.ld none (.tmp 39)), none⟩,
 ⟨(some 41), (.bin .add (.tmp 40) (.const (.int .i64 1))), none⟩,
 ⟨(some 42), (.nilc (.tmp 36)), none⟩,
 ⟨(some 43), (.fa 1 (.tmp 42)), none⟩,
 ⟨(some 44), (.fa 2 (.tmp 43)), none⟩,
 ⟨none, (.st 1 (.tmp 44) (.tmp 41)), none⟩])
 (.seq (.reg [⟨(some 45), (.mv (.tmp 0)), none⟩,
 ⟨(some 46), (.mv (.tmp 0)), none⟩,
 ⟨(some 47), (.nilc (.tmp 45)), none⟩,
 ⟨(some 48), (.fa 1 (.tmp 47)), none⟩,
 ⟨(some 49), (.fa 1 (.tmp 48)), none⟩,
 ⟨none, (.st 1 (.tmp 49) (.const (.bool true))), none⟩,
 ⟨(some 50), (.nilc (.tmp 46)), none⟩,
 ⟨(some 51), (.fa 1 (.tmp 50)), none⟩,
 ⟨(some 52), (.fa 3 (.tmp 51)), none⟩,
 ⟨none, (.st 1 (.tmp 52) (.const (.int .i64 0))), none⟩])
 (.seq (.reg [⟨(some 53), (.mv (.tmp 0)), none⟩,
 ⟨(some 54), (.mv (.tmp 1)), none⟩,
 ⟨(some 55), (.call 46 [(.tmp 54)]), none⟩,
 ⟨(some 56), (.nilc (.tmp 53)), none⟩,
 ⟨(some 57), (.fa 7 (.tmp 56)), none⟩,
 ⟨none, (.st 1 (.tmp 57) (.tmp 55)), none⟩])
 (.seq (.reg [⟨(some 58), (.mv (.tmp 0)), none⟩,
 ⟨(some 59), (.call 47 [(.tmp 58)]), none⟩,
 ⟨none, (.st 16 (.tmp 4) (.tmp 59)), none⟩,
 ⟨(some 5), (.mv (.const (.int .i64 0))), none⟩])
 .ret))))))))
def r15 : List RV := [.agg 4 16, .tmp 5]
theorem ok15 : FnOk Tryd.prog 15 60 c15 r15 := ⟨[25, 24], _, _, Tryd.func15, rfl, rfl, by kernel_rfl, by kernel_rfl, by kernel_rfl⟩
/-- vouch/vouchlaw16.put -/
def c16 : C := (.seq (.reg [⟨(some 4), (.new 37 [.string ⟨#[]⟩, .bool false, .string ⟨#[]⟩]), none⟩])
 (.seq (.reg [⟨(some 5), (.mv (.tmp 0)), none⟩,
 ⟨(some 6), (.mv (.tmp 1)), none⟩,
 ⟨(some 7), (.bld [.bool false, .string ⟨#[]⟩] [(0, 1, (.const (.bool true))), (1, 1, (.tmp 6))]), none⟩,
 ⟨(some 8), (.bld [.string ⟨#[]⟩, .bool false, .string ⟨#[]⟩] [(0, 1, (.tmp 5)), (1, 2, (.tmp 7))]), none⟩,
 ⟨none, (.st 3 (.tmp 4) (.tmp 8)), none⟩])
 .ret))
def r16 : List RV := [.agg 4 3]
theorem ok16 : FnOk Tryd.prog 16 9 c16 r16 := ⟨[25, 24], _, _, Tryd.func16, rfl, rfl, by kernel_rfl, by kernel_rfl, by kernel_rfl⟩
/-- (*vouch/session.Session).Again -/
def c17 : C := (.seq (.reg [⟨(some 4), (.new 33 [.int .i64 (0), .int .i64 (0), .int .i64 (0), .int .i64 (0), .int .i64 (0), .int .i64 (0), .string ⟨#[]⟩, .int .i64 (0), .int .i64 (0), .bool false, .string ⟨#[]⟩, .bool false, .int .i64 (0), .int .i64 (0), .slice none 0 0, .slice none 0 0]), none⟩,
 ⟨(some 5), (.mv (.const (.int .i64 0))), none⟩])
 (.seq (.block 0 (.seq (.reg [⟨(some 7), (.mv (.tmp 0)), none⟩,
 ⟨(some 8), (.eqs false .ptr (.tmp 7) (.const (.pointer none))), none⟩,
 ⟨(some 9), (.mv (.tmp 8)), none⟩,
 ⟨(some 10), (.mv (.tmp 0)), (some (9, false))⟩,
 ⟨(some 11), (.nilc (.tmp 10)), (some (9, false))⟩,
 ⟨(some 12), (.fa 1 (.tmp 11)), (some (9, false))⟩,
 ⟨(some 13), (.fa 1 (.tmp 12)), (some (9, false))⟩,
 ⟨(some 14), (.ld none (.tmp 13)), (some (9, false))⟩,
 ⟨(some 15), (.nt (.tmp 14)), (some (9, false))⟩,
 ⟨(some 16), (.pick (.tmp 9) (.const (.bool true)) (.tmp 15)), none⟩,
 ⟨(some 6), (.mv (.tmp 16)), none⟩])
 (.cond (.tmp 6) (.seq (.reg [⟨(some 17), (.bld [.int .i64 (0), .int .i64 (0), .int .i64 (0), .int .i64 (0), .int .i64 (0), .int .i64 (0), .string ⟨#[]⟩, .int .i64 (0), .int .i64 (0), .bool false, .string ⟨#[]⟩, .bool false, .int .i64 (0), .int .i64 (0), .slice none 0 0, .slice none 0 0] []), none⟩,
 ⟨none, (.st 16 (.tmp 4) (.tmp 17)), none⟩,
 ⟨(some 5), (.mv (.const (.int .i64 3))), none⟩])
 .ret)
 (.seq (.reg [⟨(some 19), (.mv (.tmp 0)), none⟩,
 ⟨(some 20), (.nilc (.tmp 19)), none⟩,
 ⟨(some 21), (.fa 1 (.tmp 20)), none⟩,
 ⟨(some 22), (.fa 3 (.tmp 21)), none⟩,
 ⟨(some 23), (.ld none (.tmp 22)), none⟩,
 ⟨(some 24), (.mv (.tmp 1)), none⟩,
 ⟨(some 25), (.bin .geq (.tmp 23) (.tmp 24)), none⟩,
 ⟨(some 18), (.mv (.tmp 25)), none⟩])
 (.cond (.tmp 18) (.seq (.reg [⟨(some 26), (.mv (.tmp 0)), none⟩,
 ⟨(some 27), (.call 48 [(.tmp 26), (.const (.int .i64 41))]), none⟩])
 (.seq (.reg [⟨(some 28), (.bld [.int .i64 (0), .int .i64 (0), .int .i64 (0), .int .i64 (0), .int .i64 (0), .int .i64 (0), .string ⟨#[]⟩, .int .i64 (0), .int .i64 (0), .bool false, .string ⟨#[]⟩, .bool false, .int .i64 (0), .int .i64 (0), .slice none 0 0, .slice none 0 0] []), none⟩,
 ⟨none, (.st 16 (.tmp 4) (.tmp 28)), none⟩,
 ⟨(some 5), (.mv (.const (.int .i64 41))), none⟩])
 .ret))
 .skip)))))
 (.seq (.reg [⟨(some 29), (.mv (.tmp 0)), none⟩,
 ⟨(some 30), (.nilc (.tmp 29)), none⟩,
 ⟨(some 31), (.fa 1 (.tmp 30)), none⟩,
 ⟨(some 32), (.fa 3 (.tmp 31)), none⟩,
 ⟨(some 33), (.ld none (.tmp 32)), none⟩,
 ⟨(some 34), (.bin .add (.tmp 33) (.const (.int .i64 1))), none⟩,
 ⟨(some 35), (.nilc (.tmp 29)), none⟩,
 ⟨(some 36), (.fa 1 (.tmp 35)), none⟩,
 ⟨(some 37), (.fa 3 (.tmp 36)), none⟩,
 ⟨none, (.st 1 (.tmp 37) (.tmp 34)), none⟩])
 (.seq (.reg [⟨(some 38), (.mv (.tmp 0)), none⟩,
 ⟨(some 39), (.call 47 [(.tmp 38)]), none⟩,
 ⟨none, (.st 16 (.tmp 4) (.tmp 39)), none⟩,
 ⟨(some 5), (.mv (.const (.int .i64 0))), none⟩])
 .ret))))
def r17 : List RV := [.agg 4 16, .tmp 5]
theorem ok17 : FnOk Tryd.prog 17 40 c17 r17 := ⟨[25, 24], _, _, Tryd.func17, rfl, rfl, by kernel_rfl, by kernel_rfl, by kernel_rfl⟩
/-- (*vouch/session.Session).View -/
def c18 : C := (.seq (.reg [⟨(some 2), (.new 41 [.int .i64 (0), .bool false, .int .i64 (0), .int .i64 (0), .int .i64 (0), .int .i64 (0)]), none⟩])
 (.seq (.seq (.reg [⟨(some 3), (.mv (.tmp 0)), none⟩,
 ⟨(some 4), (.eqs false .ptr (.tmp 3) (.const (.pointer none))), none⟩])
 (.cond (.tmp 4) (.seq (.reg [⟨(some 5), (.bld [.int .i64 (0), .bool false, .int .i64 (0), .int .i64 (0), .int .i64 (0), .int .i64 (0)] []), none⟩,
 ⟨none, (.st 6 (.tmp 2) (.tmp 5)), none⟩])
 .ret)
 .skip))
 (.seq (.reg [⟨(some 6), (.mv (.tmp 0)), none⟩,
 ⟨(some 7), (.nilc (.tmp 6)), none⟩,
 ⟨(some 8), (.fa 1 (.tmp 7)), none⟩,
 ⟨(some 9), (.ld (some 6) (.tmp 8)), none⟩,
 ⟨none, (.st 6 (.tmp 2) (.tmp 9)), none⟩])
 .ret)))
def r18 : List RV := [.agg 2 6]
theorem ok18 : FnOk Tryd.prog 18 10 c18 r18 := ⟨[25, 24], _, _, Tryd.func18, rfl, rfl, by kernel_rfl, by kernel_rfl, by kernel_rfl⟩
/-- vouch/session.Token -/
def c19 : C := (.seq (.reg [⟨(some 2), (.mv (.const (.string { data := #[] }))), none⟩,
 ⟨(some 3), (.mv (.const (.int .i64 0))), none⟩])
 (.seq (.seq (.reg [⟨(some 4), (.mv (.tmp 0)), none⟩,
 ⟨(some 5), (.bin .lss (.tmp 4) (.const (.int .i64 0))), none⟩,
 ⟨(some 6), (.mv (.tmp 5)), none⟩,
 ⟨(some 7), (.mv (.tmp 0)), (some (6, false))⟩,
 ⟨(some 8), (.bin .gtr (.tmp 7) (.const (.int .i64 1099511627776))), (some (6, false))⟩,
 ⟨(some 9), (.pick (.tmp 6) (.const (.bool true)) (.tmp 8)), none⟩])
 (.cond (.tmp 9) (.seq (.reg [⟨(some 2), (.mv (.const (.string { data := #[] }))), none⟩,
 ⟨(some 3), (.mv (.const (.int .i64 1))), none⟩])
 .ret)
 .skip))
 (.seq (.reg [⟨(some 10), (.mv (.tmp 0)), none⟩,
 ⟨(some 11), (.call 49 [(.tmp 10), (.const (.int .i64 10))]), none⟩,
 ⟨(some 12), (.bin .add (.const (.string { data := #[116] })) (.tmp 11)), none⟩,
 ⟨(some 13), (.bin .add (.tmp 12) (.const (.string { data := #[46] }))), none⟩,
 ⟨(some 14), (.mv (.tmp 0)), none⟩,
 ⟨(some 15), (.bin .mul (.tmp 14) (.const (.int .i64 7))), none⟩,
 ⟨(some 16), (.bin .add (.tmp 15) (.const (.int .i64 3))), none⟩,
 ⟨(some 17), (.bin .rem (.tmp 16) (.const (.int .i64 26))), none⟩,
 ⟨(some 18), (.bin .add (.const (.int .i64 97)) (.tmp 17)), none⟩,
 ⟨(some 19), (.conv .i32 (.tmp 18)), none⟩,
 ⟨(some 20), (.fnl .rune [(.tmp 19)]), none⟩,
 ⟨(some 21), (.bin .add (.tmp 13) (.tmp 20)), none⟩,
 ⟨(some 2), (.mv (.tmp 21)), none⟩,
 ⟨(some 3), (.mv (.const (.int .i64 0))), none⟩])
 .ret)))
def r19 : List RV := [.tmp 2, .tmp 3]
theorem ok19 : FnOk Tryd.prog 19 22 c19 r19 := ⟨[25, 24], _, _, Tryd.func19, rfl, rfl, by kernel_rfl, by kernel_rfl, by kernel_rfl⟩
/-- vouch/vouchref16.Token -/
def c20 : C := (.seq (.reg [⟨(some 2), (.mv (.const (.string { data := #[] }))), none⟩,
 ⟨(some 3), (.mv (.const (.int .i64 0))), none⟩])
 (.seq (.seq (.reg [⟨(some 4), (.mv (.tmp 0)), none⟩,
 ⟨(some 5), (.bin .lss (.tmp 4) (.const (.int .i64 0))), none⟩,
 ⟨(some 6), (.mv (.tmp 5)), none⟩,
 ⟨(some 7), (.mv (.tmp 0)), (some (6, false))⟩,
 ⟨(some 8), (.bin .gtr (.tmp 7) (.const (.int .i64 1099511627776))), (some (6, false))⟩,
 ⟨(some 9), (.pick (.tmp 6) (.const (.bool true)) (.tmp 8)), none⟩])
 (.cond (.tmp 9) (.seq (.reg [⟨(some 2), (.mv (.const (.string { data := #[] }))), none⟩,
 ⟨(some 3), (.mv (.const (.int .i64 1))), none⟩])
 .ret)
 .skip))
 (.seq (.draw [⟨⟨(some 10), (.mv (.tmp 0)), none⟩, .p⟩,
 ⟨⟨(some 11), (.call 50 [(.tmp 10)]), none⟩, .g⟩,
 ⟨⟨(some 12), (.bin .add (.const (.string { data := #[116] })) (.tmp 11)), none⟩, .p⟩,
 ⟨⟨(some 13), (.bin .add (.tmp 12) (.const (.string { data := #[46] }))), none⟩, .p⟩,
 ⟨⟨(some 14), (.mv (.tmp 0)), none⟩, .p⟩,
 ⟨⟨(some 15), (.bin .mul (.tmp 14) (.const (.int .i64 7))), none⟩, .p⟩,
 ⟨⟨(some 16), (.bin .add (.tmp 15) (.const (.int .i64 3))), none⟩, .p⟩,
 ⟨⟨(some 17), (.bin .rem (.tmp 16) (.const (.int .i64 26))), none⟩, .p⟩,
 ⟨⟨(some 18), (.bin .add (.const (.int .i64 97)) (.tmp 17)), none⟩, .p⟩,
 ⟨⟨(some 19), (.conv .u8 (.tmp 18)), none⟩, .p⟩,
 ⟨⟨(some 20), (.lit 5 1 1 [.int .u8 (0)] [(0, 1, (.tmp 19))]), none⟩, .f⟩,
 ⟨⟨(some 21), (.bys (.tmp 20)), none⟩, .r⟩,
 ⟨⟨(some 22), (.bin .add (.tmp 13) (.tmp 21)), none⟩, .p⟩,
 ⟨⟨(some 2), (.mv (.tmp 22)), none⟩, .p⟩,
 ⟨⟨(some 3), (.mv (.const (.int .i64 0))), none⟩, .p⟩])
 .ret)))
def r20 : List RV := [.tmp 2, .tmp 3]
theorem ok20 : FnOk Tryd.prog 20 23 c20 r20 := ⟨[25, 24], _, _, Tryd.func20, rfl, rfl, by kernel_rfl, by kernel_rfl, by kernel_rfl⟩
/-- vouch/session.Parse -/
def c21 : C := (.seq (.reg [⟨(some 2), (.mv (.const (.int .i64 0))), none⟩,
 ⟨(some 3), (.mv (.const (.int .i64 0))), none⟩])
 (.seq (.seq (.reg [⟨(some 8), (.mv (.tmp 0)), none⟩,
 ⟨(some 9), (.len false (.tmp 8)), none⟩,
 ⟨(some 10), (.bin .lss (.tmp 9) (.const (.int .i64 4))), none⟩])
 (.cond (.tmp 10) (.seq (.reg [⟨(some 2), (.mv (.const (.int .i64 0))), none⟩,
 ⟨(some 3), (.mv (.const (.int .i64 30))), none⟩])
 .ret)
 .skip))
 (.seq (.reg [⟨(some 12), (.mv (.tmp 0)), none⟩,
 ⟨(some 13), (.mv (.tmp 0)), none⟩,
 ⟨(some 14), (.len false (.tmp 13)), none⟩,
 ⟨(some 15), (.bin .sub (.tmp 14) (.const (.int .i64 2))), none⟩,
 ⟨(some 16), (.fnl .sls [(.tmp 12), (.const (.int .i64 1)), (.tmp 15)]), none⟩,
 ⟨(some 17), (.call 51 [(.tmp 16), (.const (.int .i64 10)), (.const (.int .i64 64))]), none⟩,
 ⟨(some 11), (.mv (.tmp 17)), none⟩,
 ⟨(some 18), (.ext 0 (.tmp 11)), none⟩,
 ⟨(some 19), (.ext 1 (.tmp 11)), none⟩,
 ⟨(some 4), (.mv (.tmp 18)), none⟩,
 ⟨(some 5), (.mv (.tmp 19)), none⟩])
 (.seq (.seq (.reg [⟨(some 21), (.mv (.tmp 4)), none⟩,
 ⟨(some 22), (.call 19 [(.tmp 21)]), none⟩,
 ⟨(some 20), (.mv (.tmp 22)), none⟩,
 ⟨(some 23), (.ext 0 (.tmp 20)), none⟩,
 ⟨(some 24), (.ext 1 (.tmp 20)), none⟩,
 ⟨(some 6), (.mv (.tmp 23)), none⟩,
 ⟨(some 7), (.mv (.tmp 24)), none⟩])
 (.seq (.reg [⟨(some 25), (.mv (.tmp 5)), none⟩,
 ⟨(some 26), (.fnl (.ifn true) [(.tmp 25)]), none⟩,
 ⟨(some 27), (.mv (.tmp 26)), none⟩,
 ⟨(some 28), (.mv (.tmp 7)), (some (27, false))⟩,
 ⟨(some 29), (.bin .neq (.tmp 28) (.const (.int .i64 0))), (some (27, false))⟩,
 ⟨(some 30), (.pick (.tmp 27) (.const (.bool true)) (.tmp 29)), none⟩,
 ⟨(some 31), (.mv (.tmp 30)), none⟩,
 ⟨(some 32), (.mv (.tmp 6)), (some (31, false))⟩,
 ⟨(some 33), (.mv (.tmp 0)), (some (31, false))⟩,
 ⟨(some 34), (.bin .neq (.tmp 32) (.tmp 33)), (some (31, false))⟩,
 ⟨(some 35), (.pick (.tmp 31) (.const (.bool true)) (.tmp 34)), none⟩])
 (.cond (.tmp 35) (.seq (.reg [⟨(some 2), (.mv (.const (.int .i64 0))), none⟩,
 ⟨(some 3), (.mv (.const (.int .i64 30))), none⟩])
 .ret)
 .skip)))
 (.seq (.reg [⟨(some 36), (.mv (.tmp 4)), none⟩,
 ⟨(some 2), (.mv (.tmp 36)), none⟩,
 ⟨(some 3), (.mv (.const (.int .i64 0))), none⟩])
 .ret)))))
def r21 : List RV := [.tmp 2, .tmp 3]
theorem ok21 : FnOk Tryd.prog 21 37 c21 r21 := ⟨[25, 24], _, _, Tryd.func21, rfl, rfl, by kernel_rfl, by kernel_rfl, by kernel_rfl⟩
/-- vouch/vouchref16.Parse -/
def c22 : C := (.seq (.reg [⟨(some 2), (.mv (.const (.int .i64 0))), none⟩,
 ⟨(some 3), (.mv (.const (.int .i64 0))), none⟩])
 (.seq (.reg [⟨(some 4), (.mv (.const (.int .i64 0))), none⟩])
 (.seq (.reg [⟨(some 5), (.mv (.const (.int .i64 1))), none⟩])
 (.seq (.block 0 (.loop (.seq (.seq (.reg [⟨(some 8), (.mv (.tmp 5)), none⟩,
 ⟨(some 9), (.mv (.tmp 0)), none⟩,
 ⟨(some 10), (.len false (.tmp 9)), none⟩,
 ⟨(some 11), (.bin .lss (.tmp 8) (.tmp 10)), none⟩,
 ⟨(some 12), (.mv (.tmp 11)), none⟩,
 ⟨(some 13), (.mv (.tmp 5)), (some (12, true))⟩,
 ⟨(some 14), (.bin .lss (.tmp 13) (.const (.int .i64 20))), (some (12, true))⟩,
 ⟨(some 15), (.pick (.tmp 12) (.tmp 14) (.const (.bool false))), none⟩,
 ⟨(some 16), (.mv (.tmp 15)), none⟩,
 ⟨(some 17), (.mv (.tmp 0)), (some (16, true))⟩,
 ⟨(some 18), (.mv (.tmp 5)), (some (16, true))⟩,
 ⟨(some 19), (.ixs (.tmp 17) (.tmp 18)), (some (16, true))⟩,
 ⟨(some 20), (.bin .geq (.tmp 19) (.const (.int .u8 48))), (some (16, true))⟩,
 ⟨(some 21), (.pick (.tmp 16) (.tmp 20) (.const (.bool false))), none⟩,
 ⟨(some 22), (.mv (.tmp 21)), none⟩,
 ⟨(some 23), (.mv (.tmp 0)), (some (22, true))⟩,
 ⟨(some 24), (.mv (.tmp 5)), (some (22, true))⟩,
 ⟨(some 25), (.ixs (.tmp 23) (.tmp 24)), (some (22, true))⟩,
 ⟨(some 26), (.bin .leq (.tmp 25) (.const (.int .u8 57))), (some (22, true))⟩,
 ⟨(some 27), (.pick (.tmp 22) (.tmp 26) (.const (.bool false))), none⟩,
 ⟨(some 28), (.mv (.tmp 27)), none⟩,
 ⟨(some 29), (.mv (.tmp 4)), (some (28, true))⟩,
 ⟨(some 30), (.bin .leq (.tmp 29) (.const (.int .i64 1099511627776))), (some (28, true))⟩,
 ⟨(some 31), (.pick (.tmp 28) (.tmp 30) (.const (.bool false))), none⟩])
 (.cond (.tmp 31) .skip
 (.exit 0)))
 (.block 1 (.seq (.reg [⟨(some 32), (.mv (.tmp 4)), none⟩,
 ⟨(some 33), (.bin .mul (.const (.int .i64 10)) (.tmp 32)), none⟩,
 ⟨(some 34), (.mv (.tmp 0)), none⟩,
 ⟨(some 35), (.mv (.tmp 5)), none⟩,
 ⟨(some 36), (.ixs (.tmp 34) (.tmp 35)), none⟩,
 ⟨(some 37), (.bin .sub (.tmp 36) (.const (.int .u8 48))), none⟩,
 ⟨(some 38), (.conv .i64 (.tmp 37)), none⟩,
 ⟨(some 39), (.bin .add (.tmp 33) (.tmp 38)), none⟩,
 ⟨(some 4), (.mv (.tmp 39)), none⟩])
 (.reg [⟨(some 40), (.mv (.tmp 5)), none⟩,
 ⟨(some 41), (.bin .add (.tmp 40) (.const (.int .i64 1))), none⟩,
 ⟨(some 5), (.mv (.tmp 41)), none⟩]))))))
 (.seq (.reg [⟨(some 43), (.mv (.tmp 4)), none⟩,
 ⟨(some 44), (.call 20 [(.tmp 43)]), none⟩,
 ⟨(some 42), (.mv (.tmp 44)), none⟩,
 ⟨(some 45), (.ext 0 (.tmp 42)), none⟩,
 ⟨(some 46), (.ext 1 (.tmp 42)), none⟩,
 ⟨(some 6), (.mv (.tmp 45)), none⟩,
 ⟨(some 7), (.mv (.tmp 46)), none⟩])
 (.seq (.seq (.reg [⟨(some 47), (.mv (.tmp 7)), none⟩,
 ⟨(some 48), (.bin .neq (.tmp 47) (.const (.int .i64 0))), none⟩,
 ⟨(some 49), (.mv (.tmp 48)), none⟩,
 ⟨(some 50), (.mv (.tmp 6)), (some (49, false))⟩,
 ⟨(some 51), (.mv (.tmp 0)), (some (49, false))⟩,
 ⟨(some 52), (.bin .neq (.tmp 50) (.tmp 51)), (some (49, false))⟩,
 ⟨(some 53), (.pick (.tmp 49) (.const (.bool true)) (.tmp 52)), none⟩])
 (.cond (.tmp 53) (.seq (.reg [⟨(some 2), (.mv (.const (.int .i64 0))), none⟩,
 ⟨(some 3), (.mv (.const (.int .i64 30))), none⟩])
 .ret)
 .skip))
 (.seq (.reg [⟨(some 54), (.mv (.tmp 4)), none⟩,
 ⟨(some 2), (.mv (.tmp 54)), none⟩,
 ⟨(some 3), (.mv (.const (.int .i64 0))), none⟩])
 .ret)))))))
def r22 : List RV := [.tmp 2, .tmp 3]
theorem ok22 : FnOk Tryd.prog 22 55 c22 r22 := ⟨[25, 24], _, _, Tryd.func22, rfl, rfl, by kernel_rfl, by kernel_rfl, by kernel_rfl⟩
/-- (*vouch/session.Session).Raise -/
def c23 : C := (.seq (.reg [⟨(some 4), (.mv (.tmp 0)), none⟩,
 ⟨(some 5), (.eqs true .ptr (.tmp 4) (.const (.pointer none))), none⟩,
 ⟨(some 6), (.mv (.tmp 5)), none⟩,
 ⟨(some 7), (.mv (.tmp 1)), (some (6, true))⟩,
 ⟨(some 8), (.bin .leq (.tmp 7) (.const (.int .i64 1099511627776))), (some (6, true))⟩,
 ⟨(some 9), (.pick (.tmp 6) (.tmp 8) (.const (.bool false))), none⟩])
 (.cond (.tmp 9) (.reg [⟨(some 10), (.mv (.tmp 0)), none⟩,
 ⟨(some 11), (.mv (.tmp 0)), none⟩,
 ⟨(some 12), (.nilc (.tmp 11)), none⟩,
 ⟨(some 13), (.fa 1 (.tmp 12)), none⟩,
 ⟨(some 14), (.fa 0 (.tmp 13)), none⟩,
 ⟨(some 15), (.ld none (.tmp 14)), none⟩,
 ⟨(some 16), (.mv (.tmp 1)), none⟩,
 ⟨(some 17), (.mx true (.tmp 15) (.tmp 16)), none⟩,
 ⟨(some 18), (.nilc (.tmp 10)), none⟩,
 ⟨(some 19), (.fa 1 (.tmp 18)), none⟩,
 ⟨(some 20), (.fa 0 (.tmp 19)), none⟩,
 ⟨none, (.st 1 (.tmp 20) (.tmp 17)), none⟩])
 .skip))
def r23 : List RV := []
theorem ok23 : FnOk Tryd.prog 23 21 c23 r23 := ⟨[25, 24], _, _, Tryd.func23, rfl, rfl, by kernel_rfl, by kernel_rfl, by kernel_rfl⟩
/-- (*vouch/session.Session).Join -/
def c24 : C := (.seq (.reg [⟨(some 4), (.mv (.const (.int .i64 0))), none⟩])
 (.seq (.seq (.reg [⟨(some 7), (.mv (.tmp 0)), none⟩,
 ⟨(some 8), (.eqs false .ptr (.tmp 7) (.const (.pointer none))), none⟩])
 (.cond (.tmp 8) (.seq (.reg [⟨(some 4), (.mv (.const (.int .i64 3))), none⟩])
 .ret)
 .skip))
 (.seq (.reg [⟨(some 10), (.mv (.tmp 1)), none⟩,
 ⟨(some 11), (.call 21 [(.tmp 10)]), none⟩,
 ⟨(some 9), (.mv (.tmp 11)), none⟩,
 ⟨(some 12), (.ext 0 (.tmp 9)), none⟩,
 ⟨(some 13), (.ext 1 (.tmp 9)), none⟩,
 ⟨(some 5), (.mv (.tmp 12)), none⟩,
 ⟨(some 6), (.mv (.tmp 13)), none⟩])
 (.seq (.seq (.reg [⟨(some 14), (.mv (.tmp 6)), none⟩,
 ⟨(some 15), (.bin .eql (.tmp 14) (.const (.int .i64 0))), none⟩])
 (.cond (.tmp 15) (.reg [⟨(some 16), (.mv (.tmp 0)), none⟩,
 ⟨(some 17), (.mv (.tmp 5)), none⟩,
 ⟨(some 18), (.call 23 [(.tmp 16), (.tmp 17)]), none⟩])
 .skip))
 (.seq (.reg [⟨(some 19), (.mv (.tmp 6)), none⟩,
 ⟨(some 4), (.mv (.tmp 19)), none⟩])
 .ret)))))
def r24 : List RV := [.tmp 4]
theorem ok24 : FnOk Tryd.prog 24 20 c24 r24 := ⟨[25, 24], _, _, Tryd.func24, rfl, rfl, by kernel_rfl, by kernel_rfl, by kernel_rfl⟩
/-- (*vouch/session.Session).Ack -/
def c25 : C := (.seq (.reg [⟨(some 3), (.box 33 (.tmp 1)), none⟩,
 ⟨(some 4), (.mv (.const (.bool false))), none⟩])
 (.seq (.seq (.draw [⟨⟨(some 5), (.mv (.tmp 0)), none⟩, .p⟩,
 ⟨⟨(some 6), (.eqs false .ptr (.tmp 5) (.const (.pointer none))), none⟩, .p⟩,
 ⟨⟨(some 7), (.mv (.tmp 6)), none⟩, .p⟩,
 ⟨⟨(some 8), (.mv (.tmp 0)), (some (7, false))⟩, .p⟩,
 ⟨⟨(some 9), (.nilc (.tmp 8)), (some (7, false))⟩, .p⟩,
 ⟨⟨(some 10), (.fa 1 (.tmp 9)), (some (7, false))⟩, .p⟩,
 ⟨⟨(some 11), (.fa 1 (.tmp 10)), (some (7, false))⟩, .p⟩,
 ⟨⟨(some 12), (.ld none (.tmp 11)), (some (7, false))⟩, .l⟩,
 ⟨⟨(some 13), (.nt (.tmp 12)), (some (7, false))⟩, .p⟩,
 ⟨⟨(some 14), (.pick (.tmp 7) (.const (.bool true)) (.tmp 13)), none⟩, .p⟩,
 ⟨⟨(some 15), (.mv (.tmp 14)), none⟩, .p⟩,
 ⟨⟨(some 16), (.fa 0 (.tmp 3)), (some (15, false))⟩, .p⟩,
 ⟨⟨(some 17), (.ld none (.tmp 16)), (some (15, false))⟩, .l⟩,
 ⟨⟨(some 18), (.bin .neq (.tmp 17) (.const (.int .i64 2))), (some (15, false))⟩, .p⟩,
 ⟨⟨(some 19), (.pick (.tmp 15) (.const (.bool true)) (.tmp 18)), none⟩, .p⟩,
 ⟨⟨(some 20), (.mv (.tmp 19)), none⟩, .p⟩,
 ⟨⟨(some 21), (.fa 3 (.tmp 3)), (some (20, false))⟩, .p⟩,
 ⟨⟨(some 22), (.ld none (.tmp 21)), (some (20, false))⟩, .l⟩,
 ⟨⟨(some 23), (.mv (.tmp 0)), (some (20, false))⟩, .p⟩,
 ⟨⟨(some 24), (.nilc (.tmp 23)), (some (20, false))⟩, .p⟩,
 ⟨⟨(some 25), (.fa 0 (.tmp 24)), (some (20, false))⟩, .p⟩,
 ⟨⟨(some 26), (.ld none (.tmp 25)), (some (20, false))⟩, .l⟩,
 ⟨⟨(some 27), (.bin .neq (.tmp 22) (.tmp 26)), (some (20, false))⟩, .p⟩,
 ⟨⟨(some 28), (.pick (.tmp 20) (.const (.bool true)) (.tmp 27)), none⟩, .p⟩,
 ⟨⟨(some 29), (.mv (.tmp 28)), none⟩, .p⟩,
 ⟨⟨(some 30), (.fa 5 (.tmp 3)), (some (29, false))⟩, .p⟩,
 ⟨⟨(some 31), (.ld none (.tmp 30)), (some (29, false))⟩, .l⟩,
 ⟨⟨(some 32), (.mv (.tmp 0)), (some (29, false))⟩, .p⟩,
 ⟨⟨(some 33), (.nilc (.tmp 32)), (some (29, false))⟩, .p⟩,
 ⟨⟨(some 34), (.fa 1 (.tmp 33)), (some (29, false))⟩, .p⟩,
 ⟨⟨(some 35), (.fa 2 (.tmp 34)), (some (29, false))⟩, .p⟩,
 ⟨⟨(some 36), (.ld none (.tmp 35)), (some (29, false))⟩, .l⟩,
 ⟨⟨(some 37), (.bin .neq (.tmp 31) (.tmp 36)), (some (29, false))⟩, .p⟩,
 ⟨⟨(some 38), (.pick (.tmp 29) (.const (.bool true)) (.tmp 37)), none⟩, .p⟩])
 (.cond (.tmp 38) (.seq (.reg [⟨(some 4), (.mv (.const (.bool false))), none⟩])
 .ret)
 .skip))
 (.seq (.reg [⟨(some 39), (.mv (.tmp 0)), none⟩,
 ⟨(some 40), (.fa 12 (.tmp 3)), none⟩,
 ⟨(some 41), (.ld none (.tmp 40)), none⟩,
 ⟨(some 42), (.call 48 [(.tmp 39), (.tmp 41)]), none⟩])
 (.seq (.seq (.reg [⟨(some 43), (.fa 12 (.tmp 3)), none⟩,
 ⟨(some 44), (.ld none (.tmp 43)), none⟩,
 ⟨(some 45), (.bin .eql (.tmp 44) (.const (.int .i64 0))), none⟩])
 (.cond (.tmp 45) (.seq (.reg [⟨(some 46), (.mv (.tmp 0)), none⟩,
 ⟨(some 47), (.fa 13 (.tmp 3)), none⟩,
 ⟨(some 48), (.ld none (.tmp 47)), none⟩,
 ⟨(some 49), (.nilc (.tmp 46)), none⟩,
 ⟨(some 50), (.fa 1 (.tmp 49)), none⟩,
 ⟨(some 51), (.fa 4 (.tmp 50)), none⟩,
 ⟨none, (.st 1 (.tmp 51) (.tmp 48)), none⟩])
 (.reg [⟨(some 52), (.mv (.tmp 0)), none⟩,
 ⟨(some 53), (.fa 13 (.tmp 3)), none⟩,
 ⟨(some 54), (.ld none (.tmp 53)), none⟩,
 ⟨(some 55), (.call 23 [(.tmp 52), (.tmp 54)]), none⟩]))
 .skip))
 (.seq (.reg [⟨(some 4), (.mv (.const (.bool true))), none⟩])
 .ret)))))
def r25 : List RV := [.tmp 4]
theorem ok25 : FnOk Tryd.prog 25 56 c25 r25 := ⟨[25, 24], _, _, Tryd.func25, rfl, rfl, by kernel_rfl, by kernel_rfl, by kernel_rfl⟩
/-- (*vouch/session.Session).Floor -/
def c26 : C := (.seq (.reg [⟨(some 2), (.mv (.const (.int .i64 0))), none⟩])
 (.seq (.reg [⟨(some 3), (.mv (.tmp 0)), none⟩,
 ⟨(some 4), (.call 18 [(.tmp 3)]), none⟩,
 ⟨(some 5), (.fld none 0 (.tmp 4)), none⟩,
 ⟨(some 2), (.mv (.tmp 5)), none⟩])
 .ret))
def r26 : List RV := [.tmp 2]
theorem ok26 : FnOk Tryd.prog 26 6 c26 r26 := ⟨[25, 24], _, _, Tryd.func26, rfl, rfl, by kernel_rfl, by kernel_rfl, by kernel_rfl⟩
/-- vouch/vouchlaw16.step -/
def c27 : C := (.seq (.reg [⟨(some 5), (.box 55 (.tmp 2)), none⟩,
 ⟨(some 6), (.mv (.const (.bool false))), none⟩])
 (.seq (.reg [⟨(some 7), (.mv (.const (.bool true))), none⟩])
 (.seq (.seq (.reg [⟨(some 16), (.fa 0 (.tmp 5)), none⟩,
 ⟨(some 17), (.ld none (.tmp 16)), none⟩,
 ⟨(some 18), (.bin .rem (.tmp 17) (.const (.int .u8 5))), none⟩])
 (.block 0 (.seq (.reg [⟨(some 20), (.bin .eql (.tmp 18) (.const (.int .u8 0))), none⟩,
 ⟨(some 19), (.mv (.tmp 20)), none⟩])
 (.cond (.tmp 19) (.seq (.reg [⟨(some 22), (.mv (.tmp 0)), none⟩,
 ⟨(some 23), (.fa 1 (.tmp 5)), none⟩,
 ⟨(some 24), (.ld none (.tmp 23)), none⟩,
 ⟨(some 25), (.call 15 [(.tmp 22), (.tmp 24)]), none⟩,
 ⟨(some 21), (.mv (.tmp 25)), none⟩,
 ⟨(some 26), (.ext 0 (.tmp 21)), none⟩,
 ⟨(some 27), (.ext 1 (.tmp 21)), none⟩,
 ⟨(some 8), (.new 33 [.int .i64 (0), .int .i64 (0), .int .i64 (0), .int .i64 (0), .int .i64 (0), .int .i64 (0), .string ⟨#[]⟩, .int .i64 (0), .int .i64 (0), .bool false, .string ⟨#[]⟩, .bool false, .int .i64 (0), .int .i64 (0), .slice none 0 0, .slice none 0 0]), none⟩,
 ⟨none, (.st 16 (.tmp 8) (.tmp 26)), none⟩,
 ⟨(some 9), (.mv (.tmp 27)), none⟩])
 (.seq (.reg [⟨(some 29), (.mv (.tmp 1)), none⟩,
 ⟨(some 30), (.fa 1 (.tmp 5)), none⟩,
 ⟨(some 31), (.ld none (.tmp 30)), none⟩,
 ⟨(some 32), (.call 52 [(.tmp 29), (.tmp 31)]), none⟩,
 ⟨(some 28), (.mv (.tmp 32)), none⟩,
 ⟨(some 33), (.ext 0 (.tmp 28)), none⟩,
 ⟨(some 34), (.ext 1 (.tmp 28)), none⟩,
 ⟨(some 10), (.new 33 [.int .i64 (0), .int .i64 (0), .int .i64 (0), .int .i64 (0), .int .i64 (0), .int .i64 (0), .string ⟨#[]⟩, .int .i64 (0), .int .i64 (0), .bool false, .string ⟨#[]⟩, .bool false, .int .i64 (0), .int .i64 (0), .slice none 0 0, .slice none 0 0]), none⟩,
 ⟨none, (.st 16 (.tmp 10) (.tmp 33)), none⟩,
 ⟨(some 11), (.mv (.tmp 34)), none⟩])
 (.reg [⟨(some 35), (.mv (.tmp 9)), none⟩,
 ⟨(some 36), (.mv (.tmp 11)), none⟩,
 ⟨(some 37), (.bin .eql (.tmp 35) (.tmp 36)), none⟩,
 ⟨(some 38), (.mv (.tmp 37)), none⟩,
 ⟨(some 39), (.ld (some 16) (.tmp 8)), (some (38, true))⟩,
 ⟨(some 40), (.ld (some 16) (.tmp 10)), (some (38, true))⟩,
 ⟨(some 41), (.call 53 [(.tmp 39), (.tmp 40)]), (some (38, true))⟩,
 ⟨(some 42), (.pick (.tmp 38) (.tmp 41) (.const (.bool false))), none⟩,
 ⟨(some 7), (.mv (.tmp 42)), none⟩])))
 (.seq (.reg [⟨(some 44), (.bin .eql (.tmp 18) (.const (.int .u8 1))), none⟩,
 ⟨(some 43), (.mv (.tmp 44)), none⟩])
 (.cond (.tmp 43) (.seq (.reg [⟨(some 46), (.mv (.tmp 0)), none⟩,
 ⟨(some 47), (.fa 2 (.tmp 5)), none⟩,
 ⟨(some 48), (.ld none (.tmp 47)), none⟩,
 ⟨(some 49), (.call 17 [(.tmp 46), (.tmp 48)]), none⟩,
 ⟨(some 45), (.mv (.tmp 49)), none⟩,
 ⟨(some 50), (.ext 0 (.tmp 45)), none⟩,
 ⟨(some 51), (.ext 1 (.tmp 45)), none⟩,
 ⟨(some 12), (.new 33 [.int .i64 (0), .int .i64 (0), .int .i64 (0), .int .i64 (0), .int .i64 (0), .int .i64 (0), .string ⟨#[]⟩, .int .i64 (0), .int .i64 (0), .bool false, .string ⟨#[]⟩, .bool false, .int .i64 (0), .int .i64 (0), .slice none 0 0, .slice none 0 0]), none⟩,
 ⟨none, (.st 16 (.tmp 12) (.tmp 50)), none⟩,
 ⟨(some 13), (.mv (.tmp 51)), none⟩])
 (.seq (.reg [⟨(some 53), (.mv (.tmp 1)), none⟩,
 ⟨(some 54), (.fa 2 (.tmp 5)), none⟩,
 ⟨(some 55), (.ld none (.tmp 54)), none⟩,
 ⟨(some 56), (.call 54 [(.tmp 53), (.tmp 55)]), none⟩,
 ⟨(some 52), (.mv (.tmp 56)), none⟩,
 ⟨(some 57), (.ext 0 (.tmp 52)), none⟩,
 ⟨(some 58), (.ext 1 (.tmp 52)), none⟩,
 ⟨(some 14), (.new 33 [.int .i64 (0), .int .i64 (0), .int .i64 (0), .int .i64 (0), .int .i64 (0), .int .i64 (0), .string ⟨#[]⟩, .int .i64 (0), .int .i64 (0), .bool false, .string ⟨#[]⟩, .bool false, .int .i64 (0), .int .i64 (0), .slice none 0 0, .slice none 0 0]), none⟩,
 ⟨none, (.st 16 (.tmp 14) (.tmp 57)), none⟩,
 ⟨(some 15), (.mv (.tmp 58)), none⟩])
 (.reg [⟨(some 59), (.mv (.tmp 13)), none⟩,
 ⟨(some 60), (.mv (.tmp 15)), none⟩,
 ⟨(some 61), (.bin .eql (.tmp 59) (.tmp 60)), none⟩,
 ⟨(some 62), (.mv (.tmp 61)), none⟩,
 ⟨(some 63), (.ld (some 16) (.tmp 12)), (some (62, true))⟩,
 ⟨(some 64), (.ld (some 16) (.tmp 14)), (some (62, true))⟩,
 ⟨(some 65), (.call 53 [(.tmp 63), (.tmp 64)]), (some (62, true))⟩,
 ⟨(some 66), (.pick (.tmp 62) (.tmp 65) (.const (.bool false))), none⟩,
 ⟨(some 7), (.mv (.tmp 66)), none⟩])))
 (.seq (.reg [⟨(some 68), (.bin .eql (.tmp 18) (.const (.int .u8 2))), none⟩,
 ⟨(some 67), (.mv (.tmp 68)), none⟩])
 (.cond (.tmp 67) (.draw [⟨⟨(some 69), (.mv (.tmp 0)), none⟩, .p⟩,
 ⟨⟨(some 70), (.fa 3 (.tmp 5)), none⟩, .p⟩,
 ⟨⟨(some 71), (.ld (some 16) (.tmp 70)), none⟩, .l⟩,
 ⟨⟨(some 72), (.call 25 [(.tmp 69), (.tmp 71)]), none⟩, .u⟩,
 ⟨⟨(some 73), (.mv (.tmp 1)), none⟩, .p⟩,
 ⟨⟨(some 74), (.fa 3 (.tmp 5)), none⟩, .p⟩,
 ⟨⟨(some 75), (.ld (some 16) (.tmp 74)), none⟩, .l⟩,
 ⟨⟨(some 76), (.call 55 [(.tmp 73), (.tmp 75)]), none⟩, .m⟩,
 ⟨⟨(some 77), (.eqs false .bool (.tmp 72) (.tmp 76)), none⟩, .p⟩,
 ⟨⟨(some 7), (.mv (.tmp 77)), none⟩, .p⟩])
 (.seq (.reg [⟨(some 79), (.bin .eql (.tmp 18) (.const (.int .u8 3))), none⟩,
 ⟨(some 78), (.mv (.tmp 79)), none⟩])
 (.cond (.tmp 78) (.seq (.reg [⟨(some 80), (.mv (.tmp 0)), none⟩,
 ⟨(some 81), (.fa 2 (.tmp 5)), none⟩,
 ⟨(some 82), (.ld none (.tmp 81)), none⟩,
 ⟨(some 83), (.call 23 [(.tmp 80), (.tmp 82)]), none⟩])
 (.reg [⟨(some 84), (.mv (.tmp 1)), none⟩,
 ⟨(some 85), (.fa 2 (.tmp 5)), none⟩,
 ⟨(some 86), (.ld none (.tmp 85)), none⟩,
 ⟨(some 87), (.call 56 [(.tmp 84), (.tmp 86)]), none⟩]))
 (.seq (.reg [⟨(some 89), (.bin .eql (.tmp 18) (.const (.int .u8 4))), none⟩,
 ⟨(some 88), (.mv (.tmp 89)), none⟩])
 (.cond (.tmp 88) (.draw [⟨⟨(some 90), (.mv (.tmp 0)), none⟩, .p⟩,
 ⟨⟨(some 91), (.fa 19 (.tmp 5)), none⟩, .p⟩,
 ⟨⟨(some 92), (.ld none (.tmp 91)), none⟩, .l⟩,
 ⟨⟨(some 93), (.call 24 [(.tmp 90), (.tmp 92)]), none⟩, .u⟩,
 ⟨⟨(some 94), (.mv (.tmp 1)), none⟩, .p⟩,
 ⟨⟨(some 95), (.fa 19 (.tmp 5)), none⟩, .p⟩,
 ⟨⟨(some 96), (.ld none (.tmp 95)), none⟩, .l⟩,
 ⟨⟨(some 97), (.call 57 [(.tmp 94), (.tmp 96)]), none⟩, .m⟩,
 ⟨⟨(some 98), (.bin .eql (.tmp 93) (.tmp 97)), none⟩, .p⟩,
 ⟨⟨(some 7), (.mv (.tmp 98)), none⟩, .p⟩])
 .skip))))))))))))
 (.seq (.draw [⟨⟨(some 99), (.mv (.tmp 7)), none⟩, .p⟩,
 ⟨⟨(some 100), (.mv (.tmp 99)), none⟩, .p⟩,
 ⟨⟨(some 101), (.mv (.tmp 0)), (some (100, true))⟩, .p⟩,
 ⟨⟨(some 102), (.call 18 [(.tmp 101)]), (some (100, true))⟩, .g⟩,
 ⟨⟨(some 103), (.mv (.tmp 1)), (some (100, true))⟩, .p⟩,
 ⟨⟨(some 104), (.nilc (.tmp 103)), (some (100, true))⟩, .p⟩,
 ⟨⟨(some 105), (.fa 1 (.tmp 104)), (some (100, true))⟩, .p⟩,
 ⟨⟨(some 106), (.ld (some 6) (.tmp 105)), (some (100, true))⟩, .l⟩,
 ⟨⟨(some 107), (.eqa false [.num, .truth, .num, .num, .num, .num] (.tmp 102) (.tmp 106)), (some (100, true))⟩, .p⟩,
 ⟨⟨(some 108), (.pick (.tmp 100) (.tmp 107) (.const (.bool false))), none⟩, .p⟩,
 ⟨⟨(some 109), (.mv (.tmp 108)), none⟩, .p⟩,
 ⟨⟨(some 110), (.mv (.tmp 0)), (some (109, true))⟩, .p⟩,
 ⟨⟨(some 111), (.call 26 [(.tmp 110)]), (some (109, true))⟩, .g⟩,
 ⟨⟨(some 112), (.mv (.tmp 1)), (some (109, true))⟩, .p⟩,
 ⟨⟨(some 113), (.nilc (.tmp 112)), (some (109, true))⟩, .p⟩,
 ⟨⟨(some 114), (.fa 1 (.tmp 113)), (some (109, true))⟩, .p⟩,
 ⟨⟨(some 115), (.fa 0 (.tmp 114)), (some (109, true))⟩, .p⟩,
 ⟨⟨(some 116), (.ld none (.tmp 115)), (some (109, true))⟩, .l⟩,
 ⟨⟨(some 117), (.bin .eql (.tmp 111) (.tmp 116)), (some (109, true))⟩, .p⟩,
 ⟨⟨(some 118), (.pick (.tmp 109) (.tmp 117) (.const (.bool false))), none⟩, .p⟩,
 ⟨⟨(some 6), (.mv (.tmp 118)), none⟩, .p⟩])
 .ret))))
def r27 : List RV := [.tmp 6]
theorem ok27 : FnOk Tryd.prog 27 119 c27 r27 := ⟨[25, 24], _, _, Tryd.func27, rfl, rfl, by kernel_rfl, by kernel_rfl, by kernel_rfl⟩
/-- (*vouch/session.Session).Clone -/
def c28 : C := (.seq (.reg [⟨(some 2), (.mv (.const (.pointer none))), none⟩])
 (.seq (.seq (.reg [⟨(some 3), (.mv (.tmp 0)), none⟩,
 ⟨(some 4), (.eqs false .ptr (.tmp 3) (.const (.pointer none))), none⟩])
 (.cond (.tmp 4) (.seq (.reg [⟨(some 2), (.mv (.const (.pointer none))), none⟩])
 .ret)
 .skip))
 (.seq (.draw [⟨⟨(some 5), (.mv (.tmp 0)), none⟩, .p⟩,
 ⟨⟨(some 6), (.nilc (.tmp 5)), none⟩, .p⟩,
 ⟨⟨(some 7), (.fa 0 (.tmp 6)), none⟩, .p⟩,
 ⟨⟨(some 8), (.ld none (.tmp 7)), none⟩, .l⟩,
 ⟨⟨(some 9), (.mv (.tmp 0)), none⟩, .p⟩,
 ⟨⟨(some 10), (.nilc (.tmp 9)), none⟩, .p⟩,
 ⟨⟨(some 11), (.fa 1 (.tmp 10)), none⟩, .p⟩,
 ⟨⟨(some 12), (.ld (some 6) (.tmp 11)), none⟩, .l⟩,
 ⟨⟨(some 13), (.mv (.tmp 0)), none⟩, .p⟩,
 ⟨⟨(some 14), (.nilc (.tmp 13)), none⟩, .p⟩,
 ⟨⟨(some 15), (.fa 7 (.tmp 14)), none⟩, .p⟩,
 ⟨⟨(some 16), (.ld none (.tmp 15)), none⟩, .l⟩,
 ⟨⟨(some 17), (.call 46 [(.tmp 16)]), none⟩, .g⟩,
 ⟨⟨(some 18), (.bld [.int .i64 (0), .int .i64 (0), .bool false, .int .i64 (0), .int .i64 (0), .int .i64 (0), .int .i64 (0), .slice none 0 0] [(0, 1, (.tmp 8)), (1, 6, (.tmp 12)), (7, 1, (.tmp 17))]), none⟩, .p⟩,
 ⟨⟨(some 19), (.box 101 (.tmp 18)), none⟩, .f⟩,
 ⟨⟨(some 2), (.mv (.tmp 19)), none⟩, .p⟩])
 .ret)))
def r28 : List RV := [.tmp 2]
theorem ok28 : FnOk Tryd.prog 28 20 c28 r28 := ⟨[25, 24], _, _, Tryd.func28, rfl, rfl, by kernel_rfl, by kernel_rfl, by kernel_rfl⟩
/-- vouch/store.New -/
def c44 : C := (.seq (.reg [⟨(some 2), (.mv (.const (.pointer none))), none⟩])
 (.seq (.reg [⟨(some 3), .mkmap, none⟩,
 ⟨(some 4), (.mv (.tmp 0)), none⟩,
 ⟨(some 5), (.mx true (.tmp 4) (.const (.int .i64 1))), none⟩,
 ⟨(some 6), (.mx false (.tmp 5) (.const (.int .i64 64))), none⟩,
 ⟨(some 7), (.bld [.map none, .int .i64 (0), .int .i64 (0)] [(0, 1, (.tmp 3)), (1, 1, (.tmp 6))]), none⟩,
 ⟨(some 8), (.box 137 (.tmp 7)), none⟩,
 ⟨(some 2), (.mv (.tmp 8)), none⟩])
 .ret))
def r44 : List RV := [.tmp 2]
theorem ok44 : FnOk Tryd.prog 44 9 c44 r44 := ⟨[25, 24], _, _, Tryd.func44, rfl, rfl, by kernel_rfl, by kernel_rfl, by kernel_rfl⟩
/-- (*vouch/store.Store).Commit -/
def c45 : C := (.seq (.reg [⟨(some 4), (.mv (.const (.int .i64 0))), none⟩,
 ⟨(some 5), (.mv (.const (.int .i64 0))), none⟩])
 (.seq (.seq (.reg [⟨(some 11), (.mv (.tmp 0)), none⟩,
 ⟨(some 12), (.eqs false .ptr (.tmp 11) (.const (.pointer none))), none⟩])
 (.cond (.tmp 12) (.seq (.reg [⟨(some 4), (.mv (.const (.int .i64 0))), none⟩,
 ⟨(some 5), (.mv (.const (.int .i64 3))), none⟩])
 .ret)
 .skip))
 (.seq (.seq (.reg [⟨(some 13), (.mv (.tmp 1)), none⟩,
 ⟨(some 14), (.call 70 [(.tmp 13)]), none⟩,
 ⟨(some 6), (.mv (.tmp 14)), none⟩])
 (.seq (.reg [⟨(some 15), (.mv (.tmp 6)), none⟩,
 ⟨(some 16), (.bin .neq (.tmp 15) (.const (.int .i64 0))), none⟩])
 (.cond (.tmp 16) (.seq (.reg [⟨(some 17), (.mv (.tmp 6)), none⟩,
 ⟨(some 4), (.mv (.const (.int .i64 0))), none⟩,
 ⟨(some 5), (.mv (.tmp 17)), none⟩])
 .ret)
 .skip)))
 (.seq (.seq (.reg [⟨(some 18), (.mv (.tmp 0)), none⟩,
 ⟨(some 19), (.nilc (.tmp 18)), none⟩,
 ⟨(some 20), (.fa 2 (.tmp 19)), none⟩,
 ⟨(some 21), (.ld none (.tmp 20)), none⟩,
 ⟨(some 22), (.bin .geq (.tmp 21) (.const (.int .i64 1099511627776))), none⟩])
 (.cond (.tmp 22) (.seq (.reg [⟨(some 4), (.mv (.const (.int .i64 0))), none⟩,
 ⟨(some 5), (.mv (.const (.int .i64 2))), none⟩])
 .ret)
 .skip))
 (.seq (.reg [⟨(some 23), (.mv (.tmp 0)), none⟩,
 ⟨(some 24), (.nilc (.tmp 23)), none⟩,
 ⟨(some 25), (.fa 2 (.tmp 24)), none⟩,
 ⟨(some 26), (.ld none (.tmp 25)), none⟩,
 ⟨(some 27), (.bin .add (.tmp 26) (.const (.int .i64 1))), none⟩,
 ⟨(some 28), (.nilc (.tmp 23)), none⟩,
 ⟨(some 29), (.fa 2 (.tmp 28)), none⟩,
 ⟨none, (.st 1 (.tmp 29) (.tmp 27)), none⟩])
 (.seq (.seq (.reg [⟨(some 30), (.mv (.tmp 1)), none⟩,
 ⟨(some 31), (.len true (.tmp 30)), none⟩,
 ⟨(some 32), (.mv (.const (.int .i64 0))), none⟩])
 (.block 0 (.loop (.seq (.reg [⟨(some 33), (.bin .lss (.tmp 32) (.tmp 31)), none⟩])
 (.seq (.cond (.tmp 33) .skip
 (.exit 0))
 (.seq (.block 1 (.seq (.reg [⟨(some 34), (.ia 3 (.tmp 30) (.tmp 32)), none⟩,
 ⟨(some 35), (.ld (some 3) (.tmp 34)), none⟩,
 ⟨(some 8), (.new 37 [.string ⟨#[]⟩, .bool false, .string ⟨#[]⟩]), none⟩,
 ⟨none, (.st 3 (.tmp 8) (.tmp 35)), none⟩])
 (.seq (.draw [⟨⟨(some 36), (.mv (.tmp 0)), none⟩, .p⟩,
 ⟨⟨(some 37), (.nilc (.tmp 36)), none⟩, .p⟩,
 ⟨⟨(some 38), (.fa 0 (.tmp 37)), none⟩, .p⟩,
 ⟨⟨(some 39), (.ld none (.tmp 38)), none⟩, .l⟩,
 ⟨⟨(some 40), (.fa 0 (.tmp 8)), none⟩, .p⟩,
 ⟨⟨(some 41), (.ld none (.tmp 40)), none⟩, .l⟩,
 ⟨⟨(some 42), (.look false (.agg #[.slice none 0 0, .bool false]) (.tmp 39) (.tmp 41)), none⟩, .l⟩,
 ⟨⟨(some 9), (.new 141 [.slice none 0 0, .bool false]), none⟩, .f⟩,
 ⟨⟨none, (.st 2 (.tmp 9) (.tmp 42)), none⟩, .m⟩])
 (.seq (.draw [⟨⟨(some 43), (.fa 0 (.tmp 9)), none⟩, .p⟩,
 ⟨⟨(some 44), (.ld none (.tmp 43)), none⟩, .l⟩,
 ⟨⟨(some 45), (.call 71 [(.tmp 44)]), none⟩, .g⟩,
 ⟨⟨(some 46), (.mv (.tmp 0)), none⟩, .p⟩,
 ⟨⟨(some 47), (.nilc (.tmp 46)), none⟩, .p⟩,
 ⟨⟨(some 48), (.fa 2 (.tmp 47)), none⟩, .p⟩,
 ⟨⟨(some 49), (.ld none (.tmp 48)), none⟩, .l⟩,
 ⟨⟨(some 50), (.fa 1 (.tmp 8)), none⟩, .p⟩,
 ⟨⟨(some 51), (.ld (some 2) (.tmp 50)), none⟩, .l⟩,
 ⟨⟨(some 52), (.bld [.int .i64 (0), .bool false, .string ⟨#[]⟩] [(0, 1, (.tmp 49)), (1, 2, (.tmp 51))]), none⟩, .p⟩,
 ⟨⟨(some 53), (.lit 144 1 3 [.int .i64 (0), .bool false, .string ⟨#[]⟩] [(0, 3, (.tmp 52))]), none⟩, .f⟩,
 ⟨⟨(some 54), (.app 144 3 32 (.tmp 45) (.tmp 53)), none⟩, .m⟩,
 ⟨⟨(some 10), (.mv (.tmp 54)), none⟩, .p⟩])
 (.seq (.seq (.reg [⟨(some 55), (.mv (.tmp 10)), none⟩,
 ⟨(some 56), (.len true (.tmp 55)), none⟩,
 ⟨(some 57), (.mv (.tmp 0)), none⟩,
 ⟨(some 58), (.nilc (.tmp 57)), none⟩,
 ⟨(some 59), (.fa 1 (.tmp 58)), none⟩,
 ⟨(some 60), (.ld none (.tmp 59)), none⟩,
 ⟨(some 61), (.bin .gtr (.tmp 56) (.tmp 60)), none⟩])
 (.cond (.tmp 61) (.reg [⟨(some 62), (.mv (.tmp 10)), none⟩,
 ⟨(some 63), (.mv (.tmp 10)), none⟩,
 ⟨(some 64), (.len true (.tmp 63)), none⟩,
 ⟨(some 65), (.mv (.tmp 0)), none⟩,
 ⟨(some 66), (.nilc (.tmp 65)), none⟩,
 ⟨(some 67), (.fa 1 (.tmp 66)), none⟩,
 ⟨(some 68), (.ld none (.tmp 67)), none⟩,
 ⟨(some 69), (.bin .sub (.tmp 64) (.tmp 68)), none⟩,
 ⟨(some 70), (.fnl (.sll 3) [(.tmp 62), (.tmp 69)]), none⟩,
 ⟨(some 10), (.mv (.tmp 70)), none⟩,
 ⟨(some 71), (.fa 1 (.tmp 9)), none⟩,
 ⟨none, (.st 1 (.tmp 71) (.const (.bool true))), none⟩])
 .skip))
 (.draw [⟨⟨(some 72), (.mv (.tmp 0)), none⟩, .p⟩,
 ⟨⟨(some 73), (.nilc (.tmp 72)), none⟩, .p⟩,
 ⟨⟨(some 74), (.fa 0 (.tmp 73)), none⟩, .p⟩,
 ⟨⟨(some 75), (.ld none (.tmp 74)), none⟩, .l⟩,
 ⟨⟨(some 76), (.fa 0 (.tmp 8)), none⟩, .p⟩,
 ⟨⟨(some 77), (.ld none (.tmp 76)), none⟩, .l⟩,
 ⟨⟨(some 78), (.mv (.tmp 10)), none⟩, .p⟩,
 ⟨⟨(some 79), (.fa 1 (.tmp 9)), none⟩, .p⟩,
 ⟨⟨(some 80), (.ld none (.tmp 79)), none⟩, .l⟩,
 ⟨⟨(some 81), (.bld [.slice none 0 0, .bool false] [(0, 1, (.tmp 78)), (1, 1, (.tmp 80))]), none⟩, .p⟩,
 ⟨⟨none, (.mset (.tmp 75) (.tmp 77) (.tmp 81)), none⟩, .m⟩]))))))
 (.reg [⟨(some 82), (.bin .add (.tmp 32) (.const (.int .i64 1))), none⟩,
 ⟨(some 32), (.mv (.tmp 82)), none⟩])))))))
 (.seq (.reg [⟨(some 83), (.mv (.tmp 0)), none⟩,
 ⟨(some 84), (.nilc (.tmp 83)), none⟩,
 ⟨(some 85), (.fa 2 (.tmp 84)), none⟩,
 ⟨(some 86), (.ld none (.tmp 85)), none⟩,
 ⟨(some 4), (.mv (.tmp 86)), none⟩,
 ⟨(some 5), (.mv (.const (.int .i64 0))), none⟩])
 .ret)))))))
def r45 : List RV := [.tmp 4, .tmp 5]
theorem ok45 : FnOk Tryd.prog 45 87 c45 r45 := ⟨[25, 24], _, _, Tryd.func45, rfl, rfl, by kernel_rfl, by kernel_rfl, by kernel_rfl⟩
/-- slices.Clone[[]vouch/api.Write,vouch/api.Write] -/
def c46 : C := (.seq (.reg [⟨(some 2), (.mv (.const (.slice none 0 0))), none⟩])
 (.seq (.seq (.reg [⟨(some 3), (.mv (.tmp 0)), none⟩,
 ⟨(some 4), (.eqs false .slice (.tmp 3) (.const (.slice none 0 0))), none⟩])
 (.cond (.tmp 4) (.seq (.reg [⟨(some 2), (.mv (.const (.slice none 0 0))), none⟩])
 .ret)
 .skip))
 (.seq (.reg [⟨(some 5), (.lit 37 0 3 [] []), none⟩,
 ⟨(some 6), (.mv (.tmp 0)), none⟩,
 ⟨(some 7), (.app 37 3 40 (.tmp 5) (.tmp 6)), none⟩,
 ⟨(some 2), (.mv (.tmp 7)), none⟩])
 .ret)))
def r46 : List RV := [.tmp 2]
theorem ok46 : FnOk Tryd.prog 46 8 c46 r46 := ⟨[25, 24], _, _, Tryd.func46, rfl, rfl, by kernel_rfl, by kernel_rfl, by kernel_rfl⟩
/-- (*vouch/session.Session).message -/
def c47 : C := (.seq (.reg [⟨(some 2), (.new 33 [.int .i64 (0), .int .i64 (0), .int .i64 (0), .int .i64 (0), .int .i64 (0), .int .i64 (0), .string ⟨#[]⟩, .int .i64 (0), .int .i64 (0), .bool false, .string ⟨#[]⟩, .bool false, .int .i64 (0), .int .i64 (0), .slice none 0 0, .slice none 0 0]), none⟩])
 (.seq (.draw [⟨⟨(some 3), (.mv (.tmp 0)), none⟩, .p⟩,
 ⟨⟨(some 4), (.nilc (.tmp 3)), none⟩, .p⟩,
 ⟨⟨(some 5), (.fa 0 (.tmp 4)), none⟩, .p⟩,
 ⟨⟨(some 6), (.ld none (.tmp 5)), none⟩, .l⟩,
 ⟨⟨(some 7), (.mv (.tmp 0)), none⟩, .p⟩,
 ⟨⟨(some 8), (.nilc (.tmp 7)), none⟩, .p⟩,
 ⟨⟨(some 9), (.fa 1 (.tmp 8)), none⟩, .p⟩,
 ⟨⟨(some 10), (.fa 2 (.tmp 9)), none⟩, .p⟩,
 ⟨⟨(some 11), (.ld none (.tmp 10)), none⟩, .l⟩,
 ⟨⟨(some 12), (.mv (.tmp 0)), none⟩, .p⟩,
 ⟨⟨(some 13), (.nilc (.tmp 12)), none⟩, .p⟩,
 ⟨⟨(some 14), (.fa 7 (.tmp 13)), none⟩, .p⟩,
 ⟨⟨(some 15), (.ld none (.tmp 14)), none⟩, .l⟩,
 ⟨⟨(some 16), (.call 46 [(.tmp 15)]), none⟩, .g⟩,
 ⟨⟨(some 17), (.bld [.int .i64 (0), .int .i64 (0), .int .i64 (0), .int .i64 (0), .int .i64 (0), .int .i64 (0), .string ⟨#[]⟩, .int .i64 (0), .int .i64 (0), .bool false, .string ⟨#[]⟩, .bool false, .int .i64 (0), .int .i64 (0), .slice none 0 0, .slice none 0 0] [(0, 1, (.const (.int .i64 1))), (3, 1, (.tmp 6)), (5, 1, (.tmp 11)), (14, 1, (.tmp 16))]), none⟩, .p⟩,
 ⟨⟨none, (.st 16 (.tmp 2) (.tmp 17)), none⟩, .m⟩])
 .ret))
def r47 : List RV := [.agg 2 16]
theorem ok47 : FnOk Tryd.prog 47 18 c47 r47 := ⟨[25, 24], _, _, Tryd.func47, rfl, rfl, by kernel_rfl, by kernel_rfl, by kernel_rfl⟩
/-- (*vouch/session.Session).end -/
def c48 : C := (.reg [⟨(some 4), (.mv (.tmp 0)), none⟩,
 ⟨(some 5), (.mv (.tmp 0)), none⟩,
 ⟨(some 6), (.mv (.tmp 0)), none⟩,
 ⟨(some 7), (.mv (.tmp 0)), none⟩,
 ⟨(some 8), (.mv (.tmp 1)), none⟩,
 ⟨(some 9), (.nilc (.tmp 4)), none⟩,
 ⟨(some 10), (.fa 1 (.tmp 9)), none⟩,
 ⟨(some 11), (.fa 1 (.tmp 10)), none⟩,
 ⟨none, (.st 1 (.tmp 11) (.const (.bool false))), none⟩,
 ⟨(some 12), (.nilc (.tmp 5)), none⟩,
 ⟨(some 13), (.fa 1 (.tmp 12)), none⟩,
 ⟨(some 14), (.fa 3 (.tmp 13)), none⟩,
 ⟨none, (.st 1 (.tmp 14) (.const (.int .i64 0))), none⟩,
 ⟨(some 15), (.nilc (.tmp 6)), none⟩,
 ⟨(some 16), (.fa 1 (.tmp 15)), none⟩,
 ⟨(some 17), (.fa 5 (.tmp 16)), none⟩,
 ⟨none, (.st 1 (.tmp 17) (.tmp 8)), none⟩,
 ⟨(some 18), (.nilc (.tmp 7)), none⟩,
 ⟨(some 19), (.fa 7 (.tmp 18)), none⟩,
 ⟨none, (.st 1 (.tmp 19) (.const (.slice none 0 0))), none⟩])
def r48 : List RV := []
theorem ok48 : FnOk Tryd.prog 48 20 c48 r48 := ⟨[25, 24], _, _, Tryd.func48, rfl, rfl, by kernel_rfl, by kernel_rfl, by kernel_rfl⟩
/-- vouch/vouchref16.digits -/
def c50 : C := (.seq (.reg [⟨(some 2), (.mv (.const (.string { data := #[] }))), none⟩])
 (.seq (.reg [⟨(some 4), (.mv (.tmp 0)), none⟩,
 ⟨(some 5), (.bin .rem (.tmp 4) (.const (.int .i64 10))), none⟩,
 ⟨(some 6), (.bin .add (.const (.int .i64 48)) (.tmp 5)), none⟩,
 ⟨(some 7), (.conv .u8 (.tmp 6)), none⟩,
 ⟨(some 8), (.lit 5 1 1 [.int .u8 (0)] [(0, 1, (.tmp 7))]), none⟩,
 ⟨(some 9), (.bys (.tmp 8)), none⟩,
 ⟨(some 3), (.mv (.tmp 9)), none⟩])
 (.seq (.seq (.reg [⟨(some 10), (.mv (.tmp 0)), none⟩,
 ⟨(some 11), (.bin .lss (.tmp 10) (.const (.int .i64 10))), none⟩])
 (.cond (.tmp 11) (.seq (.reg [⟨(some 12), (.mv (.tmp 3)), none⟩,
 ⟨(some 2), (.mv (.tmp 12)), none⟩])
 .ret)
 .skip))
 (.seq (.reg [⟨(some 13), (.mv (.tmp 0)), none⟩,
 ⟨(some 14), (.bin .quo (.tmp 13) (.const (.int .i64 10))), none⟩,
 ⟨(some 15), (.call 50 [(.tmp 14)]), none⟩,
 ⟨(some 16), (.mv (.tmp 3)), none⟩,
 ⟨(some 17), (.bin .add (.tmp 15) (.tmp 16)), none⟩,
 ⟨(some 2), (.mv (.tmp 17)), none⟩])
 .ret))))
def r50 : List RV := [.tmp 2]
theorem ok50 : FnOk Tryd.prog 50 18 c50 r50 := ⟨[25, 24], _, _, Tryd.func50, rfl, rfl, by kernel_rfl, by kernel_rfl, by kernel_rfl⟩
/-- (*vouch/vouchref16.Session).Send -/
def c52 : C := (.seq (.reg [⟨(some 4), (.new 33 [.int .i64 (0), .int .i64 (0), .int .i64 (0), .int .i64 (0), .int .i64 (0), .int .i64 (0), .string ⟨#[]⟩, .int .i64 (0), .int .i64 (0), .bool false, .string ⟨#[]⟩, .bool false, .int .i64 (0), .int .i64 (0), .slice none 0 0, .slice none 0 0]), none⟩,
 ⟨(some 5), (.mv (.const (.int .i64 0))), none⟩])
 (.seq (.seq (.reg [⟨(some 7), (.mv (.tmp 0)), none⟩,
 ⟨(some 8), (.nilc (.tmp 7)), none⟩,
 ⟨(some 9), (.fa 1 (.tmp 8)), none⟩,
 ⟨(some 10), (.fa 1 (.tmp 9)), none⟩,
 ⟨(some 11), (.ld none (.tmp 10)), none⟩])
 (.cond (.tmp 11) (.seq (.reg [⟨(some 12), (.bld [.int .i64 (0), .int .i64 (0), .int .i64 (0), .int .i64 (0), .int .i64 (0), .int .i64 (0), .string ⟨#[]⟩, .int .i64 (0), .int .i64 (0), .bool false, .string ⟨#[]⟩, .bool false, .int .i64 (0), .int .i64 (0), .slice none 0 0, .slice none 0 0] []), none⟩,
 ⟨none, (.st 16 (.tmp 4) (.tmp 12)), none⟩,
 ⟨(some 5), (.mv (.const (.int .i64 31))), none⟩])
 .ret)
 .skip))
 (.seq (.reg [⟨(some 13), (.mv (.tmp 1)), none⟩,
 ⟨(some 14), (.call 75 [(.tmp 13)]), none⟩,
 ⟨(some 6), (.mv (.tmp 14)), none⟩])
 (.seq (.seq (.reg [⟨(some 15), (.mv (.tmp 6)), none⟩,
 ⟨(some 16), (.bin .neq (.tmp 15) (.const (.int .i64 0))), none⟩])
 (.cond (.tmp 16) (.seq (.reg [⟨(some 17), (.bld [.int .i64 (0), .int .i64 (0), .int .i64 (0), .int .i64 (0), .int .i64 (0), .int .i64 (0), .string ⟨#[]⟩, .int .i64 (0), .int .i64 (0), .bool false, .string ⟨#[]⟩, .bool false, .int .i64 (0), .int .i64 (0), .slice none 0 0, .slice none 0 0] []), none⟩,
 ⟨(some 18), (.mv (.tmp 6)), none⟩,
 ⟨none, (.st 16 (.tmp 4) (.tmp 17)), none⟩,
 ⟨(some 5), (.mv (.tmp 18)), none⟩])
 .ret)
 .skip))
 (.seq (.reg [⟨(some 19), (.mv (.tmp 0)), none⟩,
 ⟨(some 20), (.nilc (.tmp 19)), none⟩,
 ⟨(some 21), (.fa 1 (.tmp 20)), none⟩,
 ⟨(some 22), (.fa 2 (.tmp 21)), none⟩,
 ⟨(some 23), (.ld none (.tmp 22)), none⟩,
 ⟨(some 24), (.bin .add (.tmp 23) (.const (.int .i64 1))), none⟩,
 ⟨(some 25), (.nilc (.tmp 19)), none⟩,
 ⟨(some 26), (.fa 1 (.tmp 25)), none⟩,
 ⟨(some 27), (.fa 2 (.tmp 26)), none⟩,
 ⟨none, (.st 1 (.tmp 27) (.tmp 24)), none⟩])
 (.seq (.reg [⟨(some 28), (.mv (.tmp 0)), none⟩,
 ⟨(some 29), (.nilc (.tmp 28)), none⟩,
 ⟨(some 30), (.fa 1 (.tmp 29)), none⟩,
 ⟨(some 31), (.fa 1 (.tmp 30)), none⟩,
 ⟨none, (.st 1 (.tmp 31) (.const (.bool true))), none⟩])
 (.seq (.reg [⟨(some 32), (.mv (.tmp 0)), none⟩,
 ⟨(some 33), (.nilc (.tmp 32)), none⟩,
 ⟨(some 34), (.fa 1 (.tmp 33)), none⟩,
 ⟨(some 35), (.fa 3 (.tmp 34)), none⟩,
 ⟨none, (.st 1 (.tmp 35) (.const (.int .i64 0))), none⟩])
 (.seq (.reg [⟨(some 36), (.mv (.tmp 0)), none⟩,
 ⟨(some 37), (.lit 37 0 3 [] []), none⟩,
 ⟨(some 38), (.mv (.tmp 1)), none⟩,
 ⟨(some 39), (.app 37 3 40 (.tmp 37) (.tmp 38)), none⟩,
 ⟨(some 40), (.nilc (.tmp 36)), none⟩,
 ⟨(some 41), (.fa 7 (.tmp 40)), none⟩,
 ⟨none, (.st 1 (.tmp 41) (.tmp 39)), none⟩])
 (.seq (.reg [⟨(some 42), (.mv (.tmp 0)), none⟩,
 ⟨(some 43), (.call 76 [(.tmp 42)]), none⟩,
 ⟨none, (.st 16 (.tmp 4) (.tmp 43)), none⟩,
 ⟨(some 5), (.mv (.const (.int .i64 0))), none⟩])
 .ret)))))))))
def r52 : List RV := [.agg 4 16, .tmp 5]
theorem ok52 : FnOk Tryd.prog 52 44 c52 r52 := ⟨[25, 24], _, _, Tryd.func52, rfl, rfl, by kernel_rfl, by kernel_rfl, by kernel_rfl⟩
/-- vouch/vouchref13.Same -/
def c53 : C := (.seq (.reg [⟨(some 2), (.box 33 (.tmp 0)), none⟩,
 ⟨(some 3), (.box 33 (.tmp 1)), none⟩,
 ⟨(some 4), (.mv (.const (.bool false))), none⟩])
 (.seq (.seq (.reg [⟨(some 6), (.fa 0 (.tmp 2)), none⟩,
 ⟨(some 7), (.ld none (.tmp 6)), none⟩,
 ⟨(some 8), (.fa 0 (.tmp 3)), none⟩,
 ⟨(some 9), (.ld none (.tmp 8)), none⟩,
 ⟨(some 10), (.bin .neq (.tmp 7) (.tmp 9)), none⟩,
 ⟨(some 11), (.mv (.tmp 10)), none⟩,
 ⟨(some 12), (.fa 1 (.tmp 2)), (some (11, false))⟩,
 ⟨(some 13), (.ld none (.tmp 12)), (some (11, false))⟩,
 ⟨(some 14), (.fa 1 (.tmp 3)), (some (11, false))⟩,
 ⟨(some 15), (.ld none (.tmp 14)), (some (11, false))⟩,
 ⟨(some 16), (.bin .neq (.tmp 13) (.tmp 15)), (some (11, false))⟩,
 ⟨(some 17), (.pick (.tmp 11) (.const (.bool true)) (.tmp 16)), none⟩,
 ⟨(some 18), (.mv (.tmp 17)), none⟩,
 ⟨(some 19), (.fa 2 (.tmp 2)), (some (18, false))⟩,
 ⟨(some 20), (.ld none (.tmp 19)), (some (18, false))⟩,
 ⟨(some 21), (.fa 2 (.tmp 3)), (some (18, false))⟩,
 ⟨(some 22), (.ld none (.tmp 21)), (some (18, false))⟩,
 ⟨(some 23), (.bin .neq (.tmp 20) (.tmp 22)), (some (18, false))⟩,
 ⟨(some 24), (.pick (.tmp 18) (.const (.bool true)) (.tmp 23)), none⟩,
 ⟨(some 25), (.mv (.tmp 24)), none⟩,
 ⟨(some 26), (.fa 3 (.tmp 2)), (some (25, false))⟩,
 ⟨(some 27), (.ld none (.tmp 26)), (some (25, false))⟩,
 ⟨(some 28), (.fa 3 (.tmp 3)), (some (25, false))⟩,
 ⟨(some 29), (.ld none (.tmp 28)), (some (25, false))⟩,
 ⟨(some 30), (.bin .neq (.tmp 27) (.tmp 29)), (some (25, false))⟩,
 ⟨(some 31), (.pick (.tmp 25) (.const (.bool true)) (.tmp 30)), none⟩,
 ⟨(some 32), (.mv (.tmp 31)), none⟩,
 ⟨(some 33), (.fa 4 (.tmp 2)), (some (32, false))⟩,
 ⟨(some 34), (.ld none (.tmp 33)), (some (32, false))⟩,
 ⟨(some 35), (.fa 4 (.tmp 3)), (some (32, false))⟩,
 ⟨(some 36), (.ld none (.tmp 35)), (some (32, false))⟩,
 ⟨(some 37), (.bin .neq (.tmp 34) (.tmp 36)), (some (32, false))⟩,
 ⟨(some 38), (.pick (.tmp 32) (.const (.bool true)) (.tmp 37)), none⟩,
 ⟨(some 39), (.mv (.tmp 38)), none⟩,
 ⟨(some 40), (.fa 5 (.tmp 2)), (some (39, false))⟩,
 ⟨(some 41), (.ld none (.tmp 40)), (some (39, false))⟩,
 ⟨(some 42), (.fa 5 (.tmp 3)), (some (39, false))⟩,
 ⟨(some 43), (.ld none (.tmp 42)), (some (39, false))⟩,
 ⟨(some 44), (.bin .neq (.tmp 41) (.tmp 43)), (some (39, false))⟩,
 ⟨(some 45), (.pick (.tmp 39) (.const (.bool true)) (.tmp 44)), none⟩,
 ⟨(some 46), (.mv (.tmp 45)), none⟩,
 ⟨(some 47), (.fa 6 (.tmp 2)), (some (46, false))⟩,
 ⟨(some 48), (.ld none (.tmp 47)), (some (46, false))⟩,
 ⟨(some 49), (.fa 6 (.tmp 3)), (some (46, false))⟩,
 ⟨(some 50), (.ld none (.tmp 49)), (some (46, false))⟩,
 ⟨(some 51), (.bin .neq (.tmp 48) (.tmp 50)), (some (46, false))⟩,
 ⟨(some 52), (.pick (.tmp 46) (.const (.bool true)) (.tmp 51)), none⟩,
 ⟨(some 53), (.mv (.tmp 52)), none⟩,
 ⟨(some 54), (.fa 7 (.tmp 2)), (some (53, false))⟩,
 ⟨(some 55), (.ld (some 2) (.tmp 54)), (some (53, false))⟩,
 ⟨(some 56), (.fa 7 (.tmp 3)), (some (53, false))⟩,
 ⟨(some 57), (.ld (some 2) (.tmp 56)), (some (53, false))⟩,
 ⟨(some 58), (.eqa true [.num, .num] (.tmp 55) (.tmp 57)), (some (53, false))⟩,
 ⟨(some 59), (.pick (.tmp 53) (.const (.bool true)) (.tmp 58)), none⟩,
 ⟨(some 60), (.mv (.tmp 59)), none⟩,
 ⟨(some 61), (.fa 9 (.tmp 2)), (some (60, false))⟩,
 ⟨(some 62), (.ld (some 2) (.tmp 61)), (some (60, false))⟩,
 ⟨(some 63), (.fa 9 (.tmp 3)), (some (60, false))⟩,
 ⟨(some 64), (.ld (some 2) (.tmp 63)), (some (60, false))⟩,
 ⟨(some 65), (.eqa true [.truth, .text] (.tmp 62) (.tmp 64)), (some (60, false))⟩,
 ⟨(some 66), (.pick (.tmp 60) (.const (.bool true)) (.tmp 65)), none⟩,
 ⟨(some 67), (.mv (.tmp 66)), none⟩,
 ⟨(some 68), (.fa 11 (.tmp 2)), (some (67, false))⟩,
 ⟨(some 69), (.ld none (.tmp 68)), (some (67, false))⟩,
 ⟨(some 70), (.fa 11 (.tmp 3)), (some (67, false))⟩,
 ⟨(some 71), (.ld none (.tmp 70)), (some (67, false))⟩,
 ⟨(some 72), (.eqs true .bool (.tmp 69) (.tmp 71)), (some (67, false))⟩,
 ⟨(some 73), (.pick (.tmp 67) (.const (.bool true)) (.tmp 72)), none⟩,
 ⟨(some 74), (.mv (.tmp 73)), none⟩,
 ⟨(some 75), (.fa 12 (.tmp 2)), (some (74, false))⟩,
 ⟨(some 76), (.ld none (.tmp 75)), (some (74, false))⟩,
 ⟨(some 77), (.fa 12 (.tmp 3)), (some (74, false))⟩,
 ⟨(some 78), (.ld none (.tmp 77)), (some (74, false))⟩,
 ⟨(some 79), (.bin .neq (.tmp 76) (.tmp 78)), (some (74, false))⟩,
 ⟨(some 80), (.pick (.tmp 74) (.const (.bool true)) (.tmp 79)), none⟩,
 ⟨(some 81), (.mv (.tmp 80)), none⟩,
 ⟨(some 82), (.fa 13 (.tmp 2)), (some (81, false))⟩,
 ⟨(some 83), (.ld none (.tmp 82)), (some (81, false))⟩,
 ⟨(some 84), (.fa 13 (.tmp 3)), (some (81, false))⟩,
 ⟨(some 85), (.ld none (.tmp 84)), (some (81, false))⟩,
 ⟨(some 86), (.bin .neq (.tmp 83) (.tmp 85)), (some (81, false))⟩,
 ⟨(some 87), (.pick (.tmp 81) (.const (.bool true)) (.tmp 86)), none⟩,
 ⟨(some 88), (.mv (.tmp 87)), none⟩,
 ⟨(some 89), (.fa 14 (.tmp 2)), (some (88, false))⟩,
 ⟨(some 90), (.ld none (.tmp 89)), (some (88, false))⟩,
 ⟨(some 91), (.len true (.tmp 90)), (some (88, false))⟩,
 ⟨(some 92), (.fa 14 (.tmp 3)), (some (88, false))⟩,
 ⟨(some 93), (.ld none (.tmp 92)), (some (88, false))⟩,
 ⟨(some 94), (.len true (.tmp 93)), (some (88, false))⟩,
 ⟨(some 95), (.bin .neq (.tmp 91) (.tmp 94)), (some (88, false))⟩,
 ⟨(some 96), (.pick (.tmp 88) (.const (.bool true)) (.tmp 95)), none⟩,
 ⟨(some 97), (.mv (.tmp 96)), none⟩,
 ⟨(some 98), (.fa 15 (.tmp 2)), (some (97, false))⟩,
 ⟨(some 99), (.ld none (.tmp 98)), (some (97, false))⟩,
 ⟨(some 100), (.len true (.tmp 99)), (some (97, false))⟩,
 ⟨(some 101), (.fa 15 (.tmp 3)), (some (97, false))⟩,
 ⟨(some 102), (.ld none (.tmp 101)), (some (97, false))⟩,
 ⟨(some 103), (.len true (.tmp 102)), (some (97, false))⟩,
 ⟨(some 104), (.bin .neq (.tmp 100) (.tmp 103)), (some (97, false))⟩,
 ⟨(some 105), (.pick (.tmp 97) (.const (.bool true)) (.tmp 104)), none⟩])
 (.cond (.tmp 105) (.seq (.reg [⟨(some 4), (.mv (.const (.bool false))), none⟩])
 .ret)
 .skip))
 (.seq (.seq (.reg [⟨(some 5), (.mv (.const (.int .i64 0))), none⟩])
 (.block 0 (.loop (.seq (.seq (.reg [⟨(some 106), (.mv (.tmp 5)), none⟩,
 ⟨(some 107), (.fa 14 (.tmp 2)), none⟩,
 ⟨(some 108), (.ld none (.tmp 107)), none⟩,
 ⟨(some 109), (.len true (.tmp 108)), none⟩,
 ⟨(some 110), (.bin .lss (.tmp 106) (.tmp 109)), none⟩])
 (.cond (.tmp 110) .skip
 (.exit 0)))
 (.seq (.block 1 (.seq (.draw [⟨⟨(some 113), (.fa 14 (.tmp 2)), none⟩, .p⟩,
 ⟨⟨(some 114), (.ld none (.tmp 113)), none⟩, .l⟩,
 ⟨⟨(some 115), (.mv (.tmp 5)), none⟩, .p⟩,
 ⟨⟨(some 116), (.ia 3 (.tmp 114) (.tmp 115)), none⟩, .p⟩,
 ⟨⟨(some 117), (.ld (some 3) (.tmp 116)), none⟩, .l⟩,
 ⟨⟨(some 118), (.fa 14 (.tmp 3)), none⟩, .p⟩,
 ⟨⟨(some 119), (.ld none (.tmp 118)), none⟩, .l⟩,
 ⟨⟨(some 120), (.mv (.tmp 5)), none⟩, .p⟩,
 ⟨⟨(some 121), (.ia 3 (.tmp 119) (.tmp 120)), none⟩, .p⟩,
 ⟨⟨(some 122), (.ld (some 3) (.tmp 121)), none⟩, .l⟩,
 ⟨⟨(some 123), (.eqa true [.text, .truth, .text] (.tmp 117) (.tmp 122)), none⟩, .p⟩])
 (.cond (.tmp 123) (.seq (.reg [⟨(some 4), (.mv (.const (.bool false))), none⟩])
 .ret)
 .skip)))
 (.reg [⟨(some 111), (.mv (.tmp 5)), none⟩,
 ⟨(some 112), (.bin .add (.tmp 111) (.const (.int .i64 1))), none⟩,
 ⟨(some 5), (.mv (.tmp 112)), none⟩]))))))
 (.seq (.reg [⟨(some 124), (.fa 15 (.tmp 2)), none⟩,
 ⟨(some 125), (.ld none (.tmp 124)), none⟩,
 ⟨(some 126), (.fa 15 (.tmp 3)), none⟩,
 ⟨(some 127), (.ld none (.tmp 126)), none⟩,
 ⟨(some 128), (.call 77 [(.tmp 125), (.tmp 127)]), none⟩,
 ⟨(some 4), (.mv (.tmp 128)), none⟩])
 .ret))))
def r53 : List RV := [.tmp 4]
theorem ok53 : FnOk Tryd.prog 53 129 c53 r53 := ⟨[25, 24], _, _, Tryd.func53, rfl, rfl, by kernel_rfl, by kernel_rfl, by kernel_rfl⟩
/-- (*vouch/vouchref16.Session).Again -/
def c54 : C := (.seq (.reg [⟨(some 4), (.new 33 [.int .i64 (0), .int .i64 (0), .int .i64 (0), .int .i64 (0), .int .i64 (0), .int .i64 (0), .string ⟨#[]⟩, .int .i64 (0), .int .i64 (0), .bool false, .string ⟨#[]⟩, .bool false, .int .i64 (0), .int .i64 (0), .slice none 0 0, .slice none 0 0]), none⟩,
 ⟨(some 5), (.mv (.const (.int .i64 0))), none⟩])
 (.seq (.seq (.reg [⟨(some 6), (.mv (.tmp 0)), none⟩,
 ⟨(some 7), (.nilc (.tmp 6)), none⟩,
 ⟨(some 8), (.fa 1 (.tmp 7)), none⟩,
 ⟨(some 9), (.fa 1 (.tmp 8)), none⟩,
 ⟨(some 10), (.ld none (.tmp 9)), none⟩,
 ⟨(some 11), (.nt (.tmp 10)), none⟩])
 (.cond (.tmp 11) (.seq (.reg [⟨(some 12), (.bld [.int .i64 (0), .int .i64 (0), .int .i64 (0), .int .i64 (0), .int .i64 (0), .int .i64 (0), .string ⟨#[]⟩, .int .i64 (0), .int .i64 (0), .bool false, .string ⟨#[]⟩, .bool false, .int .i64 (0), .int .i64 (0), .slice none 0 0, .slice none 0 0] []), none⟩,
 ⟨none, (.st 16 (.tmp 4) (.tmp 12)), none⟩,
 ⟨(some 5), (.mv (.const (.int .i64 3))), none⟩])
 .ret)
 .skip))
 (.seq (.seq (.reg [⟨(some 13), (.mv (.tmp 0)), none⟩,
 ⟨(some 14), (.nilc (.tmp 13)), none⟩,
 ⟨(some 15), (.fa 1 (.tmp 14)), none⟩,
 ⟨(some 16), (.fa 3 (.tmp 15)), none⟩,
 ⟨(some 17), (.ld none (.tmp 16)), none⟩,
 ⟨(some 18), (.mv (.tmp 1)), none⟩,
 ⟨(some 19), (.bin .geq (.tmp 17) (.tmp 18)), none⟩])
 (.cond (.tmp 19) (.seq (.reg [⟨(some 20), (.mv (.tmp 0)), none⟩,
 ⟨(some 21), (.nilc (.tmp 20)), none⟩,
 ⟨(some 22), (.fa 1 (.tmp 21)), none⟩,
 ⟨(some 23), (.fa 1 (.tmp 22)), none⟩,
 ⟨none, (.st 1 (.tmp 23) (.const (.bool false))), none⟩])
 (.seq (.reg [⟨(some 24), (.mv (.tmp 0)), none⟩,
 ⟨(some 25), (.nilc (.tmp 24)), none⟩,
 ⟨(some 26), (.fa 1 (.tmp 25)), none⟩,
 ⟨(some 27), (.fa 3 (.tmp 26)), none⟩,
 ⟨none, (.st 1 (.tmp 27) (.const (.int .i64 0))), none⟩])
 (.seq (.reg [⟨(some 28), (.mv (.tmp 0)), none⟩,
 ⟨(some 29), (.nilc (.tmp 28)), none⟩,
 ⟨(some 30), (.fa 1 (.tmp 29)), none⟩,
 ⟨(some 31), (.fa 5 (.tmp 30)), none⟩,
 ⟨none, (.st 1 (.tmp 31) (.const (.int .i64 41))), none⟩])
 (.seq (.reg [⟨(some 32), (.bld [.int .i64 (0), .int .i64 (0), .int .i64 (0), .int .i64 (0), .int .i64 (0), .int .i64 (0), .string ⟨#[]⟩, .int .i64 (0), .int .i64 (0), .bool false, .string ⟨#[]⟩, .bool false, .int .i64 (0), .int .i64 (0), .slice none 0 0, .slice none 0 0] []), none⟩,
 ⟨none, (.st 16 (.tmp 4) (.tmp 32)), none⟩,
 ⟨(some 5), (.mv (.const (.int .i64 41))), none⟩])
 .ret))))
 .skip))
 (.seq (.reg [⟨(some 33), (.mv (.tmp 0)), none⟩,
 ⟨(some 34), (.nilc (.tmp 33)), none⟩,
 ⟨(some 35), (.fa 1 (.tmp 34)), none⟩,
 ⟨(some 36), (.fa 3 (.tmp 35)), none⟩,
 ⟨(some 37), (.ld none (.tmp 36)), none⟩,
 ⟨(some 38), (.bin .add (.tmp 37) (.const (.int .i64 1))), none⟩,
 ⟨(some 39), (.nilc (.tmp 33)), none⟩,
 ⟨(some 40), (.fa 1 (.tmp 39)), none⟩,
 ⟨(some 41), (.fa 3 (.tmp 40)), none⟩,
 ⟨none, (.st 1 (.tmp 41) (.tmp 38)), none⟩])
 (.seq (.reg [⟨(some 42), (.mv (.tmp 0)), none⟩,
 ⟨(some 43), (.call 76 [(.tmp 42)]), none⟩,
 ⟨none, (.st 16 (.tmp 4) (.tmp 43)), none⟩,
 ⟨(some 5), (.mv (.const (.int .i64 0))), none⟩])
 .ret)))))
def r54 : List RV := [.agg 4 16, .tmp 5]
theorem ok54 : FnOk Tryd.prog 54 44 c54 r54 := ⟨[25, 24], _, _, Tryd.func54, rfl, rfl, by kernel_rfl, by kernel_rfl, by kernel_rfl⟩
/-- (*vouch/vouchref16.Session).Ack -/
def c55 : C := (.seq (.reg [⟨(some 3), (.box 33 (.tmp 1)), none⟩,
 ⟨(some 4), (.mv (.const (.bool false))), none⟩])
 (.seq (.seq (.draw [⟨⟨(some 5), (.mv (.tmp 0)), none⟩, .p⟩,
 ⟨⟨(some 6), (.nilc (.tmp 5)), none⟩, .p⟩,
 ⟨⟨(some 7), (.fa 1 (.tmp 6)), none⟩, .p⟩,
 ⟨⟨(some 8), (.fa 1 (.tmp 7)), none⟩, .p⟩,
 ⟨⟨(some 9), (.ld none (.tmp 8)), none⟩, .l⟩,
 ⟨⟨(some 10), (.nt (.tmp 9)), none⟩, .p⟩,
 ⟨⟨(some 11), (.mv (.tmp 10)), none⟩, .p⟩,
 ⟨⟨(some 12), (.fa 0 (.tmp 3)), (some (11, false))⟩, .p⟩,
 ⟨⟨(some 13), (.ld none (.tmp 12)), (some (11, false))⟩, .l⟩,
 ⟨⟨(some 14), (.bin .neq (.tmp 13) (.const (.int .i64 2))), (some (11, false))⟩, .p⟩,
 ⟨⟨(some 15), (.pick (.tmp 11) (.const (.bool true)) (.tmp 14)), none⟩, .p⟩,
 ⟨⟨(some 16), (.mv (.tmp 15)), none⟩, .p⟩,
 ⟨⟨(some 17), (.fa 3 (.tmp 3)), (some (16, false))⟩, .p⟩,
 ⟨⟨(some 18), (.ld none (.tmp 17)), (some (16, false))⟩, .l⟩,
 ⟨⟨(some 19), (.mv (.tmp 0)), (some (16, false))⟩, .p⟩,
 ⟨⟨(some 20), (.nilc (.tmp 19)), (some (16, false))⟩, .p⟩,
 ⟨⟨(some 21), (.fa 0 (.tmp 20)), (some (16, false))⟩, .p⟩,
 ⟨⟨(some 22), (.ld none (.tmp 21)), (some (16, false))⟩, .l⟩,
 ⟨⟨(some 23), (.bin .neq (.tmp 18) (.tmp 22)), (some (16, false))⟩, .p⟩,
 ⟨⟨(some 24), (.pick (.tmp 16) (.const (.bool true)) (.tmp 23)), none⟩, .p⟩,
 ⟨⟨(some 25), (.mv (.tmp 24)), none⟩, .p⟩,
 ⟨⟨(some 26), (.fa 5 (.tmp 3)), (some (25, false))⟩, .p⟩,
 ⟨⟨(some 27), (.ld none (.tmp 26)), (some (25, false))⟩, .l⟩,
 ⟨⟨(some 28), (.mv (.tmp 0)), (some (25, false))⟩, .p⟩,
 ⟨⟨(some 29), (.nilc (.tmp 28)), (some (25, false))⟩, .p⟩,
 ⟨⟨(some 30), (.fa 1 (.tmp 29)), (some (25, false))⟩, .p⟩,
 ⟨⟨(some 31), (.fa 2 (.tmp 30)), (some (25, false))⟩, .p⟩,
 ⟨⟨(some 32), (.ld none (.tmp 31)), (some (25, false))⟩, .l⟩,
 ⟨⟨(some 33), (.bin .neq (.tmp 27) (.tmp 32)), (some (25, false))⟩, .p⟩,
 ⟨⟨(some 34), (.pick (.tmp 25) (.const (.bool true)) (.tmp 33)), none⟩, .p⟩])
 (.cond (.tmp 34) (.seq (.reg [⟨(some 4), (.mv (.const (.bool false))), none⟩])
 .ret)
 .skip))
 (.seq (.reg [⟨(some 35), (.mv (.tmp 0)), none⟩,
 ⟨(some 36), (.nilc (.tmp 35)), none⟩,
 ⟨(some 37), (.fa 1 (.tmp 36)), none⟩,
 ⟨(some 38), (.fa 1 (.tmp 37)), none⟩,
 ⟨none, (.st 1 (.tmp 38) (.const (.bool false))), none⟩])
 (.seq (.reg [⟨(some 39), (.mv (.tmp 0)), none⟩,
 ⟨(some 40), (.nilc (.tmp 39)), none⟩,
 ⟨(some 41), (.fa 1 (.tmp 40)), none⟩,
 ⟨(some 42), (.fa 3 (.tmp 41)), none⟩,
 ⟨none, (.st 1 (.tmp 42) (.const (.int .i64 0))), none⟩])
 (.seq (.reg [⟨(some 43), (.mv (.tmp 0)), none⟩,
 ⟨(some 44), (.fa 12 (.tmp 3)), none⟩,
 ⟨(some 45), (.ld none (.tmp 44)), none⟩,
 ⟨(some 46), (.nilc (.tmp 43)), none⟩,
 ⟨(some 47), (.fa 1 (.tmp 46)), none⟩,
 ⟨(some 48), (.fa 5 (.tmp 47)), none⟩,
 ⟨none, (.st 1 (.tmp 48) (.tmp 45)), none⟩])
 (.seq (.seq (.reg [⟨(some 49), (.fa 12 (.tmp 3)), none⟩,
 ⟨(some 50), (.ld none (.tmp 49)), none⟩,
 ⟨(some 51), (.bin .eql (.tmp 50) (.const (.int .i64 0))), none⟩])
 (.cond (.tmp 51) (.seq (.reg [⟨(some 52), (.mv (.tmp 0)), none⟩,
 ⟨(some 53), (.fa 13 (.tmp 3)), none⟩,
 ⟨(some 54), (.ld none (.tmp 53)), none⟩,
 ⟨(some 55), (.nilc (.tmp 52)), none⟩,
 ⟨(some 56), (.fa 1 (.tmp 55)), none⟩,
 ⟨(some 57), (.fa 4 (.tmp 56)), none⟩,
 ⟨none, (.st 1 (.tmp 57) (.tmp 54)), none⟩])
 (.reg [⟨(some 58), (.mv (.tmp 0)), none⟩,
 ⟨(some 59), (.fa 13 (.tmp 3)), none⟩,
 ⟨(some 60), (.ld none (.tmp 59)), none⟩,
 ⟨(some 61), (.call 56 [(.tmp 58), (.tmp 60)]), none⟩]))
 .skip))
 (.seq (.reg [⟨(some 4), (.mv (.const (.bool true))), none⟩])
 .ret)))))))
def r55 : List RV := [.tmp 4]
theorem ok55 : FnOk Tryd.prog 55 62 c55 r55 := ⟨[25, 24], _, _, Tryd.func55, rfl, rfl, by kernel_rfl, by kernel_rfl, by kernel_rfl⟩
/-- (*vouch/vouchref16.Session).Raise -/
def c56 : C := (.seq (.reg [⟨(some 4), (.mv (.tmp 1)), none⟩,
 ⟨(some 5), (.mv (.tmp 0)), none⟩,
 ⟨(some 6), (.nilc (.tmp 5)), none⟩,
 ⟨(some 7), (.fa 1 (.tmp 6)), none⟩,
 ⟨(some 8), (.fa 0 (.tmp 7)), none⟩,
 ⟨(some 9), (.ld none (.tmp 8)), none⟩,
 ⟨(some 10), (.bin .gtr (.tmp 4) (.tmp 9)), none⟩,
 ⟨(some 11), (.mv (.tmp 10)), none⟩,
 ⟨(some 12), (.mv (.tmp 1)), (some (11, true))⟩,
 ⟨(some 13), (.bin .leq (.tmp 12) (.const (.int .i64 1099511627776))), (some (11, true))⟩,
 ⟨(some 14), (.pick (.tmp 11) (.tmp 13) (.const (.bool false))), none⟩])
 (.cond (.tmp 14) (.reg [⟨(some 15), (.mv (.tmp 0)), none⟩,
 ⟨(some 16), (.mv (.tmp 1)), none⟩,
 ⟨(some 17), (.nilc (.tmp 15)), none⟩,
 ⟨(some 18), (.fa 1 (.tmp 17)), none⟩,
 ⟨(some 19), (.fa 0 (.tmp 18)), none⟩,
 ⟨none, (.st 1 (.tmp 19) (.tmp 16)), none⟩])
 .skip))
def r56 : List RV := []
theorem ok56 : FnOk Tryd.prog 56 20 c56 r56 := ⟨[25, 24], _, _, Tryd.func56, rfl, rfl, by kernel_rfl, by kernel_rfl, by kernel_rfl⟩
/-- (*vouch/vouchref16.Session).Join -/
def c57 : C := (.seq (.reg [⟨(some 4), (.mv (.const (.int .i64 0))), none⟩])
 (.seq (.reg [⟨(some 8), (.mv (.tmp 1)), none⟩,
 ⟨(some 9), (.call 22 [(.tmp 8)]), none⟩,
 ⟨(some 7), (.mv (.tmp 9)), none⟩,
 ⟨(some 10), (.ext 0 (.tmp 7)), none⟩,
 ⟨(some 11), (.ext 1 (.tmp 7)), none⟩,
 ⟨(some 5), (.mv (.tmp 10)), none⟩,
 ⟨(some 6), (.mv (.tmp 11)), none⟩])
 (.seq (.seq (.reg [⟨(some 12), (.mv (.tmp 6)), none⟩,
 ⟨(some 13), (.bin .eql (.tmp 12) (.const (.int .i64 0))), none⟩])
 (.cond (.tmp 13) (.reg [⟨(some 14), (.mv (.tmp 0)), none⟩,
 ⟨(some 15), (.mv (.tmp 5)), none⟩,
 ⟨(some 16), (.call 56 [(.tmp 14), (.tmp 15)]), none⟩])
 .skip))
 (.seq (.reg [⟨(some 17), (.mv (.tmp 6)), none⟩,
 ⟨(some 4), (.mv (.tmp 17)), none⟩])
 .ret))))
def r57 : List RV := [.tmp 4]
theorem ok57 : FnOk Tryd.prog 57 18 c57 r57 := ⟨[25, 24], _, _, Tryd.func57, rfl, rfl, by kernel_rfl, by kernel_rfl, by kernel_rfl⟩
/-- vouch/store.check -/
def c70 : C := (.seq (.reg [⟨(some 2), (.mv (.const (.int .i64 0))), none⟩])
 (.seq (.seq (.reg [⟨(some 9), (.mv (.tmp 0)), none⟩,
 ⟨(some 10), (.len true (.tmp 9)), none⟩,
 ⟨(some 11), (.bin .eql (.tmp 10) (.const (.int .i64 0))), none⟩,
 ⟨(some 12), (.mv (.tmp 11)), none⟩,
 ⟨(some 13), (.mv (.tmp 0)), (some (12, false))⟩,
 ⟨(some 14), (.len true (.tmp 13)), (some (12, false))⟩,
 ⟨(some 15), (.bin .gtr (.tmp 14) (.const (.int .i64 8))), (some (12, false))⟩,
 ⟨(some 16), (.pick (.tmp 12) (.const (.bool true)) (.tmp 15)), none⟩])
 (.cond (.tmp 16) (.seq (.reg [⟨(some 2), (.mv (.const (.int .i64 1))), none⟩])
 .ret)
 .skip))
 (.seq (.reg [⟨(some 17), .mkmap, none⟩,
 ⟨(some 3), (.mv (.tmp 17)), none⟩])
 (.seq (.reg [⟨(some 4), (.mv (.const (.bool false))), none⟩])
 (.seq (.seq (.reg [⟨(some 18), (.mv (.tmp 0)), none⟩,
 ⟨(some 19), (.len true (.tmp 18)), none⟩,
 ⟨(some 20), (.mv (.const (.int .i64 0))), none⟩])
 (.block 0 (.loop (.seq (.reg [⟨(some 21), (.bin .lss (.tmp 20) (.tmp 19)), none⟩])
 (.seq (.cond (.tmp 21) .skip
 (.exit 0))
 (.seq (.block 1 (.seq (.reg [⟨(some 22), (.mv (.tmp 20)), none⟩,
 ⟨(some 23), (.ia 3 (.tmp 18) (.tmp 20)), none⟩,
 ⟨(some 24), (.ld (some 3) (.tmp 23)), none⟩,
 ⟨(some 6), (.new 37 [.string ⟨#[]⟩, .bool false, .string ⟨#[]⟩]), none⟩,
 ⟨(some 5), (.mv (.tmp 22)), none⟩,
 ⟨none, (.st 3 (.tmp 6) (.tmp 24)), none⟩])
 (.seq (.seq (.reg [⟨(some 25), (.ld (some 3) (.tmp 6)), none⟩,
 ⟨(some 26), (.call 85 [(.tmp 25)]), none⟩,
 ⟨(some 27), (.nt (.tmp 26)), none⟩])
 (.cond (.tmp 27) (.seq (.reg [⟨(some 2), (.mv (.const (.int .i64 1))), none⟩])
 .ret)
 .skip))
 (.seq (.reg [⟨(some 29), (.mv (.tmp 3)), none⟩,
 ⟨(some 30), (.fa 0 (.tmp 6)), none⟩,
 ⟨(some 31), (.ld none (.tmp 30)), none⟩,
 ⟨(some 32), (.look true (.int .i64 (0)) (.tmp 29) (.tmp 31)), none⟩,
 ⟨(some 28), (.mv (.tmp 32)), none⟩,
 ⟨(some 33), (.ext 0 (.tmp 28)), none⟩,
 ⟨(some 34), (.ext 1 (.tmp 28)), none⟩,
 ⟨(some 7), (.mv (.tmp 33)), none⟩,
 ⟨(some 8), (.mv (.tmp 34)), none⟩])
 (.seq (.reg [⟨(some 35), (.mv (.tmp 4)), none⟩,
 ⟨(some 36), (.mv (.tmp 35)), none⟩,
 ⟨(some 37), (.mv (.tmp 8)), (some (36, false))⟩,
 ⟨(some 38), (.pick (.tmp 36) (.const (.bool true)) (.tmp 37)), none⟩,
 ⟨(some 4), (.mv (.tmp 38)), none⟩])
 (.reg [⟨(some 39), (.mv (.tmp 3)), none⟩,
 ⟨(some 40), (.fa 0 (.tmp 6)), none⟩,
 ⟨(some 41), (.ld none (.tmp 40)), none⟩,
 ⟨(some 42), (.mv (.tmp 5)), none⟩,
 ⟨none, (.mset (.tmp 39) (.tmp 41) (.tmp 42)), none⟩]))))))
 (.reg [⟨(some 43), (.bin .add (.tmp 20) (.const (.int .i64 1))), none⟩,
 ⟨(some 20), (.mv (.tmp 43)), none⟩])))))))
 (.seq (.seq (.reg [⟨(some 44), (.mv (.tmp 4)), none⟩])
 (.cond (.tmp 44) (.seq (.reg [⟨(some 2), (.mv (.const (.int .i64 22))), none⟩])
 .ret)
 .skip))
 (.seq (.reg [⟨(some 2), (.mv (.const (.int .i64 0))), none⟩])
 .ret)))))))
def r70 : List RV := [.tmp 2]
theorem ok70 : FnOk Tryd.prog 70 45 c70 r70 := ⟨[25, 24], _, _, Tryd.func70, rfl, rfl, by kernel_rfl, by kernel_rfl, by kernel_rfl⟩
/-- slices.Clone[[]vouch/api.Version,vouch/api.Version] -/
def c71 : C := (.seq (.reg [⟨(some 2), (.mv (.const (.slice none 0 0))), none⟩])
 (.seq (.seq (.reg [⟨(some 3), (.mv (.tmp 0)), none⟩,
 ⟨(some 4), (.eqs false .slice (.tmp 3) (.const (.slice none 0 0))), none⟩])
 (.cond (.tmp 4) (.seq (.reg [⟨(some 2), (.mv (.const (.slice none 0 0))), none⟩])
 .ret)
 .skip))
 (.seq (.reg [⟨(some 5), (.lit 144 0 3 [] []), none⟩,
 ⟨(some 6), (.mv (.tmp 0)), none⟩,
 ⟨(some 7), (.app 144 3 32 (.tmp 5) (.tmp 6)), none⟩,
 ⟨(some 2), (.mv (.tmp 7)), none⟩])
 .ret)))
def r71 : List RV := [.tmp 2]
theorem ok71 : FnOk Tryd.prog 71 8 c71 r71 := ⟨[25, 24], _, _, Tryd.func71, rfl, rfl, by kernel_rfl, by kernel_rfl, by kernel_rfl⟩
/-- vouch/vouchref05.Check -/
def c75 : C := (.seq (.reg [⟨(some 2), (.mv (.const (.int .i64 0))), none⟩])
 (.seq (.seq (.reg [⟨(some 6), (.mv (.tmp 0)), none⟩,
 ⟨(some 7), (.len true (.tmp 6)), none⟩,
 ⟨(some 8), (.bin .lss (.tmp 7) (.const (.int .i64 1))), none⟩,
 ⟨(some 9), (.mv (.tmp 8)), none⟩,
 ⟨(some 10), (.mv (.tmp 0)), (some (9, false))⟩,
 ⟨(some 11), (.len true (.tmp 10)), (some (9, false))⟩,
 ⟨(some 12), (.bin .gtr (.tmp 11) (.const (.int .i64 8))), (some (9, false))⟩,
 ⟨(some 13), (.pick (.tmp 9) (.const (.bool true)) (.tmp 12)), none⟩])
 (.cond (.tmp 13) (.seq (.reg [⟨(some 2), (.mv (.const (.int .i64 1))), none⟩])
 .ret)
 .skip))
 (.seq (.seq (.reg [⟨(some 3), (.mv (.const (.int .i64 0))), none⟩])
 (.block 0 (.loop (.seq (.seq (.reg [⟨(some 14), (.mv (.tmp 3)), none⟩,
 ⟨(some 15), (.mv (.tmp 0)), none⟩,
 ⟨(some 16), (.len true (.tmp 15)), none⟩,
 ⟨(some 17), (.bin .lss (.tmp 14) (.tmp 16)), none⟩])
 (.cond (.tmp 17) .skip
 (.exit 0)))
 (.seq (.block 1 (.seq (.reg [⟨(some 20), (.mv (.tmp 0)), none⟩,
 ⟨(some 21), (.mv (.tmp 3)), none⟩,
 ⟨(some 22), (.ia 3 (.tmp 20) (.tmp 21)), none⟩,
 ⟨(some 23), (.fa 0 (.tmp 22)), none⟩,
 ⟨(some 24), (.ld none (.tmp 23)), none⟩,
 ⟨(some 25), (.call 95 [(.tmp 24)]), none⟩,
 ⟨(some 26), (.nt (.tmp 25)), none⟩,
 ⟨(some 27), (.mv (.tmp 26)), none⟩,
 ⟨(some 28), (.mv (.tmp 0)), (some (27, false))⟩,
 ⟨(some 29), (.mv (.tmp 3)), (some (27, false))⟩,
 ⟨(some 30), (.ia 3 (.tmp 28) (.tmp 29)), (some (27, false))⟩,
 ⟨(some 31), (.fa 1 (.tmp 30)), (some (27, false))⟩,
 ⟨(some 32), (.ld (some 2) (.tmp 31)), (some (27, false))⟩,
 ⟨(some 33), (.call 96 [(.tmp 32)]), (some (27, false))⟩,
 ⟨(some 34), (.nt (.tmp 33)), (some (27, false))⟩,
 ⟨(some 35), (.pick (.tmp 27) (.const (.bool true)) (.tmp 34)), none⟩])
 (.cond (.tmp 35) (.seq (.reg [⟨(some 2), (.mv (.const (.int .i64 1))), none⟩])
 .ret)
 .skip)))
 (.reg [⟨(some 18), (.mv (.tmp 3)), none⟩,
 ⟨(some 19), (.bin .add (.tmp 18) (.const (.int .i64 1))), none⟩,
 ⟨(some 3), (.mv (.tmp 19)), none⟩]))))))
 (.seq (.seq (.reg [⟨(some 4), (.mv (.const (.int .i64 0))), none⟩])
 (.block 2 (.loop (.seq (.seq (.reg [⟨(some 36), (.mv (.tmp 4)), none⟩,
 ⟨(some 37), (.mv (.tmp 0)), none⟩,
 ⟨(some 38), (.len true (.tmp 37)), none⟩,
 ⟨(some 39), (.bin .lss (.tmp 36) (.tmp 38)), none⟩])
 (.cond (.tmp 39) .skip
 (.exit 2)))
 (.seq (.block 3 (.seq (.reg [⟨(some 5), (.mv (.const (.int .i64 0))), none⟩])
 (.block 4 (.loop (.seq (.seq (.reg [⟨(some 42), (.mv (.tmp 5)), none⟩,
 ⟨(some 43), (.mv (.tmp 4)), none⟩,
 ⟨(some 44), (.bin .lss (.tmp 42) (.tmp 43)), none⟩])
 (.cond (.tmp 44) .skip
 (.exit 4)))
 (.seq (.block 5 (.seq (.draw [⟨⟨(some 47), (.mv (.tmp 0)), none⟩, .p⟩,
 ⟨⟨(some 48), (.mv (.tmp 5)), none⟩, .p⟩,
 ⟨⟨(some 49), (.ia 3 (.tmp 47) (.tmp 48)), none⟩, .p⟩,
 ⟨⟨(some 50), (.fa 0 (.tmp 49)), none⟩, .p⟩,
 ⟨⟨(some 51), (.ld none (.tmp 50)), none⟩, .l⟩,
 ⟨⟨(some 52), (.mv (.tmp 0)), none⟩, .p⟩,
 ⟨⟨(some 53), (.mv (.tmp 4)), none⟩, .p⟩,
 ⟨⟨(some 54), (.ia 3 (.tmp 52) (.tmp 53)), none⟩, .p⟩,
 ⟨⟨(some 55), (.fa 0 (.tmp 54)), none⟩, .p⟩,
 ⟨⟨(some 56), (.ld none (.tmp 55)), none⟩, .l⟩,
 ⟨⟨(some 57), (.bin .eql (.tmp 51) (.tmp 56)), none⟩, .p⟩])
 (.cond (.tmp 57) (.seq (.reg [⟨(some 2), (.mv (.const (.int .i64 22))), none⟩])
 .ret)
 .skip)))
 (.reg [⟨(some 45), (.mv (.tmp 5)), none⟩,
 ⟨(some 46), (.bin .add (.tmp 45) (.const (.int .i64 1))), none⟩,
 ⟨(some 5), (.mv (.tmp 46)), none⟩])))))))
 (.reg [⟨(some 40), (.mv (.tmp 4)), none⟩,
 ⟨(some 41), (.bin .add (.tmp 40) (.const (.int .i64 1))), none⟩,
 ⟨(some 4), (.mv (.tmp 41)), none⟩]))))))
 (.seq (.reg [⟨(some 2), (.mv (.const (.int .i64 0))), none⟩])
 .ret)))))
def r75 : List RV := [.tmp 2]
theorem ok75 : FnOk Tryd.prog 75 58 c75 r75 := ⟨[25, 24], _, _, Tryd.func75, rfl, rfl, by kernel_rfl, by kernel_rfl, by kernel_rfl⟩
/-- (*vouch/vouchref16.Session).message -/
def c76 : C := (.seq (.reg [⟨(some 2), (.new 33 [.int .i64 (0), .int .i64 (0), .int .i64 (0), .int .i64 (0), .int .i64 (0), .int .i64 (0), .string ⟨#[]⟩, .int .i64 (0), .int .i64 (0), .bool false, .string ⟨#[]⟩, .bool false, .int .i64 (0), .int .i64 (0), .slice none 0 0, .slice none 0 0]), none⟩])
 (.seq (.draw [⟨⟨(some 3), (.mv (.tmp 0)), none⟩, .p⟩,
 ⟨⟨(some 4), (.nilc (.tmp 3)), none⟩, .p⟩,
 ⟨⟨(some 5), (.fa 0 (.tmp 4)), none⟩, .p⟩,
 ⟨⟨(some 6), (.ld none (.tmp 5)), none⟩, .l⟩,
 ⟨⟨(some 7), (.mv (.tmp 0)), none⟩, .p⟩,
 ⟨⟨(some 8), (.nilc (.tmp 7)), none⟩, .p⟩,
 ⟨⟨(some 9), (.fa 1 (.tmp 8)), none⟩, .p⟩,
 ⟨⟨(some 10), (.fa 2 (.tmp 9)), none⟩, .p⟩,
 ⟨⟨(some 11), (.ld none (.tmp 10)), none⟩, .l⟩,
 ⟨⟨(some 12), (.lit 37 0 3 [] []), none⟩, .f⟩,
 ⟨⟨(some 13), (.mv (.tmp 0)), none⟩, .p⟩,
 ⟨⟨(some 14), (.nilc (.tmp 13)), none⟩, .p⟩,
 ⟨⟨(some 15), (.fa 7 (.tmp 14)), none⟩, .p⟩,
 ⟨⟨(some 16), (.ld none (.tmp 15)), none⟩, .l⟩,
 ⟨⟨(some 17), (.app 37 3 40 (.tmp 12) (.tmp 16)), none⟩, .w⟩,
 ⟨⟨(some 18), (.bld [.int .i64 (0), .int .i64 (0), .int .i64 (0), .int .i64 (0), .int .i64 (0), .int .i64 (0), .string ⟨#[]⟩, .int .i64 (0), .int .i64 (0), .bool false, .string ⟨#[]⟩, .bool false, .int .i64 (0), .int .i64 (0), .slice none 0 0, .slice none 0 0] [(0, 1, (.const (.int .i64 1))), (3, 1, (.tmp 6)), (5, 1, (.tmp 11)), (14, 1, (.tmp 17))]), none⟩, .p⟩,
 ⟨⟨none, (.st 16 (.tmp 2) (.tmp 18)), none⟩, .m⟩])
 .ret))
def r76 : List RV := [.agg 2 16]
theorem ok76 : FnOk Tryd.prog 76 19 c76 r76 := ⟨[25, 24], _, _, Tryd.func76, rfl, rfl, by kernel_rfl, by kernel_rfl, by kernel_rfl⟩
/-- vouch/vouchref05.SameTexts -/
def c77 : C := (.seq (.reg [⟨(some 4), (.mv (.const (.bool false))), none⟩])
 (.seq (.seq (.reg [⟨(some 6), (.mv (.tmp 0)), none⟩,
 ⟨(some 7), (.len true (.tmp 6)), none⟩,
 ⟨(some 8), (.mv (.tmp 1)), none⟩,
 ⟨(some 9), (.len true (.tmp 8)), none⟩,
 ⟨(some 10), (.bin .neq (.tmp 7) (.tmp 9)), none⟩])
 (.cond (.tmp 10) (.seq (.reg [⟨(some 4), (.mv (.const (.bool false))), none⟩])
 .ret)
 .skip))
 (.seq (.seq (.reg [⟨(some 5), (.mv (.const (.int .i64 0))), none⟩])
 (.block 0 (.loop (.seq (.seq (.reg [⟨(some 11), (.mv (.tmp 5)), none⟩,
 ⟨(some 12), (.mv (.tmp 0)), none⟩,
 ⟨(some 13), (.len true (.tmp 12)), none⟩,
 ⟨(some 14), (.bin .lss (.tmp 11) (.tmp 13)), none⟩])
 (.cond (.tmp 14) .skip
 (.exit 0)))
 (.seq (.block 1 (.seq (.draw [⟨⟨(some 17), (.mv (.tmp 0)), none⟩, .p⟩,
 ⟨⟨(some 18), (.mv (.tmp 5)), none⟩, .p⟩,
 ⟨⟨(some 19), (.ia 1 (.tmp 17) (.tmp 18)), none⟩, .p⟩,
 ⟨⟨(some 20), (.ld none (.tmp 19)), none⟩, .l⟩,
 ⟨⟨(some 21), (.mv (.tmp 1)), none⟩, .p⟩,
 ⟨⟨(some 22), (.mv (.tmp 5)), none⟩, .p⟩,
 ⟨⟨(some 23), (.ia 1 (.tmp 21) (.tmp 22)), none⟩, .p⟩,
 ⟨⟨(some 24), (.ld none (.tmp 23)), none⟩, .l⟩,
 ⟨⟨(some 25), (.bin .neq (.tmp 20) (.tmp 24)), none⟩, .p⟩])
 (.cond (.tmp 25) (.seq (.reg [⟨(some 4), (.mv (.const (.bool false))), none⟩])
 .ret)
 .skip)))
 (.reg [⟨(some 15), (.mv (.tmp 5)), none⟩,
 ⟨(some 16), (.bin .add (.tmp 15) (.const (.int .i64 1))), none⟩,
 ⟨(some 5), (.mv (.tmp 16)), none⟩]))))))
 (.seq (.reg [⟨(some 4), (.mv (.const (.bool true))), none⟩])
 .ret))))
def r77 : List RV := [.tmp 4]
theorem ok77 : FnOk Tryd.prog 77 26 c77 r77 := ⟨[25, 24], _, _, Tryd.func77, rfl, rfl, by kernel_rfl, by kernel_rfl, by kernel_rfl⟩
/-- vouch/store.goodWrite -/
def c85 : C := (.seq (.reg [⟨(some 1), (.box 37 (.tmp 0)), none⟩,
 ⟨(some 2), (.mv (.const (.bool false))), none⟩])
 (.seq (.reg [⟨(some 3), (.fa 0 (.tmp 1)), none⟩,
 ⟨(some 4), (.ld none (.tmp 3)), none⟩,
 ⟨(some 5), (.call 100 [(.tmp 4)]), none⟩,
 ⟨(some 6), (.mv (.tmp 5)), none⟩,
 ⟨(some 7), (.fa 1 (.tmp 1)), (some (6, true))⟩,
 ⟨(some 8), (.fa 1 (.tmp 7)), (some (6, true))⟩,
 ⟨(some 9), (.ld none (.tmp 8)), (some (6, true))⟩,
 ⟨(some 10), (.len false (.tmp 9)), (some (6, true))⟩,
 ⟨(some 11), (.bin .leq (.tmp 10) (.const (.int .i64 256))), (some (6, true))⟩,
 ⟨(some 12), (.pick (.tmp 6) (.tmp 11) (.const (.bool false))), none⟩,
 ⟨(some 13), (.mv (.tmp 12)), none⟩,
 ⟨(some 14), (.fa 1 (.tmp 1)), (some (13, true))⟩,
 ⟨(some 15), (.fa 0 (.tmp 14)), (some (13, true))⟩,
 ⟨(some 16), (.ld none (.tmp 15)), (some (13, true))⟩,
 ⟨(some 17), (.mv (.tmp 16)), (some (13, true))⟩,
 ⟨(some 18), (.fa 1 (.tmp 1)), (some (17, false))⟩,
 ⟨(some 19), (.fa 1 (.tmp 18)), (some (17, false))⟩,
 ⟨(some 20), (.ld none (.tmp 19)), (some (17, false))⟩,
 ⟨(some 21), (.bin .eql (.tmp 20) (.const (.string { data := #[] }))), (some (17, false))⟩,
 ⟨(some 22), (.pick (.tmp 17) (.const (.bool true)) (.tmp 21)), (some (13, true))⟩,
 ⟨(some 23), (.pick (.tmp 13) (.tmp 22) (.const (.bool false))), none⟩,
 ⟨(some 2), (.mv (.tmp 23)), none⟩])
 .ret))
def r85 : List RV := [.tmp 2]
theorem ok85 : FnOk Tryd.prog 85 24 c85 r85 := ⟨[25, 24], _, _, Tryd.func85, rfl, rfl, by kernel_rfl, by kernel_rfl, by kernel_rfl⟩
/-- vouch/vouchref05.GoodKey -/
def c95 : C := (.seq (.reg [⟨(some 2), (.mv (.const (.bool false))), none⟩])
 (.seq (.reg [⟨(some 3), (.mv (.tmp 0)), none⟩,
 ⟨(some 4), (.bin .neq (.tmp 3) (.const (.string { data := #[] }))), none⟩,
 ⟨(some 5), (.mv (.tmp 4)), none⟩,
 ⟨(some 6), (.mv (.tmp 0)), (some (5, true))⟩,
 ⟨(some 7), (.len false (.tmp 6)), (some (5, true))⟩,
 ⟨(some 8), (.bin .leq (.tmp 7) (.const (.int .i64 32))), (some (5, true))⟩,
 ⟨(some 9), (.pick (.tmp 5) (.tmp 8) (.const (.bool false))), none⟩,
 ⟨(some 2), (.mv (.tmp 9)), none⟩])
 .ret))
def r95 : List RV := [.tmp 2]
theorem ok95 : FnOk Tryd.prog 95 10 c95 r95 := ⟨[25, 24], _, _, Tryd.func95, rfl, rfl, by kernel_rfl, by kernel_rfl, by kernel_rfl⟩
/-- vouch/vouchref05.GoodValue -/
def c96 : C := (.seq (.reg [⟨(some 1), (.box 28 (.tmp 0)), none⟩,
 ⟨(some 2), (.mv (.const (.bool false))), none⟩])
 (.seq (.seq (.reg [⟨(some 3), (.fa 0 (.tmp 1)), none⟩,
 ⟨(some 4), (.ld none (.tmp 3)), none⟩,
 ⟨(some 5), (.nt (.tmp 4)), none⟩])
 (.cond (.tmp 5) (.seq (.reg [⟨(some 6), (.fa 1 (.tmp 1)), none⟩,
 ⟨(some 7), (.ld none (.tmp 6)), none⟩,
 ⟨(some 8), (.bin .eql (.tmp 7) (.const (.string { data := #[] }))), none⟩,
 ⟨(some 2), (.mv (.tmp 8)), none⟩])
 .ret)
 .skip))
 (.seq (.reg [⟨(some 9), (.fa 1 (.tmp 1)), none⟩,
 ⟨(some 10), (.ld none (.tmp 9)), none⟩,
 ⟨(some 11), (.len false (.tmp 10)), none⟩,
 ⟨(some 12), (.bin .leq (.tmp 11) (.const (.int .i64 256))), none⟩,
 ⟨(some 2), (.mv (.tmp 12)), none⟩])
 .ret)))
def r96 : List RV := [.tmp 2]
theorem ok96 : FnOk Tryd.prog 96 13 c96 r96 := ⟨[25, 24], _, _, Tryd.func96, rfl, rfl, by kernel_rfl, by kernel_rfl, by kernel_rfl⟩
/-- vouch/store.goodKey -/
def c100 : C := (.seq (.reg [⟨(some 2), (.mv (.const (.bool false))), none⟩])
 (.seq (.reg [⟨(some 3), (.mv (.tmp 0)), none⟩,
 ⟨(some 4), (.len false (.tmp 3)), none⟩,
 ⟨(some 5), (.bin .geq (.tmp 4) (.const (.int .i64 1))), none⟩,
 ⟨(some 6), (.mv (.tmp 5)), none⟩,
 ⟨(some 7), (.mv (.tmp 0)), (some (6, true))⟩,
 ⟨(some 8), (.len false (.tmp 7)), (some (6, true))⟩,
 ⟨(some 9), (.bin .leq (.tmp 8) (.const (.int .i64 32))), (some (6, true))⟩,
 ⟨(some 10), (.pick (.tmp 6) (.tmp 9) (.const (.bool false))), none⟩,
 ⟨(some 2), (.mv (.tmp 10)), none⟩])
 .ret))
def r100 : List RV := [.tmp 2]
theorem ok100 : FnOk Tryd.prog 100 11 c100 r100 := ⟨[25, 24], _, _, Tryd.func100, rfl, rfl, by kernel_rfl, by kernel_rfl, by kernel_rfl⟩
end Go.Proofs.YtaoafjlocjjbbaaDoor
