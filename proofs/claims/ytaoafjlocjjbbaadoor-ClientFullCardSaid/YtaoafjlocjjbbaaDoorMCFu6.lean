/- Texts of mine, part 6 of 6, laid together: The texts of functions, compiled. No client, and numbers that there aren't. Just so many sessions and transactions as there may be. What the row's list of variables gives. No condition. -/
import Derived.Test.YtaoafjlocjjbbaaDoorMCFu5
import Derived.Test.YtaoafjlocjjbbaaDoorProg
import Derived.KernelRfl
import Derived.Test.YtaoafjlocjjbbaaDoorRows
import Derived.Lib.LaidTab
import Derived.Stop.LaidErr
-- T10
namespace Go.Proofs.YtaoafjlocjjbbaaDoor
open Go.Sp
set_option maxRecDepth 100000
/-- vouch/vouchlaw18.ClientFull -/
def c10 : C := (.seq (.reg [⟨(some 4), (.mv (.const (.bool false))), none⟩])
 (.seq (.seq (.reg [⟨(some 14), (.call 29 []), none⟩,
 ⟨(some 15), (.nt (.tmp 14)), none⟩])
 (.cond (.tmp 15) (.seq (.reg [⟨(some 4), (.mv (.const (.bool false))), none⟩])
 .ret)
 .skip))
 (.seq (.reg [⟨(some 16), (.bld [.int .i64 (0), .int .i64 (0), .int .i64 (0), .int .i64 (0), .int .i64 (0), .int .i64 (0), .int .i64 (0), .int .i64 (0)] []), none⟩,
 ⟨(some 17), (.call 30 [(.tmp 16)]), none⟩,
 ⟨(some 5), (.mv (.tmp 17)), none⟩])
 (.seq (.seq (.reg [⟨(some 6), (.mv (.const (.int .i64 0))), none⟩])
 (.block 0 (.loop (.seq (.seq (.reg [⟨(some 18), (.mv (.tmp 6)), none⟩,
 ⟨(some 19), (.mv (.tmp 0)), none⟩,
 ⟨(some 20), (.bin .rem (.tmp 19) (.const (.int .u16 100))), none⟩,
 ⟨(some 21), (.conv .i64 (.tmp 20)), none⟩,
 ⟨(some 22), (.bin .lss (.tmp 18) (.tmp 21)), none⟩])
 (.cond (.tmp 22) .skip
 (.exit 0)))
 (.seq (.block 1 (.seq (.reg [⟨(some 26), (.mv (.tmp 5)), none⟩,
 ⟨(some 27), (.call 31 [(.tmp 26)]), none⟩,
 ⟨(some 25), (.mv (.tmp 27)), none⟩,
 ⟨(some 28), (.ext 0 (.tmp 25)), none⟩,
 ⟨(some 29), (.ext 1 (.tmp 25)), none⟩,
 ⟨(some 7), (.mv (.tmp 28)), none⟩,
 ⟨(some 8), (.mv (.tmp 29)), none⟩])
 (.seq (.reg [⟨(some 30), (.mv (.tmp 6)), none⟩,
 ⟨(some 31), (.bin .lss (.tmp 30) (.const (.int .i64 64))), none⟩,
 ⟨(some 32), (.mv (.tmp 31)), none⟩,
 ⟨(some 33), (.mv (.tmp 7)), (some (32, true))⟩,
 ⟨(some 34), (.mv (.tmp 6)), (some (32, true))⟩,
 ⟨(some 35), (.bin .neq (.tmp 33) (.tmp 34)), (some (32, true))⟩,
 ⟨(some 36), (.mv (.tmp 35)), (some (32, true))⟩,
 ⟨(some 37), (.mv (.tmp 8)), (some (36, false))⟩,
 ⟨(some 38), (.bin .neq (.tmp 37) (.const (.int .i64 0))), (some (36, false))⟩,
 ⟨(some 39), (.pick (.tmp 36) (.const (.bool true)) (.tmp 38)), (some (32, true))⟩,
 ⟨(some 40), (.pick (.tmp 32) (.tmp 39) (.const (.bool false))), none⟩,
 ⟨(some 41), (.mv (.tmp 40)), none⟩,
 ⟨(some 42), (.mv (.tmp 6)), (some (41, false))⟩,
 ⟨(some 43), (.bin .geq (.tmp 42) (.const (.int .i64 64))), (some (41, false))⟩,
 ⟨(some 44), (.mv (.tmp 43)), (some (41, false))⟩,
 ⟨(some 45), (.mv (.tmp 7)), (some (44, true))⟩,
 ⟨(some 46), (.bin .neq (.tmp 45) (.const (.int .i64 0))), (some (44, true))⟩,
 ⟨(some 47), (.mv (.tmp 46)), (some (44, true))⟩,
 ⟨(some 48), (.mv (.tmp 8)), (some (47, false))⟩,
 ⟨(some 49), (.bin .neq (.tmp 48) (.const (.int .i64 2))), (some (47, false))⟩,
 ⟨(some 50), (.pick (.tmp 47) (.const (.bool true)) (.tmp 49)), (some (44, true))⟩,
 ⟨(some 51), (.pick (.tmp 44) (.tmp 50) (.const (.bool false))), (some (41, false))⟩,
 ⟨(some 52), (.pick (.tmp 41) (.const (.bool true)) (.tmp 51)), none⟩])
 (.cond (.tmp 52) (.seq (.reg [⟨(some 4), (.mv (.const (.bool false))), none⟩])
 .ret)
 .skip))))
 (.reg [⟨(some 23), (.mv (.tmp 6)), none⟩,
 ⟨(some 24), (.bin .add (.tmp 23) (.const (.int .i64 1))), none⟩,
 ⟨(some 6), (.mv (.tmp 24)), none⟩]))))))
 (.seq (.seq (.reg [⟨(some 53), (.mv (.tmp 0)), none⟩,
 ⟨(some 54), (.bin .rem (.tmp 53) (.const (.int .u16 100))), none⟩,
 ⟨(some 55), (.bin .eql (.tmp 54) (.const (.int .u16 0))), none⟩])
 (.cond (.tmp 55) (.seq (.reg [⟨(some 57), (.mv (.tmp 5)), none⟩,
 ⟨(some 58), (.call 32 [(.tmp 57), (.const (.int .i64 0))]), none⟩,
 ⟨(some 56), (.mv (.tmp 58)), none⟩,
 ⟨(some 59), (.ext 0 (.tmp 56)), none⟩,
 ⟨(some 60), (.ext 1 (.tmp 56)), none⟩,
 ⟨(some 9), (.mv (.tmp 59)), none⟩,
 ⟨(some 10), (.mv (.tmp 60)), none⟩])
 (.seq (.reg [⟨(some 61), (.mv (.tmp 10)), none⟩,
 ⟨(some 62), (.bin .eql (.tmp 61) (.const (.int .i64 3))), none⟩,
 ⟨(some 4), (.mv (.tmp 62)), none⟩])
 .ret))
 .skip))
 (.seq (.seq (.reg [⟨(some 11), (.mv (.const (.int .i64 0))), none⟩])
 (.block 2 (.loop (.seq (.seq (.reg [⟨(some 63), (.mv (.tmp 11)), none⟩,
 ⟨(some 64), (.mv (.tmp 1)), none⟩,
 ⟨(some 65), (.bin .rem (.tmp 64) (.const (.int .u16 300))), none⟩,
 ⟨(some 66), (.conv .i64 (.tmp 65)), none⟩,
 ⟨(some 67), (.bin .lss (.tmp 63) (.tmp 66)), none⟩])
 (.cond (.tmp 67) .skip
 (.exit 2)))
 (.seq (.block 3 (.seq (.reg [⟨(some 71), (.mv (.tmp 5)), none⟩,
 ⟨(some 72), (.mv (.tmp 11)), none⟩,
 ⟨(some 73), (.mv (.tmp 0)), none⟩,
 ⟨(some 74), (.bin .rem (.tmp 73) (.const (.int .u16 100))), none⟩,
 ⟨(some 75), (.conv .i64 (.tmp 74)), none⟩,
 ⟨(some 76), (.mx false (.tmp 75) (.const (.int .i64 64))), none⟩,
 ⟨(some 77), (.bin .rem (.tmp 72) (.tmp 76)), none⟩,
 ⟨(some 78), (.call 32 [(.tmp 71), (.tmp 77)]), none⟩,
 ⟨(some 70), (.mv (.tmp 78)), none⟩,
 ⟨(some 79), (.ext 0 (.tmp 70)), none⟩,
 ⟨(some 80), (.ext 1 (.tmp 70)), none⟩,
 ⟨(some 12), (.mv (.tmp 79)), none⟩,
 ⟨(some 13), (.mv (.tmp 80)), none⟩])
 (.seq (.reg [⟨(some 81), (.mv (.tmp 11)), none⟩,
 ⟨(some 82), (.bin .lss (.tmp 81) (.const (.int .i64 256))), none⟩,
 ⟨(some 83), (.mv (.tmp 82)), none⟩,
 ⟨(some 84), (.mv (.tmp 12)), (some (83, true))⟩,
 ⟨(some 85), (.mv (.tmp 11)), (some (83, true))⟩,
 ⟨(some 86), (.bin .neq (.tmp 84) (.tmp 85)), (some (83, true))⟩,
 ⟨(some 87), (.mv (.tmp 86)), (some (83, true))⟩,
 ⟨(some 88), (.mv (.tmp 13)), (some (87, false))⟩,
 ⟨(some 89), (.bin .neq (.tmp 88) (.const (.int .i64 0))), (some (87, false))⟩,
 ⟨(some 90), (.pick (.tmp 87) (.const (.bool true)) (.tmp 89)), (some (83, true))⟩,
 ⟨(some 91), (.pick (.tmp 83) (.tmp 90) (.const (.bool false))), none⟩,
 ⟨(some 92), (.mv (.tmp 91)), none⟩,
 ⟨(some 93), (.mv (.tmp 11)), (some (92, false))⟩,
 ⟨(some 94), (.bin .geq (.tmp 93) (.const (.int .i64 256))), (some (92, false))⟩,
 ⟨(some 95), (.mv (.tmp 94)), (some (92, false))⟩,
 ⟨(some 96), (.mv (.tmp 12)), (some (95, true))⟩,
 ⟨(some 97), (.bin .neq (.tmp 96) (.const (.int .i64 0))), (some (95, true))⟩,
 ⟨(some 98), (.mv (.tmp 97)), (some (95, true))⟩,
 ⟨(some 99), (.mv (.tmp 13)), (some (98, false))⟩,
 ⟨(some 100), (.bin .neq (.tmp 99) (.const (.int .i64 2))), (some (98, false))⟩,
 ⟨(some 101), (.pick (.tmp 98) (.const (.bool true)) (.tmp 100)), (some (95, true))⟩,
 ⟨(some 102), (.pick (.tmp 95) (.tmp 101) (.const (.bool false))), (some (92, false))⟩,
 ⟨(some 103), (.pick (.tmp 92) (.const (.bool true)) (.tmp 102)), none⟩])
 (.cond (.tmp 103) (.seq (.reg [⟨(some 4), (.mv (.const (.bool false))), none⟩])
 .ret)
 .skip))))
 (.reg [⟨(some 68), (.mv (.tmp 11)), none⟩,
 ⟨(some 69), (.bin .add (.tmp 68) (.const (.int .i64 1))), none⟩,
 ⟨(some 11), (.mv (.tmp 69)), none⟩]))))))
 (.seq (.reg [⟨(some 4), (.mv (.const (.bool true))), none⟩])
 .ret)))))))
def r10 : List RV := [.tmp 4]
theorem ok10 : FnOk Tryd.prog 10 104 c10 r10 := ⟨[25, 24], _, _, Tryd.func10, rfl, rfl, by kernel_rfl, by kernel_rfl, by kernel_rfl⟩
def c11_br21 : C := (.reg [⟨(some 21), (.mv (.const (.int .i64 0))), none⟩])
def c11_tr21 : C := (.block 5 (.loop (.seq (.seq (.reg [⟨(some 145), (.mv (.tmp 21)), none⟩,
 ⟨(some 146), (.bin .lss (.tmp 145) (.const (.int .i64 3))), none⟩])
 (.cond (.tmp 146) .skip
 (.exit 5)))
 (.seq (.block 6 (.seq (.reg [⟨(some 150), (.mv (.tmp 5)), none⟩,
 ⟨(some 151), (.mv (.tmp 21)), none⟩,
 ⟨(some 152), (.call 37 [(.tmp 150), (.tmp 151)]), none⟩,
 ⟨(some 149), (.mv (.tmp 152)), none⟩,
 ⟨(some 153), (.ext 0 (.tmp 149)), none⟩,
 ⟨(some 154), (.ext 1 (.tmp 149)), none⟩,
 ⟨(some 22), (.new 41 [.int .i64 (0), .bool false, .int .i64 (0), .int .i64 (0), .int .i64 (0), .int .i64 (0)]), none⟩,
 ⟨none, (.st 6 (.tmp 22) (.tmp 153)), none⟩,
 ⟨(some 23), (.mv (.tmp 154)), none⟩])
 (.seq (.draw [⟨⟨(some 155), (.fa 0 (.tmp 22)), none⟩, .p⟩,
 ⟨⟨(some 156), (.ld none (.tmp 155)), none⟩, .l⟩,
 ⟨⟨(some 157), (.mv (.tmp 21)), none⟩, .p⟩,
 ⟨⟨(some 158), (.fnl (.aix 3 1) [(.tmp 7), (.tmp 157)]), none⟩, .p⟩,
 ⟨⟨(some 159), (.ld none (.tmp 158)), none⟩, .l⟩,
 ⟨⟨(some 160), (.bin .neq (.tmp 156) (.tmp 159)), none⟩, .p⟩])
 (.cond (.tmp 160) (.seq (.reg [⟨(some 4), (.mv (.const (.bool false))), none⟩])
 .ret)
 .skip))))
 (.reg [⟨(some 147), (.mv (.tmp 21)), none⟩,
 ⟨(some 148), (.bin .add (.tmp 147) (.const (.int .i64 1))), none⟩,
 ⟨(some 21), (.mv (.tmp 148)), none⟩])))))
def c11_sr21 : C := .seq c11_br21 c11_tr21
/-- vouch/vouchlaw18.ClientFloors -/
def c11 : C := (.seq (.reg [⟨(some 4), (.mv (.const (.bool false))), none⟩])
 (.seq (.seq (.reg [⟨(some 24), (.call 29 []), none⟩,
 ⟨(some 25), (.nt (.tmp 24)), none⟩])
 (.cond (.tmp 25) (.seq (.reg [⟨(some 4), (.mv (.const (.bool false))), none⟩])
 .ret)
 .skip))
 (.seq (.reg [⟨(some 26), (.bld [.int .i64 (0), .int .i64 (0), .int .i64 (0), .int .i64 (0), .int .i64 (0), .int .i64 (0), .int .i64 (0), .int .i64 (0)] [(0, 1, (.const (.int .i64 1)))]), none⟩,
 ⟨(some 27), (.call 30 [(.tmp 26)]), none⟩,
 ⟨(some 5), (.mv (.tmp 27)), none⟩])
 (.seq (.seq (.reg [⟨(some 6), (.mv (.const (.int .i64 0))), none⟩])
 (.block 0 (.loop (.seq (.seq (.reg [⟨(some 28), (.mv (.tmp 6)), none⟩,
 ⟨(some 29), (.bin .lss (.tmp 28) (.const (.int .i64 3))), none⟩])
 (.cond (.tmp 29) .skip
 (.exit 0)))
 (.seq (.block 1 (.reg [⟨(some 32), (.mv (.tmp 5)), none⟩,
 ⟨(some 33), (.call 31 [(.tmp 32)]), none⟩]))
 (.reg [⟨(some 30), (.mv (.tmp 6)), none⟩,
 ⟨(some 31), (.bin .add (.tmp 30) (.const (.int .i64 1))), none⟩,
 ⟨(some 6), (.mv (.tmp 31)), none⟩]))))))
 (.seq (.reg [⟨(some 34), (.bld [.int .i64 (0), .int .i64 (0), .int .i64 (0)] []), none⟩,
 ⟨(some 7), (.new 79 [.int .i64 (0), .int .i64 (0), .int .i64 (0)]), none⟩,
 ⟨none, (.st 3 (.tmp 7) (.tmp 34)), none⟩])
 (.seq (.seq (.reg [⟨(some 8), (.mv (.const (.int .i64 0))), none⟩])
 (.block 2 (.loop (.seq (.seq (.reg [⟨(some 35), (.mv (.tmp 8)), none⟩,
 ⟨(some 36), (.mv (.tmp 0)), none⟩,
 ⟨(some 37), (.len true (.tmp 36)), none⟩,
 ⟨(some 38), (.bin .lss (.tmp 35) (.tmp 37)), none⟩,
 ⟨(some 39), (.mv (.tmp 38)), none⟩,
 ⟨(some 40), (.mv (.tmp 8)), (some (39, true))⟩,
 ⟨(some 41), (.bin .lss (.tmp 40) (.const (.int .i64 200))), (some (39, true))⟩,
 ⟨(some 42), (.pick (.tmp 39) (.tmp 41) (.const (.bool false))), none⟩])
 (.cond (.tmp 42) .skip
 (.exit 2)))
 (.seq (.block 3 (.seq (.reg [⟨(some 45), (.mv (.tmp 8)), none⟩,
 ⟨(some 46), (.bin .rem (.tmp 45) (.const (.int .i64 3))), none⟩,
 ⟨(some 9), (.mv (.tmp 46)), none⟩])
 (.seq (.reg [⟨(some 48), (.mv (.tmp 5)), none⟩,
 ⟨(some 49), (.mv (.tmp 9)), none⟩,
 ⟨(some 50), (.call 32 [(.tmp 48), (.tmp 49)]), none⟩,
 ⟨(some 47), (.mv (.tmp 50)), none⟩,
 ⟨(some 51), (.ext 0 (.tmp 47)), none⟩,
 ⟨(some 52), (.ext 1 (.tmp 47)), none⟩,
 ⟨(some 10), (.mv (.tmp 51)), none⟩,
 ⟨(some 11), (.mv (.tmp 52)), none⟩])
 (.seq (.reg [⟨(some 54), (.mv (.tmp 5)), none⟩,
 ⟨(some 55), (.mv (.tmp 10)), none⟩,
 ⟨(some 56), (.call 33 [(.tmp 54), (.tmp 55)]), none⟩,
 ⟨(some 53), (.mv (.tmp 56)), none⟩,
 ⟨(some 57), (.ext 0 (.tmp 53)), none⟩,
 ⟨(some 58), (.ext 1 (.tmp 53)), none⟩,
 ⟨(some 12), (.new 82 [.int .i64 (0), .int .i64 (0), .int .i64 (0), .int .i64 (0), .string ⟨#[]⟩, .int .i64 (0), .int .i64 (0), .slice none 0 0]), none⟩,
 ⟨none, (.st 8 (.tmp 12) (.tmp 57)), none⟩,
 ⟨(some 13), (.mv (.tmp 58)), none⟩])
 (.seq (.seq (.draw [⟨⟨(some 59), (.mv (.tmp 11)), none⟩, .p⟩,
 ⟨⟨(some 60), (.bin .neq (.tmp 59) (.const (.int .i64 0))), none⟩, .p⟩,
 ⟨⟨(some 61), (.mv (.tmp 60)), none⟩, .p⟩,
 ⟨⟨(some 62), (.mv (.tmp 13)), (some (61, false))⟩, .p⟩,
 ⟨⟨(some 63), (.nt (.tmp 62)), (some (61, false))⟩, .p⟩,
 ⟨⟨(some 64), (.pick (.tmp 61) (.const (.bool true)) (.tmp 63)), none⟩, .p⟩,
 ⟨⟨(some 65), (.mv (.tmp 64)), none⟩, .p⟩,
 ⟨⟨(some 66), (.fa 2 (.tmp 12)), (some (65, false))⟩, .p⟩,
 ⟨⟨(some 67), (.fa 0 (.tmp 66)), (some (65, false))⟩, .p⟩,
 ⟨⟨(some 68), (.ld none (.tmp 67)), (some (65, false))⟩, .l⟩,
 ⟨⟨(some 69), (.mv (.tmp 9)), (some (65, false))⟩, .p⟩,
 ⟨⟨(some 70), (.fnl (.aix 3 1) [(.tmp 7), (.tmp 69)]), (some (65, false))⟩, .p⟩,
 ⟨⟨(some 71), (.ld none (.tmp 70)), (some (65, false))⟩, .l⟩,
 ⟨⟨(some 72), (.bin .neq (.tmp 68) (.tmp 71)), (some (65, false))⟩, .p⟩,
 ⟨⟨(some 73), (.pick (.tmp 65) (.const (.bool true)) (.tmp 72)), none⟩, .p⟩,
 ⟨⟨(some 74), (.mv (.tmp 73)), none⟩, .p⟩,
 ⟨⟨(some 75), (.fa 2 (.tmp 12)), (some (74, false))⟩, .p⟩,
 ⟨⟨(some 76), (.fa 1 (.tmp 75)), (some (74, false))⟩, .p⟩,
 ⟨⟨(some 77), (.ld none (.tmp 76)), (some (74, false))⟩, .l⟩,
 ⟨⟨(some 78), (.bin .neq (.tmp 77) (.const (.int .i64 4611686018427387904))), (some (74, false))⟩, .p⟩,
 ⟨⟨(some 79), (.pick (.tmp 74) (.const (.bool true)) (.tmp 78)), none⟩, .p⟩])
 (.cond (.tmp 79) (.seq (.reg [⟨(some 4), (.mv (.const (.bool false))), none⟩])
 .ret)
 .skip))
 (.seq (.seq (.reg [⟨(some 80), (.mv (.tmp 8)), none⟩,
 ⟨(some 81), (.mv (.tmp 1)), none⟩,
 ⟨(some 82), (.len true (.tmp 81)), none⟩,
 ⟨(some 83), (.bin .lss (.tmp 80) (.tmp 82)), none⟩])
 (.cond (.tmp 83) (.seq (.reg [⟨(some 85), (.mv (.tmp 5)), none⟩,
 ⟨(some 86), (.mv (.tmp 10)), none⟩,
 ⟨(some 87), (.call 34 [(.tmp 85), (.tmp 86), (.const (.string { data := #[107] }))]), none⟩,
 ⟨(some 84), (.mv (.tmp 87)), none⟩,
 ⟨(some 88), (.ext 0 (.tmp 84)), none⟩,
 ⟨(some 89), (.ext 1 (.tmp 84)), none⟩,
 ⟨(some 90), (.ext 2 (.tmp 84)), none⟩,
 ⟨(some 14), (.new 28 [.bool false, .string ⟨#[]⟩]), none⟩,
 ⟨(some 15), (.new 33 [.int .i64 (0), .int .i64 (0), .int .i64 (0), .int .i64 (0), .int .i64 (0), .int .i64 (0), .string ⟨#[]⟩, .int .i64 (0), .int .i64 (0), .bool false, .string ⟨#[]⟩, .bool false, .int .i64 (0), .int .i64 (0), .slice none 0 0, .slice none 0 0]), none⟩,
 ⟨none, (.st 2 (.tmp 14) (.tmp 88)), none⟩,
 ⟨none, (.st 16 (.tmp 15) (.tmp 89)), none⟩,
 ⟨(some 16), (.mv (.tmp 90)), none⟩])
 (.seq (.reg [⟨(some 91), (.mv (.tmp 0)), none⟩,
 ⟨(some 92), (.mv (.tmp 8)), none⟩,
 ⟨(some 93), (.ia 1 (.tmp 91) (.tmp 92)), none⟩,
 ⟨(some 94), (.ld none (.tmp 93)), none⟩,
 ⟨(some 95), (.conv .i64 (.tmp 94)), none⟩,
 ⟨(some 17), (.mv (.tmp 95)), none⟩])
 (.seq (.reg [⟨(some 96), (.mv (.tmp 17)), none⟩,
 ⟨(some 97), (.mv (.tmp 17)), none⟩,
 ⟨(some 98), (.bin .add (.tmp 97) (.const (.int .i64 1))), none⟩,
 ⟨(some 99), (.mv (.tmp 1)), none⟩,
 ⟨(some 100), (.mv (.tmp 8)), none⟩,
 ⟨(some 101), (.ia 1 (.tmp 99) (.tmp 100)), none⟩,
 ⟨(some 102), (.ld none (.tmp 101)), none⟩,
 ⟨(some 103), (.conv .i64 (.tmp 102)), none⟩,
 ⟨(some 104), (.bin .add (.tmp 98) (.tmp 103)), none⟩,
 ⟨(some 105), (.bld [.int .i64 (0), .int .i64 (0)] [(0, 1, (.tmp 96)), (1, 1, (.tmp 104))]), none⟩,
 ⟨(some 18), (.new 26 [.int .i64 (0), .int .i64 (0)]), none⟩,
 ⟨none, (.st 2 (.tmp 18) (.tmp 105)), none⟩])
 (.seq (.reg [⟨(some 106), (.mv (.tmp 5)), none⟩,
 ⟨(some 107), (.mv (.tmp 10)), none⟩,
 ⟨(some 108), (.fa 5 (.tmp 15)), none⟩,
 ⟨(some 109), (.ld none (.tmp 108)), none⟩,
 ⟨(some 110), (.ld (some 2) (.tmp 18)), none⟩,
 ⟨(some 111), (.bld [.int .i64 (0), .int .i64 (0), .int .i64 (0), .int .i64 (0), .int .i64 (0), .int .i64 (0), .string ⟨#[]⟩, .int .i64 (0), .int .i64 (0), .bool false, .string ⟨#[]⟩, .bool false, .int .i64 (0), .int .i64 (0), .slice none 0 0, .slice none 0 0] [(0, 1, (.const (.int .i64 4))), (4, 1, (.tmp 107)), (5, 1, (.tmp 109)), (11, 1, (.const (.bool true))), (7, 2, (.tmp 110))]), none⟩,
 ⟨(some 112), (.call 35 [(.tmp 106), (.tmp 111)]), none⟩])
 (.seq (.reg [⟨(some 114), (.mv (.tmp 5)), none⟩,
 ⟨(some 115), (.mv (.tmp 10)), none⟩,
 ⟨(some 116), (.call 36 [(.tmp 114), (.tmp 115)]), none⟩,
 ⟨(some 113), (.mv (.tmp 116)), none⟩,
 ⟨(some 117), (.ext 0 (.tmp 113)), none⟩,
 ⟨(some 118), (.ext 1 (.tmp 113)), none⟩,
 ⟨(some 19), (.mv (.tmp 117)), none⟩,
 ⟨(some 20), (.mv (.tmp 118)), none⟩])
 (.block 4 (.seq (.draw [⟨⟨(some 127), (.fa 1 (.tmp 18)), none⟩, .p⟩,
 ⟨⟨(some 128), (.ld none (.tmp 127)), none⟩, .l⟩,
 ⟨⟨(some 129), (.mv (.tmp 9)), none⟩, .p⟩,
 ⟨⟨(some 130), (.fnl (.aix 3 1) [(.tmp 7), (.tmp 129)]), none⟩, .p⟩,
 ⟨⟨(some 131), (.ld none (.tmp 130)), none⟩, .l⟩,
 ⟨⟨(some 132), (.bin .leq (.tmp 128) (.tmp 131)), none⟩, .p⟩,
 ⟨⟨(some 126), (.mv (.tmp 132)), none⟩, .p⟩])
 (.cond (.tmp 126) (.seq (.reg [⟨(some 133), (.mv (.tmp 20)), none⟩,
 ⟨(some 134), (.bin .neq (.tmp 133) (.const (.int .i64 31))), none⟩])
 (.cond (.tmp 134) (.seq (.reg [⟨(some 4), (.mv (.const (.bool false))), none⟩])
 .ret)
 .skip))
 (.seq (.reg [⟨(some 136), (.mv (.tmp 20)), none⟩,
 ⟨(some 137), (.bin .neq (.tmp 136) (.const (.int .i64 0))), none⟩,
 ⟨(some 138), (.mv (.tmp 137)), none⟩,
 ⟨(some 139), (.mv (.tmp 19)), (some (138, false))⟩,
 ⟨(some 140), (.fa 1 (.tmp 18)), (some (138, false))⟩,
 ⟨(some 141), (.ld none (.tmp 140)), (some (138, false))⟩,
 ⟨(some 142), (.bin .sub (.tmp 141) (.const (.int .i64 1))), (some (138, false))⟩,
 ⟨(some 143), (.bin .neq (.tmp 139) (.tmp 142)), (some (138, false))⟩,
 ⟨(some 144), (.pick (.tmp 138) (.const (.bool true)) (.tmp 143)), none⟩,
 ⟨(some 135), (.mv (.tmp 144)), none⟩])
 (.cond (.tmp 135) (.seq (.reg [⟨(some 4), (.mv (.const (.bool false))), none⟩])
 .ret)
 (.reg [⟨(some 119), (.mv (.tmp 9)), none⟩,
 ⟨(some 120), (.mv (.tmp 9)), none⟩,
 ⟨(some 121), (.fnl (.aix 3 1) [(.tmp 7), (.tmp 120)]), none⟩,
 ⟨(some 122), (.ld none (.tmp 121)), none⟩,
 ⟨(some 123), (.mv (.tmp 19)), none⟩,
 ⟨(some 124), (.mx true (.tmp 122) (.tmp 123)), none⟩,
 ⟨(some 125), (.fnl (.aix 3 1) [(.tmp 7), (.tmp 119)]), none⟩,
 ⟨none, (.st 1 (.tmp 125) (.tmp 124)), none⟩])))))))))))
 .skip))
 c11_sr21))))))
 (.reg [⟨(some 43), (.mv (.tmp 8)), none⟩,
 ⟨(some 44), (.bin .add (.tmp 43) (.const (.int .i64 1))), none⟩,
 ⟨(some 8), (.mv (.tmp 44)), none⟩]))))))
 (.seq (.reg [⟨(some 4), (.mv (.const (.bool true))), none⟩])
 .ret)))))))
def r11 : List RV := [.tmp 4]
theorem ok11 : FnOk Tryd.prog 11 161 c11 r11 := ⟨[25, 24], _, _, Tryd.func11, rfl, rfl, by kernel_rfl, by kernel_rfl, by kernel_rfl⟩
/-- vouch/vouchlaw18.ClientNone -/
def c12 : C := (.seq (.reg [⟨(some 1), (.box 94 (.tmp 0)), none⟩,
 ⟨(some 2), (.mv (.const (.bool false))), none⟩])
 (.seq (.seq (.reg [⟨(some 29), (.call 29 []), none⟩,
 ⟨(some 30), (.nt (.tmp 29)), none⟩])
 (.cond (.tmp 30) (.seq (.reg [⟨(some 2), (.mv (.const (.bool false))), none⟩])
 .ret)
 .skip))
 (.seq (.reg [⟨(some 3), (.mv (.const (.pointer none))), none⟩])
 (.seq (.seq (.reg [⟨(some 4), (.mv (.const (.int .i64 0))), none⟩])
 (.block 0 (.loop (.seq (.seq (.reg [⟨(some 31), (.mv (.tmp 4)), none⟩,
 ⟨(some 32), (.bin .lss (.tmp 31) (.const (.int .i64 2))), none⟩])
 (.cond (.tmp 32) .skip
 (.exit 0)))
 (.seq (.block 1 (.seq (.reg [⟨(some 35), (.mv (.tmp 3)), none⟩,
 ⟨(some 5), (.mv (.tmp 35)), none⟩])
 (.seq (.seq (.reg [⟨(some 36), (.mv (.tmp 4)), none⟩,
 ⟨(some 37), (.bin .eql (.tmp 36) (.const (.int .i64 1))), none⟩])
 (.cond (.tmp 37) (.reg [⟨(some 38), (.bld [.int .i64 (0), .int .i64 (0), .int .i64 (0), .int .i64 (0), .int .i64 (0), .int .i64 (0), .int .i64 (0), .int .i64 (0)] []), none⟩,
 ⟨(some 39), (.call 30 [(.tmp 38)]), none⟩,
 ⟨(some 5), (.mv (.tmp 39)), none⟩])
 (.seq (.reg [⟨(some 41), (.mv (.tmp 5)), none⟩,
 ⟨(some 42), (.call 31 [(.tmp 41)]), none⟩,
 ⟨(some 40), (.mv (.tmp 42)), none⟩,
 ⟨(some 43), (.ext 0 (.tmp 40)), none⟩,
 ⟨(some 44), (.ext 1 (.tmp 40)), none⟩,
 ⟨(some 6), (.mv (.tmp 43)), none⟩,
 ⟨(some 7), (.mv (.tmp 44)), none⟩])
 (.seq (.reg [⟨(some 45), (.mv (.tmp 6)), none⟩,
 ⟨(some 46), (.bin .neq (.tmp 45) (.const (.int .i64 0))), none⟩,
 ⟨(some 47), (.mv (.tmp 46)), none⟩,
 ⟨(some 48), (.mv (.tmp 7)), (some (47, false))⟩,
 ⟨(some 49), (.bin .neq (.tmp 48) (.const (.int .i64 3))), (some (47, false))⟩,
 ⟨(some 50), (.pick (.tmp 47) (.const (.bool true)) (.tmp 49)), none⟩,
 ⟨(some 51), (.mv (.tmp 50)), none⟩,
 ⟨(some 52), (.mv (.tmp 5)), (some (51, false))⟩,
 ⟨(some 53), (.call 38 [(.tmp 52)]), (some (51, false))⟩,
 ⟨(some 54), (.eqs true .ptr (.tmp 53) (.const (.pointer none))), (some (51, false))⟩,
 ⟨(some 55), (.pick (.tmp 51) (.const (.bool true)) (.tmp 54)), none⟩])
 (.cond (.tmp 55) (.seq (.reg [⟨(some 2), (.mv (.const (.bool false))), none⟩])
 .ret)
 .skip)))))
 (.seq (.reg [⟨(some 57), (.mv (.tmp 5)), none⟩,
 ⟨(some 58), (.fa 1 (.tmp 1)), none⟩,
 ⟨(some 59), (.ld none (.tmp 58)), none⟩,
 ⟨(some 60), (.fa 4 (.tmp 1)), none⟩,
 ⟨(some 61), (.ld none (.tmp 60)), none⟩,
 ⟨(some 62), (.call 39 [(.tmp 57), (.tmp 59), (.tmp 61)]), none⟩,
 ⟨(some 56), (.mv (.tmp 62)), none⟩,
 ⟨(some 63), (.ext 0 (.tmp 56)), none⟩,
 ⟨(some 64), (.ext 1 (.tmp 56)), none⟩,
 ⟨(some 8), (.new 33 [.int .i64 (0), .int .i64 (0), .int .i64 (0), .int .i64 (0), .int .i64 (0), .int .i64 (0), .string ⟨#[]⟩, .int .i64 (0), .int .i64 (0), .bool false, .string ⟨#[]⟩, .bool false, .int .i64 (0), .int .i64 (0), .slice none 0 0, .slice none 0 0]), none⟩,
 ⟨none, (.st 16 (.tmp 8) (.tmp 63)), none⟩,
 ⟨(some 9), (.mv (.tmp 64)), none⟩])
 (.seq (.reg [⟨(some 66), (.mv (.tmp 5)), none⟩,
 ⟨(some 67), (.fa 1 (.tmp 1)), none⟩,
 ⟨(some 68), (.ld none (.tmp 67)), none⟩,
 ⟨(some 69), (.call 40 [(.tmp 66), (.tmp 68)]), none⟩,
 ⟨(some 65), (.mv (.tmp 69)), none⟩,
 ⟨(some 70), (.ext 0 (.tmp 65)), none⟩,
 ⟨(some 71), (.ext 1 (.tmp 65)), none⟩,
 ⟨(some 10), (.new 33 [.int .i64 (0), .int .i64 (0), .int .i64 (0), .int .i64 (0), .int .i64 (0), .int .i64 (0), .string ⟨#[]⟩, .int .i64 (0), .int .i64 (0), .bool false, .string ⟨#[]⟩, .bool false, .int .i64 (0), .int .i64 (0), .slice none 0 0, .slice none 0 0]), none⟩,
 ⟨none, (.st 16 (.tmp 10) (.tmp 70)), none⟩,
 ⟨(some 11), (.mv (.tmp 71)), none⟩])
 (.seq (.reg [⟨(some 73), (.mv (.tmp 5)), none⟩,
 ⟨(some 74), (.fa 1 (.tmp 1)), none⟩,
 ⟨(some 75), (.ld none (.tmp 74)), none⟩,
 ⟨(some 76), (.call 41 [(.tmp 73), (.tmp 75)]), none⟩,
 ⟨(some 72), (.mv (.tmp 76)), none⟩,
 ⟨(some 77), (.ext 0 (.tmp 72)), none⟩,
 ⟨(some 78), (.ext 1 (.tmp 72)), none⟩,
 ⟨(some 12), (.mv (.tmp 77)), none⟩,
 ⟨(some 13), (.mv (.tmp 78)), none⟩])
 (.seq (.reg [⟨(some 80), (.mv (.tmp 5)), none⟩,
 ⟨(some 81), (.fa 1 (.tmp 1)), none⟩,
 ⟨(some 82), (.ld none (.tmp 81)), none⟩,
 ⟨(some 83), (.call 32 [(.tmp 80), (.tmp 82)]), none⟩,
 ⟨(some 79), (.mv (.tmp 83)), none⟩,
 ⟨(some 84), (.ext 0 (.tmp 79)), none⟩,
 ⟨(some 85), (.ext 1 (.tmp 79)), none⟩,
 ⟨(some 14), (.mv (.tmp 84)), none⟩,
 ⟨(some 15), (.mv (.tmp 85)), none⟩])
 (.seq (.reg [⟨(some 87), (.mv (.tmp 5)), none⟩,
 ⟨(some 88), (.fa 2 (.tmp 1)), none⟩,
 ⟨(some 89), (.ld none (.tmp 88)), none⟩,
 ⟨(some 90), (.fa 3 (.tmp 1)), none⟩,
 ⟨(some 91), (.ld none (.tmp 90)), none⟩,
 ⟨(some 92), (.call 34 [(.tmp 87), (.tmp 89), (.tmp 91)]), none⟩,
 ⟨(some 86), (.mv (.tmp 92)), none⟩,
 ⟨(some 93), (.ext 0 (.tmp 86)), none⟩,
 ⟨(some 94), (.ext 1 (.tmp 86)), none⟩,
 ⟨(some 95), (.ext 2 (.tmp 86)), none⟩,
 ⟨(some 16), (.new 28 [.bool false, .string ⟨#[]⟩]), none⟩,
 ⟨(some 17), (.new 33 [.int .i64 (0), .int .i64 (0), .int .i64 (0), .int .i64 (0), .int .i64 (0), .int .i64 (0), .string ⟨#[]⟩, .int .i64 (0), .int .i64 (0), .bool false, .string ⟨#[]⟩, .bool false, .int .i64 (0), .int .i64 (0), .slice none 0 0, .slice none 0 0]), none⟩,
 ⟨none, (.st 2 (.tmp 16) (.tmp 93)), none⟩,
 ⟨none, (.st 16 (.tmp 17) (.tmp 94)), none⟩,
 ⟨(some 18), (.mv (.tmp 95)), none⟩])
 (.seq (.reg [⟨(some 97), (.mv (.tmp 5)), none⟩,
 ⟨(some 98), (.fa 2 (.tmp 1)), none⟩,
 ⟨(some 99), (.ld none (.tmp 98)), none⟩,
 ⟨(some 100), (.call 42 [(.tmp 97), (.tmp 99)]), none⟩,
 ⟨(some 96), (.mv (.tmp 100)), none⟩,
 ⟨(some 101), (.ext 0 (.tmp 96)), none⟩,
 ⟨(some 102), (.ext 1 (.tmp 96)), none⟩,
 ⟨(some 19), (.new 33 [.int .i64 (0), .int .i64 (0), .int .i64 (0), .int .i64 (0), .int .i64 (0), .int .i64 (0), .string ⟨#[]⟩, .int .i64 (0), .int .i64 (0), .bool false, .string ⟨#[]⟩, .bool false, .int .i64 (0), .int .i64 (0), .slice none 0 0, .slice none 0 0]), none⟩,
 ⟨none, (.st 16 (.tmp 19) (.tmp 101)), none⟩,
 ⟨(some 20), (.mv (.tmp 102)), none⟩])
 (.seq (.reg [⟨(some 104), (.mv (.tmp 5)), none⟩,
 ⟨(some 105), (.fa 2 (.tmp 1)), none⟩,
 ⟨(some 106), (.ld none (.tmp 105)), none⟩,
 ⟨(some 107), (.call 36 [(.tmp 104), (.tmp 106)]), none⟩,
 ⟨(some 103), (.mv (.tmp 107)), none⟩,
 ⟨(some 108), (.ext 0 (.tmp 103)), none⟩,
 ⟨(some 109), (.ext 1 (.tmp 103)), none⟩,
 ⟨(some 21), (.mv (.tmp 108)), none⟩,
 ⟨(some 22), (.mv (.tmp 109)), none⟩])
 (.seq (.reg [⟨(some 111), (.mv (.tmp 5)), none⟩,
 ⟨(some 112), (.fa 5 (.tmp 1)), none⟩,
 ⟨(some 113), (.ld (some 16) (.tmp 112)), none⟩,
 ⟨(some 114), (.call 35 [(.tmp 111), (.tmp 113)]), none⟩,
 ⟨(some 110), (.mv (.tmp 114)), none⟩,
 ⟨(some 115), (.ext 0 (.tmp 110)), none⟩,
 ⟨(some 116), (.ext 1 (.tmp 110)), none⟩,
 ⟨(some 23), (.new 33 [.int .i64 (0), .int .i64 (0), .int .i64 (0), .int .i64 (0), .int .i64 (0), .int .i64 (0), .string ⟨#[]⟩, .int .i64 (0), .int .i64 (0), .bool false, .string ⟨#[]⟩, .bool false, .int .i64 (0), .int .i64 (0), .slice none 0 0, .slice none 0 0]), none⟩,
 ⟨none, (.st 16 (.tmp 23) (.tmp 115)), none⟩,
 ⟨(some 24), (.mv (.tmp 116)), none⟩])
 (.seq (.reg [⟨(some 118), (.mv (.tmp 5)), none⟩,
 ⟨(some 119), (.fa 1 (.tmp 1)), none⟩,
 ⟨(some 120), (.ld none (.tmp 119)), none⟩,
 ⟨(some 121), (.call 37 [(.tmp 118), (.tmp 120)]), none⟩,
 ⟨(some 117), (.mv (.tmp 121)), none⟩,
 ⟨(some 122), (.ext 0 (.tmp 117)), none⟩,
 ⟨(some 123), (.ext 1 (.tmp 117)), none⟩,
 ⟨(some 25), (.new 41 [.int .i64 (0), .bool false, .int .i64 (0), .int .i64 (0), .int .i64 (0), .int .i64 (0)]), none⟩,
 ⟨none, (.st 6 (.tmp 25) (.tmp 122)), none⟩,
 ⟨(some 26), (.mv (.tmp 123)), none⟩])
 (.seq (.reg [⟨(some 125), (.mv (.tmp 5)), none⟩,
 ⟨(some 126), (.fa 2 (.tmp 1)), none⟩,
 ⟨(some 127), (.ld none (.tmp 126)), none⟩,
 ⟨(some 128), (.call 33 [(.tmp 125), (.tmp 127)]), none⟩,
 ⟨(some 124), (.mv (.tmp 128)), none⟩,
 ⟨(some 129), (.ext 0 (.tmp 124)), none⟩,
 ⟨(some 130), (.ext 1 (.tmp 124)), none⟩,
 ⟨(some 27), (.new 82 [.int .i64 (0), .int .i64 (0), .int .i64 (0), .int .i64 (0), .string ⟨#[]⟩, .int .i64 (0), .int .i64 (0), .slice none 0 0]), none⟩,
 ⟨none, (.st 8 (.tmp 27) (.tmp 129)), none⟩,
 ⟨(some 28), (.mv (.tmp 130)), none⟩])
 (.seq (.reg [⟨(some 131), (.mv (.tmp 9)), none⟩,
 ⟨(some 132), (.bin .neq (.tmp 131) (.const (.int .i64 3))), none⟩,
 ⟨(some 133), (.mv (.tmp 132)), none⟩,
 ⟨(some 134), (.mv (.tmp 11)), (some (133, false))⟩,
 ⟨(some 135), (.bin .neq (.tmp 134) (.const (.int .i64 3))), (some (133, false))⟩,
 ⟨(some 136), (.pick (.tmp 133) (.const (.bool true)) (.tmp 135)), none⟩,
 ⟨(some 137), (.mv (.tmp 136)), none⟩,
 ⟨(some 138), (.mv (.tmp 12)), (some (137, false))⟩,
 ⟨(some 139), (.bin .neq (.tmp 138) (.const (.string { data := #[] }))), (some (137, false))⟩,
 ⟨(some 140), (.pick (.tmp 137) (.const (.bool true)) (.tmp 139)), none⟩,
 ⟨(some 141), (.mv (.tmp 140)), none⟩,
 ⟨(some 142), (.mv (.tmp 13)), (some (141, false))⟩,
 ⟨(some 143), (.bin .neq (.tmp 142) (.const (.int .i64 3))), (some (141, false))⟩,
 ⟨(some 144), (.pick (.tmp 141) (.const (.bool true)) (.tmp 143)), none⟩,
 ⟨(some 145), (.mv (.tmp 144)), none⟩,
 ⟨(some 146), (.mv (.tmp 14)), (some (145, false))⟩,
 ⟨(some 147), (.bin .neq (.tmp 146) (.const (.int .i64 0))), (some (145, false))⟩,
 ⟨(some 148), (.pick (.tmp 145) (.const (.bool true)) (.tmp 147)), none⟩,
 ⟨(some 149), (.mv (.tmp 148)), none⟩,
 ⟨(some 150), (.mv (.tmp 15)), (some (149, false))⟩,
 ⟨(some 151), (.bin .neq (.tmp 150) (.const (.int .i64 3))), (some (149, false))⟩,
 ⟨(some 152), (.pick (.tmp 149) (.const (.bool true)) (.tmp 151)), none⟩,
 ⟨(some 153), (.mv (.tmp 152)), none⟩,
 ⟨(some 154), (.ld (some 2) (.tmp 16)), (some (153, false))⟩,
 ⟨(some 155), (.bld [.bool false, .string ⟨#[]⟩] []), (some (153, false))⟩,
 ⟨(some 156), (.eqa true [.truth, .text] (.tmp 154) (.tmp 155)), (some (153, false))⟩,
 ⟨(some 157), (.pick (.tmp 153) (.const (.bool true)) (.tmp 156)), none⟩,
 ⟨(some 158), (.mv (.tmp 157)), none⟩,
 ⟨(some 159), (.fa 0 (.tmp 17)), (some (158, false))⟩,
 ⟨(some 160), (.ld none (.tmp 159)), (some (158, false))⟩,
 ⟨(some 161), (.bin .neq (.tmp 160) (.const (.int .i64 0))), (some (158, false))⟩,
 ⟨(some 162), (.pick (.tmp 158) (.const (.bool true)) (.tmp 161)), none⟩,
 ⟨(some 163), (.mv (.tmp 162)), none⟩,
 ⟨(some 164), (.mv (.tmp 18)), (some (163, false))⟩,
 ⟨(some 165), (.bin .neq (.tmp 164) (.const (.int .i64 3))), (some (163, false))⟩,
 ⟨(some 166), (.pick (.tmp 163) (.const (.bool true)) (.tmp 165)), none⟩,
 ⟨(some 167), (.mv (.tmp 166)), none⟩,
 ⟨(some 168), (.mv (.tmp 20)), (some (167, false))⟩,
 ⟨(some 169), (.bin .neq (.tmp 168) (.const (.int .i64 3))), (some (167, false))⟩,
 ⟨(some 170), (.pick (.tmp 167) (.const (.bool true)) (.tmp 169)), none⟩,
 ⟨(some 171), (.mv (.tmp 170)), none⟩,
 ⟨(some 172), (.mv (.tmp 21)), (some (171, false))⟩,
 ⟨(some 173), (.bin .neq (.tmp 172) (.const (.int .i64 0))), (some (171, false))⟩,
 ⟨(some 174), (.pick (.tmp 171) (.const (.bool true)) (.tmp 173)), none⟩,
 ⟨(some 175), (.mv (.tmp 174)), none⟩,
 ⟨(some 176), (.mv (.tmp 22)), (some (175, false))⟩,
 ⟨(some 177), (.bin .neq (.tmp 176) (.const (.int .i64 3))), (some (175, false))⟩,
 ⟨(some 178), (.pick (.tmp 175) (.const (.bool true)) (.tmp 177)), none⟩,
 ⟨(some 179), (.mv (.tmp 178)), none⟩,
 ⟨(some 180), (.fa 0 (.tmp 23)), (some (179, false))⟩,
 ⟨(some 181), (.ld none (.tmp 180)), (some (179, false))⟩,
 ⟨(some 182), (.bin .neq (.tmp 181) (.const (.int .i64 0))), (some (179, false))⟩,
 ⟨(some 183), (.pick (.tmp 179) (.const (.bool true)) (.tmp 182)), none⟩,
 ⟨(some 184), (.mv (.tmp 183)), none⟩,
 ⟨(some 185), (.mv (.tmp 24)), (some (184, false))⟩,
 ⟨(some 186), (.pick (.tmp 184) (.const (.bool true)) (.tmp 185)), none⟩,
 ⟨(some 187), (.mv (.tmp 186)), none⟩,
 ⟨(some 188), (.mv (.tmp 26)), (some (187, false))⟩,
 ⟨(some 189), (.pick (.tmp 187) (.const (.bool true)) (.tmp 188)), none⟩,
 ⟨(some 190), (.mv (.tmp 189)), none⟩,
 ⟨(some 191), (.mv (.tmp 28)), (some (190, false))⟩,
 ⟨(some 192), (.pick (.tmp 190) (.const (.bool true)) (.tmp 191)), none⟩,
 ⟨(some 193), (.mv (.tmp 192)), none⟩,
 ⟨(some 194), (.mv (.tmp 5)), (some (193, false))⟩,
 ⟨(some 195), (.fa 1 (.tmp 1)), (some (193, false))⟩,
 ⟨(some 196), (.ld none (.tmp 195)), (some (193, false))⟩,
 ⟨(some 197), (.fa 3 (.tmp 1)), (some (193, false))⟩,
 ⟨(some 198), (.ld none (.tmp 197)), (some (193, false))⟩,
 ⟨(some 199), (.call 43 [(.tmp 194), (.tmp 196), (.tmp 198)]), (some (193, false))⟩,
 ⟨(some 200), (.bin .neq (.tmp 199) (.const (.int .i64 3))), (some (193, false))⟩,
 ⟨(some 201), (.pick (.tmp 193) (.const (.bool true)) (.tmp 200)), none⟩])
 (.cond (.tmp 201) (.seq (.reg [⟨(some 2), (.mv (.const (.bool false))), none⟩])
 .ret)
 .skip)))))))))))))))
 (.reg [⟨(some 33), (.mv (.tmp 4)), none⟩,
 ⟨(some 34), (.bin .add (.tmp 33) (.const (.int .i64 1))), none⟩,
 ⟨(some 4), (.mv (.tmp 34)), none⟩]))))))
 (.seq (.reg [⟨(some 2), (.mv (.const (.bool true))), none⟩])
 .ret)))))
def r12 : List RV := [.tmp 2]
theorem ok12 : FnOk Tryd.prog 12 202 c12 r12 := ⟨[25, 24], _, _, Tryd.func12, rfl, rfl, by kernel_rfl, by kernel_rfl, by kernel_rfl⟩
end Go.Proofs.YtaoafjlocjjbbaaDoor

-- D18
namespace Go.Proofs.YtaoafjlocjjbbaaDoor
open Go.Sp
set_option linter.unusedSimpArgs false
set_option linter.unusedVariables false
structure OpC where
  kind : Int
  s : Int
  t : Int
  key : ByteArray
  writes : Value
  msg : Msg
def OpC.cells (o : OpC) : List Value := [.int .u8 o.kind, .int .i64 o.s, .int .i64 o.t, .string o.key, o.writes] ++ o.msg.cells
set_option maxHeartbeats 4000000 in
set_option maxRecDepth 100000 in
theorem none12 {σ : Hp} (hG : Glob σ) (o : OpC) (hw : one o.writes = true) (h1 : one o.msg.writes = true) (h2 : one o.msg.keys = true) : ACalls Tryd.prog 12 #[.agg o.cells.toArray] σ fun u σ' => u = .bool true ∧ σ' = σ := by
  have HG := Hid.mk hG
  clear hG
  obtain ⟨kd, sn, tn, key, ws, m⟩ := o
  (refine acalls_F ok12 (by simp) ?_; unfold c12 r12; simp (config := { contextual := true, dsimp := false }) only [CliC, Msg.cells, noMsg, noView, noTx, OpC.cells, ↓reduceIte, ↓evP, evQ, if_true, if_false, eq_self, binv, eqv, lenv, fillO, splice, fldv, Sp.eqa, eqL, eq1, Nat.reduceAdd, Nat.reduceEqDiff, Nat.reduceLeDiff, Nat.reduceMul, reduceCtorEq, Int.reduceLT, Int.reduceLE, Int.reduceGT, Int.reduceGE, Int.reduceEq, Int.reduceNeg])
  (repeat' (first | (refine condF_split (fun hc => ?_) (fun hc => ?_) <;> (try simp only [Bool.not_eq_true', Bool.not_eq_false', Bool.and_eq_true, Bool.or_eq_false_iff] at hc) <;> (try (simp (config := { contextual := true, dsimp := false }) only [*, CliC, Msg.cells, noMsg, noView, noTx, OpC.cells, ↓reduceIte, ↓evP, evQ, if_true, if_false, eq_self, binv, eqv, lenv, fillO, splice, fldv, Sp.eqa, eqL, eq1, Nat.reduceAdd, Nat.reduceEqDiff, Nat.reduceLeDiff, Nat.reduceMul, reduceCtorEq, Int.reduceLT, Int.reduceLE, Int.reduceGT, Int.reduceGE, Int.reduceEq, Int.reduceNeg]))) | (refine callF_v (fixed29 (HG.out.sub (by (first | exact Sub.refl _ | ((repeat (first | exact Sub.refl _ | (refine Sub.drop ?_ ?_; focus (simp only [none_upd, none_set, not_false_eq_true, true_and, and_true, *]; done)) | refine Sub.both ?_)); done))))) ?_; (try (simp (config := { contextual := true, dsimp := false }) only [*, CliC, Msg.cells, noMsg, noView, noTx, OpC.cells, ↓reduceIte, ↓evP, evQ, if_true, if_false, eq_self, binv, eqv, lenv, fillO, splice, fldv, Sp.eqa, eqL, eq1, Nat.reduceAdd, Nat.reduceEqDiff, Nat.reduceLeDiff, Nat.reduceMul, reduceCtorEq, Int.reduceLT, Int.reduceLE, Int.reduceGT, Int.reduceGE, Int.reduceEq, Int.reduceNeg]))) | (refine ccallF_of (fixed29 (HG.out.sub (by (first | exact Sub.refl _ | ((repeat (first | exact Sub.refl _ | (refine Sub.drop ?_ ?_; focus (simp only [none_upd, none_set, not_false_eq_true, true_and, and_true, *]; done)) | refine Sub.both ?_)); done))))) ?_; (try (simp (config := { contextual := true, dsimp := false }) only [*, CliC, Msg.cells, noMsg, noView, noTx, OpC.cells, ↓reduceIte, ↓evP, evQ, if_true, if_false, eq_self, binv, eqv, lenv, fillO, splice, fldv, Sp.eqa, eqL, eq1, Nat.reduceAdd, Nat.reduceEqDiff, Nat.reduceLeDiff, Nat.reduceMul, reduceCtorEq, Int.reduceLT, Int.reduceLE, Int.reduceGT, Int.reduceGE, Int.reduceEq, Int.reduceNeg]))) | (refine gcallF_of (fixed29 (HG.out.sub (by (first | exact Sub.refl _ | ((repeat (first | exact Sub.refl _ | (refine Sub.drop ?_ ?_; focus (simp only [none_upd, none_set, not_false_eq_true, true_and, and_true, *]; done)) | refine Sub.both ?_)); done))))) ?_; (try (simp (config := { contextual := true, dsimp := false }) only [*, CliC, Msg.cells, noMsg, noView, noTx, OpC.cells, ↓reduceIte, ↓evP, evQ, if_true, if_false, eq_self, binv, eqv, lenv, fillO, splice, fldv, Sp.eqa, eqL, eq1, Nat.reduceAdd, Nat.reduceEqDiff, Nat.reduceLeDiff, Nat.reduceMul, reduceCtorEq, Int.reduceLT, Int.reduceLE, Int.reduceGT, Int.reduceGE, Int.reduceEq, Int.reduceNeg]))) | (intro _; intros) | ((refine And.intro ?_ ?_; focus (first | omega | (first | exact Sub.refl _ | ((repeat (first | exact Sub.refl _ | (refine Sub.drop ?_ ?_; focus (simp only [none_upd, none_set, not_false_eq_true, true_and, and_true, *]; done)) | refine Sub.both ?_)); done)) | ((simp only [decide_eq_true_eq, decide_eq_false_iff_not] at *); omega) | (simp_all; done) | (simp_all; omega))); (try (simp (config := { contextual := true, dsimp := false }) only [*, CliC, Msg.cells, noMsg, noView, noTx, OpC.cells, ↓reduceIte, ↓evP, evQ, if_true, if_false, eq_self, binv, eqv, lenv, fillO, splice, fldv, Sp.eqa, eqL, eq1, Nat.reduceAdd, Nat.reduceEqDiff, Nat.reduceLeDiff, Nat.reduceMul, reduceCtorEq, Int.reduceLT, Int.reduceLE, Int.reduceGT, Int.reduceGE, Int.reduceEq, Int.reduceNeg])))))
  rename_i b b0
  refine loopF_of (fun k s σ' => ∃ i : Nat, i ≤ 2 ∧ k = 2 - i ∧ s 4 = .int .i64 i ∧ s 1 = .pointer (some ⟨b, 0, none⟩) ∧ s 3 = .pointer none ∧ σ' = upd σ b (.cells (OpC.cells ⟨kd, sn, tn, key, ws, m⟩) 94)) 2 (Sub.refl _) ⟨0, by omega, rfl, (by first | rfl | (simp only [↓putO_get, ↓putO_no, init_zero, init_succ, Nat.reduceEqDiff, ↓reduceIte, *]; done) | (simp only [↓putO_get, ↓putO_no, init_zero, init_succ, Nat.reduceEqDiff, ↓reduceIte, *]; rfl)), (by first | rfl | (simp only [↓putO_get, ↓putO_no, init_zero, init_succ, Nat.reduceEqDiff, ↓reduceIte, *]; done) | (simp only [↓putO_get, ↓putO_no, init_zero, init_succ, Nat.reduceEqDiff, ↓reduceIte, *]; rfl)), (by first | rfl | (simp only [↓putO_get, ↓putO_no, init_zero, init_succ, Nat.reduceEqDiff, ↓reduceIte, *]; done) | (simp only [↓putO_get, ↓putO_no, init_zero, init_succ, Nat.reduceEqDiff, ↓reduceIte, *]; rfl)), rfl⟩ ?_
  rintro k s σ' ⟨i, hi, rfl, s4, s1, s3, rfl⟩
  obtain rfl | rfl | rfl : i = 0 ∨ i = 1 ∨ i = 2 := by omega
  · simp (config := { contextual := true, dsimp := false }) only [*, CliC, Msg.cells, noMsg, noView, noTx, OpC.cells, ↓reduceIte, ↓evP, evQ, if_true, if_false, eq_self, binv, eqv, lenv, fillO, splice, fldv, Sp.eqa, eqL, eq1, Nat.reduceAdd, Nat.reduceEqDiff, Nat.reduceLeDiff, Nat.reduceMul, reduceCtorEq, Int.reduceLT, Int.reduceLE, Int.reduceGT, Int.reduceGE, Int.reduceEq, Int.reduceNeg]
    (repeat' (first | (refine condF_split (fun hc => ?_) (fun hc => ?_) <;> (try simp only [Bool.not_eq_true', Bool.not_eq_false', Bool.and_eq_true, Bool.or_eq_false_iff] at hc) <;> (try (simp (config := { contextual := true, dsimp := false }) only [*, CliC, Msg.cells, noMsg, noView, noTx, OpC.cells, ↓reduceIte, ↓evP, evQ, if_true, if_false, eq_self, binv, eqv, lenv, fillO, splice, fldv, Sp.eqa, eqL, eq1, Nat.reduceAdd, Nat.reduceEqDiff, Nat.reduceLeDiff, Nat.reduceMul, reduceCtorEq, Int.reduceLT, Int.reduceLE, Int.reduceGT, Int.reduceGE, Int.reduceEq, Int.reduceNeg]))) | (refine callF_v (open31n _) ?_; (try (simp (config := { contextual := true, dsimp := false }) only [*, CliC, Msg.cells, noMsg, noView, noTx, OpC.cells, ↓reduceIte, ↓evP, evQ, if_true, if_false, eq_self, binv, eqv, lenv, fillO, splice, fldv, Sp.eqa, eqL, eq1, Nat.reduceAdd, Nat.reduceEqDiff, Nat.reduceLeDiff, Nat.reduceMul, reduceCtorEq, Int.reduceLT, Int.reduceLE, Int.reduceGT, Int.reduceGE, Int.reduceEq, Int.reduceNeg]))) | (refine callF_v (clone38n _) ?_; (try (simp (config := { contextual := true, dsimp := false }) only [*, CliC, Msg.cells, noMsg, noView, noTx, OpC.cells, ↓reduceIte, ↓evP, evQ, if_true, if_false, eq_self, binv, eqv, lenv, fillO, splice, fldv, Sp.eqa, eqL, eq1, Nat.reduceAdd, Nat.reduceEqDiff, Nat.reduceLeDiff, Nat.reduceMul, reduceCtorEq, Int.reduceLT, Int.reduceLE, Int.reduceGT, Int.reduceGE, Int.reduceEq, Int.reduceNeg]))) | (refine callF_v (commit39x (noS_nil _ _)) ?_; (try (simp (config := { contextual := true, dsimp := false }) only [*, CliC, Msg.cells, noMsg, noView, noTx, OpC.cells, ↓reduceIte, ↓evP, evQ, if_true, if_false, eq_self, binv, eqv, lenv, fillO, splice, fldv, Sp.eqa, eqL, eq1, Nat.reduceAdd, Nat.reduceEqDiff, Nat.reduceLeDiff, Nat.reduceMul, reduceCtorEq, Int.reduceLT, Int.reduceLE, Int.reduceGT, Int.reduceGE, Int.reduceEq, Int.reduceNeg]))) | (refine callF_v (again40x (noS_nil _ _) (rt_nil _)) ?_; (try (simp (config := { contextual := true, dsimp := false }) only [*, CliC, Msg.cells, noMsg, noView, noTx, OpC.cells, ↓reduceIte, ↓evP, evQ, if_true, if_false, eq_self, binv, eqv, lenv, fillO, splice, fldv, Sp.eqa, eqL, eq1, Nat.reduceAdd, Nat.reduceEqDiff, Nat.reduceLeDiff, Nat.reduceMul, reduceCtorEq, Int.reduceLT, Int.reduceLE, Int.reduceGT, Int.reduceGE, Int.reduceEq, Int.reduceNeg]))) | (refine callF_v (token41x (noS_nil _ _)) ?_; (try (simp (config := { contextual := true, dsimp := false }) only [*, CliC, Msg.cells, noMsg, noView, noTx, OpC.cells, ↓reduceIte, ↓evP, evQ, if_true, if_false, eq_self, binv, eqv, lenv, fillO, splice, fldv, Sp.eqa, eqL, eq1, Nat.reduceAdd, Nat.reduceEqDiff, Nat.reduceLeDiff, Nat.reduceMul, reduceCtorEq, Int.reduceLT, Int.reduceLE, Int.reduceGT, Int.reduceGE, Int.reduceEq, Int.reduceNeg]))) | (refine callF_v (begin32x (noS_nil _ _)) ?_; (try (simp (config := { contextual := true, dsimp := false }) only [*, CliC, Msg.cells, noMsg, noView, noTx, OpC.cells, ↓reduceIte, ↓evP, evQ, if_true, if_false, eq_self, binv, eqv, lenv, fillO, splice, fldv, Sp.eqa, eqL, eq1, Nat.reduceAdd, Nat.reduceEqDiff, Nat.reduceLeDiff, Nat.reduceMul, reduceCtorEq, Int.reduceLT, Int.reduceLE, Int.reduceGT, Int.reduceGE, Int.reduceEq, Int.reduceNeg]))) | (refine callF_v (read34x (noT_nil _ _) _) ?_; (try (simp (config := { contextual := true, dsimp := false }) only [*, CliC, Msg.cells, noMsg, noView, noTx, OpC.cells, ↓reduceIte, ↓evP, evQ, if_true, if_false, eq_self, binv, eqv, lenv, fillO, splice, fldv, Sp.eqa, eqL, eq1, Nat.reduceAdd, Nat.reduceEqDiff, Nat.reduceLeDiff, Nat.reduceMul, reduceCtorEq, Int.reduceLT, Int.reduceLE, Int.reduceGT, Int.reduceGE, Int.reduceEq, Int.reduceNeg]))) | (refine callF_v (retry42x (noT_nil _ _) (rt_nil _)) ?_; (try (simp (config := { contextual := true, dsimp := false }) only [*, CliC, Msg.cells, noMsg, noView, noTx, OpC.cells, ↓reduceIte, ↓evP, evQ, if_true, if_false, eq_self, binv, eqv, lenv, fillO, splice, fldv, Sp.eqa, eqL, eq1, Nat.reduceAdd, Nat.reduceEqDiff, Nat.reduceLeDiff, Nat.reduceMul, reduceCtorEq, Int.reduceLT, Int.reduceLE, Int.reduceGT, Int.reduceGE, Int.reduceEq, Int.reduceNeg]))) | (refine callF_v (finish36x (noT_nil _ _)) ?_; (try (simp (config := { contextual := true, dsimp := false }) only [*, CliC, Msg.cells, noMsg, noView, noTx, OpC.cells, ↓reduceIte, ↓evP, evQ, if_true, if_false, eq_self, binv, eqv, lenv, fillO, splice, fldv, Sp.eqa, eqL, eq1, Nat.reduceAdd, Nat.reduceEqDiff, Nat.reduceLeDiff, Nat.reduceMul, reduceCtorEq, Int.reduceLT, Int.reduceLE, Int.reduceGT, Int.reduceGE, Int.reduceEq, Int.reduceNeg]))) | (refine callF_v (hear35x m (noS_nil _ _) (noT_nil _ _)) ?_; (try (simp (config := { contextual := true, dsimp := false }) only [*, CliC, Msg.cells, noMsg, noView, noTx, OpC.cells, ↓reduceIte, ↓evP, evQ, if_true, if_false, eq_self, binv, eqv, lenv, fillO, splice, fldv, Sp.eqa, eqL, eq1, Nat.reduceAdd, Nat.reduceEqDiff, Nat.reduceLeDiff, Nat.reduceMul, reduceCtorEq, Int.reduceLT, Int.reduceLE, Int.reduceGT, Int.reduceGE, Int.reduceEq, Int.reduceNeg]))) | (refine callF_v (session37x (noS_nil _ _)) ?_; (try (simp (config := { contextual := true, dsimp := false }) only [*, CliC, Msg.cells, noMsg, noView, noTx, OpC.cells, ↓reduceIte, ↓evP, evQ, if_true, if_false, eq_self, binv, eqv, lenv, fillO, splice, fldv, Sp.eqa, eqL, eq1, Nat.reduceAdd, Nat.reduceEqDiff, Nat.reduceLeDiff, Nat.reduceMul, reduceCtorEq, Int.reduceLT, Int.reduceLE, Int.reduceGT, Int.reduceGE, Int.reduceEq, Int.reduceNeg]))) | (refine callF_v (tx33x (noT_nil _ _)) ?_; (try (simp (config := { contextual := true, dsimp := false }) only [*, CliC, Msg.cells, noMsg, noView, noTx, OpC.cells, ↓reduceIte, ↓evP, evQ, if_true, if_false, eq_self, binv, eqv, lenv, fillO, splice, fldv, Sp.eqa, eqL, eq1, Nat.reduceAdd, Nat.reduceEqDiff, Nat.reduceLeDiff, Nat.reduceMul, reduceCtorEq, Int.reduceLT, Int.reduceLE, Int.reduceGT, Int.reduceGE, Int.reduceEq, Int.reduceNeg]))) | (refine callF_v (join43x (noS_nil _ _) _) ?_; (try (simp (config := { contextual := true, dsimp := false }) only [*, CliC, Msg.cells, noMsg, noView, noTx, OpC.cells, ↓reduceIte, ↓evP, evQ, if_true, if_false, eq_self, binv, eqv, lenv, fillO, splice, fldv, Sp.eqa, eqL, eq1, Nat.reduceAdd, Nat.reduceEqDiff, Nat.reduceLeDiff, Nat.reduceMul, reduceCtorEq, Int.reduceLT, Int.reduceLE, Int.reduceGT, Int.reduceGE, Int.reduceEq, Int.reduceNeg]))) | (refine ccallF_of (open31n _) ?_; (try (simp (config := { contextual := true, dsimp := false }) only [*, CliC, Msg.cells, noMsg, noView, noTx, OpC.cells, ↓reduceIte, ↓evP, evQ, if_true, if_false, eq_self, binv, eqv, lenv, fillO, splice, fldv, Sp.eqa, eqL, eq1, Nat.reduceAdd, Nat.reduceEqDiff, Nat.reduceLeDiff, Nat.reduceMul, reduceCtorEq, Int.reduceLT, Int.reduceLE, Int.reduceGT, Int.reduceGE, Int.reduceEq, Int.reduceNeg]))) | (refine ccallF_of (clone38n _) ?_; (try (simp (config := { contextual := true, dsimp := false }) only [*, CliC, Msg.cells, noMsg, noView, noTx, OpC.cells, ↓reduceIte, ↓evP, evQ, if_true, if_false, eq_self, binv, eqv, lenv, fillO, splice, fldv, Sp.eqa, eqL, eq1, Nat.reduceAdd, Nat.reduceEqDiff, Nat.reduceLeDiff, Nat.reduceMul, reduceCtorEq, Int.reduceLT, Int.reduceLE, Int.reduceGT, Int.reduceGE, Int.reduceEq, Int.reduceNeg]))) | (refine ccallF_of (commit39x (noS_nil _ _)) ?_; (try (simp (config := { contextual := true, dsimp := false }) only [*, CliC, Msg.cells, noMsg, noView, noTx, OpC.cells, ↓reduceIte, ↓evP, evQ, if_true, if_false, eq_self, binv, eqv, lenv, fillO, splice, fldv, Sp.eqa, eqL, eq1, Nat.reduceAdd, Nat.reduceEqDiff, Nat.reduceLeDiff, Nat.reduceMul, reduceCtorEq, Int.reduceLT, Int.reduceLE, Int.reduceGT, Int.reduceGE, Int.reduceEq, Int.reduceNeg]))) | (refine ccallF_of (again40x (noS_nil _ _) (rt_nil _)) ?_; (try (simp (config := { contextual := true, dsimp := false }) only [*, CliC, Msg.cells, noMsg, noView, noTx, OpC.cells, ↓reduceIte, ↓evP, evQ, if_true, if_false, eq_self, binv, eqv, lenv, fillO, splice, fldv, Sp.eqa, eqL, eq1, Nat.reduceAdd, Nat.reduceEqDiff, Nat.reduceLeDiff, Nat.reduceMul, reduceCtorEq, Int.reduceLT, Int.reduceLE, Int.reduceGT, Int.reduceGE, Int.reduceEq, Int.reduceNeg]))) | (refine ccallF_of (token41x (noS_nil _ _)) ?_; (try (simp (config := { contextual := true, dsimp := false }) only [*, CliC, Msg.cells, noMsg, noView, noTx, OpC.cells, ↓reduceIte, ↓evP, evQ, if_true, if_false, eq_self, binv, eqv, lenv, fillO, splice, fldv, Sp.eqa, eqL, eq1, Nat.reduceAdd, Nat.reduceEqDiff, Nat.reduceLeDiff, Nat.reduceMul, reduceCtorEq, Int.reduceLT, Int.reduceLE, Int.reduceGT, Int.reduceGE, Int.reduceEq, Int.reduceNeg]))) | (refine ccallF_of (begin32x (noS_nil _ _)) ?_; (try (simp (config := { contextual := true, dsimp := false }) only [*, CliC, Msg.cells, noMsg, noView, noTx, OpC.cells, ↓reduceIte, ↓evP, evQ, if_true, if_false, eq_self, binv, eqv, lenv, fillO, splice, fldv, Sp.eqa, eqL, eq1, Nat.reduceAdd, Nat.reduceEqDiff, Nat.reduceLeDiff, Nat.reduceMul, reduceCtorEq, Int.reduceLT, Int.reduceLE, Int.reduceGT, Int.reduceGE, Int.reduceEq, Int.reduceNeg]))) | (refine ccallF_of (read34x (noT_nil _ _) _) ?_; (try (simp (config := { contextual := true, dsimp := false }) only [*, CliC, Msg.cells, noMsg, noView, noTx, OpC.cells, ↓reduceIte, ↓evP, evQ, if_true, if_false, eq_self, binv, eqv, lenv, fillO, splice, fldv, Sp.eqa, eqL, eq1, Nat.reduceAdd, Nat.reduceEqDiff, Nat.reduceLeDiff, Nat.reduceMul, reduceCtorEq, Int.reduceLT, Int.reduceLE, Int.reduceGT, Int.reduceGE, Int.reduceEq, Int.reduceNeg]))) | (refine ccallF_of (retry42x (noT_nil _ _) (rt_nil _)) ?_; (try (simp (config := { contextual := true, dsimp := false }) only [*, CliC, Msg.cells, noMsg, noView, noTx, OpC.cells, ↓reduceIte, ↓evP, evQ, if_true, if_false, eq_self, binv, eqv, lenv, fillO, splice, fldv, Sp.eqa, eqL, eq1, Nat.reduceAdd, Nat.reduceEqDiff, Nat.reduceLeDiff, Nat.reduceMul, reduceCtorEq, Int.reduceLT, Int.reduceLE, Int.reduceGT, Int.reduceGE, Int.reduceEq, Int.reduceNeg]))) | (refine ccallF_of (finish36x (noT_nil _ _)) ?_; (try (simp (config := { contextual := true, dsimp := false }) only [*, CliC, Msg.cells, noMsg, noView, noTx, OpC.cells, ↓reduceIte, ↓evP, evQ, if_true, if_false, eq_self, binv, eqv, lenv, fillO, splice, fldv, Sp.eqa, eqL, eq1, Nat.reduceAdd, Nat.reduceEqDiff, Nat.reduceLeDiff, Nat.reduceMul, reduceCtorEq, Int.reduceLT, Int.reduceLE, Int.reduceGT, Int.reduceGE, Int.reduceEq, Int.reduceNeg]))) | (refine ccallF_of (hear35x m (noS_nil _ _) (noT_nil _ _)) ?_; (try (simp (config := { contextual := true, dsimp := false }) only [*, CliC, Msg.cells, noMsg, noView, noTx, OpC.cells, ↓reduceIte, ↓evP, evQ, if_true, if_false, eq_self, binv, eqv, lenv, fillO, splice, fldv, Sp.eqa, eqL, eq1, Nat.reduceAdd, Nat.reduceEqDiff, Nat.reduceLeDiff, Nat.reduceMul, reduceCtorEq, Int.reduceLT, Int.reduceLE, Int.reduceGT, Int.reduceGE, Int.reduceEq, Int.reduceNeg]))) | (refine ccallF_of (session37x (noS_nil _ _)) ?_; (try (simp (config := { contextual := true, dsimp := false }) only [*, CliC, Msg.cells, noMsg, noView, noTx, OpC.cells, ↓reduceIte, ↓evP, evQ, if_true, if_false, eq_self, binv, eqv, lenv, fillO, splice, fldv, Sp.eqa, eqL, eq1, Nat.reduceAdd, Nat.reduceEqDiff, Nat.reduceLeDiff, Nat.reduceMul, reduceCtorEq, Int.reduceLT, Int.reduceLE, Int.reduceGT, Int.reduceGE, Int.reduceEq, Int.reduceNeg]))) | (refine ccallF_of (tx33x (noT_nil _ _)) ?_; (try (simp (config := { contextual := true, dsimp := false }) only [*, CliC, Msg.cells, noMsg, noView, noTx, OpC.cells, ↓reduceIte, ↓evP, evQ, if_true, if_false, eq_self, binv, eqv, lenv, fillO, splice, fldv, Sp.eqa, eqL, eq1, Nat.reduceAdd, Nat.reduceEqDiff, Nat.reduceLeDiff, Nat.reduceMul, reduceCtorEq, Int.reduceLT, Int.reduceLE, Int.reduceGT, Int.reduceGE, Int.reduceEq, Int.reduceNeg]))) | (refine ccallF_of (join43x (noS_nil _ _) _) ?_; (try (simp (config := { contextual := true, dsimp := false }) only [*, CliC, Msg.cells, noMsg, noView, noTx, OpC.cells, ↓reduceIte, ↓evP, evQ, if_true, if_false, eq_self, binv, eqv, lenv, fillO, splice, fldv, Sp.eqa, eqL, eq1, Nat.reduceAdd, Nat.reduceEqDiff, Nat.reduceLeDiff, Nat.reduceMul, reduceCtorEq, Int.reduceLT, Int.reduceLE, Int.reduceGT, Int.reduceGE, Int.reduceEq, Int.reduceNeg]))) | (refine gcallF_of (open31n _) ?_; (try (simp (config := { contextual := true, dsimp := false }) only [*, CliC, Msg.cells, noMsg, noView, noTx, OpC.cells, ↓reduceIte, ↓evP, evQ, if_true, if_false, eq_self, binv, eqv, lenv, fillO, splice, fldv, Sp.eqa, eqL, eq1, Nat.reduceAdd, Nat.reduceEqDiff, Nat.reduceLeDiff, Nat.reduceMul, reduceCtorEq, Int.reduceLT, Int.reduceLE, Int.reduceGT, Int.reduceGE, Int.reduceEq, Int.reduceNeg]))) | (refine gcallF_of (clone38n _) ?_; (try (simp (config := { contextual := true, dsimp := false }) only [*, CliC, Msg.cells, noMsg, noView, noTx, OpC.cells, ↓reduceIte, ↓evP, evQ, if_true, if_false, eq_self, binv, eqv, lenv, fillO, splice, fldv, Sp.eqa, eqL, eq1, Nat.reduceAdd, Nat.reduceEqDiff, Nat.reduceLeDiff, Nat.reduceMul, reduceCtorEq, Int.reduceLT, Int.reduceLE, Int.reduceGT, Int.reduceGE, Int.reduceEq, Int.reduceNeg]))) | (refine gcallF_of (commit39x (noS_nil _ _)) ?_; (try (simp (config := { contextual := true, dsimp := false }) only [*, CliC, Msg.cells, noMsg, noView, noTx, OpC.cells, ↓reduceIte, ↓evP, evQ, if_true, if_false, eq_self, binv, eqv, lenv, fillO, splice, fldv, Sp.eqa, eqL, eq1, Nat.reduceAdd, Nat.reduceEqDiff, Nat.reduceLeDiff, Nat.reduceMul, reduceCtorEq, Int.reduceLT, Int.reduceLE, Int.reduceGT, Int.reduceGE, Int.reduceEq, Int.reduceNeg]))) | (refine gcallF_of (again40x (noS_nil _ _) (rt_nil _)) ?_; (try (simp (config := { contextual := true, dsimp := false }) only [*, CliC, Msg.cells, noMsg, noView, noTx, OpC.cells, ↓reduceIte, ↓evP, evQ, if_true, if_false, eq_self, binv, eqv, lenv, fillO, splice, fldv, Sp.eqa, eqL, eq1, Nat.reduceAdd, Nat.reduceEqDiff, Nat.reduceLeDiff, Nat.reduceMul, reduceCtorEq, Int.reduceLT, Int.reduceLE, Int.reduceGT, Int.reduceGE, Int.reduceEq, Int.reduceNeg]))) | (refine gcallF_of (token41x (noS_nil _ _)) ?_; (try (simp (config := { contextual := true, dsimp := false }) only [*, CliC, Msg.cells, noMsg, noView, noTx, OpC.cells, ↓reduceIte, ↓evP, evQ, if_true, if_false, eq_self, binv, eqv, lenv, fillO, splice, fldv, Sp.eqa, eqL, eq1, Nat.reduceAdd, Nat.reduceEqDiff, Nat.reduceLeDiff, Nat.reduceMul, reduceCtorEq, Int.reduceLT, Int.reduceLE, Int.reduceGT, Int.reduceGE, Int.reduceEq, Int.reduceNeg]))) | (refine gcallF_of (begin32x (noS_nil _ _)) ?_; (try (simp (config := { contextual := true, dsimp := false }) only [*, CliC, Msg.cells, noMsg, noView, noTx, OpC.cells, ↓reduceIte, ↓evP, evQ, if_true, if_false, eq_self, binv, eqv, lenv, fillO, splice, fldv, Sp.eqa, eqL, eq1, Nat.reduceAdd, Nat.reduceEqDiff, Nat.reduceLeDiff, Nat.reduceMul, reduceCtorEq, Int.reduceLT, Int.reduceLE, Int.reduceGT, Int.reduceGE, Int.reduceEq, Int.reduceNeg]))) | (refine gcallF_of (read34x (noT_nil _ _) _) ?_; (try (simp (config := { contextual := true, dsimp := false }) only [*, CliC, Msg.cells, noMsg, noView, noTx, OpC.cells, ↓reduceIte, ↓evP, evQ, if_true, if_false, eq_self, binv, eqv, lenv, fillO, splice, fldv, Sp.eqa, eqL, eq1, Nat.reduceAdd, Nat.reduceEqDiff, Nat.reduceLeDiff, Nat.reduceMul, reduceCtorEq, Int.reduceLT, Int.reduceLE, Int.reduceGT, Int.reduceGE, Int.reduceEq, Int.reduceNeg]))) | (refine gcallF_of (retry42x (noT_nil _ _) (rt_nil _)) ?_; (try (simp (config := { contextual := true, dsimp := false }) only [*, CliC, Msg.cells, noMsg, noView, noTx, OpC.cells, ↓reduceIte, ↓evP, evQ, if_true, if_false, eq_self, binv, eqv, lenv, fillO, splice, fldv, Sp.eqa, eqL, eq1, Nat.reduceAdd, Nat.reduceEqDiff, Nat.reduceLeDiff, Nat.reduceMul, reduceCtorEq, Int.reduceLT, Int.reduceLE, Int.reduceGT, Int.reduceGE, Int.reduceEq, Int.reduceNeg]))) | (refine gcallF_of (finish36x (noT_nil _ _)) ?_; (try (simp (config := { contextual := true, dsimp := false }) only [*, CliC, Msg.cells, noMsg, noView, noTx, OpC.cells, ↓reduceIte, ↓evP, evQ, if_true, if_false, eq_self, binv, eqv, lenv, fillO, splice, fldv, Sp.eqa, eqL, eq1, Nat.reduceAdd, Nat.reduceEqDiff, Nat.reduceLeDiff, Nat.reduceMul, reduceCtorEq, Int.reduceLT, Int.reduceLE, Int.reduceGT, Int.reduceGE, Int.reduceEq, Int.reduceNeg]))) | (refine gcallF_of (hear35x m (noS_nil _ _) (noT_nil _ _)) ?_; (try (simp (config := { contextual := true, dsimp := false }) only [*, CliC, Msg.cells, noMsg, noView, noTx, OpC.cells, ↓reduceIte, ↓evP, evQ, if_true, if_false, eq_self, binv, eqv, lenv, fillO, splice, fldv, Sp.eqa, eqL, eq1, Nat.reduceAdd, Nat.reduceEqDiff, Nat.reduceLeDiff, Nat.reduceMul, reduceCtorEq, Int.reduceLT, Int.reduceLE, Int.reduceGT, Int.reduceGE, Int.reduceEq, Int.reduceNeg]))) | (refine gcallF_of (session37x (noS_nil _ _)) ?_; (try (simp (config := { contextual := true, dsimp := false }) only [*, CliC, Msg.cells, noMsg, noView, noTx, OpC.cells, ↓reduceIte, ↓evP, evQ, if_true, if_false, eq_self, binv, eqv, lenv, fillO, splice, fldv, Sp.eqa, eqL, eq1, Nat.reduceAdd, Nat.reduceEqDiff, Nat.reduceLeDiff, Nat.reduceMul, reduceCtorEq, Int.reduceLT, Int.reduceLE, Int.reduceGT, Int.reduceGE, Int.reduceEq, Int.reduceNeg]))) | (refine gcallF_of (tx33x (noT_nil _ _)) ?_; (try (simp (config := { contextual := true, dsimp := false }) only [*, CliC, Msg.cells, noMsg, noView, noTx, OpC.cells, ↓reduceIte, ↓evP, evQ, if_true, if_false, eq_self, binv, eqv, lenv, fillO, splice, fldv, Sp.eqa, eqL, eq1, Nat.reduceAdd, Nat.reduceEqDiff, Nat.reduceLeDiff, Nat.reduceMul, reduceCtorEq, Int.reduceLT, Int.reduceLE, Int.reduceGT, Int.reduceGE, Int.reduceEq, Int.reduceNeg]))) | (refine gcallF_of (join43x (noS_nil _ _) _) ?_; (try (simp (config := { contextual := true, dsimp := false }) only [*, CliC, Msg.cells, noMsg, noView, noTx, OpC.cells, ↓reduceIte, ↓evP, evQ, if_true, if_false, eq_self, binv, eqv, lenv, fillO, splice, fldv, Sp.eqa, eqL, eq1, Nat.reduceAdd, Nat.reduceEqDiff, Nat.reduceLeDiff, Nat.reduceMul, reduceCtorEq, Int.reduceLT, Int.reduceLE, Int.reduceGT, Int.reduceGE, Int.reduceEq, Int.reduceNeg]))) | (intro _; intros) | ((refine And.intro ?_ ?_; focus (first | omega | (first | exact Sub.refl _ | ((repeat (first | exact Sub.refl _ | (refine Sub.drop ?_ ?_; focus (simp only [none_upd, none_set, not_false_eq_true, true_and, and_true, *]; done)) | refine Sub.both ?_)); done)) | ((simp only [decide_eq_true_eq, decide_eq_false_iff_not] at *); omega) | (simp_all; done) | (simp_all; omega))); (try (simp (config := { contextual := true, dsimp := false }) only [*, CliC, Msg.cells, noMsg, noView, noTx, OpC.cells, ↓reduceIte, ↓evP, evQ, if_true, if_false, eq_self, binv, eqv, lenv, fillO, splice, fldv, Sp.eqa, eqL, eq1, Nat.reduceAdd, Nat.reduceEqDiff, Nat.reduceLeDiff, Nat.reduceMul, reduceCtorEq, Int.reduceLT, Int.reduceLE, Int.reduceGT, Int.reduceGE, Int.reduceEq, Int.reduceNeg])))))
    exact nextF_of 1 (by omega) (by (first | exact Sub.refl _ | ((repeat (first | exact Sub.refl _ | (refine Sub.drop ?_ ?_; focus (simp only [none_upd, none_set, not_false_eq_true, true_and, and_true, *]; done)) | refine Sub.both ?_)); done))) ⟨1, by omega, rfl, (by simp only [↓putO_get, ↓putO_no, init_zero, init_succ, Nat.reduceEqDiff, ↓reduceIte, *]; rfl), (by first | rfl | (simp only [↓putO_get, ↓putO_no, init_zero, init_succ, Nat.reduceEqDiff, ↓reduceIte, *]; done) | (simp only [↓putO_get, ↓putO_no, init_zero, init_succ, Nat.reduceEqDiff, ↓reduceIte, *]; rfl)), (by first | rfl | (simp only [↓putO_get, ↓putO_no, init_zero, init_succ, Nat.reduceEqDiff, ↓reduceIte, *]; done) | (simp only [↓putO_get, ↓putO_no, init_zero, init_succ, Nat.reduceEqDiff, ↓reduceIte, *]; rfl)), rfl⟩
  · simp (config := { contextual := true, dsimp := false }) only [*, CliC, Msg.cells, noMsg, noView, noTx, OpC.cells, ↓reduceIte, ↓evP, evQ, if_true, if_false, eq_self, binv, eqv, lenv, fillO, splice, fldv, Sp.eqa, eqL, eq1, Nat.reduceAdd, Nat.reduceEqDiff, Nat.reduceLeDiff, Nat.reduceMul, reduceCtorEq, Int.reduceLT, Int.reduceLE, Int.reduceGT, Int.reduceGE, Int.reduceEq, Int.reduceNeg]
    refine callF_of (new30 {} _) ?_
    rintro u _ ⟨g, hg, rfl, rfl⟩
    simp only [none_upd] at hg
    simp (config := { contextual := true, dsimp := false }) only [*, CliC, Msg.cells, noMsg, noView, noTx, OpC.cells, ↓reduceIte, ↓evP, evQ, if_true, if_false, eq_self, binv, eqv, lenv, fillO, splice, fldv, Sp.eqa, eqL, eq1, Nat.reduceAdd, Nat.reduceEqDiff, Nat.reduceLeDiff, Nat.reduceMul, reduceCtorEq, Int.reduceLT, Int.reduceLE, Int.reduceGT, Int.reduceGE, Int.reduceEq, Int.reduceNeg]
    (repeat' (first | (refine condF_split (fun hc => ?_) (fun hc => ?_) <;> (try simp only [Bool.not_eq_true', Bool.not_eq_false', Bool.and_eq_true, Bool.or_eq_false_iff] at hc) <;> (try (simp (config := { contextual := true, dsimp := false }) only [*, CliC, Msg.cells, noMsg, noView, noTx, OpC.cells, ↓reduceIte, ↓evP, evQ, if_true, if_false, eq_self, binv, eqv, lenv, fillO, splice, fldv, Sp.eqa, eqL, eq1, Nat.reduceAdd, Nat.reduceEqDiff, Nat.reduceLeDiff, Nat.reduceMul, reduceCtorEq, Int.reduceLT, Int.reduceLE, Int.reduceGT, Int.reduceGE, Int.reduceEq, Int.reduceNeg]))) | (refine callF_v (commit39x (noS_new (c := Cfg.held {}) (by first | rfl | (simp only [upd_same, upd_at, set_at, *, ↓reduceIte]; done) | (simp only [upd_same, upd_at, set_at, *, ↓reduceIte]; rfl)) _)) ?_; (try (simp (config := { contextual := true, dsimp := false }) only [*, CliC, Msg.cells, noMsg, noView, noTx, OpC.cells, ↓reduceIte, ↓evP, evQ, if_true, if_false, eq_self, binv, eqv, lenv, fillO, splice, fldv, Sp.eqa, eqL, eq1, Nat.reduceAdd, Nat.reduceEqDiff, Nat.reduceLeDiff, Nat.reduceMul, reduceCtorEq, Int.reduceLT, Int.reduceLE, Int.reduceGT, Int.reduceGE, Int.reduceEq, Int.reduceNeg]))) | (refine callF_v (again40x (noS_new (c := Cfg.held {}) (by first | rfl | (simp only [upd_same, upd_at, set_at, *, ↓reduceIte]; done) | (simp only [upd_same, upd_at, set_at, *, ↓reduceIte]; rfl)) _) (rt_new (c := Cfg.held {}) (by first | rfl | (simp only [upd_same, upd_at, set_at, *, ↓reduceIte]; done) | (simp only [upd_same, upd_at, set_at, *, ↓reduceIte]; rfl)))) ?_; (try (simp (config := { contextual := true, dsimp := false }) only [*, CliC, Msg.cells, noMsg, noView, noTx, OpC.cells, ↓reduceIte, ↓evP, evQ, if_true, if_false, eq_self, binv, eqv, lenv, fillO, splice, fldv, Sp.eqa, eqL, eq1, Nat.reduceAdd, Nat.reduceEqDiff, Nat.reduceLeDiff, Nat.reduceMul, reduceCtorEq, Int.reduceLT, Int.reduceLE, Int.reduceGT, Int.reduceGE, Int.reduceEq, Int.reduceNeg]))) | (refine callF_v (token41x (noS_new (c := Cfg.held {}) (by first | rfl | (simp only [upd_same, upd_at, set_at, *, ↓reduceIte]; done) | (simp only [upd_same, upd_at, set_at, *, ↓reduceIte]; rfl)) _)) ?_; (try (simp (config := { contextual := true, dsimp := false }) only [*, CliC, Msg.cells, noMsg, noView, noTx, OpC.cells, ↓reduceIte, ↓evP, evQ, if_true, if_false, eq_self, binv, eqv, lenv, fillO, splice, fldv, Sp.eqa, eqL, eq1, Nat.reduceAdd, Nat.reduceEqDiff, Nat.reduceLeDiff, Nat.reduceMul, reduceCtorEq, Int.reduceLT, Int.reduceLE, Int.reduceGT, Int.reduceGE, Int.reduceEq, Int.reduceNeg]))) | (refine callF_v (begin32x (noS_new (c := Cfg.held {}) (by first | rfl | (simp only [upd_same, upd_at, set_at, *, ↓reduceIte]; done) | (simp only [upd_same, upd_at, set_at, *, ↓reduceIte]; rfl)) _)) ?_; (try (simp (config := { contextual := true, dsimp := false }) only [*, CliC, Msg.cells, noMsg, noView, noTx, OpC.cells, ↓reduceIte, ↓evP, evQ, if_true, if_false, eq_self, binv, eqv, lenv, fillO, splice, fldv, Sp.eqa, eqL, eq1, Nat.reduceAdd, Nat.reduceEqDiff, Nat.reduceLeDiff, Nat.reduceMul, reduceCtorEq, Int.reduceLT, Int.reduceLE, Int.reduceGT, Int.reduceGE, Int.reduceEq, Int.reduceNeg]))) | (refine callF_v (read34x (noT_new (c := Cfg.held {}) (by first | rfl | (simp only [upd_same, upd_at, set_at, *, ↓reduceIte]; done) | (simp only [upd_same, upd_at, set_at, *, ↓reduceIte]; rfl)) _) _) ?_; (try (simp (config := { contextual := true, dsimp := false }) only [*, CliC, Msg.cells, noMsg, noView, noTx, OpC.cells, ↓reduceIte, ↓evP, evQ, if_true, if_false, eq_self, binv, eqv, lenv, fillO, splice, fldv, Sp.eqa, eqL, eq1, Nat.reduceAdd, Nat.reduceEqDiff, Nat.reduceLeDiff, Nat.reduceMul, reduceCtorEq, Int.reduceLT, Int.reduceLE, Int.reduceGT, Int.reduceGE, Int.reduceEq, Int.reduceNeg]))) | (refine callF_v (retry42x (noT_new (c := Cfg.held {}) (by first | rfl | (simp only [upd_same, upd_at, set_at, *, ↓reduceIte]; done) | (simp only [upd_same, upd_at, set_at, *, ↓reduceIte]; rfl)) _) (rt_new (c := Cfg.held {}) (by first | rfl | (simp only [upd_same, upd_at, set_at, *, ↓reduceIte]; done) | (simp only [upd_same, upd_at, set_at, *, ↓reduceIte]; rfl)))) ?_; (try (simp (config := { contextual := true, dsimp := false }) only [*, CliC, Msg.cells, noMsg, noView, noTx, OpC.cells, ↓reduceIte, ↓evP, evQ, if_true, if_false, eq_self, binv, eqv, lenv, fillO, splice, fldv, Sp.eqa, eqL, eq1, Nat.reduceAdd, Nat.reduceEqDiff, Nat.reduceLeDiff, Nat.reduceMul, reduceCtorEq, Int.reduceLT, Int.reduceLE, Int.reduceGT, Int.reduceGE, Int.reduceEq, Int.reduceNeg]))) | (refine callF_v (finish36x (noT_new (c := Cfg.held {}) (by first | rfl | (simp only [upd_same, upd_at, set_at, *, ↓reduceIte]; done) | (simp only [upd_same, upd_at, set_at, *, ↓reduceIte]; rfl)) _)) ?_; (try (simp (config := { contextual := true, dsimp := false }) only [*, CliC, Msg.cells, noMsg, noView, noTx, OpC.cells, ↓reduceIte, ↓evP, evQ, if_true, if_false, eq_self, binv, eqv, lenv, fillO, splice, fldv, Sp.eqa, eqL, eq1, Nat.reduceAdd, Nat.reduceEqDiff, Nat.reduceLeDiff, Nat.reduceMul, reduceCtorEq, Int.reduceLT, Int.reduceLE, Int.reduceGT, Int.reduceGE, Int.reduceEq, Int.reduceNeg]))) | (refine callF_v (hear35x m (noS_new (c := Cfg.held {}) (by first | rfl | (simp only [upd_same, upd_at, set_at, *, ↓reduceIte]; done) | (simp only [upd_same, upd_at, set_at, *, ↓reduceIte]; rfl)) _) (noT_new (c := Cfg.held {}) (by first | rfl | (simp only [upd_same, upd_at, set_at, *, ↓reduceIte]; done) | (simp only [upd_same, upd_at, set_at, *, ↓reduceIte]; rfl)) _)) ?_; (try (simp (config := { contextual := true, dsimp := false }) only [*, CliC, Msg.cells, noMsg, noView, noTx, OpC.cells, ↓reduceIte, ↓evP, evQ, if_true, if_false, eq_self, binv, eqv, lenv, fillO, splice, fldv, Sp.eqa, eqL, eq1, Nat.reduceAdd, Nat.reduceEqDiff, Nat.reduceLeDiff, Nat.reduceMul, reduceCtorEq, Int.reduceLT, Int.reduceLE, Int.reduceGT, Int.reduceGE, Int.reduceEq, Int.reduceNeg]))) | (refine callF_v (session37x (noS_new (c := Cfg.held {}) (by first | rfl | (simp only [upd_same, upd_at, set_at, *, ↓reduceIte]; done) | (simp only [upd_same, upd_at, set_at, *, ↓reduceIte]; rfl)) _)) ?_; (try (simp (config := { contextual := true, dsimp := false }) only [*, CliC, Msg.cells, noMsg, noView, noTx, OpC.cells, ↓reduceIte, ↓evP, evQ, if_true, if_false, eq_self, binv, eqv, lenv, fillO, splice, fldv, Sp.eqa, eqL, eq1, Nat.reduceAdd, Nat.reduceEqDiff, Nat.reduceLeDiff, Nat.reduceMul, reduceCtorEq, Int.reduceLT, Int.reduceLE, Int.reduceGT, Int.reduceGE, Int.reduceEq, Int.reduceNeg]))) | (refine callF_v (tx33x (noT_new (c := Cfg.held {}) (by first | rfl | (simp only [upd_same, upd_at, set_at, *, ↓reduceIte]; done) | (simp only [upd_same, upd_at, set_at, *, ↓reduceIte]; rfl)) _)) ?_; (try (simp (config := { contextual := true, dsimp := false }) only [*, CliC, Msg.cells, noMsg, noView, noTx, OpC.cells, ↓reduceIte, ↓evP, evQ, if_true, if_false, eq_self, binv, eqv, lenv, fillO, splice, fldv, Sp.eqa, eqL, eq1, Nat.reduceAdd, Nat.reduceEqDiff, Nat.reduceLeDiff, Nat.reduceMul, reduceCtorEq, Int.reduceLT, Int.reduceLE, Int.reduceGT, Int.reduceGE, Int.reduceEq, Int.reduceNeg]))) | (refine callF_v (join43x (noS_new (c := Cfg.held {}) (by first | rfl | (simp only [upd_same, upd_at, set_at, *, ↓reduceIte]; done) | (simp only [upd_same, upd_at, set_at, *, ↓reduceIte]; rfl)) _) _) ?_; (try (simp (config := { contextual := true, dsimp := false }) only [*, CliC, Msg.cells, noMsg, noView, noTx, OpC.cells, ↓reduceIte, ↓evP, evQ, if_true, if_false, eq_self, binv, eqv, lenv, fillO, splice, fldv, Sp.eqa, eqL, eq1, Nat.reduceAdd, Nat.reduceEqDiff, Nat.reduceLeDiff, Nat.reduceMul, reduceCtorEq, Int.reduceLT, Int.reduceLE, Int.reduceGT, Int.reduceGE, Int.reduceEq, Int.reduceNeg]))) | (refine ccallF_of (commit39x (noS_new (c := Cfg.held {}) (by first | rfl | (simp only [upd_same, upd_at, set_at, *, ↓reduceIte]; done) | (simp only [upd_same, upd_at, set_at, *, ↓reduceIte]; rfl)) _)) ?_; (try (simp (config := { contextual := true, dsimp := false }) only [*, CliC, Msg.cells, noMsg, noView, noTx, OpC.cells, ↓reduceIte, ↓evP, evQ, if_true, if_false, eq_self, binv, eqv, lenv, fillO, splice, fldv, Sp.eqa, eqL, eq1, Nat.reduceAdd, Nat.reduceEqDiff, Nat.reduceLeDiff, Nat.reduceMul, reduceCtorEq, Int.reduceLT, Int.reduceLE, Int.reduceGT, Int.reduceGE, Int.reduceEq, Int.reduceNeg]))) | (refine ccallF_of (again40x (noS_new (c := Cfg.held {}) (by first | rfl | (simp only [upd_same, upd_at, set_at, *, ↓reduceIte]; done) | (simp only [upd_same, upd_at, set_at, *, ↓reduceIte]; rfl)) _) (rt_new (c := Cfg.held {}) (by first | rfl | (simp only [upd_same, upd_at, set_at, *, ↓reduceIte]; done) | (simp only [upd_same, upd_at, set_at, *, ↓reduceIte]; rfl)))) ?_; (try (simp (config := { contextual := true, dsimp := false }) only [*, CliC, Msg.cells, noMsg, noView, noTx, OpC.cells, ↓reduceIte, ↓evP, evQ, if_true, if_false, eq_self, binv, eqv, lenv, fillO, splice, fldv, Sp.eqa, eqL, eq1, Nat.reduceAdd, Nat.reduceEqDiff, Nat.reduceLeDiff, Nat.reduceMul, reduceCtorEq, Int.reduceLT, Int.reduceLE, Int.reduceGT, Int.reduceGE, Int.reduceEq, Int.reduceNeg]))) | (refine ccallF_of (token41x (noS_new (c := Cfg.held {}) (by first | rfl | (simp only [upd_same, upd_at, set_at, *, ↓reduceIte]; done) | (simp only [upd_same, upd_at, set_at, *, ↓reduceIte]; rfl)) _)) ?_; (try (simp (config := { contextual := true, dsimp := false }) only [*, CliC, Msg.cells, noMsg, noView, noTx, OpC.cells, ↓reduceIte, ↓evP, evQ, if_true, if_false, eq_self, binv, eqv, lenv, fillO, splice, fldv, Sp.eqa, eqL, eq1, Nat.reduceAdd, Nat.reduceEqDiff, Nat.reduceLeDiff, Nat.reduceMul, reduceCtorEq, Int.reduceLT, Int.reduceLE, Int.reduceGT, Int.reduceGE, Int.reduceEq, Int.reduceNeg]))) | (refine ccallF_of (begin32x (noS_new (c := Cfg.held {}) (by first | rfl | (simp only [upd_same, upd_at, set_at, *, ↓reduceIte]; done) | (simp only [upd_same, upd_at, set_at, *, ↓reduceIte]; rfl)) _)) ?_; (try (simp (config := { contextual := true, dsimp := false }) only [*, CliC, Msg.cells, noMsg, noView, noTx, OpC.cells, ↓reduceIte, ↓evP, evQ, if_true, if_false, eq_self, binv, eqv, lenv, fillO, splice, fldv, Sp.eqa, eqL, eq1, Nat.reduceAdd, Nat.reduceEqDiff, Nat.reduceLeDiff, Nat.reduceMul, reduceCtorEq, Int.reduceLT, Int.reduceLE, Int.reduceGT, Int.reduceGE, Int.reduceEq, Int.reduceNeg]))) | (refine ccallF_of (read34x (noT_new (c := Cfg.held {}) (by first | rfl | (simp only [upd_same, upd_at, set_at, *, ↓reduceIte]; done) | (simp only [upd_same, upd_at, set_at, *, ↓reduceIte]; rfl)) _) _) ?_; (try (simp (config := { contextual := true, dsimp := false }) only [*, CliC, Msg.cells, noMsg, noView, noTx, OpC.cells, ↓reduceIte, ↓evP, evQ, if_true, if_false, eq_self, binv, eqv, lenv, fillO, splice, fldv, Sp.eqa, eqL, eq1, Nat.reduceAdd, Nat.reduceEqDiff, Nat.reduceLeDiff, Nat.reduceMul, reduceCtorEq, Int.reduceLT, Int.reduceLE, Int.reduceGT, Int.reduceGE, Int.reduceEq, Int.reduceNeg]))) | (refine ccallF_of (retry42x (noT_new (c := Cfg.held {}) (by first | rfl | (simp only [upd_same, upd_at, set_at, *, ↓reduceIte]; done) | (simp only [upd_same, upd_at, set_at, *, ↓reduceIte]; rfl)) _) (rt_new (c := Cfg.held {}) (by first | rfl | (simp only [upd_same, upd_at, set_at, *, ↓reduceIte]; done) | (simp only [upd_same, upd_at, set_at, *, ↓reduceIte]; rfl)))) ?_; (try (simp (config := { contextual := true, dsimp := false }) only [*, CliC, Msg.cells, noMsg, noView, noTx, OpC.cells, ↓reduceIte, ↓evP, evQ, if_true, if_false, eq_self, binv, eqv, lenv, fillO, splice, fldv, Sp.eqa, eqL, eq1, Nat.reduceAdd, Nat.reduceEqDiff, Nat.reduceLeDiff, Nat.reduceMul, reduceCtorEq, Int.reduceLT, Int.reduceLE, Int.reduceGT, Int.reduceGE, Int.reduceEq, Int.reduceNeg]))) | (refine ccallF_of (finish36x (noT_new (c := Cfg.held {}) (by first | rfl | (simp only [upd_same, upd_at, set_at, *, ↓reduceIte]; done) | (simp only [upd_same, upd_at, set_at, *, ↓reduceIte]; rfl)) _)) ?_; (try (simp (config := { contextual := true, dsimp := false }) only [*, CliC, Msg.cells, noMsg, noView, noTx, OpC.cells, ↓reduceIte, ↓evP, evQ, if_true, if_false, eq_self, binv, eqv, lenv, fillO, splice, fldv, Sp.eqa, eqL, eq1, Nat.reduceAdd, Nat.reduceEqDiff, Nat.reduceLeDiff, Nat.reduceMul, reduceCtorEq, Int.reduceLT, Int.reduceLE, Int.reduceGT, Int.reduceGE, Int.reduceEq, Int.reduceNeg]))) | (refine ccallF_of (hear35x m (noS_new (c := Cfg.held {}) (by first | rfl | (simp only [upd_same, upd_at, set_at, *, ↓reduceIte]; done) | (simp only [upd_same, upd_at, set_at, *, ↓reduceIte]; rfl)) _) (noT_new (c := Cfg.held {}) (by first | rfl | (simp only [upd_same, upd_at, set_at, *, ↓reduceIte]; done) | (simp only [upd_same, upd_at, set_at, *, ↓reduceIte]; rfl)) _)) ?_; (try (simp (config := { contextual := true, dsimp := false }) only [*, CliC, Msg.cells, noMsg, noView, noTx, OpC.cells, ↓reduceIte, ↓evP, evQ, if_true, if_false, eq_self, binv, eqv, lenv, fillO, splice, fldv, Sp.eqa, eqL, eq1, Nat.reduceAdd, Nat.reduceEqDiff, Nat.reduceLeDiff, Nat.reduceMul, reduceCtorEq, Int.reduceLT, Int.reduceLE, Int.reduceGT, Int.reduceGE, Int.reduceEq, Int.reduceNeg]))) | (refine ccallF_of (session37x (noS_new (c := Cfg.held {}) (by first | rfl | (simp only [upd_same, upd_at, set_at, *, ↓reduceIte]; done) | (simp only [upd_same, upd_at, set_at, *, ↓reduceIte]; rfl)) _)) ?_; (try (simp (config := { contextual := true, dsimp := false }) only [*, CliC, Msg.cells, noMsg, noView, noTx, OpC.cells, ↓reduceIte, ↓evP, evQ, if_true, if_false, eq_self, binv, eqv, lenv, fillO, splice, fldv, Sp.eqa, eqL, eq1, Nat.reduceAdd, Nat.reduceEqDiff, Nat.reduceLeDiff, Nat.reduceMul, reduceCtorEq, Int.reduceLT, Int.reduceLE, Int.reduceGT, Int.reduceGE, Int.reduceEq, Int.reduceNeg]))) | (refine ccallF_of (tx33x (noT_new (c := Cfg.held {}) (by first | rfl | (simp only [upd_same, upd_at, set_at, *, ↓reduceIte]; done) | (simp only [upd_same, upd_at, set_at, *, ↓reduceIte]; rfl)) _)) ?_; (try (simp (config := { contextual := true, dsimp := false }) only [*, CliC, Msg.cells, noMsg, noView, noTx, OpC.cells, ↓reduceIte, ↓evP, evQ, if_true, if_false, eq_self, binv, eqv, lenv, fillO, splice, fldv, Sp.eqa, eqL, eq1, Nat.reduceAdd, Nat.reduceEqDiff, Nat.reduceLeDiff, Nat.reduceMul, reduceCtorEq, Int.reduceLT, Int.reduceLE, Int.reduceGT, Int.reduceGE, Int.reduceEq, Int.reduceNeg]))) | (refine ccallF_of (join43x (noS_new (c := Cfg.held {}) (by first | rfl | (simp only [upd_same, upd_at, set_at, *, ↓reduceIte]; done) | (simp only [upd_same, upd_at, set_at, *, ↓reduceIte]; rfl)) _) _) ?_; (try (simp (config := { contextual := true, dsimp := false }) only [*, CliC, Msg.cells, noMsg, noView, noTx, OpC.cells, ↓reduceIte, ↓evP, evQ, if_true, if_false, eq_self, binv, eqv, lenv, fillO, splice, fldv, Sp.eqa, eqL, eq1, Nat.reduceAdd, Nat.reduceEqDiff, Nat.reduceLeDiff, Nat.reduceMul, reduceCtorEq, Int.reduceLT, Int.reduceLE, Int.reduceGT, Int.reduceGE, Int.reduceEq, Int.reduceNeg]))) | (refine gcallF_of (commit39x (noS_new (c := Cfg.held {}) (by first | rfl | (simp only [upd_same, upd_at, set_at, *, ↓reduceIte]; done) | (simp only [upd_same, upd_at, set_at, *, ↓reduceIte]; rfl)) _)) ?_; (try (simp (config := { contextual := true, dsimp := false }) only [*, CliC, Msg.cells, noMsg, noView, noTx, OpC.cells, ↓reduceIte, ↓evP, evQ, if_true, if_false, eq_self, binv, eqv, lenv, fillO, splice, fldv, Sp.eqa, eqL, eq1, Nat.reduceAdd, Nat.reduceEqDiff, Nat.reduceLeDiff, Nat.reduceMul, reduceCtorEq, Int.reduceLT, Int.reduceLE, Int.reduceGT, Int.reduceGE, Int.reduceEq, Int.reduceNeg]))) | (refine gcallF_of (again40x (noS_new (c := Cfg.held {}) (by first | rfl | (simp only [upd_same, upd_at, set_at, *, ↓reduceIte]; done) | (simp only [upd_same, upd_at, set_at, *, ↓reduceIte]; rfl)) _) (rt_new (c := Cfg.held {}) (by first | rfl | (simp only [upd_same, upd_at, set_at, *, ↓reduceIte]; done) | (simp only [upd_same, upd_at, set_at, *, ↓reduceIte]; rfl)))) ?_; (try (simp (config := { contextual := true, dsimp := false }) only [*, CliC, Msg.cells, noMsg, noView, noTx, OpC.cells, ↓reduceIte, ↓evP, evQ, if_true, if_false, eq_self, binv, eqv, lenv, fillO, splice, fldv, Sp.eqa, eqL, eq1, Nat.reduceAdd, Nat.reduceEqDiff, Nat.reduceLeDiff, Nat.reduceMul, reduceCtorEq, Int.reduceLT, Int.reduceLE, Int.reduceGT, Int.reduceGE, Int.reduceEq, Int.reduceNeg]))) | (refine gcallF_of (token41x (noS_new (c := Cfg.held {}) (by first | rfl | (simp only [upd_same, upd_at, set_at, *, ↓reduceIte]; done) | (simp only [upd_same, upd_at, set_at, *, ↓reduceIte]; rfl)) _)) ?_; (try (simp (config := { contextual := true, dsimp := false }) only [*, CliC, Msg.cells, noMsg, noView, noTx, OpC.cells, ↓reduceIte, ↓evP, evQ, if_true, if_false, eq_self, binv, eqv, lenv, fillO, splice, fldv, Sp.eqa, eqL, eq1, Nat.reduceAdd, Nat.reduceEqDiff, Nat.reduceLeDiff, Nat.reduceMul, reduceCtorEq, Int.reduceLT, Int.reduceLE, Int.reduceGT, Int.reduceGE, Int.reduceEq, Int.reduceNeg]))) | (refine gcallF_of (begin32x (noS_new (c := Cfg.held {}) (by first | rfl | (simp only [upd_same, upd_at, set_at, *, ↓reduceIte]; done) | (simp only [upd_same, upd_at, set_at, *, ↓reduceIte]; rfl)) _)) ?_; (try (simp (config := { contextual := true, dsimp := false }) only [*, CliC, Msg.cells, noMsg, noView, noTx, OpC.cells, ↓reduceIte, ↓evP, evQ, if_true, if_false, eq_self, binv, eqv, lenv, fillO, splice, fldv, Sp.eqa, eqL, eq1, Nat.reduceAdd, Nat.reduceEqDiff, Nat.reduceLeDiff, Nat.reduceMul, reduceCtorEq, Int.reduceLT, Int.reduceLE, Int.reduceGT, Int.reduceGE, Int.reduceEq, Int.reduceNeg]))) | (refine gcallF_of (read34x (noT_new (c := Cfg.held {}) (by first | rfl | (simp only [upd_same, upd_at, set_at, *, ↓reduceIte]; done) | (simp only [upd_same, upd_at, set_at, *, ↓reduceIte]; rfl)) _) _) ?_; (try (simp (config := { contextual := true, dsimp := false }) only [*, CliC, Msg.cells, noMsg, noView, noTx, OpC.cells, ↓reduceIte, ↓evP, evQ, if_true, if_false, eq_self, binv, eqv, lenv, fillO, splice, fldv, Sp.eqa, eqL, eq1, Nat.reduceAdd, Nat.reduceEqDiff, Nat.reduceLeDiff, Nat.reduceMul, reduceCtorEq, Int.reduceLT, Int.reduceLE, Int.reduceGT, Int.reduceGE, Int.reduceEq, Int.reduceNeg]))) | (refine gcallF_of (retry42x (noT_new (c := Cfg.held {}) (by first | rfl | (simp only [upd_same, upd_at, set_at, *, ↓reduceIte]; done) | (simp only [upd_same, upd_at, set_at, *, ↓reduceIte]; rfl)) _) (rt_new (c := Cfg.held {}) (by first | rfl | (simp only [upd_same, upd_at, set_at, *, ↓reduceIte]; done) | (simp only [upd_same, upd_at, set_at, *, ↓reduceIte]; rfl)))) ?_; (try (simp (config := { contextual := true, dsimp := false }) only [*, CliC, Msg.cells, noMsg, noView, noTx, OpC.cells, ↓reduceIte, ↓evP, evQ, if_true, if_false, eq_self, binv, eqv, lenv, fillO, splice, fldv, Sp.eqa, eqL, eq1, Nat.reduceAdd, Nat.reduceEqDiff, Nat.reduceLeDiff, Nat.reduceMul, reduceCtorEq, Int.reduceLT, Int.reduceLE, Int.reduceGT, Int.reduceGE, Int.reduceEq, Int.reduceNeg]))) | (refine gcallF_of (finish36x (noT_new (c := Cfg.held {}) (by first | rfl | (simp only [upd_same, upd_at, set_at, *, ↓reduceIte]; done) | (simp only [upd_same, upd_at, set_at, *, ↓reduceIte]; rfl)) _)) ?_; (try (simp (config := { contextual := true, dsimp := false }) only [*, CliC, Msg.cells, noMsg, noView, noTx, OpC.cells, ↓reduceIte, ↓evP, evQ, if_true, if_false, eq_self, binv, eqv, lenv, fillO, splice, fldv, Sp.eqa, eqL, eq1, Nat.reduceAdd, Nat.reduceEqDiff, Nat.reduceLeDiff, Nat.reduceMul, reduceCtorEq, Int.reduceLT, Int.reduceLE, Int.reduceGT, Int.reduceGE, Int.reduceEq, Int.reduceNeg]))) | (refine gcallF_of (hear35x m (noS_new (c := Cfg.held {}) (by first | rfl | (simp only [upd_same, upd_at, set_at, *, ↓reduceIte]; done) | (simp only [upd_same, upd_at, set_at, *, ↓reduceIte]; rfl)) _) (noT_new (c := Cfg.held {}) (by first | rfl | (simp only [upd_same, upd_at, set_at, *, ↓reduceIte]; done) | (simp only [upd_same, upd_at, set_at, *, ↓reduceIte]; rfl)) _)) ?_; (try (simp (config := { contextual := true, dsimp := false }) only [*, CliC, Msg.cells, noMsg, noView, noTx, OpC.cells, ↓reduceIte, ↓evP, evQ, if_true, if_false, eq_self, binv, eqv, lenv, fillO, splice, fldv, Sp.eqa, eqL, eq1, Nat.reduceAdd, Nat.reduceEqDiff, Nat.reduceLeDiff, Nat.reduceMul, reduceCtorEq, Int.reduceLT, Int.reduceLE, Int.reduceGT, Int.reduceGE, Int.reduceEq, Int.reduceNeg]))) | (refine gcallF_of (session37x (noS_new (c := Cfg.held {}) (by first | rfl | (simp only [upd_same, upd_at, set_at, *, ↓reduceIte]; done) | (simp only [upd_same, upd_at, set_at, *, ↓reduceIte]; rfl)) _)) ?_; (try (simp (config := { contextual := true, dsimp := false }) only [*, CliC, Msg.cells, noMsg, noView, noTx, OpC.cells, ↓reduceIte, ↓evP, evQ, if_true, if_false, eq_self, binv, eqv, lenv, fillO, splice, fldv, Sp.eqa, eqL, eq1, Nat.reduceAdd, Nat.reduceEqDiff, Nat.reduceLeDiff, Nat.reduceMul, reduceCtorEq, Int.reduceLT, Int.reduceLE, Int.reduceGT, Int.reduceGE, Int.reduceEq, Int.reduceNeg]))) | (refine gcallF_of (tx33x (noT_new (c := Cfg.held {}) (by first | rfl | (simp only [upd_same, upd_at, set_at, *, ↓reduceIte]; done) | (simp only [upd_same, upd_at, set_at, *, ↓reduceIte]; rfl)) _)) ?_; (try (simp (config := { contextual := true, dsimp := false }) only [*, CliC, Msg.cells, noMsg, noView, noTx, OpC.cells, ↓reduceIte, ↓evP, evQ, if_true, if_false, eq_self, binv, eqv, lenv, fillO, splice, fldv, Sp.eqa, eqL, eq1, Nat.reduceAdd, Nat.reduceEqDiff, Nat.reduceLeDiff, Nat.reduceMul, reduceCtorEq, Int.reduceLT, Int.reduceLE, Int.reduceGT, Int.reduceGE, Int.reduceEq, Int.reduceNeg]))) | (refine gcallF_of (join43x (noS_new (c := Cfg.held {}) (by first | rfl | (simp only [upd_same, upd_at, set_at, *, ↓reduceIte]; done) | (simp only [upd_same, upd_at, set_at, *, ↓reduceIte]; rfl)) _) _) ?_; (try (simp (config := { contextual := true, dsimp := false }) only [*, CliC, Msg.cells, noMsg, noView, noTx, OpC.cells, ↓reduceIte, ↓evP, evQ, if_true, if_false, eq_self, binv, eqv, lenv, fillO, splice, fldv, Sp.eqa, eqL, eq1, Nat.reduceAdd, Nat.reduceEqDiff, Nat.reduceLeDiff, Nat.reduceMul, reduceCtorEq, Int.reduceLT, Int.reduceLE, Int.reduceGT, Int.reduceGE, Int.reduceEq, Int.reduceNeg]))) | (intro _; intros) | ((refine And.intro ?_ ?_; focus (first | omega | (first | exact Sub.refl _ | ((repeat (first | exact Sub.refl _ | (refine Sub.drop ?_ ?_; focus (simp only [none_upd, none_set, not_false_eq_true, true_and, and_true, *]; done)) | refine Sub.both ?_)); done)) | ((simp only [decide_eq_true_eq, decide_eq_false_iff_not] at *); omega) | (simp_all; done) | (simp_all; omega))); (try (simp (config := { contextual := true, dsimp := false }) only [*, CliC, Msg.cells, noMsg, noView, noTx, OpC.cells, ↓reduceIte, ↓evP, evQ, if_true, if_false, eq_self, binv, eqv, lenv, fillO, splice, fldv, Sp.eqa, eqL, eq1, Nat.reduceAdd, Nat.reduceEqDiff, Nat.reduceLeDiff, Nat.reduceMul, reduceCtorEq, Int.reduceLT, Int.reduceLE, Int.reduceGT, Int.reduceGE, Int.reduceEq, Int.reduceNeg])))))
    exact nextF_of 0 (by omega) (by (first | exact Sub.refl _ | ((repeat (first | exact Sub.refl _ | (refine Sub.drop ?_ ?_; focus (simp only [none_upd, none_set, not_false_eq_true, true_and, and_true, *]; done)) | refine Sub.both ?_)); done))) ⟨2, by omega, rfl, (by simp only [↓putO_get, ↓putO_no, init_zero, init_succ, Nat.reduceEqDiff, ↓reduceIte, *]; rfl), (by first | rfl | (simp only [↓putO_get, ↓putO_no, init_zero, init_succ, Nat.reduceEqDiff, ↓reduceIte, *]; done) | (simp only [↓putO_get, ↓putO_no, init_zero, init_succ, Nat.reduceEqDiff, ↓reduceIte, *]; rfl)), (by first | rfl | (simp only [↓putO_get, ↓putO_no, init_zero, init_succ, Nat.reduceEqDiff, ↓reduceIte, *]; done) | (simp only [↓putO_get, ↓putO_no, init_zero, init_succ, Nat.reduceEqDiff, ↓reduceIte, *]; rfl)), rfl⟩
  · simp (config := { contextual := true, dsimp := false }) only [*, CliC, Msg.cells, noMsg, noView, noTx, OpC.cells, ↓reduceIte, ↓evP, evQ, if_true, if_false, eq_self, binv, eqv, lenv, fillO, splice, fldv, Sp.eqa, eqL, eq1, Nat.reduceAdd, Nat.reduceEqDiff, Nat.reduceLeDiff, Nat.reduceMul, reduceCtorEq, Int.reduceLT, Int.reduceLE, Int.reduceGT, Int.reduceGE, Int.reduceEq, Int.reduceNeg]
    (repeat' (first | (refine condF_split (fun hc => ?_) (fun hc => ?_) <;> (try simp only [Bool.not_eq_true', Bool.not_eq_false', Bool.and_eq_true, Bool.or_eq_false_iff] at hc) <;> (try (simp (config := { contextual := true, dsimp := false }) only [*, CliC, Msg.cells, noMsg, noView, noTx, OpC.cells, ↓reduceIte, ↓evP, evQ, if_true, if_false, eq_self, binv, eqv, lenv, fillO, splice, fldv, Sp.eqa, eqL, eq1, Nat.reduceAdd, Nat.reduceEqDiff, Nat.reduceLeDiff, Nat.reduceMul, reduceCtorEq, Int.reduceLT, Int.reduceLE, Int.reduceGT, Int.reduceGE, Int.reduceEq, Int.reduceNeg]))) | (intro _; intros) | ((refine And.intro ?_ ?_; focus (first | omega | (first | exact Sub.refl _ | ((repeat (first | exact Sub.refl _ | (refine Sub.drop ?_ ?_; focus (simp only [none_upd, none_set, not_false_eq_true, true_and, and_true, *]; done)) | refine Sub.both ?_)); done)) | ((simp only [decide_eq_true_eq, decide_eq_false_iff_not] at *); omega) | (simp_all; done) | (simp_all; omega))); (try (simp (config := { contextual := true, dsimp := false }) only [*, CliC, Msg.cells, noMsg, noView, noTx, OpC.cells, ↓reduceIte, ↓evP, evQ, if_true, if_false, eq_self, binv, eqv, lenv, fillO, splice, fldv, Sp.eqa, eqL, eq1, Nat.reduceAdd, Nat.reduceEqDiff, Nat.reduceLeDiff, Nat.reduceMul, reduceCtorEq, Int.reduceLT, Int.reduceLE, Int.reduceGT, Int.reduceGE, Int.reduceEq, Int.reduceNeg])))))
    exact endF_det rfl (by (first | exact Sub.refl _ | ((repeat (first | exact Sub.refl _ | (refine Sub.drop ?_ ?_; focus (simp only [none_upd, none_set, not_false_eq_true, true_and, and_true, *]; done)) | refine Sub.both ?_)); done)))
end Go.Proofs.YtaoafjlocjjbbaaDoor

-- D19
namespace Go.Proofs.YtaoafjlocjjbbaaDoor
open Go.Sp
set_option linter.unusedSimpArgs false
set_option linter.unusedVariables false
set_option maxHeartbeats 4000000 in
set_option maxRecDepth 100000 in
theorem full10 {σ : Hp} (hG : Glob σ) (n m : Int) (hn : 0 ≤ n ∧ n ≤ 65535) (hm : 0 ≤ m ∧ m ≤ 65535) : ACalls Tryd.prog 10 #[.int .u16 n, .int .u16 m] σ fun u σ' => u = .bool true ∧ σ' = σ := by
  have HG := Hid.mk hG
  clear hG
  (refine acalls_F ok10 (by simp) ?_; unfold c10 r10; simp (config := { contextual := true, dsimp := false }) only [CliC, Msg.cells, ↓reduceIte, ↓evP, evQ, if_true, if_false, eq_self, binv, eqv, lenv, fillO, splice, fldv, Sp.eqa, eqL, eq1, Nat.reduceAdd, Nat.reduceEqDiff, Nat.reduceLeDiff, Nat.reduceMul, reduceCtorEq, Int.reduceLT, Int.reduceLE, Int.reduceGT, Int.reduceGE, Int.reduceEq, Int.reduceNeg])
  (repeat' (first | (refine condF_split (fun hc => ?_) (fun hc => ?_) <;> (try simp only [Bool.not_eq_true', Bool.not_eq_false', Bool.and_eq_true, Bool.or_eq_false_iff] at hc) <;> (try (simp (config := { contextual := true, dsimp := false }) only [*, CliC, Msg.cells, ↓reduceIte, ↓evP, evQ, if_true, if_false, eq_self, binv, eqv, lenv, fillO, splice, fldv, Sp.eqa, eqL, eq1, Nat.reduceAdd, Nat.reduceEqDiff, Nat.reduceLeDiff, Nat.reduceMul, reduceCtorEq, Int.reduceLT, Int.reduceLE, Int.reduceGT, Int.reduceGE, Int.reduceEq, Int.reduceNeg]))) | (refine callF_v (fixed29 (HG.out.sub (by (first | exact Sub.refl _ | ((repeat (first | exact Sub.refl _ | (refine Sub.drop ?_ ?_; focus (simp only [none_upd, none_set, not_false_eq_true, true_and, and_true, *]; done)) | refine Sub.both ?_)); done))))) ?_; (try (simp (config := { contextual := true, dsimp := false }) only [*, CliC, Msg.cells, ↓reduceIte, ↓evP, evQ, if_true, if_false, eq_self, binv, eqv, lenv, fillO, splice, fldv, Sp.eqa, eqL, eq1, Nat.reduceAdd, Nat.reduceEqDiff, Nat.reduceLeDiff, Nat.reduceMul, reduceCtorEq, Int.reduceLT, Int.reduceLE, Int.reduceGT, Int.reduceGE, Int.reduceEq, Int.reduceNeg]))) | (refine ccallF_of (fixed29 (HG.out.sub (by (first | exact Sub.refl _ | ((repeat (first | exact Sub.refl _ | (refine Sub.drop ?_ ?_; focus (simp only [none_upd, none_set, not_false_eq_true, true_and, and_true, *]; done)) | refine Sub.both ?_)); done))))) ?_; (try (simp (config := { contextual := true, dsimp := false }) only [*, CliC, Msg.cells, ↓reduceIte, ↓evP, evQ, if_true, if_false, eq_self, binv, eqv, lenv, fillO, splice, fldv, Sp.eqa, eqL, eq1, Nat.reduceAdd, Nat.reduceEqDiff, Nat.reduceLeDiff, Nat.reduceMul, reduceCtorEq, Int.reduceLT, Int.reduceLE, Int.reduceGT, Int.reduceGE, Int.reduceEq, Int.reduceNeg]))) | (refine gcallF_of (fixed29 (HG.out.sub (by (first | exact Sub.refl _ | ((repeat (first | exact Sub.refl _ | (refine Sub.drop ?_ ?_; focus (simp only [none_upd, none_set, not_false_eq_true, true_and, and_true, *]; done)) | refine Sub.both ?_)); done))))) ?_; (try (simp (config := { contextual := true, dsimp := false }) only [*, CliC, Msg.cells, ↓reduceIte, ↓evP, evQ, if_true, if_false, eq_self, binv, eqv, lenv, fillO, splice, fldv, Sp.eqa, eqL, eq1, Nat.reduceAdd, Nat.reduceEqDiff, Nat.reduceLeDiff, Nat.reduceMul, reduceCtorEq, Int.reduceLT, Int.reduceLE, Int.reduceGT, Int.reduceGE, Int.reduceEq, Int.reduceNeg]))) | (intro _; intros) | ((refine And.intro ?_ ?_; focus (first | omega | (first | exact Sub.refl _ | ((repeat (first | exact Sub.refl _ | (refine Sub.drop ?_ ?_; focus (simp only [none_upd, none_set, not_false_eq_true, true_and, and_true, *]; done)) | refine Sub.both ?_)); done)) | ((simp only [decide_eq_true_eq, decide_eq_false_iff_not] at *); omega) | (simp_all; done) | (simp_all; omega))); (try (simp (config := { contextual := true, dsimp := false }) only [*, CliC, Msg.cells, ↓reduceIte, ↓evP, evQ, if_true, if_false, eq_self, binv, eqv, lenv, fillO, splice, fldv, Sp.eqa, eqL, eq1, Nat.reduceAdd, Nat.reduceEqDiff, Nat.reduceLeDiff, Nat.reduceMul, reduceCtorEq, Int.reduceLT, Int.reduceLE, Int.reduceGT, Int.reduceGE, Int.reduceEq, Int.reduceNeg])))))
  refine callF_of (newCli {} σ) ?_
  rintro u σ1 ⟨g, rfl, h1⟩
  generalize Cfg.held {} = c0 at h1
  have H1 := Hid.mk h1
  clear h1
  simp (config := { contextual := true, dsimp := false }) only [*, CliC, Msg.cells, ↓reduceIte, ↓evP, evQ, if_true, if_false, eq_self, binv, eqv, lenv, fillO, splice, fldv, Sp.eqa, eqL, eq1, Nat.reduceAdd, Nat.reduceEqDiff, Nat.reduceLeDiff, Nat.reduceMul, reduceCtorEq, Int.reduceLT, Int.reduceLE, Int.reduceGT, Int.reduceGE, Int.reduceEq, Int.reduceNeg]
  obtain ⟨N, hN⟩ : ∃ N : Nat, n.tmod 100 = N := ⟨(n % 100).toNat, by rw [Int.tmod_eq_emod_of_nonneg hn.1]; omega⟩
  have hN1 : N < 100 := by rw [Int.tmod_eq_emod_of_nonneg hn.1] at hN; omega
  have hN2 : IntKind.i64.wrap (N : Int) = N := wi64 (by omega)
  refine loopF_of (fun k s σ' => ∃ (i : Nat) (C : CL), i ≤ N ∧ k = N - i ∧ s 0 = .int .u16 n ∧ s 1 = .int .u16 m ∧ s 5 = .pointer (some ⟨g, 0, none⟩) ∧ s 6 = .int .i64 i ∧ C.g = g ∧ C.ss.length = min i 64 ∧ C.ts = [] ∧ Cli σ σ' C) N (Sub.refl _) ⟨0, _, by omega, rfl, (by first | rfl | (simp only [↓putO_get, ↓putO_no, init_zero, init_succ, Nat.reduceEqDiff, ↓reduceIte, *]; done) | (simp only [↓putO_get, ↓putO_no, init_zero, init_succ, Nat.reduceEqDiff, ↓reduceIte, *]; rfl)), (by first | rfl | (simp only [↓putO_get, ↓putO_no, init_zero, init_succ, Nat.reduceEqDiff, ↓reduceIte, *]; done) | (simp only [↓putO_get, ↓putO_no, init_zero, init_succ, Nat.reduceEqDiff, ↓reduceIte, *]; rfl)), (by first | rfl | (simp only [↓putO_get, ↓putO_no, init_zero, init_succ, Nat.reduceEqDiff, ↓reduceIte, *]; done) | (simp only [↓putO_get, ↓putO_no, init_zero, init_succ, Nat.reduceEqDiff, ↓reduceIte, *]; rfl)), (by first | rfl | (simp only [↓putO_get, ↓putO_no, init_zero, init_succ, Nat.reduceEqDiff, ↓reduceIte, *]; done) | (simp only [↓putO_get, ↓putO_no, init_zero, init_succ, Nat.reduceEqDiff, ↓reduceIte, *]; rfl)), rfl, rfl, rfl, H1.out⟩ ?_
  clear H1 σ1
  rintro k s σ' ⟨i, C, hi, rfl, s0, s1, s5, s6, hCg, hl, hts, h⟩
  have H := Hid.mk h
  clear h
  have HL := Hid.mk (And.intro hl (And.intro hts hCg))
  clear hl hts hCg
  rcases Nat.lt_or_ge i N with hlt | hge
  · have hd : decide ((i : Int) < (N : Int)) = true := by simp; omega
    have e1 : IntKind.i64.wrap ((i : Int) + 1) = ((i + 1 : Nat) : Int) := by rw [wi64 (by omega)]; rfl
    simp (config := { contextual := true, dsimp := false }) only [*, CliC, Msg.cells, ↓reduceIte, ↓evP, evQ, if_true, if_false, eq_self, binv, eqv, lenv, fillO, splice, fldv, Sp.eqa, eqL, eq1, Nat.reduceAdd, Nat.reduceEqDiff, Nat.reduceLeDiff, Nat.reduceMul, reduceCtorEq, Int.reduceLT, Int.reduceLE, Int.reduceGT, Int.reduceGE, Int.reduceEq, Int.reduceNeg]
    rcases Nat.lt_or_ge i 64 with h64 | h64
    · have q := openC H.out.at_ (by rw [HL.out.1]; omega)
      rw [HL.out.2.2, HL.out.1, Nat.min_eq_left (by omega)] at q
      refine callF_of q ?_
      clear q
      rintro u σ2 ⟨rfl, k, vs, mv⟩
      have H2 := Hid.mk (H.out.on mv)
      clear mv
      have d1 : decide ((i : Int) < 64) = true := by simp; omega
      have d2 : decide ((i : Int) ≥ 64) = false := by simp; omega
      have d3 : decide ((i : Int) = (i : Int)) = true := by simp
      simp (config := { contextual := true, dsimp := false }) only [*, CliC, Msg.cells, ↓reduceIte, ↓evP, evQ, if_true, if_false, eq_self, binv, eqv, lenv, fillO, splice, fldv, Sp.eqa, eqL, eq1, Nat.reduceAdd, Nat.reduceEqDiff, Nat.reduceLeDiff, Nat.reduceMul, reduceCtorEq, Int.reduceLT, Int.reduceLE, Int.reduceGT, Int.reduceGE, Int.reduceEq, Int.reduceNeg]
      (repeat' (first | (refine condF_split (fun hc => ?_) (fun hc => ?_) <;> (try simp only [Bool.not_eq_true', Bool.not_eq_false', Bool.and_eq_true, Bool.or_eq_false_iff] at hc) <;> (try (simp (config := { contextual := true, dsimp := false }) only [*, CliC, Msg.cells, ↓reduceIte, ↓evP, evQ, if_true, if_false, eq_self, binv, eqv, lenv, fillO, splice, fldv, Sp.eqa, eqL, eq1, Nat.reduceAdd, Nat.reduceEqDiff, Nat.reduceLeDiff, Nat.reduceMul, reduceCtorEq, Int.reduceLT, Int.reduceLE, Int.reduceGT, Int.reduceGE, Int.reduceEq, Int.reduceNeg]))) | (intro _; intros) | ((refine And.intro ?_ ?_; focus (first | omega | (first | exact Sub.refl _ | ((repeat (first | exact Sub.refl _ | (refine Sub.drop ?_ ?_; focus (simp only [none_upd, none_set, not_false_eq_true, true_and, and_true, *]; done)) | refine Sub.both ?_)); done)) | ((simp only [decide_eq_true_eq, decide_eq_false_iff_not] at *); omega) | (simp_all; done) | (simp_all; omega))); (try (simp (config := { contextual := true, dsimp := false }) only [*, CliC, Msg.cells, ↓reduceIte, ↓evP, evQ, if_true, if_false, eq_self, binv, eqv, lenv, fillO, splice, fldv, Sp.eqa, eqL, eq1, Nat.reduceAdd, Nat.reduceEqDiff, Nat.reduceLeDiff, Nat.reduceMul, reduceCtorEq, Int.reduceLT, Int.reduceLE, Int.reduceGT, Int.reduceGE, Int.reduceEq, Int.reduceNeg])))))
      exact nextF_of (N - (i + 1)) (by omega) (Sub.refl _) ⟨i + 1, C.opens k vs, by omega, rfl, (by first | rfl | (simp only [↓putO_get, ↓putO_no, init_zero, init_succ, Nat.reduceEqDiff, ↓reduceIte, *]; done) | (simp only [↓putO_get, ↓putO_no, init_zero, init_succ, Nat.reduceEqDiff, ↓reduceIte, *]; rfl)), (by first | rfl | (simp only [↓putO_get, ↓putO_no, init_zero, init_succ, Nat.reduceEqDiff, ↓reduceIte, *]; done) | (simp only [↓putO_get, ↓putO_no, init_zero, init_succ, Nat.reduceEqDiff, ↓reduceIte, *]; rfl)), (by first | rfl | (simp only [↓putO_get, ↓putO_no, init_zero, init_succ, Nat.reduceEqDiff, ↓reduceIte, *]; done) | (simp only [↓putO_get, ↓putO_no, init_zero, init_succ, Nat.reduceEqDiff, ↓reduceIte, *]; rfl)), (by first | rfl | (simp only [↓putO_get, ↓putO_no, init_zero, init_succ, Nat.reduceEqDiff, ↓reduceIte, *]; done) | (simp only [↓putO_get, ↓putO_no, init_zero, init_succ, Nat.reduceEqDiff, ↓reduceIte, *]; rfl)), HL.out.2.2, by show (C.ss ++ [_]).length = _; rw [List.length_append, HL.out.1]; show _ + 1 = _; omega, HL.out.2.1, H2.out⟩
    · have q := openF H.out.at_ (by rw [HL.out.1]; omega)
      rw [HL.out.2.2] at q
      have d1 : decide ((i : Int) < 64) = false := by simp; omega
      have d2 : decide ((i : Int) ≥ 64) = true := by simp; omega
      refine callF_v q ?_
      clear q
      simp (config := { contextual := true, dsimp := false }) only [*, CliC, Msg.cells, ↓reduceIte, ↓evP, evQ, if_true, if_false, eq_self, binv, eqv, lenv, fillO, splice, fldv, Sp.eqa, eqL, eq1, Nat.reduceAdd, Nat.reduceEqDiff, Nat.reduceLeDiff, Nat.reduceMul, reduceCtorEq, Int.reduceLT, Int.reduceLE, Int.reduceGT, Int.reduceGE, Int.reduceEq, Int.reduceNeg]
      (repeat' (first | (refine condF_split (fun hc => ?_) (fun hc => ?_) <;> (try simp only [Bool.not_eq_true', Bool.not_eq_false', Bool.and_eq_true, Bool.or_eq_false_iff] at hc) <;> (try (simp (config := { contextual := true, dsimp := false }) only [*, CliC, Msg.cells, ↓reduceIte, ↓evP, evQ, if_true, if_false, eq_self, binv, eqv, lenv, fillO, splice, fldv, Sp.eqa, eqL, eq1, Nat.reduceAdd, Nat.reduceEqDiff, Nat.reduceLeDiff, Nat.reduceMul, reduceCtorEq, Int.reduceLT, Int.reduceLE, Int.reduceGT, Int.reduceGE, Int.reduceEq, Int.reduceNeg]))) | (intro _; intros) | ((refine And.intro ?_ ?_; focus (first | omega | (first | exact Sub.refl _ | ((repeat (first | exact Sub.refl _ | (refine Sub.drop ?_ ?_; focus (simp only [none_upd, none_set, not_false_eq_true, true_and, and_true, *]; done)) | refine Sub.both ?_)); done)) | ((simp only [decide_eq_true_eq, decide_eq_false_iff_not] at *); omega) | (simp_all; done) | (simp_all; omega))); (try (simp (config := { contextual := true, dsimp := false }) only [*, CliC, Msg.cells, ↓reduceIte, ↓evP, evQ, if_true, if_false, eq_self, binv, eqv, lenv, fillO, splice, fldv, Sp.eqa, eqL, eq1, Nat.reduceAdd, Nat.reduceEqDiff, Nat.reduceLeDiff, Nat.reduceMul, reduceCtorEq, Int.reduceLT, Int.reduceLE, Int.reduceGT, Int.reduceGE, Int.reduceEq, Int.reduceNeg])))))
      exact nextF_of (N - (i + 1)) (by omega) (Sub.refl _) ⟨i + 1, _, by omega, rfl, (by first | rfl | (simp only [↓putO_get, ↓putO_no, init_zero, init_succ, Nat.reduceEqDiff, ↓reduceIte, *]; done) | (simp only [↓putO_get, ↓putO_no, init_zero, init_succ, Nat.reduceEqDiff, ↓reduceIte, *]; rfl)), (by first | rfl | (simp only [↓putO_get, ↓putO_no, init_zero, init_succ, Nat.reduceEqDiff, ↓reduceIte, *]; done) | (simp only [↓putO_get, ↓putO_no, init_zero, init_succ, Nat.reduceEqDiff, ↓reduceIte, *]; rfl)), (by first | rfl | (simp only [↓putO_get, ↓putO_no, init_zero, init_succ, Nat.reduceEqDiff, ↓reduceIte, *]; done) | (simp only [↓putO_get, ↓putO_no, init_zero, init_succ, Nat.reduceEqDiff, ↓reduceIte, *]; rfl)), (by first | rfl | (simp only [↓putO_get, ↓putO_no, init_zero, init_succ, Nat.reduceEqDiff, ↓reduceIte, *]; done) | (simp only [↓putO_get, ↓putO_no, init_zero, init_succ, Nat.reduceEqDiff, ↓reduceIte, *]; rfl)), HL.out.2.2, by rw [HL.out.1]; omega, HL.out.2.1, H.out⟩
  · have hd : decide ((i : Int) < (N : Int)) = false := by simp; omega
    obtain rfl : i = N := by omega
    simp (config := { contextual := true, dsimp := false }) only [*, CliC, Msg.cells, ↓reduceIte, ↓evP, evQ, if_true, if_false, eq_self, binv, eqv, lenv, fillO, splice, fldv, Sp.eqa, eqL, eq1, Nat.reduceAdd, Nat.reduceEqDiff, Nat.reduceLeDiff, Nat.reduceMul, reduceCtorEq, Int.reduceLT, Int.reduceLE, Int.reduceGT, Int.reduceGE, Int.reduceEq, Int.reduceNeg]
    rcases Nat.eq_zero_or_pos i with h0 | h0
    · have d1 : decide ((i : Int) = 0) = true := by simp; omega
      have q := begin32x (c := .pointer (some ⟨g, 0, none⟩)) (s := 0) (σ := σ') (by rw [← HL.out.2.2]; exact noS H.out.at_ (by rw [HL.out.1]; simp; omega))
      simp (config := { contextual := true, dsimp := false }) only [*, CliC, Msg.cells, ↓reduceIte, ↓evP, evQ, if_true, if_false, eq_self, binv, eqv, lenv, fillO, splice, fldv, Sp.eqa, eqL, eq1, Nat.reduceAdd, Nat.reduceEqDiff, Nat.reduceLeDiff, Nat.reduceMul, reduceCtorEq, Int.reduceLT, Int.reduceLE, Int.reduceGT, Int.reduceGE, Int.reduceEq, Int.reduceNeg]
      refine callF_v q ?_
      clear q
      simp (config := { contextual := true, dsimp := false }) only [*, CliC, Msg.cells, ↓reduceIte, ↓evP, evQ, if_true, if_false, eq_self, binv, eqv, lenv, fillO, splice, fldv, Sp.eqa, eqL, eq1, Nat.reduceAdd, Nat.reduceEqDiff, Nat.reduceLeDiff, Nat.reduceMul, reduceCtorEq, Int.reduceLT, Int.reduceLE, Int.reduceGT, Int.reduceGE, Int.reduceEq, Int.reduceNeg]
      (repeat' (first | (refine condF_split (fun hc => ?_) (fun hc => ?_) <;> (try simp only [Bool.not_eq_true', Bool.not_eq_false', Bool.and_eq_true, Bool.or_eq_false_iff] at hc) <;> (try (simp (config := { contextual := true, dsimp := false }) only [*, CliC, Msg.cells, ↓reduceIte, ↓evP, evQ, if_true, if_false, eq_self, binv, eqv, lenv, fillO, splice, fldv, Sp.eqa, eqL, eq1, Nat.reduceAdd, Nat.reduceEqDiff, Nat.reduceLeDiff, Nat.reduceMul, reduceCtorEq, Int.reduceLT, Int.reduceLE, Int.reduceGT, Int.reduceGE, Int.reduceEq, Int.reduceNeg]))) | (intro _; intros) | ((refine And.intro ?_ ?_; focus (first | omega | (first | exact Sub.refl _ | ((repeat (first | exact Sub.refl _ | (refine Sub.drop ?_ ?_; focus (simp only [none_upd, none_set, not_false_eq_true, true_and, and_true, *]; done)) | refine Sub.both ?_)); done)) | ((simp only [decide_eq_true_eq, decide_eq_false_iff_not] at *); omega) | (simp_all; done) | (simp_all; omega))); (try (simp (config := { contextual := true, dsimp := false }) only [*, CliC, Msg.cells, ↓reduceIte, ↓evP, evQ, if_true, if_false, eq_self, binv, eqv, lenv, fillO, splice, fldv, Sp.eqa, eqL, eq1, Nat.reduceAdd, Nat.reduceEqDiff, Nat.reduceLeDiff, Nat.reduceMul, reduceCtorEq, Int.reduceLT, Int.reduceLE, Int.reduceGT, Int.reduceGE, Int.reduceEq, Int.reduceNeg])))))
      exact endF_det rfl H.out.sub
    · have d1 : decide ((i : Int) = 0) = false := by simp; omega
      simp (config := { contextual := true, dsimp := false }) only [*, CliC, Msg.cells, ↓reduceIte, ↓evP, evQ, if_true, if_false, eq_self, binv, eqv, lenv, fillO, splice, fldv, Sp.eqa, eqL, eq1, Nat.reduceAdd, Nat.reduceEqDiff, Nat.reduceLeDiff, Nat.reduceMul, reduceCtorEq, Int.reduceLT, Int.reduceLE, Int.reduceGT, Int.reduceGE, Int.reduceEq, Int.reduceNeg]
      obtain ⟨M, hM⟩ : ∃ M : Nat, m.tmod 300 = M := ⟨(m % 300).toNat, by rw [Int.tmod_eq_emod_of_nonneg hm.1]; omega⟩
      have hM1 : M < 300 := by rw [Int.tmod_eq_emod_of_nonneg hm.1] at hM; omega
      have hM2 : IntKind.i64.wrap (M : Int) = M := wi64 (by omega)
      obtain ⟨L, hL⟩ : ∃ L : Nat, L = min i 64 := ⟨_, rfl⟩
      have hL1 : mnI (i : Int) 64 = L := by unfold mnI; split <;> omega
      have hL0 : 0 < L := by omega
      rw [← hL] at HL
      clear hL
      refine loopF_of (fun k s σ' => ∃ (j : Nat) (C : CL), j ≤ M ∧ k = M - j ∧ s 0 = .int .u16 n ∧ s 1 = .int .u16 m ∧ s 5 = .pointer (some ⟨g, 0, none⟩) ∧ s 11 = .int .i64 j ∧ C.g = g ∧ C.ss.length = L ∧ C.ts.length = min j 256 ∧ Cli σ σ' C) M (Sub.refl _) ⟨0, C, by omega, rfl, (by first | rfl | (simp only [↓putO_get, ↓putO_no, init_zero, init_succ, Nat.reduceEqDiff, ↓reduceIte, *]; done) | (simp only [↓putO_get, ↓putO_no, init_zero, init_succ, Nat.reduceEqDiff, ↓reduceIte, *]; rfl)), (by first | rfl | (simp only [↓putO_get, ↓putO_no, init_zero, init_succ, Nat.reduceEqDiff, ↓reduceIte, *]; done) | (simp only [↓putO_get, ↓putO_no, init_zero, init_succ, Nat.reduceEqDiff, ↓reduceIte, *]; rfl)), (by first | rfl | (simp only [↓putO_get, ↓putO_no, init_zero, init_succ, Nat.reduceEqDiff, ↓reduceIte, *]; done) | (simp only [↓putO_get, ↓putO_no, init_zero, init_succ, Nat.reduceEqDiff, ↓reduceIte, *]; rfl)), (by first | rfl | (simp only [↓putO_get, ↓putO_no, init_zero, init_succ, Nat.reduceEqDiff, ↓reduceIte, *]; done) | (simp only [↓putO_get, ↓putO_no, init_zero, init_succ, Nat.reduceEqDiff, ↓reduceIte, *]; rfl)), HL.out.2.2, HL.out.1, by rw [HL.out.2.1]; rfl, H.out⟩ ?_
      clear H HL s0 s1 s5 s6 s σ' C
      rintro k s σ' ⟨j, C, hj, rfl, s0, s1, s5, s11, hCg, hl, hts, h⟩
      have H := Hid.mk h
      clear h
      have HL := Hid.mk (And.intro hl (And.intro hts hCg))
      clear hl hts hCg
      rcases Nat.lt_or_ge j M with hlt | hge
      · have hd : decide ((j : Int) < (M : Int)) = true := by simp; omega
        have e1 : IntKind.i64.wrap ((j : Int) + 1) = ((j + 1 : Nat) : Int) := by rw [wi64 (by omega)]; rfl
        have hr : (j : Int).tmod (L : Int) = ((j % L : Nat) : Int) := by rw [Int.tmod_eq_emod_of_nonneg (by omega)]; rfl
        have hr1 : j % L < L := Nat.mod_lt _ hL0
        generalize j % L = r at hr hr1
        obtain ⟨S, hS⟩ : ∃ S, C.ss[r]? = some S := ⟨_, List.getElem?_eq_getElem (by rw [HL.out.1]; exact hr1)⟩
        have HS := Hid.mk hS
        clear hS
        have hL2 : ¬ (L : Int) = 0 := by omega
        simp (config := { contextual := true, dsimp := false }) only [*, CliC, Msg.cells, ↓reduceIte, ↓evP, evQ, if_true, if_false, eq_self, binv, eqv, lenv, fillO, splice, fldv, Sp.eqa, eqL, eq1, Nat.reduceAdd, Nat.reduceEqDiff, Nat.reduceLeDiff, Nat.reduceMul, reduceCtorEq, Int.reduceLT, Int.reduceLE, Int.reduceGT, Int.reduceGE, Int.reduceEq, Int.reduceNeg]
        rcases Nat.lt_or_ge j 256 with h64 | h64
        · have q := beginC H.out.at_ HS.out (by rw [HL.out.2.1]; omega)
          rw [HL.out.2.2, HL.out.2.1, Nat.min_eq_left (by omega)] at q
          refine callF_of q ?_
          clear q
          rintro u σ2 ⟨rfl, k, vt, vh, mv⟩
          have H2 := Hid.mk (H.out.on mv)
          clear mv
          have d1 : decide ((j : Int) < 256) = true := by simp; omega
          have d2 : decide ((j : Int) ≥ 256) = false := by simp; omega
          have d3 : decide ((j : Int) = (j : Int)) = true := by simp
          simp (config := { contextual := true, dsimp := false }) only [*, CliC, Msg.cells, ↓reduceIte, ↓evP, evQ, if_true, if_false, eq_self, binv, eqv, lenv, fillO, splice, fldv, Sp.eqa, eqL, eq1, Nat.reduceAdd, Nat.reduceEqDiff, Nat.reduceLeDiff, Nat.reduceMul, reduceCtorEq, Int.reduceLT, Int.reduceLE, Int.reduceGT, Int.reduceGE, Int.reduceEq, Int.reduceNeg]
          (repeat' (first | (refine condF_split (fun hc => ?_) (fun hc => ?_) <;> (try simp only [Bool.not_eq_true', Bool.not_eq_false', Bool.and_eq_true, Bool.or_eq_false_iff] at hc) <;> (try (simp (config := { contextual := true, dsimp := false }) only [*, CliC, Msg.cells, ↓reduceIte, ↓evP, evQ, if_true, if_false, eq_self, binv, eqv, lenv, fillO, splice, fldv, Sp.eqa, eqL, eq1, Nat.reduceAdd, Nat.reduceEqDiff, Nat.reduceLeDiff, Nat.reduceMul, reduceCtorEq, Int.reduceLT, Int.reduceLE, Int.reduceGT, Int.reduceGE, Int.reduceEq, Int.reduceNeg]))) | (intro _; intros) | ((refine And.intro ?_ ?_; focus (first | omega | (first | exact Sub.refl _ | ((repeat (first | exact Sub.refl _ | (refine Sub.drop ?_ ?_; focus (simp only [none_upd, none_set, not_false_eq_true, true_and, and_true, *]; done)) | refine Sub.both ?_)); done)) | ((simp only [decide_eq_true_eq, decide_eq_false_iff_not] at *); omega) | (simp_all; done) | (simp_all; omega))); (try (simp (config := { contextual := true, dsimp := false }) only [*, CliC, Msg.cells, ↓reduceIte, ↓evP, evQ, if_true, if_false, eq_self, binv, eqv, lenv, fillO, splice, fldv, Sp.eqa, eqL, eq1, Nat.reduceAdd, Nat.reduceEqDiff, Nat.reduceLeDiff, Nat.reduceMul, reduceCtorEq, Int.reduceLT, Int.reduceLE, Int.reduceGT, Int.reduceGE, Int.reduceEq, Int.reduceNeg])))))
          exact nextF_of (M - (j + 1)) (by omega) (Sub.refl _) ⟨j + 1, C.begins k vt vh r S, by omega, rfl, (by first | rfl | (simp only [↓putO_get, ↓putO_no, init_zero, init_succ, Nat.reduceEqDiff, ↓reduceIte, *]; done) | (simp only [↓putO_get, ↓putO_no, init_zero, init_succ, Nat.reduceEqDiff, ↓reduceIte, *]; rfl)), (by first | rfl | (simp only [↓putO_get, ↓putO_no, init_zero, init_succ, Nat.reduceEqDiff, ↓reduceIte, *]; done) | (simp only [↓putO_get, ↓putO_no, init_zero, init_succ, Nat.reduceEqDiff, ↓reduceIte, *]; rfl)), (by first | rfl | (simp only [↓putO_get, ↓putO_no, init_zero, init_succ, Nat.reduceEqDiff, ↓reduceIte, *]; done) | (simp only [↓putO_get, ↓putO_no, init_zero, init_succ, Nat.reduceEqDiff, ↓reduceIte, *]; rfl)), (by first | rfl | (simp only [↓putO_get, ↓putO_no, init_zero, init_succ, Nat.reduceEqDiff, ↓reduceIte, *]; done) | (simp only [↓putO_get, ↓putO_no, init_zero, init_succ, Nat.reduceEqDiff, ↓reduceIte, *]; rfl)), HL.out.2.2, HL.out.1, by show (C.ts ++ [_]).length = _; rw [List.length_append, HL.out.2.1]; show _ + 1 = _; omega, H2.out⟩
        · have q := beginF H.out.at_ HS.out (by rw [HL.out.2.1]; omega)
          rw [HL.out.2.2] at q
          have d1 : decide ((j : Int) < 256) = false := by simp; omega
          have d2 : decide ((j : Int) ≥ 256) = true := by simp; omega
          refine callF_v q ?_
          clear q
          simp (config := { contextual := true, dsimp := false }) only [*, CliC, Msg.cells, ↓reduceIte, ↓evP, evQ, if_true, if_false, eq_self, binv, eqv, lenv, fillO, splice, fldv, Sp.eqa, eqL, eq1, Nat.reduceAdd, Nat.reduceEqDiff, Nat.reduceLeDiff, Nat.reduceMul, reduceCtorEq, Int.reduceLT, Int.reduceLE, Int.reduceGT, Int.reduceGE, Int.reduceEq, Int.reduceNeg]
          (repeat' (first | (refine condF_split (fun hc => ?_) (fun hc => ?_) <;> (try simp only [Bool.not_eq_true', Bool.not_eq_false', Bool.and_eq_true, Bool.or_eq_false_iff] at hc) <;> (try (simp (config := { contextual := true, dsimp := false }) only [*, CliC, Msg.cells, ↓reduceIte, ↓evP, evQ, if_true, if_false, eq_self, binv, eqv, lenv, fillO, splice, fldv, Sp.eqa, eqL, eq1, Nat.reduceAdd, Nat.reduceEqDiff, Nat.reduceLeDiff, Nat.reduceMul, reduceCtorEq, Int.reduceLT, Int.reduceLE, Int.reduceGT, Int.reduceGE, Int.reduceEq, Int.reduceNeg]))) | (intro _; intros) | ((refine And.intro ?_ ?_; focus (first | omega | (first | exact Sub.refl _ | ((repeat (first | exact Sub.refl _ | (refine Sub.drop ?_ ?_; focus (simp only [none_upd, none_set, not_false_eq_true, true_and, and_true, *]; done)) | refine Sub.both ?_)); done)) | ((simp only [decide_eq_true_eq, decide_eq_false_iff_not] at *); omega) | (simp_all; done) | (simp_all; omega))); (try (simp (config := { contextual := true, dsimp := false }) only [*, CliC, Msg.cells, ↓reduceIte, ↓evP, evQ, if_true, if_false, eq_self, binv, eqv, lenv, fillO, splice, fldv, Sp.eqa, eqL, eq1, Nat.reduceAdd, Nat.reduceEqDiff, Nat.reduceLeDiff, Nat.reduceMul, reduceCtorEq, Int.reduceLT, Int.reduceLE, Int.reduceGT, Int.reduceGE, Int.reduceEq, Int.reduceNeg])))))
          exact nextF_of (M - (j + 1)) (by omega) (Sub.refl _) ⟨j + 1, C, by omega, rfl, (by first | rfl | (simp only [↓putO_get, ↓putO_no, init_zero, init_succ, Nat.reduceEqDiff, ↓reduceIte, *]; done) | (simp only [↓putO_get, ↓putO_no, init_zero, init_succ, Nat.reduceEqDiff, ↓reduceIte, *]; rfl)), (by first | rfl | (simp only [↓putO_get, ↓putO_no, init_zero, init_succ, Nat.reduceEqDiff, ↓reduceIte, *]; done) | (simp only [↓putO_get, ↓putO_no, init_zero, init_succ, Nat.reduceEqDiff, ↓reduceIte, *]; rfl)), (by first | rfl | (simp only [↓putO_get, ↓putO_no, init_zero, init_succ, Nat.reduceEqDiff, ↓reduceIte, *]; done) | (simp only [↓putO_get, ↓putO_no, init_zero, init_succ, Nat.reduceEqDiff, ↓reduceIte, *]; rfl)), (by first | rfl | (simp only [↓putO_get, ↓putO_no, init_zero, init_succ, Nat.reduceEqDiff, ↓reduceIte, *]; done) | (simp only [↓putO_get, ↓putO_no, init_zero, init_succ, Nat.reduceEqDiff, ↓reduceIte, *]; rfl)), HL.out.2.2, HL.out.1, by rw [HL.out.2.1]; omega, H.out⟩
      · have hd : decide ((j : Int) < (M : Int)) = false := by simp; omega
        simp (config := { contextual := true, dsimp := false }) only [*, CliC, Msg.cells, ↓reduceIte, ↓evP, evQ, if_true, if_false, eq_self, binv, eqv, lenv, fillO, splice, fldv, Sp.eqa, eqL, eq1, Nat.reduceAdd, Nat.reduceEqDiff, Nat.reduceLeDiff, Nat.reduceMul, reduceCtorEq, Int.reduceLT, Int.reduceLE, Int.reduceGT, Int.reduceGE, Int.reduceEq, Int.reduceNeg]
        (repeat' (first | (refine condF_split (fun hc => ?_) (fun hc => ?_) <;> (try simp only [Bool.not_eq_true', Bool.not_eq_false', Bool.and_eq_true, Bool.or_eq_false_iff] at hc) <;> (try (simp (config := { contextual := true, dsimp := false }) only [*, CliC, Msg.cells, ↓reduceIte, ↓evP, evQ, if_true, if_false, eq_self, binv, eqv, lenv, fillO, splice, fldv, Sp.eqa, eqL, eq1, Nat.reduceAdd, Nat.reduceEqDiff, Nat.reduceLeDiff, Nat.reduceMul, reduceCtorEq, Int.reduceLT, Int.reduceLE, Int.reduceGT, Int.reduceGE, Int.reduceEq, Int.reduceNeg]))) | (intro _; intros) | ((refine And.intro ?_ ?_; focus (first | omega | (first | exact Sub.refl _ | ((repeat (first | exact Sub.refl _ | (refine Sub.drop ?_ ?_; focus (simp only [none_upd, none_set, not_false_eq_true, true_and, and_true, *]; done)) | refine Sub.both ?_)); done)) | ((simp only [decide_eq_true_eq, decide_eq_false_iff_not] at *); omega) | (simp_all; done) | (simp_all; omega))); (try (simp (config := { contextual := true, dsimp := false }) only [*, CliC, Msg.cells, ↓reduceIte, ↓evP, evQ, if_true, if_false, eq_self, binv, eqv, lenv, fillO, splice, fldv, Sp.eqa, eqL, eq1, Nat.reduceAdd, Nat.reduceEqDiff, Nat.reduceLeDiff, Nat.reduceMul, reduceCtorEq, Int.reduceLT, Int.reduceLE, Int.reduceGT, Int.reduceGE, Int.reduceEq, Int.reduceNeg])))))
        exact endF_det rfl H.out.sub
end Go.Proofs.YtaoafjlocjjbbaaDoor

-- LawBase
namespace Go.Proofs.YtaoafjlocjjbbaaDoor
open Go.Sp
set_option linter.unusedVariables false
abbrev laidAll : List (String × DataW Unit) := [("math/bits.deBruijn32tab", Rows.laid_math_bits_deBruijn32tab), ("math/bits.deBruijn64tab", Rows.laid_math_bits_deBruijn64tab), ("internal/strconv.uint64pow10", Rows.laid_internal_strconv_uint64pow10), ("strconv.ErrRange", Rows.laid_strconv_ErrRange), ("strconv.ErrSyntax", Rows.laid_strconv_ErrSyntax)]
theorem gP : Tryd.prog.globalNamed "internal/strconv.uint64pow10" = some 0 := by kernel_rfl
theorem gS : Tryd.prog.globalNamed "strconv.ErrSyntax" = some 1 := by kernel_rfl
theorem gR : Tryd.prog.globalNamed "strconv.ErrRange" = some 2 := by kernel_rfl
theorem tyP : (Tryd.prog.globals[0]?).map (·.type) = some 182 := by kernel_rfl
theorem tyS : (Tryd.prog.globals[1]?).map (·.type) = some 111 := by kernel_rfl
theorem tyR : (Tryd.prog.globals[2]?).map (·.type) = some 111 := by kernel_rfl
theorem starErr : "*" ++ "errors.errorString" = "*errors.errorString" := by decide
theorem rowErr (u : TypeId) (h : Tryd.prog.typeName? 3 u = some "*errors.errorString") : u = 197 := by
  exact typeName_ptr_named (nm := "errors.errorString") (by rw [starErr]; kernel_rfl) (by kernel_rfl) (by decide) u (by rw [starErr]; exact h)
theorem glob_of_laid {W : World} (h : laidMet Tryd.prog laidAll W) : Lib.TabIs Tryd.prog W "internal/strconv.uint64pow10" .u64 Lib.pow10Tab ∧ (∃ tp p, W.var? Tryd.prog "strconv.ErrSyntax" = some #[.iface tp p]) ∧ (∃ tp p, W.var? Tryd.prog "strconv.ErrRange" = some #[.iface tp p]) := by
  have h3 := h.tail.tail
  obtain ⟨a1, s1, e1, _⟩ := laid_sentinel h3.tail gR tyR Tryd.underlying111 rowErr Tryd.underlying197 Tryd.underlying199 rfl rfl Tryd.underlying9 (by kernel_rfl) (by kernel_rfl)
  obtain ⟨a2, s2, e2, _⟩ := laid_sentinel h3.tail.tail gS tyS Tryd.underlying111 rowErr Tryd.underlying197 Tryd.underlying199 rfl rfl Tryd.underlying9 (by kernel_rfl) (by kernel_rfl)
  exact ⟨Lib.tabIs_of_head (rest := _) gP tyP Tryd.underlying182 Tryd.underlying161 (by kernel_rfl) (by kernel_rfl) h3, ⟨_, _, e2⟩, ⟨_, _, e1⟩⟩
theorem full_var {W w : World} (h : Sat (Open.full W) w) {n : String} {cs : Array Value} (hv : W.var? Tryd.prog n = some cs) : w.var? Tryd.prog n = some cs := by
  unfold World.var? at hv ⊢
  cases hg : Tryd.prog.globalNamed n with
  | none => rw [hg] at hv; cases hv
  | some g =>
    rw [hg] at hv
    simp only [Option.bind_some] at hv ⊢
    cases ho : W.heap[g]? with
    | none => rw [ho] at hv; cases hv
    | some o =>
      have : w.heap[g]? = some o := h g (.ro o) (by unfold Open.full; rw [ho]; rfl)
      rw [this]; rw [ho] at hv; exact hv
theorem glob_full {W : World} (h : laidMet Tryd.prog laidAll W) : Glob (Open.full W) := fun w hw => by
  obtain ⟨h1, ⟨_, _, h2⟩, ⟨_, _, h3⟩⟩ := glob_of_laid h
  exact ⟨full_var hw h1, ⟨_, _, full_var hw h2⟩, ⟨_, _, full_var hw h3⟩⟩
end Go.Proofs.YtaoafjlocjjbbaaDoor
