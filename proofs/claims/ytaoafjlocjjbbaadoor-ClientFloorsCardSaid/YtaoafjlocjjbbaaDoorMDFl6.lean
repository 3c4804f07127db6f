/- Texts of mine, part 6 of 6, laid together: The texts of functions, compiled. Each transaction begins at its session's floor; each that ends raises it, that session's alone. What the row's list of variables gives. No condition. -/
import Derived.Test.YtaoafjlocjjbbaaDoorMDFl5
import Derived.Test.YtaoafjlocjjbbaaDoorProg
import Derived.KernelRfl
import Derived.Test.YtaoafjlocjjbbaaDoorRows
import Derived.Lib.LaidTab
import Derived.Stop.LaidErr
-- T10
namespace Go.Proofs.YtaoafjlocjjbbaaDoor
open Go.Sp
set_option maxRecDepth 100000
/-- vouch/vouchlaw18.ClientFull -/
def c10 : C := (.seq (.reg [⟨(some 4), (.mv (.const (.bool false))), none⟩])
 (.seq (.seq (.reg [⟨(some 14), (.call 29 []), none⟩,
 ⟨(some 15), (.nt (.tmp 14)), none⟩])
 (.cond (.tmp 15) (.seq (.reg [⟨(some 4), (.mv (.const (.bool false))), none⟩])
 .ret)
 .skip))
 (.seq (.reg [⟨(some 16), (.bld [.int .i64 (0), .int .i64 (0), .int .i64 (0), .int .i64 (0), .int .i64 (0), .int .i64 (0), .int .i64 (0), .int .i64 (0)] []), none⟩,
 ⟨(some 17), (.call 30 [(.tmp 16)]), none⟩,
 ⟨(some 5), (.mv (.tmp 17)), none⟩])
 (.seq (.seq (.reg [⟨(some 6), (.mv (.const (.int .i64 0))), none⟩])
 (.block 0 (.loop (.seq (.seq (.reg [⟨(some 18), (.mv (.tmp 6)), none⟩,
 ⟨(some 19), (.mv (.tmp 0)), none⟩,
 ⟨(some 20), (.bin .rem (.tmp 19) (.const (.int .u16 100))), none⟩,
 ⟨(some 21), (.conv .i64 (.tmp 20)), none⟩,
 ⟨(some 22), (.bin .lss (.tmp 18) (.tmp 21)), none⟩])
 (.cond (.tmp 22) .skip
 (.exit 0)))
 (.seq (.block 1 (.seq (.reg [⟨(some 26), (.mv (.tmp 5)), none⟩,
 ⟨(some 27), (.call 31 [(.tmp 26)]), none⟩,
 ⟨(some 25), (.mv (.tmp 27)), none⟩,
 ⟨(some 28), (.ext 0 (.tmp 25)), none⟩,
 ⟨(some 29), (.ext 1 (.tmp 25)), none⟩,
 ⟨(some 7), (.mv (.tmp 28)), none⟩,
 ⟨(some 8), (.mv (.tmp 29)), none⟩])
 (.seq (.reg [⟨(some 30), (.mv (.tmp 6)), none⟩,
 ⟨(some 31), (.bin .lss (.tmp 30) (.const (.int .i64 64))), none⟩,
 ⟨(some 32), (.mv (.tmp 31)), none⟩,
 ⟨(some 33), (.mv (.tmp 7)), (some (32, true))⟩,
 ⟨(some 34), (.mv (.tmp 6)), (some (32, true))⟩,
 ⟨(some 35), (.bin .neq (.tmp 33) (.tmp 34)), (some (32, true))⟩,
 ⟨(some 36), (.mv (.tmp 35)), (some (32, true))⟩,
 ⟨(some 37), (.mv (.tmp 8)), (some (36, false))⟩,
 ⟨(some 38), (.bin .neq (.tmp 37) (.const (.int .i64 0))), (some (36, false))⟩,
 ⟨(some 39), (.pick (.tmp 36) (.const (.bool true)) (.tmp 38)), (some (32, true))⟩,
 ⟨(some 40), (.pick (.tmp 32) (.tmp 39) (.const (.bool false))), none⟩,
 ⟨(some 41), (.mv (.tmp 40)), none⟩,
 ⟨(some 42), (.mv (.tmp 6)), (some (41, false))⟩,
 ⟨(some 43), (.bin .geq (.tmp 42) (.const (.int .i64 64))), (some (41, false))⟩,
 ⟨(some 44), (.mv (.tmp 43)), (some (41, false))⟩,
 ⟨(some 45), (.mv (.tmp 7)), (some (44, true))⟩,
 ⟨(some 46), (.bin .neq (.tmp 45) (.const (.int .i64 0))), (some (44, true))⟩,
 ⟨(some 47), (.mv (.tmp 46)), (some (44, true))⟩,
 ⟨(some 48), (.mv (.tmp 8)), (some (47, false))⟩,
 ⟨(some 49), (.bin .neq (.tmp 48) (.const (.int .i64 2))), (some (47, false))⟩,
 ⟨(some 50), (.pick (.tmp 47) (.const (.bool true)) (.tmp 49)), (some (44, true))⟩,
 ⟨(some 51), (.pick (.tmp 44) (.tmp 50) (.const (.bool false))), (some (41, false))⟩,
 ⟨(some 52), (.pick (.tmp 41) (.const (.bool true)) (.tmp 51)), none⟩])
 (.cond (.tmp 52) (.seq (.reg [⟨(some 4), (.mv (.const (.bool false))), none⟩])
 .ret)
 .skip))))
 (.reg [⟨(some 23), (.mv (.tmp 6)), none⟩,
 ⟨(some 24), (.bin .add (.tmp 23) (.const (.int .i64 1))), none⟩,
 ⟨(some 6), (.mv (.tmp 24)), none⟩]))))))
 (.seq (.seq (.reg [⟨(some 53), (.mv (.tmp 0)), none⟩,
 ⟨(some 54), (.bin .rem (.tmp 53) (.const (.int .u16 100))), none⟩,
 ⟨(some 55), (.bin .eql (.tmp 54) (.const (.int .u16 0))), none⟩])
 (.cond (.tmp 55) (.seq (.reg [⟨(some 57), (.mv (.tmp 5)), none⟩,
 ⟨(some 58), (.call 32 [(.tmp 57), (.const (.int .i64 0))]), none⟩,
 ⟨(some 56), (.mv (.tmp 58)), none⟩,
 ⟨(some 59), (.ext 0 (.tmp 56)), none⟩,
 ⟨(some 60), (.ext 1 (.tmp 56)), none⟩,
 ⟨(some 9), (.mv (.tmp 59)), none⟩,
 ⟨(some 10), (.mv (.tmp 60)), none⟩])
 (.seq (.reg [⟨(some 61), (.mv (.tmp 10)), none⟩,
 ⟨(some 62), (.bin .eql (.tmp 61) (.const (.int .i64 3))), none⟩,
 ⟨(some 4), (.mv (.tmp 62)), none⟩])
 .ret))
 .skip))
 (.seq (.seq (.reg [⟨(some 11), (.mv (.const (.int .i64 0))), none⟩])
 (.block 2 (.loop (.seq (.seq (.reg [⟨(some 63), (.mv (.tmp 11)), none⟩,
 ⟨(some 64), (.mv (.tmp 1)), none⟩,
 ⟨(some 65), (.bin .rem (.tmp 64) (.const (.int .u16 300))), none⟩,
 ⟨(some 66), (.conv .i64 (.tmp 65)), none⟩,
 ⟨(some 67), (.bin .lss (.tmp 63) (.tmp 66)), none⟩])
 (.cond (.tmp 67) .skip
 (.exit 2)))
 (.seq (.block 3 (.seq (.reg [⟨(some 71), (.mv (.tmp 5)), none⟩,
 ⟨(some 72), (.mv (.tmp 11)), none⟩,
 ⟨(some 73), (.mv (.tmp 0)), none⟩,
 ⟨(some 74), (.bin .rem (.tmp 73) (.const (.int .u16 100))), none⟩,
 ⟨(some 75), (.conv .i64 (.tmp 74)), none⟩,
 ⟨(some 76), (.mx false (.tmp 75) (.const (.int .i64 64))), none⟩,
 ⟨(some 77), (.bin .rem (.tmp 72) (.tmp 76)), none⟩,
 ⟨(some 78), (.call 32 [(.tmp 71), (.tmp 77)]), none⟩,
 ⟨(some 70), (.mv (.tmp 78)), none⟩,
 ⟨(some 79), (.ext 0 (.tmp 70)), none⟩,
 ⟨(some 80), (.ext 1 (.tmp 70)), none⟩,
 ⟨(some 12), (.mv (.tmp 79)), none⟩,
 ⟨(some 13), (.mv (.tmp 80)), none⟩])
 (.seq (.reg [⟨(some 81), (.mv (.tmp 11)), none⟩,
 ⟨(some 82), (.bin .lss (.tmp 81) (.const (.int .i64 256))), none⟩,
 ⟨(some 83), (.mv (.tmp 82)), none⟩,
 ⟨(some 84), (.mv (.tmp 12)), (some (83, true))⟩,
 ⟨(some 85), (.mv (.tmp 11)), (some (83, true))⟩,
 ⟨(some 86), (.bin .neq (.tmp 84) (.tmp 85)), (some (83, true))⟩,
 ⟨(some 87), (.mv (.tmp 86)), (some (83, true))⟩,
 ⟨(some 88), (.mv (.tmp 13)), (some (87, false))⟩,
 ⟨(some 89), (.bin .neq (.tmp 88) (.const (.int .i64 0))), (some (87, false))⟩,
 ⟨(some 90), (.pick (.tmp 87) (.const (.bool true)) (.tmp 89)), (some (83, true))⟩,
 ⟨(some 91), (.pick (.tmp 83) (.tmp 90) (.const (.bool false))), none⟩,
 ⟨(some 92), (.mv (.tmp 91)), none⟩,
 ⟨(some 93), (.mv (.tmp 11)), (some (92, false))⟩,
 ⟨(some 94), (.bin .geq (.tmp 93) (.const (.int .i64 256))), (some (92, false))⟩,
 ⟨(some 95), (.mv (.tmp 94)), (some (92, false))⟩,
 ⟨(some 96), (.mv (.tmp 12)), (some (95, true))⟩,
 ⟨(some 97), (.bin .neq (.tmp 96) (.const (.int .i64 0))), (some (95, true))⟩,
 ⟨(some 98), (.mv (.tmp 97)), (some (95, true))⟩,
 ⟨(some 99), (.mv (.tmp 13)), (some (98, false))⟩,
 ⟨(some 100), (.bin .neq (.tmp 99) (.const (.int .i64 2))), (some (98, false))⟩,
 ⟨(some 101), (.pick (.tmp 98) (.const (.bool true)) (.tmp 100)), (some (95, true))⟩,
 ⟨(some 102), (.pick (.tmp 95) (.tmp 101) (.const (.bool false))), (some (92, false))⟩,
 ⟨(some 103), (.pick (.tmp 92) (.const (.bool true)) (.tmp 102)), none⟩])
 (.cond (.tmp 103) (.seq (.reg [⟨(some 4), (.mv (.const (.bool false))), none⟩])
 .ret)
 .skip))))
 (.reg [⟨(some 68), (.mv (.tmp 11)), none⟩,
 ⟨(some 69), (.bin .add (.tmp 68) (.const (.int .i64 1))), none⟩,
 ⟨(some 11), (.mv (.tmp 69)), none⟩]))))))
 (.seq (.reg [⟨(some 4), (.mv (.const (.bool true))), none⟩])
 .ret)))))))
def r10 : List RV := [.tmp 4]
theorem ok10 : FnOk Tryd.prog 10 104 c10 r10 := ⟨[25, 24], _, _, Tryd.func10, rfl, rfl, by kernel_rfl, by kernel_rfl, by kernel_rfl⟩
def c11_br21 : C := (.reg [⟨(some 21), (.mv (.const (.int .i64 0))), none⟩])
def c11_tr21 : C := (.block 5 (.loop (.seq (.seq (.reg [⟨(some 145), (.mv (.tmp 21)), none⟩,
 ⟨(some 146), (.bin .lss (.tmp 145) (.const (.int .i64 3))), none⟩])
 (.cond (.tmp 146) .skip
 (.exit 5)))
 (.seq (.block 6 (.seq (.reg [⟨(some 150), (.mv (.tmp 5)), none⟩,
 ⟨(some 151), (.mv (.tmp 21)), none⟩,
 ⟨(some 152), (.call 37 [(.tmp 150), (.tmp 151)]), none⟩,
 ⟨(some 149), (.mv (.tmp 152)), none⟩,
 ⟨(some 153), (.ext 0 (.tmp 149)), none⟩,
 ⟨(some 154), (.ext 1 (.tmp 149)), none⟩,
 ⟨(some 22), (.new 41 [.int .i64 (0), .bool false, .int .i64 (0), .int .i64 (0), .int .i64 (0), .int .i64 (0)]), none⟩,
 ⟨none, (.st 6 (.tmp 22) (.tmp 153)), none⟩,
 ⟨(some 23), (.mv (.tmp 154)), none⟩])
 (.seq (.draw [⟨⟨(some 155), (.fa 0 (.tmp 22)), none⟩, .p⟩,
 ⟨⟨(some 156), (.ld none (.tmp 155)), none⟩, .l⟩,
 ⟨⟨(some 157), (.mv (.tmp 21)), none⟩, .p⟩,
 ⟨⟨(some 158), (.fnl (.aix 3 1) [(.tmp 7), (.tmp 157)]), none⟩, .p⟩,
 ⟨⟨(some 159), (.ld none (.tmp 158)), none⟩, .l⟩,
 ⟨⟨(some 160), (.bin .neq (.tmp 156) (.tmp 159)), none⟩, .p⟩])
 (.cond (.tmp 160) (.seq (.reg [⟨(some 4), (.mv (.const (.bool false))), none⟩])
 .ret)
 .skip))))
 (.reg [⟨(some 147), (.mv (.tmp 21)), none⟩,
 ⟨(some 148), (.bin .add (.tmp 147) (.const (.int .i64 1))), none⟩,
 ⟨(some 21), (.mv (.tmp 148)), none⟩])))))
def c11_sr21 : C := .seq c11_br21 c11_tr21
/-- vouch/vouchlaw18.ClientFloors -/
def c11 : C := (.seq (.reg [⟨(some 4), (.mv (.const (.bool false))), none⟩])
 (.seq (.seq (.reg [⟨(some 24), (.call 29 []), none⟩,
 ⟨(some 25), (.nt (.tmp 24)), none⟩])
 (.cond (.tmp 25) (.seq (.reg [⟨(some 4), (.mv (.const (.bool false))), none⟩])
 .ret)
 .skip))
 (.seq (.reg [⟨(some 26), (.bld [.int .i64 (0), .int .i64 (0), .int .i64 (0), .int .i64 (0), .int .i64 (0), .int .i64 (0), .int .i64 (0), .int .i64 (0)] [(0, 1, (.const (.int .i64 1)))]), none⟩,
 ⟨(some 27), (.call 30 [(.tmp 26)]), none⟩,
 ⟨(some 5), (.mv (.tmp 27)), none⟩])
 (.seq (.seq (.reg [⟨(some 6), (.mv (.const (.int .i64 0))), none⟩])
 (.block 0 (.loop (.seq (.seq (.reg [⟨(some 28), (.mv (.tmp 6)), none⟩,
 ⟨(some 29), (.bin .lss (.tmp 28) (.const (.int .i64 3))), none⟩])
 (.cond (.tmp 29) .skip
 (.exit 0)))
 (.seq (.block 1 (.reg [⟨(some 32), (.mv (.tmp 5)), none⟩,
 ⟨(some 33), (.call 31 [(.tmp 32)]), none⟩]))
 (.reg [⟨(some 30), (.mv (.tmp 6)), none⟩,
 ⟨(some 31), (.bin .add (.tmp 30) (.const (.int .i64 1))), none⟩,
 ⟨(some 6), (.mv (.tmp 31)), none⟩]))))))
 (.seq (.reg [⟨(some 34), (.bld [.int .i64 (0), .int .i64 (0), .int .i64 (0)] []), none⟩,
 ⟨(some 7), (.new 79 [.int .i64 (0), .int .i64 (0), .int .i64 (0)]), none⟩,
 ⟨none, (.st 3 (.tmp 7) (.tmp 34)), none⟩])
 (.seq (.seq (.reg [⟨(some 8), (.mv (.const (.int .i64 0))), none⟩])
 (.block 2 (.loop (.seq (.seq (.reg [⟨(some 35), (.mv (.tmp 8)), none⟩,
 ⟨(some 36), (.mv (.tmp 0)), none⟩,
 ⟨(some 37), (.len true (.tmp 36)), none⟩,
 ⟨(some 38), (.bin .lss (.tmp 35) (.tmp 37)), none⟩,
 ⟨(some 39), (.mv (.tmp 38)), none⟩,
 ⟨(some 40), (.mv (.tmp 8)), (some (39, true))⟩,
 ⟨(some 41), (.bin .lss (.tmp 40) (.const (.int .i64 200))), (some (39, true))⟩,
 ⟨(some 42), (.pick (.tmp 39) (.tmp 41) (.const (.bool false))), none⟩])
 (.cond (.tmp 42) .skip
 (.exit 2)))
 (.seq (.block 3 (.seq (.reg [⟨(some 45), (.mv (.tmp 8)), none⟩,
 ⟨(some 46), (.bin .rem (.tmp 45) (.const (.int .i64 3))), none⟩,
 ⟨(some 9), (.mv (.tmp 46)), none⟩])
 (.seq (.reg [⟨(some 48), (.mv (.tmp 5)), none⟩,
 ⟨(some 49), (.mv (.tmp 9)), none⟩,
 ⟨(some 50), (.call 32 [(.tmp 48), (.tmp 49)]), none⟩,
 ⟨(some 47), (.mv (.tmp 50)), none⟩,
 ⟨(some 51), (.ext 0 (.tmp 47)), none⟩,
 ⟨(some 52), (.ext 1 (.tmp 47)), none⟩,
 ⟨(some 10), (.mv (.tmp 51)), none⟩,
 ⟨(some 11), (.mv (.tmp 52)), none⟩])
 (.seq (.reg [⟨(some 54), (.mv (.tmp 5)), none⟩,
 ⟨(some 55), (.mv (.tmp 10)), none⟩,
 ⟨(some 56), (.call 33 [(.tmp 54), (.tmp 55)]), none⟩,
 ⟨(some 53), (.mv (.tmp 56)), none⟩,
 ⟨(some 57), (.ext 0 (.tmp 53)), none⟩,
 ⟨(some 58), (.ext 1 (.tmp 53)), none⟩,
 ⟨(some 12), (.new 82 [.int .i64 (0), .int .i64 (0), .int .i64 (0), .int .i64 (0), .string ⟨#[]⟩, .int .i64 (0), .int .i64 (0), .slice none 0 0]), none⟩,
 ⟨none, (.st 8 (.tmp 12) (.tmp 57)), none⟩,
 ⟨(some 13), (.mv (.tmp 58)), none⟩])
 (.seq (.seq (.draw [⟨⟨(some 59), (.mv (.tmp 11)), none⟩, .p⟩,
 ⟨⟨(some 60), (.bin .neq (.tmp 59) (.const (.int .i64 0))), none⟩, .p⟩,
 ⟨⟨(some 61), (.mv (.tmp 60)), none⟩, .p⟩,
 ⟨⟨(some 62), (.mv (.tmp 13)), (some (61, false))⟩, .p⟩,
 ⟨⟨(some 63), (.nt (.tmp 62)), (some (61, false))⟩, .p⟩,
 ⟨⟨(some 64), (.pick (.tmp 61) (.const (.bool true)) (.tmp 63)), none⟩, .p⟩,
 ⟨⟨(some 65), (.mv (.tmp 64)), none⟩, .p⟩,
 ⟨⟨(some 66), (.fa 2 (.tmp 12)), (some (65, false))⟩, .p⟩,
 ⟨⟨(some 67), (.fa 0 (.tmp 66)), (some (65, false))⟩, .p⟩,
 ⟨⟨(some 68), (.ld none (.tmp 67)), (some (65, false))⟩, .l⟩,
 ⟨⟨(some 69), (.mv (.tmp 9)), (some (65, false))⟩, .p⟩,
 ⟨⟨(some 70), (.fnl (.aix 3 1) [(.tmp 7), (.tmp 69)]), (some (65, false))⟩, .p⟩,
 ⟨⟨(some 71), (.ld none (.tmp 70)), (some (65, false))⟩, .l⟩,
 ⟨⟨(some 72), (.bin .neq (.tmp 68) (.tmp 71)), (some (65, false))⟩, .p⟩,
 ⟨⟨(some 73), (.pick (.tmp 65) (.const (.bool true)) (.tmp 72)), none⟩, .p⟩,
 ⟨⟨(some 74), (.mv (.tmp 73)), none⟩, .p⟩,
 ⟨⟨(some 75), (.fa 2 (.tmp 12)), (some (74, false))⟩, .p⟩,
 ⟨⟨(some 76), (.fa 1 (.tmp 75)), (some (74, false))⟩, .p⟩,
 ⟨⟨(some 77), (.ld none (.tmp 76)), (some (74, false))⟩, .l⟩,
 ⟨⟨(some 78), (.bin .neq (.tmp 77) (.const (.int .i64 4611686018427387904))), (some (74, false))⟩, .p⟩,
 ⟨⟨(some 79), (.pick (.tmp 74) (.const (.bool true)) (.tmp 78)), none⟩, .p⟩])
 (.cond (.tmp 79) (.seq (.reg [⟨(some 4), (.mv (.const (.bool false))), none⟩])
 .ret)
 .skip))
 (.seq (.seq (.reg [⟨(some 80), (.mv (.tmp 8)), none⟩,
 ⟨(some 81), (.mv (.tmp 1)), none⟩,
 ⟨(some 82), (.len true (.tmp 81)), none⟩,
 ⟨(some 83), (.bin .lss (.tmp 80) (.tmp 82)), none⟩])
 (.cond (.tmp 83) (.seq (.reg [⟨(some 85), (.mv (.tmp 5)), none⟩,
 ⟨(some 86), (.mv (.tmp 10)), none⟩,
 ⟨(some 87), (.call 34 [(.tmp 85), (.tmp 86), (.const (.string { data := #[107] }))]), none⟩,
 ⟨(some 84), (.mv (.tmp 87)), none⟩,
 ⟨(some 88), (.ext 0 (.tmp 84)), none⟩,
 ⟨(some 89), (.ext 1 (.tmp 84)), none⟩,
 ⟨(some 90), (.ext 2 (.tmp 84)), none⟩,
 ⟨(some 14), (.new 28 [.bool false, .string ⟨#[]⟩]), none⟩,
 ⟨(some 15), (.new 33 [.int .i64 (0), .int .i64 (0), .int .i64 (0), .int .i64 (0), .int .i64 (0), .int .i64 (0), .string ⟨#[]⟩, .int .i64 (0), .int .i64 (0), .bool false, .string ⟨#[]⟩, .bool false, .int .i64 (0), .int .i64 (0), .slice none 0 0, .slice none 0 0]), none⟩,
 ⟨none, (.st 2 (.tmp 14) (.tmp 88)), none⟩,
 ⟨none, (.st 16 (.tmp 15) (.tmp 89)), none⟩,
 ⟨(some 16), (.mv (.tmp 90)), none⟩])
 (.seq (.reg [⟨(some 91), (.mv (.tmp 0)), none⟩,
 ⟨(some 92), (.mv (.tmp 8)), none⟩,
 ⟨(some 93), (.ia 1 (.tmp 91) (.tmp 92)), none⟩,
 ⟨(some 94), (.ld none (.tmp 93)), none⟩,
 ⟨(some 95), (.conv .i64 (.tmp 94)), none⟩,
 ⟨(some 17), (.mv (.tmp 95)), none⟩])
 (.seq (.reg [⟨(some 96), (.mv (.tmp 17)), none⟩,
 ⟨(some 97), (.mv (.tmp 17)), none⟩,
 ⟨(some 98), (.bin .add (.tmp 97) (.const (.int .i64 1))), none⟩,
 ⟨(some 99), (.mv (.tmp 1)), none⟩,
 ⟨(some 100), (.mv (.tmp 8)), none⟩,
 ⟨(some 101), (.ia 1 (.tmp 99) (.tmp 100)), none⟩,
 ⟨(some 102), (.ld none (.tmp 101)), none⟩,
 ⟨(some 103), (.conv .i64 (.tmp 102)), none⟩,
 ⟨(some 104), (.bin .add (.tmp 98) (.tmp 103)), none⟩,
 ⟨(some 105), (.bld [.int .i64 (0), .int .i64 (0)] [(0, 1, (.tmp 96)), (1, 1, (.tmp 104))]), none⟩,
 ⟨(some 18), (.new 26 [.int .i64 (0), .int .i64 (0)]), none⟩,
 ⟨none, (.st 2 (.tmp 18) (.tmp 105)), none⟩])
 (.seq (.reg [⟨(some 106), (.mv (.tmp 5)), none⟩,
 ⟨(some 107), (.mv (.tmp 10)), none⟩,
 ⟨(some 108), (.fa 5 (.tmp 15)), none⟩,
 ⟨(some 109), (.ld none (.tmp 108)), none⟩,
 ⟨(some 110), (.ld (some 2) (.tmp 18)), none⟩,
 ⟨(some 111), (.bld [.int .i64 (0), .int .i64 (0), .int .i64 (0), .int .i64 (0), .int .i64 (0), .int .i64 (0), .string ⟨#[]⟩, .int .i64 (0), .int .i64 (0), .bool false, .string ⟨#[]⟩, .bool false, .int .i64 (0), .int .i64 (0), .slice none 0 0, .slice none 0 0] [(0, 1, (.const (.int .i64 4))), (4, 1, (.tmp 107)), (5, 1, (.tmp 109)), (11, 1, (.const (.bool true))), (7, 2, (.tmp 110))]), none⟩,
 ⟨(some 112), (.call 35 [(.tmp 106), (.tmp 111)]), none⟩])
 (.seq (.reg [⟨(some 114), (.mv (.tmp 5)), none⟩,
 ⟨(some 115), (.mv (.tmp 10)), none⟩,
 ⟨(some 116), (.call 36 [(.tmp 114), (.tmp 115)]), none⟩,
 ⟨(some 113), (.mv (.tmp 116)), none⟩,
 ⟨(some 117), (.ext 0 (.tmp 113)), none⟩,
 ⟨(some 118), (.ext 1 (.tmp 113)), none⟩,
 ⟨(some 19), (.mv (.tmp 117)), none⟩,
 ⟨(some 20), (.mv (.tmp 118)), none⟩])
 (.block 4 (.seq (.draw [⟨⟨(some 127), (.fa 1 (.tmp 18)), none⟩, .p⟩,
 ⟨⟨(some 128), (.ld none (.tmp 127)), none⟩, .l⟩,
 ⟨⟨(some 129), (.mv (.tmp 9)), none⟩, .p⟩,
 ⟨⟨(some 130), (.fnl (.aix 3 1) [(.tmp 7), (.tmp 129)]), none⟩, .p⟩,
 ⟨⟨(some 131), (.ld none (.tmp 130)), none⟩, .l⟩,
 ⟨⟨(some 132), (.bin .leq (.tmp 128) (.tmp 131)), none⟩, .p⟩,
 ⟨⟨(some 126), (.mv (.tmp 132)), none⟩, .p⟩])
 (.cond (.tmp 126) (.seq (.reg [⟨(some 133), (.mv (.tmp 20)), none⟩,
 ⟨(some 134), (.bin .neq (.tmp 133) (.const (.int .i64 31))), none⟩])
 (.cond (.tmp 134) (.seq (.reg [⟨(some 4), (.mv (.const (.bool false))), none⟩])
 .ret)
 .skip))
 (.seq (.reg [⟨(some 136), (.mv (.tmp 20)), none⟩,
 ⟨(some 137), (.bin .neq (.tmp 136) (.const (.int .i64 0))), none⟩,
 ⟨(some 138), (.mv (.tmp 137)), none⟩,
 ⟨(some 139), (.mv (.tmp 19)), (some (138, false))⟩,
 ⟨(some 140), (.fa 1 (.tmp 18)), (some (138, false))⟩,
 ⟨(some 141), (.ld none (.tmp 140)), (some (138, false))⟩,
 ⟨(some 142), (.bin .sub (.tmp 141) (.const (.int .i64 1))), (some (138, false))⟩,
 ⟨(some 143), (.bin .neq (.tmp 139) (.tmp 142)), (some (138, false))⟩,
 ⟨(some 144), (.pick (.tmp 138) (.const (.bool true)) (.tmp 143)), none⟩,
 ⟨(some 135), (.mv (.tmp 144)), none⟩])
 (.cond (.tmp 135) (.seq (.reg [⟨(some 4), (.mv (.const (.bool false))), none⟩])
 .ret)
 (.reg [⟨(some 119), (.mv (.tmp 9)), none⟩,
 ⟨(some 120), (.mv (.tmp 9)), none⟩,
 ⟨(some 121), (.fnl (.aix 3 1) [(.tmp 7), (.tmp 120)]), none⟩,
 ⟨(some 122), (.ld none (.tmp 121)), none⟩,
 ⟨(some 123), (.mv (.tmp 19)), none⟩,
 ⟨(some 124), (.mx true (.tmp 122) (.tmp 123)), none⟩,
 ⟨(some 125), (.fnl (.aix 3 1) [(.tmp 7), (.tmp 119)]), none⟩,
 ⟨none, (.st 1 (.tmp 125) (.tmp 124)), none⟩])))))))))))
 .skip))
 c11_sr21))))))
 (.reg [⟨(some 43), (.mv (.tmp 8)), none⟩,
 ⟨(some 44), (.bin .add (.tmp 43) (.const (.int .i64 1))), none⟩,
 ⟨(some 8), (.mv (.tmp 44)), none⟩]))))))
 (.seq (.reg [⟨(some 4), (.mv (.const (.bool true))), none⟩])
 .ret)))))))
def r11 : List RV := [.tmp 4]
theorem ok11 : FnOk Tryd.prog 11 161 c11 r11 := ⟨[25, 24], _, _, Tryd.func11, rfl, rfl, by kernel_rfl, by kernel_rfl, by kernel_rfl⟩
/-- vouch/vouchlaw18.ClientNone -/
def c12 : C := (.seq (.reg [⟨(some 1), (.box 94 (.tmp 0)), none⟩,
 ⟨(some 2), (.mv (.const (.bool false))), none⟩])
 (.seq (.seq (.reg [⟨(some 29), (.call 29 []), none⟩,
 ⟨(some 30), (.nt (.tmp 29)), none⟩])
 (.cond (.tmp 30) (.seq (.reg [⟨(some 2), (.mv (.const (.bool false))), none⟩])
 .ret)
 .skip))
 (.seq (.reg [⟨(some 3), (.mv (.const (.pointer none))), none⟩])
 (.seq (.seq (.reg [⟨(some 4), (.mv (.const (.int .i64 0))), none⟩])
 (.block 0 (.loop (.seq (.seq (.reg [⟨(some 31), (.mv (.tmp 4)), none⟩,
 ⟨(some 32), (.bin .lss (.tmp 31) (.const (.int .i64 2))), none⟩])
 (.cond (.tmp 32) .skip
 (.exit 0)))
 (.seq (.block 1 (.seq (.reg [⟨(some 35), (.mv (.tmp 3)), none⟩,
 ⟨(some 5), (.mv (.tmp 35)), none⟩])
 (.seq (.seq (.reg [⟨(some 36), (.mv (.tmp 4)), none⟩,
 ⟨(some 37), (.bin .eql (.tmp 36) (.const (.int .i64 1))), none⟩])
 (.cond (.tmp 37) (.reg [⟨(some 38), (.bld [.int .i64 (0), .int .i64 (0), .int .i64 (0), .int .i64 (0), .int .i64 (0), .int .i64 (0), .int .i64 (0), .int .i64 (0)] []), none⟩,
 ⟨(some 39), (.call 30 [(.tmp 38)]), none⟩,
 ⟨(some 5), (.mv (.tmp 39)), none⟩])
 (.seq (.reg [⟨(some 41), (.mv (.tmp 5)), none⟩,
 ⟨(some 42), (.call 31 [(.tmp 41)]), none⟩,
 ⟨(some 40), (.mv (.tmp 42)), none⟩,
 ⟨(some 43), (.ext 0 (.tmp 40)), none⟩,
 ⟨(some 44), (.ext 1 (.tmp 40)), none⟩,
 ⟨(some 6), (.mv (.tmp 43)), none⟩,
 ⟨(some 7), (.mv (.tmp 44)), none⟩])
 (.seq (.reg [⟨(some 45), (.mv (.tmp 6)), none⟩,
 ⟨(some 46), (.bin .neq (.tmp 45) (.const (.int .i64 0))), none⟩,
 ⟨(some 47), (.mv (.tmp 46)), none⟩,
 ⟨(some 48), (.mv (.tmp 7)), (some (47, false))⟩,
 ⟨(some 49), (.bin .neq (.tmp 48) (.const (.int .i64 3))), (some (47, false))⟩,
 ⟨(some 50), (.pick (.tmp 47) (.const (.bool true)) (.tmp 49)), none⟩,
 ⟨(some 51), (.mv (.tmp 50)), none⟩,
 ⟨(some 52), (.mv (.tmp 5)), (some (51, false))⟩,
 ⟨(some 53), (.call 38 [(.tmp 52)]), (some (51, false))⟩,
 ⟨(some 54), (.eqs true .ptr (.tmp 53) (.const (.pointer none))), (some (51, false))⟩,
 ⟨(some 55), (.pick (.tmp 51) (.const (.bool true)) (.tmp 54)), none⟩])
 (.cond (.tmp 55) (.seq (.reg [⟨(some 2), (.mv (.const (.bool false))), none⟩])
 .ret)
 .skip)))))
 (.seq (.reg [⟨(some 57), (.mv (.tmp 5)), none⟩,
 ⟨(some 58), (.fa 1 (.tmp 1)), none⟩,
 ⟨(some 59), (.ld none (.tmp 58)), none⟩,
 ⟨(some 60), (.fa 4 (.tmp 1)), none⟩,
 ⟨(some 61), (.ld none (.tmp 60)), none⟩,
 ⟨(some 62), (.call 39 [(.tmp 57), (.tmp 59), (.tmp 61)]), none⟩,
 ⟨(some 56), (.mv (.tmp 62)), none⟩,
 ⟨(some 63), (.ext 0 (.tmp 56)), none⟩,
 ⟨(some 64), (.ext 1 (.tmp 56)), none⟩,
 ⟨(some 8), (.new 33 [.int .i64 (0), .int .i64 (0), .int .i64 (0), .int .i64 (0), .int .i64 (0), .int .i64 (0), .string ⟨#[]⟩, .int .i64 (0), .int .i64 (0), .bool false, .string ⟨#[]⟩, .bool false, .int .i64 (0), .int .i64 (0), .slice none 0 0, .slice none 0 0]), none⟩,
 ⟨none, (.st 16 (.tmp 8) (.tmp 63)), none⟩,
 ⟨(some 9), (.mv (.tmp 64)), none⟩])
 (.seq (.reg [⟨(some 66), (.mv (.tmp 5)), none⟩,
 ⟨(some 67), (.fa 1 (.tmp 1)), none⟩,
 ⟨(some 68), (.ld none (.tmp 67)), none⟩,
 ⟨(some 69), (.call 40 [(.tmp 66), (.tmp 68)]), none⟩,
 ⟨(some 65), (.mv (.tmp 69)), none⟩,
 ⟨(some 70), (.ext 0 (.tmp 65)), none⟩,
 ⟨(some 71), (.ext 1 (.tmp 65)), none⟩,
 ⟨(some 10), (.new 33 [.int .i64 (0), .int .i64 (0), .int .i64 (0), .int .i64 (0), .int .i64 (0), .int .i64 (0), .string ⟨#[]⟩, .int .i64 (0), .int .i64 (0), .bool false, .string ⟨#[]⟩, .bool false, .int .i64 (0), .int .i64 (0), .slice none 0 0, .slice none 0 0]), none⟩,
 ⟨none, (.st 16 (.tmp 10) (.tmp 70)), none⟩,
 ⟨(some 11), (.mv (.tmp 71)), none⟩])
 (.seq (.reg [⟨(some 73), (.mv (.tmp 5)), none⟩,
 ⟨(some 74), (.fa 1 (.tmp 1)), none⟩,
 ⟨(some 75), (.ld none (.tmp 74)), none⟩,
 ⟨(some 76), (.call 41 [(.tmp 73), (.tmp 75)]), none⟩,
 ⟨(some 72), (.mv (.tmp 76)), none⟩,
 ⟨(some 77), (.ext 0 (.tmp 72)), none⟩,
 ⟨(some 78), (.ext 1 (.tmp 72)), none⟩,
 ⟨(some 12), (.mv (.tmp 77)), none⟩,
 ⟨(some 13), (.mv (.tmp 78)), none⟩])
 (.seq (.reg [⟨(some 80), (.mv (.tmp 5)), none⟩,
 ⟨(some 81), (.fa 1 (.tmp 1)), none⟩,
 ⟨(some 82), (.ld none (.tmp 81)), none⟩,
 ⟨(some 83), (.call 32 [(.tmp 80), (.tmp 82)]), none⟩,
 ⟨(some 79), (.mv (.tmp 83)), none⟩,
 ⟨(some 84), (.ext 0 (.tmp 79)), none⟩,
 ⟨(some 85), (.ext 1 (.tmp 79)), none⟩,
 ⟨(some 14), (.mv (.tmp 84)), none⟩,
 ⟨(some 15), (.mv (.tmp 85)), none⟩])
 (.seq (.reg [⟨(some 87), (.mv (.tmp 5)), none⟩,
 ⟨(some 88), (.fa 2 (.tmp 1)), none⟩,
 ⟨(some 89), (.ld none (.tmp 88)), none⟩,
 ⟨(some 90), (.fa 3 (.tmp 1)), none⟩,
 ⟨(some 91), (.ld none (.tmp 90)), none⟩,
 ⟨(some 92), (.call 34 [(.tmp 87), (.tmp 89), (.tmp 91)]), none⟩,
 ⟨(some 86), (.mv (.tmp 92)), none⟩,
 ⟨(some 93), (.ext 0 (.tmp 86)), none⟩,
 ⟨(some 94), (.ext 1 (.tmp 86)), none⟩,
 ⟨(some 95), (.ext 2 (.tmp 86)), none⟩,
 ⟨(some 16), (.new 28 [.bool false, .string ⟨#[]⟩]), none⟩,
 ⟨(some 17), (.new 33 [.int .i64 (0), .int .i64 (0), .int .i64 (0), .int .i64 (0), .int .i64 (0), .int .i64 (0), .string ⟨#[]⟩, .int .i64 (0), .int .i64 (0), .bool false, .string ⟨#[]⟩, .bool false, .int .i64 (0), .int .i64 (0), .slice none 0 0, .slice none 0 0]), none⟩,
 ⟨none, (.st 2 (.tmp 16) (.tmp 93)), none⟩,
 ⟨none, (.st 16 (.tmp 17) (.tmp 94)), none⟩,
 ⟨(some 18), (.mv (.tmp 95)), none⟩])
 (.seq (.reg [⟨(some 97), (.mv (.tmp 5)), none⟩,
 ⟨(some 98), (.fa 2 (.tmp 1)), none⟩,
 ⟨(some 99), (.ld none (.tmp 98)), none⟩,
 ⟨(some 100), (.call 42 [(.tmp 97), (.tmp 99)]), none⟩,
 ⟨(some 96), (.mv (.tmp 100)), none⟩,
 ⟨(some 101), (.ext 0 (.tmp 96)), none⟩,
 ⟨(some 102), (.ext 1 (.tmp 96)), none⟩,
 ⟨(some 19), (.new 33 [.int .i64 (0), .int .i64 (0), .int .i64 (0), .int .i64 (0), .int .i64 (0), .int .i64 (0), .string ⟨#[]⟩, .int .i64 (0), .int .i64 (0), .bool false, .string ⟨#[]⟩, .bool false, .int .i64 (0), .int .i64 (0), .slice none 0 0, .slice none 0 0]), none⟩,
 ⟨none, (.st 16 (.tmp 19) (.tmp 101)), none⟩,
 ⟨(some 20), (.mv (.tmp 102)), none⟩])
 (.seq (.reg [⟨(some 104), (.mv (.tmp 5)), none⟩,
 ⟨(some 105), (.fa 2 (.tmp 1)), none⟩,
 ⟨(some 106), (.ld none (.tmp 105)), none⟩,
 ⟨(some 107), (.call 36 [(.tmp 104), (.tmp 106)]), none⟩,
 ⟨(some 103), (.mv (.tmp 107)), none⟩,
 ⟨(some 108), (.ext 0 (.tmp 103)), none⟩,
 ⟨(some 109), (.ext 1 (.tmp 103)), none⟩,
 ⟨(some 21), (.mv (.tmp 108)), none⟩,
 ⟨(some 22), (.mv (.tmp 109)), none⟩])
 (.seq (.reg [⟨(some 111), (.mv (.tmp 5)), none⟩,
 ⟨(some 112), (.fa 5 (.tmp 1)), none⟩,
 ⟨(some 113), (.ld (some 16) (.tmp 112)), none⟩,
 ⟨(some 114), (.call 35 [(.tmp 111), (.tmp 113)]), none⟩,
 ⟨(some 110), (.mv (.tmp 114)), none⟩,
 ⟨(some 115), (.ext 0 (.tmp 110)), none⟩,
 ⟨(some 116), (.ext 1 (.tmp 110)), none⟩,
 ⟨(some 23), (.new 33 [.int .i64 (0), .int .i64 (0), .int .i64 (0), .int .i64 (0), .int .i64 (0), .int .i64 (0), .string ⟨#[]⟩, .int .i64 (0), .int .i64 (0), .bool false, .string ⟨#[]⟩, .bool false, .int .i64 (0), .int .i64 (0), .slice none 0 0, .slice none 0 0]), none⟩,
 ⟨none, (.st 16 (.tmp 23) (.tmp 115)), none⟩,
 ⟨(some 24), (.mv (.tmp 116)), none⟩])
 (.seq (.reg [⟨(some 118), (.mv (.tmp 5)), none⟩,
 ⟨(some 119), (.fa 1 (.tmp 1)), none⟩,
 ⟨(some 120), (.ld none (.tmp 119)), none⟩,
 ⟨(some 121), (.call 37 [(.tmp 118), (.tmp 120)]), none⟩,
 ⟨(some 117), (.mv (.tmp 121)), none⟩,
 ⟨(some 122), (.ext 0 (.tmp 117)), none⟩,
 ⟨(some 123), (.ext 1 (.tmp 117)), none⟩,
 ⟨(some 25), (.new 41 [.int .i64 (0), .bool false, .int .i64 (0), .int .i64 (0), .int .i64 (0), .int .i64 (0)]), none⟩,
 ⟨none, (.st 6 (.tmp 25) (.tmp 122)), none⟩,
 ⟨(some 26), (.mv (.tmp 123)), none⟩])
 (.seq (.reg [⟨(some 125), (.mv (.tmp 5)), none⟩,
 ⟨(some 126), (.fa 2 (.tmp 1)), none⟩,
 ⟨(some 127), (.ld none (.tmp 126)), none⟩,
 ⟨(some 128), (.call 33 [(.tmp 125), (.tmp 127)]), none⟩,
 ⟨(some 124), (.mv (.tmp 128)), none⟩,
 ⟨(some 129), (.ext 0 (.tmp 124)), none⟩,
 ⟨(some 130), (.ext 1 (.tmp 124)), none⟩,
 ⟨(some 27), (.new 82 [.int .i64 (0), .int .i64 (0), .int .i64 (0), .int .i64 (0), .string ⟨#[]⟩, .int .i64 (0), .int .i64 (0), .slice none 0 0]), none⟩,
 ⟨none, (.st 8 (.tmp 27) (.tmp 129)), none⟩,
 ⟨(some 28), (.mv (.tmp 130)), none⟩])
 (.seq (.reg [⟨(some 131), (.mv (.tmp 9)), none⟩,
 ⟨(some 132), (.bin .neq (.tmp 131) (.const (.int .i64 3))), none⟩,
 ⟨(some 133), (.mv (.tmp 132)), none⟩,
 ⟨(some 134), (.mv (.tmp 11)), (some (133, false))⟩,
 ⟨(some 135), (.bin .neq (.tmp 134) (.const (.int .i64 3))), (some (133, false))⟩,
 ⟨(some 136), (.pick (.tmp 133) (.const (.bool true)) (.tmp 135)), none⟩,
 ⟨(some 137), (.mv (.tmp 136)), none⟩,
 ⟨(some 138), (.mv (.tmp 12)), (some (137, false))⟩,
 ⟨(some 139), (.bin .neq (.tmp 138) (.const (.string { data := #[] }))), (some (137, false))⟩,
 ⟨(some 140), (.pick (.tmp 137) (.const (.bool true)) (.tmp 139)), none⟩,
 ⟨(some 141), (.mv (.tmp 140)), none⟩,
 ⟨(some 142), (.mv (.tmp 13)), (some (141, false))⟩,
 ⟨(some 143), (.bin .neq (.tmp 142) (.const (.int .i64 3))), (some (141, false))⟩,
 ⟨(some 144), (.pick (.tmp 141) (.const (.bool true)) (.tmp 143)), none⟩,
 ⟨(some 145), (.mv (.tmp 144)), none⟩,
 ⟨(some 146), (.mv (.tmp 14)), (some (145, false))⟩,
 ⟨(some 147), (.bin .neq (.tmp 146) (.const (.int .i64 0))), (some (145, false))⟩,
 ⟨(some 148), (.pick (.tmp 145) (.const (.bool true)) (.tmp 147)), none⟩,
 ⟨(some 149), (.mv (.tmp 148)), none⟩,
 ⟨(some 150), (.mv (.tmp 15)), (some (149, false))⟩,
 ⟨(some 151), (.bin .neq (.tmp 150) (.const (.int .i64 3))), (some (149, false))⟩,
 ⟨(some 152), (.pick (.tmp 149) (.const (.bool true)) (.tmp 151)), none⟩,
 ⟨(some 153), (.mv (.tmp 152)), none⟩,
 ⟨(some 154), (.ld (some 2) (.tmp 16)), (some (153, false))⟩,
 ⟨(some 155), (.bld [.bool false, .string ⟨#[]⟩] []), (some (153, false))⟩,
 ⟨(some 156), (.eqa true [.truth, .text] (.tmp 154) (.tmp 155)), (some (153, false))⟩,
 ⟨(some 157), (.pick (.tmp 153) (.const (.bool true)) (.tmp 156)), none⟩,
 ⟨(some 158), (.mv (.tmp 157)), none⟩,
 ⟨(some 159), (.fa 0 (.tmp 17)), (some (158, false))⟩,
 ⟨(some 160), (.ld none (.tmp 159)), (some (158, false))⟩,
 ⟨(some 161), (.bin .neq (.tmp 160) (.const (.int .i64 0))), (some (158, false))⟩,
 ⟨(some 162), (.pick (.tmp 158) (.const (.bool true)) (.tmp 161)), none⟩,
 ⟨(some 163), (.mv (.tmp 162)), none⟩,
 ⟨(some 164), (.mv (.tmp 18)), (some (163, false))⟩,
 ⟨(some 165), (.bin .neq (.tmp 164) (.const (.int .i64 3))), (some (163, false))⟩,
 ⟨(some 166), (.pick (.tmp 163) (.const (.bool true)) (.tmp 165)), none⟩,
 ⟨(some 167), (.mv (.tmp 166)), none⟩,
 ⟨(some 168), (.mv (.tmp 20)), (some (167, false))⟩,
 ⟨(some 169), (.bin .neq (.tmp 168) (.const (.int .i64 3))), (some (167, false))⟩,
 ⟨(some 170), (.pick (.tmp 167) (.const (.bool true)) (.tmp 169)), none⟩,
 ⟨(some 171), (.mv (.tmp 170)), none⟩,
 ⟨(some 172), (.mv (.tmp 21)), (some (171, false))⟩,
 ⟨(some 173), (.bin .neq (.tmp 172) (.const (.int .i64 0))), (some (171, false))⟩,
 ⟨(some 174), (.pick (.tmp 171) (.const (.bool true)) (.tmp 173)), none⟩,
 ⟨(some 175), (.mv (.tmp 174)), none⟩,
 ⟨(some 176), (.mv (.tmp 22)), (some (175, false))⟩,
 ⟨(some 177), (.bin .neq (.tmp 176) (.const (.int .i64 3))), (some (175, false))⟩,
 ⟨(some 178), (.pick (.tmp 175) (.const (.bool true)) (.tmp 177)), none⟩,
 ⟨(some 179), (.mv (.tmp 178)), none⟩,
 ⟨(some 180), (.fa 0 (.tmp 23)), (some (179, false))⟩,
 ⟨(some 181), (.ld none (.tmp 180)), (some (179, false))⟩,
 ⟨(some 182), (.bin .neq (.tmp 181) (.const (.int .i64 0))), (some (179, false))⟩,
 ⟨(some 183), (.pick (.tmp 179) (.const (.bool true)) (.tmp 182)), none⟩,
 ⟨(some 184), (.mv (.tmp 183)), none⟩,
 ⟨(some 185), (.mv (.tmp 24)), (some (184, false))⟩,
 ⟨(some 186), (.pick (.tmp 184) (.const (.bool true)) (.tmp 185)), none⟩,
 ⟨(some 187), (.mv (.tmp 186)), none⟩,
 ⟨(some 188), (.mv (.tmp 26)), (some (187, false))⟩,
 ⟨(some 189), (.pick (.tmp 187) (.const (.bool true)) (.tmp 188)), none⟩,
 ⟨(some 190), (.mv (.tmp 189)), none⟩,
 ⟨(some 191), (.mv (.tmp 28)), (some (190, false))⟩,
 ⟨(some 192), (.pick (.tmp 190) (.const (.bool true)) (.tmp 191)), none⟩,
 ⟨(some 193), (.mv (.tmp 192)), none⟩,
 ⟨(some 194), (.mv (.tmp 5)), (some (193, false))⟩,
 ⟨(some 195), (.fa 1 (.tmp 1)), (some (193, false))⟩,
 ⟨(some 196), (.ld none (.tmp 195)), (some (193, false))⟩,
 ⟨(some 197), (.fa 3 (.tmp 1)), (some (193, false))⟩,
 ⟨(some 198), (.ld none (.tmp 197)), (some (193, false))⟩,
 ⟨(some 199), (.call 43 [(.tmp 194), (.tmp 196), (.tmp 198)]), (some (193, false))⟩,
 ⟨(some 200), (.bin .neq (.tmp 199) (.const (.int .i64 3))), (some (193, false))⟩,
 ⟨(some 201), (.pick (.tmp 193) (.const (.bool true)) (.tmp 200)), none⟩])
 (.cond (.tmp 201) (.seq (.reg [⟨(some 2), (.mv (.const (.bool false))), none⟩])
 .ret)
 .skip)))))))))))))))
 (.reg [⟨(some 33), (.mv (.tmp 4)), none⟩,
 ⟨(some 34), (.bin .add (.tmp 33) (.const (.int .i64 1))), none⟩,
 ⟨(some 4), (.mv (.tmp 34)), none⟩]))))))
 (.seq (.reg [⟨(some 2), (.mv (.const (.bool true))), none⟩])
 .ret)))))
def r12 : List RV := [.tmp 2]
theorem ok12 : FnOk Tryd.prog 12 202 c12 r12 := ⟨[25, 24], _, _, Tryd.func12, rfl, rfl, by kernel_rfl, by kernel_rfl, by kernel_rfl⟩
end Go.Proofs.YtaoafjlocjjbbaaDoor

-- D20
namespace Go.Proofs.YtaoafjlocjjbbaaDoor
open Go.Sp
set_option linter.unusedSimpArgs false
set_option linter.unusedVariables false
def bC (i : Int) : List Value := [.int .u8 i]
set_option maxHeartbeats 4000000 in
/-- The floors, looked at one by one. -/
theorem inner11 {Q : Exit → Sl → Hp → Prop} {s : Sl} {σ : Hp} {g b : Nat} {f : Nat → Int} {C : CL} (h : CliAt σ C) (hg : C.g = g) (hb : σ b = some (.cells [.int .i64 (f 0), .int .i64 (f 1), .int .i64 (f 2)] 79)) (hl : C.ss.length = 3) (hf : ∀ (j : Nat) x, C.ss[j]? = some x → x.S.floor = f j) (s5 : s 5 = .pointer (some ⟨g, 0, none⟩)) (s7 : s 7 = .pointer (some ⟨b, 0, none⟩))
    (hQ : ∀ s', [0, 1, 5, 7, 8].map s' = [0, 1, 5, 7, 8].map s → Q .normal s' σ) : codeF Tryd.prog c11_sr21 Q s σ ⟨⟩ := by
  obtain ⟨τ, rfl⟩ := open_upd hb
  clear hb
  have H := Hid.mk (And.intro h (And.intro hg (And.intro hl hf)))
  have HQ := Hid.mk hQ
  clear h hg hl hf hQ
  unfold c11_sr21 c11_br21 c11_tr21
  simp (config := { contextual := true, dsimp := false }) only [*, CliC, Msg.cells, lf_aix, bC, ↓reduceIte, ↓evP, evQ, if_true, if_false, eq_self, binv, eqv, lenv, fillO, splice, fldv, Sp.eqa, eqL, eq1, Nat.reduceAdd, Nat.reduceEqDiff, Nat.reduceLeDiff, Nat.reduceMul, reduceCtorEq, Int.reduceLT, Int.reduceLE, Int.reduceGT, Int.reduceGE, Int.reduceEq, Int.reduceNeg]
  refine loopF_keep [0, 1, 5, 7, 8] (fun k s => ∃ i : Nat, i ≤ 3 ∧ k = 3 - i ∧ s 21 = .int .i64 i) 3 ⟨0, by omega, rfl, (by first | rfl | (simp only [↓putO_get, ↓putO_no, init_zero, init_succ, Nat.reduceEqDiff, ↓reduceIte, *]; done) | (simp only [↓putO_get, ↓putO_no, init_zero, init_succ, Nat.reduceEqDiff, ↓reduceIte, *]; rfl))⟩ ?_
  rintro k s' hL ⟨i, hi, rfl, h21⟩
  have HK := Hid.mk hL
  simp only [List.map_cons, List.map_nil, ↓putO_get, ↓putO_no, init_zero, init_succ, Nat.reduceEqDiff, ↓reduceIte, List.cons.injEq, and_true] at hL
  rcases Nat.lt_or_ge i 3 with hlt | hge
  · have hd : decide ((i : Int) < 3) = true := by simp; omega
    have hr4 : (i : Int) < 3 := by omega
    have e1 : IntKind.i64.wrap ((i : Int) + 1) = ((i + 1 : Nat) : Int) := by rw [wi64 (by omega)]; rfl
    have hget : ([.int .i64 (f 0), .int .i64 (f 1), .int .i64 (f 2)] : List Value)[i * 1]? = some (.int .i64 (f i)) := by
      obtain rfl | rfl | rfl : i = 0 ∨ i = 1 ∨ i = 2 := by omega
      all_goals rfl
    obtain ⟨S, hS⟩ : ∃ S, C.ss[i]? = some S := ⟨_, List.getElem?_eq_getElem (by rw [H.out.2.2.1]; exact hlt)⟩
    have hSf := H.out.2.2.2 i S hS
    simp (config := { contextual := true, dsimp := false }) only [*, CliC, Msg.cells, lf_aix, bC, ↓reduceIte, ↓evP, evQ, if_true, if_false, eq_self, binv, eqv, lenv, fillO, splice, fldv, Sp.eqa, eqL, eq1, Nat.reduceAdd, Nat.reduceEqDiff, Nat.reduceLeDiff, Nat.reduceMul, reduceCtorEq, Int.reduceLT, Int.reduceLE, Int.reduceGT, Int.reduceGE, Int.reduceEq, Int.reduceNeg]
    (repeat' (first | (refine condF_split (fun hc => ?_) (fun hc => ?_) <;> (try simp only [Bool.not_eq_true', Bool.not_eq_false', Bool.and_eq_true, Bool.or_eq_false_iff] at hc) <;> (try (simp (config := { contextual := true, dsimp := false }) only [*, CliC, Msg.cells, lf_aix, bC, ↓reduceIte, ↓evP, evQ, if_true, if_false, eq_self, binv, eqv, lenv, fillO, splice, fldv, Sp.eqa, eqL, eq1, Nat.reduceAdd, Nat.reduceEqDiff, Nat.reduceLeDiff, Nat.reduceMul, reduceCtorEq, Int.reduceLT, Int.reduceLE, Int.reduceGT, Int.reduceGE, Int.reduceEq, Int.reduceNeg]))) | (intro _; intros) | ((refine And.intro ?_ ?_; focus (first | omega | (first | exact Sub.refl _ | ((repeat (first | exact Sub.refl _ | (refine Sub.drop ?_ ?_; focus (simp only [none_upd, none_set, not_false_eq_true, true_and, and_true, *]; done)) | refine Sub.both ?_)); done)) | ((simp only [decide_eq_true_eq, decide_eq_false_iff_not] at *); omega) | (simp_all; done) | (simp_all; omega))); (try (simp (config := { contextual := true, dsimp := false }) only [*, CliC, Msg.cells, lf_aix, bC, ↓reduceIte, ↓evP, evQ, if_true, if_false, eq_self, binv, eqv, lenv, fillO, splice, fldv, Sp.eqa, eqL, eq1, Nat.reduceAdd, Nat.reduceEqDiff, Nat.reduceLeDiff, Nat.reduceMul, reduceCtorEq, Int.reduceLT, Int.reduceLE, Int.reduceGT, Int.reduceGE, Int.reduceEq, Int.reduceNeg])))))
    have q := viewC H.out.1 hS
    rw [H.out.2.1] at q
    unfold SesS.view at q
    rw [hSf] at q
    refine callF_v q ?_
    clear q
    have d1 : decide (f i = f i) = true := by simp
    simp (config := { contextual := true, dsimp := false }) only [*, CliC, Msg.cells, lf_aix, bC, ↓reduceIte, ↓evP, evQ, if_true, if_false, eq_self, binv, eqv, lenv, fillO, splice, fldv, Sp.eqa, eqL, eq1, Nat.reduceAdd, Nat.reduceEqDiff, Nat.reduceLeDiff, Nat.reduceMul, reduceCtorEq, Int.reduceLT, Int.reduceLE, Int.reduceGT, Int.reduceGE, Int.reduceEq, Int.reduceNeg]
    (repeat' (first | (refine condF_split (fun hc => ?_) (fun hc => ?_) <;> (try simp only [Bool.not_eq_true', Bool.not_eq_false', Bool.and_eq_true, Bool.or_eq_false_iff] at hc) <;> (try (simp (config := { contextual := true, dsimp := false }) only [*, CliC, Msg.cells, lf_aix, bC, ↓reduceIte, ↓evP, evQ, if_true, if_false, eq_self, binv, eqv, lenv, fillO, splice, fldv, Sp.eqa, eqL, eq1, Nat.reduceAdd, Nat.reduceEqDiff, Nat.reduceLeDiff, Nat.reduceMul, reduceCtorEq, Int.reduceLT, Int.reduceLE, Int.reduceGT, Int.reduceGE, Int.reduceEq, Int.reduceNeg]))) | (intro _; intros) | ((refine And.intro ?_ ?_; focus (first | omega | (first | exact Sub.refl _ | ((repeat (first | exact Sub.refl _ | (refine Sub.drop ?_ ?_; focus (simp only [none_upd, none_set, not_false_eq_true, true_and, and_true, *]; done)) | refine Sub.both ?_)); done)) | ((simp only [decide_eq_true_eq, decide_eq_false_iff_not] at *); omega) | (simp_all; done) | (simp_all; omega))); (try (simp (config := { contextual := true, dsimp := false }) only [*, CliC, Msg.cells, lf_aix, bC, ↓reduceIte, ↓evP, evQ, if_true, if_false, eq_self, binv, eqv, lenv, fillO, splice, fldv, Sp.eqa, eqL, eq1, Nat.reduceAdd, Nat.reduceEqDiff, Nat.reduceLeDiff, Nat.reduceMul, reduceCtorEq, Int.reduceLT, Int.reduceLE, Int.reduceGT, Int.reduceGE, Int.reduceEq, Int.reduceNeg])))))
    refine keep_of (3 - (i + 1)) (by omega) (by simp only [List.map_cons, List.map_nil, ↓putO_get, ↓putO_no, init_zero, init_succ, Nat.reduceEqDiff, ↓reduceIte, *]) (by (first | exact Sub.refl _ | ((repeat (first | exact Sub.refl _ | (refine Sub.drop ?_ ?_; focus (simp only [none_upd, none_set, not_false_eq_true, true_and, and_true, *]; done)) | refine Sub.both ?_)); done))) ⟨i + 1, by omega, rfl, (by first | rfl | (simp only [↓putO_get, ↓putO_no, init_zero, init_succ, Nat.reduceEqDiff, ↓reduceIte, *]; done) | (simp only [↓putO_get, ↓putO_no, init_zero, init_succ, Nat.reduceEqDiff, ↓reduceIte, *]; rfl))⟩
  · have hd : decide ((i : Int) < 3) = false := by simp; omega
    simp (config := { contextual := true, dsimp := false }) only [*, CliC, Msg.cells, lf_aix, bC, ↓reduceIte, ↓evP, evQ, if_true, if_false, eq_self, binv, eqv, lenv, fillO, splice, fldv, Sp.eqa, eqL, eq1, Nat.reduceAdd, Nat.reduceEqDiff, Nat.reduceLeDiff, Nat.reduceMul, reduceCtorEq, Int.reduceLT, Int.reduceLE, Int.reduceGT, Int.reduceGE, Int.reduceEq, Int.reduceNeg]
    (repeat' (first | (refine condF_split (fun hc => ?_) (fun hc => ?_) <;> (try simp only [Bool.not_eq_true', Bool.not_eq_false', Bool.and_eq_true, Bool.or_eq_false_iff] at hc) <;> (try (simp (config := { contextual := true, dsimp := false }) only [*, CliC, Msg.cells, lf_aix, bC, ↓reduceIte, ↓evP, evQ, if_true, if_false, eq_self, binv, eqv, lenv, fillO, splice, fldv, Sp.eqa, eqL, eq1, Nat.reduceAdd, Nat.reduceEqDiff, Nat.reduceLeDiff, Nat.reduceMul, reduceCtorEq, Int.reduceLT, Int.reduceLE, Int.reduceGT, Int.reduceGE, Int.reduceEq, Int.reduceNeg]))) | (intro _; intros) | ((refine And.intro ?_ ?_; focus (first | omega | (first | exact Sub.refl _ | ((repeat (first | exact Sub.refl _ | (refine Sub.drop ?_ ?_; focus (simp only [none_upd, none_set, not_false_eq_true, true_and, and_true, *]; done)) | refine Sub.both ?_)); done)) | ((simp only [decide_eq_true_eq, decide_eq_false_iff_not] at *); omega) | (simp_all; done) | (simp_all; omega))); (try (simp (config := { contextual := true, dsimp := false }) only [*, CliC, Msg.cells, lf_aix, bC, ↓reduceIte, ↓evP, evQ, if_true, if_false, eq_self, binv, eqv, lenv, fillO, splice, fldv, Sp.eqa, eqL, eq1, Nat.reduceAdd, Nat.reduceEqDiff, Nat.reduceLeDiff, Nat.reduceMul, reduceCtorEq, Int.reduceLT, Int.reduceLE, Int.reduceGT, Int.reduceGE, Int.reduceEq, Int.reduceNeg])))))
    exact HQ.out _ (by simp only [List.map_cons, List.map_nil, ↓putO_get, ↓putO_no, init_zero, init_succ, Nat.reduceEqDiff, ↓reduceIte, *])
set_option maxHeartbeats 4000000 in
set_option maxRecDepth 100000 in
theorem floors11 {σ : Hp} (hG : Glob σ) {vf vp : Value} {fs ps : List Int} (hf : RoRows 1 bC σ vf fs) (hp : RoRows 1 bC σ vp ps) (hf1 : ∀ x ∈ fs, 0 ≤ x ∧ x ≤ 255) (hp1 : ∀ x ∈ ps, 0 ≤ x ∧ x ≤ 255) : ACalls Tryd.prog 11 #[vf, vp] σ fun u σ' => u = .bool true ∧ σ' = σ := by
  have HG := Hid.mk hG
  clear hG
  obtain ⟨fa, fc, rfl, hf⟩ := hf
  obtain ⟨pa, pc, rfl, hp⟩ := hp
  have HF := Hid.mk (And.intro hf (And.intro hp (And.intro hf1 hp1)))
  clear hf hp hf1 hp1
  (refine acalls_F ok11 (by simp) ?_; unfold c11 r11; simp (config := { contextual := true, dsimp := false }) only [CliC, Msg.cells, lf_aix, bC, ↓reduceIte, ↓evP, evQ, if_true, if_false, eq_self, binv, eqv, lenv, fillO, splice, fldv, Sp.eqa, eqL, eq1, Nat.reduceAdd, Nat.reduceEqDiff, Nat.reduceLeDiff, Nat.reduceMul, reduceCtorEq, Int.reduceLT, Int.reduceLE, Int.reduceGT, Int.reduceGE, Int.reduceEq, Int.reduceNeg])
  (repeat' (first | (refine condF_split (fun hc => ?_) (fun hc => ?_) <;> (try simp only [Bool.not_eq_true', Bool.not_eq_false', Bool.and_eq_true, Bool.or_eq_false_iff] at hc) <;> (try (simp (config := { contextual := true, dsimp := false }) only [*, CliC, Msg.cells, lf_aix, bC, ↓reduceIte, ↓evP, evQ, if_true, if_false, eq_self, binv, eqv, lenv, fillO, splice, fldv, Sp.eqa, eqL, eq1, Nat.reduceAdd, Nat.reduceEqDiff, Nat.reduceLeDiff, Nat.reduceMul, reduceCtorEq, Int.reduceLT, Int.reduceLE, Int.reduceGT, Int.reduceGE, Int.reduceEq, Int.reduceNeg]))) | (refine callF_v (fixed29 (HG.out.sub (by (first | exact Sub.refl _ | ((repeat (first | exact Sub.refl _ | (refine Sub.drop ?_ ?_; focus (simp only [none_upd, none_set, not_false_eq_true, true_and, and_true, *]; done)) | refine Sub.both ?_)); done))))) ?_; (try (simp (config := { contextual := true, dsimp := false }) only [*, CliC, Msg.cells, lf_aix, bC, ↓reduceIte, ↓evP, evQ, if_true, if_false, eq_self, binv, eqv, lenv, fillO, splice, fldv, Sp.eqa, eqL, eq1, Nat.reduceAdd, Nat.reduceEqDiff, Nat.reduceLeDiff, Nat.reduceMul, reduceCtorEq, Int.reduceLT, Int.reduceLE, Int.reduceGT, Int.reduceGE, Int.reduceEq, Int.reduceNeg]))) | (refine ccallF_of (fixed29 (HG.out.sub (by (first | exact Sub.refl _ | ((repeat (first | exact Sub.refl _ | (refine Sub.drop ?_ ?_; focus (simp only [none_upd, none_set, not_false_eq_true, true_and, and_true, *]; done)) | refine Sub.both ?_)); done))))) ?_; (try (simp (config := { contextual := true, dsimp := false }) only [*, CliC, Msg.cells, lf_aix, bC, ↓reduceIte, ↓evP, evQ, if_true, if_false, eq_self, binv, eqv, lenv, fillO, splice, fldv, Sp.eqa, eqL, eq1, Nat.reduceAdd, Nat.reduceEqDiff, Nat.reduceLeDiff, Nat.reduceMul, reduceCtorEq, Int.reduceLT, Int.reduceLE, Int.reduceGT, Int.reduceGE, Int.reduceEq, Int.reduceNeg]))) | (refine gcallF_of (fixed29 (HG.out.sub (by (first | exact Sub.refl _ | ((repeat (first | exact Sub.refl _ | (refine Sub.drop ?_ ?_; focus (simp only [none_upd, none_set, not_false_eq_true, true_and, and_true, *]; done)) | refine Sub.both ?_)); done))))) ?_; (try (simp (config := { contextual := true, dsimp := false }) only [*, CliC, Msg.cells, lf_aix, bC, ↓reduceIte, ↓evP, evQ, if_true, if_false, eq_self, binv, eqv, lenv, fillO, splice, fldv, Sp.eqa, eqL, eq1, Nat.reduceAdd, Nat.reduceEqDiff, Nat.reduceLeDiff, Nat.reduceMul, reduceCtorEq, Int.reduceLT, Int.reduceLE, Int.reduceGT, Int.reduceGE, Int.reduceEq, Int.reduceNeg]))) | (intro _; intros) | ((refine And.intro ?_ ?_; focus (first | omega | (first | exact Sub.refl _ | ((repeat (first | exact Sub.refl _ | (refine Sub.drop ?_ ?_; focus (simp only [none_upd, none_set, not_false_eq_true, true_and, and_true, *]; done)) | refine Sub.both ?_)); done)) | ((simp only [decide_eq_true_eq, decide_eq_false_iff_not] at *); omega) | (simp_all; done) | (simp_all; omega))); (try (simp (config := { contextual := true, dsimp := false }) only [*, CliC, Msg.cells, lf_aix, bC, ↓reduceIte, ↓evP, evQ, if_true, if_false, eq_self, binv, eqv, lenv, fillO, splice, fldv, Sp.eqa, eqL, eq1, Nat.reduceAdd, Nat.reduceEqDiff, Nat.reduceLeDiff, Nat.reduceMul, reduceCtorEq, Int.reduceLT, Int.reduceLE, Int.reduceGT, Int.reduceGE, Int.reduceEq, Int.reduceNeg])))))
  refine callF_of (newCli { nodes := 1 } σ) ?_
  rintro u σ1 ⟨g, rfl, h1⟩
  generalize Cfg.held { nodes := 1 } = c0 at h1
  have H1 := Hid.mk h1
  clear h1
  simp (config := { contextual := true, dsimp := false }) only [*, CliC, Msg.cells, lf_aix, bC, ↓reduceIte, ↓evP, evQ, if_true, if_false, eq_self, binv, eqv, lenv, fillO, splice, fldv, Sp.eqa, eqL, eq1, Nat.reduceAdd, Nat.reduceEqDiff, Nat.reduceLeDiff, Nat.reduceMul, reduceCtorEq, Int.reduceLT, Int.reduceLE, Int.reduceGT, Int.reduceGE, Int.reduceEq, Int.reduceNeg]
  refine loopF_of (fun k s σ' => ∃ (i : Nat) (C : CL), i ≤ 3 ∧ k = 3 - i ∧ s 0 = .slice fa fs.length fc ∧ s 1 = .slice pa ps.length pc ∧ s 5 = .pointer (some ⟨g, 0, none⟩) ∧ s 6 = .int .i64 i ∧ C.g = g ∧ C.ss.length = i ∧ C.ts = [] ∧ (∀ (j : Nat) x, C.ss[j]? = some x → x.S.floor = 0) ∧ Cli σ σ' C) 3 (Sub.refl _) ⟨0, _, by omega, rfl, (by first | rfl | (simp only [↓putO_get, ↓putO_no, init_zero, init_succ, Nat.reduceEqDiff, ↓reduceIte, *]; done) | (simp only [↓putO_get, ↓putO_no, init_zero, init_succ, Nat.reduceEqDiff, ↓reduceIte, *]; rfl)), (by first | rfl | (simp only [↓putO_get, ↓putO_no, init_zero, init_succ, Nat.reduceEqDiff, ↓reduceIte, *]; done) | (simp only [↓putO_get, ↓putO_no, init_zero, init_succ, Nat.reduceEqDiff, ↓reduceIte, *]; rfl)), (by first | rfl | (simp only [↓putO_get, ↓putO_no, init_zero, init_succ, Nat.reduceEqDiff, ↓reduceIte, *]; done) | (simp only [↓putO_get, ↓putO_no, init_zero, init_succ, Nat.reduceEqDiff, ↓reduceIte, *]; rfl)), (by first | rfl | (simp only [↓putO_get, ↓putO_no, init_zero, init_succ, Nat.reduceEqDiff, ↓reduceIte, *]; done) | (simp only [↓putO_get, ↓putO_no, init_zero, init_succ, Nat.reduceEqDiff, ↓reduceIte, *]; rfl)), rfl, rfl, rfl, fun j x hx => by simp at hx, H1.out⟩ ?_
  clear H1 σ1
  rintro k s σ' ⟨i, C, hi, rfl, s0, s1, s5, s6, hCg, hl, hts, hfl, h⟩
  have H := Hid.mk h
  clear h
  have HL := Hid.mk (And.intro hl (And.intro hts (And.intro hCg hfl)))
  clear hl hts hCg hfl
  rcases Nat.lt_or_ge i 3 with hlt | hge
  · have hd : decide ((i : Int) < 3) = true := by simp; omega
    have e1 : IntKind.i64.wrap ((i : Int) + 1) = ((i + 1 : Nat) : Int) := by rw [wi64 (by omega)]; rfl
    simp (config := { contextual := true, dsimp := false }) only [*, CliC, Msg.cells, lf_aix, bC, ↓reduceIte, ↓evP, evQ, if_true, if_false, eq_self, binv, eqv, lenv, fillO, splice, fldv, Sp.eqa, eqL, eq1, Nat.reduceAdd, Nat.reduceEqDiff, Nat.reduceLeDiff, Nat.reduceMul, reduceCtorEq, Int.reduceLT, Int.reduceLE, Int.reduceGT, Int.reduceGE, Int.reduceEq, Int.reduceNeg]
    (repeat' (first | (refine condF_split (fun hc => ?_) (fun hc => ?_) <;> (try simp only [Bool.not_eq_true', Bool.not_eq_false', Bool.and_eq_true, Bool.or_eq_false_iff] at hc) <;> (try (simp (config := { contextual := true, dsimp := false }) only [*, CliC, Msg.cells, lf_aix, bC, ↓reduceIte, ↓evP, evQ, if_true, if_false, eq_self, binv, eqv, lenv, fillO, splice, fldv, Sp.eqa, eqL, eq1, Nat.reduceAdd, Nat.reduceEqDiff, Nat.reduceLeDiff, Nat.reduceMul, reduceCtorEq, Int.reduceLT, Int.reduceLE, Int.reduceGT, Int.reduceGE, Int.reduceEq, Int.reduceNeg]))) | (intro _; intros) | ((refine And.intro ?_ ?_; focus (first | omega | (first | exact Sub.refl _ | ((repeat (first | exact Sub.refl _ | (refine Sub.drop ?_ ?_; focus (simp only [none_upd, none_set, not_false_eq_true, true_and, and_true, *]; done)) | refine Sub.both ?_)); done)) | ((simp only [decide_eq_true_eq, decide_eq_false_iff_not] at *); omega) | (simp_all; done) | (simp_all; omega))); (try (simp (config := { contextual := true, dsimp := false }) only [*, CliC, Msg.cells, lf_aix, bC, ↓reduceIte, ↓evP, evQ, if_true, if_false, eq_self, binv, eqv, lenv, fillO, splice, fldv, Sp.eqa, eqL, eq1, Nat.reduceAdd, Nat.reduceEqDiff, Nat.reduceLeDiff, Nat.reduceMul, reduceCtorEq, Int.reduceLT, Int.reduceLE, Int.reduceGT, Int.reduceGE, Int.reduceEq, Int.reduceNeg])))))
    have q := openC H.out.at_ (by rw [HL.out.1]; omega)
    rw [HL.out.2.2.1] at q
    refine callF_of q ?_
    clear q
    rintro u σ2 ⟨rfl, k, vs, mv⟩
    have H2 := Hid.mk (H.out.on mv)
    clear mv
    simp (config := { contextual := true, dsimp := false }) only [*, CliC, Msg.cells, lf_aix, bC, ↓reduceIte, ↓evP, evQ, if_true, if_false, eq_self, binv, eqv, lenv, fillO, splice, fldv, Sp.eqa, eqL, eq1, Nat.reduceAdd, Nat.reduceEqDiff, Nat.reduceLeDiff, Nat.reduceMul, reduceCtorEq, Int.reduceLT, Int.reduceLE, Int.reduceGT, Int.reduceGE, Int.reduceEq, Int.reduceNeg]
    (repeat' (first | (refine condF_split (fun hc => ?_) (fun hc => ?_) <;> (try simp only [Bool.not_eq_true', Bool.not_eq_false', Bool.and_eq_true, Bool.or_eq_false_iff] at hc) <;> (try (simp (config := { contextual := true, dsimp := false }) only [*, CliC, Msg.cells, lf_aix, bC, ↓reduceIte, ↓evP, evQ, if_true, if_false, eq_self, binv, eqv, lenv, fillO, splice, fldv, Sp.eqa, eqL, eq1, Nat.reduceAdd, Nat.reduceEqDiff, Nat.reduceLeDiff, Nat.reduceMul, reduceCtorEq, Int.reduceLT, Int.reduceLE, Int.reduceGT, Int.reduceGE, Int.reduceEq, Int.reduceNeg]))) | (intro _; intros) | ((refine And.intro ?_ ?_; focus (first | omega | (first | exact Sub.refl _ | ((repeat (first | exact Sub.refl _ | (refine Sub.drop ?_ ?_; focus (simp only [none_upd, none_set, not_false_eq_true, true_and, and_true, *]; done)) | refine Sub.both ?_)); done)) | ((simp only [decide_eq_true_eq, decide_eq_false_iff_not] at *); omega) | (simp_all; done) | (simp_all; omega))); (try (simp (config := { contextual := true, dsimp := false }) only [*, CliC, Msg.cells, lf_aix, bC, ↓reduceIte, ↓evP, evQ, if_true, if_false, eq_self, binv, eqv, lenv, fillO, splice, fldv, Sp.eqa, eqL, eq1, Nat.reduceAdd, Nat.reduceEqDiff, Nat.reduceLeDiff, Nat.reduceMul, reduceCtorEq, Int.reduceLT, Int.reduceLE, Int.reduceGT, Int.reduceGE, Int.reduceEq, Int.reduceNeg])))))
    refine nextF_of (3 - (i + 1)) (by omega) (Sub.refl _) ⟨i + 1, C.opens k vs, by omega, rfl, (by first | rfl | (simp only [↓putO_get, ↓putO_no, init_zero, init_succ, Nat.reduceEqDiff, ↓reduceIte, *]; done) | (simp only [↓putO_get, ↓putO_no, init_zero, init_succ, Nat.reduceEqDiff, ↓reduceIte, *]; rfl)), (by first | rfl | (simp only [↓putO_get, ↓putO_no, init_zero, init_succ, Nat.reduceEqDiff, ↓reduceIte, *]; done) | (simp only [↓putO_get, ↓putO_no, init_zero, init_succ, Nat.reduceEqDiff, ↓reduceIte, *]; rfl)), (by first | rfl | (simp only [↓putO_get, ↓putO_no, init_zero, init_succ, Nat.reduceEqDiff, ↓reduceIte, *]; done) | (simp only [↓putO_get, ↓putO_no, init_zero, init_succ, Nat.reduceEqDiff, ↓reduceIte, *]; rfl)), (by first | rfl | (simp only [↓putO_get, ↓putO_no, init_zero, init_succ, Nat.reduceEqDiff, ↓reduceIte, *]; done) | (simp only [↓putO_get, ↓putO_no, init_zero, init_succ, Nat.reduceEqDiff, ↓reduceIte, *]; rfl)), HL.out.2.2.1, by show (C.ss ++ [_]).length = _; rw [List.length_append, HL.out.1]; rfl, HL.out.2.1, fun j x hx => ?_, H2.out⟩
    rcases snoc_get hx with ⟨_, rfl⟩ | ⟨_, hx⟩
    · rfl
    · exact HL.out.2.2.2 j x hx
  · have hd : decide ((i : Int) < 3) = false := by simp; omega
    obtain rfl : i = 3 := by omega
    simp (config := { contextual := true, dsimp := false }) only [*, CliC, Msg.cells, lf_aix, bC, ↓reduceIte, ↓evP, evQ, if_true, if_false, eq_self, binv, eqv, lenv, fillO, splice, fldv, Sp.eqa, eqL, eq1, Nat.reduceAdd, Nat.reduceEqDiff, Nat.reduceLeDiff, Nat.reduceMul, reduceCtorEq, Int.reduceLT, Int.reduceLE, Int.reduceGT, Int.reduceGE, Int.reduceEq, Int.reduceNeg]
    (repeat' (first | (refine condF_split (fun hc => ?_) (fun hc => ?_) <;> (try simp only [Bool.not_eq_true', Bool.not_eq_false', Bool.and_eq_true, Bool.or_eq_false_iff] at hc) <;> (try (simp (config := { contextual := true, dsimp := false }) only [*, CliC, Msg.cells, lf_aix, bC, ↓reduceIte, ↓evP, evQ, if_true, if_false, eq_self, binv, eqv, lenv, fillO, splice, fldv, Sp.eqa, eqL, eq1, Nat.reduceAdd, Nat.reduceEqDiff, Nat.reduceLeDiff, Nat.reduceMul, reduceCtorEq, Int.reduceLT, Int.reduceLE, Int.reduceGT, Int.reduceGE, Int.reduceEq, Int.reduceNeg]))) | (intro _; intros) | ((refine And.intro ?_ ?_; focus (first | omega | (first | exact Sub.refl _ | ((repeat (first | exact Sub.refl _ | (refine Sub.drop ?_ ?_; focus (simp only [none_upd, none_set, not_false_eq_true, true_and, and_true, *]; done)) | refine Sub.both ?_)); done)) | ((simp only [decide_eq_true_eq, decide_eq_false_iff_not] at *); omega) | (simp_all; done) | (simp_all; omega))); (try (simp (config := { contextual := true, dsimp := false }) only [*, CliC, Msg.cells, lf_aix, bC, ↓reduceIte, ↓evP, evQ, if_true, if_false, eq_self, binv, eqv, lenv, fillO, splice, fldv, Sp.eqa, eqL, eq1, Nat.reduceAdd, Nat.reduceEqDiff, Nat.reduceLeDiff, Nat.reduceMul, reduceCtorEq, Int.reduceLT, Int.reduceLE, Int.reduceGT, Int.reduceGE, Int.reduceEq, Int.reduceNeg])))))
    rename_i b b0
    refine loopF_of (fun k s σ' => ∃ (i : Nat) (f : Nat → Int) (C : CL) (τ : Hp), i ≤ 200 ∧ k = 200 - i ∧ s 0 = .slice fa fs.length fc ∧ s 1 = .slice pa ps.length pc ∧ s 5 = .pointer (some ⟨g, 0, none⟩) ∧ s 7 = .pointer (some ⟨b, 0, none⟩) ∧ s 8 = .int .i64 i ∧ σ' = upd τ b (.cells [.int .i64 (f 0), .int .i64 (f 1), .int .i64 (f 2)] 79) ∧ τ b = none ∧
      C.g = g ∧ C.ss.length = 3 ∧ C.ts.length = i ∧ (∀ (j : Nat) x, C.ss[j]? = some x → x.S.floor = f j ∧ 0 ≤ f j ∧ f j ≤ 1099511627776) ∧ Cli σ τ C) 200 (Sub.refl _) ⟨0, fun _ => 0, C, σ', by omega, rfl, (by first | rfl | (simp only [↓putO_get, ↓putO_no, init_zero, init_succ, Nat.reduceEqDiff, ↓reduceIte, *]; done) | (simp only [↓putO_get, ↓putO_no, init_zero, init_succ, Nat.reduceEqDiff, ↓reduceIte, *]; rfl)), (by first | rfl | (simp only [↓putO_get, ↓putO_no, init_zero, init_succ, Nat.reduceEqDiff, ↓reduceIte, *]; done) | (simp only [↓putO_get, ↓putO_no, init_zero, init_succ, Nat.reduceEqDiff, ↓reduceIte, *]; rfl)), (by first | rfl | (simp only [↓putO_get, ↓putO_no, init_zero, init_succ, Nat.reduceEqDiff, ↓reduceIte, *]; done) | (simp only [↓putO_get, ↓putO_no, init_zero, init_succ, Nat.reduceEqDiff, ↓reduceIte, *]; rfl)), (by first | rfl | (simp only [↓putO_get, ↓putO_no, init_zero, init_succ, Nat.reduceEqDiff, ↓reduceIte, *]; done) | (simp only [↓putO_get, ↓putO_no, init_zero, init_succ, Nat.reduceEqDiff, ↓reduceIte, *]; rfl)), (by first | rfl | (simp only [↓putO_get, ↓putO_no, init_zero, init_succ, Nat.reduceEqDiff, ↓reduceIte, *]; done) | (simp only [↓putO_get, ↓putO_no, init_zero, init_succ, Nat.reduceEqDiff, ↓reduceIte, *]; rfl)), rfl, b0, HL.out.2.2.1, HL.out.1, by rw [HL.out.2.1]; rfl, fun j x hx => ⟨HL.out.2.2.2 j x hx, by show (0 : Int) ≤ 0; omega, by show (0 : Int) ≤ _; omega⟩, H.out⟩ ?_
    have Hb := Hid.mk (H.out.sub.noneAt b0)
    clear H HL s0 s1 s5 s6 s b0 σ' C hd hge hi
    rintro k s σ' ⟨i, f, C, τ, hi, rfl, s0, s1, s5, s7, s8, rfl, hb, hCg, hl, hts, hfl, h⟩
    have H := Hid.mk h
    have HL := Hid.mk (And.intro hl (And.intro hts (And.intro hCg hfl)))
    clear h hl hts hCg hfl
    by_cases hlt : i < fs.length ∧ i < 200
    · have hd1 : decide ((i : Int) < (fs.length : Int)) = true := by simp; omega
      have hd2 : decide ((i : Int) < 200) = true := by simp; omega
      have e1 : IntKind.i64.wrap ((i : Int) + 1) = ((i + 1 : Nat) : Int) := by rw [wi64 (by omega)]; rfl
      obtain ⟨r, hr, hr3⟩ : ∃ r : Nat, (i : Int).tmod 3 = r ∧ r < 3 := ⟨i % 3, by rw [Int.tmod_eq_emod_of_nonneg (by omega)]; rfl, Nat.mod_lt _ (by omega)⟩
      have hr4 : (r : Int) < 3 := by omega
      have hget : ([.int .i64 (f 0), .int .i64 (f 1), .int .i64 (f 2)] : List Value)[r * 1]? = some (.int .i64 (f r)) := by
        obtain rfl | rfl | rfl : r = 0 ∨ r = 1 ∨ r = 2 := by omega
        all_goals rfl
      obtain ⟨S, hS⟩ : ∃ S, C.ss[r]? = some S := ⟨_, List.getElem?_eq_getElem (by rw [HL.out.1]; exact hr3)⟩
      have HS := Hid.mk hS
      clear hS
      have hfr := HL.out.2.2.2 r S HS.out
      have HFr := Hid.mk hfr
      clear hfr
      simp (config := { contextual := true, dsimp := false }) only [*, CliC, Msg.cells, lf_aix, bC, ↓reduceIte, ↓evP, evQ, if_true, if_false, eq_self, binv, eqv, lenv, fillO, splice, fldv, Sp.eqa, eqL, eq1, Nat.reduceAdd, Nat.reduceEqDiff, Nat.reduceLeDiff, Nat.reduceMul, reduceCtorEq, Int.reduceLT, Int.reduceLE, Int.reduceGT, Int.reduceGE, Int.reduceEq, Int.reduceNeg]
      have q := beginC H.out.at_ HS.out (by rw [HL.out.2.1]; omega)
      rw [HL.out.2.2.1, HL.out.2.1] at q
      refine callF_of (ACalls.beside hb q) ?_
      clear q
      rintro u _ ⟨σ2, ⟨rfl, t, vt, vh, mv⟩, n1, rfl⟩
      have H2 := Hid.mk (H.out.on mv)
      clear mv
      have ht2 : (C.begins t vt vh r S).ts[i]? = some ⟨t, newT i C.c.nodes (f r), .slice none 0 0, r, S.g⟩ := by
        show (C.ts ++ [_])[i]? = _
        rw [← HL.out.2.1, List.getElem?_append_right (Nat.le_refl _), Nat.sub_self, HFr.out.1]; rfl
      have HT2 := Hid.mk ht2
      clear ht2
      have hg2 : (C.begins t vt vh r S).g = g := HL.out.2.2.1
      simp (config := { contextual := true, dsimp := false }) only [*, CliC, Msg.cells, lf_aix, bC, ↓reduceIte, ↓evP, evQ, if_true, if_false, eq_self, binv, eqv, lenv, fillO, splice, fldv, Sp.eqa, eqL, eq1, Nat.reduceAdd, Nat.reduceEqDiff, Nat.reduceLeDiff, Nat.reduceMul, reduceCtorEq, Int.reduceLT, Int.reduceLE, Int.reduceGT, Int.reduceGE, Int.reduceEq, Int.reduceNeg]
      have q := txC H2.out.at_ HT2.out (by show 0 * 40 ≤ _; omega)
      rw [hg2] at q
      refine callF_of (ACalls.beside n1 q) ?_
      clear q
      rintro u _ ⟨σ3, ⟨v3, rfl, hr3', hM3⟩, n2, rfl⟩
      obtain ⟨a3, c3, rfl⟩ := hr3'.slice
      have H3 : Hid (Cli σ σ3 (C.begins t vt vh r S)) := ⟨H2.out.at_.keep hM3.1 (fun _ _ x => x), H2.out.sub.trans hM3.sub, H2.out.new⟩
      clear hr3' hM3 H2
      have e3 := newT_lo (id := i) (nodes := C.c.nodes) HFr.out.2.1 HFr.out.2.2
      have d1 : decide (f r = f r) = true := by simp
      unfold TxS.view
      rw [e3.1, e3.2]
      by_cases hp : i < ps.length
      · have d2 : decide ((i : Int) < (ps.length : Int)) = true := by simp; omega
        obtain ⟨lo, hlo⟩ : ∃ x, fs[i]? = some x := ⟨_, List.getElem?_eq_getElem hlt.1⟩
        obtain ⟨sp, hsp⟩ : ∃ x, ps[i]? = some x := ⟨_, List.getElem?_eq_getElem hp⟩
        obtain ⟨b1, o1, rfl, q1⟩ := HF.out.1 i lo hlo
        obtain ⟨b2, o2, rfl, q2⟩ := HF.out.2.1 i sp hsp
        have hr1 := HF.out.2.2.1 lo (List.mem_of_getElem? hlo)
        have hr2 := HF.out.2.2.2 sp (List.mem_of_getElem? hsp)
        have HQ := Hid.mk (And.intro q1 (And.intro q2 (And.intro hr1 hr2)))
        clear hlo hsp q1 q2 hr1 hr2
        simp (config := { contextual := true, dsimp := false }) only [*, CliC, Msg.cells, lf_aix, bC, ↓reduceIte, ↓evP, evQ, if_true, if_false, eq_self, binv, eqv, lenv, fillO, splice, fldv, Sp.eqa, eqL, eq1, Nat.reduceAdd, Nat.reduceEqDiff, Nat.reduceLeDiff, Nat.reduceMul, reduceCtorEq, Int.reduceLT, Int.reduceLE, Int.reduceGT, Int.reduceGE, Int.reduceEq, Int.reduceNeg]
        (repeat' (first | (refine condF_split (fun hc => ?_) (fun hc => ?_) <;> (try simp only [Bool.not_eq_true', Bool.not_eq_false', Bool.and_eq_true, Bool.or_eq_false_iff] at hc) <;> (try (simp (config := { contextual := true, dsimp := false }) only [*, CliC, Msg.cells, lf_aix, bC, ↓reduceIte, ↓evP, evQ, if_true, if_false, eq_self, binv, eqv, lenv, fillO, splice, fldv, Sp.eqa, eqL, eq1, Nat.reduceAdd, Nat.reduceEqDiff, Nat.reduceLeDiff, Nat.reduceMul, reduceCtorEq, Int.reduceLT, Int.reduceLE, Int.reduceGT, Int.reduceGE, Int.reduceEq, Int.reduceNeg]))) | (intro _; intros) | ((refine And.intro ?_ ?_; focus (first | omega | (first | exact Sub.refl _ | ((repeat (first | exact Sub.refl _ | (refine Sub.drop ?_ ?_; focus (simp only [none_upd, none_set, not_false_eq_true, true_and, and_true, *]; done)) | refine Sub.both ?_)); done)) | ((simp only [decide_eq_true_eq, decide_eq_false_iff_not] at *); omega) | (simp_all; done) | (simp_all; omega))); (try (simp (config := { contextual := true, dsimp := false }) only [*, CliC, Msg.cells, lf_aix, bC, ↓reduceIte, ↓evP, evQ, if_true, if_false, eq_self, binv, eqv, lenv, fillO, splice, fldv, Sp.eqa, eqL, eq1, Nat.reduceAdd, Nat.reduceEqDiff, Nat.reduceLeDiff, Nat.reduceMul, reduceCtorEq, Int.reduceLT, Int.reduceLE, Int.reduceGT, Int.reduceGE, Int.reduceEq, Int.reduceNeg])))))
        rename_i d d1 d1' d0
        have q := readC H3.out.at_ HT2.out kB (by show (1 : Nat) ≤ _; omega) (by show 0 ≤ _; omega)
        rw [hg2] at q
        dsimp only at q
        rw [newT_read] at q
        dsimp only at q
        refine callF_of (ACalls.beside ?_ (ACalls.beside n2 q)) ?_
        · (simp only [none_upd, none_set, not_false_eq_true, true_and, and_true, *]; done)
        clear q
        rintro u _ ⟨_, ⟨σ4, ⟨rfl, mv⟩, n3, rfl⟩, n4, rfl⟩
        simp only [none_upd] at n4
        have H4 := Hid.mk (H3.out.on mv)
        clear mv
        have hseq : ((newT (i : Int) C.c.nodes (f r)).asks 1 kB).req.seq = 1 := rfl
        have hN1 : ∀ x, σ4 x = none → ¬ b1 = x := fun x hx => rdn_apart (rdn_sub H4.out.sub HQ.out.1) hx
        have hN2 : ∀ x, σ4 x = none → ¬ b2 = x := fun x hx => rdn_apart (rdn_sub H4.out.sub HQ.out.2.1) hx
        have ho1 : one ((newT (i : Int) C.c.nodes (f r)).asks 1 kB).req.writes = true := rfl
        have ho2 : one ((newT (i : Int) C.c.nodes (f r)).asks 1 kB).req.keys = true := rfl
        have hA : rd σ4 b1 (o1 + i * 1) = some (.int .u8 lo) := rd_of_rdn (rdn_sub H4.out.sub HQ.out.1)
        have hB : rd σ4 b2 (o2 + i * 1) = some (.int .u8 sp) := rd_of_rdn (rdn_sub H4.out.sub HQ.out.2.1)
        have w1 : IntKind.i64.wrap lo = lo := wi64 (by have := HQ.out.2.2; omega)
        have w2 : IntKind.i64.wrap sp = sp := wi64 (by have := HQ.out.2.2; omega)
        have w3 : IntKind.i64.wrap (lo + 1) = lo + 1 := wi64 (by have := HQ.out.2.2; omega)
        have w4 : IntKind.i64.wrap (lo + 1 + sp) = lo + 1 + sp := wi64 (by have := HQ.out.2.2; omega)
        simp (config := { contextual := true, dsimp := false }) only [*, CliC, Msg.cells, lf_aix, bC, ↓reduceIte, ↓evP, evQ, if_true, if_false, eq_self, binv, eqv, lenv, fillO, splice, fldv, Sp.eqa, eqL, eq1, Nat.reduceAdd, Nat.reduceEqDiff, Nat.reduceLeDiff, Nat.reduceMul, reduceCtorEq, Int.reduceLT, Int.reduceLE, Int.reduceGT, Int.reduceGE, Int.reduceEq, Int.reduceNeg]
        (repeat' (first | (refine condF_split (fun hc => ?_) (fun hc => ?_) <;> (try simp only [Bool.not_eq_true', Bool.not_eq_false', Bool.and_eq_true, Bool.or_eq_false_iff] at hc) <;> (try (simp (config := { contextual := true, dsimp := false }) only [*, CliC, Msg.cells, lf_aix, bC, ↓reduceIte, ↓evP, evQ, if_true, if_false, eq_self, binv, eqv, lenv, fillO, splice, fldv, Sp.eqa, eqL, eq1, Nat.reduceAdd, Nat.reduceEqDiff, Nat.reduceLeDiff, Nat.reduceMul, reduceCtorEq, Int.reduceLT, Int.reduceLE, Int.reduceGT, Int.reduceGE, Int.reduceEq, Int.reduceNeg]))) | (intro _; intros) | ((refine And.intro ?_ ?_; focus (first | omega | (first | exact Sub.refl _ | ((repeat (first | exact Sub.refl _ | (refine Sub.drop ?_ ?_; focus (simp only [none_upd, none_set, not_false_eq_true, true_and, and_true, *]; done)) | refine Sub.both ?_)); done)) | ((simp only [decide_eq_true_eq, decide_eq_false_iff_not] at *); omega) | (simp_all; done) | (simp_all; omega))); (try (simp (config := { contextual := true, dsimp := false }) only [*, CliC, Msg.cells, lf_aix, bC, ↓reduceIte, ↓evP, evQ, if_true, if_false, eq_self, binv, eqv, lenv, fillO, splice, fldv, Sp.eqa, eqL, eq1, Nat.reduceAdd, Nat.reduceEqDiff, Nat.reduceLeDiff, Nat.reduceMul, reduceCtorEq, Int.reduceLT, Int.reduceLE, Int.reduceGT, Int.reduceGE, Int.reduceEq, Int.reduceNeg])))))
        rename_i e e1 e1' e2 e2' e0 mm mm1 mm1' mm2 mm2' mm3 mm3' mm0 pp pp1 pp1' pp2 pp2' pp3 pp3' pp4 pp4' pp0
        clear hN1 hN2 hA hB ho1 ho2
        have ht4 : (((C.begins t vt vh r S).tx i ⟨t, newT i C.c.nodes (f r), .slice none 0 0, r, S.g⟩ ((newT i C.c.nodes (f r)).asks 1 kB) (.slice none 0 0)).ts)[i]? = some ⟨t, (newT i C.c.nodes (f r)).asks 1 kB, .slice none 0 0, r, S.g⟩ := by
          have := (List.getElem?_eq_some_iff.1 HT2.out).1
          show ((C.begins t vt vh r S).ts.set i _)[i]? = _
          rw [List.getElem?_set_self this]
        have q := hearC (m := ansM i lo sp) H4.out.at_ ht4 (by show (4 : Int) ≠ 2; decide) rfl (by show (1 : Nat) ≤ _; omega) (by show (0 + 1) * 40 ≤ _; omega)
        dsimp only at q
        rw [show (((C.begins t vt vh r S).tx i ⟨t, newT i C.c.nodes (f r), .slice none 0 0, r, S.g⟩ ((newT i C.c.nodes (f r)).asks 1 kB) (.slice none 0 0)).g) = g from hg2] at q
        have n3' := And.intro n3 n4.2
        refine callF_of (ACalls.beside ?_ (ACalls.beside ?_ (ACalls.beside ?_ (ACalls.beside ?_ (ACalls.beside n3 q))))) ?_
        · (simp only [none_upd, none_set, not_false_eq_true, true_and, and_true, *]; done)
        · (simp only [none_upd, none_set, not_false_eq_true, true_and, and_true, *]; done)
        · (simp only [none_upd, none_set, not_false_eq_true, true_and, and_true, *]; done)
        · (simp only [none_upd, none_set, not_false_eq_true, true_and, and_true, *]; done)
        clear q
        rintro u _ ⟨_, ⟨_, ⟨_, ⟨_, ⟨σ5, ⟨rfl, v5, mv⟩, m1, rfl⟩, m2, rfl⟩, m3, rfl⟩, m4, rfl⟩, m5, rfl⟩
        simp only [none_upd] at m2 m3 m4 m5
        have hfin := hear_fin (id := i) (nodes := C.c.nodes) (f := f r) (lo := lo) (sp := sp) ⟨HFr.out.2.1, HFr.out.2.2, HQ.out.2.2.1.1, HQ.out.2.2.1.2, HQ.out.2.2.2.1, HQ.out.2.2.2.2⟩
        obtain ⟨C5, h5, hC5⟩ : ∃ C5, Cli σ σ5 C5 ∧ C5.g = g ∧ C5.ss = C.ss ∧ C5.ts.length = i + 1 ∧ C5.ts[i]? = some ⟨t, (((newT i C.c.nodes (f r)).asks 1 kB).hear (ansM i lo sp)).1, v5, r, S.g⟩ :=
          ⟨_, H4.out.on mv, hg2, rfl, by show (List.set (List.set (C.ts ++ [_]) i _) i _).length = _; simp [HL.out.2.1], by
            have := (List.getElem?_eq_some_iff.1 ht4).1
            show (List.set _ i _)[i]? = _
            rw [List.getElem?_set_self this]⟩
        clear mv ht4
        have H5 := Hid.mk h5
        have HC5 := Hid.mk hC5
        clear h5 hC5
        simp (config := { contextual := true, dsimp := false }) only [*, CliC, Msg.cells, lf_aix, bC, ↓reduceIte, ↓evP, evQ, if_true, if_false, eq_self, binv, eqv, lenv, fillO, splice, fldv, Sp.eqa, eqL, eq1, Nat.reduceAdd, Nat.reduceEqDiff, Nat.reduceLeDiff, Nat.reduceMul, reduceCtorEq, Int.reduceLT, Int.reduceLE, Int.reduceGT, Int.reduceGE, Int.reduceEq, Int.reduceNeg]
        (repeat' (first | (refine condF_split (fun hc => ?_) (fun hc => ?_) <;> (try simp only [Bool.not_eq_true', Bool.not_eq_false', Bool.and_eq_true, Bool.or_eq_false_iff] at hc) <;> (try (simp (config := { contextual := true, dsimp := false }) only [*, CliC, Msg.cells, lf_aix, bC, ↓reduceIte, ↓evP, evQ, if_true, if_false, eq_self, binv, eqv, lenv, fillO, splice, fldv, Sp.eqa, eqL, eq1, Nat.reduceAdd, Nat.reduceEqDiff, Nat.reduceLeDiff, Nat.reduceMul, reduceCtorEq, Int.reduceLT, Int.reduceLE, Int.reduceGT, Int.reduceGE, Int.reduceEq, Int.reduceNeg]))) | (intro _; intros) | ((refine And.intro ?_ ?_; focus (first | omega | (first | exact Sub.refl _ | ((repeat (first | exact Sub.refl _ | (refine Sub.drop ?_ ?_; focus (simp only [none_upd, none_set, not_false_eq_true, true_and, and_true, *]; done)) | refine Sub.both ?_)); done)) | ((simp only [decide_eq_true_eq, decide_eq_false_iff_not] at *); omega) | (simp_all; done) | (simp_all; omega))); (try (simp (config := { contextual := true, dsimp := false }) only [*, CliC, Msg.cells, lf_aix, bC, ↓reduceIte, ↓evP, evQ, if_true, if_false, eq_self, binv, eqv, lenv, fillO, splice, fldv, Sp.eqa, eqL, eq1, Nat.reduceAdd, Nat.reduceEqDiff, Nat.reduceLeDiff, Nat.reduceMul, reduceCtorEq, Int.reduceLT, Int.reduceLE, Int.reduceGT, Int.reduceGE, Int.reduceEq, Int.reduceNeg])))))
        have q := finishC H5.out.at_ HC5.out.2.2.2 (by rw [HC5.out.2.1]; exact HS.out) rfl
        generalize (((newT i C.c.nodes (f r)).asks 1 kB).hear (ansM i lo sp)).1 = T2 at hfin q HC5
        dsimp only at q
        rw [HC5.out.1] at q
        refine callF_of (ACalls.beside ?_ (ACalls.beside ?_ (ACalls.beside ?_ (ACalls.beside ?_ (ACalls.beside m1 q))))) ?_
        · (simp only [none_upd, none_set, not_false_eq_true, true_and, and_true, *]; done)
        · (simp only [none_upd, none_set, not_false_eq_true, true_and, and_true, *]; done)
        · (simp only [none_upd, none_set, not_false_eq_true, true_and, and_true, *]; done)
        · (simp only [none_upd, none_set, not_false_eq_true, true_and, and_true, *]; done)
        clear q
        rintro u _ ⟨_, ⟨_, ⟨_, ⟨_, ⟨σ6, ⟨hu, mv⟩, l1, rfl⟩, l2, rfl⟩, l3, rfl⟩, l4, rfl⟩, l5, rfl⟩
        simp only [none_upd] at l2 l3 l4 l5
        have w5 : IntKind.i64.wrap (lo + 1 + sp - 1) = lo + sp := by rw [wi64 (by have := HQ.out.2.2; omega)]; omega
        by_cases hc : f r < lo + 1 + sp
        · have e2 : T2.finish.2 = (lo + sp, 0) := by rw [hfin, decide_eq_true hc]; rfl
          rw [e2] at hu
          subst hu
          have hle : lo + sp ≤ 1099511627776 := by have := HQ.out.2.2; omega
          obtain ⟨C6, h6, hC6⟩ : ∃ C6, Cli σ σ6 C6 ∧ C6.g = g ∧ C6.ss.length = 3 ∧ C6.ts.length = i + 1 ∧ ∀ (j : Nat) x, C6.ss[j]? = some x → x.S.floor = (fun j => if j = r then mxI (f r) (lo + sp) else f j) j ∧ 0 ≤ (fun j => if j = r then mxI (f r) (lo + sp) else f j) j ∧ (fun j => if j = r then mxI (f r) (lo + sp) else f j) j ≤ 1099511627776 := by
            refine ⟨_, H5.out.on mv, ?_⟩
            unfold CL.fin
            rw [e2]
            refine ⟨HC5.out.1, ?_, ?_, fun j x hx => ?_⟩
            · show (List.set C5.ss r _).length = 3
              rw [List.length_set, HC5.out.2.1]; exact HL.out.1
            · show (List.set C5.ts i _).length = _
              rw [List.length_set]; exact HC5.out.2.2.1
            · have hx : (C5.ss.set r ⟨S.g, S.S.raise (lo + sp), S.v, S.ws⟩)[j]? = some x := hx
              rw [HC5.out.2.1] at hx
              dsimp only
              rcases get_set hx with ⟨rfl, rfl, _⟩ | ⟨hne, hx⟩
              · rw [if_pos rfl]
                refine ⟨?_, ?_, ?_⟩
                · show (S.S.raise (lo + sp)).floor = _
                  rw [raise_up hle, HFr.out.1]
                · have := HFr.out.2; unfold mxI; split <;> omega
                · have := HFr.out.2; unfold mxI; split <;> omega
              · rw [if_neg hne]
                exact HL.out.2.2.2 j x hx
          have d3 : decide (lo + 1 + sp ≤ f r) = false := by simp; omega
          have d4 : decide (lo + sp = lo + sp) = true := by simp
          have H6 := Hid.mk (And.intro h6 hC6)
          clear mv h6 hC6 hfin e2
          generalize hf' : (fun j => if j = r then mxI (f r) (lo + sp) else f j) = f' at H6
          have hf2 : ∀ j, f' j = if j = r then mxI (f r) (lo + sp) else f j := fun j => by rw [← hf']
          clear hf'
          have hle2 : r * 1 ≤ 2 := by omega
          have hspl : List.take (r * 1) [.int .i64 (f 0), .int .i64 (f 1), .int .i64 (f 2)] ++ [.int .i64 (mxI (f r) (lo + sp))] ++ List.drop (r * 1) [.int .i64 (f 1), .int .i64 (f 2)] = ([.int .i64 (f' 0), .int .i64 (f' 1), .int .i64 (f' 2)] : List Value) := by
            obtain rfl | rfl | rfl : r = 0 ∨ r = 1 ∨ r = 2 := by omega
            all_goals (simp only [hf2]; rfl)
          clear hf2
          simp (config := { contextual := true, dsimp := false }) only [*, CliC, Msg.cells, lf_aix, bC, ↓reduceIte, ↓evP, evQ, if_true, if_false, eq_self, binv, eqv, lenv, fillO, splice, fldv, Sp.eqa, eqL, eq1, Nat.reduceAdd, Nat.reduceEqDiff, Nat.reduceLeDiff, Nat.reduceMul, reduceCtorEq, Int.reduceLT, Int.reduceLE, Int.reduceGT, Int.reduceGE, Int.reduceEq, Int.reduceNeg]
          (repeat' (first | (refine condF_split (fun hc => ?_) (fun hc => ?_) <;> (try simp only [Bool.not_eq_true', Bool.not_eq_false', Bool.and_eq_true, Bool.or_eq_false_iff] at hc) <;> (try (simp (config := { contextual := true, dsimp := false }) only [*, CliC, Msg.cells, lf_aix, bC, ↓reduceIte, ↓evP, evQ, if_true, if_false, eq_self, binv, eqv, lenv, fillO, splice, fldv, Sp.eqa, eqL, eq1, Nat.reduceAdd, Nat.reduceEqDiff, Nat.reduceLeDiff, Nat.reduceMul, reduceCtorEq, Int.reduceLT, Int.reduceLE, Int.reduceGT, Int.reduceGE, Int.reduceEq, Int.reduceNeg]))) | (intro _; intros) | ((refine And.intro ?_ ?_; focus (first | omega | (first | exact Sub.refl _ | ((repeat (first | exact Sub.refl _ | (refine Sub.drop ?_ ?_; focus (simp only [none_upd, none_set, not_false_eq_true, true_and, and_true, *]; done)) | refine Sub.both ?_)); done)) | ((simp only [decide_eq_true_eq, decide_eq_false_iff_not] at *); omega) | (simp_all; done) | (simp_all; omega))); (try (simp (config := { contextual := true, dsimp := false }) only [*, CliC, Msg.cells, lf_aix, bC, ↓reduceIte, ↓evP, evQ, if_true, if_false, eq_self, binv, eqv, lenv, fillO, splice, fldv, Sp.eqa, eqL, eq1, Nat.reduceAdd, Nat.reduceEqDiff, Nat.reduceLeDiff, Nat.reduceMul, reduceCtorEq, Int.reduceLT, Int.reduceLE, Int.reduceGT, Int.reduceGE, Int.reduceEq, Int.reduceNeg])))))
          refine inner11 (b := b) (CliAt.fresh (CliAt.fresh (CliAt.fresh (CliAt.fresh (CliAt.fresh H6.out.1.at_ l1 _) (by (simp only [none_upd, none_set, not_false_eq_true, true_and, and_true, *]; done)) _) (by (simp only [none_upd, none_set, not_false_eq_true, true_and, and_true, *]; done)) _) (by (simp only [none_upd, none_set, not_false_eq_true, true_and, and_true, *]; done)) _) (by (simp only [none_upd, none_set, not_false_eq_true, true_and, and_true, *]; done)) _) H6.out.2.1 (by simp only [upd_at, *, ↓reduceIte]) H6.out.2.2.1 (fun j x hx => (H6.out.2.2.2.2 j x hx).1) (by first | rfl | (simp only [↓putO_get, ↓putO_no, init_zero, init_succ, Nat.reduceEqDiff, ↓reduceIte, *]; done) | (simp only [↓putO_get, ↓putO_no, init_zero, init_succ, Nat.reduceEqDiff, ↓reduceIte, *]; rfl)) (by first | rfl | (simp only [↓putO_get, ↓putO_no, init_zero, init_succ, Nat.reduceEqDiff, ↓reduceIte, *]; done) | (simp only [↓putO_get, ↓putO_no, init_zero, init_succ, Nat.reduceEqDiff, ↓reduceIte, *]; rfl)) fun s' hs => ?_
          simp only [List.map_cons, List.map_nil, ↓putO_get, ↓putO_no, init_zero, init_succ, Nat.reduceEqDiff, ↓reduceIte, List.cons.injEq, and_true] at hs
          simp (config := { contextual := true, dsimp := false }) only [*, CliC, Msg.cells, lf_aix, bC, ↓reduceIte, ↓evP, evQ, if_true, if_false, eq_self, binv, eqv, lenv, fillO, splice, fldv, Sp.eqa, eqL, eq1, Nat.reduceAdd, Nat.reduceEqDiff, Nat.reduceLeDiff, Nat.reduceMul, reduceCtorEq, Int.reduceLT, Int.reduceLE, Int.reduceGT, Int.reduceGE, Int.reduceEq, Int.reduceNeg]
          (repeat' (first | (refine condF_split (fun hc => ?_) (fun hc => ?_) <;> (try simp only [Bool.not_eq_true', Bool.not_eq_false', Bool.and_eq_true, Bool.or_eq_false_iff] at hc) <;> (try (simp (config := { contextual := true, dsimp := false }) only [*, CliC, Msg.cells, lf_aix, bC, ↓reduceIte, ↓evP, evQ, if_true, if_false, eq_self, binv, eqv, lenv, fillO, splice, fldv, Sp.eqa, eqL, eq1, Nat.reduceAdd, Nat.reduceEqDiff, Nat.reduceLeDiff, Nat.reduceMul, reduceCtorEq, Int.reduceLT, Int.reduceLE, Int.reduceGT, Int.reduceGE, Int.reduceEq, Int.reduceNeg]))) | (intro _; intros) | ((refine And.intro ?_ ?_; focus (first | omega | (first | exact Sub.refl _ | ((repeat (first | exact Sub.refl _ | (refine Sub.drop ?_ ?_; focus (simp only [none_upd, none_set, not_false_eq_true, true_and, and_true, *]; done)) | refine Sub.both ?_)); done)) | ((simp only [decide_eq_true_eq, decide_eq_false_iff_not] at *); omega) | (simp_all; done) | (simp_all; omega))); (try (simp (config := { contextual := true, dsimp := false }) only [*, CliC, Msg.cells, lf_aix, bC, ↓reduceIte, ↓evP, evQ, if_true, if_false, eq_self, binv, eqv, lenv, fillO, splice, fldv, Sp.eqa, eqL, eq1, Nat.reduceAdd, Nat.reduceEqDiff, Nat.reduceLeDiff, Nat.reduceMul, reduceCtorEq, Int.reduceLT, Int.reduceLE, Int.reduceGT, Int.reduceGE, Int.reduceEq, Int.reduceNeg])))))
          refine nextF_of (200 - (i + 1)) (by omega) (σ₁ := upd σ6 b (.cells [.int .i64 (f' 0), .int .i64 (f' 1), .int .i64 (f' 2)] 79)) (by (first | exact Sub.refl _ | ((repeat (first | exact Sub.refl _ | (refine Sub.drop ?_ ?_; focus (simp only [none_upd, none_set, not_false_eq_true, true_and, and_true, *]; done)) | refine Sub.both ?_)); done))) ⟨i + 1, f', C6, σ6, by omega, rfl, (by first | rfl | (simp only [↓putO_get, ↓putO_no, init_zero, init_succ, Nat.reduceEqDiff, ↓reduceIte, *]; done) | (simp only [↓putO_get, ↓putO_no, init_zero, init_succ, Nat.reduceEqDiff, ↓reduceIte, *]; rfl)), (by first | rfl | (simp only [↓putO_get, ↓putO_no, init_zero, init_succ, Nat.reduceEqDiff, ↓reduceIte, *]; done) | (simp only [↓putO_get, ↓putO_no, init_zero, init_succ, Nat.reduceEqDiff, ↓reduceIte, *]; rfl)), (by first | rfl | (simp only [↓putO_get, ↓putO_no, init_zero, init_succ, Nat.reduceEqDiff, ↓reduceIte, *]; done) | (simp only [↓putO_get, ↓putO_no, init_zero, init_succ, Nat.reduceEqDiff, ↓reduceIte, *]; rfl)), (by first | rfl | (simp only [↓putO_get, ↓putO_no, init_zero, init_succ, Nat.reduceEqDiff, ↓reduceIte, *]; done) | (simp only [↓putO_get, ↓putO_no, init_zero, init_succ, Nat.reduceEqDiff, ↓reduceIte, *]; rfl)), (by first | rfl | (simp only [↓putO_get, ↓putO_no, init_zero, init_succ, Nat.reduceEqDiff, ↓reduceIte, *]; done) | (simp only [↓putO_get, ↓putO_no, init_zero, init_succ, Nat.reduceEqDiff, ↓reduceIte, *]; rfl)), rfl, l1, H6.out.2.1, H6.out.2.2.1, H6.out.2.2.2.1, H6.out.2.2.2.2, H6.out.1⟩
        · have e2 : T2.finish.2 = (0, 31) := by rw [hfin, decide_eq_false hc]; rfl
          rw [e2] at hu
          subst hu
          obtain ⟨C6, h6, hC6⟩ : ∃ C6, Cli σ σ6 C6 ∧ C6.g = g ∧ C6.ss.length = 3 ∧ C6.ts.length = i + 1 ∧ ∀ (j : Nat) x, C6.ss[j]? = some x → x.S.floor = f j ∧ 0 ≤ f j ∧ f j ≤ 1099511627776 := by
            refine ⟨_, H5.out.on mv, ?_⟩
            unfold CL.fin
            rw [e2]
            refine ⟨HC5.out.1, ?_, ?_, fun j x hx => ?_⟩
            · show (C5.ss).length = 3
              rw [HC5.out.2.1]; exact HL.out.1
            · show (List.set C5.ts i _).length = _
              rw [List.length_set]; exact HC5.out.2.2.1
            · have hx : (C5.ss)[j]? = some x := hx
              rw [HC5.out.2.1] at hx
              exact HL.out.2.2.2 j x hx
          have d3 : decide (lo + 1 + sp ≤ f r) = true := by simp; omega
          have H6 := Hid.mk (And.intro h6 hC6)
          clear mv h6 hC6 hfin e2
          simp (config := { contextual := true, dsimp := false }) only [*, CliC, Msg.cells, lf_aix, bC, ↓reduceIte, ↓evP, evQ, if_true, if_false, eq_self, binv, eqv, lenv, fillO, splice, fldv, Sp.eqa, eqL, eq1, Nat.reduceAdd, Nat.reduceEqDiff, Nat.reduceLeDiff, Nat.reduceMul, reduceCtorEq, Int.reduceLT, Int.reduceLE, Int.reduceGT, Int.reduceGE, Int.reduceEq, Int.reduceNeg]
          (repeat' (first | (refine condF_split (fun hc => ?_) (fun hc => ?_) <;> (try simp only [Bool.not_eq_true', Bool.not_eq_false', Bool.and_eq_true, Bool.or_eq_false_iff] at hc) <;> (try (simp (config := { contextual := true, dsimp := false }) only [*, CliC, Msg.cells, lf_aix, bC, ↓reduceIte, ↓evP, evQ, if_true, if_false, eq_self, binv, eqv, lenv, fillO, splice, fldv, Sp.eqa, eqL, eq1, Nat.reduceAdd, Nat.reduceEqDiff, Nat.reduceLeDiff, Nat.reduceMul, reduceCtorEq, Int.reduceLT, Int.reduceLE, Int.reduceGT, Int.reduceGE, Int.reduceEq, Int.reduceNeg]))) | (intro _; intros) | ((refine And.intro ?_ ?_; focus (first | omega | (first | exact Sub.refl _ | ((repeat (first | exact Sub.refl _ | (refine Sub.drop ?_ ?_; focus (simp only [none_upd, none_set, not_false_eq_true, true_and, and_true, *]; done)) | refine Sub.both ?_)); done)) | ((simp only [decide_eq_true_eq, decide_eq_false_iff_not] at *); omega) | (simp_all; done) | (simp_all; omega))); (try (simp (config := { contextual := true, dsimp := false }) only [*, CliC, Msg.cells, lf_aix, bC, ↓reduceIte, ↓evP, evQ, if_true, if_false, eq_self, binv, eqv, lenv, fillO, splice, fldv, Sp.eqa, eqL, eq1, Nat.reduceAdd, Nat.reduceEqDiff, Nat.reduceLeDiff, Nat.reduceMul, reduceCtorEq, Int.reduceLT, Int.reduceLE, Int.reduceGT, Int.reduceGE, Int.reduceEq, Int.reduceNeg])))))
          refine inner11 (b := b) (CliAt.fresh (CliAt.fresh (CliAt.fresh (CliAt.fresh (CliAt.fresh H6.out.1.at_ l1 _) (by (simp only [none_upd, none_set, not_false_eq_true, true_and, and_true, *]; done)) _) (by (simp only [none_upd, none_set, not_false_eq_true, true_and, and_true, *]; done)) _) (by (simp only [none_upd, none_set, not_false_eq_true, true_and, and_true, *]; done)) _) (by (simp only [none_upd, none_set, not_false_eq_true, true_and, and_true, *]; done)) _) H6.out.2.1 (by simp only [upd_at, *, ↓reduceIte]) H6.out.2.2.1 (fun j x hx => (H6.out.2.2.2.2 j x hx).1) (by first | rfl | (simp only [↓putO_get, ↓putO_no, init_zero, init_succ, Nat.reduceEqDiff, ↓reduceIte, *]; done) | (simp only [↓putO_get, ↓putO_no, init_zero, init_succ, Nat.reduceEqDiff, ↓reduceIte, *]; rfl)) (by first | rfl | (simp only [↓putO_get, ↓putO_no, init_zero, init_succ, Nat.reduceEqDiff, ↓reduceIte, *]; done) | (simp only [↓putO_get, ↓putO_no, init_zero, init_succ, Nat.reduceEqDiff, ↓reduceIte, *]; rfl)) fun s' hs => ?_
          simp only [List.map_cons, List.map_nil, ↓putO_get, ↓putO_no, init_zero, init_succ, Nat.reduceEqDiff, ↓reduceIte, List.cons.injEq, and_true] at hs
          simp (config := { contextual := true, dsimp := false }) only [*, CliC, Msg.cells, lf_aix, bC, ↓reduceIte, ↓evP, evQ, if_true, if_false, eq_self, binv, eqv, lenv, fillO, splice, fldv, Sp.eqa, eqL, eq1, Nat.reduceAdd, Nat.reduceEqDiff, Nat.reduceLeDiff, Nat.reduceMul, reduceCtorEq, Int.reduceLT, Int.reduceLE, Int.reduceGT, Int.reduceGE, Int.reduceEq, Int.reduceNeg]
          (repeat' (first | (refine condF_split (fun hc => ?_) (fun hc => ?_) <;> (try simp only [Bool.not_eq_true', Bool.not_eq_false', Bool.and_eq_true, Bool.or_eq_false_iff] at hc) <;> (try (simp (config := { contextual := true, dsimp := false }) only [*, CliC, Msg.cells, lf_aix, bC, ↓reduceIte, ↓evP, evQ, if_true, if_false, eq_self, binv, eqv, lenv, fillO, splice, fldv, Sp.eqa, eqL, eq1, Nat.reduceAdd, Nat.reduceEqDiff, Nat.reduceLeDiff, Nat.reduceMul, reduceCtorEq, Int.reduceLT, Int.reduceLE, Int.reduceGT, Int.reduceGE, Int.reduceEq, Int.reduceNeg]))) | (intro _; intros) | ((refine And.intro ?_ ?_; focus (first | omega | (first | exact Sub.refl _ | ((repeat (first | exact Sub.refl _ | (refine Sub.drop ?_ ?_; focus (simp only [none_upd, none_set, not_false_eq_true, true_and, and_true, *]; done)) | refine Sub.both ?_)); done)) | ((simp only [decide_eq_true_eq, decide_eq_false_iff_not] at *); omega) | (simp_all; done) | (simp_all; omega))); (try (simp (config := { contextual := true, dsimp := false }) only [*, CliC, Msg.cells, lf_aix, bC, ↓reduceIte, ↓evP, evQ, if_true, if_false, eq_self, binv, eqv, lenv, fillO, splice, fldv, Sp.eqa, eqL, eq1, Nat.reduceAdd, Nat.reduceEqDiff, Nat.reduceLeDiff, Nat.reduceMul, reduceCtorEq, Int.reduceLT, Int.reduceLE, Int.reduceGT, Int.reduceGE, Int.reduceEq, Int.reduceNeg])))))
          refine nextF_of (200 - (i + 1)) (by omega) (σ₁ := upd σ6 b (.cells [.int .i64 (f 0), .int .i64 (f 1), .int .i64 (f 2)] 79)) (by (first | exact Sub.refl _ | ((repeat (first | exact Sub.refl _ | (refine Sub.drop ?_ ?_; focus (simp only [none_upd, none_set, not_false_eq_true, true_and, and_true, *]; done)) | refine Sub.both ?_)); done))) ⟨i + 1, f, C6, σ6, by omega, rfl, (by first | rfl | (simp only [↓putO_get, ↓putO_no, init_zero, init_succ, Nat.reduceEqDiff, ↓reduceIte, *]; done) | (simp only [↓putO_get, ↓putO_no, init_zero, init_succ, Nat.reduceEqDiff, ↓reduceIte, *]; rfl)), (by first | rfl | (simp only [↓putO_get, ↓putO_no, init_zero, init_succ, Nat.reduceEqDiff, ↓reduceIte, *]; done) | (simp only [↓putO_get, ↓putO_no, init_zero, init_succ, Nat.reduceEqDiff, ↓reduceIte, *]; rfl)), (by first | rfl | (simp only [↓putO_get, ↓putO_no, init_zero, init_succ, Nat.reduceEqDiff, ↓reduceIte, *]; done) | (simp only [↓putO_get, ↓putO_no, init_zero, init_succ, Nat.reduceEqDiff, ↓reduceIte, *]; rfl)), (by first | rfl | (simp only [↓putO_get, ↓putO_no, init_zero, init_succ, Nat.reduceEqDiff, ↓reduceIte, *]; done) | (simp only [↓putO_get, ↓putO_no, init_zero, init_succ, Nat.reduceEqDiff, ↓reduceIte, *]; rfl)), (by first | rfl | (simp only [↓putO_get, ↓putO_no, init_zero, init_succ, Nat.reduceEqDiff, ↓reduceIte, *]; done) | (simp only [↓putO_get, ↓putO_no, init_zero, init_succ, Nat.reduceEqDiff, ↓reduceIte, *]; rfl)), rfl, l1, H6.out.2.1, H6.out.2.2.1, H6.out.2.2.2.1, H6.out.2.2.2.2, H6.out.1⟩
      · have d2 : decide ((i : Int) < (ps.length : Int)) = false := by simp; omega
        simp (config := { contextual := true, dsimp := false }) only [*, CliC, Msg.cells, lf_aix, bC, ↓reduceIte, ↓evP, evQ, if_true, if_false, eq_self, binv, eqv, lenv, fillO, splice, fldv, Sp.eqa, eqL, eq1, Nat.reduceAdd, Nat.reduceEqDiff, Nat.reduceLeDiff, Nat.reduceMul, reduceCtorEq, Int.reduceLT, Int.reduceLE, Int.reduceGT, Int.reduceGE, Int.reduceEq, Int.reduceNeg]
        (repeat' (first | (refine condF_split (fun hc => ?_) (fun hc => ?_) <;> (try simp only [Bool.not_eq_true', Bool.not_eq_false', Bool.and_eq_true, Bool.or_eq_false_iff] at hc) <;> (try (simp (config := { contextual := true, dsimp := false }) only [*, CliC, Msg.cells, lf_aix, bC, ↓reduceIte, ↓evP, evQ, if_true, if_false, eq_self, binv, eqv, lenv, fillO, splice, fldv, Sp.eqa, eqL, eq1, Nat.reduceAdd, Nat.reduceEqDiff, Nat.reduceLeDiff, Nat.reduceMul, reduceCtorEq, Int.reduceLT, Int.reduceLE, Int.reduceGT, Int.reduceGE, Int.reduceEq, Int.reduceNeg]))) | (intro _; intros) | ((refine And.intro ?_ ?_; focus (first | omega | (first | exact Sub.refl _ | ((repeat (first | exact Sub.refl _ | (refine Sub.drop ?_ ?_; focus (simp only [none_upd, none_set, not_false_eq_true, true_and, and_true, *]; done)) | refine Sub.both ?_)); done)) | ((simp only [decide_eq_true_eq, decide_eq_false_iff_not] at *); omega) | (simp_all; done) | (simp_all; omega))); (try (simp (config := { contextual := true, dsimp := false }) only [*, CliC, Msg.cells, lf_aix, bC, ↓reduceIte, ↓evP, evQ, if_true, if_false, eq_self, binv, eqv, lenv, fillO, splice, fldv, Sp.eqa, eqL, eq1, Nat.reduceAdd, Nat.reduceEqDiff, Nat.reduceLeDiff, Nat.reduceMul, reduceCtorEq, Int.reduceLT, Int.reduceLE, Int.reduceGT, Int.reduceGE, Int.reduceEq, Int.reduceNeg])))))
        rename_i d d1 d1' d0
        have k := (H3.out.at_.fresh n2 (.cells [.int .i64 (f 0), .int .i64 (f 1), .int .i64 (f 2)] 79)).fresh (b := d) (by (simp only [none_upd, none_set, not_false_eq_true, true_and, and_true, *]; done))
        refine inner11 (k _) hg2 (by rw [upd_ne _ _ d1', upd_same]) HL.out.1 (fun j x hx => (HL.out.2.2.2 j x hx).1) (by first | rfl | (simp only [↓putO_get, ↓putO_no, init_zero, init_succ, Nat.reduceEqDiff, ↓reduceIte, *]; done) | (simp only [↓putO_get, ↓putO_no, init_zero, init_succ, Nat.reduceEqDiff, ↓reduceIte, *]; rfl)) (by first | rfl | (simp only [↓putO_get, ↓putO_no, init_zero, init_succ, Nat.reduceEqDiff, ↓reduceIte, *]; done) | (simp only [↓putO_get, ↓putO_no, init_zero, init_succ, Nat.reduceEqDiff, ↓reduceIte, *]; rfl)) fun s' hs => ?_
        simp only [List.map_cons, List.map_nil, ↓putO_get, ↓putO_no, init_zero, init_succ, Nat.reduceEqDiff, ↓reduceIte, List.cons.injEq, and_true] at hs
        simp (config := { contextual := true, dsimp := false }) only [*, CliC, Msg.cells, lf_aix, bC, ↓reduceIte, ↓evP, evQ, if_true, if_false, eq_self, binv, eqv, lenv, fillO, splice, fldv, Sp.eqa, eqL, eq1, Nat.reduceAdd, Nat.reduceEqDiff, Nat.reduceLeDiff, Nat.reduceMul, reduceCtorEq, Int.reduceLT, Int.reduceLE, Int.reduceGT, Int.reduceGE, Int.reduceEq, Int.reduceNeg]
        (repeat' (first | (refine condF_split (fun hc => ?_) (fun hc => ?_) <;> (try simp only [Bool.not_eq_true', Bool.not_eq_false', Bool.and_eq_true, Bool.or_eq_false_iff] at hc) <;> (try (simp (config := { contextual := true, dsimp := false }) only [*, CliC, Msg.cells, lf_aix, bC, ↓reduceIte, ↓evP, evQ, if_true, if_false, eq_self, binv, eqv, lenv, fillO, splice, fldv, Sp.eqa, eqL, eq1, Nat.reduceAdd, Nat.reduceEqDiff, Nat.reduceLeDiff, Nat.reduceMul, reduceCtorEq, Int.reduceLT, Int.reduceLE, Int.reduceGT, Int.reduceGE, Int.reduceEq, Int.reduceNeg]))) | (intro _; intros) | ((refine And.intro ?_ ?_; focus (first | omega | (first | exact Sub.refl _ | ((repeat (first | exact Sub.refl _ | (refine Sub.drop ?_ ?_; focus (simp only [none_upd, none_set, not_false_eq_true, true_and, and_true, *]; done)) | refine Sub.both ?_)); done)) | ((simp only [decide_eq_true_eq, decide_eq_false_iff_not] at *); omega) | (simp_all; done) | (simp_all; omega))); (try (simp (config := { contextual := true, dsimp := false }) only [*, CliC, Msg.cells, lf_aix, bC, ↓reduceIte, ↓evP, evQ, if_true, if_false, eq_self, binv, eqv, lenv, fillO, splice, fldv, Sp.eqa, eqL, eq1, Nat.reduceAdd, Nat.reduceEqDiff, Nat.reduceLeDiff, Nat.reduceMul, reduceCtorEq, Int.reduceLT, Int.reduceLE, Int.reduceGT, Int.reduceGE, Int.reduceEq, Int.reduceNeg])))))
        refine nextF_of (200 - (i + 1)) (by omega) (σ₁ := upd σ3 b (.cells [.int .i64 (f 0), .int .i64 (f 1), .int .i64 (f 2)] 79)) (Sub.drop (by (simp only [none_upd, none_set, not_false_eq_true, true_and, and_true, *]; done)) (Sub.refl _)) ⟨i + 1, f, C.begins t vt vh r S, σ3, by omega, rfl, (by first | rfl | (simp only [↓putO_get, ↓putO_no, init_zero, init_succ, Nat.reduceEqDiff, ↓reduceIte, *]; done) | (simp only [↓putO_get, ↓putO_no, init_zero, init_succ, Nat.reduceEqDiff, ↓reduceIte, *]; rfl)), (by first | rfl | (simp only [↓putO_get, ↓putO_no, init_zero, init_succ, Nat.reduceEqDiff, ↓reduceIte, *]; done) | (simp only [↓putO_get, ↓putO_no, init_zero, init_succ, Nat.reduceEqDiff, ↓reduceIte, *]; rfl)), (by first | rfl | (simp only [↓putO_get, ↓putO_no, init_zero, init_succ, Nat.reduceEqDiff, ↓reduceIte, *]; done) | (simp only [↓putO_get, ↓putO_no, init_zero, init_succ, Nat.reduceEqDiff, ↓reduceIte, *]; rfl)), (by first | rfl | (simp only [↓putO_get, ↓putO_no, init_zero, init_succ, Nat.reduceEqDiff, ↓reduceIte, *]; done) | (simp only [↓putO_get, ↓putO_no, init_zero, init_succ, Nat.reduceEqDiff, ↓reduceIte, *]; rfl)), (by first | rfl | (simp only [↓putO_get, ↓putO_no, init_zero, init_succ, Nat.reduceEqDiff, ↓reduceIte, *]; done) | (simp only [↓putO_get, ↓putO_no, init_zero, init_succ, Nat.reduceEqDiff, ↓reduceIte, *]; rfl)), rfl, n2, hg2, HL.out.1, by show (C.ts ++ [_]).length = _; rw [List.length_append, HL.out.2.1]; rfl, HL.out.2.2.2, H3.out⟩
    · have hgo : (decide ((i : Int) < (fs.length : Int)) && decide ((i : Int) < 200)) = false := by simp; omega
      rcases hlt1 : decide ((i : Int) < (fs.length : Int)) with _ | _
      · simp (config := { contextual := true, dsimp := false }) only [*, CliC, Msg.cells, lf_aix, bC, ↓reduceIte, ↓evP, evQ, if_true, if_false, eq_self, binv, eqv, lenv, fillO, splice, fldv, Sp.eqa, eqL, eq1, Nat.reduceAdd, Nat.reduceEqDiff, Nat.reduceLeDiff, Nat.reduceMul, reduceCtorEq, Int.reduceLT, Int.reduceLE, Int.reduceGT, Int.reduceGE, Int.reduceEq, Int.reduceNeg]
        (repeat' (first | (refine condF_split (fun hc => ?_) (fun hc => ?_) <;> (try simp only [Bool.not_eq_true', Bool.not_eq_false', Bool.and_eq_true, Bool.or_eq_false_iff] at hc) <;> (try (simp (config := { contextual := true, dsimp := false }) only [*, CliC, Msg.cells, lf_aix, bC, ↓reduceIte, ↓evP, evQ, if_true, if_false, eq_self, binv, eqv, lenv, fillO, splice, fldv, Sp.eqa, eqL, eq1, Nat.reduceAdd, Nat.reduceEqDiff, Nat.reduceLeDiff, Nat.reduceMul, reduceCtorEq, Int.reduceLT, Int.reduceLE, Int.reduceGT, Int.reduceGE, Int.reduceEq, Int.reduceNeg]))) | (intro _; intros) | ((refine And.intro ?_ ?_; focus (first | omega | (first | exact Sub.refl _ | ((repeat (first | exact Sub.refl _ | (refine Sub.drop ?_ ?_; focus (simp only [none_upd, none_set, not_false_eq_true, true_and, and_true, *]; done)) | refine Sub.both ?_)); done)) | ((simp only [decide_eq_true_eq, decide_eq_false_iff_not] at *); omega) | (simp_all; done) | (simp_all; omega))); (try (simp (config := { contextual := true, dsimp := false }) only [*, CliC, Msg.cells, lf_aix, bC, ↓reduceIte, ↓evP, evQ, if_true, if_false, eq_self, binv, eqv, lenv, fillO, splice, fldv, Sp.eqa, eqL, eq1, Nat.reduceAdd, Nat.reduceEqDiff, Nat.reduceLeDiff, Nat.reduceMul, reduceCtorEq, Int.reduceLT, Int.reduceLE, Int.reduceGT, Int.reduceGE, Int.reduceEq, Int.reduceNeg])))))
        exact endF_det rfl (Sub.drop Hb.out H.out.sub)
      · rw [hlt1] at hgo
        have hgo2 : decide ((i : Int) < 200) = false := by simpa using hgo
        simp (config := { contextual := true, dsimp := false }) only [*, CliC, Msg.cells, lf_aix, bC, ↓reduceIte, ↓evP, evQ, if_true, if_false, eq_self, binv, eqv, lenv, fillO, splice, fldv, Sp.eqa, eqL, eq1, Nat.reduceAdd, Nat.reduceEqDiff, Nat.reduceLeDiff, Nat.reduceMul, reduceCtorEq, Int.reduceLT, Int.reduceLE, Int.reduceGT, Int.reduceGE, Int.reduceEq, Int.reduceNeg]
        (repeat' (first | (refine condF_split (fun hc => ?_) (fun hc => ?_) <;> (try simp only [Bool.not_eq_true', Bool.not_eq_false', Bool.and_eq_true, Bool.or_eq_false_iff] at hc) <;> (try (simp (config := { contextual := true, dsimp := false }) only [*, CliC, Msg.cells, lf_aix, bC, ↓reduceIte, ↓evP, evQ, if_true, if_false, eq_self, binv, eqv, lenv, fillO, splice, fldv, Sp.eqa, eqL, eq1, Nat.reduceAdd, Nat.reduceEqDiff, Nat.reduceLeDiff, Nat.reduceMul, reduceCtorEq, Int.reduceLT, Int.reduceLE, Int.reduceGT, Int.reduceGE, Int.reduceEq, Int.reduceNeg]))) | (intro _; intros) | ((refine And.intro ?_ ?_; focus (first | omega | (first | exact Sub.refl _ | ((repeat (first | exact Sub.refl _ | (refine Sub.drop ?_ ?_; focus (simp only [none_upd, none_set, not_false_eq_true, true_and, and_true, *]; done)) | refine Sub.both ?_)); done)) | ((simp only [decide_eq_true_eq, decide_eq_false_iff_not] at *); omega) | (simp_all; done) | (simp_all; omega))); (try (simp (config := { contextual := true, dsimp := false }) only [*, CliC, Msg.cells, lf_aix, bC, ↓reduceIte, ↓evP, evQ, if_true, if_false, eq_self, binv, eqv, lenv, fillO, splice, fldv, Sp.eqa, eqL, eq1, Nat.reduceAdd, Nat.reduceEqDiff, Nat.reduceLeDiff, Nat.reduceMul, reduceCtorEq, Int.reduceLT, Int.reduceLE, Int.reduceGT, Int.reduceGE, Int.reduceEq, Int.reduceNeg])))))
        exact endF_det rfl (Sub.drop Hb.out H.out.sub)
end Go.Proofs.YtaoafjlocjjbbaaDoor

-- LawBase
namespace Go.Proofs.YtaoafjlocjjbbaaDoor
open Go.Sp
set_option linter.unusedVariables false
abbrev laidAll : List (String × DataW Unit) := [("math/bits.deBruijn32tab", Rows.laid_math_bits_deBruijn32tab), ("math/bits.deBruijn64tab", Rows.laid_math_bits_deBruijn64tab), ("internal/strconv.uint64pow10", Rows.laid_internal_strconv_uint64pow10), ("strconv.ErrRange", Rows.laid_strconv_ErrRange), ("strconv.ErrSyntax", Rows.laid_strconv_ErrSyntax)]
theorem gP : Tryd.prog.globalNamed "internal/strconv.uint64pow10" = some 0 := by kernel_rfl
theorem gS : Tryd.prog.globalNamed "strconv.ErrSyntax" = some 1 := by kernel_rfl
theorem gR : Tryd.prog.globalNamed "strconv.ErrRange" = some 2 := by kernel_rfl
theorem tyP : (Tryd.prog.globals[0]?).map (·.type) = some 182 := by kernel_rfl
theorem tyS : (Tryd.prog.globals[1]?).map (·.type) = some 111 := by kernel_rfl
theorem tyR : (Tryd.prog.globals[2]?).map (·.type) = some 111 := by kernel_rfl
theorem starErr : "*" ++ "errors.errorString" = "*errors.errorString" := by decide
theorem rowErr (u : TypeId) (h : Tryd.prog.typeName? 3 u = some "*errors.errorString") : u = 197 := by
  exact typeName_ptr_named (nm := "errors.errorString") (by rw [starErr]; kernel_rfl) (by kernel_rfl) (by decide) u (by rw [starErr]; exact h)
theorem glob_of_laid {W : World} (h : laidMet Tryd.prog laidAll W) : Lib.TabIs Tryd.prog W "internal/strconv.uint64pow10" .u64 Lib.pow10Tab ∧ (∃ tp p, W.var? Tryd.prog "strconv.ErrSyntax" = some #[.iface tp p]) ∧ (∃ tp p, W.var? Tryd.prog "strconv.ErrRange" = some #[.iface tp p]) := by
  have h3 := h.tail.tail
  obtain ⟨a1, s1, e1, _⟩ := laid_sentinel h3.tail gR tyR Tryd.underlying111 rowErr Tryd.underlying197 Tryd.underlying199 rfl rfl Tryd.underlying9 (by kernel_rfl) (by kernel_rfl)
  obtain ⟨a2, s2, e2, _⟩ := laid_sentinel h3.tail.tail gS tyS Tryd.underlying111 rowErr Tryd.underlying197 Tryd.underlying199 rfl rfl Tryd.underlying9 (by kernel_rfl) (by kernel_rfl)
  exact ⟨Lib.tabIs_of_head (rest := _) gP tyP Tryd.underlying182 Tryd.underlying161 (by kernel_rfl) (by kernel_rfl) h3, ⟨_, _, e2⟩, ⟨_, _, e1⟩⟩
theorem full_var {W w : World} (h : Sat (Open.full W) w) {n : String} {cs : Array Value} (hv : W.var? Tryd.prog n = some cs) : w.var? Tryd.prog n = some cs := by
  unfold World.var? at hv ⊢
  cases hg : Tryd.prog.globalNamed n with
  | none => rw [hg] at hv; cases hv
  | some g =>
    rw [hg] at hv
    simp only [Option.bind_some] at hv ⊢
    cases ho : W.heap[g]? with
    | none => rw [ho] at hv; cases hv
    | some o =>
      have : w.heap[g]? = some o := h g (.ro o) (by unfold Open.full; rw [ho]; rfl)
      rw [this]; rw [ho] at hv; exact hv
theorem glob_full {W : World} (h : laidMet Tryd.prog laidAll W) : Glob (Open.full W) := fun w hw => by
  obtain ⟨h1, ⟨_, _, h2⟩, ⟨_, _, h3⟩⟩ := glob_of_laid h
  exact ⟨full_var hw h1, ⟨_, _, full_var hw h2⟩, ⟨_, _, full_var hw h3⟩⟩
end Go.Proofs.YtaoafjlocjjbbaaDoor
