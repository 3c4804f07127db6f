/- The texts of functions, compiled. -/
import Derived.Test.YtmjpcpipacciiaaSpD
import Derived.Test.YtmjpcpipacciiaaProg
import Derived.KernelRfl
namespace Go.Proofs.Ytmjpcpipacciiaa
open Go.Sp
set_option maxRecDepth 100000
/-- vouch/vouchlaw17.TxTries -/
def c3 : C := (.seq (.reg [⟨(some 4), (.mv (.const (.bool false))), none⟩])
 (.seq (.seq (.reg [⟨(some 18), (.call 9 []), none⟩,
 ⟨(some 19), (.nt (.tmp 18)), none⟩,
 ⟨(some 20), (.mv (.tmp 19)), none⟩,
 ⟨(some 21), (.mv (.tmp 0)), (some (20, false))⟩,
 ⟨(some 22), (.len false (.tmp 21)), (some (20, false))⟩,
 ⟨(some 23), (.bin .lss (.tmp 22) (.const (.int .i64 1))), (some (20, false))⟩,
 ⟨(some 24), (.pick (.tmp 20) (.const (.bool true)) (.tmp 23)), none⟩,
 ⟨(some 25), (.mv (.tmp 24)), none⟩,
 ⟨(some 26), (.mv (.tmp 0)), (some (25, false))⟩,
 ⟨(some 27), (.len false (.tmp 26)), (some (25, false))⟩,
 ⟨(some 28), (.bin .gtr (.tmp 27) (.const (.int .i64 32))), (some (25, false))⟩,
 ⟨(some 29), (.pick (.tmp 25) (.const (.bool true)) (.tmp 28)), none⟩])
 (.cond (.tmp 29) (.seq (.reg [⟨(some 30), (.call 9 []), none⟩,
 ⟨(some 4), (.mv (.tmp 30)), none⟩])
 .ret)
 .skip))
 (.seq (.reg [⟨(some 31), (.call 10 [(.const (.int .i64 0)), (.const (.int .i64 1)), (.const (.int .i64 0))]), none⟩,
 ⟨(some 5), (.mv (.tmp 31)), none⟩])
 (.seq (.reg [⟨(some 32), (.mv (.tmp 5)), none⟩,
 ⟨(some 33), (.mv (.tmp 0)), none⟩,
 ⟨(some 34), (.call 11 [(.tmp 32), (.tmp 33)]), none⟩])
 (.seq (.seq (.reg [⟨(some 6), (.mv (.const (.int .i64 0))), none⟩])
 (.block 0 (.loop (.seq (.seq (.reg [⟨(some 35), (.mv (.tmp 6)), none⟩,
 ⟨(some 36), (.mv (.tmp 1)), none⟩,
 ⟨(some 37), (.conv .i64 (.tmp 36)), none⟩,
 ⟨(some 38), (.bin .mul (.const (.int .i64 2)) (.tmp 37)), none⟩,
 ⟨(some 39), (.bin .leq (.tmp 35) (.tmp 38)), none⟩])
 (.cond (.tmp 39) .skip
 (.exit 0)))
 (.seq (.block 1 (.seq (.reg [⟨(some 43), (.mv (.tmp 5)), none⟩,
 ⟨(some 44), (.mv (.tmp 1)), none⟩,
 ⟨(some 45), (.conv .i64 (.tmp 44)), none⟩,
 ⟨(some 46), (.call 12 [(.tmp 43), (.tmp 45)]), none⟩,
 ⟨(some 42), (.mv (.tmp 46)), none⟩,
 ⟨(some 47), (.ext 0 (.tmp 42)), none⟩,
 ⟨(some 48), (.ext 1 (.tmp 42)), none⟩,
 ⟨(some 7), (.new 33 [.int .i64 (0), .int .i64 (0), .int .i64 (0), .int .i64 (0), .int .i64 (0), .int .i64 (0), .string ⟨#[]⟩, .int .i64 (0), .int .i64 (0), .bool false, .string ⟨#[]⟩, .bool false, .int .i64 (0), .int .i64 (0), .slice none 0 0, .slice none 0 0]), none⟩,
 ⟨none, (.st 16 (.tmp 7) (.tmp 47)), none⟩,
 ⟨(some 8), (.mv (.tmp 48)), none⟩])
 (.seq (.reg [⟨(some 49), (.mv (.tmp 8)), none⟩,
 ⟨(some 50), (.bin .neq (.tmp 49) (.const (.int .i64 0))), none⟩,
 ⟨(some 51), (.mv (.tmp 50)), none⟩,
 ⟨(some 52), (.fa 6 (.tmp 7)), (some (51, false))⟩,
 ⟨(some 53), (.ld none (.tmp 52)), (some (51, false))⟩,
 ⟨(some 54), (.mv (.tmp 0)), (some (51, false))⟩,
 ⟨(some 55), (.bin .neq (.tmp 53) (.tmp 54)), (some (51, false))⟩,
 ⟨(some 56), (.pick (.tmp 51) (.const (.bool true)) (.tmp 55)), none⟩,
 ⟨(some 57), (.mv (.tmp 56)), none⟩,
 ⟨(some 58), (.mv (.tmp 6)), (some (57, false))⟩,
 ⟨(some 59), (.mv (.tmp 1)), (some (57, false))⟩,
 ⟨(some 60), (.conv .i64 (.tmp 59)), (some (57, false))⟩,
 ⟨(some 61), (.bin .lss (.tmp 58) (.tmp 60)), (some (57, false))⟩,
 ⟨(some 62), (.mv (.tmp 61)), (some (57, false))⟩,
 ⟨(some 63), (.fa 0 (.tmp 7)), (some (62, true))⟩,
 ⟨(some 64), (.ld none (.tmp 63)), (some (62, true))⟩,
 ⟨(some 65), (.bin .neq (.tmp 64) (.const (.int .i64 3))), (some (62, true))⟩,
 ⟨(some 66), (.pick (.tmp 62) (.tmp 65) (.const (.bool false))), (some (57, false))⟩,
 ⟨(some 67), (.pick (.tmp 57) (.const (.bool true)) (.tmp 66)), none⟩,
 ⟨(some 68), (.mv (.tmp 67)), none⟩,
 ⟨(some 69), (.mv (.tmp 6)), (some (68, false))⟩,
 ⟨(some 70), (.mv (.tmp 1)), (some (68, false))⟩,
 ⟨(some 71), (.conv .i64 (.tmp 70)), (some (68, false))⟩,
 ⟨(some 72), (.bin .geq (.tmp 69) (.tmp 71)), (some (68, false))⟩,
 ⟨(some 73), (.mv (.tmp 72)), (some (68, false))⟩,
 ⟨(some 74), (.fa 0 (.tmp 7)), (some (73, true))⟩,
 ⟨(some 75), (.ld none (.tmp 74)), (some (73, true))⟩,
 ⟨(some 76), (.bin .neq (.tmp 75) (.const (.int .i64 5))), (some (73, true))⟩,
 ⟨(some 77), (.pick (.tmp 73) (.tmp 76) (.const (.bool false))), (some (68, false))⟩,
 ⟨(some 78), (.pick (.tmp 68) (.const (.bool true)) (.tmp 77)), none⟩])
 (.cond (.tmp 78) (.seq (.reg [⟨(some 4), (.mv (.const (.bool false))), none⟩])
 .ret)
 .skip))))
 (.reg [⟨(some 40), (.mv (.tmp 6)), none⟩,
 ⟨(some 41), (.bin .add (.tmp 40) (.const (.int .i64 1))), none⟩,
 ⟨(some 6), (.mv (.tmp 41)), none⟩]))))))
 (.seq (.reg [⟨(some 80), (.mv (.tmp 5)), none⟩,
 ⟨(some 81), (.mv (.tmp 1)), none⟩,
 ⟨(some 82), (.conv .i64 (.tmp 81)), none⟩,
 ⟨(some 83), (.call 12 [(.tmp 80), (.tmp 82)]), none⟩,
 ⟨(some 79), (.mv (.tmp 83)), none⟩,
 ⟨(some 84), (.ext 0 (.tmp 79)), none⟩,
 ⟨(some 85), (.ext 1 (.tmp 79)), none⟩,
 ⟨(some 9), (.new 33 [.int .i64 (0), .int .i64 (0), .int .i64 (0), .int .i64 (0), .int .i64 (0), .int .i64 (0), .string ⟨#[]⟩, .int .i64 (0), .int .i64 (0), .bool false, .string ⟨#[]⟩, .bool false, .int .i64 (0), .int .i64 (0), .slice none 0 0, .slice none 0 0]), none⟩,
 ⟨none, (.st 16 (.tmp 9) (.tmp 84)), none⟩,
 ⟨(some 10), (.mv (.tmp 85)), none⟩])
 (.seq (.reg [⟨(some 87), (.mv (.tmp 5)), none⟩,
 ⟨(some 88), (.mv (.tmp 1)), none⟩,
 ⟨(some 89), (.conv .i64 (.tmp 88)), none⟩,
 ⟨(some 90), (.call 12 [(.tmp 87), (.tmp 89)]), none⟩,
 ⟨(some 86), (.mv (.tmp 90)), none⟩,
 ⟨(some 91), (.ext 0 (.tmp 86)), none⟩,
 ⟨(some 92), (.ext 1 (.tmp 86)), none⟩,
 ⟨(some 11), (.new 33 [.int .i64 (0), .int .i64 (0), .int .i64 (0), .int .i64 (0), .int .i64 (0), .int .i64 (0), .string ⟨#[]⟩, .int .i64 (0), .int .i64 (0), .bool false, .string ⟨#[]⟩, .bool false, .int .i64 (0), .int .i64 (0), .slice none 0 0, .slice none 0 0]), none⟩,
 ⟨none, (.st 16 (.tmp 11) (.tmp 91)), none⟩,
 ⟨(some 12), (.mv (.tmp 92)), none⟩])
 (.seq (.reg [⟨(some 94), (.mv (.tmp 5)), none⟩,
 ⟨(some 95), (.mv (.tmp 0)), none⟩,
 ⟨(some 96), (.call 11 [(.tmp 94), (.tmp 95)]), none⟩,
 ⟨(some 93), (.mv (.tmp 96)), none⟩,
 ⟨(some 97), (.ext 0 (.tmp 93)), none⟩,
 ⟨(some 98), (.ext 1 (.tmp 93)), none⟩,
 ⟨(some 99), (.ext 2 (.tmp 93)), none⟩,
 ⟨(some 13), (.new 26 [.bool false, .string ⟨#[]⟩]), none⟩,
 ⟨(some 14), (.new 33 [.int .i64 (0), .int .i64 (0), .int .i64 (0), .int .i64 (0), .int .i64 (0), .int .i64 (0), .string ⟨#[]⟩, .int .i64 (0), .int .i64 (0), .bool false, .string ⟨#[]⟩, .bool false, .int .i64 (0), .int .i64 (0), .slice none 0 0, .slice none 0 0]), none⟩,
 ⟨none, (.st 2 (.tmp 13) (.tmp 97)), none⟩,
 ⟨none, (.st 16 (.tmp 14) (.tmp 98)), none⟩,
 ⟨(some 15), (.mv (.tmp 99)), none⟩])
 (.seq (.reg [⟨(some 101), (.mv (.tmp 5)), none⟩,
 ⟨(some 102), (.call 13 [(.tmp 101)]), none⟩,
 ⟨(some 100), (.mv (.tmp 102)), none⟩,
 ⟨(some 103), (.ext 0 (.tmp 100)), none⟩,
 ⟨(some 104), (.ext 1 (.tmp 100)), none⟩,
 ⟨(some 16), (.mv (.tmp 103)), none⟩,
 ⟨(some 17), (.mv (.tmp 104)), none⟩])
 (.seq (.reg [⟨(some 105), (.mv (.tmp 10)), none⟩,
 ⟨(some 106), (.bin .eql (.tmp 105) (.const (.int .i64 41))), none⟩,
 ⟨(some 107), (.mv (.tmp 106)), none⟩,
 ⟨(some 108), (.mv (.tmp 12)), (some (107, true))⟩,
 ⟨(some 109), (.bin .eql (.tmp 108) (.const (.int .i64 3))), (some (107, true))⟩,
 ⟨(some 110), (.pick (.tmp 107) (.tmp 109) (.const (.bool false))), none⟩,
 ⟨(some 111), (.mv (.tmp 110)), none⟩,
 ⟨(some 112), (.mv (.tmp 15)), (some (111, true))⟩,
 ⟨(some 113), (.bin .eql (.tmp 112) (.const (.int .i64 40))), (some (111, true))⟩,
 ⟨(some 114), (.pick (.tmp 111) (.tmp 113) (.const (.bool false))), none⟩,
 ⟨(some 115), (.mv (.tmp 114)), none⟩,
 ⟨(some 116), (.mv (.tmp 17)), (some (115, true))⟩,
 ⟨(some 117), (.bin .eql (.tmp 116) (.const (.int .i64 41))), (some (115, true))⟩,
 ⟨(some 118), (.pick (.tmp 115) (.tmp 117) (.const (.bool false))), none⟩,
 ⟨(some 4), (.mv (.tmp 118)), none⟩])
 .ret))))))))))
def r3 : List RV := [.tmp 4]
theorem ok3 : FnOk Try.prog 3 119 c3 r3 := ⟨_, _, Try.func3, rfl, rfl, by kernel_rfl, by kernel_rfl, by kernel_rfl⟩
/-- vouch/vouchlaw17.TxOnce -/
def c4 : C := (.seq (.reg [⟨(some 6), (.box 26 (.tmp 1)), none⟩,
 ⟨(some 10), (.mv (.const (.bool false))), none⟩])
 (.seq (.seq (.reg [⟨(some 22), (.call 9 []), none⟩,
 ⟨(some 23), (.nt (.tmp 22)), none⟩,
 ⟨(some 24), (.mv (.tmp 23)), none⟩,
 ⟨(some 25), (.mv (.tmp 0)), (some (24, false))⟩,
 ⟨(some 26), (.len false (.tmp 25)), (some (24, false))⟩,
 ⟨(some 27), (.bin .lss (.tmp 26) (.const (.int .i64 1))), (some (24, false))⟩,
 ⟨(some 28), (.pick (.tmp 24) (.const (.bool true)) (.tmp 27)), none⟩,
 ⟨(some 29), (.mv (.tmp 28)), none⟩,
 ⟨(some 30), (.mv (.tmp 0)), (some (29, false))⟩,
 ⟨(some 31), (.len false (.tmp 30)), (some (29, false))⟩,
 ⟨(some 32), (.bin .gtr (.tmp 31) (.const (.int .i64 32))), (some (29, false))⟩,
 ⟨(some 33), (.pick (.tmp 29) (.const (.bool true)) (.tmp 32)), none⟩])
 (.cond (.tmp 33) (.seq (.reg [⟨(some 34), (.call 9 []), none⟩,
 ⟨(some 10), (.mv (.tmp 34)), none⟩])
 .ret)
 .skip))
 (.seq (.reg [⟨(some 35), (.call 10 [(.const (.int .i64 2)), (.const (.int .i64 3)), (.const (.int .i64 0))]), none⟩,
 ⟨(some 11), (.mv (.tmp 35)), none⟩])
 (.seq (.reg [⟨(some 37), (.mv (.tmp 11)), none⟩,
 ⟨(some 38), (.mv (.tmp 0)), none⟩,
 ⟨(some 39), (.call 11 [(.tmp 37), (.tmp 38)]), none⟩,
 ⟨(some 36), (.mv (.tmp 39)), none⟩,
 ⟨(some 40), (.ext 0 (.tmp 36)), none⟩,
 ⟨(some 41), (.ext 1 (.tmp 36)), none⟩,
 ⟨(some 42), (.ext 2 (.tmp 36)), none⟩,
 ⟨(some 12), (.new 26 [.bool false, .string ⟨#[]⟩]), none⟩,
 ⟨(some 13), (.new 33 [.int .i64 (0), .int .i64 (0), .int .i64 (0), .int .i64 (0), .int .i64 (0), .int .i64 (0), .string ⟨#[]⟩, .int .i64 (0), .int .i64 (0), .bool false, .string ⟨#[]⟩, .bool false, .int .i64 (0), .int .i64 (0), .slice none 0 0, .slice none 0 0]), none⟩,
 ⟨none, (.st 2 (.tmp 12) (.tmp 40)), none⟩,
 ⟨none, (.st 16 (.tmp 13) (.tmp 41)), none⟩,
 ⟨(some 14), (.mv (.tmp 42)), none⟩])
 (.seq (.seq (.reg [⟨(some 43), (.mv (.tmp 14)), none⟩,
 ⟨(some 44), (.bin .neq (.tmp 43) (.const (.int .i64 0))), none⟩,
 ⟨(some 45), (.mv (.tmp 44)), none⟩,
 ⟨(some 46), (.fa 0 (.tmp 13)), (some (45, false))⟩,
 ⟨(some 47), (.ld none (.tmp 46)), (some (45, false))⟩,
 ⟨(some 48), (.bin .neq (.tmp 47) (.const (.int .i64 3))), (some (45, false))⟩,
 ⟨(some 49), (.pick (.tmp 45) (.const (.bool true)) (.tmp 48)), none⟩,
 ⟨(some 50), (.mv (.tmp 49)), none⟩,
 ⟨(some 51), (.fa 6 (.tmp 13)), (some (50, false))⟩,
 ⟨(some 52), (.ld none (.tmp 51)), (some (50, false))⟩,
 ⟨(some 53), (.mv (.tmp 0)), (some (50, false))⟩,
 ⟨(some 54), (.bin .neq (.tmp 52) (.tmp 53)), (some (50, false))⟩,
 ⟨(some 55), (.pick (.tmp 50) (.const (.bool true)) (.tmp 54)), none⟩,
 ⟨(some 56), (.mv (.tmp 55)), none⟩,
 ⟨(some 57), (.fa 4 (.tmp 13)), (some (56, false))⟩,
 ⟨(some 58), (.ld none (.tmp 57)), (some (56, false))⟩,
 ⟨(some 59), (.bin .neq (.tmp 58) (.const (.int .i64 2))), (some (56, false))⟩,
 ⟨(some 60), (.pick (.tmp 56) (.const (.bool true)) (.tmp 59)), none⟩])
 (.cond (.tmp 60) (.seq (.reg [⟨(some 10), (.mv (.const (.bool false))), none⟩])
 .ret)
 .skip))
 (.seq (.reg [⟨(some 62), (.mv (.tmp 11)), none⟩,
 ⟨(some 63), (.fa 5 (.tmp 13)), none⟩,
 ⟨(some 64), (.ld none (.tmp 63)), none⟩,
 ⟨(some 65), (.ld (some 2) (.tmp 6)), none⟩,
 ⟨(some 66), (.mv (.tmp 2)), none⟩,
 ⟨(some 67), (.conv .i64 (.tmp 66)), none⟩,
 ⟨(some 68), (.mv (.tmp 2)), none⟩,
 ⟨(some 69), (.conv .i64 (.tmp 68)), none⟩,
 ⟨(some 70), (.bin .add (.tmp 69) (.const (.int .i64 1))), none⟩,
 ⟨(some 71), (.mv (.tmp 3)), none⟩,
 ⟨(some 72), (.conv .i64 (.tmp 71)), none⟩,
 ⟨(some 73), (.bin .add (.tmp 70) (.tmp 72)), none⟩,
 ⟨(some 74), (.bld [.int .i64 (0), .int .i64 (0)] [(0, 1, (.tmp 67)), (1, 1, (.tmp 73))]), none⟩,
 ⟨(some 75), (.bld [.int .i64 (0), .int .i64 (0), .int .i64 (0), .int .i64 (0), .int .i64 (0), .int .i64 (0), .string ⟨#[]⟩, .int .i64 (0), .int .i64 (0), .bool false, .string ⟨#[]⟩, .bool false, .int .i64 (0), .int .i64 (0), .slice none 0 0, .slice none 0 0] [(0, 1, (.const (.int .i64 4))), (4, 1, (.const (.int .i64 2))), (5, 1, (.tmp 64)), (11, 1, (.const (.bool true))), (9, 2, (.tmp 65)), (7, 2, (.tmp 74))]), none⟩,
 ⟨(some 76), (.call 14 [(.tmp 62), (.tmp 75)]), none⟩,
 ⟨(some 61), (.mv (.tmp 76)), none⟩,
 ⟨(some 77), (.ext 0 (.tmp 61)), none⟩,
 ⟨(some 78), (.ext 1 (.tmp 61)), none⟩,
 ⟨(some 15), (.new 33 [.int .i64 (0), .int .i64 (0), .int .i64 (0), .int .i64 (0), .int .i64 (0), .int .i64 (0), .string ⟨#[]⟩, .int .i64 (0), .int .i64 (0), .bool false, .string ⟨#[]⟩, .bool false, .int .i64 (0), .int .i64 (0), .slice none 0 0, .slice none 0 0]), none⟩,
 ⟨none, (.st 16 (.tmp 15) (.tmp 77)), none⟩,
 ⟨(some 16), (.mv (.tmp 78)), none⟩])
 (.seq (.seq (.reg [⟨(some 79), (.mv (.tmp 16)), none⟩,
 ⟨(some 80), (.nt (.tmp 79)), none⟩])
 (.cond (.tmp 80) (.seq (.reg [⟨(some 10), (.mv (.const (.bool false))), none⟩])
 .ret)
 .skip))
 (.seq (.seq (.reg [⟨(some 17), (.mv (.const (.int .i64 0))), none⟩])
 (.block 0 (.loop (.seq (.seq (.reg [⟨(some 81), (.mv (.tmp 17)), none⟩,
 ⟨(some 82), (.mv (.tmp 4)), none⟩,
 ⟨(some 83), (.conv .i64 (.tmp 82)), none⟩,
 ⟨(some 84), (.bin .leq (.tmp 81) (.tmp 83)), none⟩])
 (.cond (.tmp 84) .skip
 (.exit 0)))
 (.seq (.block 1 (.seq (.reg [⟨(some 88), (.mv (.tmp 11)), none⟩,
 ⟨(some 89), (.mv (.tmp 0)), none⟩,
 ⟨(some 90), (.call 11 [(.tmp 88), (.tmp 89)]), none⟩,
 ⟨(some 87), (.mv (.tmp 90)), none⟩,
 ⟨(some 91), (.ext 0 (.tmp 87)), none⟩,
 ⟨(some 92), (.ext 1 (.tmp 87)), none⟩,
 ⟨(some 93), (.ext 2 (.tmp 87)), none⟩,
 ⟨(some 18), (.new 26 [.bool false, .string ⟨#[]⟩]), none⟩,
 ⟨(some 19), (.new 33 [.int .i64 (0), .int .i64 (0), .int .i64 (0), .int .i64 (0), .int .i64 (0), .int .i64 (0), .string ⟨#[]⟩, .int .i64 (0), .int .i64 (0), .bool false, .string ⟨#[]⟩, .bool false, .int .i64 (0), .int .i64 (0), .slice none 0 0, .slice none 0 0]), none⟩,
 ⟨none, (.st 2 (.tmp 18) (.tmp 91)), none⟩,
 ⟨none, (.st 16 (.tmp 19) (.tmp 92)), none⟩,
 ⟨(some 20), (.mv (.tmp 93)), none⟩])
 (.seq (.reg [⟨(some 94), (.ld (some 2) (.tmp 18)), none⟩,
 ⟨(some 95), (.ld (some 2) (.tmp 6)), none⟩,
 ⟨(some 96), (.eqa true [.truth, .text] (.tmp 94) (.tmp 95)), none⟩,
 ⟨(some 97), (.mv (.tmp 96)), none⟩,
 ⟨(some 98), (.fa 0 (.tmp 19)), (some (97, false))⟩,
 ⟨(some 99), (.ld none (.tmp 98)), (some (97, false))⟩,
 ⟨(some 100), (.bin .neq (.tmp 99) (.const (.int .i64 0))), (some (97, false))⟩,
 ⟨(some 101), (.pick (.tmp 97) (.const (.bool true)) (.tmp 100)), none⟩,
 ⟨(some 102), (.mv (.tmp 101)), none⟩,
 ⟨(some 103), (.mv (.tmp 20)), (some (102, false))⟩,
 ⟨(some 104), (.bin .neq (.tmp 103) (.const (.int .i64 0))), (some (102, false))⟩,
 ⟨(some 105), (.pick (.tmp 102) (.const (.bool true)) (.tmp 104)), none⟩])
 (.cond (.tmp 105) (.seq (.reg [⟨(some 10), (.mv (.const (.bool false))), none⟩])
 .ret)
 .skip))))
 (.reg [⟨(some 85), (.mv (.tmp 17)), none⟩,
 ⟨(some 86), (.bin .add (.tmp 85) (.const (.int .i64 1))), none⟩,
 ⟨(some 17), (.mv (.tmp 86)), none⟩]))))))
 (.seq (.reg [⟨(some 106), (.mv (.tmp 11)), none⟩,
 ⟨(some 107), (.call 15 [(.tmp 106)]), none⟩,
 ⟨(some 21), (.new 45 [.int .i64 (0), .int .i64 (0), .int .i64 (0), .int .i64 (0), .string ⟨#[]⟩, .int .i64 (0), .int .i64 (0), .slice none 0 0]), none⟩,
 ⟨none, (.st 8 (.tmp 21) (.tmp 107)), none⟩])
 (.seq (.reg [⟨(some 108), (.fa 5 (.tmp 21)), none⟩,
 ⟨(some 109), (.ld none (.tmp 108)), none⟩,
 ⟨(some 110), (.fa 5 (.tmp 13)), none⟩,
 ⟨(some 111), (.ld none (.tmp 110)), none⟩,
 ⟨(some 112), (.bin .eql (.tmp 109) (.tmp 111)), none⟩,
 ⟨(some 113), (.mv (.tmp 112)), none⟩,
 ⟨(some 114), (.fa 7 (.tmp 21)), (some (113, true))⟩,
 ⟨(some 115), (.ld none (.tmp 114)), (some (113, true))⟩,
 ⟨(some 116), (.len true (.tmp 115)), (some (113, true))⟩,
 ⟨(some 117), (.bin .eql (.tmp 116) (.const (.int .i64 1))), (some (113, true))⟩,
 ⟨(some 118), (.pick (.tmp 113) (.tmp 117) (.const (.bool false))), none⟩,
 ⟨(some 119), (.mv (.tmp 118)), none⟩,
 ⟨(some 120), (.fa 0 (.tmp 21)), (some (119, true))⟩,
 ⟨(some 121), (.ld none (.tmp 120)), (some (119, true))⟩,
 ⟨(some 122), (.bin .eql (.tmp 121) (.const (.int .i64 0))), (some (119, true))⟩,
 ⟨(some 123), (.pick (.tmp 119) (.tmp 122) (.const (.bool false))), none⟩,
 ⟨(some 10), (.mv (.tmp 123)), none⟩])
 .ret))))))))))
def r4 : List RV := [.tmp 10]
theorem ok4 : FnOk Try.prog 4 124 c4 r4 := ⟨_, _, Try.func4, rfl, rfl, by kernel_rfl, by kernel_rfl, by kernel_rfl⟩
/-- vouch/vouchlaw17.TxPlays -/
def c5 : C := (.seq (.reg [⟨(some 8), (.mv (.const (.bool false))), none⟩])
 (.seq (.seq (.reg [⟨(some 12), (.call 9 []), none⟩,
 ⟨(some 13), (.nt (.tmp 12)), none⟩])
 (.cond (.tmp 13) (.seq (.reg [⟨(some 8), (.mv (.const (.bool false))), none⟩])
 .ret)
 .skip))
 (.seq (.reg [⟨(some 14), (.mv (.tmp 0)), none⟩,
 ⟨(some 15), (.mv (.tmp 1)), none⟩,
 ⟨(some 16), (.mv (.tmp 2)), none⟩,
 ⟨(some 17), (.call 10 [(.tmp 14), (.tmp 15), (.tmp 16)]), none⟩,
 ⟨(some 18), (.mv (.tmp 0)), none⟩,
 ⟨(some 19), (.mv (.tmp 1)), none⟩,
 ⟨(some 20), (.mv (.tmp 2)), none⟩,
 ⟨(some 21), (.call 16 [(.tmp 18), (.tmp 19), (.tmp 20)]), none⟩,
 ⟨(some 9), (.mv (.tmp 17)), none⟩,
 ⟨(some 10), (.mv (.tmp 21)), none⟩])
 (.seq (.seq (.reg [⟨(some 22), (.mv (.tmp 9)), none⟩,
 ⟨(some 23), (.eqs false .ptr (.tmp 22) (.const (.pointer none))), none⟩])
 (.cond (.tmp 23) (.seq (.reg [⟨(some 8), (.mv (.const (.bool false))), none⟩])
 .ret)
 .skip))
 (.seq (.seq (.reg [⟨(some 11), (.mv (.const (.int .i64 0))), none⟩])
 (.block 0 (.loop (.seq (.seq (.reg [⟨(some 24), (.mv (.tmp 11)), none⟩,
 ⟨(some 25), (.mv (.tmp 3)), none⟩,
 ⟨(some 26), (.len true (.tmp 25)), none⟩,
 ⟨(some 27), (.bin .lss (.tmp 24) (.tmp 26)), none⟩])
 (.cond (.tmp 27) .skip
 (.exit 0)))
 (.seq (.block 1 (.seq (.draw [⟨⟨(some 30), (.mv (.tmp 9)), none⟩, .p⟩,
 ⟨⟨(some 31), (.mv (.tmp 10)), none⟩, .p⟩,
 ⟨⟨(some 32), (.mv (.tmp 3)), none⟩, .p⟩,
 ⟨⟨(some 33), (.mv (.tmp 11)), none⟩, .p⟩,
 ⟨⟨(some 34), (.ia 19 (.tmp 32) (.tmp 33)), none⟩, .p⟩,
 ⟨⟨(some 35), (.ld (some 19) (.tmp 34)), none⟩, .l⟩,
 ⟨⟨(some 36), (.call 17 [(.tmp 30), (.tmp 31), (.tmp 35)]), none⟩, .m⟩,
 ⟨⟨(some 37), (.nt (.tmp 36)), none⟩, .p⟩,
 ⟨⟨(some 38), (.mv (.tmp 37)), none⟩, .p⟩,
 ⟨⟨(some 39), (.mv (.tmp 9)), (some (38, false))⟩, .p⟩,
 ⟨⟨(some 40), (.call 15 [(.tmp 39)]), (some (38, false))⟩, .g⟩,
 ⟨⟨(some 41), (.mv (.tmp 10)), (some (38, false))⟩, .p⟩,
 ⟨⟨(some 42), (.nilc (.tmp 41)), (some (38, false))⟩, .p⟩,
 ⟨⟨(some 43), (.fa 2 (.tmp 42)), (some (38, false))⟩, .p⟩,
 ⟨⟨(some 44), (.ld (some 8) (.tmp 43)), (some (38, false))⟩, .l⟩,
 ⟨⟨(some 45), (.call 18 [(.tmp 40), (.tmp 44)]), (some (38, false))⟩, .m⟩,
 ⟨⟨(some 46), (.nt (.tmp 45)), (some (38, false))⟩, .p⟩,
 ⟨⟨(some 47), (.pick (.tmp 38) (.const (.bool true)) (.tmp 46)), none⟩, .p⟩])
 (.cond (.tmp 47) (.seq (.reg [⟨(some 8), (.mv (.const (.bool false))), none⟩])
 .ret)
 .skip)))
 (.reg [⟨(some 28), (.mv (.tmp 11)), none⟩,
 ⟨(some 29), (.bin .add (.tmp 28) (.const (.int .i64 1))), none⟩,
 ⟨(some 11), (.mv (.tmp 29)), none⟩]))))))
 (.seq (.reg [⟨(some 8), (.mv (.const (.bool true))), none⟩])
 .ret))))))
def r5 : List RV := [.tmp 8]
theorem ok5 : FnOk Try.prog 5 48 c5 r5 := ⟨_, _, Try.func5, rfl, rfl, by kernel_rfl, by kernel_rfl, by kernel_rfl⟩
def c6_b2 : C := (.seq (.reg [⟨(some 35), (.fa 0 (.tmp 9)), none⟩,
 ⟨(some 36), (.ld none (.tmp 35)), none⟩,
 ⟨(some 37), (.bin .rem (.tmp 36) (.const (.int .u8 3))), none⟩])
 (.block 2 (.seq (.reg [⟨(some 39), (.bin .eql (.tmp 37) (.const (.int .u8 0))), none⟩,
 ⟨(some 38), (.mv (.tmp 39)), none⟩])
 (.cond (.tmp 38) (.reg [⟨(some 40), (.mv (.tmp 5)), none⟩,
 ⟨(some 41), (.fa 1 (.tmp 9)), none⟩,
 ⟨(some 42), (.ld none (.tmp 41)), none⟩,
 ⟨(some 43), (.call 11 [(.tmp 40), (.tmp 42)]), none⟩])
 (.seq (.reg [⟨(some 45), (.bin .eql (.tmp 37) (.const (.int .u8 1))), none⟩,
 ⟨(some 44), (.mv (.tmp 45)), none⟩])
 (.cond (.tmp 44) (.seq (.reg [⟨(some 46), (.fa 2 (.tmp 9)), none⟩,
 ⟨(some 47), (.ld (some 16) (.tmp 46)), none⟩,
 ⟨(some 10), (.new 33 [.int .i64 (0), .int .i64 (0), .int .i64 (0), .int .i64 (0), .int .i64 (0), .int .i64 (0), .string ⟨#[]⟩, .int .i64 (0), .int .i64 (0), .bool false, .string ⟨#[]⟩, .bool false, .int .i64 (0), .int .i64 (0), .slice none 0 0, .slice none 0 0]), none⟩,
 ⟨none, (.st 16 (.tmp 10) (.tmp 47)), none⟩])
 (.seq (.reg [⟨(some 48), (.fa 4 (.tmp 10)), none⟩,
 ⟨none, (.st 1 (.tmp 48) (.const (.int .i64 1))), none⟩])
 (.seq (.reg [⟨(some 49), (.fa 5 (.tmp 6)), none⟩,
 ⟨(some 50), (.ld none (.tmp 49)), none⟩,
 ⟨(some 51), (.fa 5 (.tmp 10)), none⟩,
 ⟨none, (.st 1 (.tmp 51) (.tmp 50)), none⟩])
 (.seq (.reg [⟨(some 52), (.mv (.tmp 5)), none⟩,
 ⟨(some 53), (.ld (some 16) (.tmp 10)), none⟩,
 ⟨(some 54), (.call 14 [(.tmp 52), (.tmp 53)]), none⟩])
 (.seq (.draw [⟨⟨(some 55), (.mv (.tmp 5)), none⟩, .p⟩,
 ⟨⟨(some 56), (.call 15 [(.tmp 55)]), none⟩, .g⟩,
 ⟨⟨(some 57), (.fld none 7 (.tmp 56)), none⟩, .p⟩,
 ⟨⟨(some 58), (.len true (.tmp 57)), none⟩, .p⟩,
 ⟨⟨(some 59), (.fa 7 (.tmp 6)), none⟩, .p⟩,
 ⟨⟨(some 60), (.ld none (.tmp 59)), none⟩, .l⟩,
 ⟨⟨(some 61), (.len true (.tmp 60)), none⟩, .p⟩,
 ⟨⟨(some 62), (.bin .gtr (.tmp 58) (.tmp 61)), none⟩, .p⟩])
 (.cond (.tmp 62) (.reg [⟨(some 63), (.mv (.tmp 7)), none⟩,
 ⟨(some 64), (.fa 7 (.tmp 10)), none⟩,
 ⟨(some 65), (.ld (some 2) (.tmp 64)), none⟩,
 ⟨(some 66), (.lit 28 1 2 [.int .i64 (0), .int .i64 (0)] [(0, 2, (.tmp 65))]), none⟩,
 ⟨(some 67), (.app 28 2 16 (.tmp 63) (.tmp 66)), none⟩,
 ⟨(some 7), (.mv (.tmp 67)), none⟩])
 .skip))))))
 (.seq (.reg [⟨(some 69), (.bin .eql (.tmp 37) (.const (.int .u8 2))), none⟩,
 ⟨(some 68), (.mv (.tmp 69)), none⟩])
 (.cond (.tmp 68) (.reg [⟨(some 70), (.mv (.tmp 5)), none⟩,
 ⟨(some 71), (.fa 18 (.tmp 9)), none⟩,
 ⟨(some 72), (.ld none (.tmp 71)), none⟩,
 ⟨(some 73), (.call 12 [(.tmp 70), (.tmp 72)]), none⟩])
 .skip))))))))
def c6_t2 : C := (.seq (.reg [⟨(some 74), (.mv (.tmp 5)), none⟩,
 ⟨(some 75), (.call 15 [(.tmp 74)]), none⟩,
 ⟨(some 11), (.new 45 [.int .i64 (0), .int .i64 (0), .int .i64 (0), .int .i64 (0), .string ⟨#[]⟩, .int .i64 (0), .int .i64 (0), .slice none 0 0]), none⟩,
 ⟨none, (.st 8 (.tmp 11) (.tmp 75)), none⟩])
 (.seq (.seq (.reg [⟨(some 76), (.fa 2 (.tmp 11)), none⟩,
 ⟨(some 77), (.fa 0 (.tmp 76)), none⟩,
 ⟨(some 78), (.ld none (.tmp 77)), none⟩,
 ⟨(some 79), (.fa 2 (.tmp 6)), none⟩,
 ⟨(some 80), (.fa 0 (.tmp 79)), none⟩,
 ⟨(some 81), (.ld none (.tmp 80)), none⟩,
 ⟨(some 82), (.bin .lss (.tmp 78) (.tmp 81)), none⟩,
 ⟨(some 83), (.mv (.tmp 82)), none⟩,
 ⟨(some 84), (.fa 2 (.tmp 11)), (some (83, false))⟩,
 ⟨(some 85), (.fa 1 (.tmp 84)), (some (83, false))⟩,
 ⟨(some 86), (.ld none (.tmp 85)), (some (83, false))⟩,
 ⟨(some 87), (.fa 2 (.tmp 6)), (some (83, false))⟩,
 ⟨(some 88), (.fa 1 (.tmp 87)), (some (83, false))⟩,
 ⟨(some 89), (.ld none (.tmp 88)), (some (83, false))⟩,
 ⟨(some 90), (.bin .gtr (.tmp 86) (.tmp 89)), (some (83, false))⟩,
 ⟨(some 91), (.pick (.tmp 83) (.const (.bool true)) (.tmp 90)), none⟩,
 ⟨(some 92), (.mv (.tmp 91)), none⟩,
 ⟨(some 93), (.fa 2 (.tmp 11)), (some (92, false))⟩,
 ⟨(some 94), (.fa 0 (.tmp 93)), (some (92, false))⟩,
 ⟨(some 95), (.ld none (.tmp 94)), (some (92, false))⟩,
 ⟨(some 96), (.fa 2 (.tmp 11)), (some (92, false))⟩,
 ⟨(some 97), (.fa 1 (.tmp 96)), (some (92, false))⟩,
 ⟨(some 98), (.ld none (.tmp 97)), (some (92, false))⟩,
 ⟨(some 99), (.bin .geq (.tmp 95) (.tmp 98)), (some (92, false))⟩,
 ⟨(some 100), (.pick (.tmp 92) (.const (.bool true)) (.tmp 99)), none⟩,
 ⟨(some 101), (.mv (.tmp 100)), none⟩,
 ⟨(some 102), (.fa 2 (.tmp 11)), (some (101, false))⟩,
 ⟨(some 103), (.fa 0 (.tmp 102)), (some (101, false))⟩,
 ⟨(some 104), (.ld none (.tmp 103)), (some (101, false))⟩,
 ⟨(some 105), (.mv (.tmp 0)), (some (101, false))⟩,
 ⟨(some 106), (.conv .i64 (.tmp 105)), (some (101, false))⟩,
 ⟨(some 107), (.bin .lss (.tmp 104) (.tmp 106)), (some (101, false))⟩,
 ⟨(some 108), (.pick (.tmp 101) (.const (.bool true)) (.tmp 107)), none⟩,
 ⟨(some 109), (.mv (.tmp 108)), none⟩,
 ⟨(some 110), (.fa 7 (.tmp 11)), (some (109, false))⟩,
 ⟨(some 111), (.ld none (.tmp 110)), (some (109, false))⟩,
 ⟨(some 112), (.len true (.tmp 111)), (some (109, false))⟩,
 ⟨(some 113), (.fa 7 (.tmp 6)), (some (109, false))⟩,
 ⟨(some 114), (.ld none (.tmp 113)), (some (109, false))⟩,
 ⟨(some 115), (.len true (.tmp 114)), (some (109, false))⟩,
 ⟨(some 116), (.bin .lss (.tmp 112) (.tmp 115)), (some (109, false))⟩,
 ⟨(some 117), (.pick (.tmp 109) (.const (.bool true)) (.tmp 116)), none⟩,
 ⟨(some 118), (.mv (.tmp 117)), none⟩,
 ⟨(some 119), (.fa 7 (.tmp 11)), (some (118, false))⟩,
 ⟨(some 120), (.ld none (.tmp 119)), (some (118, false))⟩,
 ⟨(some 121), (.len true (.tmp 120)), (some (118, false))⟩,
 ⟨(some 122), (.fa 7 (.tmp 6)), (some (118, false))⟩,
 ⟨(some 123), (.ld none (.tmp 122)), (some (118, false))⟩,
 ⟨(some 124), (.len true (.tmp 123)), (some (118, false))⟩,
 ⟨(some 125), (.bin .add (.tmp 124) (.const (.int .i64 1))), (some (118, false))⟩,
 ⟨(some 126), (.bin .gtr (.tmp 121) (.tmp 125)), (some (118, false))⟩,
 ⟨(some 127), (.pick (.tmp 118) (.const (.bool true)) (.tmp 126)), none⟩,
 ⟨(some 128), (.mv (.tmp 127)), none⟩,
 ⟨(some 129), (.fa 7 (.tmp 11)), (some (128, false))⟩,
 ⟨(some 130), (.ld none (.tmp 129)), (some (128, false))⟩,
 ⟨(some 131), (.len true (.tmp 130)), (some (128, false))⟩,
 ⟨(some 132), (.mv (.tmp 7)), (some (128, false))⟩,
 ⟨(some 133), (.len true (.tmp 132)), (some (128, false))⟩,
 ⟨(some 134), (.bin .neq (.tmp 131) (.tmp 133)), (some (128, false))⟩,
 ⟨(some 135), (.pick (.tmp 128) (.const (.bool true)) (.tmp 134)), none⟩])
 (.cond (.tmp 135) (.seq (.reg [⟨(some 4), (.mv (.const (.bool false))), none⟩])
 .ret)
 .skip))
 (.seq (.seq (.reg [⟨(some 12), (.mv (.const (.int .i64 0))), none⟩])
 (.block 3 (.loop (.seq (.seq (.reg [⟨(some 136), (.mv (.tmp 12)), none⟩,
 ⟨(some 137), (.fa 7 (.tmp 6)), none⟩,
 ⟨(some 138), (.ld none (.tmp 137)), none⟩,
 ⟨(some 139), (.len true (.tmp 138)), none⟩,
 ⟨(some 140), (.bin .lss (.tmp 136) (.tmp 139)), none⟩])
 (.cond (.tmp 140) .skip
 (.exit 3)))
 (.seq (.block 4 (.seq (.draw [⟨⟨(some 143), (.fa 7 (.tmp 11)), none⟩, .p⟩,
 ⟨⟨(some 144), (.ld none (.tmp 143)), none⟩, .l⟩,
 ⟨⟨(some 145), (.mv (.tmp 12)), none⟩, .p⟩,
 ⟨⟨(some 146), (.ia 3 (.tmp 144) (.tmp 145)), none⟩, .p⟩,
 ⟨⟨(some 147), (.ld (some 3) (.tmp 146)), none⟩, .l⟩,
 ⟨⟨(some 148), (.fa 7 (.tmp 6)), none⟩, .p⟩,
 ⟨⟨(some 149), (.ld none (.tmp 148)), none⟩, .l⟩,
 ⟨⟨(some 150), (.mv (.tmp 12)), none⟩, .p⟩,
 ⟨⟨(some 151), (.ia 3 (.tmp 149) (.tmp 150)), none⟩, .p⟩,
 ⟨⟨(some 152), (.ld (some 3) (.tmp 151)), none⟩, .l⟩,
 ⟨⟨(some 153), (.eqa true [.text, .truth, .text] (.tmp 147) (.tmp 152)), none⟩, .p⟩])
 (.cond (.tmp 153) (.seq (.reg [⟨(some 4), (.mv (.const (.bool false))), none⟩])
 .ret)
 .skip)))
 (.reg [⟨(some 141), (.mv (.tmp 12)), none⟩,
 ⟨(some 142), (.bin .add (.tmp 141) (.const (.int .i64 1))), none⟩,
 ⟨(some 12), (.mv (.tmp 142)), none⟩]))))))
 (.reg [⟨(some 154), (.ld (some 8) (.tmp 11)), none⟩,
 ⟨none, (.st 8 (.tmp 6) (.tmp 154)), none⟩]))))
def c6_s2 : C := .seq c6_b2 c6_t2
/-- vouch/vouchlaw17.TxNarrows -/
def c6 : C := (.seq (.reg [⟨(some 4), (.mv (.const (.bool false))), none⟩])
 (.seq (.seq (.reg [⟨(some 16), (.call 9 []), none⟩,
 ⟨(some 17), (.nt (.tmp 16)), none⟩])
 (.cond (.tmp 17) (.seq (.reg [⟨(some 4), (.mv (.const (.bool false))), none⟩])
 .ret)
 .skip))
 (.seq (.reg [⟨(some 18), (.mv (.tmp 0)), none⟩,
 ⟨(some 19), (.conv .i64 (.tmp 18)), none⟩,
 ⟨(some 20), (.call 10 [(.const (.int .i64 1)), (.const (.int .i64 1)), (.tmp 19)]), none⟩,
 ⟨(some 5), (.mv (.tmp 20)), none⟩])
 (.seq (.seq (.reg [⟨(some 21), (.mv (.tmp 5)), none⟩,
 ⟨(some 22), (.eqs false .ptr (.tmp 21) (.const (.pointer none))), none⟩])
 (.cond (.tmp 22) (.seq (.reg [⟨(some 4), (.mv (.const (.bool false))), none⟩])
 .ret)
 .skip))
 (.seq (.reg [⟨(some 23), (.mv (.tmp 5)), none⟩,
 ⟨(some 24), (.call 15 [(.tmp 23)]), none⟩,
 ⟨(some 6), (.new 45 [.int .i64 (0), .int .i64 (0), .int .i64 (0), .int .i64 (0), .string ⟨#[]⟩, .int .i64 (0), .int .i64 (0), .slice none 0 0]), none⟩,
 ⟨none, (.st 8 (.tmp 6) (.tmp 24)), none⟩])
 (.seq (.reg [⟨(some 7), (.mv (.const (.slice none 0 0))), none⟩])
 (.seq (.seq (.reg [⟨(some 8), (.mv (.const (.int .i64 0))), none⟩])
 (.block 0 (.loop (.seq (.seq (.reg [⟨(some 25), (.mv (.tmp 8)), none⟩,
 ⟨(some 26), (.mv (.tmp 1)), none⟩,
 ⟨(some 27), (.len true (.tmp 26)), none⟩,
 ⟨(some 28), (.bin .lss (.tmp 25) (.tmp 27)), none⟩])
 (.cond (.tmp 28) .skip
 (.exit 0)))
 (.seq (.block 1 (.seq (.reg [⟨(some 31), (.mv (.tmp 1)), none⟩,
 ⟨(some 32), (.mv (.tmp 8)), none⟩,
 ⟨(some 33), (.ia 19 (.tmp 31) (.tmp 32)), none⟩,
 ⟨(some 34), (.ld (some 19) (.tmp 33)), none⟩,
 ⟨(some 9), (.new 53 [.int .u8 (0), .string ⟨#[]⟩, .int .i64 (0), .int .i64 (0), .int .i64 (0), .int .i64 (0), .int .i64 (0), .int .i64 (0), .string ⟨#[]⟩, .int .i64 (0), .int .i64 (0), .bool false, .string ⟨#[]⟩, .bool false, .int .i64 (0), .int .i64 (0), .slice none 0 0, .slice none 0 0, .int .i64 (0)]), none⟩,
 ⟨none, (.st 19 (.tmp 9) (.tmp 34)), none⟩])
 c6_s2))
 (.reg [⟨(some 29), (.mv (.tmp 8)), none⟩,
 ⟨(some 30), (.bin .add (.tmp 29) (.const (.int .i64 1))), none⟩,
 ⟨(some 8), (.mv (.tmp 30)), none⟩]))))))
 (.seq (.reg [⟨(some 156), (.mv (.tmp 5)), none⟩,
 ⟨(some 157), (.call 13 [(.tmp 156)]), none⟩,
 ⟨(some 155), (.mv (.tmp 157)), none⟩,
 ⟨(some 158), (.ext 0 (.tmp 155)), none⟩,
 ⟨(some 159), (.ext 1 (.tmp 155)), none⟩,
 ⟨(some 13), (.mv (.tmp 158)), none⟩,
 ⟨(some 14), (.mv (.tmp 159)), none⟩])
 (.seq (.seq (.reg [⟨(some 160), (.mv (.tmp 14)), none⟩,
 ⟨(some 161), (.bin .neq (.tmp 160) (.const (.int .i64 0))), none⟩])
 (.cond (.tmp 161) (.seq (.reg [⟨(some 162), (.mv (.tmp 13)), none⟩,
 ⟨(some 163), (.bin .eql (.tmp 162) (.const (.int .i64 0))), none⟩,
 ⟨(some 164), (.mv (.tmp 163)), none⟩,
 ⟨(some 165), (.fa 0 (.tmp 6)), (some (164, true))⟩,
 ⟨(some 166), (.ld none (.tmp 165)), (some (164, true))⟩,
 ⟨(some 167), (.bin .eql (.tmp 166) (.const (.int .i64 1))), (some (164, true))⟩,
 ⟨(some 168), (.mv (.tmp 167)), (some (164, true))⟩,
 ⟨(some 169), (.fa 0 (.tmp 6)), (some (168, false))⟩,
 ⟨(some 170), (.ld none (.tmp 169)), (some (168, false))⟩,
 ⟨(some 171), (.bin .eql (.tmp 170) (.const (.int .i64 2))), (some (168, false))⟩,
 ⟨(some 172), (.pick (.tmp 168) (.const (.bool true)) (.tmp 171)), (some (164, true))⟩,
 ⟨(some 173), (.mv (.tmp 172)), (some (164, true))⟩,
 ⟨(some 174), (.fa 0 (.tmp 6)), (some (173, false))⟩,
 ⟨(some 175), (.ld none (.tmp 174)), (some (173, false))⟩,
 ⟨(some 176), (.bin .eql (.tmp 175) (.const (.int .i64 4))), (some (173, false))⟩,
 ⟨(some 177), (.pick (.tmp 173) (.const (.bool true)) (.tmp 176)), (some (164, true))⟩,
 ⟨(some 178), (.pick (.tmp 164) (.tmp 177) (.const (.bool false))), none⟩,
 ⟨(some 4), (.mv (.tmp 178)), none⟩])
 .ret)
 .skip))
 (.seq (.seq (.reg [⟨(some 15), (.mv (.const (.int .i64 0))), none⟩])
 (.block 5 (.loop (.seq (.seq (.reg [⟨(some 179), (.mv (.tmp 15)), none⟩,
 ⟨(some 180), (.mv (.tmp 7)), none⟩,
 ⟨(some 181), (.len true (.tmp 180)), none⟩,
 ⟨(some 182), (.bin .lss (.tmp 179) (.tmp 181)), none⟩])
 (.cond (.tmp 182) .skip
 (.exit 5)))
 (.seq (.block 6 (.seq (.reg [⟨(some 185), (.mv (.tmp 13)), none⟩,
 ⟨(some 186), (.mv (.tmp 7)), none⟩,
 ⟨(some 187), (.mv (.tmp 15)), none⟩,
 ⟨(some 188), (.ia 2 (.tmp 186) (.tmp 187)), none⟩,
 ⟨(some 189), (.fa 0 (.tmp 188)), none⟩,
 ⟨(some 190), (.ld none (.tmp 189)), none⟩,
 ⟨(some 191), (.bin .lss (.tmp 185) (.tmp 190)), none⟩,
 ⟨(some 192), (.mv (.tmp 191)), none⟩,
 ⟨(some 193), (.mv (.tmp 13)), (some (192, false))⟩,
 ⟨(some 194), (.mv (.tmp 7)), (some (192, false))⟩,
 ⟨(some 195), (.mv (.tmp 15)), (some (192, false))⟩,
 ⟨(some 196), (.ia 2 (.tmp 194) (.tmp 195)), (some (192, false))⟩,
 ⟨(some 197), (.fa 1 (.tmp 196)), (some (192, false))⟩,
 ⟨(some 198), (.ld none (.tmp 197)), (some (192, false))⟩,
 ⟨(some 199), (.bin .geq (.tmp 193) (.tmp 198)), (some (192, false))⟩,
 ⟨(some 200), (.pick (.tmp 192) (.const (.bool true)) (.tmp 199)), none⟩])
 (.cond (.tmp 200) (.seq (.reg [⟨(some 4), (.mv (.const (.bool false))), none⟩])
 .ret)
 .skip)))
 (.reg [⟨(some 183), (.mv (.tmp 15)), none⟩,
 ⟨(some 184), (.bin .add (.tmp 183) (.const (.int .i64 1))), none⟩,
 ⟨(some 15), (.mv (.tmp 184)), none⟩]))))))
 (.seq (.reg [⟨(some 201), (.fa 0 (.tmp 6)), none⟩,
 ⟨(some 202), (.ld none (.tmp 201)), none⟩,
 ⟨(some 203), (.bin .eql (.tmp 202) (.const (.int .i64 0))), none⟩,
 ⟨(some 204), (.mv (.tmp 203)), none⟩,
 ⟨(some 205), (.mv (.tmp 13)), (some (204, true))⟩,
 ⟨(some 206), (.fa 2 (.tmp 6)), (some (204, true))⟩,
 ⟨(some 207), (.fa 0 (.tmp 206)), (some (204, true))⟩,
 ⟨(some 208), (.ld none (.tmp 207)), (some (204, true))⟩,
 ⟨(some 209), (.bin .geq (.tmp 205) (.tmp 208)), (some (204, true))⟩,
 ⟨(some 210), (.pick (.tmp 204) (.tmp 209) (.const (.bool false))), none⟩,
 ⟨(some 211), (.mv (.tmp 210)), none⟩,
 ⟨(some 212), (.mv (.tmp 13)), (some (211, true))⟩,
 ⟨(some 213), (.fa 2 (.tmp 6)), (some (211, true))⟩,
 ⟨(some 214), (.fa 1 (.tmp 213)), (some (211, true))⟩,
 ⟨(some 215), (.ld none (.tmp 214)), (some (211, true))⟩,
 ⟨(some 216), (.bin .lss (.tmp 212) (.tmp 215)), (some (211, true))⟩,
 ⟨(some 217), (.pick (.tmp 211) (.tmp 216) (.const (.bool false))), none⟩,
 ⟨(some 218), (.mv (.tmp 217)), none⟩,
 ⟨(some 219), (.mv (.tmp 5)), (some (218, true))⟩,
 ⟨(some 220), (.call 15 [(.tmp 219)]), (some (218, true))⟩,
 ⟨(some 221), (.fld none 0 (.tmp 220)), (some (218, true))⟩,
 ⟨(some 222), (.bin .eql (.tmp 221) (.const (.int .i64 3))), (some (218, true))⟩,
 ⟨(some 223), (.pick (.tmp 218) (.tmp 222) (.const (.bool false))), none⟩,
 ⟨(some 4), (.mv (.tmp 223)), none⟩])
 .ret)))))))))))
def r6 : List RV := [.tmp 4]
theorem ok6 : FnOk Try.prog 6 224 c6 r6 := ⟨_, _, Try.func6, rfl, rfl, by kernel_rfl, by kernel_rfl, by kernel_rfl⟩
/-- vouch/vouchlaw17.TxClones -/
def c7 : C := (.seq (.reg [⟨(some 6), (.mv (.const (.bool false))), none⟩])
 (.seq (.seq (.reg [⟨(some 15), (.call 9 []), none⟩,
 ⟨(some 16), (.nt (.tmp 15)), none⟩])
 (.cond (.tmp 16) (.seq (.reg [⟨(some 6), (.mv (.const (.bool false))), none⟩])
 .ret)
 .skip))
 (.seq (.reg [⟨(some 17), (.mv (.tmp 0)), none⟩,
 ⟨(some 18), (.call 10 [(.const (.int .i64 1)), (.const (.int .i64 2)), (.tmp 17)]), none⟩,
 ⟨(some 19), (.mv (.tmp 0)), none⟩,
 ⟨(some 20), (.call 16 [(.const (.int .i64 1)), (.const (.int .i64 2)), (.tmp 19)]), none⟩,
 ⟨(some 7), (.mv (.tmp 18)), none⟩,
 ⟨(some 8), (.mv (.tmp 20)), none⟩])
 (.seq (.seq (.reg [⟨(some 9), (.mv (.const (.int .i64 0))), none⟩])
 (.block 0 (.loop (.seq (.seq (.reg [⟨(some 21), (.mv (.tmp 9)), none⟩,
 ⟨(some 22), (.mv (.tmp 1)), none⟩,
 ⟨(some 23), (.len true (.tmp 22)), none⟩,
 ⟨(some 24), (.bin .lss (.tmp 21) (.tmp 23)), none⟩])
 (.cond (.tmp 24) .skip
 (.exit 0)))
 (.seq (.block 1 (.seq (.seq (.reg [⟨(some 27), (.mv (.tmp 7)), none⟩,
 ⟨(some 28), (.mv (.tmp 8)), none⟩,
 ⟨(some 29), (.mv (.tmp 1)), none⟩,
 ⟨(some 30), (.mv (.tmp 9)), none⟩,
 ⟨(some 31), (.ia 19 (.tmp 29) (.tmp 30)), none⟩,
 ⟨(some 32), (.ld (some 19) (.tmp 31)), none⟩,
 ⟨(some 33), (.call 17 [(.tmp 27), (.tmp 28), (.tmp 32)]), none⟩,
 ⟨(some 34), (.nt (.tmp 33)), none⟩])
 (.cond (.tmp 34) (.seq (.reg [⟨(some 6), (.mv (.const (.bool false))), none⟩])
 .ret)
 .skip))
 (.seq (.reg [⟨(some 35), (.mv (.tmp 7)), none⟩,
 ⟨(some 36), (.call 15 [(.tmp 35)]), none⟩,
 ⟨(some 10), (.new 45 [.int .i64 (0), .int .i64 (0), .int .i64 (0), .int .i64 (0), .string ⟨#[]⟩, .int .i64 (0), .int .i64 (0), .slice none 0 0]), none⟩,
 ⟨none, (.st 8 (.tmp 10) (.tmp 36)), none⟩])
 (.seq (.seq (.reg [⟨(some 11), (.mv (.const (.int .i64 0))), none⟩])
 (.block 2 (.loop (.seq (.seq (.reg [⟨(some 37), (.mv (.tmp 11)), none⟩,
 ⟨(some 38), (.fa 7 (.tmp 10)), none⟩,
 ⟨(some 39), (.ld none (.tmp 38)), none⟩,
 ⟨(some 40), (.len true (.tmp 39)), none⟩,
 ⟨(some 41), (.bin .lss (.tmp 37) (.tmp 40)), none⟩])
 (.cond (.tmp 41) .skip
 (.exit 2)))
 (.seq (.block 3 (.reg [⟨(some 44), (.fa 7 (.tmp 10)), none⟩,
 ⟨(some 45), (.ld none (.tmp 44)), none⟩,
 ⟨(some 46), (.mv (.tmp 11)), none⟩,
 ⟨(some 47), (.bld [.string ⟨#[]⟩, .bool false, .string ⟨#[]⟩] [(0, 1, (.const (.string { data := #[111, 118, 101, 114] })))]), none⟩,
 ⟨(some 48), (.ia 3 (.tmp 45) (.tmp 46)), none⟩,
 ⟨none, (.st 3 (.tmp 48) (.tmp 47)), none⟩]))
 (.reg [⟨(some 42), (.mv (.tmp 11)), none⟩,
 ⟨(some 43), (.bin .add (.tmp 42) (.const (.int .i64 1))), none⟩,
 ⟨(some 11), (.mv (.tmp 43)), none⟩]))))))
 (.reg [⟨(some 49), (.fa 7 (.tmp 10)), none⟩,
 ⟨(some 50), (.ld none (.tmp 49)), none⟩,
 ⟨(some 51), (.bld [.string ⟨#[]⟩, .bool false, .string ⟨#[]⟩] [(0, 1, (.const (.string { data := #[109, 111, 114, 101] })))]), none⟩,
 ⟨(some 52), (.lit 60 1 3 [.string ⟨#[]⟩, .bool false, .string ⟨#[]⟩] [(0, 3, (.tmp 51))]), none⟩,
 ⟨(some 53), (.app 60 3 40 (.tmp 50) (.tmp 52)), none⟩,
 ⟨(some 54), (.fa 7 (.tmp 10)), none⟩,
 ⟨none, (.st 1 (.tmp 54) (.tmp 53)), none⟩])))))
 (.reg [⟨(some 25), (.mv (.tmp 9)), none⟩,
 ⟨(some 26), (.bin .add (.tmp 25) (.const (.int .i64 1))), none⟩,
 ⟨(some 9), (.mv (.tmp 26)), none⟩]))))))
 (.seq (.draw [⟨⟨(some 55), (.mv (.tmp 7)), none⟩, .p⟩,
 ⟨⟨(some 56), (.call 19 [(.tmp 55)]), none⟩, .g⟩,
 ⟨⟨(some 57), (.mv (.tmp 8)), none⟩, .p⟩,
 ⟨⟨(some 58), (.nilc (.tmp 57)), none⟩, .p⟩,
 ⟨⟨(some 59), (.fa 1 (.tmp 58)), none⟩, .p⟩,
 ⟨⟨(some 60), (.ld none (.tmp 59)), none⟩, .l⟩,
 ⟨⟨(some 61), (.mv (.tmp 8)), none⟩, .p⟩,
 ⟨⟨(some 62), (.nilc (.tmp 61)), none⟩, .p⟩,
 ⟨⟨(some 63), (.fa 2 (.tmp 62)), none⟩, .p⟩,
 ⟨⟨(some 64), (.ld (some 8) (.tmp 63)), none⟩, .l⟩,
 ⟨⟨(some 65), (.bld [.int .i64 (0), .int .i64 (0), .int .i64 (0), .int .i64 (0), .int .i64 (0), .int .i64 (0), .string ⟨#[]⟩, .int .i64 (0), .int .i64 (0), .slice none 0 0] [(0, 1, (.const (.int .i64 1))), (1, 1, (.tmp 60)), (2, 8, (.tmp 64))]), none⟩, .p⟩,
 ⟨⟨(some 66), (.box 56 (.tmp 65)), none⟩, .f⟩,
 ⟨⟨(some 12), (.mv (.tmp 56)), none⟩, .p⟩,
 ⟨⟨(some 13), (.mv (.tmp 66)), none⟩, .p⟩])
 (.seq (.seq (.reg [⟨(some 67), (.mv (.tmp 12)), none⟩,
 ⟨(some 68), (.eqs false .ptr (.tmp 67) (.const (.pointer none))), none⟩])
 (.cond (.tmp 68) (.seq (.reg [⟨(some 6), (.mv (.const (.bool false))), none⟩])
 .ret)
 .skip))
 (.seq (.seq (.reg [⟨(some 14), (.mv (.const (.int .i64 0))), none⟩])
 (.block 4 (.loop (.seq (.seq (.reg [⟨(some 69), (.mv (.tmp 14)), none⟩,
 ⟨(some 70), (.mv (.tmp 2)), none⟩,
 ⟨(some 71), (.len true (.tmp 70)), none⟩,
 ⟨(some 72), (.bin .lss (.tmp 69) (.tmp 71)), none⟩])
 (.cond (.tmp 72) .skip
 (.exit 4)))
 (.seq (.block 5 (.seq (.reg [⟨(some 75), (.mv (.tmp 12)), none⟩,
 ⟨(some 76), (.mv (.tmp 13)), none⟩,
 ⟨(some 77), (.mv (.tmp 2)), none⟩,
 ⟨(some 78), (.mv (.tmp 14)), none⟩,
 ⟨(some 79), (.ia 19 (.tmp 77) (.tmp 78)), none⟩,
 ⟨(some 80), (.ld (some 19) (.tmp 79)), none⟩,
 ⟨(some 81), (.call 17 [(.tmp 75), (.tmp 76), (.tmp 80)]), none⟩,
 ⟨(some 82), (.nt (.tmp 81)), none⟩])
 (.cond (.tmp 82) (.seq (.reg [⟨(some 6), (.mv (.const (.bool false))), none⟩])
 .ret)
 .skip)))
 (.reg [⟨(some 73), (.mv (.tmp 14)), none⟩,
 ⟨(some 74), (.bin .add (.tmp 73) (.const (.int .i64 1))), none⟩,
 ⟨(some 14), (.mv (.tmp 74)), none⟩]))))))
 (.seq (.draw [⟨⟨(some 83), (.mv (.tmp 7)), none⟩, .p⟩,
 ⟨⟨(some 84), (.call 15 [(.tmp 83)]), none⟩, .g⟩,
 ⟨⟨(some 85), (.mv (.tmp 8)), none⟩, .p⟩,
 ⟨⟨(some 86), (.nilc (.tmp 85)), none⟩, .p⟩,
 ⟨⟨(some 87), (.fa 2 (.tmp 86)), none⟩, .p⟩,
 ⟨⟨(some 88), (.ld (some 8) (.tmp 87)), none⟩, .l⟩,
 ⟨⟨(some 89), (.call 18 [(.tmp 84), (.tmp 88)]), none⟩, .m⟩,
 ⟨⟨(some 90), (.mv (.tmp 89)), none⟩, .p⟩,
 ⟨⟨(some 91), (.mv (.tmp 12)), (some (90, true))⟩, .p⟩,
 ⟨⟨(some 92), (.call 15 [(.tmp 91)]), (some (90, true))⟩, .g⟩,
 ⟨⟨(some 93), (.mv (.tmp 13)), (some (90, true))⟩, .p⟩,
 ⟨⟨(some 94), (.nilc (.tmp 93)), (some (90, true))⟩, .p⟩,
 ⟨⟨(some 95), (.fa 2 (.tmp 94)), (some (90, true))⟩, .p⟩,
 ⟨⟨(some 96), (.ld (some 8) (.tmp 95)), (some (90, true))⟩, .l⟩,
 ⟨⟨(some 97), (.call 18 [(.tmp 92), (.tmp 96)]), (some (90, true))⟩, .m⟩,
 ⟨⟨(some 98), (.pick (.tmp 90) (.tmp 97) (.const (.bool false))), none⟩, .p⟩,
 ⟨⟨(some 6), (.mv (.tmp 98)), none⟩, .p⟩])
 .ret))))))))
def r7 : List RV := [.tmp 6]
theorem ok7 : FnOk Try.prog 7 99 c7 r7 := ⟨_, _, Try.func7, rfl, rfl, by kernel_rfl, by kernel_rfl, by kernel_rfl⟩
/-- vouch/vouchlaw17.TxNone -/
def c8 : C := (.seq (.reg [⟨(some 1), (.box 53 (.tmp 0)), none⟩,
 ⟨(some 2), (.mv (.const (.bool false))), none⟩])
 (.seq (.seq (.reg [⟨(some 14), (.call 9 []), none⟩,
 ⟨(some 15), (.nt (.tmp 14)), none⟩])
 (.cond (.tmp 15) (.seq (.reg [⟨(some 2), (.mv (.const (.bool false))), none⟩])
 .ret)
 .skip))
 (.seq (.reg [⟨(some 3), (.mv (.const (.pointer none))), none⟩])
 (.seq (.reg [⟨(some 17), (.mv (.tmp 3)), none⟩,
 ⟨(some 18), (.fa 1 (.tmp 1)), none⟩,
 ⟨(some 19), (.ld none (.tmp 18)), none⟩,
 ⟨(some 20), (.call 11 [(.tmp 17), (.tmp 19)]), none⟩,
 ⟨(some 16), (.mv (.tmp 20)), none⟩,
 ⟨(some 21), (.ext 0 (.tmp 16)), none⟩,
 ⟨(some 22), (.ext 1 (.tmp 16)), none⟩,
 ⟨(some 23), (.ext 2 (.tmp 16)), none⟩,
 ⟨(some 4), (.new 26 [.bool false, .string ⟨#[]⟩]), none⟩,
 ⟨(some 5), (.new 33 [.int .i64 (0), .int .i64 (0), .int .i64 (0), .int .i64 (0), .int .i64 (0), .int .i64 (0), .string ⟨#[]⟩, .int .i64 (0), .int .i64 (0), .bool false, .string ⟨#[]⟩, .bool false, .int .i64 (0), .int .i64 (0), .slice none 0 0, .slice none 0 0]), none⟩,
 ⟨none, (.st 2 (.tmp 4) (.tmp 21)), none⟩,
 ⟨none, (.st 16 (.tmp 5) (.tmp 22)), none⟩,
 ⟨(some 6), (.mv (.tmp 23)), none⟩])
 (.seq (.reg [⟨(some 25), (.mv (.tmp 3)), none⟩,
 ⟨(some 26), (.fa 2 (.tmp 1)), none⟩,
 ⟨(some 27), (.ld (some 16) (.tmp 26)), none⟩,
 ⟨(some 28), (.call 14 [(.tmp 25), (.tmp 27)]), none⟩,
 ⟨(some 24), (.mv (.tmp 28)), none⟩,
 ⟨(some 29), (.ext 0 (.tmp 24)), none⟩,
 ⟨(some 30), (.ext 1 (.tmp 24)), none⟩,
 ⟨(some 7), (.new 33 [.int .i64 (0), .int .i64 (0), .int .i64 (0), .int .i64 (0), .int .i64 (0), .int .i64 (0), .string ⟨#[]⟩, .int .i64 (0), .int .i64 (0), .bool false, .string ⟨#[]⟩, .bool false, .int .i64 (0), .int .i64 (0), .slice none 0 0, .slice none 0 0]), none⟩,
 ⟨none, (.st 16 (.tmp 7) (.tmp 29)), none⟩,
 ⟨(some 8), (.mv (.tmp 30)), none⟩])
 (.seq (.reg [⟨(some 32), (.mv (.tmp 3)), none⟩,
 ⟨(some 33), (.fa 18 (.tmp 1)), none⟩,
 ⟨(some 34), (.ld none (.tmp 33)), none⟩,
 ⟨(some 35), (.call 12 [(.tmp 32), (.tmp 34)]), none⟩,
 ⟨(some 31), (.mv (.tmp 35)), none⟩,
 ⟨(some 36), (.ext 0 (.tmp 31)), none⟩,
 ⟨(some 37), (.ext 1 (.tmp 31)), none⟩,
 ⟨(some 9), (.new 33 [.int .i64 (0), .int .i64 (0), .int .i64 (0), .int .i64 (0), .int .i64 (0), .int .i64 (0), .string ⟨#[]⟩, .int .i64 (0), .int .i64 (0), .bool false, .string ⟨#[]⟩, .bool false, .int .i64 (0), .int .i64 (0), .slice none 0 0, .slice none 0 0]), none⟩,
 ⟨none, (.st 16 (.tmp 9) (.tmp 36)), none⟩,
 ⟨(some 10), (.mv (.tmp 37)), none⟩])
 (.seq (.reg [⟨(some 39), (.mv (.tmp 3)), none⟩,
 ⟨(some 40), (.call 13 [(.tmp 39)]), none⟩,
 ⟨(some 38), (.mv (.tmp 40)), none⟩,
 ⟨(some 41), (.ext 0 (.tmp 38)), none⟩,
 ⟨(some 42), (.ext 1 (.tmp 38)), none⟩,
 ⟨(some 11), (.mv (.tmp 41)), none⟩,
 ⟨(some 12), (.mv (.tmp 42)), none⟩])
 (.seq (.reg [⟨(some 43), (.mv (.tmp 3)), none⟩,
 ⟨(some 44), (.call 15 [(.tmp 43)]), none⟩,
 ⟨(some 13), (.new 45 [.int .i64 (0), .int .i64 (0), .int .i64 (0), .int .i64 (0), .string ⟨#[]⟩, .int .i64 (0), .int .i64 (0), .slice none 0 0]), none⟩,
 ⟨none, (.st 8 (.tmp 13) (.tmp 44)), none⟩])
 (.seq (.reg [⟨(some 45), (.ld (some 2) (.tmp 4)), none⟩,
 ⟨(some 46), (.bld [.bool false, .string ⟨#[]⟩] []), none⟩,
 ⟨(some 47), (.eqa false [.truth, .text] (.tmp 45) (.tmp 46)), none⟩,
 ⟨(some 48), (.mv (.tmp 47)), none⟩,
 ⟨(some 49), (.fa 0 (.tmp 5)), (some (48, true))⟩,
 ⟨(some 50), (.ld none (.tmp 49)), (some (48, true))⟩,
 ⟨(some 51), (.bin .eql (.tmp 50) (.const (.int .i64 0))), (some (48, true))⟩,
 ⟨(some 52), (.pick (.tmp 48) (.tmp 51) (.const (.bool false))), none⟩,
 ⟨(some 53), (.mv (.tmp 52)), none⟩,
 ⟨(some 54), (.mv (.tmp 6)), (some (53, true))⟩,
 ⟨(some 55), (.bin .eql (.tmp 54) (.const (.int .i64 3))), (some (53, true))⟩,
 ⟨(some 56), (.pick (.tmp 53) (.tmp 55) (.const (.bool false))), none⟩,
 ⟨(some 57), (.mv (.tmp 56)), none⟩,
 ⟨(some 58), (.fa 0 (.tmp 7)), (some (57, true))⟩,
 ⟨(some 59), (.ld none (.tmp 58)), (some (57, true))⟩,
 ⟨(some 60), (.bin .eql (.tmp 59) (.const (.int .i64 0))), (some (57, true))⟩,
 ⟨(some 61), (.pick (.tmp 57) (.tmp 60) (.const (.bool false))), none⟩,
 ⟨(some 62), (.mv (.tmp 61)), none⟩,
 ⟨(some 63), (.mv (.tmp 8)), (some (62, true))⟩,
 ⟨(some 64), (.nt (.tmp 63)), (some (62, true))⟩,
 ⟨(some 65), (.pick (.tmp 62) (.tmp 64) (.const (.bool false))), none⟩,
 ⟨(some 66), (.mv (.tmp 65)), none⟩,
 ⟨(some 67), (.fa 0 (.tmp 9)), (some (66, true))⟩,
 ⟨(some 68), (.ld none (.tmp 67)), (some (66, true))⟩,
 ⟨(some 69), (.bin .eql (.tmp 68) (.const (.int .i64 0))), (some (66, true))⟩,
 ⟨(some 70), (.pick (.tmp 66) (.tmp 69) (.const (.bool false))), none⟩,
 ⟨(some 71), (.mv (.tmp 70)), none⟩,
 ⟨(some 72), (.mv (.tmp 10)), (some (71, true))⟩,
 ⟨(some 73), (.bin .eql (.tmp 72) (.const (.int .i64 3))), (some (71, true))⟩,
 ⟨(some 74), (.pick (.tmp 71) (.tmp 73) (.const (.bool false))), none⟩,
 ⟨(some 75), (.mv (.tmp 74)), none⟩,
 ⟨(some 76), (.mv (.tmp 11)), (some (75, true))⟩,
 ⟨(some 77), (.bin .eql (.tmp 76) (.const (.int .i64 0))), (some (75, true))⟩,
 ⟨(some 78), (.pick (.tmp 75) (.tmp 77) (.const (.bool false))), none⟩,
 ⟨(some 79), (.mv (.tmp 78)), none⟩,
 ⟨(some 80), (.mv (.tmp 12)), (some (79, true))⟩,
 ⟨(some 81), (.bin .eql (.tmp 80) (.const (.int .i64 3))), (some (79, true))⟩,
 ⟨(some 82), (.pick (.tmp 79) (.tmp 81) (.const (.bool false))), none⟩,
 ⟨(some 83), (.mv (.tmp 82)), none⟩,
 ⟨(some 84), (.fa 0 (.tmp 13)), (some (83, true))⟩,
 ⟨(some 85), (.ld none (.tmp 84)), (some (83, true))⟩,
 ⟨(some 86), (.bin .eql (.tmp 85) (.const (.int .i64 0))), (some (83, true))⟩,
 ⟨(some 87), (.pick (.tmp 83) (.tmp 86) (.const (.bool false))), none⟩,
 ⟨(some 88), (.mv (.tmp 87)), none⟩,
 ⟨(some 89), (.fa 2 (.tmp 13)), (some (88, true))⟩,
 ⟨(some 90), (.ld (some 2) (.tmp 89)), (some (88, true))⟩,
 ⟨(some 91), (.bld [.int .i64 (0), .int .i64 (0)] []), (some (88, true))⟩,
 ⟨(some 92), (.eqa false [.num, .num] (.tmp 90) (.tmp 91)), (some (88, true))⟩,
 ⟨(some 93), (.pick (.tmp 88) (.tmp 92) (.const (.bool false))), none⟩,
 ⟨(some 94), (.mv (.tmp 93)), none⟩,
 ⟨(some 95), (.fa 7 (.tmp 13)), (some (94, true))⟩,
 ⟨(some 96), (.ld none (.tmp 95)), (some (94, true))⟩,
 ⟨(some 97), (.len true (.tmp 96)), (some (94, true))⟩,
 ⟨(some 98), (.bin .eql (.tmp 97) (.const (.int .i64 0))), (some (94, true))⟩,
 ⟨(some 99), (.pick (.tmp 94) (.tmp 98) (.const (.bool false))), none⟩,
 ⟨(some 100), (.mv (.tmp 99)), none⟩,
 ⟨(some 101), (.mv (.tmp 3)), (some (100, true))⟩,
 ⟨(some 102), (.call 19 [(.tmp 101)]), (some (100, true))⟩,
 ⟨(some 103), (.eqs false .ptr (.tmp 102) (.const (.pointer none))), (some (100, true))⟩,
 ⟨(some 104), (.pick (.tmp 100) (.tmp 103) (.const (.bool false))), none⟩,
 ⟨(some 2), (.mv (.tmp 104)), none⟩])
 .ret)))))))))
def r8 : List RV := [.tmp 2]
theorem ok8 : FnOk Try.prog 8 105 c8 r8 := ⟨_, _, Try.func8, rfl, rfl, by kernel_rfl, by kernel_rfl, by kernel_rfl⟩
/-- vouch/vouchlaw17.fixed -/
def c9 : C := (.seq (.reg [⟨(some 0), (.mv (.const (.bool false))), none⟩])
 (.seq (.reg [⟨(some 14), (.call 10 [(.const (.int .i64 7)), (.const (.int .i64 1)), (.const (.int .i64 4))]), none⟩,
 ⟨(some 1), (.mv (.tmp 14)), none⟩])
 (.seq (.seq (.reg [⟨(some 15), (.mv (.tmp 1)), none⟩,
 ⟨(some 16), (.eqs false .ptr (.tmp 15) (.const (.pointer none))), none⟩])
 (.cond (.tmp 16) (.seq (.reg [⟨(some 0), (.mv (.const (.bool false))), none⟩])
 .ret)
 .skip))
 (.seq (.reg [⟨(some 18), (.mv (.tmp 1)), none⟩,
 ⟨(some 19), (.call 11 [(.tmp 18), (.const (.string { data := #[97] }))]), none⟩,
 ⟨(some 17), (.mv (.tmp 19)), none⟩,
 ⟨(some 20), (.ext 0 (.tmp 17)), none⟩,
 ⟨(some 21), (.ext 1 (.tmp 17)), none⟩,
 ⟨(some 22), (.ext 2 (.tmp 17)), none⟩,
 ⟨(some 2), (.new 26 [.bool false, .string ⟨#[]⟩]), none⟩,
 ⟨(some 3), (.new 33 [.int .i64 (0), .int .i64 (0), .int .i64 (0), .int .i64 (0), .int .i64 (0), .int .i64 (0), .string ⟨#[]⟩, .int .i64 (0), .int .i64 (0), .bool false, .string ⟨#[]⟩, .bool false, .int .i64 (0), .int .i64 (0), .slice none 0 0, .slice none 0 0]), none⟩,
 ⟨none, (.st 2 (.tmp 2) (.tmp 20)), none⟩,
 ⟨none, (.st 16 (.tmp 3) (.tmp 21)), none⟩,
 ⟨(some 4), (.mv (.tmp 22)), none⟩])
 (.seq (.reg [⟨(some 24), (.mv (.tmp 1)), none⟩,
 ⟨(some 25), (.bld [.int .i64 (0), .int .i64 (0), .int .i64 (0), .int .i64 (0), .int .i64 (0), .int .i64 (0), .string ⟨#[]⟩, .int .i64 (0), .int .i64 (0), .bool false, .string ⟨#[]⟩, .bool false, .int .i64 (0), .int .i64 (0), .slice none 0 0, .slice none 0 0] [(0, 1, (.const (.int .i64 4))), (4, 1, (.const (.int .i64 7))), (5, 1, (.const (.int .i64 1)))]), none⟩,
 ⟨(some 26), (.call 14 [(.tmp 24), (.tmp 25)]), none⟩,
 ⟨(some 23), (.mv (.tmp 26)), none⟩,
 ⟨(some 27), (.ext 0 (.tmp 23)), none⟩,
 ⟨(some 28), (.ext 1 (.tmp 23)), none⟩,
 ⟨(some 5), (.new 33 [.int .i64 (0), .int .i64 (0), .int .i64 (0), .int .i64 (0), .int .i64 (0), .int .i64 (0), .string ⟨#[]⟩, .int .i64 (0), .int .i64 (0), .bool false, .string ⟨#[]⟩, .bool false, .int .i64 (0), .int .i64 (0), .slice none 0 0, .slice none 0 0]), none⟩,
 ⟨none, (.st 16 (.tmp 5) (.tmp 27)), none⟩,
 ⟨(some 6), (.mv (.tmp 28)), none⟩])
 (.seq (.reg [⟨(some 30), (.mv (.tmp 1)), none⟩,
 ⟨(some 31), (.call 20 [(.const (.string { data := #[120] }))]), none⟩,
 ⟨(some 32), (.bld [.int .i64 (0), .int .i64 (0)] [(0, 1, (.const (.int .i64 3))), (1, 1, (.const (.int .i64 9)))]), none⟩,
 ⟨(some 33), (.bld [.int .i64 (0), .int .i64 (0), .int .i64 (0), .int .i64 (0), .int .i64 (0), .int .i64 (0), .string ⟨#[]⟩, .int .i64 (0), .int .i64 (0), .bool false, .string ⟨#[]⟩, .bool false, .int .i64 (0), .int .i64 (0), .slice none 0 0, .slice none 0 0] [(0, 1, (.const (.int .i64 6))), (4, 1, (.const (.int .i64 7))), (5, 1, (.const (.int .i64 2))), (9, 2, (.tmp 31)), (7, 2, (.tmp 32))]), none⟩,
 ⟨(some 34), (.call 14 [(.tmp 30), (.tmp 33)]), none⟩,
 ⟨(some 29), (.mv (.tmp 34)), none⟩,
 ⟨(some 35), (.ext 0 (.tmp 29)), none⟩,
 ⟨(some 36), (.ext 1 (.tmp 29)), none⟩,
 ⟨(some 7), (.new 33 [.int .i64 (0), .int .i64 (0), .int .i64 (0), .int .i64 (0), .int .i64 (0), .int .i64 (0), .string ⟨#[]⟩, .int .i64 (0), .int .i64 (0), .bool false, .string ⟨#[]⟩, .bool false, .int .i64 (0), .int .i64 (0), .slice none 0 0, .slice none 0 0]), none⟩,
 ⟨none, (.st 16 (.tmp 7) (.tmp 35)), none⟩,
 ⟨(some 8), (.mv (.tmp 36)), none⟩])
 (.seq (.reg [⟨(some 38), (.mv (.tmp 1)), none⟩,
 ⟨(some 39), (.call 11 [(.tmp 38), (.const (.string { data := #[97] }))]), none⟩,
 ⟨(some 37), (.mv (.tmp 39)), none⟩,
 ⟨(some 40), (.ext 0 (.tmp 37)), none⟩,
 ⟨(some 41), (.ext 1 (.tmp 37)), none⟩,
 ⟨(some 42), (.ext 2 (.tmp 37)), none⟩,
 ⟨(some 9), (.new 26 [.bool false, .string ⟨#[]⟩]), none⟩,
 ⟨(some 10), (.new 33 [.int .i64 (0), .int .i64 (0), .int .i64 (0), .int .i64 (0), .int .i64 (0), .int .i64 (0), .string ⟨#[]⟩, .int .i64 (0), .int .i64 (0), .bool false, .string ⟨#[]⟩, .bool false, .int .i64 (0), .int .i64 (0), .slice none 0 0, .slice none 0 0]), none⟩,
 ⟨none, (.st 2 (.tmp 9) (.tmp 40)), none⟩,
 ⟨none, (.st 16 (.tmp 10) (.tmp 41)), none⟩,
 ⟨(some 11), (.mv (.tmp 42)), none⟩])
 (.seq (.reg [⟨(some 44), (.mv (.tmp 1)), none⟩,
 ⟨(some 45), (.call 13 [(.tmp 44)]), none⟩,
 ⟨(some 43), (.mv (.tmp 45)), none⟩,
 ⟨(some 46), (.ext 0 (.tmp 43)), none⟩,
 ⟨(some 47), (.ext 1 (.tmp 43)), none⟩,
 ⟨(some 12), (.mv (.tmp 46)), none⟩,
 ⟨(some 13), (.mv (.tmp 47)), none⟩])
 (.seq (.draw [⟨⟨(some 48), (.fa 0 (.tmp 3)), none⟩, .p⟩,
 ⟨⟨(some 49), (.ld none (.tmp 48)), none⟩, .l⟩,
 ⟨⟨(some 50), (.bin .eql (.tmp 49) (.const (.int .i64 3))), none⟩, .p⟩,
 ⟨⟨(some 51), (.mv (.tmp 50)), none⟩, .p⟩,
 ⟨⟨(some 52), (.fa 5 (.tmp 3)), (some (51, true))⟩, .p⟩,
 ⟨⟨(some 53), (.ld none (.tmp 52)), (some (51, true))⟩, .l⟩,
 ⟨⟨(some 54), (.bin .eql (.tmp 53) (.const (.int .i64 1))), (some (51, true))⟩, .p⟩,
 ⟨⟨(some 55), (.pick (.tmp 51) (.tmp 54) (.const (.bool false))), none⟩, .p⟩,
 ⟨⟨(some 56), (.mv (.tmp 55)), none⟩, .p⟩,
 ⟨⟨(some 57), (.fa 7 (.tmp 3)), (some (56, true))⟩, .p⟩,
 ⟨⟨(some 58), (.ld (some 2) (.tmp 57)), (some (56, true))⟩, .l⟩,
 ⟨⟨(some 59), (.bld [.int .i64 (0), .int .i64 (0)] [(0, 1, (.const (.int .i64 4))), (1, 1, (.const (.int .i64 4611686018427387904)))]), (some (56, true))⟩, .p⟩,
 ⟨⟨(some 60), (.eqa false [.num, .num] (.tmp 58) (.tmp 59)), (some (56, true))⟩, .p⟩,
 ⟨⟨(some 61), (.pick (.tmp 56) (.tmp 60) (.const (.bool false))), none⟩, .p⟩,
 ⟨⟨(some 62), (.mv (.tmp 61)), none⟩, .p⟩,
 ⟨⟨(some 63), (.mv (.tmp 4)), (some (62, true))⟩, .p⟩,
 ⟨⟨(some 64), (.bin .eql (.tmp 63) (.const (.int .i64 0))), (some (62, true))⟩, .p⟩,
 ⟨⟨(some 65), (.pick (.tmp 62) (.tmp 64) (.const (.bool false))), none⟩, .p⟩,
 ⟨⟨(some 66), (.mv (.tmp 65)), none⟩, .p⟩,
 ⟨⟨(some 67), (.fa 0 (.tmp 5)), (some (66, true))⟩, .p⟩,
 ⟨⟨(some 68), (.ld none (.tmp 67)), (some (66, true))⟩, .l⟩,
 ⟨⟨(some 69), (.bin .eql (.tmp 68) (.const (.int .i64 5))), (some (66, true))⟩, .p⟩,
 ⟨⟨(some 70), (.pick (.tmp 66) (.tmp 69) (.const (.bool false))), none⟩, .p⟩,
 ⟨⟨(some 71), (.mv (.tmp 70)), none⟩, .p⟩,
 ⟨⟨(some 72), (.fa 5 (.tmp 5)), (some (71, true))⟩, .p⟩,
 ⟨⟨(some 73), (.ld none (.tmp 72)), (some (71, true))⟩, .l⟩,
 ⟨⟨(some 74), (.bin .eql (.tmp 73) (.const (.int .i64 2))), (some (71, true))⟩, .p⟩,
 ⟨⟨(some 75), (.pick (.tmp 71) (.tmp 74) (.const (.bool false))), none⟩, .p⟩,
 ⟨⟨(some 76), (.mv (.tmp 75)), none⟩, .p⟩,
 ⟨⟨(some 77), (.mv (.tmp 6)), (some (76, true))⟩, .p⟩,
 ⟨⟨(some 78), (.pick (.tmp 76) (.tmp 77) (.const (.bool false))), none⟩, .p⟩,
 ⟨⟨(some 79), (.mv (.tmp 78)), none⟩, .p⟩,
 ⟨⟨(some 80), (.mv (.tmp 8)), (some (79, true))⟩, .p⟩,
 ⟨⟨(some 81), (.pick (.tmp 79) (.tmp 80) (.const (.bool false))), none⟩, .p⟩,
 ⟨⟨(some 82), (.mv (.tmp 81)), none⟩, .p⟩,
 ⟨⟨(some 83), (.ld (some 2) (.tmp 9)), (some (82, true))⟩, .l⟩,
 ⟨⟨(some 84), (.call 20 [(.const (.string { data := #[120] }))]), (some (82, true))⟩, .g⟩,
 ⟨⟨(some 85), (.eqa false [.truth, .text] (.tmp 83) (.tmp 84)), (some (82, true))⟩, .p⟩,
 ⟨⟨(some 86), (.pick (.tmp 82) (.tmp 85) (.const (.bool false))), none⟩, .p⟩,
 ⟨⟨(some 87), (.mv (.tmp 86)), none⟩, .p⟩,
 ⟨⟨(some 88), (.mv (.tmp 11)), (some (87, true))⟩, .p⟩,
 ⟨⟨(some 89), (.bin .eql (.tmp 88) (.const (.int .i64 0))), (some (87, true))⟩, .p⟩,
 ⟨⟨(some 90), (.pick (.tmp 87) (.tmp 89) (.const (.bool false))), none⟩, .p⟩,
 ⟨⟨(some 91), (.mv (.tmp 90)), none⟩, .p⟩,
 ⟨⟨(some 92), (.mv (.tmp 12)), (some (91, true))⟩, .p⟩,
 ⟨⟨(some 93), (.bin .eql (.tmp 92) (.const (.int .i64 8))), (some (91, true))⟩, .p⟩,
 ⟨⟨(some 94), (.pick (.tmp 91) (.tmp 93) (.const (.bool false))), none⟩, .p⟩,
 ⟨⟨(some 95), (.mv (.tmp 94)), none⟩, .p⟩,
 ⟨⟨(some 96), (.mv (.tmp 13)), (some (95, true))⟩, .p⟩,
 ⟨⟨(some 97), (.bin .eql (.tmp 96) (.const (.int .i64 0))), (some (95, true))⟩, .p⟩,
 ⟨⟨(some 98), (.pick (.tmp 95) (.tmp 97) (.const (.bool false))), none⟩, .p⟩,
 ⟨⟨(some 0), (.mv (.tmp 98)), none⟩, .p⟩])
 .ret)))))))))
def r9 : List RV := [.tmp 0]
theorem ok9 : FnOk Try.prog 9 99 c9 r9 := ⟨_, _, Try.func9, rfl, rfl, by kernel_rfl, by kernel_rfl, by kernel_rfl⟩
/-- vouch/tx.New -/
def c10 : C := (.seq (.reg [⟨(some 6), (.mv (.const (.pointer none))), none⟩])
 (.seq (.reg [⟨(some 8), (.mv (.tmp 0)), none⟩,
 ⟨(some 9), (.mv (.tmp 1)), none⟩,
 ⟨(some 10), (.mx true (.tmp 9) (.const (.int .i64 1))), none⟩,
 ⟨(some 11), (.mx false (.tmp 10) (.const (.int .i64 8))), none⟩,
 ⟨(some 12), (.bld [.int .i64 (0), .int .i64 (0), .int .i64 (0), .int .i64 (0), .int .i64 (0), .int .i64 (0), .string ⟨#[]⟩, .int .i64 (0), .int .i64 (0), .slice none 0 0] [(0, 1, (.tmp 8)), (1, 1, (.tmp 11))]), none⟩,
 ⟨(some 13), (.box 67 (.tmp 12)), none⟩,
 ⟨(some 7), (.mv (.tmp 13)), none⟩])
 (.seq (.reg [⟨(some 14), (.mv (.tmp 7)), none⟩,
 ⟨(some 15), (.mv (.tmp 2)), none⟩,
 ⟨(some 16), (.mx true (.tmp 15) (.const (.int .i64 0))), none⟩,
 ⟨(some 17), (.mx false (.tmp 16) (.const (.int .i64 1099511627776))), none⟩,
 ⟨(some 18), (.bld [.int .i64 (0), .int .i64 (0)] [(0, 1, (.tmp 17)), (1, 1, (.const (.int .i64 4611686018427387904)))]), none⟩,
 ⟨(some 19), (.nilc (.tmp 14)), none⟩,
 ⟨(some 20), (.fa 2 (.tmp 19)), none⟩,
 ⟨(some 21), (.fa 2 (.tmp 20)), none⟩,
 ⟨none, (.st 2 (.tmp 21) (.tmp 18)), none⟩])
 (.seq (.reg [⟨(some 22), (.mv (.tmp 7)), none⟩,
 ⟨(some 6), (.mv (.tmp 22)), none⟩])
 .ret))))
def r10 : List RV := [.tmp 6]
theorem ok10 : FnOk Try.prog 10 23 c10 r10 := ⟨_, _, Try.func10, rfl, rfl, by kernel_rfl, by kernel_rfl, by kernel_rfl⟩
/-- (*vouch/tx.Tx).Read -/
def c11 : C := (.seq (.reg [⟨(some 4), (.new 26 [.bool false, .string ⟨#[]⟩]), none⟩,
 ⟨(some 5), (.new 33 [.int .i64 (0), .int .i64 (0), .int .i64 (0), .int .i64 (0), .int .i64 (0), .int .i64 (0), .string ⟨#[]⟩, .int .i64 (0), .int .i64 (0), .bool false, .string ⟨#[]⟩, .bool false, .int .i64 (0), .int .i64 (0), .slice none 0 0, .slice none 0 0]), none⟩,
 ⟨(some 6), (.mv (.const (.int .i64 0))), none⟩])
 (.seq (.block 0 (.seq (.reg [⟨(some 10), (.mv (.tmp 0)), none⟩,
 ⟨(some 11), (.eqs false .ptr (.tmp 10) (.const (.pointer none))), none⟩,
 ⟨(some 9), (.mv (.tmp 11)), none⟩])
 (.cond (.tmp 9) (.seq (.reg [⟨(some 12), (.bld [.bool false, .string ⟨#[]⟩] []), none⟩,
 ⟨(some 13), (.bld [.int .i64 (0), .int .i64 (0), .int .i64 (0), .int .i64 (0), .int .i64 (0), .int .i64 (0), .string ⟨#[]⟩, .int .i64 (0), .int .i64 (0), .bool false, .string ⟨#[]⟩, .bool false, .int .i64 (0), .int .i64 (0), .slice none 0 0, .slice none 0 0] []), none⟩,
 ⟨none, (.st 2 (.tmp 4) (.tmp 12)), none⟩,
 ⟨none, (.st 16 (.tmp 5) (.tmp 13)), none⟩,
 ⟨(some 6), (.mv (.const (.int .i64 3))), none⟩])
 .ret)
 (.seq (.reg [⟨(some 15), (.mv (.tmp 0)), none⟩,
 ⟨(some 16), (.nilc (.tmp 15)), none⟩,
 ⟨(some 17), (.fa 2 (.tmp 16)), none⟩,
 ⟨(some 18), (.fa 0 (.tmp 17)), none⟩,
 ⟨(some 19), (.ld none (.tmp 18)), none⟩,
 ⟨(some 20), (.bin .geq (.tmp 19) (.const (.int .i64 3))), none⟩,
 ⟨(some 14), (.mv (.tmp 20)), none⟩])
 (.cond (.tmp 14) (.seq (.reg [⟨(some 21), (.bld [.bool false, .string ⟨#[]⟩] []), none⟩,
 ⟨(some 22), (.bld [.int .i64 (0), .int .i64 (0), .int .i64 (0), .int .i64 (0), .int .i64 (0), .int .i64 (0), .string ⟨#[]⟩, .int .i64 (0), .int .i64 (0), .bool false, .string ⟨#[]⟩, .bool false, .int .i64 (0), .int .i64 (0), .slice none 0 0, .slice none 0 0] []), none⟩,
 ⟨none, (.st 2 (.tmp 4) (.tmp 21)), none⟩,
 ⟨none, (.st 16 (.tmp 5) (.tmp 22)), none⟩,
 ⟨(some 6), (.mv (.const (.int .i64 40))), none⟩])
 .ret)
 (.seq (.reg [⟨(some 24), (.mv (.tmp 0)), none⟩,
 ⟨(some 25), (.call 21 [(.tmp 24)]), none⟩,
 ⟨(some 23), (.mv (.tmp 25)), none⟩])
 (.cond (.tmp 23) (.seq (.reg [⟨(some 26), (.bld [.bool false, .string ⟨#[]⟩] []), none⟩,
 ⟨(some 27), (.bld [.int .i64 (0), .int .i64 (0), .int .i64 (0), .int .i64 (0), .int .i64 (0), .int .i64 (0), .string ⟨#[]⟩, .int .i64 (0), .int .i64 (0), .bool false, .string ⟨#[]⟩, .bool false, .int .i64 (0), .int .i64 (0), .slice none 0 0, .slice none 0 0] []), none⟩,
 ⟨none, (.st 2 (.tmp 4) (.tmp 26)), none⟩,
 ⟨none, (.st 16 (.tmp 5) (.tmp 27)), none⟩,
 ⟨(some 6), (.mv (.const (.int .i64 31))), none⟩])
 .ret)
 (.seq (.reg [⟨(some 29), (.mv (.tmp 1)), none⟩,
 ⟨(some 30), (.bin .eql (.tmp 29) (.const (.string { data := #[] }))), none⟩,
 ⟨(some 31), (.mv (.tmp 30)), none⟩,
 ⟨(some 32), (.mv (.tmp 1)), (some (31, false))⟩,
 ⟨(some 33), (.len false (.tmp 32)), (some (31, false))⟩,
 ⟨(some 34), (.bin .gtr (.tmp 33) (.const (.int .i64 32))), (some (31, false))⟩,
 ⟨(some 35), (.pick (.tmp 31) (.const (.bool true)) (.tmp 34)), none⟩,
 ⟨(some 28), (.mv (.tmp 35)), none⟩])
 (.cond (.tmp 28) (.seq (.reg [⟨(some 36), (.bld [.bool false, .string ⟨#[]⟩] []), none⟩,
 ⟨(some 37), (.bld [.int .i64 (0), .int .i64 (0), .int .i64 (0), .int .i64 (0), .int .i64 (0), .int .i64 (0), .string ⟨#[]⟩, .int .i64 (0), .int .i64 (0), .bool false, .string ⟨#[]⟩, .bool false, .int .i64 (0), .int .i64 (0), .slice none 0 0, .slice none 0 0] []), none⟩,
 ⟨none, (.st 2 (.tmp 4) (.tmp 36)), none⟩,
 ⟨none, (.st 16 (.tmp 5) (.tmp 37)), none⟩,
 ⟨(some 6), (.mv (.const (.int .i64 1))), none⟩])
 .ret)
 .skip)))))))))
 (.seq (.seq (.reg [⟨(some 38), (.mv (.tmp 0)), none⟩,
 ⟨(some 39), (.nilc (.tmp 38)), none⟩,
 ⟨(some 40), (.fa 2 (.tmp 39)), none⟩,
 ⟨(some 41), (.fa 7 (.tmp 40)), none⟩,
 ⟨(some 42), (.ld none (.tmp 41)), none⟩,
 ⟨(some 43), (.len true (.tmp 42)), none⟩,
 ⟨(some 44), (.mv (.const (.int .i64 0))), none⟩])
 (.block 1 (.loop (.seq (.reg [⟨(some 45), (.bin .lss (.tmp 44) (.tmp 43)), none⟩])
 (.seq (.cond (.tmp 45) .skip
 (.exit 1))
 (.seq (.block 2 (.seq (.reg [⟨(some 46), (.ia 3 (.tmp 42) (.tmp 44)), none⟩,
 ⟨(some 47), (.ld (some 3) (.tmp 46)), none⟩,
 ⟨(some 8), (.new 60 [.string ⟨#[]⟩, .bool false, .string ⟨#[]⟩]), none⟩,
 ⟨none, (.st 3 (.tmp 8) (.tmp 47)), none⟩])
 (.seq (.reg [⟨(some 48), (.fa 0 (.tmp 8)), none⟩,
 ⟨(some 49), (.ld none (.tmp 48)), none⟩,
 ⟨(some 50), (.mv (.tmp 1)), none⟩,
 ⟨(some 51), (.bin .eql (.tmp 49) (.tmp 50)), none⟩])
 (.cond (.tmp 51) (.seq (.reg [⟨(some 52), (.fa 1 (.tmp 8)), none⟩,
 ⟨(some 53), (.ld (some 2) (.tmp 52)), none⟩,
 ⟨(some 54), (.bld [.int .i64 (0), .int .i64 (0), .int .i64 (0), .int .i64 (0), .int .i64 (0), .int .i64 (0), .string ⟨#[]⟩, .int .i64 (0), .int .i64 (0), .bool false, .string ⟨#[]⟩, .bool false, .int .i64 (0), .int .i64 (0), .slice none 0 0, .slice none 0 0] []), none⟩,
 ⟨none, (.st 2 (.tmp 4) (.tmp 53)), none⟩,
 ⟨none, (.st 16 (.tmp 5) (.tmp 54)), none⟩,
 ⟨(some 6), (.mv (.const (.int .i64 0))), none⟩])
 .ret)
 .skip))))
 (.reg [⟨(some 55), (.bin .add (.tmp 44) (.const (.int .i64 1))), none⟩,
 ⟨(some 44), (.mv (.tmp 55)), none⟩])))))))
 (.seq (.reg [⟨(some 56), (.bld [.bool false, .string ⟨#[]⟩] []), none⟩,
 ⟨(some 57), (.mv (.tmp 0)), none⟩,
 ⟨(some 58), (.mv (.tmp 1)), none⟩,
 ⟨(some 59), (.call 22 [(.tmp 57), (.const (.int .i64 1)), (.tmp 58)]), none⟩,
 ⟨none, (.st 2 (.tmp 4) (.tmp 56)), none⟩,
 ⟨none, (.st 16 (.tmp 5) (.tmp 59)), none⟩,
 ⟨(some 6), (.mv (.const (.int .i64 0))), none⟩])
 .ret))))
def r11 : List RV := [.agg 4 2, .agg 5 16, .tmp 6]
theorem ok11 : FnOk Try.prog 11 60 c11 r11 := ⟨_, _, Try.func11, rfl, rfl, by kernel_rfl, by kernel_rfl, by kernel_rfl⟩
/-- (*vouch/tx.Tx).Again -/
def c12 : C := (.seq (.reg [⟨(some 4), (.new 33 [.int .i64 (0), .int .i64 (0), .int .i64 (0), .int .i64 (0), .int .i64 (0), .int .i64 (0), .string ⟨#[]⟩, .int .i64 (0), .int .i64 (0), .bool false, .string ⟨#[]⟩, .bool false, .int .i64 (0), .int .i64 (0), .slice none 0 0, .slice none 0 0]), none⟩,
 ⟨(some 5), (.mv (.const (.int .i64 0))), none⟩])
 (.seq (.block 0 (.seq (.reg [⟨(some 7), (.mv (.tmp 0)), none⟩,
 ⟨(some 8), (.eqs false .ptr (.tmp 7) (.const (.pointer none))), none⟩,
 ⟨(some 9), (.mv (.tmp 8)), none⟩,
 ⟨(some 10), (.mv (.tmp 0)), (some (9, false))⟩,
 ⟨(some 11), (.call 21 [(.tmp 10)]), (some (9, false))⟩,
 ⟨(some 12), (.nt (.tmp 11)), (some (9, false))⟩,
 ⟨(some 13), (.pick (.tmp 9) (.const (.bool true)) (.tmp 12)), none⟩,
 ⟨(some 6), (.mv (.tmp 13)), none⟩])
 (.cond (.tmp 6) (.seq (.reg [⟨(some 14), (.bld [.int .i64 (0), .int .i64 (0), .int .i64 (0), .int .i64 (0), .int .i64 (0), .int .i64 (0), .string ⟨#[]⟩, .int .i64 (0), .int .i64 (0), .bool false, .string ⟨#[]⟩, .bool false, .int .i64 (0), .int .i64 (0), .slice none 0 0, .slice none 0 0] []), none⟩,
 ⟨none, (.st 16 (.tmp 4) (.tmp 14)), none⟩,
 ⟨(some 5), (.mv (.const (.int .i64 3))), none⟩])
 .ret)
 (.seq (.reg [⟨(some 16), (.mv (.tmp 0)), none⟩,
 ⟨(some 17), (.nilc (.tmp 16)), none⟩,
 ⟨(some 18), (.fa 2 (.tmp 17)), none⟩,
 ⟨(some 19), (.fa 6 (.tmp 18)), none⟩,
 ⟨(some 20), (.ld none (.tmp 19)), none⟩,
 ⟨(some 21), (.mv (.tmp 1)), none⟩,
 ⟨(some 22), (.bin .lss (.tmp 20) (.tmp 21)), none⟩,
 ⟨(some 15), (.mv (.tmp 22)), none⟩])
 (.cond (.tmp 15) (.seq (.reg [⟨(some 23), (.mv (.tmp 0)), none⟩,
 ⟨(some 24), (.nilc (.tmp 23)), none⟩,
 ⟨(some 25), (.fa 2 (.tmp 24)), none⟩,
 ⟨(some 26), (.fa 6 (.tmp 25)), none⟩,
 ⟨(some 27), (.ld none (.tmp 26)), none⟩,
 ⟨(some 28), (.bin .add (.tmp 27) (.const (.int .i64 1))), none⟩,
 ⟨(some 29), (.nilc (.tmp 23)), none⟩,
 ⟨(some 30), (.fa 2 (.tmp 29)), none⟩,
 ⟨(some 31), (.fa 6 (.tmp 30)), none⟩,
 ⟨none, (.st 1 (.tmp 31) (.tmp 28)), none⟩])
 (.seq (.reg [⟨(some 32), (.mv (.tmp 0)), none⟩,
 ⟨(some 33), (.call 23 [(.tmp 32)]), none⟩,
 ⟨none, (.st 16 (.tmp 4) (.tmp 33)), none⟩,
 ⟨(some 5), (.mv (.const (.int .i64 0))), none⟩])
 .ret))
 (.seq (.reg [⟨(some 35), (.mv (.tmp 0)), none⟩,
 ⟨(some 36), (.nilc (.tmp 35)), none⟩,
 ⟨(some 37), (.fa 2 (.tmp 36)), none⟩,
 ⟨(some 38), (.fa 0 (.tmp 37)), none⟩,
 ⟨(some 39), (.ld none (.tmp 38)), none⟩,
 ⟨(some 40), (.bin .eql (.tmp 39) (.const (.int .i64 1))), none⟩,
 ⟨(some 34), (.mv (.tmp 40)), none⟩])
 (.cond (.tmp 34) (.seq (.reg [⟨(some 41), (.mv (.tmp 0)), none⟩,
 ⟨(some 42), (.mv (.tmp 0)), none⟩,
 ⟨(some 43), (.nilc (.tmp 42)), none⟩,
 ⟨(some 44), (.fa 2 (.tmp 43)), none⟩,
 ⟨(some 45), (.fa 4 (.tmp 44)), none⟩,
 ⟨(some 46), (.ld none (.tmp 45)), none⟩,
 ⟨(some 47), (.call 22 [(.tmp 41), (.const (.int .i64 2)), (.tmp 46)]), none⟩,
 ⟨none, (.st 16 (.tmp 4) (.tmp 47)), none⟩,
 ⟨(some 5), (.mv (.const (.int .i64 0))), none⟩])
 .ret)
 .skip)))))))
 (.seq (.reg [⟨(some 48), (.mv (.tmp 0)), none⟩,
 ⟨(some 49), (.call 24 [(.tmp 48), (.const (.int .i64 4)), (.const (.int .i64 41))]), none⟩])
 (.seq (.reg [⟨(some 50), (.bld [.int .i64 (0), .int .i64 (0), .int .i64 (0), .int .i64 (0), .int .i64 (0), .int .i64 (0), .string ⟨#[]⟩, .int .i64 (0), .int .i64 (0), .bool false, .string ⟨#[]⟩, .bool false, .int .i64 (0), .int .i64 (0), .slice none 0 0, .slice none 0 0] []), none⟩,
 ⟨none, (.st 16 (.tmp 4) (.tmp 50)), none⟩,
 ⟨(some 5), (.mv (.const (.int .i64 41))), none⟩])
 .ret))))
def r12 : List RV := [.agg 4 16, .tmp 5]
theorem ok12 : FnOk Try.prog 12 51 c12 r12 := ⟨_, _, Try.func12, rfl, rfl, by kernel_rfl, by kernel_rfl, by kernel_rfl⟩
/-- (*vouch/tx.Tx).Finish -/
def c13 : C := (.seq (.reg [⟨(some 2), (.mv (.const (.int .i64 0))), none⟩,
 ⟨(some 3), (.mv (.const (.int .i64 0))), none⟩])
 (.seq (.block 0 (.seq (.reg [⟨(some 5), (.mv (.tmp 0)), none⟩,
 ⟨(some 6), (.eqs false .ptr (.tmp 5) (.const (.pointer none))), none⟩,
 ⟨(some 4), (.mv (.tmp 6)), none⟩])
 (.cond (.tmp 4) (.seq (.reg [⟨(some 2), (.mv (.const (.int .i64 0))), none⟩,
 ⟨(some 3), (.mv (.const (.int .i64 3))), none⟩])
 .ret)
 (.seq (.reg [⟨(some 8), (.mv (.tmp 0)), none⟩,
 ⟨(some 9), (.nilc (.tmp 8)), none⟩,
 ⟨(some 10), (.fa 2 (.tmp 9)), none⟩,
 ⟨(some 11), (.fa 0 (.tmp 10)), none⟩,
 ⟨(some 12), (.ld none (.tmp 11)), none⟩,
 ⟨(some 13), (.bin .eql (.tmp 12) (.const (.int .i64 3))), none⟩,
 ⟨(some 7), (.mv (.tmp 13)), none⟩])
 (.cond (.tmp 7) (.seq (.reg [⟨(some 2), (.mv (.const (.int .i64 0))), none⟩,
 ⟨(some 3), (.mv (.const (.int .i64 40))), none⟩])
 .ret)
 (.seq (.reg [⟨(some 15), (.mv (.tmp 0)), none⟩,
 ⟨(some 16), (.nilc (.tmp 15)), none⟩,
 ⟨(some 17), (.fa 2 (.tmp 16)), none⟩,
 ⟨(some 18), (.fa 0 (.tmp 17)), none⟩,
 ⟨(some 19), (.ld none (.tmp 18)), none⟩,
 ⟨(some 20), (.bin .eql (.tmp 19) (.const (.int .i64 4))), none⟩,
 ⟨(some 14), (.mv (.tmp 20)), none⟩])
 (.cond (.tmp 14) (.seq (.draw [⟨⟨(some 21), (.mv (.tmp 0)), none⟩, .p⟩,
 ⟨⟨(some 22), (.nilc (.tmp 21)), none⟩, .p⟩,
 ⟨⟨(some 23), (.fa 2 (.tmp 22)), none⟩, .p⟩,
 ⟨⟨(some 24), (.fa 1 (.tmp 23)), none⟩, .p⟩,
 ⟨⟨(some 25), (.ld none (.tmp 24)), none⟩, .l⟩,
 ⟨⟨(some 2), (.mv (.const (.int .i64 0))), none⟩, .p⟩,
 ⟨⟨(some 3), (.mv (.tmp 25)), none⟩, .p⟩])
 .ret)
 (.seq (.reg [⟨(some 27), (.mv (.tmp 0)), none⟩,
 ⟨(some 28), (.call 21 [(.tmp 27)]), none⟩,
 ⟨(some 26), (.mv (.tmp 28)), none⟩])
 (.cond (.tmp 26) (.seq (.reg [⟨(some 2), (.mv (.const (.int .i64 0))), none⟩,
 ⟨(some 3), (.mv (.const (.int .i64 31))), none⟩])
 .ret)
 .skip)))))))))
 (.seq (.reg [⟨(some 29), (.mv (.tmp 0)), none⟩,
 ⟨(some 30), (.call 24 [(.tmp 29), (.const (.int .i64 3)), (.const (.int .i64 0))]), none⟩])
 (.seq (.seq (.reg [⟨(some 31), (.mv (.tmp 0)), none⟩,
 ⟨(some 32), (.nilc (.tmp 31)), none⟩,
 ⟨(some 33), (.fa 2 (.tmp 32)), none⟩,
 ⟨(some 34), (.fa 2 (.tmp 33)), none⟩,
 ⟨(some 35), (.fa 1 (.tmp 34)), none⟩,
 ⟨(some 36), (.ld none (.tmp 35)), none⟩,
 ⟨(some 37), (.bin .eql (.tmp 36) (.const (.int .i64 4611686018427387904))), none⟩])
 (.cond (.tmp 37) (.seq (.reg [⟨(some 38), (.mv (.tmp 0)), none⟩,
 ⟨(some 39), (.nilc (.tmp 38)), none⟩,
 ⟨(some 40), (.fa 2 (.tmp 39)), none⟩,
 ⟨(some 41), (.fa 2 (.tmp 40)), none⟩,
 ⟨(some 42), (.fa 0 (.tmp 41)), none⟩,
 ⟨(some 43), (.ld none (.tmp 42)), none⟩,
 ⟨(some 2), (.mv (.tmp 43)), none⟩,
 ⟨(some 3), (.mv (.const (.int .i64 0))), none⟩])
 .ret)
 .skip))
 (.seq (.reg [⟨(some 44), (.mv (.tmp 0)), none⟩,
 ⟨(some 45), (.nilc (.tmp 44)), none⟩,
 ⟨(some 46), (.fa 2 (.tmp 45)), none⟩,
 ⟨(some 47), (.fa 2 (.tmp 46)), none⟩,
 ⟨(some 48), (.fa 1 (.tmp 47)), none⟩,
 ⟨(some 49), (.ld none (.tmp 48)), none⟩,
 ⟨(some 50), (.bin .sub (.tmp 49) (.const (.int .i64 1))), none⟩,
 ⟨(some 2), (.mv (.tmp 50)), none⟩,
 ⟨(some 3), (.mv (.const (.int .i64 0))), none⟩])
 .ret)))))
def r13 : List RV := [.tmp 2, .tmp 3]
theorem ok13 : FnOk Try.prog 13 51 c13 r13 := ⟨_, _, Try.func13, rfl, rfl, by kernel_rfl, by kernel_rfl, by kernel_rfl⟩
/-- (*vouch/tx.Tx).Hear -/
def c14 : C := (.seq (.reg [⟨(some 3), (.box 33 (.tmp 1)), none⟩,
 ⟨(some 4), (.new 33 [.int .i64 (0), .int .i64 (0), .int .i64 (0), .int .i64 (0), .int .i64 (0), .int .i64 (0), .string ⟨#[]⟩, .int .i64 (0), .int .i64 (0), .bool false, .string ⟨#[]⟩, .bool false, .int .i64 (0), .int .i64 (0), .slice none 0 0, .slice none 0 0]), none⟩,
 ⟨(some 5), (.mv (.const (.bool false))), none⟩])
 (.seq (.seq (.draw [⟨⟨(some 6), (.mv (.tmp 0)), none⟩, .p⟩,
 ⟨⟨(some 7), (.eqs false .ptr (.tmp 6) (.const (.pointer none))), none⟩, .p⟩,
 ⟨⟨(some 8), (.mv (.tmp 7)), none⟩, .p⟩,
 ⟨⟨(some 9), (.mv (.tmp 0)), (some (8, false))⟩, .p⟩,
 ⟨⟨(some 10), (.call 21 [(.tmp 9)]), (some (8, false))⟩, .m⟩,
 ⟨⟨(some 11), (.nt (.tmp 10)), (some (8, false))⟩, .p⟩,
 ⟨⟨(some 12), (.pick (.tmp 8) (.const (.bool true)) (.tmp 11)), none⟩, .p⟩,
 ⟨⟨(some 13), (.mv (.tmp 12)), none⟩, .p⟩,
 ⟨⟨(some 14), (.fa 4 (.tmp 3)), (some (13, false))⟩, .p⟩,
 ⟨⟨(some 15), (.ld none (.tmp 14)), (some (13, false))⟩, .l⟩,
 ⟨⟨(some 16), (.mv (.tmp 0)), (some (13, false))⟩, .p⟩,
 ⟨⟨(some 17), (.nilc (.tmp 16)), (some (13, false))⟩, .p⟩,
 ⟨⟨(some 18), (.fa 0 (.tmp 17)), (some (13, false))⟩, .p⟩,
 ⟨⟨(some 19), (.ld none (.tmp 18)), (some (13, false))⟩, .l⟩,
 ⟨⟨(some 20), (.bin .neq (.tmp 15) (.tmp 19)), (some (13, false))⟩, .p⟩,
 ⟨⟨(some 21), (.pick (.tmp 13) (.const (.bool true)) (.tmp 20)), none⟩, .p⟩,
 ⟨⟨(some 22), (.mv (.tmp 21)), none⟩, .p⟩,
 ⟨⟨(some 23), (.fa 5 (.tmp 3)), (some (22, false))⟩, .p⟩,
 ⟨⟨(some 24), (.ld none (.tmp 23)), (some (22, false))⟩, .l⟩,
 ⟨⟨(some 25), (.mv (.tmp 0)), (some (22, false))⟩, .p⟩,
 ⟨⟨(some 26), (.nilc (.tmp 25)), (some (22, false))⟩, .p⟩,
 ⟨⟨(some 27), (.fa 2 (.tmp 26)), (some (22, false))⟩, .p⟩,
 ⟨⟨(some 28), (.fa 5 (.tmp 27)), (some (22, false))⟩, .p⟩,
 ⟨⟨(some 29), (.ld none (.tmp 28)), (some (22, false))⟩, .l⟩,
 ⟨⟨(some 30), (.bin .neq (.tmp 24) (.tmp 29)), (some (22, false))⟩, .p⟩,
 ⟨⟨(some 31), (.pick (.tmp 22) (.const (.bool true)) (.tmp 30)), none⟩, .p⟩])
 (.cond (.tmp 31) (.seq (.reg [⟨(some 32), (.bld [.int .i64 (0), .int .i64 (0), .int .i64 (0), .int .i64 (0), .int .i64 (0), .int .i64 (0), .string ⟨#[]⟩, .int .i64 (0), .int .i64 (0), .bool false, .string ⟨#[]⟩, .bool false, .int .i64 (0), .int .i64 (0), .slice none 0 0, .slice none 0 0] []), none⟩,
 ⟨none, (.st 16 (.tmp 4) (.tmp 32)), none⟩,
 ⟨(some 5), (.mv (.const (.bool false))), none⟩])
 .ret)
 .skip))
 (.seq (.block 0 (.seq (.reg [⟨(some 34), (.fa 0 (.tmp 3)), none⟩,
 ⟨(some 35), (.ld none (.tmp 34)), none⟩,
 ⟨(some 36), (.bin .eql (.tmp 35) (.const (.int .i64 4))), none⟩,
 ⟨(some 37), (.mv (.tmp 36)), none⟩,
 ⟨(some 38), (.mv (.tmp 0)), (some (37, true))⟩,
 ⟨(some 39), (.nilc (.tmp 38)), (some (37, true))⟩,
 ⟨(some 40), (.fa 2 (.tmp 39)), (some (37, true))⟩,
 ⟨(some 41), (.fa 0 (.tmp 40)), (some (37, true))⟩,
 ⟨(some 42), (.ld none (.tmp 41)), (some (37, true))⟩,
 ⟨(some 43), (.bin .eql (.tmp 42) (.const (.int .i64 1))), (some (37, true))⟩,
 ⟨(some 44), (.pick (.tmp 37) (.tmp 43) (.const (.bool false))), none⟩,
 ⟨(some 33), (.mv (.tmp 44)), none⟩])
 (.cond (.tmp 33) (.seq (.seq (.reg [⟨(some 45), (.fa 11 (.tmp 3)), none⟩,
 ⟨(some 46), (.ld none (.tmp 45)), none⟩,
 ⟨(some 47), (.mv (.tmp 46)), none⟩,
 ⟨(some 48), (.mv (.tmp 0)), (some (47, true))⟩,
 ⟨(some 49), (.fa 9 (.tmp 3)), (some (47, true))⟩,
 ⟨(some 50), (.ld (some 2) (.tmp 49)), (some (47, true))⟩,
 ⟨(some 51), (.fa 7 (.tmp 3)), (some (47, true))⟩,
 ⟨(some 52), (.ld (some 2) (.tmp 51)), (some (47, true))⟩,
 ⟨(some 53), (.call 25 [(.tmp 48), (.tmp 50), (.tmp 52)]), (some (47, true))⟩,
 ⟨(some 54), (.pick (.tmp 47) (.tmp 53) (.const (.bool false))), none⟩])
 (.cond (.tmp 54) (.seq (.reg [⟨(some 55), (.bld [.int .i64 (0), .int .i64 (0), .int .i64 (0), .int .i64 (0), .int .i64 (0), .int .i64 (0), .string ⟨#[]⟩, .int .i64 (0), .int .i64 (0), .bool false, .string ⟨#[]⟩, .bool false, .int .i64 (0), .int .i64 (0), .slice none 0 0, .slice none 0 0] []), none⟩,
 ⟨none, (.st 16 (.tmp 4) (.tmp 55)), none⟩,
 ⟨(some 5), (.mv (.const (.bool true))), none⟩])
 .ret)
 .skip))
 (.seq (.reg [⟨(some 56), (.mv (.tmp 0)), none⟩,
 ⟨(some 57), (.mv (.tmp 0)), none⟩,
 ⟨(some 58), (.nilc (.tmp 57)), none⟩,
 ⟨(some 59), (.fa 2 (.tmp 58)), none⟩,
 ⟨(some 60), (.fa 4 (.tmp 59)), none⟩,
 ⟨(some 61), (.ld none (.tmp 60)), none⟩,
 ⟨(some 62), (.call 22 [(.tmp 56), (.const (.int .i64 2)), (.tmp 61)]), none⟩,
 ⟨none, (.st 16 (.tmp 4) (.tmp 62)), none⟩,
 ⟨(some 5), (.mv (.const (.bool true))), none⟩])
 .ret))
 (.seq (.reg [⟨(some 64), (.fa 0 (.tmp 3)), none⟩,
 ⟨(some 65), (.ld none (.tmp 64)), none⟩,
 ⟨(some 66), (.bin .eql (.tmp 65) (.const (.int .i64 6))), none⟩,
 ⟨(some 67), (.mv (.tmp 66)), none⟩,
 ⟨(some 68), (.mv (.tmp 0)), (some (67, true))⟩,
 ⟨(some 69), (.nilc (.tmp 68)), (some (67, true))⟩,
 ⟨(some 70), (.fa 2 (.tmp 69)), (some (67, true))⟩,
 ⟨(some 71), (.fa 0 (.tmp 70)), (some (67, true))⟩,
 ⟨(some 72), (.ld none (.tmp 71)), (some (67, true))⟩,
 ⟨(some 73), (.bin .eql (.tmp 72) (.const (.int .i64 2))), (some (67, true))⟩,
 ⟨(some 74), (.pick (.tmp 67) (.tmp 73) (.const (.bool false))), none⟩,
 ⟨(some 63), (.mv (.tmp 74)), none⟩])
 (.cond (.tmp 63) (.seq (.seq (.reg [⟨(some 75), (.fa 12 (.tmp 3)), none⟩,
 ⟨(some 76), (.ld none (.tmp 75)), none⟩,
 ⟨(some 77), (.bin .neq (.tmp 76) (.const (.int .i64 0))), none⟩])
 (.cond (.tmp 77) (.seq (.reg [⟨(some 78), (.mv (.tmp 0)), none⟩,
 ⟨(some 79), (.fa 12 (.tmp 3)), none⟩,
 ⟨(some 80), (.ld none (.tmp 79)), none⟩,
 ⟨(some 81), (.call 24 [(.tmp 78), (.const (.int .i64 4)), (.tmp 80)]), none⟩])
 (.seq (.reg [⟨(some 82), (.bld [.int .i64 (0), .int .i64 (0), .int .i64 (0), .int .i64 (0), .int .i64 (0), .int .i64 (0), .string ⟨#[]⟩, .int .i64 (0), .int .i64 (0), .bool false, .string ⟨#[]⟩, .bool false, .int .i64 (0), .int .i64 (0), .slice none 0 0, .slice none 0 0] []), none⟩,
 ⟨none, (.st 16 (.tmp 4) (.tmp 82)), none⟩,
 ⟨(some 5), (.mv (.const (.bool true))), none⟩])
 .ret))
 .skip))
 (.seq (.reg [⟨(some 83), (.bld [.int .i64 (0), .int .i64 (0), .int .i64 (0), .int .i64 (0), .int .i64 (0), .int .i64 (0), .string ⟨#[]⟩, .int .i64 (0), .int .i64 (0), .bool false, .string ⟨#[]⟩, .bool false, .int .i64 (0), .int .i64 (0), .slice none 0 0, .slice none 0 0] []), none⟩,
 ⟨(some 84), (.mv (.tmp 0)), none⟩,
 ⟨(some 85), (.fa 9 (.tmp 3)), none⟩,
 ⟨(some 86), (.ld (some 2) (.tmp 85)), none⟩,
 ⟨(some 87), (.fa 7 (.tmp 3)), none⟩,
 ⟨(some 88), (.ld (some 2) (.tmp 87)), none⟩,
 ⟨(some 89), (.call 25 [(.tmp 84), (.tmp 86), (.tmp 88)]), none⟩,
 ⟨none, (.st 16 (.tmp 4) (.tmp 83)), none⟩,
 ⟨(some 5), (.mv (.tmp 89)), none⟩])
 .ret))
 .skip)))))
 (.seq (.reg [⟨(some 90), (.bld [.int .i64 (0), .int .i64 (0), .int .i64 (0), .int .i64 (0), .int .i64 (0), .int .i64 (0), .string ⟨#[]⟩, .int .i64 (0), .int .i64 (0), .bool false, .string ⟨#[]⟩, .bool false, .int .i64 (0), .int .i64 (0), .slice none 0 0, .slice none 0 0] []), none⟩,
 ⟨none, (.st 16 (.tmp 4) (.tmp 90)), none⟩,
 ⟨(some 5), (.mv (.const (.bool false))), none⟩])
 .ret))))
def r14 : List RV := [.agg 4 16, .tmp 5]
theorem ok14 : FnOk Try.prog 14 91 c14 r14 := ⟨_, _, Try.func14, rfl, rfl, by kernel_rfl, by kernel_rfl, by kernel_rfl⟩
/-- (*vouch/tx.Tx).View -/
def c15 : C := (.seq (.reg [⟨(some 2), (.new 45 [.int .i64 (0), .int .i64 (0), .int .i64 (0), .int .i64 (0), .string ⟨#[]⟩, .int .i64 (0), .int .i64 (0), .slice none 0 0]), none⟩])
 (.seq (.seq (.reg [⟨(some 4), (.mv (.tmp 0)), none⟩,
 ⟨(some 5), (.eqs false .ptr (.tmp 4) (.const (.pointer none))), none⟩])
 (.cond (.tmp 5) (.seq (.reg [⟨(some 6), (.bld [.int .i64 (0), .int .i64 (0), .int .i64 (0), .int .i64 (0), .string ⟨#[]⟩, .int .i64 (0), .int .i64 (0), .slice none 0 0] []), none⟩,
 ⟨none, (.st 8 (.tmp 2) (.tmp 6)), none⟩])
 .ret)
 .skip))
 (.seq (.reg [⟨(some 7), (.mv (.tmp 0)), none⟩,
 ⟨(some 8), (.nilc (.tmp 7)), none⟩,
 ⟨(some 9), (.fa 2 (.tmp 8)), none⟩,
 ⟨(some 10), (.ld (some 8) (.tmp 9)), none⟩,
 ⟨(some 3), (.new 45 [.int .i64 (0), .int .i64 (0), .int .i64 (0), .int .i64 (0), .string ⟨#[]⟩, .int .i64 (0), .int .i64 (0), .slice none 0 0]), none⟩,
 ⟨none, (.st 8 (.tmp 3) (.tmp 10)), none⟩])
 (.seq (.reg [⟨(some 11), (.fa 7 (.tmp 3)), none⟩,
 ⟨(some 12), (.ld none (.tmp 11)), none⟩,
 ⟨(some 13), (.call 26 [(.tmp 12)]), none⟩,
 ⟨(some 14), (.fa 7 (.tmp 3)), none⟩,
 ⟨none, (.st 1 (.tmp 14) (.tmp 13)), none⟩])
 (.seq (.reg [⟨(some 15), (.ld (some 8) (.tmp 3)), none⟩,
 ⟨none, (.st 8 (.tmp 2) (.tmp 15)), none⟩])
 .ret)))))
def r15 : List RV := [.agg 2 8]
theorem ok15 : FnOk Try.prog 15 16 c15 r15 := ⟨_, _, Try.func15, rfl, rfl, by kernel_rfl, by kernel_rfl, by kernel_rfl⟩
/-- vouch/vouchref17.New -/
def c16 : C := (.seq (.reg [⟨(some 6), (.mv (.const (.pointer none))), none⟩])
 (.seq (.seq (.reg [⟨(some 7), (.mv (.tmp 1)), none⟩,
 ⟨(some 8), (.bin .lss (.tmp 7) (.const (.int .i64 1))), none⟩])
 (.cond (.tmp 8) (.reg [⟨(some 1), (.mv (.const (.int .i64 1))), none⟩])
 .skip))
 (.seq (.seq (.reg [⟨(some 9), (.mv (.tmp 1)), none⟩,
 ⟨(some 10), (.bin .gtr (.tmp 9) (.const (.int .i64 8))), none⟩])
 (.cond (.tmp 10) (.reg [⟨(some 1), (.mv (.const (.int .i64 8))), none⟩])
 .skip))
 (.seq (.reg [⟨(some 11), (.mv (.tmp 0)), none⟩,
 ⟨(some 12), (.mv (.tmp 1)), none⟩,
 ⟨(some 13), (.mv (.tmp 2)), none⟩,
 ⟨(some 14), (.call 27 [(.tmp 13)]), none⟩,
 ⟨(some 15), (.bld [.int .i64 (0), .int .i64 (0)] [(0, 1, (.tmp 14)), (1, 1, (.const (.int .i64 4611686018427387904)))]), none⟩,
 ⟨(some 16), (.bld [.int .i64 (0), .int .i64 (0), .int .i64 (0), .int .i64 (0), .string ⟨#[]⟩, .int .i64 (0), .int .i64 (0), .slice none 0 0] [(2, 2, (.tmp 15))]), none⟩,
 ⟨(some 17), (.bld [.int .i64 (0), .int .i64 (0), .int .i64 (0), .int .i64 (0), .int .i64 (0), .int .i64 (0), .string ⟨#[]⟩, .int .i64 (0), .int .i64 (0), .slice none 0 0] [(0, 1, (.tmp 11)), (1, 1, (.tmp 12)), (2, 8, (.tmp 16))]), none⟩,
 ⟨(some 18), (.box 56 (.tmp 17)), none⟩,
 ⟨(some 6), (.mv (.tmp 18)), none⟩])
 .ret))))
def r16 : List RV := [.tmp 6]
theorem ok16 : FnOk Try.prog 16 19 c16 r16 := ⟨_, _, Try.func16, rfl, rfl, by kernel_rfl, by kernel_rfl, by kernel_rfl⟩
/-- vouch/vouchlaw17.step -/
def c17 : C := (.seq (.reg [⟨(some 5), (.box 53 (.tmp 2)), none⟩,
 ⟨(some 6), (.mv (.const (.bool false))), none⟩])
 (.seq (.reg [⟨(some 7), (.mv (.const (.bool true))), none⟩])
 (.seq (.seq (.reg [⟨(some 26), (.fa 0 (.tmp 5)), none⟩,
 ⟨(some 27), (.ld none (.tmp 26)), none⟩,
 ⟨(some 28), (.bin .rem (.tmp 27) (.const (.int .u8 4))), none⟩])
 (.block 0 (.seq (.reg [⟨(some 30), (.bin .eql (.tmp 28) (.const (.int .u8 0))), none⟩,
 ⟨(some 29), (.mv (.tmp 30)), none⟩])
 (.cond (.tmp 29) (.seq (.reg [⟨(some 32), (.mv (.tmp 0)), none⟩,
 ⟨(some 33), (.fa 1 (.tmp 5)), none⟩,
 ⟨(some 34), (.ld none (.tmp 33)), none⟩,
 ⟨(some 35), (.call 11 [(.tmp 32), (.tmp 34)]), none⟩,
 ⟨(some 31), (.mv (.tmp 35)), none⟩,
 ⟨(some 36), (.ext 0 (.tmp 31)), none⟩,
 ⟨(some 37), (.ext 1 (.tmp 31)), none⟩,
 ⟨(some 38), (.ext 2 (.tmp 31)), none⟩,
 ⟨(some 8), (.new 26 [.bool false, .string ⟨#[]⟩]), none⟩,
 ⟨(some 9), (.new 33 [.int .i64 (0), .int .i64 (0), .int .i64 (0), .int .i64 (0), .int .i64 (0), .int .i64 (0), .string ⟨#[]⟩, .int .i64 (0), .int .i64 (0), .bool false, .string ⟨#[]⟩, .bool false, .int .i64 (0), .int .i64 (0), .slice none 0 0, .slice none 0 0]), none⟩,
 ⟨none, (.st 2 (.tmp 8) (.tmp 36)), none⟩,
 ⟨none, (.st 16 (.tmp 9) (.tmp 37)), none⟩,
 ⟨(some 10), (.mv (.tmp 38)), none⟩])
 (.seq (.reg [⟨(some 40), (.mv (.tmp 1)), none⟩,
 ⟨(some 41), (.fa 1 (.tmp 5)), none⟩,
 ⟨(some 42), (.ld none (.tmp 41)), none⟩,
 ⟨(some 43), (.call 28 [(.tmp 40), (.tmp 42)]), none⟩,
 ⟨(some 39), (.mv (.tmp 43)), none⟩,
 ⟨(some 44), (.ext 0 (.tmp 39)), none⟩,
 ⟨(some 45), (.ext 1 (.tmp 39)), none⟩,
 ⟨(some 46), (.ext 2 (.tmp 39)), none⟩,
 ⟨(some 11), (.new 26 [.bool false, .string ⟨#[]⟩]), none⟩,
 ⟨(some 12), (.new 33 [.int .i64 (0), .int .i64 (0), .int .i64 (0), .int .i64 (0), .int .i64 (0), .int .i64 (0), .string ⟨#[]⟩, .int .i64 (0), .int .i64 (0), .bool false, .string ⟨#[]⟩, .bool false, .int .i64 (0), .int .i64 (0), .slice none 0 0, .slice none 0 0]), none⟩,
 ⟨none, (.st 2 (.tmp 11) (.tmp 44)), none⟩,
 ⟨none, (.st 16 (.tmp 12) (.tmp 45)), none⟩,
 ⟨(some 13), (.mv (.tmp 46)), none⟩])
 (.reg [⟨(some 47), (.ld (some 2) (.tmp 8)), none⟩,
 ⟨(some 48), (.ld (some 2) (.tmp 11)), none⟩,
 ⟨(some 49), (.eqa false [.truth, .text] (.tmp 47) (.tmp 48)), none⟩,
 ⟨(some 50), (.mv (.tmp 49)), none⟩,
 ⟨(some 51), (.ld (some 16) (.tmp 9)), (some (50, true))⟩,
 ⟨(some 52), (.ld (some 16) (.tmp 12)), (some (50, true))⟩,
 ⟨(some 53), (.call 29 [(.tmp 51), (.tmp 52)]), (some (50, true))⟩,
 ⟨(some 54), (.pick (.tmp 50) (.tmp 53) (.const (.bool false))), none⟩,
 ⟨(some 55), (.mv (.tmp 54)), none⟩,
 ⟨(some 56), (.mv (.tmp 10)), (some (55, true))⟩,
 ⟨(some 57), (.mv (.tmp 13)), (some (55, true))⟩,
 ⟨(some 58), (.bin .eql (.tmp 56) (.tmp 57)), (some (55, true))⟩,
 ⟨(some 59), (.pick (.tmp 55) (.tmp 58) (.const (.bool false))), none⟩,
 ⟨(some 7), (.mv (.tmp 59)), none⟩])))
 (.seq (.reg [⟨(some 61), (.bin .eql (.tmp 28) (.const (.int .u8 1))), none⟩,
 ⟨(some 60), (.mv (.tmp 61)), none⟩])
 (.cond (.tmp 60) (.seq (.reg [⟨(some 63), (.mv (.tmp 0)), none⟩,
 ⟨(some 64), (.fa 2 (.tmp 5)), none⟩,
 ⟨(some 65), (.ld (some 16) (.tmp 64)), none⟩,
 ⟨(some 66), (.call 14 [(.tmp 63), (.tmp 65)]), none⟩,
 ⟨(some 62), (.mv (.tmp 66)), none⟩,
 ⟨(some 67), (.ext 0 (.tmp 62)), none⟩,
 ⟨(some 68), (.ext 1 (.tmp 62)), none⟩,
 ⟨(some 14), (.new 33 [.int .i64 (0), .int .i64 (0), .int .i64 (0), .int .i64 (0), .int .i64 (0), .int .i64 (0), .string ⟨#[]⟩, .int .i64 (0), .int .i64 (0), .bool false, .string ⟨#[]⟩, .bool false, .int .i64 (0), .int .i64 (0), .slice none 0 0, .slice none 0 0]), none⟩,
 ⟨none, (.st 16 (.tmp 14) (.tmp 67)), none⟩,
 ⟨(some 15), (.mv (.tmp 68)), none⟩])
 (.seq (.reg [⟨(some 70), (.mv (.tmp 1)), none⟩,
 ⟨(some 71), (.fa 2 (.tmp 5)), none⟩,
 ⟨(some 72), (.ld (some 16) (.tmp 71)), none⟩,
 ⟨(some 73), (.call 30 [(.tmp 70), (.tmp 72)]), none⟩,
 ⟨(some 69), (.mv (.tmp 73)), none⟩,
 ⟨(some 74), (.ext 0 (.tmp 69)), none⟩,
 ⟨(some 75), (.ext 1 (.tmp 69)), none⟩,
 ⟨(some 16), (.new 33 [.int .i64 (0), .int .i64 (0), .int .i64 (0), .int .i64 (0), .int .i64 (0), .int .i64 (0), .string ⟨#[]⟩, .int .i64 (0), .int .i64 (0), .bool false, .string ⟨#[]⟩, .bool false, .int .i64 (0), .int .i64 (0), .slice none 0 0, .slice none 0 0]), none⟩,
 ⟨none, (.st 16 (.tmp 16) (.tmp 74)), none⟩,
 ⟨(some 17), (.mv (.tmp 75)), none⟩])
 (.reg [⟨(some 76), (.ld (some 16) (.tmp 14)), none⟩,
 ⟨(some 77), (.ld (some 16) (.tmp 16)), none⟩,
 ⟨(some 78), (.call 29 [(.tmp 76), (.tmp 77)]), none⟩,
 ⟨(some 79), (.mv (.tmp 78)), none⟩,
 ⟨(some 80), (.mv (.tmp 15)), (some (79, true))⟩,
 ⟨(some 81), (.mv (.tmp 17)), (some (79, true))⟩,
 ⟨(some 82), (.eqs false .bool (.tmp 80) (.tmp 81)), (some (79, true))⟩,
 ⟨(some 83), (.pick (.tmp 79) (.tmp 82) (.const (.bool false))), none⟩,
 ⟨(some 7), (.mv (.tmp 83)), none⟩])))
 (.seq (.reg [⟨(some 85), (.bin .eql (.tmp 28) (.const (.int .u8 2))), none⟩,
 ⟨(some 84), (.mv (.tmp 85)), none⟩])
 (.cond (.tmp 84) (.seq (.reg [⟨(some 87), (.mv (.tmp 0)), none⟩,
 ⟨(some 88), (.fa 18 (.tmp 5)), none⟩,
 ⟨(some 89), (.ld none (.tmp 88)), none⟩,
 ⟨(some 90), (.call 12 [(.tmp 87), (.tmp 89)]), none⟩,
 ⟨(some 86), (.mv (.tmp 90)), none⟩,
 ⟨(some 91), (.ext 0 (.tmp 86)), none⟩,
 ⟨(some 92), (.ext 1 (.tmp 86)), none⟩,
 ⟨(some 18), (.new 33 [.int .i64 (0), .int .i64 (0), .int .i64 (0), .int .i64 (0), .int .i64 (0), .int .i64 (0), .string ⟨#[]⟩, .int .i64 (0), .int .i64 (0), .bool false, .string ⟨#[]⟩, .bool false, .int .i64 (0), .int .i64 (0), .slice none 0 0, .slice none 0 0]), none⟩,
 ⟨none, (.st 16 (.tmp 18) (.tmp 91)), none⟩,
 ⟨(some 19), (.mv (.tmp 92)), none⟩])
 (.seq (.reg [⟨(some 94), (.mv (.tmp 1)), none⟩,
 ⟨(some 95), (.fa 18 (.tmp 5)), none⟩,
 ⟨(some 96), (.ld none (.tmp 95)), none⟩,
 ⟨(some 97), (.call 31 [(.tmp 94), (.tmp 96)]), none⟩,
 ⟨(some 93), (.mv (.tmp 97)), none⟩,
 ⟨(some 98), (.ext 0 (.tmp 93)), none⟩,
 ⟨(some 99), (.ext 1 (.tmp 93)), none⟩,
 ⟨(some 20), (.new 33 [.int .i64 (0), .int .i64 (0), .int .i64 (0), .int .i64 (0), .int .i64 (0), .int .i64 (0), .string ⟨#[]⟩, .int .i64 (0), .int .i64 (0), .bool false, .string ⟨#[]⟩, .bool false, .int .i64 (0), .int .i64 (0), .slice none 0 0, .slice none 0 0]), none⟩,
 ⟨none, (.st 16 (.tmp 20) (.tmp 98)), none⟩,
 ⟨(some 21), (.mv (.tmp 99)), none⟩])
 (.reg [⟨(some 100), (.ld (some 16) (.tmp 18)), none⟩,
 ⟨(some 101), (.ld (some 16) (.tmp 20)), none⟩,
 ⟨(some 102), (.call 29 [(.tmp 100), (.tmp 101)]), none⟩,
 ⟨(some 103), (.mv (.tmp 102)), none⟩,
 ⟨(some 104), (.mv (.tmp 19)), (some (103, true))⟩,
 ⟨(some 105), (.mv (.tmp 21)), (some (103, true))⟩,
 ⟨(some 106), (.bin .eql (.tmp 104) (.tmp 105)), (some (103, true))⟩,
 ⟨(some 107), (.pick (.tmp 103) (.tmp 106) (.const (.bool false))), none⟩,
 ⟨(some 7), (.mv (.tmp 107)), none⟩])))
 (.seq (.reg [⟨(some 109), (.bin .eql (.tmp 28) (.const (.int .u8 3))), none⟩,
 ⟨(some 108), (.mv (.tmp 109)), none⟩])
 (.cond (.tmp 108) (.seq (.reg [⟨(some 111), (.mv (.tmp 0)), none⟩,
 ⟨(some 112), (.call 13 [(.tmp 111)]), none⟩,
 ⟨(some 110), (.mv (.tmp 112)), none⟩,
 ⟨(some 113), (.ext 0 (.tmp 110)), none⟩,
 ⟨(some 114), (.ext 1 (.tmp 110)), none⟩,
 ⟨(some 22), (.mv (.tmp 113)), none⟩,
 ⟨(some 23), (.mv (.tmp 114)), none⟩])
 (.seq (.reg [⟨(some 116), (.mv (.tmp 1)), none⟩,
 ⟨(some 117), (.call 32 [(.tmp 116)]), none⟩,
 ⟨(some 115), (.mv (.tmp 117)), none⟩,
 ⟨(some 118), (.ext 0 (.tmp 115)), none⟩,
 ⟨(some 119), (.ext 1 (.tmp 115)), none⟩,
 ⟨(some 24), (.mv (.tmp 118)), none⟩,
 ⟨(some 25), (.mv (.tmp 119)), none⟩])
 (.reg [⟨(some 120), (.mv (.tmp 22)), none⟩,
 ⟨(some 121), (.mv (.tmp 24)), none⟩,
 ⟨(some 122), (.bin .eql (.tmp 120) (.tmp 121)), none⟩,
 ⟨(some 123), (.mv (.tmp 122)), none⟩,
 ⟨(some 124), (.mv (.tmp 23)), (some (123, true))⟩,
 ⟨(some 125), (.mv (.tmp 25)), (some (123, true))⟩,
 ⟨(some 126), (.bin .eql (.tmp 124) (.tmp 125)), (some (123, true))⟩,
 ⟨(some 127), (.pick (.tmp 123) (.tmp 126) (.const (.bool false))), none⟩,
 ⟨(some 7), (.mv (.tmp 127)), none⟩])))
 .skip))))))))))
 (.seq (.reg [⟨(some 128), (.mv (.tmp 7)), none⟩,
 ⟨(some 6), (.mv (.tmp 128)), none⟩])
 .ret))))
def r17 : List RV := [.tmp 6]
theorem ok17 : FnOk Try.prog 17 129 c17 r17 := ⟨_, _, Try.func17, rfl, rfl, by kernel_rfl, by kernel_rfl, by kernel_rfl⟩
/-- vouch/vouchref17.Same -/
def c18 : C := (.seq (.reg [⟨(some 2), (.box 45 (.tmp 0)), none⟩,
 ⟨(some 3), (.box 45 (.tmp 1)), none⟩,
 ⟨(some 4), (.mv (.const (.bool false))), none⟩])
 (.seq (.seq (.reg [⟨(some 6), (.fa 0 (.tmp 2)), none⟩,
 ⟨(some 7), (.ld none (.tmp 6)), none⟩,
 ⟨(some 8), (.fa 0 (.tmp 3)), none⟩,
 ⟨(some 9), (.ld none (.tmp 8)), none⟩,
 ⟨(some 10), (.bin .neq (.tmp 7) (.tmp 9)), none⟩,
 ⟨(some 11), (.mv (.tmp 10)), none⟩,
 ⟨(some 12), (.fa 1 (.tmp 2)), (some (11, false))⟩,
 ⟨(some 13), (.ld none (.tmp 12)), (some (11, false))⟩,
 ⟨(some 14), (.fa 1 (.tmp 3)), (some (11, false))⟩,
 ⟨(some 15), (.ld none (.tmp 14)), (some (11, false))⟩,
 ⟨(some 16), (.bin .neq (.tmp 13) (.tmp 15)), (some (11, false))⟩,
 ⟨(some 17), (.pick (.tmp 11) (.const (.bool true)) (.tmp 16)), none⟩,
 ⟨(some 18), (.mv (.tmp 17)), none⟩,
 ⟨(some 19), (.fa 2 (.tmp 2)), (some (18, false))⟩,
 ⟨(some 20), (.ld (some 2) (.tmp 19)), (some (18, false))⟩,
 ⟨(some 21), (.fa 2 (.tmp 3)), (some (18, false))⟩,
 ⟨(some 22), (.ld (some 2) (.tmp 21)), (some (18, false))⟩,
 ⟨(some 23), (.eqa true [.num, .num] (.tmp 20) (.tmp 22)), (some (18, false))⟩,
 ⟨(some 24), (.pick (.tmp 18) (.const (.bool true)) (.tmp 23)), none⟩,
 ⟨(some 25), (.mv (.tmp 24)), none⟩,
 ⟨(some 26), (.fa 4 (.tmp 2)), (some (25, false))⟩,
 ⟨(some 27), (.ld none (.tmp 26)), (some (25, false))⟩,
 ⟨(some 28), (.fa 4 (.tmp 3)), (some (25, false))⟩,
 ⟨(some 29), (.ld none (.tmp 28)), (some (25, false))⟩,
 ⟨(some 30), (.bin .neq (.tmp 27) (.tmp 29)), (some (25, false))⟩,
 ⟨(some 31), (.pick (.tmp 25) (.const (.bool true)) (.tmp 30)), none⟩,
 ⟨(some 32), (.mv (.tmp 31)), none⟩,
 ⟨(some 33), (.fa 5 (.tmp 2)), (some (32, false))⟩,
 ⟨(some 34), (.ld none (.tmp 33)), (some (32, false))⟩,
 ⟨(some 35), (.fa 5 (.tmp 3)), (some (32, false))⟩,
 ⟨(some 36), (.ld none (.tmp 35)), (some (32, false))⟩,
 ⟨(some 37), (.bin .neq (.tmp 34) (.tmp 36)), (some (32, false))⟩,
 ⟨(some 38), (.pick (.tmp 32) (.const (.bool true)) (.tmp 37)), none⟩,
 ⟨(some 39), (.mv (.tmp 38)), none⟩,
 ⟨(some 40), (.fa 6 (.tmp 2)), (some (39, false))⟩,
 ⟨(some 41), (.ld none (.tmp 40)), (some (39, false))⟩,
 ⟨(some 42), (.fa 6 (.tmp 3)), (some (39, false))⟩,
 ⟨(some 43), (.ld none (.tmp 42)), (some (39, false))⟩,
 ⟨(some 44), (.bin .neq (.tmp 41) (.tmp 43)), (some (39, false))⟩,
 ⟨(some 45), (.pick (.tmp 39) (.const (.bool true)) (.tmp 44)), none⟩,
 ⟨(some 46), (.mv (.tmp 45)), none⟩,
 ⟨(some 47), (.fa 7 (.tmp 2)), (some (46, false))⟩,
 ⟨(some 48), (.ld none (.tmp 47)), (some (46, false))⟩,
 ⟨(some 49), (.len true (.tmp 48)), (some (46, false))⟩,
 ⟨(some 50), (.fa 7 (.tmp 3)), (some (46, false))⟩,
 ⟨(some 51), (.ld none (.tmp 50)), (some (46, false))⟩,
 ⟨(some 52), (.len true (.tmp 51)), (some (46, false))⟩,
 ⟨(some 53), (.bin .neq (.tmp 49) (.tmp 52)), (some (46, false))⟩,
 ⟨(some 54), (.pick (.tmp 46) (.const (.bool true)) (.tmp 53)), none⟩])
 (.cond (.tmp 54) (.seq (.reg [⟨(some 4), (.mv (.const (.bool false))), none⟩])
 .ret)
 .skip))
 (.seq (.seq (.reg [⟨(some 5), (.mv (.const (.int .i64 0))), none⟩])
 (.block 0 (.loop (.seq (.seq (.reg [⟨(some 55), (.mv (.tmp 5)), none⟩,
 ⟨(some 56), (.fa 7 (.tmp 2)), none⟩,
 ⟨(some 57), (.ld none (.tmp 56)), none⟩,
 ⟨(some 58), (.len true (.tmp 57)), none⟩,
 ⟨(some 59), (.bin .lss (.tmp 55) (.tmp 58)), none⟩])
 (.cond (.tmp 59) .skip
 (.exit 0)))
 (.seq (.block 1 (.seq (.draw [⟨⟨(some 62), (.fa 7 (.tmp 2)), none⟩, .p⟩,
 ⟨⟨(some 63), (.ld none (.tmp 62)), none⟩, .l⟩,
 ⟨⟨(some 64), (.mv (.tmp 5)), none⟩, .p⟩,
 ⟨⟨(some 65), (.ia 3 (.tmp 63) (.tmp 64)), none⟩, .p⟩,
 ⟨⟨(some 66), (.ld (some 3) (.tmp 65)), none⟩, .l⟩,
 ⟨⟨(some 67), (.fa 7 (.tmp 3)), none⟩, .p⟩,
 ⟨⟨(some 68), (.ld none (.tmp 67)), none⟩, .l⟩,
 ⟨⟨(some 69), (.mv (.tmp 5)), none⟩, .p⟩,
 ⟨⟨(some 70), (.ia 3 (.tmp 68) (.tmp 69)), none⟩, .p⟩,
 ⟨⟨(some 71), (.ld (some 3) (.tmp 70)), none⟩, .l⟩,
 ⟨⟨(some 72), (.eqa true [.text, .truth, .text] (.tmp 66) (.tmp 71)), none⟩, .p⟩])
 (.cond (.tmp 72) (.seq (.reg [⟨(some 4), (.mv (.const (.bool false))), none⟩])
 .ret)
 .skip)))
 (.reg [⟨(some 60), (.mv (.tmp 5)), none⟩,
 ⟨(some 61), (.bin .add (.tmp 60) (.const (.int .i64 1))), none⟩,
 ⟨(some 5), (.mv (.tmp 61)), none⟩]))))))
 (.seq (.reg [⟨(some 4), (.mv (.const (.bool true))), none⟩])
 .ret))))
def r18 : List RV := [.tmp 4]
theorem ok18 : FnOk Try.prog 18 73 c18 r18 := ⟨_, _, Try.func18, rfl, rfl, by kernel_rfl, by kernel_rfl, by kernel_rfl⟩
/-- (*vouch/tx.Tx).Clone -/
def c19 : C := (.seq (.reg [⟨(some 2), (.mv (.const (.pointer none))), none⟩])
 (.seq (.seq (.reg [⟨(some 3), (.mv (.tmp 0)), none⟩,
 ⟨(some 4), (.eqs false .ptr (.tmp 3) (.const (.pointer none))), none⟩])
 (.cond (.tmp 4) (.seq (.reg [⟨(some 2), (.mv (.const (.pointer none))), none⟩])
 .ret)
 .skip))
 (.seq (.draw [⟨⟨(some 5), (.mv (.tmp 0)), none⟩, .p⟩,
 ⟨⟨(some 6), (.nilc (.tmp 5)), none⟩, .p⟩,
 ⟨⟨(some 7), (.fa 0 (.tmp 6)), none⟩, .p⟩,
 ⟨⟨(some 8), (.ld none (.tmp 7)), none⟩, .l⟩,
 ⟨⟨(some 9), (.mv (.tmp 0)), none⟩, .p⟩,
 ⟨⟨(some 10), (.nilc (.tmp 9)), none⟩, .p⟩,
 ⟨⟨(some 11), (.fa 1 (.tmp 10)), none⟩, .p⟩,
 ⟨⟨(some 12), (.ld none (.tmp 11)), none⟩, .l⟩,
 ⟨⟨(some 13), (.mv (.tmp 0)), none⟩, .p⟩,
 ⟨⟨(some 14), (.call 15 [(.tmp 13)]), none⟩, .g⟩,
 ⟨⟨(some 15), (.bld [.int .i64 (0), .int .i64 (0), .int .i64 (0), .int .i64 (0), .int .i64 (0), .int .i64 (0), .string ⟨#[]⟩, .int .i64 (0), .int .i64 (0), .slice none 0 0] [(0, 1, (.tmp 8)), (1, 1, (.tmp 12)), (2, 8, (.tmp 14))]), none⟩, .p⟩,
 ⟨⟨(some 16), (.box 67 (.tmp 15)), none⟩, .f⟩,
 ⟨⟨(some 2), (.mv (.tmp 16)), none⟩, .p⟩])
 .ret)))
def r19 : List RV := [.tmp 2]
theorem ok19 : FnOk Try.prog 19 17 c19 r19 := ⟨_, _, Try.func19, rfl, rfl, by kernel_rfl, by kernel_rfl, by kernel_rfl⟩
/-- vouch/vouchlaw17.text -/
def c20 : C := (.seq (.reg [⟨(some 2), (.new 26 [.bool false, .string ⟨#[]⟩]), none⟩])
 (.seq (.reg [⟨(some 3), (.mv (.tmp 0)), none⟩,
 ⟨(some 4), (.bld [.bool false, .string ⟨#[]⟩] [(0, 1, (.const (.bool true))), (1, 1, (.tmp 3))]), none⟩,
 ⟨none, (.st 2 (.tmp 2) (.tmp 4)), none⟩])
 .ret))
def r20 : List RV := [.agg 2 2]
theorem ok20 : FnOk Try.prog 20 5 c20 r20 := ⟨_, _, Try.func20, rfl, rfl, by kernel_rfl, by kernel_rfl, by kernel_rfl⟩
/-- (*vouch/tx.Tx).busy -/
def c21 : C := (.seq (.reg [⟨(some 2), (.mv (.const (.bool false))), none⟩])
 (.seq (.reg [⟨(some 3), (.mv (.tmp 0)), none⟩,
 ⟨(some 4), (.nilc (.tmp 3)), none⟩,
 ⟨(some 5), (.fa 2 (.tmp 4)), none⟩,
 ⟨(some 6), (.fa 0 (.tmp 5)), none⟩,
 ⟨(some 7), (.ld none (.tmp 6)), none⟩,
 ⟨(some 8), (.bin .eql (.tmp 7) (.const (.int .i64 1))), none⟩,
 ⟨(some 9), (.mv (.tmp 8)), none⟩,
 ⟨(some 10), (.mv (.tmp 0)), (some (9, false))⟩,
 ⟨(some 11), (.nilc (.tmp 10)), (some (9, false))⟩,
 ⟨(some 12), (.fa 2 (.tmp 11)), (some (9, false))⟩,
 ⟨(some 13), (.fa 0 (.tmp 12)), (some (9, false))⟩,
 ⟨(some 14), (.ld none (.tmp 13)), (some (9, false))⟩,
 ⟨(some 15), (.bin .eql (.tmp 14) (.const (.int .i64 2))), (some (9, false))⟩,
 ⟨(some 16), (.pick (.tmp 9) (.const (.bool true)) (.tmp 15)), none⟩,
 ⟨(some 2), (.mv (.tmp 16)), none⟩])
 .ret))
def r21 : List RV := [.tmp 2]
theorem ok21 : FnOk Try.prog 21 17 c21 r21 := ⟨_, _, Try.func21, rfl, rfl, by kernel_rfl, by kernel_rfl, by kernel_rfl⟩
/-- (*vouch/tx.Tx).ask -/
def c22 : C := (.seq (.reg [⟨(some 6), (.new 33 [.int .i64 (0), .int .i64 (0), .int .i64 (0), .int .i64 (0), .int .i64 (0), .int .i64 (0), .string ⟨#[]⟩, .int .i64 (0), .int .i64 (0), .bool false, .string ⟨#[]⟩, .bool false, .int .i64 (0), .int .i64 (0), .slice none 0 0, .slice none 0 0]), none⟩])
 (.seq (.reg [⟨(some 7), (.mv (.tmp 0)), none⟩,
 ⟨(some 8), (.mv (.tmp 0)), none⟩,
 ⟨(some 9), (.mv (.tmp 0)), none⟩,
 ⟨(some 10), (.mv (.tmp 1)), none⟩,
 ⟨(some 11), (.mv (.tmp 2)), none⟩,
 ⟨(some 12), (.nilc (.tmp 7)), none⟩,
 ⟨(some 13), (.fa 2 (.tmp 12)), none⟩,
 ⟨(some 14), (.fa 0 (.tmp 13)), none⟩,
 ⟨none, (.st 1 (.tmp 14) (.tmp 10)), none⟩,
 ⟨(some 15), (.nilc (.tmp 8)), none⟩,
 ⟨(some 16), (.fa 2 (.tmp 15)), none⟩,
 ⟨(some 17), (.fa 4 (.tmp 16)), none⟩,
 ⟨none, (.st 1 (.tmp 17) (.tmp 11)), none⟩,
 ⟨(some 18), (.nilc (.tmp 9)), none⟩,
 ⟨(some 19), (.fa 2 (.tmp 18)), none⟩,
 ⟨(some 20), (.fa 6 (.tmp 19)), none⟩,
 ⟨none, (.st 1 (.tmp 20) (.const (.int .i64 0))), none⟩])
 (.seq (.reg [⟨(some 21), (.mv (.tmp 0)), none⟩,
 ⟨(some 22), (.nilc (.tmp 21)), none⟩,
 ⟨(some 23), (.fa 2 (.tmp 22)), none⟩,
 ⟨(some 24), (.fa 5 (.tmp 23)), none⟩,
 ⟨(some 25), (.ld none (.tmp 24)), none⟩,
 ⟨(some 26), (.bin .add (.tmp 25) (.const (.int .i64 1))), none⟩,
 ⟨(some 27), (.nilc (.tmp 21)), none⟩,
 ⟨(some 28), (.fa 2 (.tmp 27)), none⟩,
 ⟨(some 29), (.fa 5 (.tmp 28)), none⟩,
 ⟨none, (.st 1 (.tmp 29) (.tmp 26)), none⟩])
 (.seq (.reg [⟨(some 30), (.mv (.tmp 0)), none⟩,
 ⟨(some 31), (.call 23 [(.tmp 30)]), none⟩,
 ⟨none, (.st 16 (.tmp 6) (.tmp 31)), none⟩])
 .ret))))
def r22 : List RV := [.agg 6 16]
theorem ok22 : FnOk Try.prog 22 32 c22 r22 := ⟨_, _, Try.func22, rfl, rfl, by kernel_rfl, by kernel_rfl, by kernel_rfl⟩
/-- (*vouch/tx.Tx).message -/
def c23 : C := (.seq (.reg [⟨(some 2), (.new 33 [.int .i64 (0), .int .i64 (0), .int .i64 (0), .int .i64 (0), .int .i64 (0), .int .i64 (0), .string ⟨#[]⟩, .int .i64 (0), .int .i64 (0), .bool false, .string ⟨#[]⟩, .bool false, .int .i64 (0), .int .i64 (0), .slice none 0 0, .slice none 0 0]), none⟩])
 (.seq (.draw [⟨⟨(some 4), (.mv (.tmp 0)), none⟩, .p⟩,
 ⟨⟨(some 5), (.nilc (.tmp 4)), none⟩, .p⟩,
 ⟨⟨(some 6), (.fa 0 (.tmp 5)), none⟩, .p⟩,
 ⟨⟨(some 7), (.ld none (.tmp 6)), none⟩, .l⟩,
 ⟨⟨(some 8), (.mv (.tmp 0)), none⟩, .p⟩,
 ⟨⟨(some 9), (.nilc (.tmp 8)), none⟩, .p⟩,
 ⟨⟨(some 10), (.fa 2 (.tmp 9)), none⟩, .p⟩,
 ⟨⟨(some 11), (.fa 5 (.tmp 10)), none⟩, .p⟩,
 ⟨⟨(some 12), (.ld none (.tmp 11)), none⟩, .l⟩,
 ⟨⟨(some 13), (.mv (.tmp 0)), none⟩, .p⟩,
 ⟨⟨(some 14), (.nilc (.tmp 13)), none⟩, .p⟩,
 ⟨⟨(some 15), (.fa 2 (.tmp 14)), none⟩, .p⟩,
 ⟨⟨(some 16), (.fa 4 (.tmp 15)), none⟩, .p⟩,
 ⟨⟨(some 17), (.ld none (.tmp 16)), none⟩, .l⟩,
 ⟨⟨(some 18), (.mv (.tmp 0)), none⟩, .p⟩,
 ⟨⟨(some 19), (.nilc (.tmp 18)), none⟩, .p⟩,
 ⟨⟨(some 20), (.fa 2 (.tmp 19)), none⟩, .p⟩,
 ⟨⟨(some 21), (.fa 2 (.tmp 20)), none⟩, .p⟩,
 ⟨⟨(some 22), (.ld (some 2) (.tmp 21)), none⟩, .l⟩,
 ⟨⟨(some 23), (.bld [.int .i64 (0), .int .i64 (0), .int .i64 (0), .int .i64 (0), .int .i64 (0), .int .i64 (0), .string ⟨#[]⟩, .int .i64 (0), .int .i64 (0), .bool false, .string ⟨#[]⟩, .bool false, .int .i64 (0), .int .i64 (0), .slice none 0 0, .slice none 0 0] [(0, 1, (.const (.int .i64 5))), (4, 1, (.tmp 7)), (5, 1, (.tmp 12)), (6, 1, (.tmp 17)), (7, 2, (.tmp 22))]), none⟩, .p⟩,
 ⟨⟨(some 3), (.new 33 [.int .i64 (0), .int .i64 (0), .int .i64 (0), .int .i64 (0), .int .i64 (0), .int .i64 (0), .string ⟨#[]⟩, .int .i64 (0), .int .i64 (0), .bool false, .string ⟨#[]⟩, .bool false, .int .i64 (0), .int .i64 (0), .slice none 0 0, .slice none 0 0]), none⟩, .f⟩,
 ⟨⟨none, (.st 16 (.tmp 3) (.tmp 23)), none⟩, .m⟩])
 (.seq (.seq (.reg [⟨(some 24), (.mv (.tmp 0)), none⟩,
 ⟨(some 25), (.nilc (.tmp 24)), none⟩,
 ⟨(some 26), (.fa 2 (.tmp 25)), none⟩,
 ⟨(some 27), (.fa 0 (.tmp 26)), none⟩,
 ⟨(some 28), (.ld none (.tmp 27)), none⟩,
 ⟨(some 29), (.bin .eql (.tmp 28) (.const (.int .i64 1))), none⟩])
 (.cond (.tmp 29) (.draw [⟨⟨(some 30), (.fa 6 (.tmp 3)), none⟩, .p⟩,
 ⟨⟨(some 31), (.ld none (.tmp 30)), none⟩, .l⟩,
 ⟨⟨(some 32), (.mv (.tmp 0)), none⟩, .p⟩,
 ⟨⟨(some 33), (.nilc (.tmp 32)), none⟩, .p⟩,
 ⟨⟨(some 34), (.fa 1 (.tmp 33)), none⟩, .p⟩,
 ⟨⟨(some 35), (.ld none (.tmp 34)), none⟩, .l⟩,
 ⟨⟨(some 36), (.call 33 [(.tmp 31), (.tmp 35)]), none⟩, .m⟩,
 ⟨⟨(some 37), (.fa 0 (.tmp 3)), none⟩, .p⟩,
 ⟨⟨none, (.st 1 (.tmp 37) (.const (.int .i64 3))), none⟩, .m⟩,
 ⟨⟨(some 38), (.fa 1 (.tmp 3)), none⟩, .p⟩,
 ⟨⟨none, (.st 1 (.tmp 38) (.tmp 36)), none⟩, .m⟩])
 .skip))
 (.seq (.reg [⟨(some 39), (.ld (some 16) (.tmp 3)), none⟩,
 ⟨none, (.st 16 (.tmp 2) (.tmp 39)), none⟩])
 .ret))))
def r23 : List RV := [.agg 2 16]
theorem ok23 : FnOk Try.prog 23 40 c23 r23 := ⟨_, _, Try.func23, rfl, rfl, by kernel_rfl, by kernel_rfl, by kernel_rfl⟩
/-- (*vouch/tx.Tx).rest -/
def c24 : C := (.reg [⟨(some 6), (.mv (.tmp 0)), none⟩,
 ⟨(some 7), (.mv (.tmp 0)), none⟩,
 ⟨(some 8), (.mv (.tmp 0)), none⟩,
 ⟨(some 9), (.mv (.tmp 0)), none⟩,
 ⟨(some 10), (.mv (.tmp 1)), none⟩,
 ⟨(some 11), (.mv (.tmp 2)), none⟩,
 ⟨(some 12), (.nilc (.tmp 6)), none⟩,
 ⟨(some 13), (.fa 2 (.tmp 12)), none⟩,
 ⟨(some 14), (.fa 0 (.tmp 13)), none⟩,
 ⟨none, (.st 1 (.tmp 14) (.tmp 10)), none⟩,
 ⟨(some 15), (.nilc (.tmp 7)), none⟩,
 ⟨(some 16), (.fa 2 (.tmp 15)), none⟩,
 ⟨(some 17), (.fa 1 (.tmp 16)), none⟩,
 ⟨none, (.st 1 (.tmp 17) (.tmp 11)), none⟩,
 ⟨(some 18), (.nilc (.tmp 8)), none⟩,
 ⟨(some 19), (.fa 2 (.tmp 18)), none⟩,
 ⟨(some 20), (.fa 4 (.tmp 19)), none⟩,
 ⟨none, (.st 1 (.tmp 20) (.const (.string { data := #[] }))), none⟩,
 ⟨(some 21), (.nilc (.tmp 9)), none⟩,
 ⟨(some 22), (.fa 2 (.tmp 21)), none⟩,
 ⟨(some 23), (.fa 6 (.tmp 22)), none⟩,
 ⟨none, (.st 1 (.tmp 23) (.const (.int .i64 0))), none⟩])
def r24 : List RV := []
theorem ok24 : FnOk Try.prog 24 24 c24 r24 := ⟨_, _, Try.func24, rfl, rfl, by kernel_rfl, by kernel_rfl, by kernel_rfl⟩
/-- (*vouch/tx.Tx).take -/
def c25 : C := (.seq (.reg [⟨(some 4), (.box 26 (.tmp 1)), none⟩,
 ⟨(some 5), (.box 28 (.tmp 2)), none⟩,
 ⟨(some 6), (.mv (.const (.bool false))), none⟩])
 (.seq (.draw [⟨⟨(some 10), (.mv (.tmp 0)), none⟩, .p⟩,
 ⟨⟨(some 11), (.nilc (.tmp 10)), none⟩, .p⟩,
 ⟨⟨(some 12), (.fa 2 (.tmp 11)), none⟩, .p⟩,
 ⟨⟨(some 13), (.fa 2 (.tmp 12)), none⟩, .p⟩,
 ⟨⟨(some 14), (.ld (some 2) (.tmp 13)), none⟩, .l⟩,
 ⟨⟨(some 15), (.fa 0 (.tmp 5)), none⟩, .p⟩,
 ⟨⟨(some 16), (.ld none (.tmp 15)), none⟩, .l⟩,
 ⟨⟨(some 17), (.fa 1 (.tmp 5)), none⟩, .p⟩,
 ⟨⟨(some 18), (.ld none (.tmp 17)), none⟩, .l⟩,
 ⟨⟨(some 19), (.call 35 [(.tmp 16), (.tmp 18)]), none⟩, .g⟩,
 ⟨⟨(some 20), (.call 34 [(.tmp 14), (.tmp 19)]), none⟩, .g⟩,
 ⟨⟨(some 9), (.mv (.tmp 20)), none⟩, .p⟩,
 ⟨⟨(some 21), (.ext 0 (.tmp 9)), none⟩, .p⟩,
 ⟨⟨(some 22), (.ext 1 (.tmp 9)), none⟩, .p⟩,
 ⟨⟨(some 7), (.new 28 [.int .i64 (0), .int .i64 (0)]), none⟩, .f⟩,
 ⟨⟨none, (.st 2 (.tmp 7) (.tmp 21)), none⟩, .m⟩,
 ⟨⟨(some 8), (.mv (.tmp 22)), none⟩, .p⟩])
 (.seq (.seq (.reg [⟨(some 23), (.mv (.tmp 8)), none⟩])
 (.cond (.tmp 23) (.seq (.reg [⟨(some 24), (.mv (.tmp 0)), none⟩,
 ⟨(some 25), (.ld (some 2) (.tmp 7)), none⟩,
 ⟨(some 26), (.nilc (.tmp 24)), none⟩,
 ⟨(some 27), (.fa 2 (.tmp 26)), none⟩,
 ⟨(some 28), (.fa 2 (.tmp 27)), none⟩,
 ⟨none, (.st 2 (.tmp 28) (.tmp 25)), none⟩])
 (.seq (.draw [⟨⟨(some 29), (.mv (.tmp 0)), none⟩, .p⟩,
 ⟨⟨(some 30), (.mv (.tmp 0)), none⟩, .p⟩,
 ⟨⟨(some 31), (.nilc (.tmp 30)), none⟩, .p⟩,
 ⟨⟨(some 32), (.fa 2 (.tmp 31)), none⟩, .p⟩,
 ⟨⟨(some 33), (.fa 7 (.tmp 32)), none⟩, .p⟩,
 ⟨⟨(some 34), (.ld none (.tmp 33)), none⟩, .l⟩,
 ⟨⟨(some 35), (.mv (.tmp 0)), none⟩, .p⟩,
 ⟨⟨(some 36), (.nilc (.tmp 35)), none⟩, .p⟩,
 ⟨⟨(some 37), (.fa 2 (.tmp 36)), none⟩, .p⟩,
 ⟨⟨(some 38), (.fa 4 (.tmp 37)), none⟩, .p⟩,
 ⟨⟨(some 39), (.ld none (.tmp 38)), none⟩, .l⟩,
 ⟨⟨(some 40), (.ld (some 2) (.tmp 4)), none⟩, .l⟩,
 ⟨⟨(some 41), (.bld [.string ⟨#[]⟩, .bool false, .string ⟨#[]⟩] [(0, 1, (.tmp 39)), (1, 2, (.tmp 40))]), none⟩, .p⟩,
 ⟨⟨(some 42), (.lit 60 1 3 [.string ⟨#[]⟩, .bool false, .string ⟨#[]⟩] [(0, 3, (.tmp 41))]), none⟩, .f⟩,
 ⟨⟨(some 43), (.app 60 3 40 (.tmp 34) (.tmp 42)), none⟩, .m⟩,
 ⟨⟨(some 44), (.nilc (.tmp 29)), none⟩, .p⟩,
 ⟨⟨(some 45), (.fa 2 (.tmp 44)), none⟩, .p⟩,
 ⟨⟨(some 46), (.fa 7 (.tmp 45)), none⟩, .p⟩,
 ⟨⟨none, (.st 1 (.tmp 46) (.tmp 43)), none⟩, .m⟩])
 (.reg [⟨(some 47), (.mv (.tmp 0)), none⟩,
 ⟨(some 48), (.call 24 [(.tmp 47), (.const (.int .i64 0)), (.const (.int .i64 0))]), none⟩])))
 .skip))
 (.seq (.reg [⟨(some 49), (.mv (.tmp 8)), none⟩,
 ⟨(some 6), (.mv (.tmp 49)), none⟩])
 .ret))))
def r25 : List RV := [.tmp 6]
theorem ok25 : FnOk Try.prog 25 50 c25 r25 := ⟨_, _, Try.func25, rfl, rfl, by kernel_rfl, by kernel_rfl, by kernel_rfl⟩
/-- slices.Clone[[]vouch/api.Got,vouch/api.Got] -/
def c26 : C := (.seq (.reg [⟨(some 2), (.mv (.const (.slice none 0 0))), none⟩])
 (.seq (.seq (.reg [⟨(some 3), (.mv (.tmp 0)), none⟩,
 ⟨(some 4), (.eqs false .slice (.tmp 3) (.const (.slice none 0 0))), none⟩])
 (.cond (.tmp 4) (.seq (.reg [⟨(some 2), (.mv (.const (.slice none 0 0))), none⟩])
 .ret)
 .skip))
 (.seq (.reg [⟨(some 5), (.lit 60 0 3 [] []), none⟩,
 ⟨(some 6), (.mv (.tmp 0)), none⟩,
 ⟨(some 7), (.app 60 3 40 (.tmp 5) (.tmp 6)), none⟩,
 ⟨(some 2), (.mv (.tmp 7)), none⟩])
 .ret)))
def r26 : List RV := [.tmp 2]
theorem ok26 : FnOk Try.prog 26 8 c26 r26 := ⟨_, _, Try.func26, rfl, rfl, by kernel_rfl, by kernel_rfl, by kernel_rfl⟩
/-- vouch/vouchref09.Position -/
def c27 : C := (.seq (.reg [⟨(some 2), (.mv (.const (.int .i64 0))), none⟩])
 (.seq (.seq (.reg [⟨(some 3), (.mv (.tmp 0)), none⟩,
 ⟨(some 4), (.bin .lss (.tmp 3) (.const (.int .i64 0))), none⟩])
 (.cond (.tmp 4) (.seq (.reg [⟨(some 2), (.mv (.const (.int .i64 0))), none⟩])
 .ret)
 .skip))
 (.seq (.seq (.reg [⟨(some 5), (.mv (.tmp 0)), none⟩,
 ⟨(some 6), (.bin .gtr (.tmp 5) (.const (.int .i64 1099511627776))), none⟩])
 (.cond (.tmp 6) (.seq (.reg [⟨(some 2), (.mv (.const (.int .i64 1099511627776))), none⟩])
 .ret)
 .skip))
 (.seq (.reg [⟨(some 7), (.mv (.tmp 0)), none⟩,
 ⟨(some 2), (.mv (.tmp 7)), none⟩])
 .ret))))
def r27 : List RV := [.tmp 2]
theorem ok27 : FnOk Try.prog 27 8 c27 r27 := ⟨_, _, Try.func27, rfl, rfl, by kernel_rfl, by kernel_rfl, by kernel_rfl⟩
/-- (*vouch/vouchref17.Tx).Read -/
def c28 : C := (.seq (.reg [⟨(some 4), (.new 26 [.bool false, .string ⟨#[]⟩]), none⟩,
 ⟨(some 5), (.new 33 [.int .i64 (0), .int .i64 (0), .int .i64 (0), .int .i64 (0), .int .i64 (0), .int .i64 (0), .string ⟨#[]⟩, .int .i64 (0), .int .i64 (0), .bool false, .string ⟨#[]⟩, .bool false, .int .i64 (0), .int .i64 (0), .slice none 0 0, .slice none 0 0]), none⟩,
 ⟨(some 6), (.mv (.const (.int .i64 0))), none⟩])
 (.seq (.block 0 (.seq (.reg [⟨(some 9), (.mv (.tmp 0)), none⟩,
 ⟨(some 10), (.nilc (.tmp 9)), none⟩,
 ⟨(some 11), (.fa 2 (.tmp 10)), none⟩,
 ⟨(some 12), (.fa 0 (.tmp 11)), none⟩,
 ⟨(some 13), (.ld none (.tmp 12)), none⟩,
 ⟨(some 14), (.bin .gtr (.tmp 13) (.const (.int .i64 2))), none⟩,
 ⟨(some 8), (.mv (.tmp 14)), none⟩])
 (.cond (.tmp 8) (.seq (.reg [⟨(some 15), (.bld [.bool false, .string ⟨#[]⟩] []), none⟩,
 ⟨(some 16), (.bld [.int .i64 (0), .int .i64 (0), .int .i64 (0), .int .i64 (0), .int .i64 (0), .int .i64 (0), .string ⟨#[]⟩, .int .i64 (0), .int .i64 (0), .bool false, .string ⟨#[]⟩, .bool false, .int .i64 (0), .int .i64 (0), .slice none 0 0, .slice none 0 0] []), none⟩,
 ⟨none, (.st 2 (.tmp 4) (.tmp 15)), none⟩,
 ⟨none, (.st 16 (.tmp 5) (.tmp 16)), none⟩,
 ⟨(some 6), (.mv (.const (.int .i64 40))), none⟩])
 .ret)
 (.seq (.reg [⟨(some 18), (.mv (.tmp 0)), none⟩,
 ⟨(some 19), (.nilc (.tmp 18)), none⟩,
 ⟨(some 20), (.fa 2 (.tmp 19)), none⟩,
 ⟨(some 21), (.fa 0 (.tmp 20)), none⟩,
 ⟨(some 22), (.ld none (.tmp 21)), none⟩,
 ⟨(some 23), (.bin .gtr (.tmp 22) (.const (.int .i64 0))), none⟩,
 ⟨(some 17), (.mv (.tmp 23)), none⟩])
 (.cond (.tmp 17) (.seq (.reg [⟨(some 24), (.bld [.bool false, .string ⟨#[]⟩] []), none⟩,
 ⟨(some 25), (.bld [.int .i64 (0), .int .i64 (0), .int .i64 (0), .int .i64 (0), .int .i64 (0), .int .i64 (0), .string ⟨#[]⟩, .int .i64 (0), .int .i64 (0), .bool false, .string ⟨#[]⟩, .bool false, .int .i64 (0), .int .i64 (0), .slice none 0 0, .slice none 0 0] []), none⟩,
 ⟨none, (.st 2 (.tmp 4) (.tmp 24)), none⟩,
 ⟨none, (.st 16 (.tmp 5) (.tmp 25)), none⟩,
 ⟨(some 6), (.mv (.const (.int .i64 31))), none⟩])
 .ret)
 (.seq (.reg [⟨(some 27), (.mv (.tmp 1)), none⟩,
 ⟨(some 28), (.call 36 [(.tmp 27)]), none⟩,
 ⟨(some 29), (.nt (.tmp 28)), none⟩,
 ⟨(some 26), (.mv (.tmp 29)), none⟩])
 (.cond (.tmp 26) (.seq (.reg [⟨(some 30), (.bld [.bool false, .string ⟨#[]⟩] []), none⟩,
 ⟨(some 31), (.bld [.int .i64 (0), .int .i64 (0), .int .i64 (0), .int .i64 (0), .int .i64 (0), .int .i64 (0), .string ⟨#[]⟩, .int .i64 (0), .int .i64 (0), .bool false, .string ⟨#[]⟩, .bool false, .int .i64 (0), .int .i64 (0), .slice none 0 0, .slice none 0 0] []), none⟩,
 ⟨none, (.st 2 (.tmp 4) (.tmp 30)), none⟩,
 ⟨none, (.st 16 (.tmp 5) (.tmp 31)), none⟩,
 ⟨(some 6), (.mv (.const (.int .i64 1))), none⟩])
 .ret)
 .skip)))))))
 (.seq (.seq (.reg [⟨(some 7), (.mv (.const (.int .i64 0))), none⟩])
 (.block 1 (.loop (.seq (.seq (.reg [⟨(some 32), (.mv (.tmp 7)), none⟩,
 ⟨(some 33), (.mv (.tmp 0)), none⟩,
 ⟨(some 34), (.nilc (.tmp 33)), none⟩,
 ⟨(some 35), (.fa 2 (.tmp 34)), none⟩,
 ⟨(some 36), (.fa 7 (.tmp 35)), none⟩,
 ⟨(some 37), (.ld none (.tmp 36)), none⟩,
 ⟨(some 38), (.len true (.tmp 37)), none⟩,
 ⟨(some 39), (.bin .lss (.tmp 32) (.tmp 38)), none⟩])
 (.cond (.tmp 39) .skip
 (.exit 1)))
 (.seq (.block 2 (.seq (.reg [⟨(some 42), (.mv (.tmp 0)), none⟩,
 ⟨(some 43), (.nilc (.tmp 42)), none⟩,
 ⟨(some 44), (.fa 2 (.tmp 43)), none⟩,
 ⟨(some 45), (.fa 7 (.tmp 44)), none⟩,
 ⟨(some 46), (.ld none (.tmp 45)), none⟩,
 ⟨(some 47), (.mv (.tmp 7)), none⟩,
 ⟨(some 48), (.ia 3 (.tmp 46) (.tmp 47)), none⟩,
 ⟨(some 49), (.fa 0 (.tmp 48)), none⟩,
 ⟨(some 50), (.ld none (.tmp 49)), none⟩,
 ⟨(some 51), (.mv (.tmp 1)), none⟩,
 ⟨(some 52), (.bin .eql (.tmp 50) (.tmp 51)), none⟩])
 (.cond (.tmp 52) (.seq (.reg [⟨(some 53), (.mv (.tmp 0)), none⟩,
 ⟨(some 54), (.nilc (.tmp 53)), none⟩,
 ⟨(some 55), (.fa 2 (.tmp 54)), none⟩,
 ⟨(some 56), (.fa 7 (.tmp 55)), none⟩,
 ⟨(some 57), (.ld none (.tmp 56)), none⟩,
 ⟨(some 58), (.mv (.tmp 7)), none⟩,
 ⟨(some 59), (.ia 3 (.tmp 57) (.tmp 58)), none⟩,
 ⟨(some 60), (.fa 1 (.tmp 59)), none⟩,
 ⟨(some 61), (.ld (some 2) (.tmp 60)), none⟩,
 ⟨(some 62), (.bld [.int .i64 (0), .int .i64 (0), .int .i64 (0), .int .i64 (0), .int .i64 (0), .int .i64 (0), .string ⟨#[]⟩, .int .i64 (0), .int .i64 (0), .bool false, .string ⟨#[]⟩, .bool false, .int .i64 (0), .int .i64 (0), .slice none 0 0, .slice none 0 0] []), none⟩,
 ⟨none, (.st 2 (.tmp 4) (.tmp 61)), none⟩,
 ⟨none, (.st 16 (.tmp 5) (.tmp 62)), none⟩,
 ⟨(some 6), (.mv (.const (.int .i64 0))), none⟩])
 .ret)
 .skip)))
 (.reg [⟨(some 40), (.mv (.tmp 7)), none⟩,
 ⟨(some 41), (.bin .add (.tmp 40) (.const (.int .i64 1))), none⟩,
 ⟨(some 7), (.mv (.tmp 41)), none⟩]))))))
 (.seq (.reg [⟨(some 63), (.mv (.tmp 0)), none⟩,
 ⟨(some 64), (.mv (.tmp 1)), none⟩,
 ⟨(some 65), (.nilc (.tmp 63)), none⟩,
 ⟨(some 66), (.fa 2 (.tmp 65)), none⟩,
 ⟨(some 67), (.fa 4 (.tmp 66)), none⟩,
 ⟨none, (.st 1 (.tmp 67) (.tmp 64)), none⟩])
 (.seq (.reg [⟨(some 68), (.bld [.bool false, .string ⟨#[]⟩] []), none⟩,
 ⟨(some 69), (.mv (.tmp 0)), none⟩,
 ⟨(some 70), (.call 37 [(.tmp 69), (.const (.int .i64 1))]), none⟩,
 ⟨none, (.st 2 (.tmp 4) (.tmp 68)), none⟩,
 ⟨none, (.st 16 (.tmp 5) (.tmp 70)), none⟩,
 ⟨(some 6), (.mv (.const (.int .i64 0))), none⟩])
 .ret)))))
def r28 : List RV := [.agg 4 2, .agg 5 16, .tmp 6]
theorem ok28 : FnOk Try.prog 28 71 c28 r28 := ⟨_, _, Try.func28, rfl, rfl, by kernel_rfl, by kernel_rfl, by kernel_rfl⟩
/-- vouch/vouchref13.Same -/
def c29 : C := (.seq (.reg [⟨(some 2), (.box 33 (.tmp 0)), none⟩,
 ⟨(some 3), (.box 33 (.tmp 1)), none⟩,
 ⟨(some 4), (.mv (.const (.bool false))), none⟩])
 (.seq (.seq (.reg [⟨(some 6), (.fa 0 (.tmp 2)), none⟩,
 ⟨(some 7), (.ld none (.tmp 6)), none⟩,
 ⟨(some 8), (.fa 0 (.tmp 3)), none⟩,
 ⟨(some 9), (.ld none (.tmp 8)), none⟩,
 ⟨(some 10), (.bin .neq (.tmp 7) (.tmp 9)), none⟩,
 ⟨(some 11), (.mv (.tmp 10)), none⟩,
 ⟨(some 12), (.fa 1 (.tmp 2)), (some (11, false))⟩,
 ⟨(some 13), (.ld none (.tmp 12)), (some (11, false))⟩,
 ⟨(some 14), (.fa 1 (.tmp 3)), (some (11, false))⟩,
 ⟨(some 15), (.ld none (.tmp 14)), (some (11, false))⟩,
 ⟨(some 16), (.bin .neq (.tmp 13) (.tmp 15)), (some (11, false))⟩,
 ⟨(some 17), (.pick (.tmp 11) (.const (.bool true)) (.tmp 16)), none⟩,
 ⟨(some 18), (.mv (.tmp 17)), none⟩,
 ⟨(some 19), (.fa 2 (.tmp 2)), (some (18, false))⟩,
 ⟨(some 20), (.ld none (.tmp 19)), (some (18, false))⟩,
 ⟨(some 21), (.fa 2 (.tmp 3)), (some (18, false))⟩,
 ⟨(some 22), (.ld none (.tmp 21)), (some (18, false))⟩,
 ⟨(some 23), (.bin .neq (.tmp 20) (.tmp 22)), (some (18, false))⟩,
 ⟨(some 24), (.pick (.tmp 18) (.const (.bool true)) (.tmp 23)), none⟩,
 ⟨(some 25), (.mv (.tmp 24)), none⟩,
 ⟨(some 26), (.fa 3 (.tmp 2)), (some (25, false))⟩,
 ⟨(some 27), (.ld none (.tmp 26)), (some (25, false))⟩,
 ⟨(some 28), (.fa 3 (.tmp 3)), (some (25, false))⟩,
 ⟨(some 29), (.ld none (.tmp 28)), (some (25, false))⟩,
 ⟨(some 30), (.bin .neq (.tmp 27) (.tmp 29)), (some (25, false))⟩,
 ⟨(some 31), (.pick (.tmp 25) (.const (.bool true)) (.tmp 30)), none⟩,
 ⟨(some 32), (.mv (.tmp 31)), none⟩,
 ⟨(some 33), (.fa 4 (.tmp 2)), (some (32, false))⟩,
 ⟨(some 34), (.ld none (.tmp 33)), (some (32, false))⟩,
 ⟨(some 35), (.fa 4 (.tmp 3)), (some (32, false))⟩,
 ⟨(some 36), (.ld none (.tmp 35)), (some (32, false))⟩,
 ⟨(some 37), (.bin .neq (.tmp 34) (.tmp 36)), (some (32, false))⟩,
 ⟨(some 38), (.pick (.tmp 32) (.const (.bool true)) (.tmp 37)), none⟩,
 ⟨(some 39), (.mv (.tmp 38)), none⟩,
 ⟨(some 40), (.fa 5 (.tmp 2)), (some (39, false))⟩,
 ⟨(some 41), (.ld none (.tmp 40)), (some (39, false))⟩,
 ⟨(some 42), (.fa 5 (.tmp 3)), (some (39, false))⟩,
 ⟨(some 43), (.ld none (.tmp 42)), (some (39, false))⟩,
 ⟨(some 44), (.bin .neq (.tmp 41) (.tmp 43)), (some (39, false))⟩,
 ⟨(some 45), (.pick (.tmp 39) (.const (.bool true)) (.tmp 44)), none⟩,
 ⟨(some 46), (.mv (.tmp 45)), none⟩,
 ⟨(some 47), (.fa 6 (.tmp 2)), (some (46, false))⟩,
 ⟨(some 48), (.ld none (.tmp 47)), (some (46, false))⟩,
 ⟨(some 49), (.fa 6 (.tmp 3)), (some (46, false))⟩,
 ⟨(some 50), (.ld none (.tmp 49)), (some (46, false))⟩,
 ⟨(some 51), (.bin .neq (.tmp 48) (.tmp 50)), (some (46, false))⟩,
 ⟨(some 52), (.pick (.tmp 46) (.const (.bool true)) (.tmp 51)), none⟩,
 ⟨(some 53), (.mv (.tmp 52)), none⟩,
 ⟨(some 54), (.fa 7 (.tmp 2)), (some (53, false))⟩,
 ⟨(some 55), (.ld (some 2) (.tmp 54)), (some (53, false))⟩,
 ⟨(some 56), (.fa 7 (.tmp 3)), (some (53, false))⟩,
 ⟨(some 57), (.ld (some 2) (.tmp 56)), (some (53, false))⟩,
 ⟨(some 58), (.eqa true [.num, .num] (.tmp 55) (.tmp 57)), (some (53, false))⟩,
 ⟨(some 59), (.pick (.tmp 53) (.const (.bool true)) (.tmp 58)), none⟩,
 ⟨(some 60), (.mv (.tmp 59)), none⟩,
 ⟨(some 61), (.fa 9 (.tmp 2)), (some (60, false))⟩,
 ⟨(some 62), (.ld (some 2) (.tmp 61)), (some (60, false))⟩,
 ⟨(some 63), (.fa 9 (.tmp 3)), (some (60, false))⟩,
 ⟨(some 64), (.ld (some 2) (.tmp 63)), (some (60, false))⟩,
 ⟨(some 65), (.eqa true [.truth, .text] (.tmp 62) (.tmp 64)), (some (60, false))⟩,
 ⟨(some 66), (.pick (.tmp 60) (.const (.bool true)) (.tmp 65)), none⟩,
 ⟨(some 67), (.mv (.tmp 66)), none⟩,
 ⟨(some 68), (.fa 11 (.tmp 2)), (some (67, false))⟩,
 ⟨(some 69), (.ld none (.tmp 68)), (some (67, false))⟩,
 ⟨(some 70), (.fa 11 (.tmp 3)), (some (67, false))⟩,
 ⟨(some 71), (.ld none (.tmp 70)), (some (67, false))⟩,
 ⟨(some 72), (.eqs true .bool (.tmp 69) (.tmp 71)), (some (67, false))⟩,
 ⟨(some 73), (.pick (.tmp 67) (.const (.bool true)) (.tmp 72)), none⟩,
 ⟨(some 74), (.mv (.tmp 73)), none⟩,
 ⟨(some 75), (.fa 12 (.tmp 2)), (some (74, false))⟩,
 ⟨(some 76), (.ld none (.tmp 75)), (some (74, false))⟩,
 ⟨(some 77), (.fa 12 (.tmp 3)), (some (74, false))⟩,
 ⟨(some 78), (.ld none (.tmp 77)), (some (74, false))⟩,
 ⟨(some 79), (.bin .neq (.tmp 76) (.tmp 78)), (some (74, false))⟩,
 ⟨(some 80), (.pick (.tmp 74) (.const (.bool true)) (.tmp 79)), none⟩,
 ⟨(some 81), (.mv (.tmp 80)), none⟩,
 ⟨(some 82), (.fa 13 (.tmp 2)), (some (81, false))⟩,
 ⟨(some 83), (.ld none (.tmp 82)), (some (81, false))⟩,
 ⟨(some 84), (.fa 13 (.tmp 3)), (some (81, false))⟩,
 ⟨(some 85), (.ld none (.tmp 84)), (some (81, false))⟩,
 ⟨(some 86), (.bin .neq (.tmp 83) (.tmp 85)), (some (81, false))⟩,
 ⟨(some 87), (.pick (.tmp 81) (.const (.bool true)) (.tmp 86)), none⟩,
 ⟨(some 88), (.mv (.tmp 87)), none⟩,
 ⟨(some 89), (.fa 14 (.tmp 2)), (some (88, false))⟩,
 ⟨(some 90), (.ld none (.tmp 89)), (some (88, false))⟩,
 ⟨(some 91), (.len true (.tmp 90)), (some (88, false))⟩,
 ⟨(some 92), (.fa 14 (.tmp 3)), (some (88, false))⟩,
 ⟨(some 93), (.ld none (.tmp 92)), (some (88, false))⟩,
 ⟨(some 94), (.len true (.tmp 93)), (some (88, false))⟩,
 ⟨(some 95), (.bin .neq (.tmp 91) (.tmp 94)), (some (88, false))⟩,
 ⟨(some 96), (.pick (.tmp 88) (.const (.bool true)) (.tmp 95)), none⟩,
 ⟨(some 97), (.mv (.tmp 96)), none⟩,
 ⟨(some 98), (.fa 15 (.tmp 2)), (some (97, false))⟩,
 ⟨(some 99), (.ld none (.tmp 98)), (some (97, false))⟩,
 ⟨(some 100), (.len true (.tmp 99)), (some (97, false))⟩,
 ⟨(some 101), (.fa 15 (.tmp 3)), (some (97, false))⟩,
 ⟨(some 102), (.ld none (.tmp 101)), (some (97, false))⟩,
 ⟨(some 103), (.len true (.tmp 102)), (some (97, false))⟩,
 ⟨(some 104), (.bin .neq (.tmp 100) (.tmp 103)), (some (97, false))⟩,
 ⟨(some 105), (.pick (.tmp 97) (.const (.bool true)) (.tmp 104)), none⟩])
 (.cond (.tmp 105) (.seq (.reg [⟨(some 4), (.mv (.const (.bool false))), none⟩])
 .ret)
 .skip))
 (.seq (.seq (.reg [⟨(some 5), (.mv (.const (.int .i64 0))), none⟩])
 (.block 0 (.loop (.seq (.seq (.reg [⟨(some 106), (.mv (.tmp 5)), none⟩,
 ⟨(some 107), (.fa 14 (.tmp 2)), none⟩,
 ⟨(some 108), (.ld none (.tmp 107)), none⟩,
 ⟨(some 109), (.len true (.tmp 108)), none⟩,
 ⟨(some 110), (.bin .lss (.tmp 106) (.tmp 109)), none⟩])
 (.cond (.tmp 110) .skip
 (.exit 0)))
 (.seq (.block 1 (.seq (.draw [⟨⟨(some 113), (.fa 14 (.tmp 2)), none⟩, .p⟩,
 ⟨⟨(some 114), (.ld none (.tmp 113)), none⟩, .l⟩,
 ⟨⟨(some 115), (.mv (.tmp 5)), none⟩, .p⟩,
 ⟨⟨(some 116), (.ia 3 (.tmp 114) (.tmp 115)), none⟩, .p⟩,
 ⟨⟨(some 117), (.ld (some 3) (.tmp 116)), none⟩, .l⟩,
 ⟨⟨(some 118), (.fa 14 (.tmp 3)), none⟩, .p⟩,
 ⟨⟨(some 119), (.ld none (.tmp 118)), none⟩, .l⟩,
 ⟨⟨(some 120), (.mv (.tmp 5)), none⟩, .p⟩,
 ⟨⟨(some 121), (.ia 3 (.tmp 119) (.tmp 120)), none⟩, .p⟩,
 ⟨⟨(some 122), (.ld (some 3) (.tmp 121)), none⟩, .l⟩,
 ⟨⟨(some 123), (.eqa true [.text, .truth, .text] (.tmp 117) (.tmp 122)), none⟩, .p⟩])
 (.cond (.tmp 123) (.seq (.reg [⟨(some 4), (.mv (.const (.bool false))), none⟩])
 .ret)
 .skip)))
 (.reg [⟨(some 111), (.mv (.tmp 5)), none⟩,
 ⟨(some 112), (.bin .add (.tmp 111) (.const (.int .i64 1))), none⟩,
 ⟨(some 5), (.mv (.tmp 112)), none⟩]))))))
 (.seq (.reg [⟨(some 124), (.fa 15 (.tmp 2)), none⟩,
 ⟨(some 125), (.ld none (.tmp 124)), none⟩,
 ⟨(some 126), (.fa 15 (.tmp 3)), none⟩,
 ⟨(some 127), (.ld none (.tmp 126)), none⟩,
 ⟨(some 128), (.call 38 [(.tmp 125), (.tmp 127)]), none⟩,
 ⟨(some 4), (.mv (.tmp 128)), none⟩])
 .ret))))
def r29 : List RV := [.tmp 4]
theorem ok29 : FnOk Try.prog 29 129 c29 r29 := ⟨_, _, Try.func29, rfl, rfl, by kernel_rfl, by kernel_rfl, by kernel_rfl⟩
/-- (*vouch/vouchref17.Tx).Hear -/
def c30 : C := (.seq (.reg [⟨(some 3), (.box 33 (.tmp 1)), none⟩,
 ⟨(some 4), (.new 33 [.int .i64 (0), .int .i64 (0), .int .i64 (0), .int .i64 (0), .int .i64 (0), .int .i64 (0), .string ⟨#[]⟩, .int .i64 (0), .int .i64 (0), .bool false, .string ⟨#[]⟩, .bool false, .int .i64 (0), .int .i64 (0), .slice none 0 0, .slice none 0 0]), none⟩,
 ⟨(some 5), (.mv (.const (.bool false))), none⟩])
 (.seq (.reg [⟨(some 8), (.mv (.tmp 0)), none⟩,
 ⟨(some 9), (.nilc (.tmp 8)), none⟩,
 ⟨(some 10), (.fa 2 (.tmp 9)), none⟩,
 ⟨(some 11), (.fa 0 (.tmp 10)), none⟩,
 ⟨(some 12), (.ld none (.tmp 11)), none⟩,
 ⟨(some 13), (.bin .eql (.tmp 12) (.const (.int .i64 1))), none⟩,
 ⟨(some 14), (.mv (.tmp 13)), none⟩,
 ⟨(some 15), (.fa 0 (.tmp 3)), (some (14, true))⟩,
 ⟨(some 16), (.ld none (.tmp 15)), (some (14, true))⟩,
 ⟨(some 17), (.bin .eql (.tmp 16) (.const (.int .i64 4))), (some (14, true))⟩,
 ⟨(some 18), (.pick (.tmp 14) (.tmp 17) (.const (.bool false))), none⟩,
 ⟨(some 6), (.mv (.tmp 18)), none⟩])
 (.seq (.reg [⟨(some 19), (.mv (.tmp 0)), none⟩,
 ⟨(some 20), (.nilc (.tmp 19)), none⟩,
 ⟨(some 21), (.fa 2 (.tmp 20)), none⟩,
 ⟨(some 22), (.fa 0 (.tmp 21)), none⟩,
 ⟨(some 23), (.ld none (.tmp 22)), none⟩,
 ⟨(some 24), (.bin .eql (.tmp 23) (.const (.int .i64 2))), none⟩,
 ⟨(some 25), (.mv (.tmp 24)), none⟩,
 ⟨(some 26), (.fa 0 (.tmp 3)), (some (25, true))⟩,
 ⟨(some 27), (.ld none (.tmp 26)), (some (25, true))⟩,
 ⟨(some 28), (.bin .eql (.tmp 27) (.const (.int .i64 6))), (some (25, true))⟩,
 ⟨(some 29), (.pick (.tmp 25) (.tmp 28) (.const (.bool false))), none⟩,
 ⟨(some 7), (.mv (.tmp 29)), none⟩])
 (.seq (.seq (.draw [⟨⟨(some 30), (.mv (.tmp 6)), none⟩, .p⟩,
 ⟨⟨(some 31), (.nt (.tmp 30)), none⟩, .p⟩,
 ⟨⟨(some 32), (.mv (.tmp 31)), none⟩, .p⟩,
 ⟨⟨(some 33), (.mv (.tmp 7)), (some (32, true))⟩, .p⟩,
 ⟨⟨(some 34), (.nt (.tmp 33)), (some (32, true))⟩, .p⟩,
 ⟨⟨(some 35), (.pick (.tmp 32) (.tmp 34) (.const (.bool false))), none⟩, .p⟩,
 ⟨⟨(some 36), (.mv (.tmp 35)), none⟩, .p⟩,
 ⟨⟨(some 37), (.fa 4 (.tmp 3)), (some (36, false))⟩, .p⟩,
 ⟨⟨(some 38), (.ld none (.tmp 37)), (some (36, false))⟩, .l⟩,
 ⟨⟨(some 39), (.mv (.tmp 0)), (some (36, false))⟩, .p⟩,
 ⟨⟨(some 40), (.nilc (.tmp 39)), (some (36, false))⟩, .p⟩,
 ⟨⟨(some 41), (.fa 0 (.tmp 40)), (some (36, false))⟩, .p⟩,
 ⟨⟨(some 42), (.ld none (.tmp 41)), (some (36, false))⟩, .l⟩,
 ⟨⟨(some 43), (.bin .neq (.tmp 38) (.tmp 42)), (some (36, false))⟩, .p⟩,
 ⟨⟨(some 44), (.pick (.tmp 36) (.const (.bool true)) (.tmp 43)), none⟩, .p⟩,
 ⟨⟨(some 45), (.mv (.tmp 44)), none⟩, .p⟩,
 ⟨⟨(some 46), (.fa 5 (.tmp 3)), (some (45, false))⟩, .p⟩,
 ⟨⟨(some 47), (.ld none (.tmp 46)), (some (45, false))⟩, .l⟩,
 ⟨⟨(some 48), (.mv (.tmp 0)), (some (45, false))⟩, .p⟩,
 ⟨⟨(some 49), (.nilc (.tmp 48)), (some (45, false))⟩, .p⟩,
 ⟨⟨(some 50), (.fa 2 (.tmp 49)), (some (45, false))⟩, .p⟩,
 ⟨⟨(some 51), (.fa 5 (.tmp 50)), (some (45, false))⟩, .p⟩,
 ⟨⟨(some 52), (.ld none (.tmp 51)), (some (45, false))⟩, .l⟩,
 ⟨⟨(some 53), (.bin .neq (.tmp 47) (.tmp 52)), (some (45, false))⟩, .p⟩,
 ⟨⟨(some 54), (.pick (.tmp 45) (.const (.bool true)) (.tmp 53)), none⟩, .p⟩])
 (.cond (.tmp 54) (.seq (.reg [⟨(some 55), (.bld [.int .i64 (0), .int .i64 (0), .int .i64 (0), .int .i64 (0), .int .i64 (0), .int .i64 (0), .string ⟨#[]⟩, .int .i64 (0), .int .i64 (0), .bool false, .string ⟨#[]⟩, .bool false, .int .i64 (0), .int .i64 (0), .slice none 0 0, .slice none 0 0] []), none⟩,
 ⟨none, (.st 16 (.tmp 4) (.tmp 55)), none⟩,
 ⟨(some 5), (.mv (.const (.bool false))), none⟩])
 .ret)
 .skip))
 (.seq (.seq (.reg [⟨(some 56), (.mv (.tmp 6)), none⟩])
 (.cond (.tmp 56) (.seq (.seq (.reg [⟨(some 57), (.fa 11 (.tmp 3)), none⟩,
 ⟨(some 58), (.ld none (.tmp 57)), none⟩,
 ⟨(some 59), (.mv (.tmp 58)), none⟩,
 ⟨(some 60), (.mv (.tmp 0)), (some (59, true))⟩,
 ⟨(some 61), (.ld (some 16) (.tmp 3)), (some (59, true))⟩,
 ⟨(some 62), (.call 39 [(.tmp 60), (.tmp 61)]), (some (59, true))⟩,
 ⟨(some 63), (.pick (.tmp 59) (.tmp 62) (.const (.bool false))), none⟩])
 (.cond (.tmp 63) (.seq (.reg [⟨(some 64), (.bld [.int .i64 (0), .int .i64 (0), .int .i64 (0), .int .i64 (0), .int .i64 (0), .int .i64 (0), .string ⟨#[]⟩, .int .i64 (0), .int .i64 (0), .bool false, .string ⟨#[]⟩, .bool false, .int .i64 (0), .int .i64 (0), .slice none 0 0, .slice none 0 0] []), none⟩,
 ⟨none, (.st 16 (.tmp 4) (.tmp 64)), none⟩,
 ⟨(some 5), (.mv (.const (.bool true))), none⟩])
 .ret)
 .skip))
 (.seq (.reg [⟨(some 65), (.mv (.tmp 0)), none⟩,
 ⟨(some 66), (.call 37 [(.tmp 65), (.const (.int .i64 2))]), none⟩,
 ⟨none, (.st 16 (.tmp 4) (.tmp 66)), none⟩,
 ⟨(some 5), (.mv (.const (.bool true))), none⟩])
 .ret))
 .skip))
 (.seq (.seq (.reg [⟨(some 67), (.fa 12 (.tmp 3)), none⟩,
 ⟨(some 68), (.ld none (.tmp 67)), none⟩,
 ⟨(some 69), (.bin .neq (.tmp 68) (.const (.int .i64 0))), none⟩])
 (.cond (.tmp 69) (.seq (.reg [⟨(some 70), (.mv (.tmp 0)), none⟩,
 ⟨(some 71), (.fa 12 (.tmp 3)), none⟩,
 ⟨(some 72), (.ld none (.tmp 71)), none⟩,
 ⟨(some 73), (.call 40 [(.tmp 70), (.const (.int .i64 4)), (.tmp 72)]), none⟩])
 (.seq (.reg [⟨(some 74), (.bld [.int .i64 (0), .int .i64 (0), .int .i64 (0), .int .i64 (0), .int .i64 (0), .int .i64 (0), .string ⟨#[]⟩, .int .i64 (0), .int .i64 (0), .bool false, .string ⟨#[]⟩, .bool false, .int .i64 (0), .int .i64 (0), .slice none 0 0, .slice none 0 0] []), none⟩,
 ⟨none, (.st 16 (.tmp 4) (.tmp 74)), none⟩,
 ⟨(some 5), (.mv (.const (.bool true))), none⟩])
 .ret))
 .skip))
 (.seq (.reg [⟨(some 75), (.bld [.int .i64 (0), .int .i64 (0), .int .i64 (0), .int .i64 (0), .int .i64 (0), .int .i64 (0), .string ⟨#[]⟩, .int .i64 (0), .int .i64 (0), .bool false, .string ⟨#[]⟩, .bool false, .int .i64 (0), .int .i64 (0), .slice none 0 0, .slice none 0 0] []), none⟩,
 ⟨(some 76), (.mv (.tmp 0)), none⟩,
 ⟨(some 77), (.ld (some 16) (.tmp 3)), none⟩,
 ⟨(some 78), (.call 39 [(.tmp 76), (.tmp 77)]), none⟩,
 ⟨none, (.st 16 (.tmp 4) (.tmp 75)), none⟩,
 ⟨(some 5), (.mv (.tmp 78)), none⟩])
 .ret)))))))
def r30 : List RV := [.agg 4 16, .tmp 5]
theorem ok30 : FnOk Try.prog 30 79 c30 r30 := ⟨_, _, Try.func30, rfl, rfl, by kernel_rfl, by kernel_rfl, by kernel_rfl⟩
/-- (*vouch/vouchref17.Tx).Again -/
def c31 : C := (.seq (.reg [⟨(some 4), (.new 33 [.int .i64 (0), .int .i64 (0), .int .i64 (0), .int .i64 (0), .int .i64 (0), .int .i64 (0), .string ⟨#[]⟩, .int .i64 (0), .int .i64 (0), .bool false, .string ⟨#[]⟩, .bool false, .int .i64 (0), .int .i64 (0), .slice none 0 0, .slice none 0 0]), none⟩,
 ⟨(some 5), (.mv (.const (.int .i64 0))), none⟩])
 (.seq (.seq (.reg [⟨(some 6), (.mv (.tmp 0)), none⟩,
 ⟨(some 7), (.nilc (.tmp 6)), none⟩,
 ⟨(some 8), (.fa 2 (.tmp 7)), none⟩,
 ⟨(some 9), (.fa 0 (.tmp 8)), none⟩,
 ⟨(some 10), (.ld none (.tmp 9)), none⟩,
 ⟨(some 11), (.bin .neq (.tmp 10) (.const (.int .i64 1))), none⟩,
 ⟨(some 12), (.mv (.tmp 11)), none⟩,
 ⟨(some 13), (.mv (.tmp 0)), (some (12, true))⟩,
 ⟨(some 14), (.nilc (.tmp 13)), (some (12, true))⟩,
 ⟨(some 15), (.fa 2 (.tmp 14)), (some (12, true))⟩,
 ⟨(some 16), (.fa 0 (.tmp 15)), (some (12, true))⟩,
 ⟨(some 17), (.ld none (.tmp 16)), (some (12, true))⟩,
 ⟨(some 18), (.bin .neq (.tmp 17) (.const (.int .i64 2))), (some (12, true))⟩,
 ⟨(some 19), (.pick (.tmp 12) (.tmp 18) (.const (.bool false))), none⟩])
 (.cond (.tmp 19) (.seq (.reg [⟨(some 20), (.bld [.int .i64 (0), .int .i64 (0), .int .i64 (0), .int .i64 (0), .int .i64 (0), .int .i64 (0), .string ⟨#[]⟩, .int .i64 (0), .int .i64 (0), .bool false, .string ⟨#[]⟩, .bool false, .int .i64 (0), .int .i64 (0), .slice none 0 0, .slice none 0 0] []), none⟩,
 ⟨none, (.st 16 (.tmp 4) (.tmp 20)), none⟩,
 ⟨(some 5), (.mv (.const (.int .i64 3))), none⟩])
 .ret)
 .skip))
 (.seq (.seq (.reg [⟨(some 21), (.mv (.tmp 0)), none⟩,
 ⟨(some 22), (.nilc (.tmp 21)), none⟩,
 ⟨(some 23), (.fa 2 (.tmp 22)), none⟩,
 ⟨(some 24), (.fa 6 (.tmp 23)), none⟩,
 ⟨(some 25), (.ld none (.tmp 24)), none⟩,
 ⟨(some 26), (.mv (.tmp 1)), none⟩,
 ⟨(some 27), (.bin .lss (.tmp 25) (.tmp 26)), none⟩])
 (.cond (.tmp 27) (.seq (.reg [⟨(some 28), (.mv (.tmp 0)), none⟩,
 ⟨(some 29), (.nilc (.tmp 28)), none⟩,
 ⟨(some 30), (.fa 2 (.tmp 29)), none⟩,
 ⟨(some 31), (.fa 6 (.tmp 30)), none⟩,
 ⟨(some 32), (.ld none (.tmp 31)), none⟩,
 ⟨(some 33), (.bin .add (.tmp 32) (.const (.int .i64 1))), none⟩,
 ⟨(some 34), (.nilc (.tmp 28)), none⟩,
 ⟨(some 35), (.fa 2 (.tmp 34)), none⟩,
 ⟨(some 36), (.fa 6 (.tmp 35)), none⟩,
 ⟨none, (.st 1 (.tmp 36) (.tmp 33)), none⟩])
 (.seq (.reg [⟨(some 37), (.mv (.tmp 0)), none⟩,
 ⟨(some 38), (.call 41 [(.tmp 37)]), none⟩,
 ⟨none, (.st 16 (.tmp 4) (.tmp 38)), none⟩,
 ⟨(some 5), (.mv (.const (.int .i64 0))), none⟩])
 .ret))
 .skip))
 (.seq (.seq (.reg [⟨(some 39), (.mv (.tmp 0)), none⟩,
 ⟨(some 40), (.nilc (.tmp 39)), none⟩,
 ⟨(some 41), (.fa 2 (.tmp 40)), none⟩,
 ⟨(some 42), (.fa 0 (.tmp 41)), none⟩,
 ⟨(some 43), (.ld none (.tmp 42)), none⟩,
 ⟨(some 44), (.bin .eql (.tmp 43) (.const (.int .i64 1))), none⟩])
 (.cond (.tmp 44) (.seq (.reg [⟨(some 45), (.mv (.tmp 0)), none⟩,
 ⟨(some 46), (.call 37 [(.tmp 45), (.const (.int .i64 2))]), none⟩,
 ⟨none, (.st 16 (.tmp 4) (.tmp 46)), none⟩,
 ⟨(some 5), (.mv (.const (.int .i64 0))), none⟩])
 .ret)
 .skip))
 (.seq (.reg [⟨(some 47), (.mv (.tmp 0)), none⟩,
 ⟨(some 48), (.call 40 [(.tmp 47), (.const (.int .i64 4)), (.const (.int .i64 41))]), none⟩])
 (.seq (.reg [⟨(some 49), (.bld [.int .i64 (0), .int .i64 (0), .int .i64 (0), .int .i64 (0), .int .i64 (0), .int .i64 (0), .string ⟨#[]⟩, .int .i64 (0), .int .i64 (0), .bool false, .string ⟨#[]⟩, .bool false, .int .i64 (0), .int .i64 (0), .slice none 0 0, .slice none 0 0] []), none⟩,
 ⟨none, (.st 16 (.tmp 4) (.tmp 49)), none⟩,
 ⟨(some 5), (.mv (.const (.int .i64 41))), none⟩])
 .ret))))))
def r31 : List RV := [.agg 4 16, .tmp 5]
theorem ok31 : FnOk Try.prog 31 50 c31 r31 := ⟨_, _, Try.func31, rfl, rfl, by kernel_rfl, by kernel_rfl, by kernel_rfl⟩
/-- (*vouch/vouchref17.Tx).Finish -/
def c32 : C := (.seq (.reg [⟨(some 2), (.mv (.const (.int .i64 0))), none⟩,
 ⟨(some 3), (.mv (.const (.int .i64 0))), none⟩])
 (.seq (.seq (.reg [⟨(some 4), (.mv (.tmp 0)), none⟩,
 ⟨(some 5), (.nilc (.tmp 4)), none⟩,
 ⟨(some 6), (.fa 2 (.tmp 5)), none⟩,
 ⟨(some 7), (.fa 0 (.tmp 6)), none⟩,
 ⟨(some 8), (.ld none (.tmp 7)), none⟩])
 (.block 0 (.seq (.seq (.reg [⟨(some 10), (.bin .eql (.tmp 8) (.const (.int .i64 1))), none⟩,
 ⟨(some 9), (.mv (.tmp 10)), none⟩])
 (.cond (.tmp 9) .skip
 (.reg [⟨(some 11), (.bin .eql (.tmp 8) (.const (.int .i64 2))), none⟩,
 ⟨(some 9), (.mv (.tmp 11)), none⟩])))
 (.cond (.tmp 9) (.seq (.reg [⟨(some 2), (.mv (.const (.int .i64 0))), none⟩,
 ⟨(some 3), (.mv (.const (.int .i64 31))), none⟩])
 .ret)
 (.seq (.reg [⟨(some 13), (.bin .eql (.tmp 8) (.const (.int .i64 3))), none⟩,
 ⟨(some 12), (.mv (.tmp 13)), none⟩])
 (.cond (.tmp 12) (.seq (.reg [⟨(some 2), (.mv (.const (.int .i64 0))), none⟩,
 ⟨(some 3), (.mv (.const (.int .i64 40))), none⟩])
 .ret)
 (.seq (.reg [⟨(some 15), (.bin .eql (.tmp 8) (.const (.int .i64 4))), none⟩,
 ⟨(some 14), (.mv (.tmp 15)), none⟩])
 (.cond (.tmp 14) (.seq (.draw [⟨⟨(some 16), (.mv (.tmp 0)), none⟩, .p⟩,
 ⟨⟨(some 17), (.nilc (.tmp 16)), none⟩, .p⟩,
 ⟨⟨(some 18), (.fa 2 (.tmp 17)), none⟩, .p⟩,
 ⟨⟨(some 19), (.fa 1 (.tmp 18)), none⟩, .p⟩,
 ⟨⟨(some 20), (.ld none (.tmp 19)), none⟩, .l⟩,
 ⟨⟨(some 2), (.mv (.const (.int .i64 0))), none⟩, .p⟩,
 ⟨⟨(some 3), (.mv (.tmp 20)), none⟩, .p⟩])
 .ret)
 .skip))))))))
 (.seq (.reg [⟨(some 21), (.mv (.tmp 0)), none⟩,
 ⟨(some 22), (.call 40 [(.tmp 21), (.const (.int .i64 3)), (.const (.int .i64 0))]), none⟩])
 (.seq (.seq (.reg [⟨(some 23), (.mv (.tmp 0)), none⟩,
 ⟨(some 24), (.nilc (.tmp 23)), none⟩,
 ⟨(some 25), (.fa 2 (.tmp 24)), none⟩,
 ⟨(some 26), (.fa 2 (.tmp 25)), none⟩,
 ⟨(some 27), (.fa 1 (.tmp 26)), none⟩,
 ⟨(some 28), (.ld none (.tmp 27)), none⟩,
 ⟨(some 29), (.bin .eql (.tmp 28) (.const (.int .i64 4611686018427387904))), none⟩])
 (.cond (.tmp 29) (.seq (.reg [⟨(some 30), (.mv (.tmp 0)), none⟩,
 ⟨(some 31), (.nilc (.tmp 30)), none⟩,
 ⟨(some 32), (.fa 2 (.tmp 31)), none⟩,
 ⟨(some 33), (.fa 2 (.tmp 32)), none⟩,
 ⟨(some 34), (.fa 0 (.tmp 33)), none⟩,
 ⟨(some 35), (.ld none (.tmp 34)), none⟩,
 ⟨(some 2), (.mv (.tmp 35)), none⟩,
 ⟨(some 3), (.mv (.const (.int .i64 0))), none⟩])
 .ret)
 .skip))
 (.seq (.reg [⟨(some 36), (.mv (.tmp 0)), none⟩,
 ⟨(some 37), (.nilc (.tmp 36)), none⟩,
 ⟨(some 38), (.fa 2 (.tmp 37)), none⟩,
 ⟨(some 39), (.fa 2 (.tmp 38)), none⟩,
 ⟨(some 40), (.fa 1 (.tmp 39)), none⟩,
 ⟨(some 41), (.ld none (.tmp 40)), none⟩,
 ⟨(some 42), (.bin .sub (.tmp 41) (.const (.int .i64 1))), none⟩,
 ⟨(some 2), (.mv (.tmp 42)), none⟩,
 ⟨(some 3), (.mv (.const (.int .i64 0))), none⟩])
 .ret)))))
def r32 : List RV := [.tmp 2, .tmp 3]
theorem ok32 : FnOk Try.prog 32 43 c32 r32 := ⟨_, _, Try.func32, rfl, rfl, by kernel_rfl, by kernel_rfl, by kernel_rfl⟩
/-- vouch/route.To -/
def c33 : C := (.seq (.reg [⟨(some 4), (.mv (.const (.int .i64 0))), none⟩])
 (.seq (.seq (.reg [⟨(some 5), (.mv (.tmp 1)), none⟩,
 ⟨(some 6), (.bin .lss (.tmp 5) (.const (.int .i64 1))), none⟩,
 ⟨(some 7), (.mv (.tmp 6)), none⟩,
 ⟨(some 8), (.mv (.tmp 1)), (some (7, false))⟩,
 ⟨(some 9), (.bin .gtr (.tmp 8) (.const (.int .i64 8))), (some (7, false))⟩,
 ⟨(some 10), (.pick (.tmp 7) (.const (.bool true)) (.tmp 9)), none⟩])
 (.cond (.tmp 10) (.seq (.reg [⟨(some 4), (.mv (.const (.int .i64 (-1)))), none⟩])
 .ret)
 .skip))
 (.seq (.reg [⟨(some 11), (.mv (.tmp 0)), none⟩,
 ⟨(some 12), (.call 42 [(.tmp 11)]), none⟩,
 ⟨(some 13), (.mv (.tmp 1)), none⟩,
 ⟨(some 14), (.conv .u64 (.tmp 13)), none⟩,
 ⟨(some 15), (.bin .rem (.tmp 12) (.tmp 14)), none⟩,
 ⟨(some 16), (.conv .i64 (.tmp 15)), none⟩,
 ⟨(some 4), (.mv (.tmp 16)), none⟩])
 .ret)))
def r33 : List RV := [.tmp 4]
theorem ok33 : FnOk Try.prog 33 17 c33 r33 := ⟨_, _, Try.func33, rfl, rfl, by kernel_rfl, by kernel_rfl, by kernel_rfl⟩
/-- vouch/fact.Narrow -/
def c34 : C := (.seq (.reg [⟨(some 2), (.box 28 (.tmp 0)), none⟩,
 ⟨(some 3), (.box 84 (.tmp 1)), none⟩,
 ⟨(some 4), (.new 28 [.int .i64 (0), .int .i64 (0)]), none⟩,
 ⟨(some 5), (.mv (.const (.bool false))), none⟩])
 (.seq (.draw [⟨⟨(some 7), (.ld (some 2) (.tmp 2)), none⟩, .l⟩,
 ⟨⟨(some 8), (.call 43 [(.tmp 7)]), none⟩, .g⟩,
 ⟨⟨(some 9), (.ld (some 2) (.tmp 3)), none⟩, .l⟩,
 ⟨⟨(some 10), (.call 44 [(.tmp 8), (.tmp 9)]), none⟩, .g⟩,
 ⟨⟨(some 6), (.new 84 [.int .i64 (0), .int .i64 (0)]), none⟩, .f⟩,
 ⟨⟨none, (.st 2 (.tmp 6) (.tmp 10)), none⟩, .m⟩])
 (.seq (.draw [⟨⟨(some 11), (.fa 0 (.tmp 6)), none⟩, .p⟩,
 ⟨⟨(some 12), (.ld none (.tmp 11)), none⟩, .l⟩,
 ⟨⟨(some 13), (.fa 1 (.tmp 6)), none⟩, .p⟩,
 ⟨⟨(some 14), (.ld none (.tmp 13)), none⟩, .l⟩,
 ⟨⟨(some 15), (.bld [.int .i64 (0), .int .i64 (0)] [(0, 1, (.tmp 12)), (1, 1, (.tmp 14))]), none⟩, .p⟩,
 ⟨⟨(some 16), (.ld (some 2) (.tmp 6)), none⟩, .l⟩,
 ⟨⟨(some 17), (.call 45 [(.tmp 16)]), none⟩, .g⟩,
 ⟨⟨(some 18), (.nt (.tmp 17)), none⟩, .p⟩,
 ⟨⟨none, (.st 2 (.tmp 4) (.tmp 15)), none⟩, .m⟩,
 ⟨⟨(some 5), (.mv (.tmp 18)), none⟩, .p⟩])
 .ret)))
def r34 : List RV := [.agg 4 2, .tmp 5]
theorem ok34 : FnOk Try.prog 34 19 c34 r34 := ⟨_, _, Try.func34, rfl, rfl, by kernel_rfl, by kernel_rfl, by kernel_rfl⟩
/-- vouch/span.Of[int64] -/
def c35 : C := (.seq (.reg [⟨(some 4), (.new 84 [.int .i64 (0), .int .i64 (0)]), none⟩])
 (.seq (.seq (.reg [⟨(some 5), (.mv (.tmp 0)), none⟩,
 ⟨(some 6), (.mv (.tmp 1)), none⟩,
 ⟨(some 7), (.bin .geq (.tmp 5) (.tmp 6)), none⟩])
 (.cond (.tmp 7) (.seq (.reg [⟨(some 8), (.bld [.int .i64 (0), .int .i64 (0)] []), none⟩,
 ⟨none, (.st 2 (.tmp 4) (.tmp 8)), none⟩])
 .ret)
 .skip))
 (.seq (.reg [⟨(some 9), (.mv (.tmp 0)), none⟩,
 ⟨(some 10), (.mv (.tmp 1)), none⟩,
 ⟨(some 11), (.bld [.int .i64 (0), .int .i64 (0)] [(0, 1, (.tmp 9)), (1, 1, (.tmp 10))]), none⟩,
 ⟨none, (.st 2 (.tmp 4) (.tmp 11)), none⟩])
 .ret)))
def r35 : List RV := [.agg 4 2]
theorem ok35 : FnOk Try.prog 35 12 c35 r35 := ⟨_, _, Try.func35, rfl, rfl, by kernel_rfl, by kernel_rfl, by kernel_rfl⟩
/-- vouch/vouchref05.GoodKey -/
def c36 : C := (.seq (.reg [⟨(some 2), (.mv (.const (.bool false))), none⟩])
 (.seq (.reg [⟨(some 3), (.mv (.tmp 0)), none⟩,
 ⟨(some 4), (.bin .neq (.tmp 3) (.const (.string { data := #[] }))), none⟩,
 ⟨(some 5), (.mv (.tmp 4)), none⟩,
 ⟨(some 6), (.mv (.tmp 0)), (some (5, true))⟩,
 ⟨(some 7), (.len false (.tmp 6)), (some (5, true))⟩,
 ⟨(some 8), (.bin .leq (.tmp 7) (.const (.int .i64 32))), (some (5, true))⟩,
 ⟨(some 9), (.pick (.tmp 5) (.tmp 8) (.const (.bool false))), none⟩,
 ⟨(some 2), (.mv (.tmp 9)), none⟩])
 .ret))
def r36 : List RV := [.tmp 2]
theorem ok36 : FnOk Try.prog 36 10 c36 r36 := ⟨_, _, Try.func36, rfl, rfl, by kernel_rfl, by kernel_rfl, by kernel_rfl⟩
/-- (*vouch/vouchref17.Tx).asks -/
def c37 : C := (.seq (.reg [⟨(some 4), (.new 33 [.int .i64 (0), .int .i64 (0), .int .i64 (0), .int .i64 (0), .int .i64 (0), .int .i64 (0), .string ⟨#[]⟩, .int .i64 (0), .int .i64 (0), .bool false, .string ⟨#[]⟩, .bool false, .int .i64 (0), .int .i64 (0), .slice none 0 0, .slice none 0 0]), none⟩])
 (.seq (.reg [⟨(some 5), (.mv (.tmp 0)), none⟩,
 ⟨(some 6), (.mv (.tmp 1)), none⟩,
 ⟨(some 7), (.nilc (.tmp 5)), none⟩,
 ⟨(some 8), (.fa 2 (.tmp 7)), none⟩,
 ⟨(some 9), (.fa 0 (.tmp 8)), none⟩,
 ⟨none, (.st 1 (.tmp 9) (.tmp 6)), none⟩])
 (.seq (.reg [⟨(some 10), (.mv (.tmp 0)), none⟩,
 ⟨(some 11), (.nilc (.tmp 10)), none⟩,
 ⟨(some 12), (.fa 2 (.tmp 11)), none⟩,
 ⟨(some 13), (.fa 5 (.tmp 12)), none⟩,
 ⟨(some 14), (.ld none (.tmp 13)), none⟩,
 ⟨(some 15), (.bin .add (.tmp 14) (.const (.int .i64 1))), none⟩,
 ⟨(some 16), (.nilc (.tmp 10)), none⟩,
 ⟨(some 17), (.fa 2 (.tmp 16)), none⟩,
 ⟨(some 18), (.fa 5 (.tmp 17)), none⟩,
 ⟨none, (.st 1 (.tmp 18) (.tmp 15)), none⟩])
 (.seq (.reg [⟨(some 19), (.mv (.tmp 0)), none⟩,
 ⟨(some 20), (.nilc (.tmp 19)), none⟩,
 ⟨(some 21), (.fa 2 (.tmp 20)), none⟩,
 ⟨(some 22), (.fa 6 (.tmp 21)), none⟩,
 ⟨none, (.st 1 (.tmp 22) (.const (.int .i64 0))), none⟩])
 (.seq (.reg [⟨(some 23), (.mv (.tmp 0)), none⟩,
 ⟨(some 24), (.call 41 [(.tmp 23)]), none⟩,
 ⟨none, (.st 16 (.tmp 4) (.tmp 24)), none⟩])
 .ret)))))
def r37 : List RV := [.agg 4 16]
theorem ok37 : FnOk Try.prog 37 25 c37 r37 := ⟨_, _, Try.func37, rfl, rfl, by kernel_rfl, by kernel_rfl, by kernel_rfl⟩
/-- vouch/vouchref05.SameTexts -/
def c38 : C := (.seq (.reg [⟨(some 4), (.mv (.const (.bool false))), none⟩])
 (.seq (.seq (.reg [⟨(some 6), (.mv (.tmp 0)), none⟩,
 ⟨(some 7), (.len true (.tmp 6)), none⟩,
 ⟨(some 8), (.mv (.tmp 1)), none⟩,
 ⟨(some 9), (.len true (.tmp 8)), none⟩,
 ⟨(some 10), (.bin .neq (.tmp 7) (.tmp 9)), none⟩])
 (.cond (.tmp 10) (.seq (.reg [⟨(some 4), (.mv (.const (.bool false))), none⟩])
 .ret)
 .skip))
 (.seq (.seq (.reg [⟨(some 5), (.mv (.const (.int .i64 0))), none⟩])
 (.block 0 (.loop (.seq (.seq (.reg [⟨(some 11), (.mv (.tmp 5)), none⟩,
 ⟨(some 12), (.mv (.tmp 0)), none⟩,
 ⟨(some 13), (.len true (.tmp 12)), none⟩,
 ⟨(some 14), (.bin .lss (.tmp 11) (.tmp 13)), none⟩])
 (.cond (.tmp 14) .skip
 (.exit 0)))
 (.seq (.block 1 (.seq (.draw [⟨⟨(some 17), (.mv (.tmp 0)), none⟩, .p⟩,
 ⟨⟨(some 18), (.mv (.tmp 5)), none⟩, .p⟩,
 ⟨⟨(some 19), (.ia 1 (.tmp 17) (.tmp 18)), none⟩, .p⟩,
 ⟨⟨(some 20), (.ld none (.tmp 19)), none⟩, .l⟩,
 ⟨⟨(some 21), (.mv (.tmp 1)), none⟩, .p⟩,
 ⟨⟨(some 22), (.mv (.tmp 5)), none⟩, .p⟩,
 ⟨⟨(some 23), (.ia 1 (.tmp 21) (.tmp 22)), none⟩, .p⟩,
 ⟨⟨(some 24), (.ld none (.tmp 23)), none⟩, .l⟩,
 ⟨⟨(some 25), (.bin .neq (.tmp 20) (.tmp 24)), none⟩, .p⟩])
 (.cond (.tmp 25) (.seq (.reg [⟨(some 4), (.mv (.const (.bool false))), none⟩])
 .ret)
 .skip)))
 (.reg [⟨(some 15), (.mv (.tmp 5)), none⟩,
 ⟨(some 16), (.bin .add (.tmp 15) (.const (.int .i64 1))), none⟩,
 ⟨(some 5), (.mv (.tmp 16)), none⟩]))))))
 (.seq (.reg [⟨(some 4), (.mv (.const (.bool true))), none⟩])
 .ret))))
def r38 : List RV := [.tmp 4]
theorem ok38 : FnOk Try.prog 38 26 c38 r38 := ⟨_, _, Try.func38, rfl, rfl, by kernel_rfl, by kernel_rfl, by kernel_rfl⟩
/-- (*vouch/vouchref17.Tx).takes -/
def c39 : C := (.seq (.reg [⟨(some 3), (.box 33 (.tmp 1)), none⟩,
 ⟨(some 4), (.mv (.const (.bool false))), none⟩])
 (.seq (.draw [⟨⟨(some 8), (.mv (.tmp 0)), none⟩, .p⟩,
 ⟨⟨(some 9), (.nilc (.tmp 8)), none⟩, .p⟩,
 ⟨⟨(some 10), (.fa 2 (.tmp 9)), none⟩, .p⟩,
 ⟨⟨(some 11), (.fa 2 (.tmp 10)), none⟩, .p⟩,
 ⟨⟨(some 12), (.ld (some 2) (.tmp 11)), none⟩, .l⟩,
 ⟨⟨(some 13), (.fa 7 (.tmp 3)), none⟩, .p⟩,
 ⟨⟨(some 14), (.fa 0 (.tmp 13)), none⟩, .p⟩,
 ⟨⟨(some 15), (.ld none (.tmp 14)), none⟩, .l⟩,
 ⟨⟨(some 16), (.fa 7 (.tmp 3)), none⟩, .p⟩,
 ⟨⟨(some 17), (.fa 1 (.tmp 16)), none⟩, .p⟩,
 ⟨⟨(some 18), (.ld none (.tmp 17)), none⟩, .l⟩,
 ⟨⟨(some 19), (.call 47 [(.tmp 15), (.tmp 18)]), none⟩, .g⟩,
 ⟨⟨(some 20), (.call 46 [(.tmp 12), (.tmp 19)]), none⟩, .g⟩,
 ⟨⟨(some 7), (.mv (.tmp 20)), none⟩, .p⟩,
 ⟨⟨(some 21), (.ext 0 (.tmp 7)), none⟩, .p⟩,
 ⟨⟨(some 22), (.ext 1 (.tmp 7)), none⟩, .p⟩,
 ⟨⟨(some 5), (.new 28 [.int .i64 (0), .int .i64 (0)]), none⟩, .f⟩,
 ⟨⟨none, (.st 2 (.tmp 5) (.tmp 21)), none⟩, .m⟩,
 ⟨⟨(some 6), (.mv (.tmp 22)), none⟩, .p⟩])
 (.seq (.seq (.reg [⟨(some 23), (.mv (.tmp 6)), none⟩,
 ⟨(some 24), (.nt (.tmp 23)), none⟩])
 (.cond (.tmp 24) (.seq (.reg [⟨(some 4), (.mv (.const (.bool false))), none⟩])
 .ret)
 .skip))
 (.seq (.reg [⟨(some 25), (.mv (.tmp 0)), none⟩,
 ⟨(some 26), (.ld (some 2) (.tmp 5)), none⟩,
 ⟨(some 27), (.nilc (.tmp 25)), none⟩,
 ⟨(some 28), (.fa 2 (.tmp 27)), none⟩,
 ⟨(some 29), (.fa 2 (.tmp 28)), none⟩,
 ⟨none, (.st 2 (.tmp 29) (.tmp 26)), none⟩])
 (.seq (.draw [⟨⟨(some 30), (.mv (.tmp 0)), none⟩, .p⟩,
 ⟨⟨(some 31), (.lit 60 0 3 [] []), none⟩, .f⟩,
 ⟨⟨(some 32), (.mv (.tmp 0)), none⟩, .p⟩,
 ⟨⟨(some 33), (.nilc (.tmp 32)), none⟩, .p⟩,
 ⟨⟨(some 34), (.fa 2 (.tmp 33)), none⟩, .p⟩,
 ⟨⟨(some 35), (.fa 7 (.tmp 34)), none⟩, .p⟩,
 ⟨⟨(some 36), (.ld none (.tmp 35)), none⟩, .l⟩,
 ⟨⟨(some 37), (.app 60 3 40 (.tmp 31) (.tmp 36)), none⟩, .w⟩,
 ⟨⟨(some 38), (.mv (.tmp 0)), none⟩, .p⟩,
 ⟨⟨(some 39), (.nilc (.tmp 38)), none⟩, .p⟩,
 ⟨⟨(some 40), (.fa 2 (.tmp 39)), none⟩, .p⟩,
 ⟨⟨(some 41), (.fa 4 (.tmp 40)), none⟩, .p⟩,
 ⟨⟨(some 42), (.ld none (.tmp 41)), none⟩, .l⟩,
 ⟨⟨(some 43), (.fa 9 (.tmp 3)), none⟩, .p⟩,
 ⟨⟨(some 44), (.ld (some 2) (.tmp 43)), none⟩, .l⟩,
 ⟨⟨(some 45), (.bld [.string ⟨#[]⟩, .bool false, .string ⟨#[]⟩] [(0, 1, (.tmp 42)), (1, 2, (.tmp 44))]), none⟩, .p⟩,
 ⟨⟨(some 46), (.lit 60 1 3 [.string ⟨#[]⟩, .bool false, .string ⟨#[]⟩] [(0, 3, (.tmp 45))]), none⟩, .f⟩,
 ⟨⟨(some 47), (.app 60 3 40 (.tmp 37) (.tmp 46)), none⟩, .m⟩,
 ⟨⟨(some 48), (.nilc (.tmp 30)), none⟩, .p⟩,
 ⟨⟨(some 49), (.fa 2 (.tmp 48)), none⟩, .p⟩,
 ⟨⟨(some 50), (.fa 7 (.tmp 49)), none⟩, .p⟩,
 ⟨⟨none, (.st 1 (.tmp 50) (.tmp 47)), none⟩, .m⟩])
 (.seq (.reg [⟨(some 51), (.mv (.tmp 0)), none⟩,
 ⟨(some 52), (.call 40 [(.tmp 51), (.const (.int .i64 0)), (.const (.int .i64 0))]), none⟩])
 (.seq (.reg [⟨(some 4), (.mv (.const (.bool true))), none⟩])
 .ret)))))))
def r39 : List RV := [.tmp 4]
theorem ok39 : FnOk Try.prog 39 53 c39 r39 := ⟨_, _, Try.func39, rfl, rfl, by kernel_rfl, by kernel_rfl, by kernel_rfl⟩
/-- (*vouch/vouchref17.Tx).ends -/
def c40 : C := (.seq (.reg [⟨(some 6), (.mv (.tmp 0)), none⟩,
 ⟨(some 7), (.mv (.tmp 1)), none⟩,
 ⟨(some 8), (.nilc (.tmp 6)), none⟩,
 ⟨(some 9), (.fa 2 (.tmp 8)), none⟩,
 ⟨(some 10), (.fa 0 (.tmp 9)), none⟩,
 ⟨none, (.st 1 (.tmp 10) (.tmp 7)), none⟩])
 (.seq (.reg [⟨(some 11), (.mv (.tmp 0)), none⟩,
 ⟨(some 12), (.mv (.tmp 2)), none⟩,
 ⟨(some 13), (.nilc (.tmp 11)), none⟩,
 ⟨(some 14), (.fa 2 (.tmp 13)), none⟩,
 ⟨(some 15), (.fa 1 (.tmp 14)), none⟩,
 ⟨none, (.st 1 (.tmp 15) (.tmp 12)), none⟩])
 (.seq (.reg [⟨(some 16), (.mv (.tmp 0)), none⟩,
 ⟨(some 17), (.nilc (.tmp 16)), none⟩,
 ⟨(some 18), (.fa 2 (.tmp 17)), none⟩,
 ⟨(some 19), (.fa 4 (.tmp 18)), none⟩,
 ⟨none, (.st 1 (.tmp 19) (.const (.string { data := #[] }))), none⟩])
 (.reg [⟨(some 20), (.mv (.tmp 0)), none⟩,
 ⟨(some 21), (.nilc (.tmp 20)), none⟩,
 ⟨(some 22), (.fa 2 (.tmp 21)), none⟩,
 ⟨(some 23), (.fa 6 (.tmp 22)), none⟩,
 ⟨none, (.st 1 (.tmp 23) (.const (.int .i64 0))), none⟩]))))
def r40 : List RV := []
theorem ok40 : FnOk Try.prog 40 24 c40 r40 := ⟨_, _, Try.func40, rfl, rfl, by kernel_rfl, by kernel_rfl, by kernel_rfl⟩
/-- (*vouch/vouchref17.Tx).request -/
def c41 : C := (.seq (.reg [⟨(some 2), (.new 33 [.int .i64 (0), .int .i64 (0), .int .i64 (0), .int .i64 (0), .int .i64 (0), .int .i64 (0), .string ⟨#[]⟩, .int .i64 (0), .int .i64 (0), .bool false, .string ⟨#[]⟩, .bool false, .int .i64 (0), .int .i64 (0), .slice none 0 0, .slice none 0 0]), none⟩])
 (.seq (.seq (.reg [⟨(some 3), (.mv (.tmp 0)), none⟩,
 ⟨(some 4), (.nilc (.tmp 3)), none⟩,
 ⟨(some 5), (.fa 2 (.tmp 4)), none⟩,
 ⟨(some 6), (.fa 0 (.tmp 5)), none⟩,
 ⟨(some 7), (.ld none (.tmp 6)), none⟩,
 ⟨(some 8), (.bin .eql (.tmp 7) (.const (.int .i64 1))), none⟩])
 (.cond (.tmp 8) (.seq (.draw [⟨⟨(some 9), (.mv (.tmp 0)), none⟩, .p⟩,
 ⟨⟨(some 10), (.nilc (.tmp 9)), none⟩, .p⟩,
 ⟨⟨(some 11), (.fa 2 (.tmp 10)), none⟩, .p⟩,
 ⟨⟨(some 12), (.fa 4 (.tmp 11)), none⟩, .p⟩,
 ⟨⟨(some 13), (.ld none (.tmp 12)), none⟩, .l⟩,
 ⟨⟨(some 14), (.mv (.tmp 0)), none⟩, .p⟩,
 ⟨⟨(some 15), (.nilc (.tmp 14)), none⟩, .p⟩,
 ⟨⟨(some 16), (.fa 1 (.tmp 15)), none⟩, .p⟩,
 ⟨⟨(some 17), (.ld none (.tmp 16)), none⟩, .l⟩,
 ⟨⟨(some 18), (.call 48 [(.tmp 13), (.tmp 17)]), none⟩, .g⟩,
 ⟨⟨(some 19), (.mv (.tmp 0)), none⟩, .p⟩,
 ⟨⟨(some 20), (.nilc (.tmp 19)), none⟩, .p⟩,
 ⟨⟨(some 21), (.fa 0 (.tmp 20)), none⟩, .p⟩,
 ⟨⟨(some 22), (.ld none (.tmp 21)), none⟩, .l⟩,
 ⟨⟨(some 23), (.mv (.tmp 0)), none⟩, .p⟩,
 ⟨⟨(some 24), (.nilc (.tmp 23)), none⟩, .p⟩,
 ⟨⟨(some 25), (.fa 2 (.tmp 24)), none⟩, .p⟩,
 ⟨⟨(some 26), (.fa 5 (.tmp 25)), none⟩, .p⟩,
 ⟨⟨(some 27), (.ld none (.tmp 26)), none⟩, .l⟩,
 ⟨⟨(some 28), (.mv (.tmp 0)), none⟩, .p⟩,
 ⟨⟨(some 29), (.nilc (.tmp 28)), none⟩, .p⟩,
 ⟨⟨(some 30), (.fa 2 (.tmp 29)), none⟩, .p⟩,
 ⟨⟨(some 31), (.fa 4 (.tmp 30)), none⟩, .p⟩,
 ⟨⟨(some 32), (.ld none (.tmp 31)), none⟩, .l⟩,
 ⟨⟨(some 33), (.mv (.tmp 0)), none⟩, .p⟩,
 ⟨⟨(some 34), (.nilc (.tmp 33)), none⟩, .p⟩,
 ⟨⟨(some 35), (.fa 2 (.tmp 34)), none⟩, .p⟩,
 ⟨⟨(some 36), (.fa 2 (.tmp 35)), none⟩, .p⟩,
 ⟨⟨(some 37), (.ld (some 2) (.tmp 36)), none⟩, .l⟩,
 ⟨⟨(some 38), (.bld [.int .i64 (0), .int .i64 (0), .int .i64 (0), .int .i64 (0), .int .i64 (0), .int .i64 (0), .string ⟨#[]⟩, .int .i64 (0), .int .i64 (0), .bool false, .string ⟨#[]⟩, .bool false, .int .i64 (0), .int .i64 (0), .slice none 0 0, .slice none 0 0] [(0, 1, (.const (.int .i64 3))), (1, 1, (.tmp 18)), (4, 1, (.tmp 22)), (5, 1, (.tmp 27)), (6, 1, (.tmp 32)), (7, 2, (.tmp 37))]), none⟩, .p⟩,
 ⟨⟨none, (.st 16 (.tmp 2) (.tmp 38)), none⟩, .m⟩])
 .ret)
 .skip))
 (.seq (.draw [⟨⟨(some 39), (.mv (.tmp 0)), none⟩, .p⟩,
 ⟨⟨(some 40), (.nilc (.tmp 39)), none⟩, .p⟩,
 ⟨⟨(some 41), (.fa 0 (.tmp 40)), none⟩, .p⟩,
 ⟨⟨(some 42), (.ld none (.tmp 41)), none⟩, .l⟩,
 ⟨⟨(some 43), (.mv (.tmp 0)), none⟩, .p⟩,
 ⟨⟨(some 44), (.nilc (.tmp 43)), none⟩, .p⟩,
 ⟨⟨(some 45), (.fa 2 (.tmp 44)), none⟩, .p⟩,
 ⟨⟨(some 46), (.fa 5 (.tmp 45)), none⟩, .p⟩,
 ⟨⟨(some 47), (.ld none (.tmp 46)), none⟩, .l⟩,
 ⟨⟨(some 48), (.mv (.tmp 0)), none⟩, .p⟩,
 ⟨⟨(some 49), (.nilc (.tmp 48)), none⟩, .p⟩,
 ⟨⟨(some 50), (.fa 2 (.tmp 49)), none⟩, .p⟩,
 ⟨⟨(some 51), (.fa 4 (.tmp 50)), none⟩, .p⟩,
 ⟨⟨(some 52), (.ld none (.tmp 51)), none⟩, .l⟩,
 ⟨⟨(some 53), (.mv (.tmp 0)), none⟩, .p⟩,
 ⟨⟨(some 54), (.nilc (.tmp 53)), none⟩, .p⟩,
 ⟨⟨(some 55), (.fa 2 (.tmp 54)), none⟩, .p⟩,
 ⟨⟨(some 56), (.fa 2 (.tmp 55)), none⟩, .p⟩,
 ⟨⟨(some 57), (.ld (some 2) (.tmp 56)), none⟩, .l⟩,
 ⟨⟨(some 58), (.bld [.int .i64 (0), .int .i64 (0), .int .i64 (0), .int .i64 (0), .int .i64 (0), .int .i64 (0), .string ⟨#[]⟩, .int .i64 (0), .int .i64 (0), .bool false, .string ⟨#[]⟩, .bool false, .int .i64 (0), .int .i64 (0), .slice none 0 0, .slice none 0 0] [(0, 1, (.const (.int .i64 5))), (4, 1, (.tmp 42)), (5, 1, (.tmp 47)), (6, 1, (.tmp 52)), (7, 2, (.tmp 57))]), none⟩, .p⟩,
 ⟨⟨none, (.st 16 (.tmp 2) (.tmp 58)), none⟩, .m⟩])
 .ret)))
def r41 : List RV := [.agg 2 16]
theorem ok41 : FnOk Try.prog 41 59 c41 r41 := ⟨_, _, Try.func41, rfl, rfl, by kernel_rfl, by kernel_rfl, by kernel_rfl⟩
/-- vouch/route.Hash -/
def c42 : C := (.seq (.reg [⟨(some 2), (.mv (.const (.int .u64 0))), none⟩])
 (.seq (.reg [⟨(some 3), (.mv (.const (.int .u64 14695981039346656037))), none⟩])
 (.seq (.seq (.reg [⟨(some 5), (.mv (.tmp 0)), none⟩,
 ⟨(some 6), (.len false (.tmp 5)), none⟩,
 ⟨(some 7), (.mv (.const (.int .i64 0))), none⟩])
 (.block 0 (.loop (.seq (.reg [⟨(some 8), (.bin .lss (.tmp 7) (.tmp 6)), none⟩])
 (.seq (.cond (.tmp 8) .skip
 (.exit 0))
 (.seq (.block 1 (.seq (.reg [⟨(some 9), (.mv (.tmp 7)), none⟩,
 ⟨(some 4), (.mv (.tmp 9)), none⟩])
 (.seq (.reg [⟨(some 10), (.mv (.tmp 3)), none⟩,
 ⟨(some 11), (.mv (.tmp 0)), none⟩,
 ⟨(some 12), (.mv (.tmp 4)), none⟩,
 ⟨(some 13), (.ixs (.tmp 11) (.tmp 12)), none⟩,
 ⟨(some 14), (.conv .u64 (.tmp 13)), none⟩,
 ⟨(some 15), (.bin .xor (.tmp 10) (.tmp 14)), none⟩,
 ⟨(some 3), (.mv (.tmp 15)), none⟩])
 (.reg [⟨(some 16), (.mv (.tmp 3)), none⟩,
 ⟨(some 17), (.bin .mul (.tmp 16) (.const (.int .u64 1099511628211))), none⟩,
 ⟨(some 3), (.mv (.tmp 17)), none⟩]))))
 (.reg [⟨(some 18), (.bin .add (.tmp 7) (.const (.int .i64 1))), none⟩,
 ⟨(some 7), (.mv (.tmp 18)), none⟩])))))))
 (.seq (.reg [⟨(some 19), (.mv (.tmp 3)), none⟩,
 ⟨(some 2), (.mv (.tmp 19)), none⟩])
 .ret))))
def r42 : List RV := [.tmp 2]
theorem ok42 : FnOk Try.prog 42 20 c42 r42 := ⟨_, _, Try.func42, rfl, rfl, by kernel_rfl, by kernel_rfl, by kernel_rfl⟩
/-- vouch/fact.pinned -/
def c43 : C := (.seq (.reg [⟨(some 1), (.box 28 (.tmp 0)), none⟩,
 ⟨(some 2), (.new 84 [.int .i64 (0), .int .i64 (0)]), none⟩])
 (.seq (.reg [⟨(some 3), (.fa 0 (.tmp 1)), none⟩,
 ⟨(some 4), (.ld none (.tmp 3)), none⟩,
 ⟨(some 5), (.fa 1 (.tmp 1)), none⟩,
 ⟨(some 6), (.ld none (.tmp 5)), none⟩,
 ⟨(some 7), (.call 35 [(.tmp 4), (.tmp 6)]), none⟩,
 ⟨none, (.st 2 (.tmp 2) (.tmp 7)), none⟩])
 .ret))
def r43 : List RV := [.agg 2 2]
theorem ok43 : FnOk Try.prog 43 8 c43 r43 := ⟨_, _, Try.func43, rfl, rfl, by kernel_rfl, by kernel_rfl, by kernel_rfl⟩
/-- (vouch/span.Span[int64]).Meet -/
def c44 : C := (.seq (.reg [⟨(some 2), (.box 84 (.tmp 0)), none⟩,
 ⟨(some 3), (.box 84 (.tmp 1)), none⟩,
 ⟨(some 4), (.new 84 [.int .i64 (0), .int .i64 (0)]), none⟩])
 (.seq (.reg [⟨(some 5), (.fa 0 (.tmp 2)), none⟩,
 ⟨(some 6), (.ld none (.tmp 5)), none⟩,
 ⟨(some 7), (.fa 0 (.tmp 3)), none⟩,
 ⟨(some 8), (.ld none (.tmp 7)), none⟩,
 ⟨(some 9), (.mx true (.tmp 6) (.tmp 8)), none⟩,
 ⟨(some 10), (.fa 1 (.tmp 2)), none⟩,
 ⟨(some 11), (.ld none (.tmp 10)), none⟩,
 ⟨(some 12), (.fa 1 (.tmp 3)), none⟩,
 ⟨(some 13), (.ld none (.tmp 12)), none⟩,
 ⟨(some 14), (.mx false (.tmp 11) (.tmp 13)), none⟩,
 ⟨(some 15), (.call 35 [(.tmp 9), (.tmp 14)]), none⟩,
 ⟨none, (.st 2 (.tmp 4) (.tmp 15)), none⟩])
 .ret))
def r44 : List RV := [.agg 4 2]
theorem ok44 : FnOk Try.prog 44 16 c44 r44 := ⟨_, _, Try.func44, rfl, rfl, by kernel_rfl, by kernel_rfl, by kernel_rfl⟩
/-- (vouch/span.Span[int64]).Empty -/
def c45 : C := (.seq (.reg [⟨(some 1), (.box 84 (.tmp 0)), none⟩,
 ⟨(some 2), (.mv (.const (.bool false))), none⟩])
 (.seq (.reg [⟨(some 3), (.fa 0 (.tmp 1)), none⟩,
 ⟨(some 4), (.ld none (.tmp 3)), none⟩,
 ⟨(some 5), (.fa 1 (.tmp 1)), none⟩,
 ⟨(some 6), (.ld none (.tmp 5)), none⟩,
 ⟨(some 7), (.bin .geq (.tmp 4) (.tmp 6)), none⟩,
 ⟨(some 2), (.mv (.tmp 7)), none⟩])
 .ret))
def r45 : List RV := [.tmp 2]
theorem ok45 : FnOk Try.prog 45 8 c45 r45 := ⟨_, _, Try.func45, rfl, rfl, by kernel_rfl, by kernel_rfl, by kernel_rfl⟩
/-- vouch/vouchref09.Narrow -/
def c46 : C := (.seq (.reg [⟨(some 2), (.box 28 (.tmp 0)), none⟩,
 ⟨(some 3), (.box 96 (.tmp 1)), none⟩,
 ⟨(some 4), (.new 28 [.int .i64 (0), .int .i64 (0)]), none⟩,
 ⟨(some 5), (.mv (.const (.bool false))), none⟩])
 (.seq (.draw [⟨⟨(some 7), (.fa 0 (.tmp 2)), none⟩, .p⟩,
 ⟨⟨(some 8), (.ld none (.tmp 7)), none⟩, .l⟩,
 ⟨⟨(some 9), (.fa 1 (.tmp 2)), none⟩, .p⟩,
 ⟨⟨(some 10), (.ld none (.tmp 9)), none⟩, .l⟩,
 ⟨⟨(some 11), (.call 47 [(.tmp 8), (.tmp 10)]), none⟩, .g⟩,
 ⟨⟨(some 12), (.ld (some 2) (.tmp 3)), none⟩, .l⟩,
 ⟨⟨(some 13), (.call 49 [(.tmp 11), (.tmp 12)]), none⟩, .g⟩,
 ⟨⟨(some 6), (.new 96 [.int .i64 (0), .int .i64 (0)]), none⟩, .f⟩,
 ⟨⟨none, (.st 2 (.tmp 6) (.tmp 13)), none⟩, .m⟩])
 (.seq (.draw [⟨⟨(some 14), (.fa 0 (.tmp 6)), none⟩, .p⟩,
 ⟨⟨(some 15), (.ld none (.tmp 14)), none⟩, .l⟩,
 ⟨⟨(some 16), (.fa 1 (.tmp 6)), none⟩, .p⟩,
 ⟨⟨(some 17), (.ld none (.tmp 16)), none⟩, .l⟩,
 ⟨⟨(some 18), (.bld [.int .i64 (0), .int .i64 (0)] [(0, 1, (.tmp 15)), (1, 1, (.tmp 17))]), none⟩, .p⟩,
 ⟨⟨(some 19), (.ld (some 2) (.tmp 6)), none⟩, .l⟩,
 ⟨⟨(some 20), (.call 50 [(.tmp 19)]), none⟩, .g⟩,
 ⟨⟨(some 21), (.nt (.tmp 20)), none⟩, .p⟩,
 ⟨⟨none, (.st 2 (.tmp 4) (.tmp 18)), none⟩, .m⟩,
 ⟨⟨(some 5), (.mv (.tmp 21)), none⟩, .p⟩])
 .ret)))
def r46 : List RV := [.agg 4 2, .tmp 5]
theorem ok46 : FnOk Try.prog 46 22 c46 r46 := ⟨_, _, Try.func46, rfl, rfl, by kernel_rfl, by kernel_rfl, by kernel_rfl⟩
/-- vouch/vouchref01.Of -/
def c47 : C := (.seq (.reg [⟨(some 4), (.new 96 [.int .i64 (0), .int .i64 (0)]), none⟩])
 (.seq (.reg [⟨(some 6), (.mv (.tmp 0)), none⟩,
 ⟨(some 7), (.mv (.tmp 1)), none⟩,
 ⟨(some 8), (.bld [.int .i64 (0), .int .i64 (0)] [(0, 1, (.tmp 6)), (1, 1, (.tmp 7))]), none⟩,
 ⟨(some 5), (.new 96 [.int .i64 (0), .int .i64 (0)]), none⟩,
 ⟨none, (.st 2 (.tmp 5) (.tmp 8)), none⟩])
 (.seq (.seq (.reg [⟨(some 9), (.ld (some 2) (.tmp 5)), none⟩,
 ⟨(some 10), (.call 50 [(.tmp 9)]), none⟩])
 (.cond (.tmp 10) (.seq (.reg [⟨(some 11), (.bld [.int .i64 (0), .int .i64 (0)] []), none⟩,
 ⟨none, (.st 2 (.tmp 4) (.tmp 11)), none⟩])
 .ret)
 .skip))
 (.seq (.reg [⟨(some 12), (.ld (some 2) (.tmp 5)), none⟩,
 ⟨none, (.st 2 (.tmp 4) (.tmp 12)), none⟩])
 .ret))))
def r47 : List RV := [.agg 4 2]
theorem ok47 : FnOk Try.prog 47 13 c47 r47 := ⟨_, _, Try.func47, rfl, rfl, by kernel_rfl, by kernel_rfl, by kernel_rfl⟩
/-- vouch/vouchref14.To -/
def c48 : C := (.seq (.reg [⟨(some 4), (.mv (.const (.int .i64 0))), none⟩])
 (.seq (.seq (.reg [⟨(some 6), (.mv (.tmp 1)), none⟩,
 ⟨(some 7), (.bin .lss (.tmp 6) (.const (.int .i64 1))), none⟩,
 ⟨(some 8), (.mv (.tmp 7)), none⟩,
 ⟨(some 9), (.mv (.tmp 1)), (some (8, false))⟩,
 ⟨(some 10), (.bin .gtr (.tmp 9) (.const (.int .i64 8))), (some (8, false))⟩,
 ⟨(some 11), (.pick (.tmp 8) (.const (.bool true)) (.tmp 10)), none⟩])
 (.cond (.tmp 11) (.seq (.reg [⟨(some 4), (.mv (.const (.int .i64 (-1)))), none⟩])
 .ret)
 .skip))
 (.seq (.reg [⟨(some 12), (.mv (.tmp 0)), none⟩,
 ⟨(some 13), (.call 51 [(.tmp 12)]), none⟩,
 ⟨(some 5), (.mv (.tmp 13)), none⟩])
 (.seq (.reg [⟨(some 14), (.mv (.tmp 5)), none⟩,
 ⟨(some 15), (.mv (.tmp 5)), none⟩,
 ⟨(some 16), (.mv (.tmp 1)), none⟩,
 ⟨(some 17), (.conv .u64 (.tmp 16)), none⟩,
 ⟨(some 18), (.bin .quo (.tmp 15) (.tmp 17)), none⟩,
 ⟨(some 19), (.mv (.tmp 1)), none⟩,
 ⟨(some 20), (.conv .u64 (.tmp 19)), none⟩,
 ⟨(some 21), (.bin .mul (.tmp 18) (.tmp 20)), none⟩,
 ⟨(some 22), (.bin .sub (.tmp 14) (.tmp 21)), none⟩,
 ⟨(some 23), (.conv .i64 (.tmp 22)), none⟩,
 ⟨(some 4), (.mv (.tmp 23)), none⟩])
 .ret))))
def r48 : List RV := [.tmp 4]
theorem ok48 : FnOk Try.prog 48 24 c48 r48 := ⟨_, _, Try.func48, rfl, rfl, by kernel_rfl, by kernel_rfl, by kernel_rfl⟩
/-- vouch/vouchref01.Meet -/
def c49 : C := (.seq (.reg [⟨(some 2), (.box 96 (.tmp 0)), none⟩,
 ⟨(some 3), (.box 96 (.tmp 1)), none⟩,
 ⟨(some 4), (.new 96 [.int .i64 (0), .int .i64 (0)]), none⟩])
 (.seq (.seq (.reg [⟨(some 7), (.ld (some 2) (.tmp 2)), none⟩,
 ⟨(some 8), (.call 50 [(.tmp 7)]), none⟩,
 ⟨(some 9), (.mv (.tmp 8)), none⟩,
 ⟨(some 10), (.ld (some 2) (.tmp 3)), (some (9, false))⟩,
 ⟨(some 11), (.call 50 [(.tmp 10)]), (some (9, false))⟩,
 ⟨(some 12), (.pick (.tmp 9) (.const (.bool true)) (.tmp 11)), none⟩])
 (.cond (.tmp 12) (.seq (.reg [⟨(some 13), (.bld [.int .i64 (0), .int .i64 (0)] []), none⟩,
 ⟨none, (.st 2 (.tmp 4) (.tmp 13)), none⟩])
 .ret)
 .skip))
 (.seq (.draw [⟨⟨(some 14), (.fa 0 (.tmp 2)), none⟩, .p⟩,
 ⟨⟨(some 15), (.ld none (.tmp 14)), none⟩, .l⟩,
 ⟨⟨(some 16), (.fa 1 (.tmp 2)), none⟩, .p⟩,
 ⟨⟨(some 17), (.ld none (.tmp 16)), none⟩, .l⟩,
 ⟨⟨(some 5), (.mv (.tmp 15)), none⟩, .p⟩,
 ⟨⟨(some 6), (.mv (.tmp 17)), none⟩, .p⟩])
 (.seq (.seq (.reg [⟨(some 18), (.fa 0 (.tmp 3)), none⟩,
 ⟨(some 19), (.ld none (.tmp 18)), none⟩,
 ⟨(some 20), (.mv (.tmp 5)), none⟩,
 ⟨(some 21), (.bin .gtr (.tmp 19) (.tmp 20)), none⟩])
 (.cond (.tmp 21) (.reg [⟨(some 22), (.fa 0 (.tmp 3)), none⟩,
 ⟨(some 23), (.ld none (.tmp 22)), none⟩,
 ⟨(some 5), (.mv (.tmp 23)), none⟩])
 .skip))
 (.seq (.seq (.reg [⟨(some 24), (.fa 1 (.tmp 3)), none⟩,
 ⟨(some 25), (.ld none (.tmp 24)), none⟩,
 ⟨(some 26), (.mv (.tmp 6)), none⟩,
 ⟨(some 27), (.bin .lss (.tmp 25) (.tmp 26)), none⟩])
 (.cond (.tmp 27) (.reg [⟨(some 28), (.fa 1 (.tmp 3)), none⟩,
 ⟨(some 29), (.ld none (.tmp 28)), none⟩,
 ⟨(some 6), (.mv (.tmp 29)), none⟩])
 .skip))
 (.seq (.reg [⟨(some 30), (.mv (.tmp 5)), none⟩,
 ⟨(some 31), (.mv (.tmp 6)), none⟩,
 ⟨(some 32), (.call 47 [(.tmp 30), (.tmp 31)]), none⟩,
 ⟨none, (.st 2 (.tmp 4) (.tmp 32)), none⟩])
 .ret))))))
def r49 : List RV := [.agg 4 2]
theorem ok49 : FnOk Try.prog 49 33 c49 r49 := ⟨_, _, Try.func49, rfl, rfl, by kernel_rfl, by kernel_rfl, by kernel_rfl⟩
/-- vouch/vouchref01.Empty -/
def c50 : C := (.seq (.reg [⟨(some 1), (.box 96 (.tmp 0)), none⟩,
 ⟨(some 2), (.mv (.const (.bool false))), none⟩])
 (.seq (.reg [⟨(some 3), (.ld (some 2) (.tmp 1)), none⟩,
 ⟨(some 4), (.fa 0 (.tmp 1)), none⟩,
 ⟨(some 5), (.ld none (.tmp 4)), none⟩,
 ⟨(some 6), (.call 52 [(.tmp 3), (.tmp 5)]), none⟩,
 ⟨(some 7), (.nt (.tmp 6)), none⟩,
 ⟨(some 2), (.mv (.tmp 7)), none⟩])
 .ret))
def r50 : List RV := [.tmp 2]
theorem ok50 : FnOk Try.prog 50 8 c50 r50 := ⟨_, _, Try.func50, rfl, rfl, by kernel_rfl, by kernel_rfl, by kernel_rfl⟩
/-- vouch/vouchref14.Hash -/
def c51 : C := (.seq (.reg [⟨(some 2), (.mv (.const (.int .u64 0))), none⟩])
 (.seq (.reg [⟨(some 3), (.mv (.const (.int .u64 14695981039346656037))), none⟩])
 (.seq (.seq (.reg [⟨(some 4), (.mv (.const (.int .i64 0))), none⟩])
 (.block 0 (.loop (.seq (.seq (.reg [⟨(some 6), (.mv (.tmp 4)), none⟩,
 ⟨(some 7), (.mv (.tmp 0)), none⟩,
 ⟨(some 8), (.len false (.tmp 7)), none⟩,
 ⟨(some 9), (.bin .lss (.tmp 6) (.tmp 8)), none⟩])
 (.cond (.tmp 9) .skip
 (.exit 0)))
 (.seq (.block 1 (.seq (.reg [⟨(some 12), (.mv (.tmp 0)), none⟩,
 ⟨(some 13), (.mv (.tmp 4)), none⟩,
 ⟨(some 14), (.ixs (.tmp 12) (.tmp 13)), none⟩,
 ⟨(some 15), (.conv .u64 (.tmp 14)), none⟩,
 ⟨(some 5), (.mv (.tmp 15)), none⟩])
 (.seq (.reg [⟨(some 16), (.mv (.tmp 3)), none⟩,
 ⟨(some 17), (.mv (.tmp 5)), none⟩,
 ⟨(some 18), (.bin .or (.tmp 16) (.tmp 17)), none⟩,
 ⟨(some 19), (.mv (.tmp 3)), none⟩,
 ⟨(some 20), (.mv (.tmp 5)), none⟩,
 ⟨(some 21), (.bin .and (.tmp 19) (.tmp 20)), none⟩,
 ⟨(some 22), (.bin .sub (.tmp 18) (.tmp 21)), none⟩,
 ⟨(some 3), (.mv (.tmp 22)), none⟩])
 (.reg [⟨(some 23), (.mv (.tmp 3)), none⟩,
 ⟨(some 24), (.bin .mul (.tmp 23) (.const (.int .u64 1099511628211))), none⟩,
 ⟨(some 3), (.mv (.tmp 24)), none⟩]))))
 (.reg [⟨(some 10), (.mv (.tmp 4)), none⟩,
 ⟨(some 11), (.bin .add (.tmp 10) (.const (.int .i64 1))), none⟩,
 ⟨(some 4), (.mv (.tmp 11)), none⟩]))))))
 (.seq (.reg [⟨(some 25), (.mv (.tmp 3)), none⟩,
 ⟨(some 2), (.mv (.tmp 25)), none⟩])
 .ret))))
def r51 : List RV := [.tmp 2]
theorem ok51 : FnOk Try.prog 51 26 c51 r51 := ⟨_, _, Try.func51, rfl, rfl, by kernel_rfl, by kernel_rfl, by kernel_rfl⟩
/-- vouch/vouchref01.Has -/
def c52 : C := (.seq (.reg [⟨(some 2), (.box 96 (.tmp 0)), none⟩,
 ⟨(some 4), (.mv (.const (.bool false))), none⟩])
 (.seq (.reg [⟨(some 5), (.mv (.tmp 1)), none⟩,
 ⟨(some 6), (.fa 0 (.tmp 2)), none⟩,
 ⟨(some 7), (.ld none (.tmp 6)), none⟩,
 ⟨(some 8), (.bin .geq (.tmp 5) (.tmp 7)), none⟩,
 ⟨(some 9), (.mv (.tmp 8)), none⟩,
 ⟨(some 10), (.mv (.tmp 1)), (some (9, true))⟩,
 ⟨(some 11), (.fa 1 (.tmp 2)), (some (9, true))⟩,
 ⟨(some 12), (.ld none (.tmp 11)), (some (9, true))⟩,
 ⟨(some 13), (.bin .lss (.tmp 10) (.tmp 12)), (some (9, true))⟩,
 ⟨(some 14), (.pick (.tmp 9) (.tmp 13) (.const (.bool false))), none⟩,
 ⟨(some 4), (.mv (.tmp 14)), none⟩])
 .ret))
def r52 : List RV := [.tmp 4]
theorem ok52 : FnOk Try.prog 52 15 c52 r52 := ⟨_, _, Try.func52, rfl, rfl, by kernel_rfl, by kernel_rfl, by kernel_rfl⟩
end Go.Proofs.Ytmjpcpipacciiaa
