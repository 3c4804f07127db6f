/- The texts of functions, compiled. -/
import Derived.Test.YtpnghjmphbhkjaaSpD
import Derived.Test.YtpnghjmphbhkjaaProg
import Derived.KernelRfl
namespace Go.Proofs.Ytpnghjmphbhkjaa
open Go.Sp
set_option maxRecDepth 100000
def c3_b0 : C := (.seq (.reg [(rO 13 (.mv (.const (.int .i64 0))))])
 (.block 0 (.loop (.seq (.seq (.reg [(rO 70 (.mv (.tmp 13))),
 (rO 71 (.mv (.tmp 0))),
 (rO 72 (.len true (.tmp 71))),
 (rO 73 (.bin .lss (.tmp 70) (.tmp 72)))])
 (.cond (.tmp 73) .skip
 (.exit 0)))
 (.seq (.block 1 (.seq (.reg [(rO 77 (.mv (.tmp 7))),
 (rO 78 (.mv (.tmp 0))),
 (rO 79 (.mv (.tmp 13))),
 (rO 80 (.ia 1 (.tmp 78) (.tmp 79))),
 (rO 81 (.ld none (.tmp 80))),
 (rO 82 (.call 9 [(.tmp 77), (.tmp 81)])),
 (rO 76 (.mv (.tmp 82))),
 (rO 83 (.ext 0 (.tmp 76))),
 (rO 84 (.ext 1 (.tmp 76))),
 (rO 14 (.mv (.tmp 83))),
 (rO 15 (.mv (.tmp 84)))])
 (.seq (.seq (.reg [(rO 85 (.mv (.tmp 15))),
 (rO 86 (.bin .neq (.tmp 85) (.const (.int .i64 0))))])
 (.cond (.tmp 86) (.exit 1)
 .skip))
 (.seq (.reg [(rO 88 (.mv (.tmp 8))),
 (rO 89 (.mv (.tmp 0))),
 (rO 90 (.mv (.tmp 13))),
 (rO 91 (.ia 1 (.tmp 89) (.tmp 90))),
 (rO 92 (.ld none (.tmp 91))),
 (rO 93 (.call 11 [(.tmp 92)])),
 (rO 94 (.call 10 [(.tmp 88), (.tmp 93)])),
 (rO 87 (.mv (.tmp 94))),
 (rO 95 (.ext 0 (.tmp 87))),
 (rO 96 (.ext 1 (.tmp 87))),
 (rO 16 (.mv (.tmp 95))),
 (rO 17 (.mv (.tmp 96)))])
 (.seq (.reg [(rO 97 (.mv (.tmp 17))),
 (rO 98 (.bin .neq (.tmp 97) (.const (.int .i64 0)))),
 (rO 99 (.mv (.tmp 98))),
 ⟨(some 100), (.mv (.tmp 14)), (some (99, false))⟩,
 ⟨(some 101), (.mv (.tmp 16)), (some (99, false))⟩,
 ⟨(some 102), (.bin .neq (.tmp 100) (.tmp 101)), (some (99, false))⟩,
 (rO 103 (.pick (.tmp 99) (.const (.bool true)) (.tmp 102)))])
 (.cond (.tmp 103) (.seq (.reg [(rO 6 (.mv (.const (.bool false))))])
 .ret)
 .skip))))))
 (.reg [(rO 74 (.mv (.tmp 13))),
 (rO 75 (.bin .add (.tmp 74) (.const (.int .i64 1)))),
 (rO 13 (.mv (.tmp 75)))]))))))
def c3_t0 : C := (.seq (.reg [(rO 105 (.mv (.tmp 7))),
 (rO 106 (.mv (.tmp 1))),
 (rO 107 (.mv (.tmp 2))),
 (rO 108 (.conv .i64 (.tmp 107))),
 (rO 109 (.call 12 [(.tmp 105), (.tmp 106), (.tmp 108)])),
 (rO 104 (.mv (.tmp 109))),
 (rO 110 (.ext 0 (.tmp 104))),
 (rO 111 (.ext 1 (.tmp 104))),
 (rO 18 (.new 39 [.string ⟨#[]⟩, .bool false, .string ⟨#[]⟩, .int .i64 (0), .int .i64 (0)])),
 ⟨none, (.st 5 (.tmp 18) (.tmp 110)), none⟩,
 (rO 19 (.mv (.tmp 111)))])
 (.seq (.seq (.reg [(rO 112 (.mv (.tmp 19))),
 (rO 113 (.bin .neq (.tmp 112) (.const (.int .i64 0))))])
 (.cond (.tmp 113) (.seq (.reg [(rO 114 (.mv (.tmp 1))),
 (rO 115 (.len false (.tmp 114))),
 (rO 116 (.bin .lss (.tmp 115) (.const (.int .i64 1)))),
 (rO 117 (.mv (.tmp 116))),
 ⟨(some 118), (.mv (.tmp 1)), (some (117, false))⟩,
 ⟨(some 119), (.len false (.tmp 118)), (some (117, false))⟩,
 ⟨(some 120), (.bin .gtr (.tmp 119) (.const (.int .i64 32))), (some (117, false))⟩,
 (rO 121 (.pick (.tmp 117) (.const (.bool true)) (.tmp 120))),
 (rO 122 (.mv (.tmp 121))),
 ⟨(some 123), (.mv (.tmp 2)), (some (122, false))⟩,
 ⟨(some 124), (.conv .i64 (.tmp 123)), (some (122, false))⟩,
 ⟨(some 125), (.mv (.tmp 8)), (some (122, false))⟩,
 ⟨(some 126), (.call 13 [(.tmp 125)]), (some (122, false))⟩,
 ⟨(some 127), (.bin .gtr (.tmp 124) (.tmp 126)), (some (122, false))⟩,
 (rO 128 (.pick (.tmp 122) (.const (.bool true)) (.tmp 127))),
 (rO 6 (.mv (.tmp 128)))])
 .ret)
 .skip))
 (.seq (.reg [(rO 130 (.mv (.tmp 8))),
 (rO 131 (.mv (.tmp 1))),
 (rO 132 (.mv (.tmp 2))),
 (rO 133 (.conv .i64 (.tmp 132))),
 (rO 134 (.call 14 [(.tmp 130), (.tmp 131), (.tmp 133)])),
 (rO 129 (.mv (.tmp 134))),
 (rO 135 (.ext 0 (.tmp 129))),
 (rO 136 (.ext 1 (.tmp 129))),
 (rO 20 (.mv (.tmp 135))),
 (rO 21 (.mv (.tmp 136)))])
 (.seq (.seq (.reg [(rO 137 (.mv (.tmp 21))),
 (rO 138 (.fa 4 (.tmp 18))),
 (rO 139 (.ld none (.tmp 138))),
 (rO 140 (.bin .neq (.tmp 139) (.const (.int .i64 4611686018427387904)))),
 (rO 141 (.eqs true .bool (.tmp 137) (.tmp 140))),
 (rO 142 (.mv (.tmp 141))),
 ⟨(some 143), (.mv (.tmp 21)), (some (142, false))⟩,
 ⟨(some 144), (.mv (.tmp 143)), (some (142, false))⟩,
 ⟨(some 145), (.mv (.tmp 20)), (some (144, true))⟩,
 ⟨(some 146), (.fa 4 (.tmp 18)), (some (144, true))⟩,
 ⟨(some 147), (.ld none (.tmp 146)), (some (144, true))⟩,
 ⟨(some 148), (.bin .neq (.tmp 145) (.tmp 147)), (some (144, true))⟩,
 ⟨(some 149), (.pick (.tmp 144) (.tmp 148) (.const (.bool false))), (some (142, false))⟩,
 (rO 150 (.pick (.tmp 142) (.const (.bool true)) (.tmp 149)))])
 (.cond (.tmp 150) (.seq (.reg [(rO 6 (.mv (.const (.bool false))))])
 .ret)
 .skip))
 (.seq (.seq (.reg [(rO 151 (.fa 3 (.tmp 18))),
 (rO 152 (.ld none (.tmp 151))),
 (rO 153 (.bin .eql (.tmp 152) (.const (.int .i64 0))))])
 (.cond (.tmp 153) (.seq (.reg [(rO 155 (.mv (.tmp 8))),
 (rO 156 (.mv (.tmp 1))),
 (rO 157 (.call 14 [(.tmp 155), (.tmp 156), (.const (.int .i64 0))])),
 (rO 154 (.mv (.tmp 157))),
 (rO 158 (.ext 0 (.tmp 154))),
 (rO 159 (.ext 1 (.tmp 154))),
 (rO 22 (.mv (.tmp 158))),
 (rO 23 (.mv (.tmp 159)))])
 (.seq (.reg [(rO 160 (.mv (.tmp 23))),
 (rO 161 (.nt (.tmp 160))),
 (rO 162 (.mv (.tmp 161))),
 ⟨(some 163), (.mv (.tmp 22)), (some (162, false))⟩,
 ⟨(some 164), (.mv (.tmp 2)), (some (162, false))⟩,
 ⟨(some 165), (.conv .i64 (.tmp 164)), (some (162, false))⟩,
 ⟨(some 166), (.bin .gtr (.tmp 163) (.tmp 165)), (some (162, false))⟩,
 (rO 167 (.pick (.tmp 162) (.const (.bool true)) (.tmp 166))),
 (rO 6 (.mv (.tmp 167)))])
 .ret))
 .skip))
 (.seq (.reg [(rO 169 (.mv (.tmp 8))),
 (rO 170 (.mv (.tmp 1))),
 (rO 171 (.fa 3 (.tmp 18))),
 (rO 172 (.ld none (.tmp 171))),
 (rO 173 (.bin .sub (.tmp 172) (.const (.int .i64 1)))),
 (rO 174 (.call 14 [(.tmp 169), (.tmp 170), (.tmp 173)])),
 (rO 168 (.mv (.tmp 174))),
 (rO 175 (.ext 0 (.tmp 168))),
 (rO 176 (.ext 1 (.tmp 168))),
 (rO 24 (.mv (.tmp 175))),
 (rO 25 (.mv (.tmp 176)))])
 (.seq (.reg [(rO 177 (.mv (.tmp 25))),
 (rO 178 (.mv (.tmp 177))),
 ⟨(some 179), (.mv (.tmp 24)), (some (178, true))⟩,
 ⟨(some 180), (.fa 3 (.tmp 18)), (some (178, true))⟩,
 ⟨(some 181), (.ld none (.tmp 180)), (some (178, true))⟩,
 ⟨(some 182), (.bin .eql (.tmp 179) (.tmp 181)), (some (178, true))⟩,
 (rO 183 (.pick (.tmp 178) (.tmp 182) (.const (.bool false)))),
 (rO 6 (.mv (.tmp 183)))])
 .ret)))))))
def c3_s0 : C := .seq c3_b0 c3_t0
/-- vouch/vouchtop.WholeLogs -/
def c3 : C := (.seq (.reg [(rO 6 (.mv (.const (.bool false))))])
 (.seq (.reg [(rO 26 (.call 7 [(.const (.int .i64 64))])),
 (rO 27 (.call 8 [])),
 (rO 7 (.mv (.tmp 26))),
 (rO 8 (.mv (.tmp 27)))])
 (.seq (.seq (.reg [(rO 28 (.mv (.tmp 7))),
 (rO 29 (.eqs false .ptr (.tmp 28) (.const (.pointer none)))),
 (rO 30 (.mv (.tmp 29))),
 ⟨(some 31), (.mv (.tmp 8)), (some (30, false))⟩,
 ⟨(some 32), (.eqs false .ptr (.tmp 31) (.const (.pointer none))), (some (30, false))⟩,
 (rO 33 (.pick (.tmp 30) (.const (.bool true)) (.tmp 32))),
 (rO 34 (.mv (.tmp 33))),
 ⟨(some 35), (.mv (.tmp 0)), (some (34, false))⟩,
 ⟨(some 36), (.len true (.tmp 35)), (some (34, false))⟩,
 ⟨(some 37), (.bin .gtr (.tmp 36) (.const (.int .i64 60))), (some (34, false))⟩,
 (rO 38 (.pick (.tmp 34) (.const (.bool true)) (.tmp 37)))])
 (.cond (.tmp 38) (.seq (.reg [(rO 39 (.mv (.tmp 7))),
 (rO 40 (.eqs true .ptr (.tmp 39) (.const (.pointer none)))),
 (rO 41 (.mv (.tmp 40))),
 ⟨(some 42), (.mv (.tmp 8)), (some (41, true))⟩,
 ⟨(some 43), (.eqs true .ptr (.tmp 42) (.const (.pointer none))), (some (41, true))⟩,
 (rO 44 (.pick (.tmp 41) (.tmp 43) (.const (.bool false)))),
 (rO 6 (.mv (.tmp 44)))])
 .ret)
 .skip))
 (.seq (.seq (.reg [(rO 46 (.mv (.tmp 7))),
 (rO 47 (.bld [.string ⟨#[]⟩, .bool false, .string ⟨#[]⟩] [(0, 1, (.const (.string { data := #[107] })))])),
 (rO 48 (.lit 33 1 3 [.string ⟨#[]⟩, .bool false, .string ⟨#[]⟩] [(0, 3, (.tmp 47))])),
 (rO 49 (.call 9 [(.tmp 46), (.tmp 48)])),
 (rO 45 (.mv (.tmp 49))),
 (rO 50 (.ext 0 (.tmp 45))),
 (rO 51 (.ext 1 (.tmp 45))),
 (rO 9 (.mv (.tmp 50))),
 (rO 10 (.mv (.tmp 51)))])
 (.seq (.reg [(rO 52 (.mv (.tmp 9))),
 (rO 53 (.bin .neq (.tmp 52) (.const (.int .i64 1)))),
 (rO 54 (.mv (.tmp 53))),
 ⟨(some 55), (.mv (.tmp 10)), (some (54, false))⟩,
 ⟨(some 56), (.bin .neq (.tmp 55) (.const (.int .i64 0))), (some (54, false))⟩,
 (rO 57 (.pick (.tmp 54) (.const (.bool true)) (.tmp 56)))])
 (.cond (.tmp 57) (.seq (.reg [(rO 6 (.mv (.const (.bool false))))])
 .ret)
 .skip)))
 (.seq (.seq (.reg [(rO 59 (.mv (.tmp 8))),
 (rO 60 (.lit 9 1 1 [.string ⟨#[]⟩] [(0, 1, (.const (.string { data := #[107] })))])),
 (rO 61 (.call 10 [(.tmp 59), (.tmp 60)])),
 (rO 58 (.mv (.tmp 61))),
 (rO 62 (.ext 0 (.tmp 58))),
 (rO 63 (.ext 1 (.tmp 58))),
 (rO 11 (.mv (.tmp 62))),
 (rO 12 (.mv (.tmp 63)))])
 (.seq (.reg [(rO 64 (.mv (.tmp 11))),
 (rO 65 (.bin .neq (.tmp 64) (.const (.int .i64 1)))),
 (rO 66 (.mv (.tmp 65))),
 ⟨(some 67), (.mv (.tmp 12)), (some (66, false))⟩,
 ⟨(some 68), (.bin .neq (.tmp 67) (.const (.int .i64 0))), (some (66, false))⟩,
 (rO 69 (.pick (.tmp 66) (.const (.bool true)) (.tmp 68)))])
 (.cond (.tmp 69) (.seq (.reg [(rO 6 (.mv (.const (.bool false))))])
 .ret)
 .skip)))
 c3_s0)))))
def r3 : List RV := [.tmp 6]
theorem ok3 : FnOk Try.prog 3 184 c3 r3 := ⟨[], _, _, Try.func3, rfl, rfl, by kernel_rfl, by kernel_rfl, by kernel_rfl⟩
/-- vouch/store.New -/
def c7 : C := (.seq (.reg [(rO 2 (.mv (.const (.pointer none))))])
 (.seq (.reg [(rO 3 (.mkmap false)),
 (rO 4 (.mv (.tmp 0))),
 (rO 5 (.mx true (.tmp 4) (.const (.int .i64 1)))),
 (rO 6 (.mx false (.tmp 5) (.const (.int .i64 64)))),
 (rO 7 (.bld [.map none, .int .i64 (0), .int .i64 (0)] [(0, 1, (.tmp 3)), (1, 1, (.tmp 6))])),
 (rO 8 (.box 100 (.tmp 7))),
 (rO 2 (.mv (.tmp 8)))])
 .ret))
def r7 : List RV := [.tmp 2]
theorem ok7 : FnOk Try.prog 7 9 c7 r7 := ⟨[], _, _, Try.func7, rfl, rfl, by kernel_rfl, by kernel_rfl, by kernel_rfl⟩
/-- vouch/stream.New -/
def c8 : C := (.seq (.reg [(rO 0 (.mv (.const (.pointer none))))])
 (.seq (.reg [(rO 1 (.bld [.slice none 0 0] [])),
 (rO 2 (.box 102 (.tmp 1))),
 (rO 0 (.mv (.tmp 2)))])
 .ret))
def r8 : List RV := [.tmp 0]
theorem ok8 : FnOk Try.prog 8 3 c8 r8 := ⟨[], _, _, Try.func8, rfl, rfl, by kernel_rfl, by kernel_rfl, by kernel_rfl⟩
/-- (*vouch/store.Store).Commit -/
def c9 : C := (.seq (.reg [(rO 4 (.mv (.const (.int .i64 0)))),
 (rO 5 (.mv (.const (.int .i64 0))))])
 (.seq (.seq (.reg [(rO 11 (.mv (.tmp 0))),
 (rO 12 (.eqs false .ptr (.tmp 11) (.const (.pointer none))))])
 (.cond (.tmp 12) (.seq (.reg [(rO 4 (.mv (.const (.int .i64 0)))),
 (rO 5 (.mv (.const (.int .i64 3))))])
 .ret)
 .skip))
 (.seq (.seq (.reg [(rO 13 (.mv (.tmp 1))),
 (rO 14 (.call 41 [(.tmp 13)])),
 (rO 6 (.mv (.tmp 14)))])
 (.seq (.reg [(rO 15 (.mv (.tmp 6))),
 (rO 16 (.bin .neq (.tmp 15) (.const (.int .i64 0))))])
 (.cond (.tmp 16) (.seq (.reg [(rO 17 (.mv (.tmp 6))),
 (rO 4 (.mv (.const (.int .i64 0)))),
 (rO 5 (.mv (.tmp 17)))])
 .ret)
 .skip)))
 (.seq (.seq (.reg [(rO 18 (.mv (.tmp 0))),
 (rO 19 (.nilc (.tmp 18))),
 (rO 20 (.fa 2 (.tmp 19))),
 (rO 21 (.ld none (.tmp 20))),
 (rO 22 (.bin .geq (.tmp 21) (.const (.int .i64 1099511627776))))])
 (.cond (.tmp 22) (.seq (.reg [(rO 4 (.mv (.const (.int .i64 0)))),
 (rO 5 (.mv (.const (.int .i64 2))))])
 .ret)
 .skip))
 (.seq (.reg [(rO 23 (.mv (.tmp 0))),
 (rO 24 (.nilc (.tmp 23))),
 (rO 25 (.fa 2 (.tmp 24))),
 (rO 26 (.ld none (.tmp 25))),
 (rO 27 (.bin .add (.tmp 26) (.const (.int .i64 1)))),
 (rO 28 (.nilc (.tmp 23))),
 (rO 29 (.fa 2 (.tmp 28))),
 ⟨none, (.st 1 (.tmp 29) (.tmp 27)), none⟩])
 (.seq (.seq (.reg [(rO 30 (.mv (.tmp 1))),
 (rO 31 (.len true (.tmp 30))),
 (rO 32 (.mv (.const (.int .i64 0))))])
 (.block 0 (.loop (.seq (.reg [(rO 33 (.bin .lss (.tmp 32) (.tmp 31)))])
 (.seq (.cond (.tmp 33) .skip
 (.exit 0))
 (.seq (.block 1 (.seq (.reg [(rO 34 (.ia 3 (.tmp 30) (.tmp 32))),
 (rO 35 (.ld (some 3) (.tmp 34))),
 (rO 8 (.new 33 [.string ⟨#[]⟩, .bool false, .string ⟨#[]⟩])),
 ⟨none, (.st 3 (.tmp 8) (.tmp 35)), none⟩])
 (.seq (.draw [⟨(rO 36 (.mv (.tmp 0))), .p⟩,
 ⟨(rO 37 (.nilc (.tmp 36))), .p⟩,
 ⟨(rO 38 (.fa 0 (.tmp 37))), .p⟩,
 ⟨(rO 39 (.ld none (.tmp 38))), .l⟩,
 ⟨(rO 40 (.fa 0 (.tmp 8))), .p⟩,
 ⟨(rO 41 (.ld none (.tmp 40))), .l⟩,
 ⟨(rO 42 (.look (.get false false) (.agg #[.slice none 0 0, .bool false]) (.tmp 39) (.tmp 41))), .l⟩,
 ⟨(rO 9 (.new 106 [.slice none 0 0, .bool false])), .f⟩,
 ⟨⟨none, (.st 2 (.tmp 9) (.tmp 42)), none⟩, .m⟩])
 (.seq (.draw [⟨(rO 43 (.fa 0 (.tmp 9))), .p⟩,
 ⟨(rO 44 (.ld none (.tmp 43))), .l⟩,
 ⟨(rO 45 (.call 42 [(.tmp 44)])), .g⟩,
 ⟨(rO 46 (.mv (.tmp 0))), .p⟩,
 ⟨(rO 47 (.nilc (.tmp 46))), .p⟩,
 ⟨(rO 48 (.fa 2 (.tmp 47))), .p⟩,
 ⟨(rO 49 (.ld none (.tmp 48))), .l⟩,
 ⟨(rO 50 (.fa 1 (.tmp 8))), .p⟩,
 ⟨(rO 51 (.ld (some 2) (.tmp 50))), .l⟩,
 ⟨(rO 52 (.bld [.int .i64 (0), .bool false, .string ⟨#[]⟩] [(0, 1, (.tmp 49)), (1, 2, (.tmp 51))])), .p⟩,
 ⟨(rO 53 (.lit 109 1 3 [.int .i64 (0), .bool false, .string ⟨#[]⟩] [(0, 3, (.tmp 52))])), .f⟩,
 ⟨(rO 54 (.app 109 3 32 (.tmp 45) (.tmp 53))), .m⟩,
 ⟨(rO 10 (.mv (.tmp 54))), .p⟩])
 (.seq (.seq (.reg [(rO 55 (.mv (.tmp 10))),
 (rO 56 (.len true (.tmp 55))),
 (rO 57 (.mv (.tmp 0))),
 (rO 58 (.nilc (.tmp 57))),
 (rO 59 (.fa 1 (.tmp 58))),
 (rO 60 (.ld none (.tmp 59))),
 (rO 61 (.bin .gtr (.tmp 56) (.tmp 60)))])
 (.cond (.tmp 61) (.reg [(rO 62 (.mv (.tmp 10))),
 (rO 63 (.mv (.tmp 10))),
 (rO 64 (.len true (.tmp 63))),
 (rO 65 (.mv (.tmp 0))),
 (rO 66 (.nilc (.tmp 65))),
 (rO 67 (.fa 1 (.tmp 66))),
 (rO 68 (.ld none (.tmp 67))),
 (rO 69 (.bin .sub (.tmp 64) (.tmp 68))),
 (rO 70 (.fnl (.sll 3) [(.tmp 62), (.tmp 69)])),
 (rO 10 (.mv (.tmp 70))),
 (rO 71 (.fa 1 (.tmp 9))),
 ⟨none, (.st 1 (.tmp 71) (.const (.bool true))), none⟩])
 .skip))
 (.draw [⟨(rO 72 (.mv (.tmp 0))), .p⟩,
 ⟨(rO 73 (.nilc (.tmp 72))), .p⟩,
 ⟨(rO 74 (.fa 0 (.tmp 73))), .p⟩,
 ⟨(rO 75 (.ld none (.tmp 74))), .l⟩,
 ⟨(rO 76 (.fa 0 (.tmp 8))), .p⟩,
 ⟨(rO 77 (.ld none (.tmp 76))), .l⟩,
 ⟨(rO 78 (.mv (.tmp 10))), .p⟩,
 ⟨(rO 79 (.fa 1 (.tmp 9))), .p⟩,
 ⟨(rO 80 (.ld none (.tmp 79))), .l⟩,
 ⟨(rO 81 (.bld [.slice none 0 0, .bool false] [(0, 1, (.tmp 78)), (1, 1, (.tmp 80))])), .p⟩,
 ⟨⟨none, (.mset (.put false) (.tmp 75) (.tmp 77) (.tmp 81)), none⟩, .m⟩]))))))
 (.reg [(rO 82 (.bin .add (.tmp 32) (.const (.int .i64 1)))),
 (rO 32 (.mv (.tmp 82)))])))))))
 (.seq (.reg [(rO 83 (.mv (.tmp 0))),
 (rO 84 (.nilc (.tmp 83))),
 (rO 85 (.fa 2 (.tmp 84))),
 (rO 86 (.ld none (.tmp 85))),
 (rO 4 (.mv (.tmp 86))),
 (rO 5 (.mv (.const (.int .i64 0))))])
 .ret)))))))
def r9 : List RV := [.tmp 4, .tmp 5]
theorem ok9 : FnOk Try.prog 9 87 c9 r9 := ⟨[], _, _, Try.func9, rfl, rfl, by kernel_rfl, by kernel_rfl, by kernel_rfl⟩
/-- (*vouch/stream.Log).Append -/
def c10 : C := (.seq (.reg [(rO 4 (.mv (.const (.int .i64 0)))),
 (rO 5 (.mv (.const (.int .i64 0))))])
 (.seq (.seq (.reg [(rO 7 (.mv (.tmp 0))),
 (rO 8 (.eqs false .ptr (.tmp 7) (.const (.pointer none))))])
 (.cond (.tmp 8) (.seq (.reg [(rO 4 (.mv (.const (.int .i64 0)))),
 (rO 5 (.mv (.const (.int .i64 3))))])
 .ret)
 .skip))
 (.seq (.seq (.reg [(rO 9 (.mv (.tmp 1))),
 (rO 10 (.call 43 [(.tmp 9)])),
 (rO 6 (.mv (.tmp 10)))])
 (.seq (.reg [(rO 11 (.mv (.tmp 6))),
 (rO 12 (.bin .neq (.tmp 11) (.const (.int .i64 0))))])
 (.cond (.tmp 12) (.seq (.reg [(rO 13 (.mv (.tmp 6))),
 (rO 4 (.mv (.const (.int .i64 0)))),
 (rO 5 (.mv (.tmp 13)))])
 .ret)
 .skip)))
 (.seq (.seq (.reg [(rO 14 (.mv (.tmp 0))),
 (rO 15 (.call 13 [(.tmp 14)])),
 (rO 16 (.bin .geq (.tmp 15) (.const (.int .i64 1099511627776))))])
 (.cond (.tmp 16) (.seq (.reg [(rO 4 (.mv (.const (.int .i64 0)))),
 (rO 5 (.mv (.const (.int .i64 2))))])
 .ret)
 .skip))
 (.seq (.draw [⟨(rO 17 (.mv (.tmp 0))), .p⟩,
 ⟨(rO 18 (.mv (.tmp 0))), .p⟩,
 ⟨(rO 19 (.nilc (.tmp 18))), .p⟩,
 ⟨(rO 20 (.fa 0 (.tmp 19))), .p⟩,
 ⟨(rO 21 (.ld none (.tmp 20))), .l⟩,
 ⟨(rO 22 (.mv (.tmp 1))), .p⟩,
 ⟨(rO 23 (.call 44 [(.tmp 22)])), .g⟩,
 ⟨(rO 24 (.lit 36 1 1 [.slice none 0 0] [(0, 1, (.tmp 23))])), .f⟩,
 ⟨(rO 25 (.app 36 1 24 (.tmp 21) (.tmp 24))), .m⟩,
 ⟨(rO 26 (.nilc (.tmp 17))), .p⟩,
 ⟨(rO 27 (.fa 0 (.tmp 26))), .p⟩,
 ⟨⟨none, (.st 1 (.tmp 27) (.tmp 25)), none⟩, .m⟩])
 (.seq (.reg [(rO 28 (.mv (.tmp 0))),
 (rO 29 (.call 13 [(.tmp 28)])),
 (rO 4 (.mv (.tmp 29))),
 (rO 5 (.mv (.const (.int .i64 0))))])
 .ret))))))
def r10 : List RV := [.tmp 4, .tmp 5]
theorem ok10 : FnOk Try.prog 10 30 c10 r10 := ⟨[], _, _, Try.func10, rfl, rfl, by kernel_rfl, by kernel_rfl, by kernel_rfl⟩
/-- vouch/vouchtop.keys -/
def c11 : C := (.seq (.reg [(rO 2 (.mv (.const (.slice none 0 0))))])
 (.seq (.reg [(rO 3 (.mv (.const (.slice none 0 0))))])
 (.seq (.seq (.reg [(rO 4 (.mv (.const (.int .i64 0))))])
 (.block 0 (.loop (.seq (.seq (.reg [(rO 5 (.mv (.tmp 4))),
 (rO 6 (.mv (.tmp 0))),
 (rO 7 (.len true (.tmp 6))),
 (rO 8 (.bin .lss (.tmp 5) (.tmp 7)))])
 (.cond (.tmp 8) .skip
 (.exit 0)))
 (.seq (.block 1 (.reg [(rO 11 (.mv (.tmp 3))),
 (rO 12 (.mv (.tmp 0))),
 (rO 13 (.mv (.tmp 4))),
 (rO 14 (.ia 3 (.tmp 12) (.tmp 13))),
 (rO 15 (.fa 0 (.tmp 14))),
 (rO 16 (.ld none (.tmp 15))),
 (rO 17 (.lit 9 1 1 [.string ⟨#[]⟩] [(0, 1, (.tmp 16))])),
 (rO 18 (.app 9 1 16 (.tmp 11) (.tmp 17))),
 (rO 3 (.mv (.tmp 18)))]))
 (.reg [(rO 9 (.mv (.tmp 4))),
 (rO 10 (.bin .add (.tmp 9) (.const (.int .i64 1)))),
 (rO 4 (.mv (.tmp 10)))]))))))
 (.seq (.reg [(rO 19 (.mv (.tmp 3))),
 (rO 2 (.mv (.tmp 19)))])
 .ret))))
def r11 : List RV := [.tmp 2]
theorem ok11 : FnOk Try.prog 11 20 c11 r11 := ⟨[], _, _, Try.func11, rfl, rfl, by kernel_rfl, by kernel_rfl, by kernel_rfl⟩
/-- (*vouch/store.Store).Read -/
def c12 : C := (.seq (.reg [(rO 5 (.box 2 (.tmp 2))),
 (rO 6 (.new 39 [.string ⟨#[]⟩, .bool false, .string ⟨#[]⟩, .int .i64 (0), .int .i64 (0)])),
 (rO 7 (.mv (.const (.int .i64 0))))])
 (.seq (.block 0 (.seq (.reg [(rO 12 (.mv (.tmp 0))),
 (rO 13 (.eqs false .ptr (.tmp 12) (.const (.pointer none)))),
 (rO 11 (.mv (.tmp 13)))])
 (.cond (.tmp 11) (.seq (.reg [(rO 14 (.bld [.string ⟨#[]⟩, .bool false, .string ⟨#[]⟩, .int .i64 (0), .int .i64 (0)] [])),
 ⟨none, (.st 5 (.tmp 6) (.tmp 14)), none⟩,
 (rO 7 (.mv (.const (.int .i64 3))))])
 .ret)
 (.seq (.reg [(rO 16 (.mv (.tmp 1))),
 (rO 17 (.call 45 [(.tmp 16)])),
 (rO 18 (.nt (.tmp 17))),
 (rO 19 (.mv (.tmp 18))),
 ⟨(some 20), (.ld none (.tmp 5)), (some (19, false))⟩,
 ⟨(some 21), (.bin .lss (.tmp 20) (.const (.int .i64 0))), (some (19, false))⟩,
 (rO 22 (.pick (.tmp 19) (.const (.bool true)) (.tmp 21))),
 (rO 15 (.mv (.tmp 22)))])
 (.cond (.tmp 15) (.seq (.reg [(rO 23 (.bld [.string ⟨#[]⟩, .bool false, .string ⟨#[]⟩, .int .i64 (0), .int .i64 (0)] [])),
 ⟨none, (.st 5 (.tmp 6) (.tmp 23)), none⟩,
 (rO 7 (.mv (.const (.int .i64 1))))])
 .ret)
 (.seq (.drawx [⟨(rO 25 (.ld none (.tmp 5))), .l⟩,
 ⟨(rO 26 (.mv (.tmp 0))), .p⟩,
 ⟨(rO 27 (.nilc (.tmp 26))), .p⟩,
 ⟨(rO 28 (.fa 2 (.tmp 27))), .p⟩,
 ⟨(rO 29 (.ld none (.tmp 28))), .l⟩,
 ⟨(rO 30 (.bin .gtr (.tmp 25) (.tmp 29))), .p⟩,
 ⟨(rO 24 (.mv (.tmp 30))), .p⟩])
 (.cond (.tmp 24) (.seq (.reg [(rO 31 (.bld [.string ⟨#[]⟩, .bool false, .string ⟨#[]⟩, .int .i64 (0), .int .i64 (0)] [])),
 ⟨none, (.st 5 (.tmp 6) (.tmp 31)), none⟩,
 (rO 7 (.mv (.const (.int .i64 21))))])
 .ret)
 (.seq (.drawx [⟨(rO 33 (.ld none (.tmp 5))), .l⟩,
 ⟨(rO 34 (.mv (.tmp 0))), .p⟩,
 ⟨(rO 35 (.mv (.tmp 1))), .p⟩,
 ⟨(rO 36 (.call 46 [(.tmp 34), (.tmp 35)])), .g⟩,
 ⟨(rO 37 (.bin .lss (.tmp 33) (.tmp 36))), .p⟩,
 ⟨(rO 32 (.mv (.tmp 37))), .p⟩])
 (.cond (.tmp 32) (.seq (.reg [(rO 38 (.bld [.string ⟨#[]⟩, .bool false, .string ⟨#[]⟩, .int .i64 (0), .int .i64 (0)] [])),
 ⟨none, (.st 5 (.tmp 6) (.tmp 38)), none⟩,
 (rO 7 (.mv (.const (.int .i64 20))))])
 .ret)
 .skip)))))))))
 (.seq (.reg [(rO 39 (.mv (.tmp 0))),
 (rO 40 (.nilc (.tmp 39))),
 (rO 41 (.fa 0 (.tmp 40))),
 (rO 42 (.ld none (.tmp 41))),
 (rO 43 (.mv (.tmp 1))),
 (rO 44 (.look (.get false false) (.agg #[.slice none 0 0, .bool false]) (.tmp 42) (.tmp 43))),
 (rO 45 (.fld none 0 (.tmp 44))),
 (rO 8 (.new 104 [.slice none 0 0])),
 ⟨none, (.st 1 (.tmp 8) (.tmp 45)), none⟩])
 (.seq (.reg [(rO 46 (.ld none (.tmp 8))),
 (rO 47 (.len true (.tmp 46))),
 (rO 48 (.fnl (.clo 48) [(.tmp 8), (.tmp 5)])),
 (rO 49 (.call 47 [(.tmp 47), (.tmp 48)])),
 (rO 9 (.mv (.tmp 49)))])
 (.seq (.reg [(rO 50 (.mv (.tmp 1))),
 (rO 51 (.bld [.string ⟨#[]⟩, .bool false, .string ⟨#[]⟩, .int .i64 (0), .int .i64 (0)] [(0, 1, (.tmp 50)), (4, 1, (.const (.int .i64 4611686018427387904)))])),
 (rO 10 (.new 39 [.string ⟨#[]⟩, .bool false, .string ⟨#[]⟩, .int .i64 (0), .int .i64 (0)])),
 ⟨none, (.st 5 (.tmp 10) (.tmp 51)), none⟩])
 (.seq (.seq (.reg [(rO 52 (.mv (.tmp 9))),
 (rO 53 (.ld none (.tmp 8))),
 (rO 54 (.len true (.tmp 53))),
 (rO 55 (.bin .lss (.tmp 52) (.tmp 54)))])
 (.cond (.tmp 55) (.reg [(rO 56 (.ld none (.tmp 8))),
 (rO 57 (.mv (.tmp 9))),
 (rO 58 (.ia 3 (.tmp 56) (.tmp 57))),
 (rO 59 (.fa 0 (.tmp 58))),
 (rO 60 (.ld none (.tmp 59))),
 (rO 61 (.fa 4 (.tmp 10))),
 ⟨none, (.st 1 (.tmp 61) (.tmp 60)), none⟩])
 .skip))
 (.seq (.seq (.reg [(rO 62 (.mv (.tmp 9))),
 (rO 63 (.bin .gtr (.tmp 62) (.const (.int .i64 0))))])
 (.cond (.tmp 63) (.drawx [⟨(rO 64 (.ld none (.tmp 8))), .l⟩,
 ⟨(rO 65 (.mv (.tmp 9))), .p⟩,
 ⟨(rO 66 (.bin .sub (.tmp 65) (.const (.int .i64 1)))), .p⟩,
 ⟨(rO 67 (.ia 3 (.tmp 64) (.tmp 66))), .p⟩,
 ⟨(rO 68 (.fa 0 (.tmp 67))), .p⟩,
 ⟨(rO 69 (.ld none (.tmp 68))), .l⟩,
 ⟨(rO 70 (.ld none (.tmp 8))), .l⟩,
 ⟨(rO 71 (.mv (.tmp 9))), .p⟩,
 ⟨(rO 72 (.bin .sub (.tmp 71) (.const (.int .i64 1)))), .p⟩,
 ⟨(rO 73 (.ia 3 (.tmp 70) (.tmp 72))), .p⟩,
 ⟨(rO 74 (.fa 1 (.tmp 73))), .p⟩,
 ⟨(rO 75 (.ld (some 2) (.tmp 74))), .l⟩,
 ⟨(rO 76 (.fa 3 (.tmp 10))), .p⟩,
 ⟨⟨none, (.st 1 (.tmp 76) (.tmp 69)), none⟩, .w⟩,
 ⟨(rO 77 (.fa 1 (.tmp 10))), .p⟩,
 ⟨⟨none, (.st 2 (.tmp 77) (.tmp 75)), none⟩, .m⟩])
 .skip))
 (.seq (.reg [(rO 78 (.ld (some 5) (.tmp 10))),
 ⟨none, (.st 5 (.tmp 6) (.tmp 78)), none⟩,
 (rO 7 (.mv (.const (.int .i64 0))))])
 .ret))))))))
def r12 : List RV := [.agg 6 5, .tmp 7]
theorem ok12 : FnOk Try.prog 12 79 c12 r12 := ⟨[999999], _, _, Try.func12, rfl, rfl, by kernel_rfl, by kernel_rfl, by kernel_rfl⟩
/-- (*vouch/stream.Log).Last -/
def c13 : C := (.seq (.reg [(rO 2 (.mv (.const (.int .i64 0))))])
 (.seq (.seq (.reg [(rO 3 (.mv (.tmp 0))),
 (rO 4 (.eqs false .ptr (.tmp 3) (.const (.pointer none))))])
 (.cond (.tmp 4) (.seq (.reg [(rO 2 (.mv (.const (.int .i64 0))))])
 .ret)
 .skip))
 (.seq (.reg [(rO 5 (.mv (.tmp 0))),
 (rO 6 (.nilc (.tmp 5))),
 (rO 7 (.fa 0 (.tmp 6))),
 (rO 8 (.ld none (.tmp 7))),
 (rO 9 (.len true (.tmp 8))),
 (rO 2 (.mv (.tmp 9)))])
 .ret)))
def r13 : List RV := [.tmp 2]
theorem ok13 : FnOk Try.prog 13 10 c13 r13 := ⟨[], _, _, Try.func13, rfl, rfl, by kernel_rfl, by kernel_rfl, by kernel_rfl⟩
/-- (*vouch/stream.Log).First -/
def c14 : C := (.seq (.reg [(rO 4 (.box 9 (.tmp 1))),
 (rO 6 (.mv (.const (.int .i64 0)))),
 (rO 7 (.mv (.const (.bool false))))])
 (.seq (.seq (.reg [(rO 10 (.mv (.tmp 0))),
 (rO 11 (.eqs false .ptr (.tmp 10) (.const (.pointer none)))),
 (rO 12 (.mv (.tmp 11))),
 ⟨(some 13), (.mv (.tmp 2)), (some (12, false))⟩,
 ⟨(some 14), (.mv (.tmp 0)), (some (12, false))⟩,
 ⟨(some 15), (.call 13 [(.tmp 14)]), (some (12, false))⟩,
 ⟨(some 16), (.bin .geq (.tmp 13) (.tmp 15)), (some (12, false))⟩,
 (rO 17 (.pick (.tmp 12) (.const (.bool true)) (.tmp 16)))])
 (.cond (.tmp 17) (.seq (.reg [(rO 6 (.mv (.const (.int .i64 0)))),
 (rO 7 (.mv (.const (.bool false))))])
 .ret)
 .skip))
 (.seq (.reg [(rO 18 (.mv (.tmp 2))),
 (rO 19 (.mx true (.tmp 18) (.const (.int .i64 0)))),
 (rO 8 (.mv (.tmp 19)))])
 (.seq (.reg [(rO 20 (.mv (.tmp 0))),
 (rO 21 (.nilc (.tmp 20))),
 (rO 22 (.fa 0 (.tmp 21))),
 (rO 23 (.ld none (.tmp 22))),
 (rO 24 (.mv (.tmp 8))),
 (rO 25 (.fnl (.sll 1) [(.tmp 23), (.tmp 24)])),
 (rO 26 (.fnl (.clo 50) [(.tmp 4)])),
 (rO 27 (.call 49 [(.tmp 25), (.tmp 26)])),
 (rO 9 (.mv (.tmp 27)))])
 (.seq (.seq (.reg [(rO 28 (.mv (.tmp 9))),
 (rO 29 (.bin .lss (.tmp 28) (.const (.int .i64 0))))])
 (.cond (.tmp 29) (.seq (.reg [(rO 6 (.mv (.const (.int .i64 0)))),
 (rO 7 (.mv (.const (.bool false))))])
 .ret)
 .skip))
 (.seq (.reg [(rO 30 (.mv (.tmp 8))),
 (rO 31 (.mv (.tmp 9))),
 (rO 32 (.bin .add (.tmp 30) (.tmp 31))),
 (rO 33 (.bin .add (.tmp 32) (.const (.int .i64 1)))),
 (rO 6 (.mv (.tmp 33))),
 (rO 7 (.mv (.const (.bool true))))])
 .ret))))))
def r14 : List RV := [.tmp 6, .tmp 7]
theorem ok14 : FnOk Try.prog 14 34 c14 r14 := ⟨[], _, _, Try.func14, rfl, rfl, by kernel_rfl, by kernel_rfl, by kernel_rfl⟩
/-- vouch/store.check -/
def c41 : C := (.seq (.reg [(rO 2 (.mv (.const (.int .i64 0))))])
 (.seq (.seq (.reg [(rO 9 (.mv (.tmp 0))),
 (rO 10 (.len true (.tmp 9))),
 (rO 11 (.bin .eql (.tmp 10) (.const (.int .i64 0)))),
 (rO 12 (.mv (.tmp 11))),
 ⟨(some 13), (.mv (.tmp 0)), (some (12, false))⟩,
 ⟨(some 14), (.len true (.tmp 13)), (some (12, false))⟩,
 ⟨(some 15), (.bin .gtr (.tmp 14) (.const (.int .i64 8))), (some (12, false))⟩,
 (rO 16 (.pick (.tmp 12) (.const (.bool true)) (.tmp 15)))])
 (.cond (.tmp 16) (.seq (.reg [(rO 2 (.mv (.const (.int .i64 1))))])
 .ret)
 .skip))
 (.seq (.reg [(rO 17 (.mkmap false)),
 (rO 3 (.mv (.tmp 17)))])
 (.seq (.reg [(rO 4 (.mv (.const (.bool false))))])
 (.seq (.seq (.reg [(rO 18 (.mv (.tmp 0))),
 (rO 19 (.len true (.tmp 18))),
 (rO 20 (.mv (.const (.int .i64 0))))])
 (.block 0 (.loop (.seq (.reg [(rO 21 (.bin .lss (.tmp 20) (.tmp 19)))])
 (.seq (.cond (.tmp 21) .skip
 (.exit 0))
 (.seq (.block 1 (.seq (.reg [(rO 22 (.mv (.tmp 20))),
 (rO 23 (.ia 3 (.tmp 18) (.tmp 20))),
 (rO 24 (.ld (some 3) (.tmp 23))),
 (rO 6 (.new 33 [.string ⟨#[]⟩, .bool false, .string ⟨#[]⟩])),
 (rO 5 (.mv (.tmp 22))),
 ⟨none, (.st 3 (.tmp 6) (.tmp 24)), none⟩])
 (.seq (.seq (.reg [(rO 25 (.ld (some 3) (.tmp 6))),
 (rO 26 (.call 74 [(.tmp 25)])),
 (rO 27 (.nt (.tmp 26)))])
 (.cond (.tmp 27) (.seq (.reg [(rO 2 (.mv (.const (.int .i64 1))))])
 .ret)
 .skip))
 (.seq (.reg [(rO 29 (.mv (.tmp 3))),
 (rO 30 (.fa 0 (.tmp 6))),
 (rO 31 (.ld none (.tmp 30))),
 (rO 32 (.look (.get false true) (.int .i64 (0)) (.tmp 29) (.tmp 31))),
 (rO 28 (.mv (.tmp 32))),
 (rO 33 (.ext 0 (.tmp 28))),
 (rO 34 (.ext 1 (.tmp 28))),
 (rO 7 (.mv (.tmp 33))),
 (rO 8 (.mv (.tmp 34)))])
 (.seq (.reg [(rO 35 (.mv (.tmp 4))),
 (rO 36 (.mv (.tmp 35))),
 ⟨(some 37), (.mv (.tmp 8)), (some (36, false))⟩,
 (rO 38 (.pick (.tmp 36) (.const (.bool true)) (.tmp 37))),
 (rO 4 (.mv (.tmp 38)))])
 (.reg [(rO 39 (.mv (.tmp 3))),
 (rO 40 (.fa 0 (.tmp 6))),
 (rO 41 (.ld none (.tmp 40))),
 (rO 42 (.mv (.tmp 5))),
 ⟨none, (.mset (.put false) (.tmp 39) (.tmp 41) (.tmp 42)), none⟩]))))))
 (.reg [(rO 43 (.bin .add (.tmp 20) (.const (.int .i64 1)))),
 (rO 20 (.mv (.tmp 43)))])))))))
 (.seq (.seq (.reg [(rO 44 (.mv (.tmp 4)))])
 (.cond (.tmp 44) (.seq (.reg [(rO 2 (.mv (.const (.int .i64 22))))])
 .ret)
 .skip))
 (.seq (.reg [(rO 2 (.mv (.const (.int .i64 0))))])
 .ret)))))))
def r41 : List RV := [.tmp 2]
theorem ok41 : FnOk Try.prog 41 45 c41 r41 := ⟨[], _, _, Try.func41, rfl, rfl, by kernel_rfl, by kernel_rfl, by kernel_rfl⟩
/-- slices.Clone[[]vouch/api.Version,vouch/api.Version] -/
def c42 : C := (.seq (.reg [(rO 2 (.mv (.const (.slice none 0 0))))])
 (.seq (.seq (.reg [(rO 3 (.mv (.tmp 0))),
 (rO 4 (.eqs false .slice (.tmp 3) (.const (.slice none 0 0))))])
 (.cond (.tmp 4) (.seq (.reg [(rO 2 (.mv (.const (.slice none 0 0))))])
 .ret)
 .skip))
 (.seq (.reg [(rO 5 (.lit 109 0 3 [] [])),
 (rO 6 (.mv (.tmp 0))),
 (rO 7 (.app 109 3 32 (.tmp 5) (.tmp 6))),
 (rO 2 (.mv (.tmp 7)))])
 .ret)))
def r42 : List RV := [.tmp 2]
theorem ok42 : FnOk Try.prog 42 8 c42 r42 := ⟨[], _, _, Try.func42, rfl, rfl, by kernel_rfl, by kernel_rfl, by kernel_rfl⟩
/-- vouch/stream.check -/
def c43 : C := (.seq (.reg [(rO 2 (.mv (.const (.int .i64 0))))])
 (.seq (.seq (.reg [(rO 6 (.mv (.tmp 0))),
 (rO 7 (.len true (.tmp 6))),
 (rO 8 (.bin .eql (.tmp 7) (.const (.int .i64 0)))),
 (rO 9 (.mv (.tmp 8))),
 ⟨(some 10), (.mv (.tmp 0)), (some (9, false))⟩,
 ⟨(some 11), (.len true (.tmp 10)), (some (9, false))⟩,
 ⟨(some 12), (.bin .gtr (.tmp 11) (.const (.int .i64 8))), (some (9, false))⟩,
 (rO 13 (.pick (.tmp 9) (.const (.bool true)) (.tmp 12)))])
 (.cond (.tmp 13) (.seq (.reg [(rO 2 (.mv (.const (.int .i64 1))))])
 .ret)
 .skip))
 (.seq (.seq (.reg [(rO 14 (.mv (.tmp 0))),
 (rO 15 (.len true (.tmp 14))),
 (rO 16 (.mv (.const (.int .i64 0))))])
 (.block 0 (.loop (.seq (.reg [(rO 17 (.bin .lss (.tmp 16) (.tmp 15)))])
 (.seq (.cond (.tmp 17) .skip
 (.exit 0))
 (.seq (.block 1 (.seq (.reg [(rO 18 (.ia 1 (.tmp 14) (.tmp 16))),
 (rO 19 (.ld none (.tmp 18))),
 (rO 4 (.mv (.tmp 19)))])
 (.seq (.reg [(rO 20 (.mv (.tmp 4))),
 (rO 21 (.bin .eql (.tmp 20) (.const (.string { data := #[] })))),
 (rO 22 (.mv (.tmp 21))),
 ⟨(some 23), (.mv (.tmp 4)), (some (22, false))⟩,
 ⟨(some 24), (.len false (.tmp 23)), (some (22, false))⟩,
 ⟨(some 25), (.bin .gtr (.tmp 24) (.const (.int .i64 32))), (some (22, false))⟩,
 (rO 26 (.pick (.tmp 22) (.const (.bool true)) (.tmp 25)))])
 (.cond (.tmp 26) (.seq (.reg [(rO 2 (.mv (.const (.int .i64 1))))])
 .ret)
 .skip))))
 (.reg [(rO 27 (.bin .add (.tmp 16) (.const (.int .i64 1)))),
 (rO 16 (.mv (.tmp 27)))])))))))
 (.seq (.reg [(rO 28 (.mv (.tmp 0))),
 (rO 29 (.call 75 [(.tmp 28)])),
 (rO 30 (.call 69 [(.tmp 29)])),
 (rO 5 (.mv (.tmp 30)))])
 (.seq (.seq (.reg [(rO 31 (.mv (.tmp 5))),
 (rO 32 (.call 76 [(.tmp 31)])),
 (rO 33 (.len true (.tmp 32))),
 (rO 34 (.mv (.tmp 0))),
 (rO 35 (.len true (.tmp 34))),
 (rO 36 (.bin .lss (.tmp 33) (.tmp 35)))])
 (.cond (.tmp 36) (.seq (.reg [(rO 2 (.mv (.const (.int .i64 22))))])
 .ret)
 .skip))
 (.seq (.reg [(rO 2 (.mv (.const (.int .i64 0))))])
 .ret))))))
def r43 : List RV := [.tmp 2]
theorem ok43 : FnOk Try.prog 43 37 c43 r43 := ⟨[], _, _, Try.func43, rfl, rfl, by kernel_rfl, by kernel_rfl, by kernel_rfl⟩
/-- slices.Clone[[]string,string] -/
def c44 : C := (.seq (.reg [(rO 2 (.mv (.const (.slice none 0 0))))])
 (.seq (.seq (.reg [(rO 3 (.mv (.tmp 0))),
 (rO 4 (.eqs false .slice (.tmp 3) (.const (.slice none 0 0))))])
 (.cond (.tmp 4) (.seq (.reg [(rO 2 (.mv (.const (.slice none 0 0))))])
 .ret)
 .skip))
 (.seq (.reg [(rO 5 (.lit 9 0 1 [] [])),
 (rO 6 (.mv (.tmp 0))),
 (rO 7 (.app 9 1 16 (.tmp 5) (.tmp 6))),
 (rO 2 (.mv (.tmp 7)))])
 .ret)))
def r44 : List RV := [.tmp 2]
theorem ok44 : FnOk Try.prog 44 8 c44 r44 := ⟨[], _, _, Try.func44, rfl, rfl, by kernel_rfl, by kernel_rfl, by kernel_rfl⟩
/-- vouch/store.goodKey -/
def c45 : C := (.seq (.reg [(rO 2 (.mv (.const (.bool false))))])
 (.seq (.reg [(rO 3 (.mv (.tmp 0))),
 (rO 4 (.len false (.tmp 3))),
 (rO 5 (.bin .geq (.tmp 4) (.const (.int .i64 1)))),
 (rO 6 (.mv (.tmp 5))),
 ⟨(some 7), (.mv (.tmp 0)), (some (6, true))⟩,
 ⟨(some 8), (.len false (.tmp 7)), (some (6, true))⟩,
 ⟨(some 9), (.bin .leq (.tmp 8) (.const (.int .i64 32))), (some (6, true))⟩,
 (rO 10 (.pick (.tmp 6) (.tmp 9) (.const (.bool false)))),
 (rO 2 (.mv (.tmp 10)))])
 .ret))
def r45 : List RV := [.tmp 2]
theorem ok45 : FnOk Try.prog 45 11 c45 r45 := ⟨[], _, _, Try.func45, rfl, rfl, by kernel_rfl, by kernel_rfl, by kernel_rfl⟩
/-- (*vouch/store.Store).Oldest -/
def c46 : C := (.seq (.reg [(rO 4 (.mv (.const (.int .i64 0))))])
 (.seq (.seq (.reg [(rO 5 (.mv (.tmp 0))),
 (rO 6 (.eqs false .ptr (.tmp 5) (.const (.pointer none)))),
 (rO 7 (.mv (.tmp 6))),
 ⟨(some 8), (.mv (.tmp 0)), (some (7, false))⟩,
 ⟨(some 9), (.nilc (.tmp 8)), (some (7, false))⟩,
 ⟨(some 10), (.fa 0 (.tmp 9)), (some (7, false))⟩,
 ⟨(some 11), (.ld none (.tmp 10)), (some (7, false))⟩,
 ⟨(some 12), (.mv (.tmp 1)), (some (7, false))⟩,
 ⟨(some 13), (.look (.get false false) (.agg #[.slice none 0 0, .bool false]) (.tmp 11) (.tmp 12)), (some (7, false))⟩,
 ⟨(some 14), (.fld none 1 (.tmp 13)), (some (7, false))⟩,
 ⟨(some 15), (.nt (.tmp 14)), (some (7, false))⟩,
 (rO 16 (.pick (.tmp 7) (.const (.bool true)) (.tmp 15)))])
 (.cond (.tmp 16) (.seq (.reg [(rO 4 (.mv (.const (.int .i64 0))))])
 .ret)
 .skip))
 (.seq (.reg [(rO 17 (.mv (.tmp 0))),
 (rO 18 (.nilc (.tmp 17))),
 (rO 19 (.fa 0 (.tmp 18))),
 (rO 20 (.ld none (.tmp 19))),
 (rO 21 (.mv (.tmp 1))),
 (rO 22 (.look (.get false false) (.agg #[.slice none 0 0, .bool false]) (.tmp 20) (.tmp 21))),
 (rO 23 (.fld none 0 (.tmp 22))),
 (rO 24 (.ia 3 (.tmp 23) (.const (.int .i64 0)))),
 (rO 25 (.fa 0 (.tmp 24))),
 (rO 26 (.ld none (.tmp 25))),
 (rO 4 (.mv (.tmp 26)))])
 .ret)))
def r46 : List RV := [.tmp 4]
theorem ok46 : FnOk Try.prog 46 27 c46 r46 := ⟨[], _, _, Try.func46, rfl, rfl, by kernel_rfl, by kernel_rfl, by kernel_rfl⟩
/-- sort.Search -/
def c47 : C := (.seq (.reg [(rO 4 (.mv (.const (.int .i64 0))))])
 (.seq (.reg [(rO 8 (.mv (.tmp 0))),
 (rO 5 (.mv (.const (.int .i64 0)))),
 (rO 6 (.mv (.tmp 8)))])
 (.seq (.block 0 (.loop (.seq (.seq (.reg [(rO 9 (.mv (.tmp 5))),
 (rO 10 (.mv (.tmp 6))),
 (rO 11 (.bin .lss (.tmp 9) (.tmp 10)))])
 (.cond (.tmp 11) .skip
 (.exit 0)))
 (.block 1 (.seq (.reg [(rO 12 (.mv (.tmp 5))),
 (rO 13 (.mv (.tmp 6))),
 (rO 14 (.bin .add (.tmp 12) (.tmp 13))),
 (rO 15 (.conv .u64 (.tmp 14))),
 (rO 16 (.bin .shr (.tmp 15) (.const (.int .u64 1)))),
 (rO 17 (.conv .i64 (.tmp 16))),
 (rO 7 (.mv (.tmp 17)))])
 (.seq (.reg [(rO 18 (.mv (.tmp 1))),
 (rO 19 (.mv (.tmp 7))),
 (rO 20 (.callv (.tmp 18) [(.tmp 19)])),
 (rO 21 (.nt (.tmp 20)))])
 (.cond (.tmp 21) (.reg [(rO 22 (.mv (.tmp 7))),
 (rO 23 (.bin .add (.tmp 22) (.const (.int .i64 1)))),
 (rO 5 (.mv (.tmp 23)))])
 (.reg [(rO 24 (.mv (.tmp 7))),
 (rO 6 (.mv (.tmp 24)))]))))))))
 (.seq (.reg [(rO 25 (.mv (.tmp 5))),
 (rO 4 (.mv (.tmp 25)))])
 .ret))))
def r47 : List RV := [.tmp 4]
theorem ok47 : FnOk Try.prog 47 26 c47 r47 := ⟨[], _, _, Try.func47, rfl, rfl, by kernel_rfl, by kernel_rfl, by kernel_rfl⟩
/-- (*vouch/store.Store).Read$1 -/
def c48 : C := (.seq (.reg [(rO 4 (.mv (.const (.bool false))))])
 (.seq (.draw [⟨(rO 5 (.ld none (.tmp 1))), .l⟩,
 ⟨(rO 6 (.mv (.tmp 0))), .p⟩,
 ⟨(rO 7 (.ia 3 (.tmp 5) (.tmp 6))), .p⟩,
 ⟨(rO 8 (.fa 0 (.tmp 7))), .p⟩,
 ⟨(rO 9 (.ld none (.tmp 8))), .l⟩,
 ⟨(rO 10 (.ld none (.tmp 2))), .l⟩,
 ⟨(rO 11 (.bin .gtr (.tmp 9) (.tmp 10))), .p⟩,
 ⟨(rO 4 (.mv (.tmp 11))), .p⟩])
 .ret))
def r48 : List RV := [.tmp 4]
theorem ok48 : FnOk Try.prog 48 12 c48 r48 := ⟨[], _, _, Try.func48, rfl, rfl, by kernel_rfl, by kernel_rfl, by kernel_rfl⟩
/-- slices.IndexFunc[[][]string,[]string] -/
def c49 : C := (.seq (.reg [(rO 4 (.mv (.const (.int .i64 0))))])
 (.seq (.seq (.reg [(rO 6 (.mv (.tmp 0))),
 (rO 7 (.len true (.tmp 6))),
 (rO 8 (.mv (.const (.int .i64 0))))])
 (.block 0 (.loop (.seq (.reg [(rO 9 (.bin .lss (.tmp 8) (.tmp 7)))])
 (.seq (.cond (.tmp 9) .skip
 (.exit 0))
 (.seq (.block 1 (.seq (.reg [(rO 10 (.mv (.tmp 8))),
 (rO 5 (.mv (.tmp 10)))])
 (.seq (.reg [(rO 11 (.mv (.tmp 1))),
 (rO 12 (.mv (.tmp 0))),
 (rO 13 (.mv (.tmp 5))),
 (rO 14 (.ia 1 (.tmp 12) (.tmp 13))),
 (rO 15 (.ld none (.tmp 14))),
 (rO 16 (.callv (.tmp 11) [(.tmp 15)]))])
 (.cond (.tmp 16) (.seq (.reg [(rO 17 (.mv (.tmp 5))),
 (rO 4 (.mv (.tmp 17)))])
 .ret)
 .skip))))
 (.reg [(rO 18 (.bin .add (.tmp 8) (.const (.int .i64 1)))),
 (rO 8 (.mv (.tmp 18)))])))))))
 (.seq (.reg [(rO 4 (.mv (.const (.int .i64 (-1)))))])
 .ret)))
def r49 : List RV := [.tmp 4]
theorem ok49 : FnOk Try.prog 49 19 c49 r49 := ⟨[], _, _, Try.func49, rfl, rfl, by kernel_rfl, by kernel_rfl, by kernel_rfl⟩
/-- (*vouch/stream.Log).First$1 -/
def c50 : C := (.seq (.reg [(rO 3 (.mv (.const (.bool false))))])
 (.seq (.reg [(rO 4 (.mv (.tmp 0))),
 (rO 5 (.ld none (.tmp 1))),
 (rO 6 (.call 51 [(.tmp 4), (.tmp 5)])),
 (rO 3 (.mv (.tmp 6)))])
 .ret))
def r50 : List RV := [.tmp 3]
theorem ok50 : FnOk Try.prog 50 7 c50 r50 := ⟨[], _, _, Try.func50, rfl, rfl, by kernel_rfl, by kernel_rfl, by kernel_rfl⟩
/-- slices.Contains[[]string,string] -/
def c51 : C := (.seq (.reg [(rO 4 (.mv (.const (.bool false))))])
 (.seq (.reg [(rO 5 (.mv (.tmp 0))),
 (rO 6 (.mv (.tmp 1))),
 (rO 7 (.call 77 [(.tmp 5), (.tmp 6)])),
 (rO 8 (.bin .geq (.tmp 7) (.const (.int .i64 0)))),
 (rO 4 (.mv (.tmp 8)))])
 .ret))
def r51 : List RV := [.tmp 4]
theorem ok51 : FnOk Try.prog 51 9 c51 r51 := ⟨[], _, _, Try.func51, rfl, rfl, by kernel_rfl, by kernel_rfl, by kernel_rfl⟩
/-- vouch/store.goodWrite -/
def c74 : C := (.seq (.reg [(rO 1 (.box 33 (.tmp 0))),
 (rO 2 (.mv (.const (.bool false))))])
 (.seq (.reg [(rO 3 (.fa 0 (.tmp 1))),
 (rO 4 (.ld none (.tmp 3))),
 (rO 5 (.call 45 [(.tmp 4)])),
 (rO 6 (.mv (.tmp 5))),
 ⟨(some 7), (.fa 1 (.tmp 1)), (some (6, true))⟩,
 ⟨(some 8), (.fa 1 (.tmp 7)), (some (6, true))⟩,
 ⟨(some 9), (.ld none (.tmp 8)), (some (6, true))⟩,
 ⟨(some 10), (.len false (.tmp 9)), (some (6, true))⟩,
 ⟨(some 11), (.bin .leq (.tmp 10) (.const (.int .i64 256))), (some (6, true))⟩,
 (rO 12 (.pick (.tmp 6) (.tmp 11) (.const (.bool false)))),
 (rO 13 (.mv (.tmp 12))),
 ⟨(some 14), (.fa 1 (.tmp 1)), (some (13, true))⟩,
 ⟨(some 15), (.fa 0 (.tmp 14)), (some (13, true))⟩,
 ⟨(some 16), (.ld none (.tmp 15)), (some (13, true))⟩,
 ⟨(some 17), (.mv (.tmp 16)), (some (13, true))⟩,
 ⟨(some 18), (.fa 1 (.tmp 1)), (some (17, false))⟩,
 ⟨(some 19), (.fa 1 (.tmp 18)), (some (17, false))⟩,
 ⟨(some 20), (.ld none (.tmp 19)), (some (17, false))⟩,
 ⟨(some 21), (.bin .eql (.tmp 20) (.const (.string { data := #[] }))), (some (17, false))⟩,
 ⟨(some 22), (.pick (.tmp 17) (.const (.bool true)) (.tmp 21)), (some (13, true))⟩,
 (rO 23 (.pick (.tmp 13) (.tmp 22) (.const (.bool false)))),
 (rO 2 (.mv (.tmp 23)))])
 .ret))
def r74 : List RV := [.tmp 2]
theorem ok74 : FnOk Try.prog 74 24 c74 r74 := ⟨[], _, _, Try.func74, rfl, rfl, by kernel_rfl, by kernel_rfl, by kernel_rfl⟩
/-- slices.Values[[]string,string] -/
def c75 : C := (.seq (.reg [(rO 1 (.box 36 (.tmp 0))),
 (rO 2 (.mv (.const .nilFunc)))])
 (.seq (.reg [(rO 3 (.fnl (.clo 98) [(.tmp 1)])),
 (rO 2 (.mv (.tmp 3)))])
 .ret))
def r75 : List RV := [.tmp 2]
theorem ok75 : FnOk Try.prog 75 4 c75 r75 := ⟨[], _, _, Try.func75, rfl, rfl, by kernel_rfl, by kernel_rfl, by kernel_rfl⟩
/-- slices.Compact[[]string,string] -/
def c76 : C := (.seq (.reg [(rO 2 (.mv (.const (.slice none 0 0))))])
 (.seq (.seq (.reg [(rO 6 (.mv (.tmp 0))),
 (rO 7 (.len true (.tmp 6))),
 (rO 8 (.bin .lss (.tmp 7) (.const (.int .i64 2))))])
 (.cond (.tmp 8) (.seq (.reg [(rO 9 (.mv (.tmp 0))),
 (rO 2 (.mv (.tmp 9)))])
 .ret)
 .skip))
 (.seq (.seq (.reg [(rO 3 (.mv (.const (.int .i64 1))))])
 (.block 0 (.loop (.seq (.seq (.reg [(rO 10 (.mv (.tmp 3))),
 (rO 11 (.mv (.tmp 0))),
 (rO 12 (.len true (.tmp 11))),
 (rO 13 (.bin .lss (.tmp 10) (.tmp 12)))])
 (.cond (.tmp 13) .skip
 (.exit 0)))
 (.seq (.block 1 (.seq (.draw [⟨(rO 16 (.mv (.tmp 0))), .p⟩,
 ⟨(rO 17 (.mv (.tmp 3))), .p⟩,
 ⟨(rO 18 (.ia 1 (.tmp 16) (.tmp 17))), .p⟩,
 ⟨(rO 19 (.ld none (.tmp 18))), .l⟩,
 ⟨(rO 20 (.mv (.tmp 0))), .p⟩,
 ⟨(rO 21 (.mv (.tmp 3))), .p⟩,
 ⟨(rO 22 (.bin .sub (.tmp 21) (.const (.int .i64 1)))), .p⟩,
 ⟨(rO 23 (.ia 1 (.tmp 20) (.tmp 22))), .p⟩,
 ⟨(rO 24 (.ld none (.tmp 23))), .l⟩,
 ⟨(rO 25 (.bin .eql (.tmp 19) (.tmp 24))), .p⟩])
 (.cond (.tmp 25) (.seq (.reg [(rO 26 (.mv (.tmp 0))),
 (rO 27 (.mv (.tmp 3))),
 (rO 28 (.fnl (.sll 1) [(.tmp 26), (.tmp 27)])),
 (rO 4 (.mv (.tmp 28)))])
 (.seq (.seq (.reg [(rO 5 (.mv (.const (.int .i64 1))))])
 (.block 2 (.loop (.seq (.seq (.reg [(rO 29 (.mv (.tmp 5))),
 (rO 30 (.mv (.tmp 4))),
 (rO 31 (.len true (.tmp 30))),
 (rO 32 (.bin .lss (.tmp 29) (.tmp 31)))])
 (.cond (.tmp 32) .skip
 (.exit 2)))
 (.seq (.block 3 (.seq (.draw [⟨(rO 35 (.mv (.tmp 4))), .p⟩,
 ⟨(rO 36 (.mv (.tmp 5))), .p⟩,
 ⟨(rO 37 (.ia 1 (.tmp 35) (.tmp 36))), .p⟩,
 ⟨(rO 38 (.ld none (.tmp 37))), .l⟩,
 ⟨(rO 39 (.mv (.tmp 4))), .p⟩,
 ⟨(rO 40 (.mv (.tmp 5))), .p⟩,
 ⟨(rO 41 (.bin .sub (.tmp 40) (.const (.int .i64 1)))), .p⟩,
 ⟨(rO 42 (.ia 1 (.tmp 39) (.tmp 41))), .p⟩,
 ⟨(rO 43 (.ld none (.tmp 42))), .l⟩,
 ⟨(rO 44 (.bin .neq (.tmp 38) (.tmp 43))), .p⟩])
 (.cond (.tmp 44) (.seq (.reg [(rO 45 (.mv (.tmp 0))),
 (rO 46 (.mv (.tmp 3))),
 (rO 47 (.mv (.tmp 4))),
 (rO 48 (.mv (.tmp 5))),
 (rO 49 (.ia 1 (.tmp 47) (.tmp 48))),
 (rO 50 (.ld none (.tmp 49))),
 (rO 51 (.ia 1 (.tmp 45) (.tmp 46))),
 ⟨none, (.st 1 (.tmp 51) (.tmp 50)), none⟩])
 (.reg [(rO 52 (.mv (.tmp 3))),
 (rO 53 (.bin .add (.tmp 52) (.const (.int .i64 1)))),
 (rO 3 (.mv (.tmp 53)))]))
 .skip)))
 (.reg [(rO 33 (.mv (.tmp 5))),
 (rO 34 (.bin .add (.tmp 33) (.const (.int .i64 1)))),
 (rO 5 (.mv (.tmp 34)))]))))))
 (.seq (.reg [(rO 54 (.mv (.tmp 0))),
 (rO 55 (.mv (.tmp 3))),
 (rO 56 (.fnl (.sll 1) [(.tmp 54), (.tmp 55)])),
 ⟨none, (.raw (Go.Op.call { callee := (Go.Callee.builtin Go.Builtin.clear), args := #[(Go.Operand.tmp 56)], argTypes := #[36] }) 0), none⟩])
 (.seq (.reg [(rO 57 (.mv (.tmp 0))),
 (rO 58 (.mv (.tmp 3))),
 (rO 59 (.fnl (.slh 1) [(.tmp 57), (.tmp 58)])),
 (rO 2 (.mv (.tmp 59)))])
 .ret))))
 .skip)))
 (.reg [(rO 14 (.mv (.tmp 3))),
 (rO 15 (.bin .add (.tmp 14) (.const (.int .i64 1)))),
 (rO 3 (.mv (.tmp 15)))]))))))
 (.seq (.reg [(rO 60 (.mv (.tmp 0))),
 (rO 2 (.mv (.tmp 60)))])
 .ret))))
def r76 : List RV := [.tmp 2]
theorem ok76 : FnOk Try.prog 76 61 c76 r76 := ⟨[], _, _, Try.func76, rfl, rfl, by kernel_rfl, by kernel_rfl, by kernel_rfl⟩
/-- slices.Index[[]string,string] -/
def c77 : C := (.seq (.reg [(rO 4 (.mv (.const (.int .i64 0))))])
 (.seq (.seq (.reg [(rO 6 (.mv (.tmp 0))),
 (rO 7 (.len true (.tmp 6))),
 (rO 8 (.mv (.const (.int .i64 0))))])
 (.block 0 (.loop (.seq (.reg [(rO 9 (.bin .lss (.tmp 8) (.tmp 7)))])
 (.seq (.cond (.tmp 9) .skip
 (.exit 0))
 (.seq (.block 1 (.seq (.reg [(rO 10 (.mv (.tmp 8))),
 (rO 5 (.mv (.tmp 10)))])
 (.seq (.reg [(rO 11 (.mv (.tmp 1))),
 (rO 12 (.mv (.tmp 0))),
 (rO 13 (.mv (.tmp 5))),
 (rO 14 (.ia 1 (.tmp 12) (.tmp 13))),
 (rO 15 (.ld none (.tmp 14))),
 (rO 16 (.bin .eql (.tmp 11) (.tmp 15)))])
 (.cond (.tmp 16) (.seq (.reg [(rO 17 (.mv (.tmp 5))),
 (rO 4 (.mv (.tmp 17)))])
 .ret)
 .skip))))
 (.reg [(rO 18 (.bin .add (.tmp 8) (.const (.int .i64 1)))),
 (rO 8 (.mv (.tmp 18)))])))))))
 (.seq (.reg [(rO 4 (.mv (.const (.int .i64 (-1)))))])
 .ret)))
def r77 : List RV := [.tmp 4]
theorem ok77 : FnOk Try.prog 77 19 c77 r77 := ⟨[], _, _, Try.func77, rfl, rfl, by kernel_rfl, by kernel_rfl, by kernel_rfl⟩
end Go.Proofs.Ytpnghjmphbhkjaa
