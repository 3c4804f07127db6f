/- The texts of functions, compiled. -/
import Derived.Test.YtpnghjmphbhkjaaSpD
import Derived.Test.YtpnghjmphbhkjaaProg
import Derived.KernelRfl
namespace Go.Proofs.Ytpnghjmphbhkjaa
open Go.Sp
set_option maxRecDepth 100000
def c4_br23 : C := (.reg [(rO 23 (.mv (.const (.int .i64 0))))])
def c4_tr23 : C := (.block 4 (.loop (.seq (.seq (.reg [(rO 110 (.mv (.tmp 23))),
 (rO 111 (.mv (.tmp 21))),
 (rO 112 (.len true (.tmp 111))),
 (rO 113 (.bin .lss (.tmp 110) (.tmp 112)))])
 (.cond (.tmp 113) .skip
 (.exit 4)))
 (.seq (.block 5 (.seq (.reg [(rO 117 (.mv (.tmp 11))),
 (rO 118 (.mv (.tmp 13))),
 (rO 119 (.call 19 [(.tmp 118)])),
 (rO 120 (.bin .add (.tmp 119) (.const (.int .i64 1)))),
 (rO 121 (.call 17 [(.tmp 117), (.tmp 120)])),
 (rO 116 (.mv (.tmp 121))),
 (rO 122 (.ext 0 (.tmp 116))),
 (rO 123 (.ext 1 (.tmp 116))),
 (rO 24 (.new 51 [.int .i64 (0), .slice none 0 0])),
 ⟨none, (.st 2 (.tmp 24) (.tmp 122)), none⟩,
 (rO 25 (.mv (.tmp 123)))])
 (.seq (.draw [⟨(rO 124 (.mv (.tmp 25))), .p⟩,
 ⟨(rO 125 (.bin .neq (.tmp 124) (.const (.int .i64 0)))), .p⟩,
 ⟨(rO 126 (.mv (.tmp 125))), .p⟩,
 ⟨⟨(some 127), (.mv (.tmp 21)), (some (126, false))⟩, .p⟩,
 ⟨⟨(some 128), (.mv (.tmp 23)), (some (126, false))⟩, .p⟩,
 ⟨⟨(some 129), (.ia 2 (.tmp 127) (.tmp 128)), (some (126, false))⟩, .p⟩,
 ⟨⟨(some 130), (.fa 0 (.tmp 129)), (some (126, false))⟩, .p⟩,
 ⟨⟨(some 131), (.ld none (.tmp 130)), (some (126, false))⟩, .l⟩,
 ⟨⟨(some 132), (.fa 0 (.tmp 24)), (some (126, false))⟩, .p⟩,
 ⟨⟨(some 133), (.ld none (.tmp 132)), (some (126, false))⟩, .l⟩,
 ⟨⟨(some 134), (.bin .neq (.tmp 131) (.tmp 133)), (some (126, false))⟩, .p⟩,
 ⟨(rO 135 (.pick (.tmp 126) (.const (.bool true)) (.tmp 134))), .p⟩,
 ⟨(rO 136 (.mv (.tmp 135))), .p⟩,
 ⟨⟨(some 137), (.mv (.tmp 21)), (some (136, false))⟩, .p⟩,
 ⟨⟨(some 138), (.mv (.tmp 23)), (some (136, false))⟩, .p⟩,
 ⟨⟨(some 139), (.ia 2 (.tmp 137) (.tmp 138)), (some (136, false))⟩, .p⟩,
 ⟨⟨(some 140), (.fa 1 (.tmp 139)), (some (136, false))⟩, .p⟩,
 ⟨⟨(some 141), (.ld none (.tmp 140)), (some (136, false))⟩, .l⟩,
 ⟨⟨(some 142), (.len true (.tmp 141)), (some (136, false))⟩, .p⟩,
 ⟨⟨(some 143), (.fa 1 (.tmp 24)), (some (136, false))⟩, .p⟩,
 ⟨⟨(some 144), (.ld none (.tmp 143)), (some (136, false))⟩, .l⟩,
 ⟨⟨(some 145), (.len true (.tmp 144)), (some (136, false))⟩, .p⟩,
 ⟨⟨(some 146), (.bin .neq (.tmp 142) (.tmp 145)), (some (136, false))⟩, .p⟩,
 ⟨(rO 147 (.pick (.tmp 136) (.const (.bool true)) (.tmp 146))), .p⟩,
 ⟨(rO 148 (.mv (.tmp 147))), .p⟩,
 ⟨⟨(some 149), (.mv (.tmp 13)), (some (148, false))⟩, .p⟩,
 ⟨⟨(some 150), (.mv (.tmp 21)), (some (148, false))⟩, .p⟩,
 ⟨⟨(some 151), (.mv (.tmp 23)), (some (148, false))⟩, .p⟩,
 ⟨⟨(some 152), (.ia 2 (.tmp 150) (.tmp 151)), (some (148, false))⟩, .p⟩,
 ⟨⟨(some 153), (.fa 0 (.tmp 152)), (some (148, false))⟩, .p⟩,
 ⟨⟨(some 154), (.ld none (.tmp 153)), (some (148, false))⟩, .l⟩,
 ⟨⟨(some 155), (.mv (.tmp 21)), (some (148, false))⟩, .p⟩,
 ⟨⟨(some 156), (.mv (.tmp 23)), (some (148, false))⟩, .p⟩,
 ⟨⟨(some 157), (.ia 2 (.tmp 155) (.tmp 156)), (some (148, false))⟩, .p⟩,
 ⟨⟨(some 158), (.fa 1 (.tmp 157)), (some (148, false))⟩, .p⟩,
 ⟨⟨(some 159), (.ld none (.tmp 158)), (some (148, false))⟩, .l⟩,
 ⟨⟨(some 160), (.call 20 [(.tmp 149), (.tmp 154), (.tmp 159)]), (some (148, false))⟩, .m⟩,
 ⟨⟨(some 161), (.nt (.tmp 160)), (some (148, false))⟩, .p⟩,
 ⟨(rO 162 (.pick (.tmp 148) (.const (.bool true)) (.tmp 161))), .p⟩])
 (.cond (.tmp 162) (.seq (.reg [(rO 10 (.mv (.const (.bool false))))])
 .ret)
 .skip))))
 (.reg [(rO 114 (.mv (.tmp 23))),
 (rO 115 (.bin .add (.tmp 114) (.const (.int .i64 1)))),
 (rO 23 (.mv (.tmp 115)))])))))
def c4_sr23 : C := .seq c4_br23 c4_tr23
def c4_br93 : C := (.reg [(rO 93 (.mv (.tmp 11))),
 (rO 94 (.mv (.tmp 18))),
 (rO 95 (.call 17 [(.tmp 93), (.tmp 94)])),
 (rO 92 (.mv (.tmp 95))),
 (rO 96 (.ext 0 (.tmp 92))),
 (rO 97 (.ext 1 (.tmp 92))),
 (rO 19 (.new 51 [.int .i64 (0), .slice none 0 0])),
 ⟨none, (.st 2 (.tmp 19) (.tmp 96)), none⟩,
 (rO 20 (.mv (.tmp 97)))])
def c4_tr93 : C := (.seq (.reg [(rO 99 (.mv (.tmp 12))),
 (rO 100 (.mv (.tmp 18))),
 (rO 101 (.ld (some 2) (.tmp 19))),
 (rO 102 (.call 18 [(.tmp 99), (.tmp 100), (.tmp 101)])),
 (rO 98 (.mv (.tmp 102))),
 (rO 103 (.ext 0 (.tmp 98))),
 (rO 104 (.ext 1 (.tmp 98))),
 (rO 21 (.mv (.tmp 103))),
 (rO 22 (.mv (.tmp 104)))])
 (.seq (.seq (.reg [(rO 105 (.mv (.tmp 20))),
 (rO 106 (.bin .neq (.tmp 105) (.const (.int .i64 0)))),
 (rO 107 (.mv (.tmp 106))),
 ⟨(some 108), (.mv (.tmp 22)), (some (107, false))⟩,
 (rO 109 (.pick (.tmp 107) (.const (.bool true)) (.tmp 108)))])
 (.cond (.tmp 109) (.seq (.reg [(rO 10 (.mv (.const (.bool false))))])
 .ret)
 .skip))
 c4_sr23))
def c4_sr93 : C := .seq c4_br93 c4_tr93
def c4_b3 : C := (.block 3 (.seq (.reg [(rO 18 (.mv (.const (.int .i64 1))))])
 (.seq (.seq (.reg [(rO 79 (.mv (.tmp 17))),
 (rO 80 (.mv (.tmp 1))),
 (rO 81 (.len true (.tmp 80))),
 (rO 82 (.bin .lss (.tmp 79) (.tmp 81)))])
 (.cond (.tmp 82) (.draw [⟨(rO 83 (.mv (.tmp 1))), .p⟩,
 ⟨(rO 84 (.mv (.tmp 17))), .p⟩,
 ⟨(rO 85 (.ia 1 (.tmp 83) (.tmp 84))), .p⟩,
 ⟨(rO 86 (.ld none (.tmp 85))), .l⟩,
 ⟨(rO 87 (.conv .i64 (.tmp 86))), .p⟩,
 ⟨(rO 88 (.mv (.tmp 11))), .p⟩,
 ⟨(rO 89 (.call 13 [(.tmp 88)])), .g⟩,
 ⟨(rO 90 (.bin .rem (.tmp 87) (.tmp 89))), .p⟩,
 ⟨(rO 91 (.bin .add (.tmp 90) (.const (.int .i64 1)))), .p⟩,
 ⟨(rO 18 (.mv (.tmp 91))), .p⟩])
 .skip))
 c4_sr93)))
def c4_t3 : C := (.reg [(rO 77 (.mv (.tmp 17))),
 (rO 78 (.bin .add (.tmp 77) (.const (.int .i64 1)))),
 (rO 17 (.mv (.tmp 78)))])
def c4_s3 : C := .seq c4_b3 c4_t3
def c4_b2 : C := (.seq (.reg [(rO 17 (.mv (.const (.int .i64 0))))])
 (.block 2 (.loop (.seq (.seq (.reg [(rO 73 (.mv (.tmp 17))),
 (rO 74 (.mv (.tmp 1))),
 (rO 75 (.len true (.tmp 74))),
 (rO 76 (.bin .leq (.tmp 73) (.tmp 75)))])
 (.cond (.tmp 76) .skip
 (.exit 2)))
 c4_s3))))
def c4_t2 : C := (.seq (.seq (.reg [(rO 163 (.mv (.tmp 12))),
 (rO 164 (.call 21 [(.tmp 163)])),
 (rO 165 (.mv (.tmp 13))),
 (rO 166 (.call 19 [(.tmp 165)])),
 (rO 167 (.bin .neq (.tmp 164) (.tmp 166))),
 (rO 168 (.mv (.tmp 167))),
 ⟨(some 169), (.mv (.tmp 12)), (some (168, false))⟩,
 ⟨(some 170), (.call 21 [(.tmp 169)]), (some (168, false))⟩,
 ⟨(some 171), (.bin .lss (.tmp 170) (.const (.int .i64 1))), (some (168, false))⟩,
 (rO 172 (.pick (.tmp 168) (.const (.bool true)) (.tmp 171)))])
 (.cond (.tmp 172) (.seq (.reg [(rO 10 (.mv (.const (.bool false))))])
 .ret)
 .skip))
 (.seq (.seq (.reg [(rO 173 (.mv (.tmp 13))),
 (rO 174 (.mv (.tmp 4))),
 (rO 175 (.conv .i64 (.tmp 174))),
 (rO 176 (.call 22 [(.tmp 173), (.tmp 175)])),
 (rO 177 (.nt (.tmp 176)))])
 (.cond (.tmp 177) (.seq (.reg [(rO 10 (.mv (.const (.bool true))))])
 .ret)
 .skip))
 (.seq (.reg [(rO 179 (.mv (.tmp 11))),
 (rO 180 (.mv (.tmp 3))),
 (rO 181 (.mv (.tmp 4))),
 (rO 182 (.conv .i64 (.tmp 181))),
 (rO 183 (.call 14 [(.tmp 179), (.tmp 180), (.tmp 182)])),
 (rO 178 (.mv (.tmp 183))),
 (rO 184 (.ext 0 (.tmp 178))),
 (rO 185 (.ext 1 (.tmp 178))),
 (rO 26 (.mv (.tmp 184))),
 (rO 27 (.mv (.tmp 185)))])
 (.seq (.reg [(rO 187 (.mv (.tmp 13))),
 (rO 188 (.mv (.tmp 3))),
 (rO 189 (.mv (.tmp 4))),
 (rO 190 (.conv .i64 (.tmp 189))),
 (rO 191 (.call 23 [(.tmp 187), (.tmp 188), (.tmp 190)])),
 (rO 186 (.mv (.tmp 191))),
 (rO 192 (.ext 0 (.tmp 186))),
 (rO 193 (.ext 1 (.tmp 186))),
 (rO 28 (.mv (.tmp 192))),
 (rO 29 (.mv (.tmp 193)))])
 (.seq (.seq (.reg [(rO 194 (.mv (.tmp 27))),
 (rO 195 (.mv (.tmp 194))),
 ⟨(some 196), (.mv (.tmp 26)), (some (195, true))⟩,
 ⟨(some 197), (.mv (.tmp 13)), (some (195, true))⟩,
 ⟨(some 198), (.call 19 [(.tmp 197)]), (some (195, true))⟩,
 ⟨(some 199), (.bin .gtr (.tmp 196) (.tmp 198)), (some (195, true))⟩,
 (rO 200 (.pick (.tmp 195) (.tmp 199) (.const (.bool false))))])
 (.cond (.tmp 200) (.seq (.reg [(rO 201 (.mv (.tmp 29))),
 (rO 202 (.nt (.tmp 201))),
 (rO 10 (.mv (.tmp 202)))])
 .ret)
 .skip))
 (.seq (.reg [(rO 203 (.mv (.tmp 26))),
 (rO 204 (.mv (.tmp 28))),
 (rO 205 (.bin .eql (.tmp 203) (.tmp 204))),
 (rO 206 (.mv (.tmp 205))),
 ⟨(some 207), (.mv (.tmp 27)), (some (206, true))⟩,
 ⟨(some 208), (.mv (.tmp 29)), (some (206, true))⟩,
 ⟨(some 209), (.eqs false .bool (.tmp 207) (.tmp 208)), (some (206, true))⟩,
 (rO 210 (.pick (.tmp 206) (.tmp 209) (.const (.bool false)))),
 (rO 10 (.mv (.tmp 210)))])
 .ret))))))
def c4_s2 : C := .seq c4_b2 c4_t2
def c4_b0 : C := (.seq (.reg [(rO 16 (.mv (.const (.int .i64 0))))])
 (.block 0 (.loop (.seq (.seq (.reg [(rO 57 (.mv (.tmp 16))),
 (rO 58 (.mv (.tmp 0))),
 (rO 59 (.len true (.tmp 58))),
 (rO 60 (.bin .lss (.tmp 57) (.tmp 59))),
 (rO 61 (.mv (.tmp 60))),
 ⟨(some 62), (.mv (.tmp 16)), (some (61, true))⟩,
 ⟨(some 63), (.bin .lss (.tmp 62) (.const (.int .i64 200))), (some (61, true))⟩,
 (rO 64 (.pick (.tmp 61) (.tmp 63) (.const (.bool false))))])
 (.cond (.tmp 64) .skip
 (.exit 0)))
 (.seq (.block 1 (.reg [(rO 67 (.mv (.tmp 11))),
 (rO 68 (.mv (.tmp 0))),
 (rO 69 (.mv (.tmp 16))),
 (rO 70 (.ia 1 (.tmp 68) (.tmp 69))),
 (rO 71 (.ld none (.tmp 70))),
 (rO 72 (.call 10 [(.tmp 67), (.tmp 71)]))]))
 (.reg [(rO 65 (.mv (.tmp 16))),
 (rO 66 (.bin .add (.tmp 65) (.const (.int .i64 1)))),
 (rO 16 (.mv (.tmp 66)))]))))))
def c4_t0 : C := c4_s2
def c4_s0 : C := .seq c4_b0 c4_t0
/-- vouch/vouchtop.WholeRecords -/
def c4 : C := (.seq (.reg [(rO 10 (.mv (.const (.bool false))))])
 (.seq (.reg [(rO 30 (.call 8 [])),
 (rO 31 (.call 15 [(.const (.int .i64 0)), (.const (.int .i64 256))])),
 (rO 32 (.mv (.tmp 2))),
 (rO 33 (.conv .i64 (.tmp 32))),
 (rO 34 (.call 16 [(.tmp 33), (.const (.int .i64 0))])),
 (rO 11 (.mv (.tmp 30))),
 (rO 12 (.mv (.tmp 31))),
 (rO 13 (.mv (.tmp 34)))])
 (.seq (.seq (.reg [(rO 35 (.mv (.tmp 11))),
 (rO 36 (.eqs false .ptr (.tmp 35) (.const (.pointer none)))),
 (rO 37 (.mv (.tmp 36))),
 ⟨(some 38), (.mv (.tmp 12)), (some (37, false))⟩,
 ⟨(some 39), (.eqs false .ptr (.tmp 38) (.const (.pointer none))), (some (37, false))⟩,
 (rO 40 (.pick (.tmp 37) (.const (.bool true)) (.tmp 39))),
 (rO 41 (.mv (.tmp 40))),
 ⟨(some 42), (.mv (.tmp 13)), (some (41, false))⟩,
 ⟨(some 43), (.eqs false .ptr (.tmp 42) (.const (.pointer none))), (some (41, false))⟩,
 (rO 44 (.pick (.tmp 41) (.const (.bool true)) (.tmp 43)))])
 (.cond (.tmp 44) (.seq (.reg [(rO 10 (.mv (.const (.bool false))))])
 .ret)
 .skip))
 (.seq (.seq (.reg [(rO 46 (.mv (.tmp 11))),
 (rO 47 (.lit 9 1 1 [.string ⟨#[]⟩] [(0, 1, (.const (.string { data := #[107] })))])),
 (rO 48 (.call 10 [(.tmp 46), (.tmp 47)])),
 (rO 45 (.mv (.tmp 48))),
 (rO 49 (.ext 0 (.tmp 45))),
 (rO 50 (.ext 1 (.tmp 45))),
 (rO 14 (.mv (.tmp 49))),
 (rO 15 (.mv (.tmp 50)))])
 (.seq (.reg [(rO 51 (.mv (.tmp 14))),
 (rO 52 (.bin .neq (.tmp 51) (.const (.int .i64 1)))),
 (rO 53 (.mv (.tmp 52))),
 ⟨(some 54), (.mv (.tmp 15)), (some (53, false))⟩,
 ⟨(some 55), (.bin .neq (.tmp 54) (.const (.int .i64 0))), (some (53, false))⟩,
 (rO 56 (.pick (.tmp 53) (.const (.bool true)) (.tmp 55)))])
 (.cond (.tmp 56) (.seq (.reg [(rO 10 (.mv (.const (.bool false))))])
 .ret)
 .skip)))
 c4_s0))))
def r4 : List RV := [.tmp 10]
theorem ok4 : FnOk Try.prog 4 211 c4 r4 := ⟨[], _, _, Try.func4, rfl, rfl, by kernel_rfl, by kernel_rfl, by kernel_rfl⟩
/-- vouch/gap.New[vouch/api.Record] -/
def c15 : C := (.seq (.reg [(rO 4 (.mv (.const (.pointer none))))])
 (.seq (.reg [(rO 6 (.mv (.tmp 1))),
 (rO 7 (.mx true (.tmp 6) (.const (.int .i64 0)))),
 (rO 8 (.mx false (.tmp 7) (.const (.int .i64 256)))),
 (rO 9 (.bld [.int .i64 (0), .int .i64 (0), .map none] [(1, 1, (.tmp 8))])),
 (rO 10 (.box 121 (.tmp 9))),
 (rO 5 (.mv (.tmp 10)))])
 (.seq (.reg [(rO 11 (.mv (.tmp 5))),
 (rO 12 (.mv (.tmp 0))),
 (rO 13 (.call 52 [(.tmp 11), (.tmp 12)]))])
 (.seq (.reg [(rO 14 (.mv (.tmp 5))),
 (rO 4 (.mv (.tmp 14)))])
 .ret))))
def r15 : List RV := [.tmp 4]
theorem ok15 : FnOk Try.prog 15 15 c15 r15 := ⟨[], _, _, Try.func15, rfl, rfl, by kernel_rfl, by kernel_rfl, by kernel_rfl⟩
/-- vouch/recent.New -/
def c16 : C := (.seq (.reg [(rO 4 (.mv (.const (.pointer none))))])
 (.seq (.reg [(rO 5 (.mv (.tmp 1))),
 (rO 6 (.mx true (.tmp 5) (.const (.int .i64 0)))),
 (rO 7 (.mx false (.tmp 6) (.const (.int .i64 1099511627776)))),
 (rO 1 (.mv (.tmp 7)))])
 (.seq (.reg [(rO 8 (.mv (.tmp 0))),
 (rO 9 (.mx true (.tmp 8) (.const (.int .i64 0)))),
 (rO 10 (.mx false (.tmp 9) (.const (.int .i64 1024)))),
 (rO 11 (.mks 130 2 24 [.int .i64 (0), .string ⟨#[]⟩] (.tmp 10))),
 (rO 12 (.mv (.tmp 1))),
 (rO 13 (.mv (.tmp 1))),
 (rO 14 (.bld [.slice none 0 0, .int .i64 (0), .int .i64 (0), .int .i64 (0), .int .i64 (0)] [(0, 1, (.tmp 11)), (3, 1, (.tmp 12)), (4, 1, (.tmp 13))])),
 (rO 15 (.box 125 (.tmp 14))),
 (rO 4 (.mv (.tmp 15)))])
 .ret)))
def r16 : List RV := [.tmp 4]
theorem ok16 : FnOk Try.prog 16 16 c16 r16 := ⟨[], _, _, Try.func16, rfl, rfl, by kernel_rfl, by kernel_rfl, by kernel_rfl⟩
/-- (*vouch/stream.Log).Get -/
def c17 : C := (.seq (.reg [(rO 4 (.new 51 [.int .i64 (0), .slice none 0 0])),
 (rO 5 (.mv (.const (.int .i64 0))))])
 (.seq (.seq (.reg [(rO 6 (.mv (.tmp 1))),
 (rO 7 (.bin .lss (.tmp 6) (.const (.int .i64 1)))),
 (rO 8 (.mv (.tmp 7))),
 ⟨(some 9), (.mv (.tmp 1)), (some (8, false))⟩,
 ⟨(some 10), (.mv (.tmp 0)), (some (8, false))⟩,
 ⟨(some 11), (.call 13 [(.tmp 10)]), (some (8, false))⟩,
 ⟨(some 12), (.bin .gtr (.tmp 9) (.tmp 11)), (some (8, false))⟩,
 (rO 13 (.pick (.tmp 8) (.const (.bool true)) (.tmp 12)))])
 (.cond (.tmp 13) (.seq (.reg [(rO 14 (.bld [.int .i64 (0), .slice none 0 0] [])),
 ⟨none, (.st 2 (.tmp 4) (.tmp 14)), none⟩,
 (rO 5 (.mv (.const (.int .i64 3))))])
 .ret)
 .skip))
 (.seq (.reg [(rO 15 (.mv (.tmp 1))),
 (rO 16 (.mv (.tmp 0))),
 (rO 17 (.nilc (.tmp 16))),
 (rO 18 (.fa 0 (.tmp 17))),
 (rO 19 (.ld none (.tmp 18))),
 (rO 20 (.mv (.tmp 1))),
 (rO 21 (.bin .sub (.tmp 20) (.const (.int .i64 1)))),
 (rO 22 (.ia 1 (.tmp 19) (.tmp 21))),
 (rO 23 (.ld none (.tmp 22))),
 (rO 24 (.call 44 [(.tmp 23)])),
 (rO 25 (.bld [.int .i64 (0), .slice none 0 0] [(0, 1, (.tmp 15)), (1, 1, (.tmp 24))])),
 ⟨none, (.st 2 (.tmp 4) (.tmp 25)), none⟩,
 (rO 5 (.mv (.const (.int .i64 0))))])
 .ret)))
def r17 : List RV := [.agg 4 2, .tmp 5]
theorem ok17 : FnOk Try.prog 17 26 c17 r17 := ⟨[], _, _, Try.func17, rfl, rfl, by kernel_rfl, by kernel_rfl, by kernel_rfl⟩
/-- (*vouch/gap.Gap[vouch/api.Record]).Put -/
def c18 : C := (.seq (.reg [(rO 5 (.box 51 (.tmp 2))),
 (rO 6 (.mv (.const (.slice none 0 0)))),
 (rO 7 (.mv (.const (.bool false))))])
 (.seq (.seq (.reg [(rO 10 (.mv (.tmp 0))),
 (rO 11 (.eqs false .ptr (.tmp 10) (.const (.pointer none)))),
 (rO 12 (.mv (.tmp 11))),
 ⟨(some 13), (.mv (.tmp 1)), (some (12, false))⟩,
 ⟨(some 14), (.mv (.tmp 0)), (some (12, false))⟩,
 ⟨(some 15), (.nilc (.tmp 14)), (some (12, false))⟩,
 ⟨(some 16), (.fa 0 (.tmp 15)), (some (12, false))⟩,
 ⟨(some 17), (.ld none (.tmp 16)), (some (12, false))⟩,
 ⟨(some 18), (.bin .leq (.tmp 13) (.tmp 17)), (some (12, false))⟩,
 (rO 19 (.pick (.tmp 12) (.const (.bool true)) (.tmp 18))),
 (rO 20 (.mv (.tmp 19))),
 ⟨(some 21), (.mv (.tmp 1)), (some (20, false))⟩,
 ⟨(some 22), (.bin .gtr (.tmp 21) (.const (.int .i64 1099511627776))), (some (20, false))⟩,
 (rO 23 (.pick (.tmp 20) (.const (.bool true)) (.tmp 22)))])
 (.cond (.tmp 23) (.seq (.reg [(rO 6 (.mv (.const (.slice none 0 0)))),
 (rO 7 (.mv (.const (.bool false))))])
 .ret)
 .skip))
 (.seq (.seq (.reg [(rO 25 (.mv (.tmp 0))),
 (rO 26 (.nilc (.tmp 25))),
 (rO 27 (.fa 2 (.tmp 26))),
 (rO 28 (.ld none (.tmp 27))),
 (rO 29 (.mv (.tmp 1))),
 (rO 30 (.look (.get true true) (.agg #[.int .i64 (0), .slice none 0 0]) (.tmp 28) (.tmp 29))),
 (rO 24 (.mv (.tmp 30))),
 (rO 31 (.ext 0 (.tmp 24))),
 (rO 32 (.ext 1 (.tmp 24))),
 (rO 8 (.new 51 [.int .i64 (0), .slice none 0 0])),
 ⟨none, (.st 2 (.tmp 8) (.tmp 31)), none⟩,
 (rO 9 (.mv (.tmp 32)))])
 (.seq (.reg [(rO 33 (.mv (.tmp 9)))])
 (.cond (.tmp 33) (.seq (.reg [(rO 6 (.mv (.const (.slice none 0 0)))),
 (rO 7 (.mv (.const (.bool false))))])
 .ret)
 .skip)))
 (.seq (.seq (.reg [(rO 34 (.mv (.tmp 1))),
 (rO 35 (.mv (.tmp 0))),
 (rO 36 (.nilc (.tmp 35))),
 (rO 37 (.fa 0 (.tmp 36))),
 (rO 38 (.ld none (.tmp 37))),
 (rO 39 (.bin .add (.tmp 38) (.const (.int .i64 1)))),
 (rO 40 (.bin .eql (.tmp 34) (.tmp 39)))])
 (.cond (.tmp 40) (.seq (.reg [(rO 41 (.mv (.tmp 0))),
 (rO 42 (.ld (some 2) (.tmp 5))),
 (rO 43 (.call 53 [(.tmp 41), (.tmp 42)])),
 (rO 6 (.mv (.tmp 43))),
 (rO 7 (.mv (.const (.bool false))))])
 .ret)
 .skip))
 (.seq (.seq (.draw [⟨(rO 44 (.mv (.tmp 0))), .p⟩,
 ⟨(rO 45 (.nilc (.tmp 44))), .p⟩,
 ⟨(rO 46 (.fa 2 (.tmp 45))), .p⟩,
 ⟨(rO 47 (.ld none (.tmp 46))), .l⟩,
 ⟨(rO 48 (.look .size undef (.tmp 47) (.const undef))), .l⟩,
 ⟨(rO 49 (.mv (.tmp 0))), .p⟩,
 ⟨(rO 50 (.nilc (.tmp 49))), .p⟩,
 ⟨(rO 51 (.fa 1 (.tmp 50))), .p⟩,
 ⟨(rO 52 (.ld none (.tmp 51))), .l⟩,
 ⟨(rO 53 (.bin .geq (.tmp 48) (.tmp 52))), .p⟩])
 (.cond (.tmp 53) (.seq (.reg [(rO 54 (.mv (.tmp 0))),
 (rO 55 (.nilc (.tmp 54))),
 (rO 56 (.fa 2 (.tmp 55))),
 (rO 57 (.ld none (.tmp 56))),
 ⟨none, (.mset .clr (.tmp 57) (.const undef) (.const undef)), none⟩])
 (.seq (.reg [(rO 6 (.mv (.const (.slice none 0 0)))),
 (rO 7 (.mv (.const (.bool true))))])
 .ret))
 .skip))
 (.seq (.draw [⟨(rO 58 (.mv (.tmp 0))), .p⟩,
 ⟨(rO 59 (.nilc (.tmp 58))), .p⟩,
 ⟨(rO 60 (.fa 2 (.tmp 59))), .p⟩,
 ⟨(rO 61 (.ld none (.tmp 60))), .l⟩,
 ⟨(rO 62 (.mv (.tmp 1))), .p⟩,
 ⟨(rO 63 (.ld (some 2) (.tmp 5))), .l⟩,
 ⟨⟨none, (.mset (.put true) (.tmp 61) (.tmp 62) (.tmp 63)), none⟩, .m⟩])
 (.seq (.reg [(rO 6 (.mv (.const (.slice none 0 0)))),
 (rO 7 (.mv (.const (.bool false))))])
 .ret)))))))
def r18 : List RV := [.tmp 6, .tmp 7]
theorem ok18 : FnOk Try.prog 18 64 c18 r18 := ⟨[], _, _, Try.func18, rfl, rfl, by kernel_rfl, by kernel_rfl, by kernel_rfl⟩
/-- (*vouch/recent.Recent).Last -/
def c19 : C := (.seq (.reg [(rO 2 (.mv (.const (.int .i64 0))))])
 (.seq (.seq (.reg [(rO 3 (.mv (.tmp 0))),
 (rO 4 (.eqs false .ptr (.tmp 3) (.const (.pointer none))))])
 (.cond (.tmp 4) (.seq (.reg [(rO 2 (.mv (.const (.int .i64 0))))])
 .ret)
 .skip))
 (.seq (.reg [(rO 5 (.mv (.tmp 0))),
 (rO 6 (.nilc (.tmp 5))),
 (rO 7 (.fa 4 (.tmp 6))),
 (rO 8 (.ld none (.tmp 7))),
 (rO 2 (.mv (.tmp 8)))])
 .ret)))
def r19 : List RV := [.tmp 2]
theorem ok19 : FnOk Try.prog 19 9 c19 r19 := ⟨[], _, _, Try.func19, rfl, rfl, by kernel_rfl, by kernel_rfl, by kernel_rfl⟩
/-- (*vouch/recent.Recent).Note -/
def c20 : C := (.seq (.reg [(rO 6 (.mv (.const (.bool false))))])
 (.seq (.seq (.reg [(rO 9 (.mv (.tmp 0))),
 (rO 10 (.eqs false .ptr (.tmp 9) (.const (.pointer none)))),
 (rO 11 (.mv (.tmp 10))),
 ⟨(some 12), (.mv (.tmp 1)), (some (11, false))⟩,
 ⟨(some 13), (.mv (.tmp 0)), (some (11, false))⟩,
 ⟨(some 14), (.nilc (.tmp 13)), (some (11, false))⟩,
 ⟨(some 15), (.fa 4 (.tmp 14)), (some (11, false))⟩,
 ⟨(some 16), (.ld none (.tmp 15)), (some (11, false))⟩,
 ⟨(some 17), (.bin .leq (.tmp 12) (.tmp 16)), (some (11, false))⟩,
 (rO 18 (.pick (.tmp 11) (.const (.bool true)) (.tmp 17))),
 (rO 19 (.mv (.tmp 18))),
 ⟨(some 20), (.mv (.tmp 1)), (some (19, false))⟩,
 ⟨(some 21), (.bin .gtr (.tmp 20) (.const (.int .i64 1099511627776))), (some (19, false))⟩,
 (rO 22 (.pick (.tmp 19) (.const (.bool true)) (.tmp 21)))])
 (.cond (.tmp 22) (.seq (.reg [(rO 6 (.mv (.const (.bool false))))])
 .ret)
 .skip))
 (.seq (.reg [(rO 23 (.mv (.tmp 0))),
 (rO 24 (.mv (.tmp 1))),
 (rO 25 (.nilc (.tmp 23))),
 (rO 26 (.fa 4 (.tmp 25))),
 ⟨none, (.st 1 (.tmp 26) (.tmp 24)), none⟩])
 (.seq (.seq (.reg [(rO 27 (.mv (.tmp 2))),
 (rO 28 (.len true (.tmp 27))),
 (rO 29 (.mv (.const (.int .i64 0))))])
 (.block 0 (.loop (.seq (.reg [(rO 30 (.bin .lss (.tmp 29) (.tmp 28)))])
 (.seq (.cond (.tmp 30) .skip
 (.exit 0))
 (.seq (.block 1 (.seq (.reg [(rO 31 (.ia 1 (.tmp 27) (.tmp 29))),
 (rO 32 (.ld none (.tmp 31))),
 (rO 8 (.mv (.tmp 32)))])
 (.reg [(rO 33 (.mv (.tmp 0))),
 (rO 34 (.mv (.tmp 1))),
 (rO 35 (.mv (.tmp 8))),
 (rO 36 (.bld [.int .i64 (0), .string ⟨#[]⟩] [(0, 1, (.tmp 34)), (1, 1, (.tmp 35))])),
 (rO 37 (.call 54 [(.tmp 33), (.tmp 36)]))])))
 (.reg [(rO 38 (.bin .add (.tmp 29) (.const (.int .i64 1)))),
 (rO 29 (.mv (.tmp 38)))])))))))
 (.seq (.reg [(rO 6 (.mv (.const (.bool true))))])
 .ret)))))
def r20 : List RV := [.tmp 6]
theorem ok20 : FnOk Try.prog 20 39 c20 r20 := ⟨[], _, _, Try.func20, rfl, rfl, by kernel_rfl, by kernel_rfl, by kernel_rfl⟩
/-- (*vouch/gap.Gap[vouch/api.Record]).At -/
def c21 : C := (.seq (.reg [(rO 2 (.mv (.const (.int .i64 0))))])
 (.seq (.seq (.reg [(rO 3 (.mv (.tmp 0))),
 (rO 4 (.eqs false .ptr (.tmp 3) (.const (.pointer none))))])
 (.cond (.tmp 4) (.seq (.reg [(rO 2 (.mv (.const (.int .i64 0))))])
 .ret)
 .skip))
 (.seq (.reg [(rO 5 (.mv (.tmp 0))),
 (rO 6 (.nilc (.tmp 5))),
 (rO 7 (.fa 0 (.tmp 6))),
 (rO 8 (.ld none (.tmp 7))),
 (rO 2 (.mv (.tmp 8)))])
 .ret)))
def r21 : List RV := [.tmp 2]
theorem ok21 : FnOk Try.prog 21 9 c21 r21 := ⟨[], _, _, Try.func21, rfl, rfl, by kernel_rfl, by kernel_rfl, by kernel_rfl⟩
/-- (*vouch/recent.Recent).Covers -/
def c22 : C := (.seq (.reg [(rO 4 (.mv (.const (.bool false))))])
 (.seq (.reg [(rO 5 (.mv (.tmp 0))),
 (rO 6 (.eqs true .ptr (.tmp 5) (.const (.pointer none)))),
 (rO 7 (.mv (.tmp 6))),
 ⟨(some 8), (.mv (.tmp 0)), (some (7, true))⟩,
 ⟨(some 9), (.nilc (.tmp 8)), (some (7, true))⟩,
 ⟨(some 10), (.fa 3 (.tmp 9)), (some (7, true))⟩,
 ⟨(some 11), (.ld none (.tmp 10)), (some (7, true))⟩,
 ⟨(some 12), (.mv (.tmp 1)), (some (7, true))⟩,
 ⟨(some 13), (.bin .leq (.tmp 11) (.tmp 12)), (some (7, true))⟩,
 (rO 14 (.pick (.tmp 7) (.tmp 13) (.const (.bool false)))),
 (rO 15 (.mv (.tmp 14))),
 ⟨(some 16), (.mv (.tmp 1)), (some (15, true))⟩,
 ⟨(some 17), (.mv (.tmp 0)), (some (15, true))⟩,
 ⟨(some 18), (.nilc (.tmp 17)), (some (15, true))⟩,
 ⟨(some 19), (.fa 4 (.tmp 18)), (some (15, true))⟩,
 ⟨(some 20), (.ld none (.tmp 19)), (some (15, true))⟩,
 ⟨(some 21), (.bin .leq (.tmp 16) (.tmp 20)), (some (15, true))⟩,
 (rO 22 (.pick (.tmp 15) (.tmp 21) (.const (.bool false)))),
 (rO 4 (.mv (.tmp 22)))])
 .ret))
def r22 : List RV := [.tmp 4]
theorem ok22 : FnOk Try.prog 22 23 c22 r22 := ⟨[], _, _, Try.func22, rfl, rfl, by kernel_rfl, by kernel_rfl, by kernel_rfl⟩
/-- (*vouch/recent.Recent).First -/
def c23 : C := (.seq (.reg [(rO 6 (.mv (.const (.int .i64 0)))),
 (rO 7 (.mv (.const (.bool false))))])
 (.seq (.seq (.reg [(rO 10 (.mv (.tmp 0))),
 (rO 11 (.eqs false .ptr (.tmp 10) (.const (.pointer none))))])
 (.cond (.tmp 11) (.seq (.reg [(rO 6 (.mv (.const (.int .i64 0)))),
 (rO 7 (.mv (.const (.bool false))))])
 .ret)
 .skip))
 (.seq (.seq (.reg [(rO 12 (.mv (.tmp 0))),
 (rO 13 (.nilc (.tmp 12))),
 (rO 14 (.fa 2 (.tmp 13))),
 (rO 15 (.ld none (.tmp 14))),
 (rO 16 (.mv (.const (.int .i64 0))))])
 (.block 0 (.loop (.seq (.reg [(rO 17 (.bin .lss (.tmp 16) (.tmp 15)))])
 (.seq (.cond (.tmp 17) .skip
 (.exit 0))
 (.seq (.block 1 (.seq (.reg [(rO 18 (.mv (.tmp 16))),
 (rO 8 (.mv (.tmp 18)))])
 (.seq (.reg [(rO 19 (.mv (.tmp 0))),
 (rO 20 (.mv (.tmp 8))),
 (rO 21 (.call 55 [(.tmp 19), (.tmp 20)])),
 (rO 9 (.new 130 [.int .i64 (0), .string ⟨#[]⟩])),
 ⟨none, (.st 2 (.tmp 9) (.tmp 21)), none⟩])
 (.seq (.reg [(rO 22 (.fa 0 (.tmp 9))),
 (rO 23 (.ld none (.tmp 22))),
 (rO 24 (.mv (.tmp 2))),
 (rO 25 (.bin .gtr (.tmp 23) (.tmp 24))),
 (rO 26 (.mv (.tmp 25))),
 ⟨(some 27), (.fa 1 (.tmp 9)), (some (26, true))⟩,
 ⟨(some 28), (.ld none (.tmp 27)), (some (26, true))⟩,
 ⟨(some 29), (.mv (.tmp 1)), (some (26, true))⟩,
 ⟨(some 30), (.bin .eql (.tmp 28) (.tmp 29)), (some (26, true))⟩,
 (rO 31 (.pick (.tmp 26) (.tmp 30) (.const (.bool false))))])
 (.cond (.tmp 31) (.seq (.reg [(rO 32 (.fa 0 (.tmp 9))),
 (rO 33 (.ld none (.tmp 32))),
 (rO 6 (.mv (.tmp 33))),
 (rO 7 (.mv (.const (.bool true))))])
 .ret)
 .skip)))))
 (.reg [(rO 34 (.bin .add (.tmp 16) (.const (.int .i64 1)))),
 (rO 16 (.mv (.tmp 34)))])))))))
 (.seq (.reg [(rO 6 (.mv (.const (.int .i64 0)))),
 (rO 7 (.mv (.const (.bool false))))])
 .ret))))
def r23 : List RV := [.tmp 6, .tmp 7]
theorem ok23 : FnOk Try.prog 23 35 c23 r23 := ⟨[], _, _, Try.func23, rfl, rfl, by kernel_rfl, by kernel_rfl, by kernel_rfl⟩
/-- (*vouch/gap.Gap[vouch/api.Record]).Clear -/
def c52 : C := (.seq (.reg [(rO 4 (.mv (.tmp 0))),
 (rO 5 (.eqs true .ptr (.tmp 4) (.const (.pointer none))))])
 (.cond (.tmp 5) (.reg [(rO 6 (.mv (.tmp 0))),
 (rO 7 (.mv (.tmp 0))),
 (rO 8 (.mv (.tmp 1))),
 (rO 9 (.mx true (.tmp 8) (.const (.int .i64 0)))),
 (rO 10 (.mx false (.tmp 9) (.const (.int .i64 1099511627776)))),
 (rO 11 (.mkmap true)),
 (rO 12 (.nilc (.tmp 6))),
 (rO 13 (.fa 0 (.tmp 12))),
 ⟨none, (.st 1 (.tmp 13) (.tmp 10)), none⟩,
 (rO 14 (.nilc (.tmp 7))),
 (rO 15 (.fa 2 (.tmp 14))),
 ⟨none, (.st 1 (.tmp 15) (.tmp 11)), none⟩])
 .skip))
def r52 : List RV := []
theorem ok52 : FnOk Try.prog 52 16 c52 r52 := ⟨[], _, _, Try.func52, rfl, rfl, by kernel_rfl, by kernel_rfl, by kernel_rfl⟩
/-- (*vouch/gap.Gap[vouch/api.Record]).out -/
def c53 : C := (.seq (.reg [(rO 3 (.box 51 (.tmp 1))),
 (rO 4 (.mv (.const (.slice none 0 0))))])
 (.seq (.reg [(rO 8 (.ld (some 2) (.tmp 3))),
 (rO 9 (.lit 51 1 2 [.int .i64 (0), .slice none 0 0] [(0, 2, (.tmp 8))])),
 (rO 5 (.mv (.tmp 9)))])
 (.seq (.reg [(rO 10 (.mv (.tmp 0))),
 (rO 11 (.nilc (.tmp 10))),
 (rO 12 (.fa 0 (.tmp 11))),
 (rO 13 (.ld none (.tmp 12))),
 (rO 14 (.bin .add (.tmp 13) (.const (.int .i64 1)))),
 (rO 15 (.nilc (.tmp 10))),
 (rO 16 (.fa 0 (.tmp 15))),
 ⟨none, (.st 1 (.tmp 16) (.tmp 14)), none⟩])
 (.block 0 (.loop (.block 1 (.seq (.draw [⟨(rO 18 (.mv (.tmp 0))), .p⟩,
 ⟨(rO 19 (.nilc (.tmp 18))), .p⟩,
 ⟨(rO 20 (.fa 2 (.tmp 19))), .p⟩,
 ⟨(rO 21 (.ld none (.tmp 20))), .l⟩,
 ⟨(rO 22 (.mv (.tmp 0))), .p⟩,
 ⟨(rO 23 (.nilc (.tmp 22))), .p⟩,
 ⟨(rO 24 (.fa 0 (.tmp 23))), .p⟩,
 ⟨(rO 25 (.ld none (.tmp 24))), .l⟩,
 ⟨(rO 26 (.bin .add (.tmp 25) (.const (.int .i64 1)))), .p⟩,
 ⟨(rO 27 (.look (.get true true) (.agg #[.int .i64 (0), .slice none 0 0]) (.tmp 21) (.tmp 26))), .l⟩,
 ⟨(rO 17 (.mv (.tmp 27))), .p⟩,
 ⟨(rO 28 (.ext 0 (.tmp 17))), .p⟩,
 ⟨(rO 29 (.ext 1 (.tmp 17))), .p⟩,
 ⟨(rO 6 (.new 51 [.int .i64 (0), .slice none 0 0])), .f⟩,
 ⟨⟨none, (.st 2 (.tmp 6) (.tmp 28)), none⟩, .m⟩,
 ⟨(rO 7 (.mv (.tmp 29))), .p⟩])
 (.seq (.seq (.reg [(rO 30 (.mv (.tmp 7))),
 (rO 31 (.nt (.tmp 30)))])
 (.cond (.tmp 31) (.seq (.reg [(rO 32 (.mv (.tmp 5))),
 (rO 4 (.mv (.tmp 32)))])
 .ret)
 .skip))
 (.seq (.reg [(rO 33 (.mv (.tmp 5))),
 (rO 34 (.ld (some 2) (.tmp 6))),
 (rO 35 (.lit 51 1 2 [.int .i64 (0), .slice none 0 0] [(0, 2, (.tmp 34))])),
 (rO 36 (.app 51 2 32 (.tmp 33) (.tmp 35))),
 (rO 5 (.mv (.tmp 36)))])
 (.seq (.reg [(rO 37 (.mv (.tmp 0))),
 (rO 38 (.nilc (.tmp 37))),
 (rO 39 (.fa 0 (.tmp 38))),
 (rO 40 (.ld none (.tmp 39))),
 (rO 41 (.bin .add (.tmp 40) (.const (.int .i64 1)))),
 (rO 42 (.nilc (.tmp 37))),
 (rO 43 (.fa 0 (.tmp 42))),
 ⟨none, (.st 1 (.tmp 43) (.tmp 41)), none⟩])
 (.draw [⟨(rO 44 (.mv (.tmp 0))), .p⟩,
 ⟨(rO 45 (.nilc (.tmp 44))), .p⟩,
 ⟨(rO 46 (.fa 2 (.tmp 45))), .p⟩,
 ⟨(rO 47 (.ld none (.tmp 46))), .l⟩,
 ⟨(rO 48 (.mv (.tmp 0))), .p⟩,
 ⟨(rO 49 (.nilc (.tmp 48))), .p⟩,
 ⟨(rO 50 (.fa 0 (.tmp 49))), .p⟩,
 ⟨(rO 51 (.ld none (.tmp 50))), .l⟩,
 ⟨⟨none, (.mset (.del true) (.tmp 47) (.tmp 51) (.const undef)), none⟩, .m⟩])))))))))))
def r53 : List RV := [.tmp 4]
theorem ok53 : FnOk Try.prog 53 52 c53 r53 := ⟨[], _, _, Try.func53, rfl, rfl, by kernel_rfl, by kernel_rfl, by kernel_rfl⟩
/-- (*vouch/recent.Recent).put -/
def c54 : C := (.seq (.reg [(rO 3 (.box 130 (.tmp 1)))])
 (.seq (.seq (.reg [(rO 4 (.mv (.tmp 0))),
 (rO 5 (.nilc (.tmp 4))),
 (rO 6 (.fa 0 (.tmp 5))),
 (rO 7 (.ld none (.tmp 6))),
 (rO 8 (.len true (.tmp 7))),
 (rO 9 (.bin .eql (.tmp 8) (.const (.int .i64 0))))])
 (.cond (.tmp 9) (.seq (.reg [(rO 10 (.mv (.tmp 0))),
 (rO 11 (.fa 0 (.tmp 3))),
 (rO 12 (.ld none (.tmp 11))),
 (rO 13 (.nilc (.tmp 10))),
 (rO 14 (.fa 3 (.tmp 13))),
 ⟨none, (.st 1 (.tmp 14) (.tmp 12)), none⟩])
 .ret)
 .skip))
 (.seq (.seq (.draw [⟨(rO 15 (.mv (.tmp 0))), .p⟩,
 ⟨(rO 16 (.nilc (.tmp 15))), .p⟩,
 ⟨(rO 17 (.fa 2 (.tmp 16))), .p⟩,
 ⟨(rO 18 (.ld none (.tmp 17))), .l⟩,
 ⟨(rO 19 (.mv (.tmp 0))), .p⟩,
 ⟨(rO 20 (.nilc (.tmp 19))), .p⟩,
 ⟨(rO 21 (.fa 0 (.tmp 20))), .p⟩,
 ⟨(rO 22 (.ld none (.tmp 21))), .l⟩,
 ⟨(rO 23 (.len true (.tmp 22))), .p⟩,
 ⟨(rO 24 (.bin .eql (.tmp 18) (.tmp 23))), .p⟩])
 (.cond (.tmp 24) (.seq (.draw [⟨(rO 25 (.mv (.tmp 0))), .p⟩,
 ⟨(rO 26 (.mv (.tmp 0))), .p⟩,
 ⟨(rO 27 (.nilc (.tmp 26))), .p⟩,
 ⟨(rO 28 (.fa 0 (.tmp 27))), .p⟩,
 ⟨(rO 29 (.ld none (.tmp 28))), .l⟩,
 ⟨(rO 30 (.mv (.tmp 0))), .p⟩,
 ⟨(rO 31 (.nilc (.tmp 30))), .p⟩,
 ⟨(rO 32 (.fa 1 (.tmp 31))), .p⟩,
 ⟨(rO 33 (.ld none (.tmp 32))), .l⟩,
 ⟨(rO 34 (.ia 2 (.tmp 29) (.tmp 33))), .p⟩,
 ⟨(rO 35 (.fa 0 (.tmp 34))), .p⟩,
 ⟨(rO 36 (.ld none (.tmp 35))), .l⟩,
 ⟨(rO 37 (.nilc (.tmp 25))), .p⟩,
 ⟨(rO 38 (.fa 3 (.tmp 37))), .p⟩,
 ⟨⟨none, (.st 1 (.tmp 38) (.tmp 36)), none⟩, .m⟩])
 (.seq (.draw [⟨(rO 39 (.mv (.tmp 0))), .p⟩,
 ⟨(rO 40 (.mv (.tmp 0))), .p⟩,
 ⟨(rO 41 (.nilc (.tmp 40))), .p⟩,
 ⟨(rO 42 (.fa 1 (.tmp 41))), .p⟩,
 ⟨(rO 43 (.ld none (.tmp 42))), .l⟩,
 ⟨(rO 44 (.bin .add (.tmp 43) (.const (.int .i64 1)))), .p⟩,
 ⟨(rO 45 (.mv (.tmp 0))), .p⟩,
 ⟨(rO 46 (.nilc (.tmp 45))), .p⟩,
 ⟨(rO 47 (.fa 0 (.tmp 46))), .p⟩,
 ⟨(rO 48 (.ld none (.tmp 47))), .l⟩,
 ⟨(rO 49 (.len true (.tmp 48))), .p⟩,
 ⟨(rO 50 (.bin .rem (.tmp 44) (.tmp 49))), .p⟩,
 ⟨(rO 51 (.nilc (.tmp 39))), .p⟩,
 ⟨(rO 52 (.fa 1 (.tmp 51))), .p⟩,
 ⟨⟨none, (.st 1 (.tmp 52) (.tmp 50)), none⟩, .m⟩])
 (.reg [(rO 53 (.mv (.tmp 0))),
 (rO 54 (.nilc (.tmp 53))),
 (rO 55 (.fa 2 (.tmp 54))),
 (rO 56 (.ld none (.tmp 55))),
 (rO 57 (.bin .sub (.tmp 56) (.const (.int .i64 1)))),
 (rO 58 (.nilc (.tmp 53))),
 (rO 59 (.fa 2 (.tmp 58))),
 ⟨none, (.st 1 (.tmp 59) (.tmp 57)), none⟩])))
 .skip))
 (.seq (.draw [⟨(rO 60 (.mv (.tmp 0))), .p⟩,
 ⟨(rO 61 (.nilc (.tmp 60))), .p⟩,
 ⟨(rO 62 (.fa 0 (.tmp 61))), .p⟩,
 ⟨(rO 63 (.ld none (.tmp 62))), .l⟩,
 ⟨(rO 64 (.mv (.tmp 0))), .p⟩,
 ⟨(rO 65 (.nilc (.tmp 64))), .p⟩,
 ⟨(rO 66 (.fa 1 (.tmp 65))), .p⟩,
 ⟨(rO 67 (.ld none (.tmp 66))), .l⟩,
 ⟨(rO 68 (.mv (.tmp 0))), .p⟩,
 ⟨(rO 69 (.nilc (.tmp 68))), .p⟩,
 ⟨(rO 70 (.fa 2 (.tmp 69))), .p⟩,
 ⟨(rO 71 (.ld none (.tmp 70))), .l⟩,
 ⟨(rO 72 (.bin .add (.tmp 67) (.tmp 71))), .p⟩,
 ⟨(rO 73 (.mv (.tmp 0))), .p⟩,
 ⟨(rO 74 (.nilc (.tmp 73))), .p⟩,
 ⟨(rO 75 (.fa 0 (.tmp 74))), .p⟩,
 ⟨(rO 76 (.ld none (.tmp 75))), .l⟩,
 ⟨(rO 77 (.len true (.tmp 76))), .p⟩,
 ⟨(rO 78 (.bin .rem (.tmp 72) (.tmp 77))), .p⟩,
 ⟨(rO 79 (.ld (some 2) (.tmp 3))), .l⟩,
 ⟨(rO 80 (.ia 2 (.tmp 63) (.tmp 78))), .p⟩,
 ⟨⟨none, (.st 2 (.tmp 80) (.tmp 79)), none⟩, .m⟩])
 (.reg [(rO 81 (.mv (.tmp 0))),
 (rO 82 (.nilc (.tmp 81))),
 (rO 83 (.fa 2 (.tmp 82))),
 (rO 84 (.ld none (.tmp 83))),
 (rO 85 (.bin .add (.tmp 84) (.const (.int .i64 1)))),
 (rO 86 (.nilc (.tmp 81))),
 (rO 87 (.fa 2 (.tmp 86))),
 ⟨none, (.st 1 (.tmp 87) (.tmp 85)), none⟩])))))
def r54 : List RV := []
theorem ok54 : FnOk Try.prog 54 88 c54 r54 := ⟨[], _, _, Try.func54, rfl, rfl, by kernel_rfl, by kernel_rfl, by kernel_rfl⟩
/-- (*vouch/recent.Recent).at -/
def c55 : C := (.seq (.reg [(rO 4 (.new 130 [.int .i64 (0), .string ⟨#[]⟩]))])
 (.seq (.draw [⟨(rO 5 (.mv (.tmp 0))), .p⟩,
 ⟨(rO 6 (.nilc (.tmp 5))), .p⟩,
 ⟨(rO 7 (.fa 0 (.tmp 6))), .p⟩,
 ⟨(rO 8 (.ld none (.tmp 7))), .l⟩,
 ⟨(rO 9 (.mv (.tmp 0))), .p⟩,
 ⟨(rO 10 (.nilc (.tmp 9))), .p⟩,
 ⟨(rO 11 (.fa 1 (.tmp 10))), .p⟩,
 ⟨(rO 12 (.ld none (.tmp 11))), .l⟩,
 ⟨(rO 13 (.mv (.tmp 1))), .p⟩,
 ⟨(rO 14 (.bin .add (.tmp 12) (.tmp 13))), .p⟩,
 ⟨(rO 15 (.mv (.tmp 0))), .p⟩,
 ⟨(rO 16 (.nilc (.tmp 15))), .p⟩,
 ⟨(rO 17 (.fa 0 (.tmp 16))), .p⟩,
 ⟨(rO 18 (.ld none (.tmp 17))), .l⟩,
 ⟨(rO 19 (.len true (.tmp 18))), .p⟩,
 ⟨(rO 20 (.bin .rem (.tmp 14) (.tmp 19))), .p⟩,
 ⟨(rO 21 (.ia 2 (.tmp 8) (.tmp 20))), .p⟩,
 ⟨(rO 22 (.ld (some 2) (.tmp 21))), .l⟩,
 ⟨⟨none, (.st 2 (.tmp 4) (.tmp 22)), none⟩, .m⟩])
 .ret))
def r55 : List RV := [.agg 4 2]
theorem ok55 : FnOk Try.prog 55 23 c55 r55 := ⟨[], _, _, Try.func55, rfl, rfl, by kernel_rfl, by kernel_rfl, by kernel_rfl⟩
end Go.Proofs.Ytpnghjmphbhkjaa
