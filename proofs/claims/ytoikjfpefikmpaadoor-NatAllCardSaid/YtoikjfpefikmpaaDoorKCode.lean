/- The functions' code. -/
import Derived.Test.YtoikjfpefikmpaaDoorKEvD
import Derived.Test.YtoikjfpefikmpaaDoorKNums
set_option linter.all false
namespace Go.Ev
@[reducible] def oq(i:Nat)(o:O)(r:PO):PO := .one ⟨some i,o,none⟩ r
@[reducible] def oz(o:O)(r:PO):PO := .one ⟨none,o,none⟩ r
@[reducible] def zt8:List D:=[.int .i64 0,.bool false,.bool false,.sl .full 0 [],.int .i64 0,.str [],.sl .full 0 [],.sl .full 0 []]
def G_0:List V:=[.int .u8 240,.int .u8 240,.int .u8 240,.int .u8 240,.int .u8 240,.int .u8 240,.int .u8 240,.int .u8 240,.int .u8 240,.int .u8 240,.int .u8 240,.int .u8 240,.int .u8 240,.int .u8 240,.int .u8 240,.int .u8 240,.int .u8 240,.int .u8 240,.int .u8 240,.int .u8 240,.int .u8 240,.int .u8 240,.int .u8 240,.int .u8 240,.int .u8 240,.int .u8 240,.int .u8 240,.int .u8 240,.int .u8 240,.int .u8 240,.int .u8 240,.int .u8 240,.int .u8 240,.int .u8 240,.int .u8 240,.int .u8 240,.int .u8 240,.int .u8 240,.int .u8 240,.int .u8 240,.int .u8 240,.int .u8 240,.int .u8 240,.int .u8 240,.int .u8 240,.int .u8 240,.int .u8 240,.int .u8 240,.int .u8 240,.int .u8 240,.int .u8 240,.int .u8 240,.int .u8 240,.int .u8 240,.int .u8 240,.int .u8 240,.int .u8 240,.int .u8 240,.int .u8 240,.int .u8 240,.int .u8 240,.int .u8 240,.int .u8 240,.int .u8 240,.int .u8 240,.int .u8 240,.int .u8 240,.int .u8 240,.int .u8 240,.int .u8 240,.int .u8 240,.int .u8 240,.int .u8 240,.int .u8 240,.int .u8 240,.int .u8 240,.int .u8 240,.int .u8 240,.int .u8 240,.int .u8 240,.int .u8 240,.int .u8 240,.int .u8 240,.int .u8 240,.int .u8 240,.int .u8 240,.int .u8 240,.int .u8 240,.int .u8 240,.int .u8 240,.int .u8 240,.int .u8 240,.int .u8 240,.int .u8 240,.int .u8 240,.int .u8 240,.int .u8 240,.int .u8 240,.int .u8 240,.int .u8 240,.int .u8 240,.int .u8 240,.int .u8 240,.int .u8 240,.int .u8 240,.int .u8 240,.int .u8 240,.int .u8 240,.int .u8 240,.int .u8 240,.int .u8 240,.int .u8 240,.int .u8 240,.int .u8 240,.int .u8 240,.int .u8 240,.int .u8 240,.int .u8 240,.int .u8 240,.int .u8 240,.int .u8 240,.int .u8 240,.int .u8 240,.int .u8 240,.int .u8 240,.int .u8 240,.int .u8 240,.int .u8 240,.int .u8 241,.int .u8 241,.int .u8 241,.int .u8 241,.int .u8 241,.int .u8 241,.int .u8 241,.int .u8 241,.int .u8 241,.int .u8 241,.int .u8 241,.int .u8 241,.int .u8 241,.int .u8 241,.int .u8 241,.int .u8 241,.int .u8 241,.int .u8 241,.int .u8 241,.int .u8 241,.int .u8 241,.int .u8 241,.int .u8 241,.int .u8 241,.int .u8 241,.int .u8 241,.int .u8 241,.int .u8 241,.int .u8 241,.int .u8 241,.int .u8 241,.int .u8 241,.int .u8 241,.int .u8 241,.int .u8 241,.int .u8 241,.int .u8 241,.int .u8 241,.int .u8 241,.int .u8 241,.int .u8 241,.int .u8 241,.int .u8 241,.int .u8 241,.int .u8 241,.int .u8 241,.int .u8 241,.int .u8 241,.int .u8 241,.int .u8 241,.int .u8 241,.int .u8 241,.int .u8 241,.int .u8 241,.int .u8 241,.int .u8 241,.int .u8 241,.int .u8 241,.int .u8 241,.int .u8 241,.int .u8 241,.int .u8 241,.int .u8 241,.int .u8 241,.int .u8 241,.int .u8 241,.int .u8 2,.int .u8 2,.int .u8 2,.int .u8 2,.int .u8 2,.int .u8 2,.int .u8 2,.int .u8 2,.int .u8 2,.int .u8 2,.int .u8 2,.int .u8 2,.int .u8 2,.int .u8 2,.int .u8 2,.int .u8 2,.int .u8 2,.int .u8 2,.int .u8 2,.int .u8 2,.int .u8 2,.int .u8 2,.int .u8 2,.int .u8 2,.int .u8 2,.int .u8 2,.int .u8 2,.int .u8 2,.int .u8 2,.int .u8 2,.int .u8 19,.int .u8 3,.int .u8 3,.int .u8 3,.int .u8 3,.int .u8 3,.int .u8 3,.int .u8 3,.int .u8 3,.int .u8 3,.int .u8 3,.int .u8 3,.int .u8 3,.int .u8 35,.int .u8 3,.int .u8 3,.int .u8 52,.int .u8 4,.int .u8 4,.int .u8 4,.int .u8 68,.int .u8 241,.int .u8 241,.int .u8 241,.int .u8 241,.int .u8 241,.int .u8 241,.int .u8 241,.int .u8 241,.int .u8 241,.int .u8 241,.int .u8 241]
def G_1:List V:=[.int .u8 128,.int .u8 191,.int .u8 160,.int .u8 191,.int .u8 128,.int .u8 159,.int .u8 144,.int .u8 191,.int .u8 128,.int .u8 143,.int .u8 0,.int .u8 0,.int .u8 0,.int .u8 0,.int .u8 0,.int .u8 0,.int .u8 0,.int .u8 0,.int .u8 0,.int .u8 0,.int .u8 0,.int .u8 0,.int .u8 0,.int .u8 0,.int .u8 0,.int .u8 0,.int .u8 0,.int .u8 0,.int .u8 0,.int .u8 0,.int .u8 0,.int .u8 0]
def q_law01_NatAll:PC:=
 (.seq
 (.reg (oq 10 (.mv (.k (.bool false)))<|
 .nil) [0,1,2,3,4])
 (.seq
 (.seq
 (.reg (oq 26 (.mv (.s 0))<|
 oq 27 (.mv (.s 1))<|
 oq 28 (.call f_law01_few [.s 26,.s 27])<|
 oq 29 (.un .not (.s 28))<|
 oq 30 (.mv (.s 29))<|
 .grp 30 false (oq 31 (.mv (.s 4))<|
 oq 32 (.lns (.s 31))<|
 oq 33 (.bin .gtr (.s 32) (.k (.int .i64 300)))<|
 .nil) 34 (.s 33) (.k (.bool true))<|
 oq 35 (.mv (.s 34))<|
 .grp 35 false (oq 36 (.mv (.s 3))<|
 oq 37 (.bin .gtr (.s 36) (.k (.int .i64 40)))<|
 oq 38 (.mv (.s 37))<|
 .grp 38 true (oq 39 (.mv (.s 3))<|
 oq 40 (.bin .lss (.s 39) (.k (.int .i64 1300)))<|
 .nil) 41 (.s 40) (.k (.bool false))<|
 .nil) 42 (.s 41) (.k (.bool true))<|
 .nil) [0,1,2,3,4,42])
 (.cond (.s 42)
 (.seq
 (.reg (oq 43 (.call f_law01_awake [])<|
 oq 10 (.mv (.s 43))<|
 .nil) [10])
 .ret)
 .skip))
 (.seq
 (.reg (oq 11 (.mv (.k (.fn f_law00_SameLimbs [])))<|
 .nil) [0,1,2,3,4,11])
 (.seq
 (.reg (oq 44 (.mv (.s 0))<|
 oq 45 (.call f_law00_Limbs [.s 44])<|
 oq 46 (.mv (.s 1))<|
 oq 47 (.call f_law00_Limbs [.s 46])<|
 oq 12 (.mv (.s 45))<|
 oq 13 (.mv (.s 47))<|
 .nil) [0,1,2,3,4,11,12,13])
 (.seq
 (.reg (oq 49 (.mv (.s 12))<|
 oq 50 (.mv (.s 13))<|
 oq 51 (.call f_nat_Div [.s 49,.s 50])<|
 oq 48 (.mv (.s 51))<|
 oq 52 (.ext (.s 48) 0)<|
 oq 53 (.ext (.s 48) 1)<|
 oq 14 (.mv (.s 52))<|
 oq 15 (.mv (.s 53))<|
 .nil) [0,1,2,3,4,11,12,13,14,15])
 (.seq
 (.reg (oq 55 (.mv (.s 0))<|
 oq 56 (.mv (.s 1))<|
 oq 57 (.call f_ref01_Div [.s 55,.s 56])<|
 oq 54 (.mv (.s 57))<|
 oq 58 (.ext (.s 54) 0)<|
 oq 59 (.ext (.s 54) 1)<|
 oq 16 (.mv (.s 58))<|
 oq 17 (.mv (.s 59))<|
 .nil) [0,1,2,3,4,11,12,13,14,15,16,17])
 (.seq
 (.reg (oq 61 (.mv (.s 12))<|
 oq 62 (.call f_nat_Trim [.s 61])<|
 oq 60 (.mv (.s 62))<|
 oq 63 (.ext (.s 60) 0)<|
 oq 64 (.ext (.s 60) 1)<|
 oq 18 (.mv (.s 63))<|
 oq 19 (.mv (.s 64))<|
 .nil) [0,1,2,3,4,11,12,13,14,15,16,17,18,19])
 (.seq
 (.reg (oq 66 (.mv (.s 0))<|
 oq 67 (.call f_ref01_Trim [.s 66])<|
 oq 65 (.mv (.s 67))<|
 oq 68 (.ext (.s 65) 0)<|
 oq 69 (.ext (.s 65) 1)<|
 oq 20 (.mv (.s 68))<|
 oq 21 (.mv (.s 69))<|
 .nil) [0,1,2,3,4,11,12,13,14,15,16,17,18,19,20,21])
 (.seq
 (.reg (oq 71 (.mv (.s 4))<|
 oq 72 (.call f_nat_Parse [.s 71])<|
 oq 70 (.mv (.s 72))<|
 oq 73 (.ext (.s 70) 0)<|
 oq 74 (.ext (.s 70) 1)<|
 oq 22 (.mv (.s 73))<|
 oq 23 (.mv (.s 74))<|
 .nil) [0,1,2,3,4,11,12,13,14,15,16,17,18,19,20,21,22,23])
 (.seq
 (.reg (oq 76 (.mv (.s 4))<|
 oq 77 (.call f_ref01_Parse [.s 76])<|
 oq 75 (.mv (.s 77))<|
 oq 78 (.ext (.s 75) 0)<|
 oq 79 (.ext (.s 75) 1)<|
 oq 24 (.mv (.s 78))<|
 oq 25 (.mv (.s 79))<|
 .nil) [0,1,2,3,11,12,13,14,15,16,17,18,19,20,21,22,23,24,25])
 (.seq
 (.seq
 (.reg (oq 80 (.mv (.s 11))<|
 oq 81 (.mv (.s 14))<|
 oq 82 (.mv (.s 16))<|
 oq 83 (.callv (.s 80) [.s 81,.s 82])<|
 oq 84 (.un .not (.s 83))<|
 oq 85 (.mv (.s 84))<|
 .grp 85 false (oq 86 (.mv (.s 11))<|
 oq 87 (.mv (.s 15))<|
 oq 88 (.mv (.s 17))<|
 oq 89 (.callv (.s 86) [.s 87,.s 88])<|
 oq 90 (.un .not (.s 89))<|
 .nil) 91 (.s 90) (.k (.bool true))<|
 oq 92 (.mv (.s 91))<|
 .grp 92 false (oq 93 (.mv (.s 11))<|
 oq 94 (.mv (.s 18))<|
 oq 95 (.mv (.s 20))<|
 oq 96 (.callv (.s 93) [.s 94,.s 95])<|
 oq 97 (.un .not (.s 96))<|
 .nil) 98 (.s 97) (.k (.bool true))<|
 oq 99 (.mv (.s 98))<|
 .grp 99 false (oq 100 (.mv (.s 19))<|
 oq 101 (.mv (.s 21))<|
 oq 102 (.bin .neq (.s 100) (.s 101))<|
 .nil) 103 (.s 102) (.k (.bool true))<|
 oq 104 (.mv (.s 103))<|
 .grp 104 false (oq 105 (.mv (.s 11))<|
 oq 106 (.mv (.s 22))<|
 oq 107 (.mv (.s 24))<|
 oq 108 (.callv (.s 105) [.s 106,.s 107])<|
 oq 109 (.un .not (.s 108))<|
 .nil) 110 (.s 109) (.k (.bool true))<|
 oq 111 (.mv (.s 110))<|
 .grp 111 false (oq 112 (.mv (.s 23))<|
 oq 113 (.mv (.s 25))<|
 oq 114 (.beq true (.s 112) (.s 113))<|
 .nil) 115 (.s 114) (.k (.bool true))<|
 oq 116 (.mv (.s 115))<|
 .grp 116 false (oq 117 (.mv (.s 12))<|
 oq 118 (.mv (.s 13))<|
 oq 119 (.call f_nat_Cmp [.s 117,.s 118])<|
 oq 120 (.mv (.s 0))<|
 oq 121 (.mv (.s 1))<|
 oq 122 (.call f_ref01_Cmp [.s 120,.s 121])<|
 oq 123 (.bin .neq (.s 119) (.s 122))<|
 .nil) 124 (.s 123) (.k (.bool true))<|
 oq 125 (.mv (.s 124))<|
 .grp 125 false (oq 126 (.mv (.s 12))<|
 oq 127 (.call f_nat_Bits [.s 126])<|
 oq 128 (.mv (.s 0))<|
 oq 129 (.call f_ref01_Bits [.s 128])<|
 oq 130 (.bin .neq (.s 127) (.s 129))<|
 .nil) 131 (.s 130) (.k (.bool true))<|
 .nil) [0,1,2,3,11,12,13,131])
 (.cond (.s 131)
 (.seq
 (.reg (oq 10 (.mv (.k (.bool false)))<|
 .nil) [10])
 .ret)
 .skip))
 (.seq
 (.seq
 (.reg (oq 132 (.mv (.s 3))<|
 oq 133 (.bin .lss (.s 132) (.k (.int .i64 40)))<|
 oq 134 (.mv (.s 133))<|
 .grp 134 true (oq 135 (.mv (.s 11))<|
 oq 136 (.mv (.s 2))<|
 oq 137 (.mv (.s 3))<|
 oq 138 (.call f_nat_Pow [.s 136,.s 137])<|
 oq 139 (.mv (.s 2))<|
 oq 140 (.mv (.s 3))<|
 oq 141 (.call f_ref01_Pow [.s 139,.s 140])<|
 oq 142 (.callv (.s 135) [.s 138,.s 141])<|
 oq 143 (.un .not (.s 142))<|
 .nil) 144 (.s 143) (.k (.bool false))<|
 .nil) [0,1,11,12,13,144])
 (.cond (.s 144)
 (.seq
 (.reg (oq 10 (.mv (.k (.bool false)))<|
 .nil) [10])
 .ret)
 .skip))
 (.seq
 (.reg (oq 145 (.mv (.s 11))<|
 oq 146 (.mv (.s 12))<|
 oq 147 (.call f_nat_Norm [.s 146])<|
 oq 148 (.mv (.s 0))<|
 oq 149 (.call f_ref01_Norm [.s 148])<|
 oq 150 (.callv (.s 145) [.s 147,.s 149])<|
 oq 151 (.mv (.s 150))<|
 .grp 151 true (oq 152 (.mv (.s 11))<|
 oq 153 (.mv (.s 12))<|
 oq 154 (.mv (.s 13))<|
 oq 155 (.call f_nat_Add [.s 153,.s 154])<|
 oq 156 (.mv (.s 0))<|
 oq 157 (.mv (.s 1))<|
 oq 158 (.call f_ref01_Add [.s 156,.s 157])<|
 oq 159 (.callv (.s 152) [.s 155,.s 158])<|
 .nil) 160 (.s 159) (.k (.bool false))<|
 oq 161 (.mv (.s 160))<|
 .grp 161 true (oq 162 (.mv (.s 11))<|
 oq 163 (.mv (.s 12))<|
 oq 164 (.mv (.s 13))<|
 oq 165 (.call f_nat_Sub [.s 163,.s 164])<|
 oq 166 (.mv (.s 0))<|
 oq 167 (.mv (.s 1))<|
 oq 168 (.call f_ref01_Sub [.s 166,.s 167])<|
 oq 169 (.callv (.s 162) [.s 165,.s 168])<|
 .nil) 170 (.s 169) (.k (.bool false))<|
 oq 171 (.mv (.s 170))<|
 .grp 171 true (oq 172 (.mv (.s 11))<|
 oq 173 (.mv (.s 12))<|
 oq 174 (.mv (.s 13))<|
 oq 175 (.call f_nat_Mul [.s 173,.s 174])<|
 oq 176 (.mv (.s 0))<|
 oq 177 (.mv (.s 1))<|
 oq 178 (.call f_ref01_Mul [.s 176,.s 177])<|
 oq 179 (.callv (.s 172) [.s 175,.s 178])<|
 .nil) 180 (.s 179) (.k (.bool false))<|
 oq 181 (.mv (.s 180))<|
 .grp 181 true (oq 182 (.mv (.s 12))<|
 oq 183 (.call f_nat_Digits [.s 182])<|
 oq 184 (.mv (.s 0))<|
 oq 185 (.call f_ref01_Digits [.s 184])<|
 oq 186 (.bin .eql (.s 183) (.s 185))<|
 .nil) 187 (.s 186) (.k (.bool false))<|
 oq 188 (.mv (.s 187))<|
 .grp 188 true (oq 189 (.mv (.s 11))<|
 oq 190 (.mv (.s 12))<|
 oq 191 (.mv (.s 0))<|
 oq 192 (.callv (.s 189) [.s 190,.s 191])<|
 .nil) 193 (.s 192) (.k (.bool false))<|
 oq 194 (.mv (.s 193))<|
 .grp 194 true (oq 195 (.mv (.s 11))<|
 oq 196 (.mv (.s 13))<|
 oq 197 (.mv (.s 1))<|
 oq 198 (.callv (.s 195) [.s 196,.s 197])<|
 .nil) 199 (.s 198) (.k (.bool false))<|
 oq 200 (.mv (.s 199))<|
 .grp 200 true (oq 201 (.call f_law01_awake [])<|
 .nil) 202 (.s 201) (.k (.bool false))<|
 oq 10 (.mv (.s 202))<|
 .nil) [10])
 .ret)))))))))))))
def p_law01_NatAll:PFn:=⟨[.tmp 10],q_law01_NatAll⟩
def n_law01_NatAll:Fn:=⟨5,[.tmp 10],false,false,erase q_law01_NatAll⟩
def q_law01_few:PC:=
 (.seq
 (.reg (oq 4 (.mv (.k (.bool false)))<|
 .nil) [0,1])
 (.seq
 (.reg (oq 5 (.mv (.s 0))<|
 oq 6 (.len (.s 5))<|
 oq 7 (.bin .leq (.s 6) (.k (.int .i64 25)))<|
 oq 8 (.mv (.s 7))<|
 .grp 8 true (oq 9 (.mv (.s 1))<|
 oq 10 (.len (.s 9))<|
 oq 11 (.bin .leq (.s 10) (.k (.int .i64 25)))<|
 .nil) 12 (.s 11) (.k (.bool false))<|
 oq 4 (.mv (.s 12))<|
 .nil) [4])
 .ret))
def p_law01_few:PFn:=⟨[.tmp 4],q_law01_few⟩
def n_law01_few:Fn:=⟨2,[.tmp 4],false,false,erase q_law01_few⟩
def q_law01_awake:PC:=
 (.seq
 (.reg (oq 0 (.mv (.k (.bool false)))<|
 .nil) [])
 (.seq
 (.reg (oq 4 (.lit 1 [.int .u32 0] [(0,1,(.k (.int .u32 1200)))])<|
 oq 5 (.call f_nat_Trim [.s 4])<|
 oq 3 (.mv (.s 5))<|
 oq 6 (.ext (.s 3) 0)<|
 oq 7 (.ext (.s 3) 1)<|
 oq 1 (.mv (.s 6))<|
 oq 2 (.mv (.s 7))<|
 .nil) [1,2])
 (.seq
 (.reg (oq 8 (.mv (.s 1))<|
 oq 9 (.len (.s 8))<|
 oq 10 (.bin .eql (.s 9) (.k (.int .i64 1)))<|
 oq 11 (.mv (.s 10))<|
 .grp 11 true (oq 12 (.mv (.s 1))<|
 oq 13 (.iad 1 (.s 12) (.k (.int .i64 0)))<|
 oq 14 (.load false 1 (.s 13))<|
 oq 15 (.bin .eql (.s 14) (.k (.int .u32 12)))<|
 .nil) 16 (.s 15) (.k (.bool false))<|
 oq 17 (.mv (.s 16))<|
 .grp 17 true (oq 18 (.mv (.s 2))<|
 oq 19 (.bin .eql (.s 18) (.k (.int .i64 2)))<|
 .nil) 20 (.s 19) (.k (.bool false))<|
 oq 21 (.mv (.s 20))<|
 .grp 21 true (oq 22 (.lit 2 [.int .u32 0] [(0,1,(.k (.int .u32 0))),(1,1,(.k (.int .u32 1)))])<|
 oq 23 (.call f_nat_Digits [.s 22])<|
 oq 24 (.bin .eql (.s 23) (.k (.str [52,50,57,52,57,54,55,50,57,54])))<|
 .nil) 25 (.s 24) (.k (.bool false))<|
 oq 0 (.mv (.s 25))<|
 .nil) [0])
 .ret)))
def p_law01_awake:PFn:=⟨[.tmp 0],q_law01_awake⟩
def n_law01_awake:Fn:=⟨0,[.tmp 0],false,false,erase q_law01_awake⟩
def q_nat_Cmp:PC:=
 (.seq
 (.reg (oq 4 (.mv (.k (.int .i64 0)))<|
 .nil) [0,1])
 (.seq
 (.seq
 (.reg (oq 7 (.mv (.s 0))<|
 oq 8 (.len (.s 7))<|
 oq 9 (.mv (.s 1))<|
 oq 10 (.len (.s 9))<|
 oq 11 (.max [.s 8,.s 10])<|
 oq 12 (.bin .sub (.s 11) (.k (.int .i64 1)))<|
 oq 5 (.mv (.s 12))<|
 .nil) [0,1,5])
 (.blk 0
 (.loop ⟨[(0,.same),(1,.same),(5,.v)],[]⟩ [(.ext 0,⟨[],[]⟩),(.ret,⟨[(4,.v)],[]⟩)]
 (.seq
 (.seq
 (.reg (oq 13 (.mv (.s 5))<|
 oq 14 (.bin .geq (.s 13) (.k (.int .i64 0)))<|
 .nil) [0,1,5,14])
 (.cond (.s 14)
 .skip
 (.exit 0)))
 (.seq
 (.blk 1
 (.seq
 (.reg (oq 17 (.mv (.s 0))<|
 oq 18 (.mv (.s 5))<|
 oq 19 (.call f_nat_at [.s 17,.s 18])<|
 oq 20 (.mv (.s 1))<|
 oq 21 (.mv (.s 5))<|
 oq 22 (.call f_nat_at [.s 20,.s 21])<|
 oq 23 (.call f_cmp_Compare_uint64 [.s 19,.s 22])<|
 oq 6 (.mv (.s 23))<|
 .nil) [0,1,5,6])
 (.seq
 (.reg (oq 24 (.mv (.s 6))<|
 oq 25 (.bin .neq (.s 24) (.k (.int .i64 0)))<|
 .nil) [0,1,5,6,25])
 (.cond (.s 25)
 (.seq
 (.reg (oq 26 (.mv (.s 6))<|
 oq 4 (.mv (.s 26))<|
 .nil) [4])
 .ret)
 .skip))))
 (.reg (oq 15 (.mv (.s 5))<|
 oq 16 (.bin .sub (.s 15) (.k (.int .i64 1)))<|
 oq 5 (.mv (.s 16))<|
 .nil) [0,1,5]))))))
 (.seq
 (.reg (oq 4 (.mv (.k (.int .i64 0)))<|
 .nil) [4])
 .ret)))
def p_nat_Cmp:PFn:=⟨[.tmp 4],q_nat_Cmp⟩
def n_nat_Cmp:Fn:=⟨2,[.tmp 4],false,false,erase q_nat_Cmp⟩
def q_law00_Limbs:PC:=
 (.seq
 (.reg (oq 2 (.mv (.k (.sl .full 0 [])))<|
 .nil) [0])
 (.seq
 (.reg (oq 3 (.mv (.s 0))<|
 oq 4 (.app 1 4 (.k (.sl .full 0 [])) (.s 3))<|
 oq 2 (.mv (.s 4))<|
 .nil) [2])
 .ret))
def p_law00_Limbs:PFn:=⟨[.tmp 2],q_law00_Limbs⟩
def n_law00_Limbs:Fn:=⟨1,[.tmp 2],false,true,erase q_law00_Limbs⟩
def q_nat_Add:PC:=
 (.seq
 (.reg (oq 4 (.mv (.k (.sl .full 0 [])))<|
 .nil) [0,1])
 (.seq
 (.reg (oq 5 (.mv (.k (.sl .full 0 [])))<|
 .nil) [0,1,5])
 (.seq
 (.reg (oq 6 (.mv (.k (.int .u64 0)))<|
 .nil) [0,1,5,6])
 (.seq
 (.seq
 (.reg (oq 8 (.mv (.s 0))<|
 oq 9 (.len (.s 8))<|
 oq 10 (.mv (.s 1))<|
 oq 11 (.len (.s 10))<|
 oq 12 (.max [.s 9,.s 11])<|
 oq 13 (.bin .add (.s 12) (.k (.int .i64 1)))<|
 oq 14 (.mv (.k (.int .i64 0)))<|
 .nil) [0,1,5,6,13,14])
 (.blk 0
 (.loop ⟨[(0,.same),(1,.same),(5,(.own 1)),(6,.v),(13,.same),(14,.v)],[]⟩ [(.ext 0,⟨[(5,(.own 1))],[]⟩)]
 (.seq
 (.reg (oq 15 (.bin .lss (.s 14) (.s 13))<|
 .nil) [0,1,5,6,13,14,15])
 (.seq
 (.cond (.s 15)
 .skip
 (.exit 0))
 (.seq
 (.blk 1
 (.seq
 (.reg (oq 16 (.mv (.s 14))<|
 oq 7 (.mv (.s 16))<|
 .nil) [0,1,5,6,7,13,14])
 (.seq
 (.reg (oq 17 (.mv (.s 6))<|
 oq 18 (.mv (.s 0))<|
 oq 19 (.mv (.s 7))<|
 oq 20 (.call f_nat_at [.s 18,.s 19])<|
 oq 21 (.mv (.s 1))<|
 oq 22 (.mv (.s 7))<|
 oq 23 (.call f_nat_at [.s 21,.s 22])<|
 oq 24 (.bin .add (.s 20) (.s 23))<|
 oq 25 (.bin .add (.s 17) (.s 24))<|
 oq 6 (.mv (.s 25))<|
 .nil) [0,1,5,6,13,14])
 (.seq
 (.reg (oq 26 (.mv (.s 5))<|
 oq 27 (.mv (.s 6))<|
 oq 28 (.cvi .u32 (.s 27))<|
 oq 29 (.lit 1 [.int .u32 0] [(0,1,(.s 28))])<|
 oq 30 (.app 1 4 (.s 26) (.s 29))<|
 oq 5 (.mv (.s 30))<|
 .nil) [0,1,5,6,13,14])
 (.reg (oq 31 (.mv (.s 6))<|
 oq 32 (.bin .shr (.s 31) (.k (.int .u64 32)))<|
 oq 6 (.mv (.s 32))<|
 .nil) [0,1,5,6,13,14])))))
 (.reg (oq 33 (.bin .add (.s 14) (.k (.int .i64 1)))<|
 oq 14 (.mv (.s 33))<|
 .nil) [0,1,5,6,13,14])))))))
 (.seq
 (.reg (oq 34 (.mv (.s 5))<|
 oq 35 (.call f_nat_Norm [.s 34])<|
 oq 4 (.mv (.s 35))<|
 .nil) [4])
 .ret)))))
def p_nat_Add:PFn:=⟨[.tmp 4],q_nat_Add⟩
def n_nat_Add:Fn:=⟨2,[.tmp 4],false,false,erase q_nat_Add⟩
def q_law00_SameLimbs:PC:=
 (.seq
 (.reg (oq 4 (.mv (.k (.bool false)))<|
 .nil) [0,1])
 (.seq
 (.seq
 (.reg (oq 6 (.mv (.s 0))<|
 oq 7 (.len (.s 6))<|
 oq 8 (.mv (.s 1))<|
 oq 9 (.len (.s 8))<|
 oq 10 (.bin .neq (.s 7) (.s 9))<|
 .nil) [0,1,10])
 (.cond (.s 10)
 (.seq
 (.reg (oq 4 (.mv (.k (.bool false)))<|
 .nil) [4])
 .ret)
 .skip))
 (.seq
 (.seq
 (.reg (oq 5 (.mv (.k (.int .i64 0)))<|
 .nil) [0,1,5])
 (.blk 0
 (.loop ⟨[(0,.same),(1,.same),(5,.v)],[]⟩ [(.ext 0,⟨[],[]⟩),(.ret,⟨[(4,.v)],[]⟩)]
 (.seq
 (.seq
 (.reg (oq 11 (.mv (.s 5))<|
 oq 12 (.mv (.s 0))<|
 oq 13 (.len (.s 12))<|
 oq 14 (.bin .lss (.s 11) (.s 13))<|
 .nil) [0,1,5,14])
 (.cond (.s 14)
 .skip
 (.exit 0)))
 (.seq
 (.blk 1
 (.seq
 (.drw (.nil)
 (oq 17 (.mv (.s 0))<|
 oq 18 (.mv (.s 5))<|
 oq 19 (.iad 1 (.s 17) (.s 18))<|
 oq 20 (.load false 1 (.s 19))<|
 oq 21 (.mv (.s 1))<|
 oq 22 (.mv (.s 5))<|
 oq 23 (.iad 1 (.s 21) (.s 22))<|
 oq 24 (.load false 1 (.s 23))<|
 .nil)
 (oq 25 (.bin .neq (.s 20) (.s 24))<|
 .nil) [0,1,5,25])
 (.cond (.s 25)
 (.seq
 (.reg (oq 4 (.mv (.k (.bool false)))<|
 .nil) [4])
 .ret)
 .skip)))
 (.reg (oq 15 (.mv (.s 5))<|
 oq 16 (.bin .add (.s 15) (.k (.int .i64 1)))<|
 oq 5 (.mv (.s 16))<|
 .nil) [0,1,5]))))))
 (.seq
 (.reg (oq 4 (.mv (.k (.bool true)))<|
 .nil) [4])
 .ret))))
def p_law00_SameLimbs:PFn:=⟨[.tmp 4],q_law00_SameLimbs⟩
def n_law00_SameLimbs:Fn:=⟨2,[.tmp 4],false,false,erase q_law00_SameLimbs⟩
def q_nat_Norm:PC:=
 (.seq
 (.reg (oq 2 (.mv (.k (.sl .full 0 [])))<|
 .nil) [0])
 (.seq
 (.reg (oq 5 (.mv (.s 0))<|
 oq 6 (.len (.s 5))<|
 oq 3 (.mv (.s 6))<|
 .nil) [0,3])
 (.seq
 (.blk 0
 (.loop ⟨[(0,.same),(3,.v)],[]⟩ [(.ext 0,⟨[(0,.same),(3,.v)],[]⟩)]
 (.seq
 (.seq
 (.reg (oq 7 (.mv (.s 3))<|
 oq 8 (.bin .gtr (.s 7) (.k (.int .i64 0)))<|
 oq 9 (.mv (.s 8))<|
 .grp 9 true (oq 10 (.mv (.s 0))<|
 oq 11 (.mv (.s 3))<|
 oq 12 (.bin .sub (.s 11) (.k (.int .i64 1)))<|
 oq 13 (.iad 1 (.s 10) (.s 12))<|
 oq 14 (.load false 1 (.s 13))<|
 oq 15 (.bin .eql (.s 14) (.k (.int .u32 0)))<|
 .nil) 16 (.s 15) (.k (.bool false))<|
 .nil) [0,3,16])
 (.cond (.s 16)
 .skip
 (.exit 0)))
 (.blk 1
 (.reg (oq 17 (.mv (.s 3))<|
 oq 18 (.bin .sub (.s 17) (.k (.int .i64 1)))<|
 oq 3 (.mv (.s 18))<|
 .nil) [0,3])))))
 (.seq
 (.seq
 (.reg (oq 19 (.mv (.s 3))<|
 oq 20 (.bin .eql (.s 19) (.k (.int .i64 0)))<|
 .nil) [0,3,20])
 (.cond (.s 20)
 (.seq
 (.reg (oq 2 (.mv (.k (.sl .full 0 [])))<|
 .nil) [2])
 .ret)
 .skip))
 (.seq
 (.reg (oq 21 (.mv (.s 3))<|
 oq 22 (.mks [.int .u32 0] 4 (.s 21) (.s 21))<|
 oq 4 (.mv (.s 22))<|
 .nil) [0,4])
 (.seq
 (.reg (oq 23 (.mv (.s 4))<|
 oq 24 (.mv (.s 0))<|
 oq 25 (.cpy 1 (.s 23) (.s 24))<|
 .nil) [4])
 (.seq
 (.reg (oq 26 (.mv (.s 4))<|
 oq 2 (.mv (.s 26))<|
 .nil) [2])
 .ret)))))))
def p_nat_Norm:PFn:=⟨[.tmp 2],q_nat_Norm⟩
def n_nat_Norm:Fn:=⟨1,[.tmp 2],false,false,erase q_nat_Norm⟩
def q_nat_Bits:PC:=
 (.seq
 (.reg (oq 2 (.mv (.k (.int .i64 0)))<|
 .nil) [0])
 (.seq
 (.reg (oq 4 (.mv (.s 0))<|
 oq 5 (.len (.s 4))<|
 oq 6 (.bin .sub (.s 5) (.k (.int .i64 1)))<|
 oq 3 (.mv (.s 6))<|
 .nil) [0,3])
 (.seq
 (.blk 0
 (.loop ⟨[(0,.same),(3,.v)],[]⟩ [(.ext 0,⟨[(0,.same),(3,.v)],[]⟩)]
 (.seq
 (.seq
 (.reg (oq 7 (.mv (.s 3))<|
 oq 8 (.bin .geq (.s 7) (.k (.int .i64 0)))<|
 oq 9 (.mv (.s 8))<|
 .grp 9 true (oq 10 (.mv (.s 0))<|
 oq 11 (.mv (.s 3))<|
 oq 12 (.iad 1 (.s 10) (.s 11))<|
 oq 13 (.load false 1 (.s 12))<|
 oq 14 (.bin .eql (.s 13) (.k (.int .u32 0)))<|
 .nil) 15 (.s 14) (.k (.bool false))<|
 .nil) [0,3,15])
 (.cond (.s 15)
 .skip
 (.exit 0)))
 (.blk 1
 (.reg (oq 16 (.mv (.s 3))<|
 oq 17 (.bin .sub (.s 16) (.k (.int .i64 1)))<|
 oq 3 (.mv (.s 17))<|
 .nil) [0,3])))))
 (.seq
 (.seq
 (.reg (oq 18 (.mv (.s 3))<|
 oq 19 (.bin .lss (.s 18) (.k (.int .i64 0)))<|
 .nil) [0,3,19])
 (.cond (.s 19)
 (.seq
 (.reg (oq 2 (.mv (.k (.int .i64 0)))<|
 .nil) [2])
 .ret)
 .skip))
 (.seq
 (.reg (oq 20 (.mv (.s 3))<|
 oq 21 (.bin .mul (.k (.int .i64 32)) (.s 20))<|
 oq 22 (.mv (.s 0))<|
 oq 23 (.mv (.s 3))<|
 oq 24 (.iad 1 (.s 22) (.s 23))<|
 oq 25 (.load false 1 (.s 24))<|
 oq 26 (.call f_math_bits_Len32 [.s 25])<|
 oq 27 (.bin .add (.s 21) (.s 26))<|
 oq 2 (.mv (.s 27))<|
 .nil) [2])
 .ret)))))
def p_nat_Bits:PFn:=⟨[.tmp 2],q_nat_Bits⟩
def n_nat_Bits:Fn:=⟨1,[.tmp 2],false,false,erase q_nat_Bits⟩
def q_nat_Digits:PC:=
 (.seq
 (.reg (oq 2 (.mv (.k (.str [])))<|
 .nil) [0])
 (.seq
 (.reg (oq 3 (.mv (.k (.sl .full 0 [])))<|
 .nil) [0,3])
 (.seq
 (.seq
 (.reg (oq 11 (.mv (.s 0))<|
 oq 12 (.call f_nat_Norm [.s 11])<|
 oq 0 (.mv (.s 12))<|
 .nil) [0,3])
 (.blk 0
 (.loop ⟨[(0,.v),(3,(.own 1))],[]⟩ [(.ext 0,⟨[(3,(.own 1))],[]⟩)]
 (.seq
 (.seq
 (.reg (oq 13 (.mv (.s 0))<|
 oq 14 (.len (.s 13))<|
 oq 15 (.bin .gtr (.s 14) (.k (.int .i64 0)))<|
 .nil) [0,3,15])
 (.cond (.s 15)
 .skip
 (.exit 0)))
 (.blk 1
 (.seq
 (.reg (oq 17 (.mv (.s 0))<|
 oq 18 (.call f_nat_small [.s 17,(.k (.int .u32 1000000000))])<|
 oq 16 (.mv (.s 18))<|
 oq 19 (.ext (.s 16) 0)<|
 oq 20 (.ext (.s 16) 1)<|
 oq 4 (.mv (.s 19))<|
 oq 5 (.mv (.s 20))<|
 .nil) [3,4,5])
 (.seq
 (.reg (oq 21 (.mv (.s 4))<|
 oq 0 (.mv (.s 21))<|
 .nil) [0,3,5])
 (.seq
 (.reg (oq 6 (.alloc [.int .u8 0,.int .u8 0,.int .u8 0,.int .u8 0,.int .u8 0,.int .u8 0,.int .u8 0,.int .u8 0,.int .u8 0])<|
 .nil) [0,3,5,6])
 (.seq
 (.seq
 (.reg (oq 22 (.mv (.k (.int .i64 0)))<|
 .nil) [0,3,5,6,22])
 (.blk 2
 (.loop ⟨[(3,(.own 1)),(5,.v),(0,.same),(6,.same),(22,.v)],[(.arr .no 1)]⟩ [(.ext 2,⟨[(3,(.own 1)),(0,.same),(6,.same)],[(.arr .no 1)]⟩)]
 (.seq
 (.reg (oq 23 (.bin .lss (.s 22) (.k (.int .i64 9)))<|
 .nil) [0,3,5,6,22,23])
 (.seq
 (.cond (.s 23)
 .skip
 (.exit 2))
 (.seq
 (.blk 3
 (.seq
 (.reg (oq 24 (.mv (.s 22))<|
 oq 7 (.mv (.s 24))<|
 .nil) [0,3,5,6,7,22])
 (.seq
 (.reg (oq 25 (.mv (.s 7))<|
 oq 26 (.bin .sub (.k (.int .i64 8)) (.s 25))<|
 oq 27 (.mv (.s 5))<|
 oq 28 (.bin .rem (.s 27) (.k (.int .u32 10)))<|
 oq 29 (.bin .add (.k (.int .u32 48)) (.s 28))<|
 oq 30 (.cvi .u8 (.s 29))<|
 oq 31 (.iaa 9 1 (.s 6) (.s 26))<|
 oz (.store 1 (.s 31) (.s 30))<|
 .nil) [0,3,5,6,22])
 (.reg (oq 32 (.mv (.s 5))<|
 oq 33 (.bin .quo (.s 32) (.k (.int .u32 10)))<|
 oq 5 (.mv (.s 33))<|
 .nil) [0,3,5,6,22]))))
 (.reg (oq 34 (.bin .add (.s 22) (.k (.int .i64 1)))<|
 oq 22 (.mv (.s 34))<|
 .nil) [0,3,5,6,22])))))))
 (.reg (oq 35 (.mv (.s 3))<|
 oq 36 (.sla 9 1 (.s 6) none none none)<|
 oq 37 (.cbs (.s 36))<|
 oq 38 (.lit 1 [(.str [])] [(0,1,(.s 37))])<|
 oq 39 (.app 1 16 (.s 35) (.s 38))<|
 oq 3 (.mv (.s 39))<|
 .nil) [0,3]))))))))))
 (.seq
 (.reg (oq 8 (.nbl 56 5)<|
 .nil) [3,8])
 (.seq
 (.seq
 (.reg (oq 40 (.mv (.s 3))<|
 oq 41 (.len (.s 40))<|
 oq 42 (.mv (.k (.int .i64 0)))<|
 .nil) [3,8,41,42])
 (.blk 4
 (.loop ⟨[(3,(.own 1)),(8,.same),(41,.same),(42,.v)],[(.bld 56 5)]⟩ [(.ext 4,⟨[(8,.same)],[(.bld 56 5)]⟩)]
 (.seq
 (.reg (oq 43 (.bin .lss (.s 42) (.s 41))<|
 .nil) [3,8,41,42,43])
 (.seq
 (.cond (.s 43)
 .skip
 (.exit 4))
 (.seq
 (.blk 5
 (.seq
 (.reg (oq 44 (.mv (.s 42))<|
 oq 9 (.mv (.s 44))<|
 .nil) [3,8,9,41,42])
 (.reg (oq 45 (.mv (.s 3))<|
 oq 46 (.mv (.s 3))<|
 oq 47 (.len (.s 46))<|
 oq 48 (.bin .sub (.s 47) (.k (.int .i64 1)))<|
 oq 49 (.mv (.s 9))<|
 oq 50 (.bin .sub (.s 48) (.s 49))<|
 oq 51 (.iad 1 (.s 45) (.s 50))<|
 oq 52 (.load false 1 (.s 51))<|
 oq 53 (.call f_strings_Builder_WriteString [.s 8,.s 52])<|
 .nil) [3,8,41,42])))
 (.reg (oq 54 (.bin .add (.s 42) (.k (.int .i64 1)))<|
 oq 42 (.mv (.s 54))<|
 .nil) [3,8,41,42])))))))
 (.seq
 (.seq
 (.reg (oq 55 (.call f_strings_Builder_String [.s 8])<|
 oq 56 (.call f_strings_TrimLeft [.s 55,(.k (.str [48]))])<|
 oq 10 (.mv (.s 56))<|
 .nil) [10])
 (.seq
 (.reg (oq 57 (.mv (.s 10))<|
 oq 58 (.bin .neq (.s 57) (.k (.str [])))<|
 .nil) [10,58])
 (.cond (.s 58)
 (.seq
 (.reg (oq 59 (.mv (.s 10))<|
 oq 2 (.mv (.s 59))<|
 .nil) [2])
 .ret)
 .skip)))
 (.seq
 (.reg (oq 2 (.mv (.k (.str [48])))<|
 .nil) [2])
 .ret)))))))
def p_nat_Digits:PFn:=⟨[.tmp 2],q_nat_Digits⟩
def n_nat_Digits:Fn:=⟨1,[.tmp 2],false,false,erase q_nat_Digits⟩
def q_nat_Sub:PC:=
 (.seq
 (.reg (oq 4 (.mv (.k (.sl .full 0 [])))<|
 .nil) [0,1])
 (.seq
 (.seq
 (.reg (oq 9 (.mv (.s 0))<|
 oq 10 (.mv (.s 1))<|
 oq 11 (.call f_nat_Cmp [.s 9,.s 10])<|
 oq 12 (.bin .lss (.s 11) (.k (.int .i64 0)))<|
 .nil) [0,1,12])
 (.cond (.s 12)
 (.seq
 (.reg (oq 4 (.mv (.k (.sl .full 0 [])))<|
 .nil) [4])
 .ret)
 .skip))
 (.seq
 (.reg (oq 5 (.mv (.k (.sl .full 0 [])))<|
 .nil) [0,1,5])
 (.seq
 (.reg (oq 6 (.mv (.k (.int .u64 0)))<|
 .nil) [0,1,5,6])
 (.seq
 (.seq
 (.reg (oq 13 (.mv (.s 0))<|
 oq 14 (.len (.s 13))<|
 oq 15 (.mv (.s 1))<|
 oq 16 (.len (.s 15))<|
 oq 17 (.max [.s 14,.s 16])<|
 oq 18 (.mv (.k (.int .i64 0)))<|
 .nil) [0,1,5,6,17,18])
 (.blk 0
 (.loop ⟨[(0,.same),(1,.same),(5,(.own 1)),(6,.v),(17,.same),(18,.v)],[]⟩ [(.ext 0,⟨[(5,(.own 1))],[]⟩)]
 (.seq
 (.reg (oq 19 (.bin .lss (.s 18) (.s 17))<|
 .nil) [0,1,5,6,17,18,19])
 (.seq
 (.cond (.s 19)
 .skip
 (.exit 0))
 (.seq
 (.blk 1
 (.seq
 (.reg (oq 20 (.mv (.s 18))<|
 oq 7 (.mv (.s 20))<|
 .nil) [0,1,5,6,7,17,18])
 (.seq
 (.reg (oq 21 (.mv (.s 0))<|
 oq 22 (.mv (.s 7))<|
 oq 23 (.call f_nat_at [.s 21,.s 22])<|
 oq 24 (.mv (.s 1))<|
 oq 25 (.mv (.s 7))<|
 oq 26 (.call f_nat_at [.s 24,.s 25])<|
 oq 27 (.bin .sub (.s 23) (.s 26))<|
 oq 28 (.mv (.s 6))<|
 oq 29 (.bin .sub (.s 27) (.s 28))<|
 oq 8 (.mv (.s 29))<|
 .nil) [0,1,5,8,17,18])
 (.seq
 (.reg (oq 30 (.mv (.s 5))<|
 oq 31 (.mv (.s 8))<|
 oq 32 (.cvi .u32 (.s 31))<|
 oq 33 (.lit 1 [.int .u32 0] [(0,1,(.s 32))])<|
 oq 34 (.app 1 4 (.s 30) (.s 33))<|
 oq 5 (.mv (.s 34))<|
 .nil) [0,1,5,8,17,18])
 (.reg (oq 35 (.mv (.s 8))<|
 oq 36 (.bin .shr (.s 35) (.k (.int .u64 63)))<|
 oq 6 (.mv (.s 36))<|
 .nil) [0,1,5,6,17,18])))))
 (.reg (oq 37 (.bin .add (.s 18) (.k (.int .i64 1)))<|
 oq 18 (.mv (.s 37))<|
 .nil) [0,1,5,6,17,18])))))))
 (.seq
 (.reg (oq 38 (.mv (.s 5))<|
 oq 39 (.call f_nat_Norm [.s 38])<|
 oq 4 (.mv (.s 39))<|
 .nil) [4])
 .ret))))))
def p_nat_Sub:PFn:=⟨[.tmp 4],q_nat_Sub⟩
def n_nat_Sub:Fn:=⟨2,[.tmp 4],false,false,erase q_nat_Sub⟩
def q_nat_Mul:PC:=
 (.seq
 (.reg (oq 4 (.mv (.k (.sl .full 0 [])))<|
 .nil) [0,1])
 (.seq
 (.reg (oq 11 (.mv (.s 0))<|
 oq 12 (.len (.s 11))<|
 oq 13 (.mv (.s 1))<|
 oq 14 (.len (.s 13))<|
 oq 15 (.bin .add (.s 12) (.s 14))<|
 oq 16 (.mks [.int .u32 0] 4 (.s 15) (.s 15))<|
 oq 5 (.mv (.s 16))<|
 .nil) [0,1,5])
 (.seq
 .skip
 (.seq
 (.seq
 (.reg (oq 17 (.mv (.s 0))<|
 oq 18 (.len (.s 17))<|
 oq 19 (.mv (.k (.int .i64 0)))<|
 .nil) [1,5,17,18,19])
 (.blk 0
 (.loop ⟨[(1,.same),(5,.same),(17,.same),(18,.same),(19,.v)],[(.arr .no 1)]⟩ [(.ext 0,⟨[(5,.same)],[(.arr .no 1)]⟩)]
 (.seq
 (.reg (oq 20 (.bin .lss (.s 19) (.s 18))<|
 .nil) [1,5,17,18,19,20])
 (.seq
 (.cond (.s 20)
 .skip
 (.exit 0))
 (.seq
 (.blk 1
 (.seq
 (.reg (oq 21 (.mv (.s 19))<|
 oq 22 (.iad 1 (.s 17) (.s 19))<|
 oq 23 (.load false 1 (.s 22))<|
 oq 6 (.mv (.s 21))<|
 oq 7 (.mv (.s 23))<|
 .nil) [1,5,6,7,17,18,19])
 (.seq
 (.seq
 (.reg (oq 24 (.mv (.s 7))<|
 oq 25 (.bin .eql (.s 24) (.k (.int .u32 0)))<|
 .nil) [1,5,6,7,17,18,19,25])
 (.cond (.s 25)
 (.exit 1)
 .skip))
 (.seq
 (.reg (oq 8 (.mv (.k (.int .u64 0)))<|
 .nil) [1,5,6,7,8,17,18,19])
 (.seq
 (.seq
 (.reg (oq 26 (.mv (.s 1))<|
 oq 27 (.len (.s 26))<|
 oq 28 (.mv (.k (.int .i64 0)))<|
 .nil) [1,5,6,7,8,17,18,19,26,27,28])
 (.blk 2
 (.loop ⟨[(1,.same),(5,.same),(17,.same),(18,.same),(19,.same),(6,.same),(7,.same),(8,.v),(26,.same),(27,.same),(28,.v)],[(.arr .no 1)]⟩ [(.ext 2,⟨[(1,.same),(5,.same),(17,.same),(18,.same),(19,.same),(6,.same),(8,.v)],[(.arr .no 1)]⟩)]
 (.seq
 (.reg (oq 29 (.bin .lss (.s 28) (.s 27))<|
 .nil) [1,5,6,7,8,17,18,19,26,27,28,29])
 (.seq
 (.cond (.s 29)
 .skip
 (.exit 2))
 (.seq
 (.blk 3
 (.seq
 (.reg (oq 30 (.mv (.s 28))<|
 oq 31 (.iad 1 (.s 26) (.s 28))<|
 oq 32 (.load false 1 (.s 31))<|
 oq 9 (.mv (.s 30))<|
 oq 10 (.mv (.s 32))<|
 .nil) [1,5,6,7,8,9,10,17,18,19,26,27,28])
 (.seq
 (.reg (oq 33 (.mv (.s 8))<|
 oq 34 (.mv (.s 7))<|
 oq 35 (.cvi .u64 (.s 34))<|
 oq 36 (.mv (.s 10))<|
 oq 37 (.cvi .u64 (.s 36))<|
 oq 38 (.bin .mul (.s 35) (.s 37))<|
 oq 39 (.mv (.s 5))<|
 oq 40 (.mv (.s 6))<|
 oq 41 (.mv (.s 9))<|
 oq 42 (.bin .add (.s 40) (.s 41))<|
 oq 43 (.iad 1 (.s 39) (.s 42))<|
 oq 44 (.load false 1 (.s 43))<|
 oq 45 (.cvi .u64 (.s 44))<|
 oq 46 (.bin .add (.s 38) (.s 45))<|
 oq 47 (.bin .add (.s 33) (.s 46))<|
 oq 8 (.mv (.s 47))<|
 .nil) [1,5,6,7,8,9,17,18,19,26,27,28])
 (.seq
 (.reg (oq 48 (.mv (.s 5))<|
 oq 49 (.mv (.s 6))<|
 oq 50 (.mv (.s 9))<|
 oq 51 (.bin .add (.s 49) (.s 50))<|
 oq 52 (.mv (.s 8))<|
 oq 53 (.cvi .u32 (.s 52))<|
 oq 54 (.iad 1 (.s 48) (.s 51))<|
 oz (.store 1 (.s 54) (.s 53))<|
 .nil) [1,5,6,7,8,17,18,19,26,27,28])
 (.reg (oq 55 (.mv (.s 8))<|
 oq 56 (.bin .shr (.s 55) (.k (.int .u64 32)))<|
 oq 8 (.mv (.s 56))<|
 .nil) [1,5,6,7,8,17,18,19,26,27,28])))))
 (.reg (oq 57 (.bin .add (.s 28) (.k (.int .i64 1)))<|
 oq 28 (.mv (.s 57))<|
 .nil) [1,5,6,7,8,17,18,19,26,27,28])))))))
 (.reg (oq 58 (.mv (.s 5))<|
 oq 59 (.mv (.s 6))<|
 oq 60 (.mv (.s 1))<|
 oq 61 (.len (.s 60))<|
 oq 62 (.bin .add (.s 59) (.s 61))<|
 oq 63 (.mv (.s 8))<|
 oq 64 (.cvi .u32 (.s 63))<|
 oq 65 (.iad 1 (.s 58) (.s 62))<|
 oz (.store 1 (.s 65) (.s 64))<|
 .nil) [1,5,17,18,19]))))))
 (.reg (oq 66 (.bin .add (.s 19) (.k (.int .i64 1)))<|
 oq 19 (.mv (.s 66))<|
 .nil) [1,5,17,18,19])))))))
 (.seq
 (.reg (oq 67 (.mv (.s 5))<|
 oq 68 (.call f_nat_Norm [.s 67])<|
 oq 4 (.mv (.s 68))<|
 .nil) [4])
 .ret)))))
def p_nat_Mul:PFn:=⟨[.tmp 4],q_nat_Mul⟩
def n_nat_Mul:Fn:=⟨2,[.tmp 4],false,false,erase q_nat_Mul⟩
def q_nat_Pow:PC:=
 (.seq
 (.reg (oq 4 (.mv (.k (.sl .full 0 [])))<|
 .nil) [0,1])
 (.seq
 (.reg (oq 7 (.lit 1 [.int .u32 0] [(0,1,(.k (.int .u32 1)))])<|
 oq 5 (.mv (.s 7))<|
 .nil) [0,1,5])
 (.seq
 (.reg (oq 8 (.mv (.s 0))<|
 oq 9 (.lit 1 [.int .u32 0] [(0,1,(.s 8))])<|
 oq 10 (.call f_nat_Norm [.s 9])<|
 oq 6 (.mv (.s 10))<|
 .nil) [1,5,6])
 (.seq
 (.seq
 (.reg (oq 11 (.mv (.s 1))<|
 oq 12 (.min [.s 11,(.k (.int .i64 1300))])<|
 oq 13 (.max [(.k (.int .i64 0)),.s 12])<|
 oq 1 (.mv (.s 13))<|
 .nil) [1,5,6])
 (.blk 0
 (.loop ⟨[(1,.v),(5,.v),(6,.v)],[]⟩ [(.ext 0,⟨[(5,.v)],[]⟩)]
 (.seq
 (.seq
 (.reg (oq 14 (.mv (.s 1))<|
 oq 15 (.bin .gtr (.s 14) (.k (.int .i64 0)))<|
 .nil) [1,5,6,15])
 (.cond (.s 15)
 .skip
 (.exit 0)))
 (.seq
 (.cut ⟨[(1,.same),(5,.v),(6,.v)],[]⟩ [(.nrm,⟨[(1,.same),(5,.v),(6,.v)],[]⟩)]
 (.blk 1
 (.seq
 (.cut ⟨[(1,.same),(5,.v),(6,.same)],[]⟩ [(.nrm,⟨[(1,.same),(5,.v),(6,.same)],[]⟩)]
 (.seq
 (.reg (oq 18 (.mv (.s 1))<|
 oq 19 (.bin .and (.s 18) (.k (.int .i64 1)))<|
 oq 20 (.bin .neq (.s 19) (.k (.int .i64 0)))<|
 .nil) [1,5,6,20])
 (.cond (.s 20)
 (.reg (oq 21 (.mv (.s 5))<|
 oq 22 (.mv (.s 6))<|
 oq 23 (.call f_nat_Mul [.s 21,.s 22])<|
 oq 5 (.mv (.s 23))<|
 .nil) [1,5,6])
 .skip)))
 (.reg (oq 24 (.mv (.s 6))<|
 oq 25 (.mv (.s 6))<|
 oq 26 (.call f_nat_Mul [.s 24,.s 25])<|
 oq 6 (.mv (.s 26))<|
 .nil) [1,5,6]))))
 (.reg (oq 16 (.mv (.s 1))<|
 oq 17 (.bin .shr (.s 16) (.k (.int .u64 1)))<|
 oq 1 (.mv (.s 17))<|
 .nil) [1,5,6]))))))
 (.seq
 (.reg (oq 27 (.mv (.s 5))<|
 oq 4 (.mv (.s 27))<|
 .nil) [4])
 .ret)))))
def p_nat_Pow:PFn:=⟨[.tmp 4],q_nat_Pow⟩
def n_nat_Pow:Fn:=⟨2,[.tmp 4],false,false,erase q_nat_Pow⟩
def q_nat_Parse:PC:=
 (.seq
 (.reg (oq 2 (.mv (.k (.sl .full 0 [])))<|
 oq 3 (.mv (.k (.bool false)))<|
 .nil) [0])
 (.seq
 (.seq
 (.reg (oq 6 (.mv (.s 0))<|
 oq 7 (.bin .eql (.s 6) (.k (.str [])))<|
 oq 8 (.mv (.s 7))<|
 .grp 8 false (oq 9 (.mv (.s 0))<|
 oq 10 (.lns (.s 9))<|
 oq 11 (.bin .gtr (.s 10) (.k (.int .i64 2000)))<|
 .nil) 12 (.s 11) (.k (.bool true))<|
 .nil) [0,12])
 (.cond (.s 12)
 (.seq
 (.reg (oq 2 (.mv (.k (.sl .full 0 [])))<|
 oq 3 (.mv (.k (.bool false)))<|
 .nil) [2,3])
 .ret)
 .skip))
 (.seq
 (.reg (oq 4 (.mv (.k (.sl .full 0 [])))<|
 .nil) [0,4])
 (.seq
 (.seq
 (.reg (oq 13 (.mv (.s 0))<|
 oq 14 (.lns (.s 13))<|
 oq 15 (.mv (.k (.int .i64 0)))<|
 .nil) [0,4,14,15])
 (.blk 0
 (.loop ⟨[(0,.same),(4,.v),(14,.same),(15,.v)],[]⟩ [(.ext 0,⟨[(4,.v)],[]⟩),(.ret,⟨[(2,.v),(3,.v)],[]⟩)]
 (.seq
 (.reg (oq 16 (.bin .lss (.s 15) (.s 14))<|
 .nil) [0,4,14,15,16])
 (.seq
 (.cond (.s 16)
 .skip
 (.exit 0))
 (.seq
 (.blk 1
 (.seq
 (.reg (oq 17 (.mv (.s 15))<|
 oq 5 (.mv (.s 17))<|
 .nil) [0,4,5,14,15])
 (.seq
 (.seq
 (.reg (oq 18 (.mv (.s 0))<|
 oq 19 (.mv (.s 5))<|
 oq 20 (.ixs (.s 18) (.s 19))<|
 oq 21 (.bin .lss (.s 20) (.k (.int .u8 48)))<|
 oq 22 (.mv (.s 21))<|
 .grp 22 false (oq 23 (.mv (.s 0))<|
 oq 24 (.mv (.s 5))<|
 oq 25 (.ixs (.s 23) (.s 24))<|
 oq 26 (.bin .gtr (.s 25) (.k (.int .u8 57)))<|
 .nil) 27 (.s 26) (.k (.bool true))<|
 .nil) [0,4,5,14,15,27])
 (.cond (.s 27)
 (.seq
 (.reg (oq 2 (.mv (.k (.sl .full 0 [])))<|
 oq 3 (.mv (.k (.bool false)))<|
 .nil) [2,3])
 .ret)
 .skip))
 (.drw (.nil)
 (oq 28 (.mv (.s 4))<|
 oq 29 (.lit 1 [.int .u32 0] [(0,1,(.k (.int .u32 10)))])<|
 oq 30 (.call f_nat_Mul [.s 28,.s 29])<|
 oq 31 (.mv (.s 0))<|
 oq 32 (.mv (.s 5))<|
 oq 33 (.ixs (.s 31) (.s 32))<|
 oq 34 (.bin .sub (.s 33) (.k (.int .u8 48)))<|
 oq 35 (.cvi .u32 (.s 34))<|
 oq 36 (.lit 1 [.int .u32 0] [(0,1,(.s 35))])<|
 .nil)
 (oq 37 (.call f_nat_Add [.s 30,.s 36])<|
 oq 4 (.mv (.s 37))<|
 .nil) [0,4,14,15]))))
 (.reg (oq 38 (.bin .add (.s 15) (.k (.int .i64 1)))<|
 oq 15 (.mv (.s 38))<|
 .nil) [0,4,14,15])))))))
 (.seq
 (.reg (oq 39 (.mv (.s 4))<|
 oq 2 (.mv (.s 39))<|
 oq 3 (.mv (.k (.bool true)))<|
 .nil) [2,3])
 .ret)))))
def p_nat_Parse:PFn:=⟨[.tmp 2,.tmp 3],q_nat_Parse⟩
def n_nat_Parse:Fn:=⟨1,[.tmp 2,.tmp 3],false,false,erase q_nat_Parse⟩
def q_nat_Trim:PC:=
 (.seq
 (.reg (oq 2 (.mv (.k (.sl .full 0 [])))<|
 oq 3 (.mv (.k (.int .i64 0)))<|
 .nil) [0])
 (.seq
 (.reg (oq 7 (.mv (.s 0))<|
 oq 8 (.call f_nat_Norm [.s 7])<|
 oq 0 (.mv (.s 8))<|
 .nil) [0])
 (.seq
 (.reg (oq 4 (.mv (.k (.int .i64 0)))<|
 .nil) [0,4])
 (.seq
 .skip
 (.seq
 (.blk 0
 (.loop ⟨[(0,.v),(4,.v)],[]⟩ [(.ext 0,⟨[(0,.v),(4,.v)],[]⟩)]
 (.seq
 (.seq
 (.reg (oq 9 (.mv (.s 0))<|
 oq 10 (.len (.s 9))<|
 oq 11 (.bin .gtr (.s 10) (.k (.int .i64 0)))<|
 .nil) [0,4,11])
 (.cond (.s 11)
 .skip
 (.exit 0)))
 (.blk 1
 (.seq
 (.reg (oq 13 (.mv (.s 0))<|
 oq 14 (.call f_nat_small [.s 13,(.k (.int .u32 10))])<|
 oq 12 (.mv (.s 14))<|
 oq 15 (.ext (.s 12) 0)<|
 oq 16 (.ext (.s 12) 1)<|
 oq 5 (.mv (.s 15))<|
 oq 6 (.mv (.s 16))<|
 .nil) [0,4,5,6])
 (.seq
 (.seq
 (.reg (oq 17 (.mv (.s 6))<|
 oq 18 (.bin .neq (.s 17) (.k (.int .u32 0)))<|
 .nil) [0,4,5,18])
 (.cond (.s 18)
 (.exit 0)
 .skip))
 (.seq
 (.reg (oq 19 (.mv (.s 5))<|
 oq 0 (.mv (.s 19))<|
 .nil) [0,4])
 (.reg (oq 20 (.mv (.s 4))<|
 oq 21 (.bin .add (.s 20) (.k (.int .i64 1)))<|
 oq 4 (.mv (.s 21))<|
 .nil) [0,4]))))))))
 (.seq
 (.reg (oq 22 (.mv (.s 0))<|
 oq 23 (.mv (.s 4))<|
 oq 2 (.mv (.s 22))<|
 oq 3 (.mv (.s 23))<|
 .nil) [2,3])
 .ret))))))
def p_nat_Trim:PFn:=⟨[.tmp 2,.tmp 3],q_nat_Trim⟩
def n_nat_Trim:Fn:=⟨1,[.tmp 2,.tmp 3],false,false,erase q_nat_Trim⟩
def q_nat_Div:PC:=
 (.seq
 (.reg (oq 4 (.mv (.k (.sl .full 0 [])))<|
 oq 5 (.mv (.k (.sl .full 0 [])))<|
 .nil) [0,1,5])
 (.seq
 (.reg (oq 10 (.mv (.s 1))<|
 oq 11 (.call f_nat_Norm [.s 10])<|
 oq 1 (.mv (.s 11))<|
 .nil) [0,1,5])
 (.seq
 (.seq
 (.reg (oq 12 (.mv (.s 1))<|
 oq 13 (.len (.s 12))<|
 .nil) [0,1,5,13])
 (.blk 0
 (.seq
 (.reg (oq 15 (.bin .eql (.s 13) (.k (.int .i64 0)))<|
 oq 14 (.mv (.s 15))<|
 .nil) [0,1,5,13,14])
 (.cond (.s 14)
 (.seq
 (.reg (oq 4 (.mv (.k (.sl .full 0 [])))<|
 oq 5 (.mv (.k (.sl .full 0 [])))<|
 .nil) [4,5])
 .ret)
 (.seq
 (.reg (oq 17 (.bin .eql (.s 13) (.k (.int .i64 1)))<|
 oq 16 (.mv (.s 17))<|
 .nil) [0,1,5,16])
 (.cond (.s 16)
 (.seq
 (.reg (oq 19 (.mv (.s 0))<|
 oq 20 (.mv (.s 1))<|
 oq 21 (.iad 1 (.s 20) (.k (.int .i64 0)))<|
 oq 22 (.load false 1 (.s 21))<|
 oq 23 (.call f_nat_small [.s 19,.s 22])<|
 oq 18 (.mv (.s 23))<|
 oq 24 (.ext (.s 18) 0)<|
 oq 25 (.ext (.s 18) 1)<|
 oq 6 (.mv (.s 24))<|
 oq 7 (.mv (.s 25))<|
 .nil) [6,7])
 (.seq
 (.reg (oq 26 (.mv (.s 6))<|
 oq 27 (.mv (.s 7))<|
 oq 28 (.lit 1 [.int .u32 0] [(0,1,(.s 27))])<|
 oq 29 (.call f_nat_Norm [.s 28])<|
 oq 4 (.mv (.s 26))<|
 oq 5 (.mv (.s 29))<|
 .nil) [4,5])
 .ret))
 .skip))))))
 (.seq
 (.reg (oq 30 (.mv (.s 0))<|
 oq 31 (.len (.s 30))<|
 oq 32 (.mks [.int .u32 0] 4 (.s 31) (.s 31))<|
 oq 8 (.mv (.s 32))<|
 .nil) [0,1,5,8])
 (.seq
 (.seq
 (.reg (oq 33 (.mv (.s 0))<|
 oq 34 (.call f_nat_Bits [.s 33])<|
 oq 35 (.bin .sub (.s 34) (.k (.int .i64 1)))<|
 oq 9 (.mv (.s 35))<|
 .nil) [0,1,5,8,9])
 (.blk 1
 (.loop ⟨[(0,.same),(1,.same),(5,.v),(8,.same),(9,.v)],[(.arr .no 1)]⟩ [(.ext 1,⟨[(5,.v),(8,.same)],[(.arr .no 1)]⟩)]
 (.seq
 (.seq
 (.reg (oq 36 (.mv (.s 9))<|
 oq 37 (.bin .geq (.s 36) (.k (.int .i64 0)))<|
 .nil) [0,1,5,8,9,37])
 (.cond (.s 37)
 .skip
 (.exit 1)))
 (.seq
 (.blk 2
 (.seq
 (.reg (oq 40 (.mv (.s 5))<|
 oq 41 (.mv (.s 0))<|
 oq 42 (.mv (.s 9))<|
 oq 43 (.bin .quo (.s 42) (.k (.int .i64 32)))<|
 oq 44 (.iad 1 (.s 41) (.s 43))<|
 oq 45 (.load false 1 (.s 44))<|
 oq 46 (.mv (.s 9))<|
 oq 47 (.bin .rem (.s 46) (.k (.int .i64 32)))<|
 oq 48 (.bin .shr (.s 45) (.s 47))<|
 oq 49 (.bin .and (.s 48) (.k (.int .u32 1)))<|
 oq 50 (.call f_nat_up [.s 40,.s 49])<|
 oq 5 (.mv (.s 50))<|
 .nil) [0,1,5,8,9])
 (.seq
 (.reg (oq 51 (.mv (.s 5))<|
 oq 52 (.mv (.s 1))<|
 oq 53 (.call f_nat_Cmp [.s 51,.s 52])<|
 oq 54 (.bin .geq (.s 53) (.k (.int .i64 0)))<|
 .nil) [0,1,5,8,9,54])
 (.cond (.s 54)
 (.seq
 (.reg (oq 55 (.mv (.s 5))<|
 oq 56 (.mv (.s 1))<|
 oq 57 (.call f_nat_Sub [.s 55,.s 56])<|
 oq 5 (.mv (.s 57))<|
 .nil) [0,1,5,8,9])
 (.drw (.nil)
 (oq 58 (.mv (.s 8))<|
 oq 59 (.mv (.s 9))<|
 oq 60 (.bin .quo (.s 59) (.k (.int .i64 32)))<|
 oq 61 (.iad 1 (.s 58) (.s 60))<|
 oq 62 (.load false 1 (.s 61))<|
 oq 63 (.mv (.s 9))<|
 oq 64 (.bin .rem (.s 63) (.k (.int .i64 32)))<|
 oq 65 (.bin .shl (.k (.int .u32 1)) (.s 64))<|
 .nil)
 (oq 66 (.bin .or (.s 62) (.s 65))<|
 oq 67 (.iad 1 (.s 58) (.s 60))<|
 oz (.store 1 (.s 67) (.s 66))<|
 .nil) [0,1,5,8,9]))
 .skip))))
 (.reg (oq 38 (.mv (.s 9))<|
 oq 39 (.bin .sub (.s 38) (.k (.int .i64 1)))<|
 oq 9 (.mv (.s 39))<|
 .nil) [0,1,5,8,9]))))))
 (.seq
 (.reg (oq 68 (.mv (.s 8))<|
 oq 69 (.call f_nat_Norm [.s 68])<|
 oq 70 (.mv (.s 5))<|
 oq 4 (.mv (.s 69))<|
 oq 5 (.mv (.s 70))<|
 .nil) [4,5])
 .ret))))))
def p_nat_Div:PFn:=⟨[.tmp 4,.tmp 5],q_nat_Div⟩
def n_nat_Div:Fn:=⟨2,[.tmp 4,.tmp 5],false,false,erase q_nat_Div⟩
def q_ref01_Div:PC:=
 (.seq
 (.reg (oq 4 (.mv (.k (.sl .full 0 [])))<|
 oq 5 (.mv (.k (.sl .full 0 [])))<|
 .nil) [0,1])
 (.seq
 (.seq
 (.reg (oq 9 (.mv (.s 1))<|
 oq 10 (.call f_ref01_Norm [.s 9])<|
 oq 11 (.len (.s 10))<|
 oq 12 (.bin .eql (.s 11) (.k (.int .i64 0)))<|
 .nil) [0,1,12])
 (.cond (.s 12)
 (.seq
 (.reg (oq 4 (.mv (.k (.sl .full 0 [])))<|
 oq 5 (.mv (.k (.sl .full 0 [])))<|
 .nil) [4,5])
 .ret)
 .skip))
 (.seq
 (.reg (oq 13 (.mv (.s 0))<|
 oq 14 (.len (.s 13))<|
 oq 15 (.mks [.int .u32 0] 4 (.s 14) (.s 14))<|
 oq 6 (.mv (.s 15))<|
 .nil) [0,1,6])
 (.seq
 (.reg (oq 7 (.mv (.k (.sl .full 0 [])))<|
 .nil) [0,1,6,7])
 (.seq
 (.seq
 (.reg (oq 16 (.mv (.s 0))<|
 oq 17 (.call f_ref01_Bits [.s 16])<|
 oq 18 (.bin .sub (.s 17) (.k (.int .i64 1)))<|
 oq 8 (.mv (.s 18))<|
 .nil) [0,1,6,7,8])
 (.blk 0
 (.loop ⟨[(0,.same),(1,.same),(6,.same),(7,.v),(8,.v)],[(.arr .no 1)]⟩ [(.ext 0,⟨[(6,.same),(7,.v)],[(.arr .no 1)]⟩)]
 (.seq
 (.seq
 (.reg (oq 19 (.mv (.s 8))<|
 oq 20 (.bin .geq (.s 19) (.k (.int .i64 0)))<|
 .nil) [0,1,6,7,8,20])
 (.cond (.s 20)
 .skip
 (.exit 0)))
 (.seq
 (.blk 1
 (.seq
 (.reg (oq 23 (.mv (.s 7))<|
 oq 24 (.call f_ref01_Shift [.s 23,(.k (.int .i64 1))])<|
 oq 7 (.mv (.s 24))<|
 .nil) [0,1,6,7,8])
 (.seq
 (.cut ⟨[(0,.same),(1,.same),(6,.same),(7,.v),(8,.same)],[.same]⟩ [(.nrm,⟨[(0,.same),(1,.same),(6,.same),(7,.v),(8,.same)],[.same]⟩)]
 (.seq
 (.reg (oq 25 (.mv (.s 0))<|
 oq 26 (.mv (.s 8))<|
 oq 27 (.bin .quo (.s 26) (.k (.int .i64 32)))<|
 oq 28 (.iad 1 (.s 25) (.s 27))<|
 oq 29 (.load false 1 (.s 28))<|
 oq 30 (.mv (.s 8))<|
 oq 31 (.bin .rem (.s 30) (.k (.int .i64 32)))<|
 oq 32 (.cvi .u64 (.s 31))<|
 oq 33 (.bin .shr (.s 29) (.s 32))<|
 oq 34 (.bin .and (.s 33) (.k (.int .u32 1)))<|
 oq 35 (.bin .eql (.s 34) (.k (.int .u32 1)))<|
 .nil) [0,1,6,7,8,35])
 (.cond (.s 35)
 (.reg (oq 36 (.mv (.s 7))<|
 oq 37 (.lit 1 [.int .u32 0] [(0,1,(.k (.int .u32 1)))])<|
 oq 38 (.call f_ref01_Add [.s 36,.s 37])<|
 oq 7 (.mv (.s 38))<|
 .nil) [0,1,6,7,8])
 .skip)))
 (.seq
 (.reg (oq 39 (.mv (.s 7))<|
 oq 40 (.mv (.s 1))<|
 oq 41 (.call f_ref01_Cmp [.s 39,.s 40])<|
 oq 42 (.bin .geq (.s 41) (.k (.int .i64 0)))<|
 .nil) [0,1,6,7,8,42])
 (.cond (.s 42)
 (.seq
 (.reg (oq 43 (.mv (.s 7))<|
 oq 44 (.mv (.s 1))<|
 oq 45 (.call f_ref01_Sub [.s 43,.s 44])<|
 oq 7 (.mv (.s 45))<|
 .nil) [0,1,6,7,8])
 (.reg (oq 46 (.mv (.s 6))<|
 oq 47 (.mv (.s 8))<|
 oq 48 (.bin .quo (.s 47) (.k (.int .i64 32)))<|
 oq 49 (.mv (.s 6))<|
 oq 50 (.mv (.s 8))<|
 oq 51 (.bin .quo (.s 50) (.k (.int .i64 32)))<|
 oq 52 (.iad 1 (.s 49) (.s 51))<|
 oq 53 (.load false 1 (.s 52))<|
 oq 54 (.mv (.s 8))<|
 oq 55 (.bin .rem (.s 54) (.k (.int .i64 32)))<|
 oq 56 (.cvi .u64 (.s 55))<|
 oq 57 (.bin .shl (.k (.int .u32 1)) (.s 56))<|
 oq 58 (.bin .or (.s 53) (.s 57))<|
 oq 59 (.iad 1 (.s 46) (.s 48))<|
 oz (.store 1 (.s 59) (.s 58))<|
 .nil) [0,1,6,7,8]))
 .skip)))))
 (.reg (oq 21 (.mv (.s 8))<|
 oq 22 (.bin .sub (.s 21) (.k (.int .i64 1)))<|
 oq 8 (.mv (.s 22))<|
 .nil) [0,1,6,7,8]))))))
 (.seq
 (.reg (oq 60 (.mv (.s 6))<|
 oq 61 (.call f_ref01_Norm [.s 60])<|
 oq 62 (.mv (.s 7))<|
 oq 4 (.mv (.s 61))<|
 oq 5 (.mv (.s 62))<|
 .nil) [4,5])
 .ret))))))
def p_ref01_Div:PFn:=⟨[.tmp 4,.tmp 5],q_ref01_Div⟩
def n_ref01_Div:Fn:=⟨2,[.tmp 4,.tmp 5],false,false,erase q_ref01_Div⟩
def q_ref01_Trim:PC:=
 (.seq
 (.reg (oq 2 (.mv (.k (.sl .full 0 [])))<|
 oq 3 (.mv (.k (.int .i64 0)))<|
 .nil) [0])
 (.seq
 (.reg (oq 8 (.mv (.s 0))<|
 oq 9 (.call f_ref01_Norm [.s 8])<|
 oq 4 (.mv (.s 9))<|
 .nil) [4])
 (.seq
 (.reg (oq 5 (.mv (.k (.int .i64 0)))<|
 .nil) [4,5])
 (.seq
 (.blk 0
 (.loop ⟨[(4,.v),(5,.v)],[]⟩ [(.ext 0,⟨[(4,.v),(5,.v)],[]⟩)]
 (.seq
 (.seq
 (.reg (oq 10 (.mv (.s 4))<|
 oq 11 (.len (.s 10))<|
 oq 12 (.bin .gtr (.s 11) (.k (.int .i64 0)))<|
 .nil) [4,5,12])
 (.cond (.s 12)
 .skip
 (.exit 0)))
 (.blk 1
 (.seq
 (.reg (oq 14 (.mv (.s 4))<|
 oq 15 (.call f_ref01_Small [.s 14,(.k (.int .u32 10))])<|
 oq 13 (.mv (.s 15))<|
 oq 16 (.ext (.s 13) 0)<|
 oq 17 (.ext (.s 13) 1)<|
 oq 6 (.mv (.s 16))<|
 oq 7 (.mv (.s 17))<|
 .nil) [4,5,6,7])
 (.seq
 (.seq
 (.reg (oq 18 (.mv (.s 7))<|
 oq 19 (.bin .neq (.s 18) (.k (.int .u32 0)))<|
 .nil) [4,5,6,19])
 (.cond (.s 19)
 (.exit 0)
 .skip))
 (.seq
 (.reg (oq 20 (.mv (.s 6))<|
 oq 4 (.mv (.s 20))<|
 .nil) [4,5])
 (.reg (oq 21 (.mv (.s 5))<|
 oq 22 (.bin .add (.s 21) (.k (.int .i64 1)))<|
 oq 5 (.mv (.s 22))<|
 .nil) [4,5]))))))))
 (.seq
 (.reg (oq 23 (.mv (.s 4))<|
 oq 24 (.mv (.s 5))<|
 oq 2 (.mv (.s 23))<|
 oq 3 (.mv (.s 24))<|
 .nil) [2,3])
 .ret)))))
def p_ref01_Trim:PFn:=⟨[.tmp 2,.tmp 3],q_ref01_Trim⟩
def n_ref01_Trim:Fn:=⟨1,[.tmp 2,.tmp 3],false,false,erase q_ref01_Trim⟩
def q_ref01_Parse:PC:=
 (.seq
 (.reg (oq 2 (.mv (.k (.sl .full 0 [])))<|
 oq 3 (.mv (.k (.bool false)))<|
 .nil) [0])
 (.seq
 (.seq
 (.reg (oq 6 (.mv (.s 0))<|
 oq 7 (.lns (.s 6))<|
 oq 8 (.bin .lss (.s 7) (.k (.int .i64 1)))<|
 oq 9 (.mv (.s 8))<|
 .grp 9 false (oq 10 (.mv (.s 0))<|
 oq 11 (.lns (.s 10))<|
 oq 12 (.bin .gtr (.s 11) (.k (.int .i64 2000)))<|
 .nil) 13 (.s 12) (.k (.bool true))<|
 .nil) [0,13])
 (.cond (.s 13)
 (.seq
 (.reg (oq 2 (.mv (.k (.sl .full 0 [])))<|
 oq 3 (.mv (.k (.bool false)))<|
 .nil) [2,3])
 .ret)
 .skip))
 (.seq
 (.reg (oq 4 (.mv (.k (.sl .full 0 [])))<|
 .nil) [0,4])
 (.seq
 (.seq
 (.reg (oq 5 (.mv (.k (.int .i64 0)))<|
 .nil) [0,4,5])
 (.blk 0
 (.loop ⟨[(0,.same),(4,.v),(5,.v)],[]⟩ [(.ext 0,⟨[(4,.v)],[]⟩),(.ret,⟨[(2,.v),(3,.v)],[]⟩)]
 (.seq
 (.seq
 (.reg (oq 14 (.mv (.s 5))<|
 oq 15 (.mv (.s 0))<|
 oq 16 (.lns (.s 15))<|
 oq 17 (.bin .lss (.s 14) (.s 16))<|
 .nil) [0,4,5,17])
 (.cond (.s 17)
 .skip
 (.exit 0)))
 (.seq
 (.blk 1
 (.seq
 (.seq
 (.reg (oq 20 (.mv (.s 0))<|
 oq 21 (.mv (.s 5))<|
 oq 22 (.ixs (.s 20) (.s 21))<|
 oq 23 (.bin .lss (.s 22) (.k (.int .u8 48)))<|
 oq 24 (.mv (.s 23))<|
 .grp 24 false (oq 25 (.mv (.s 0))<|
 oq 26 (.mv (.s 5))<|
 oq 27 (.ixs (.s 25) (.s 26))<|
 oq 28 (.bin .gtr (.s 27) (.k (.int .u8 57)))<|
 .nil) 29 (.s 28) (.k (.bool true))<|
 .nil) [0,4,5,29])
 (.cond (.s 29)
 (.seq
 (.reg (oq 2 (.mv (.k (.sl .full 0 [])))<|
 oq 3 (.mv (.k (.bool false)))<|
 .nil) [2,3])
 .ret)
 .skip))
 (.drw (.nil)
 (oq 30 (.mv (.s 4))<|
 oq 31 (.lit 1 [.int .u32 0] [(0,1,(.k (.int .u32 10)))])<|
 oq 32 (.call f_ref01_Mul [.s 30,.s 31])<|
 oq 33 (.mv (.s 0))<|
 oq 34 (.mv (.s 5))<|
 oq 35 (.ixs (.s 33) (.s 34))<|
 oq 36 (.bin .sub (.s 35) (.k (.int .u8 48)))<|
 oq 37 (.cvi .u32 (.s 36))<|
 oq 38 (.lit 1 [.int .u32 0] [(0,1,(.s 37))])<|
 .nil)
 (oq 39 (.call f_ref01_Add [.s 32,.s 38])<|
 oq 4 (.mv (.s 39))<|
 .nil) [0,4,5])))
 (.reg (oq 18 (.mv (.s 5))<|
 oq 19 (.bin .add (.s 18) (.k (.int .i64 1)))<|
 oq 5 (.mv (.s 19))<|
 .nil) [0,4,5]))))))
 (.seq
 (.reg (oq 40 (.mv (.s 4))<|
 oq 2 (.mv (.s 40))<|
 oq 3 (.mv (.k (.bool true)))<|
 .nil) [2,3])
 .ret)))))
def p_ref01_Parse:PFn:=⟨[.tmp 2,.tmp 3],q_ref01_Parse⟩
def n_ref01_Parse:Fn:=⟨1,[.tmp 2,.tmp 3],false,false,erase q_ref01_Parse⟩
def q_ref01_Cmp:PC:=
 (.seq
 (.reg (oq 4 (.mv (.k (.int .i64 0)))<|
 .nil) [0,1])
 (.seq
 (.seq
 (.reg (oq 6 (.mv (.s 0))<|
 oq 7 (.len (.s 6))<|
 oq 8 (.mv (.s 1))<|
 oq 9 (.len (.s 8))<|
 oq 10 (.max [.s 7,.s 9])<|
 oq 11 (.bin .sub (.s 10) (.k (.int .i64 1)))<|
 oq 5 (.mv (.s 11))<|
 .nil) [0,1,5])
 (.blk 0
 (.loop ⟨[(0,.same),(1,.same),(5,.v)],[]⟩ [(.ext 0,⟨[],[]⟩),(.ret,⟨[(4,.v)],[]⟩)]
 (.seq
 (.seq
 (.reg (oq 12 (.mv (.s 5))<|
 oq 13 (.bin .geq (.s 12) (.k (.int .i64 0)))<|
 .nil) [0,1,5,13])
 (.cond (.s 13)
 .skip
 (.exit 0)))
 (.seq
 (.blk 1
 (.seq
 (.seq
 (.reg (oq 16 (.mv (.s 0))<|
 oq 17 (.mv (.s 5))<|
 oq 18 (.call f_ref01_limb [.s 16,.s 17])<|
 oq 19 (.mv (.s 1))<|
 oq 20 (.mv (.s 5))<|
 oq 21 (.call f_ref01_limb [.s 19,.s 20])<|
 oq 22 (.bin .lss (.s 18) (.s 21))<|
 .nil) [0,1,5,22])
 (.cond (.s 22)
 (.seq
 (.reg (oq 4 (.mv (.k (.int .i64 (-1))))<|
 .nil) [4])
 .ret)
 .skip))
 (.seq
 (.reg (oq 23 (.mv (.s 0))<|
 oq 24 (.mv (.s 5))<|
 oq 25 (.call f_ref01_limb [.s 23,.s 24])<|
 oq 26 (.mv (.s 1))<|
 oq 27 (.mv (.s 5))<|
 oq 28 (.call f_ref01_limb [.s 26,.s 27])<|
 oq 29 (.bin .gtr (.s 25) (.s 28))<|
 .nil) [0,1,5,29])
 (.cond (.s 29)
 (.seq
 (.reg (oq 4 (.mv (.k (.int .i64 1)))<|
 .nil) [4])
 .ret)
 .skip))))
 (.reg (oq 14 (.mv (.s 5))<|
 oq 15 (.bin .sub (.s 14) (.k (.int .i64 1)))<|
 oq 5 (.mv (.s 15))<|
 .nil) [0,1,5]))))))
 (.seq
 (.reg (oq 4 (.mv (.k (.int .i64 0)))<|
 .nil) [4])
 .ret)))
def p_ref01_Cmp:PFn:=⟨[.tmp 4],q_ref01_Cmp⟩
def n_ref01_Cmp:Fn:=⟨2,[.tmp 4],false,false,erase q_ref01_Cmp⟩
def q_ref01_Bits:PC:=
 (.seq
 (.reg (oq 2 (.mv (.k (.int .i64 0)))<|
 .nil) [0])
 (.seq
 (.reg (oq 5 (.mv (.s 0))<|
 oq 6 (.call f_ref01_Norm [.s 5])<|
 oq 3 (.mv (.s 6))<|
 .nil) [3])
 (.seq
 (.reg (oq 7 (.mv (.s 3))<|
 oq 8 (.len (.s 7))<|
 oq 9 (.bin .mul (.k (.int .i64 32)) (.s 8))<|
 oq 4 (.mv (.s 9))<|
 .nil) [3,4])
 (.seq
 (.blk 0
 (.loop ⟨[(3,.same),(4,.v)],[]⟩ [(.ext 0,⟨[(4,.v)],[]⟩)]
 (.seq
 (.seq
 (.reg (oq 10 (.mv (.s 4))<|
 oq 11 (.bin .gtr (.s 10) (.k (.int .i64 0)))<|
 oq 12 (.mv (.s 11))<|
 .grp 12 true (oq 13 (.mv (.s 3))<|
 oq 14 (.mv (.s 4))<|
 oq 15 (.bin .sub (.s 14) (.k (.int .i64 1)))<|
 oq 16 (.bin .quo (.s 15) (.k (.int .i64 32)))<|
 oq 17 (.iad 1 (.s 13) (.s 16))<|
 oq 18 (.load false 1 (.s 17))<|
 oq 19 (.mv (.s 4))<|
 oq 20 (.bin .sub (.s 19) (.k (.int .i64 1)))<|
 oq 21 (.bin .rem (.s 20) (.k (.int .i64 32)))<|
 oq 22 (.cvi .u64 (.s 21))<|
 oq 23 (.bin .shr (.s 18) (.s 22))<|
 oq 24 (.bin .and (.s 23) (.k (.int .u32 1)))<|
 oq 25 (.bin .eql (.s 24) (.k (.int .u32 0)))<|
 .nil) 26 (.s 25) (.k (.bool false))<|
 .nil) [3,4,26])
 (.cond (.s 26)
 .skip
 (.exit 0)))
 (.blk 1
 (.reg (oq 27 (.mv (.s 4))<|
 oq 28 (.bin .sub (.s 27) (.k (.int .i64 1)))<|
 oq 4 (.mv (.s 28))<|
 .nil) [3,4])))))
 (.seq
 (.reg (oq 29 (.mv (.s 4))<|
 oq 2 (.mv (.s 29))<|
 .nil) [2])
 .ret)))))
def p_ref01_Bits:PFn:=⟨[.tmp 2],q_ref01_Bits⟩
def n_ref01_Bits:Fn:=⟨1,[.tmp 2],false,false,erase q_ref01_Bits⟩
def q_ref01_Pow:PC:=
 (.seq
 (.reg (oq 4 (.mv (.k (.sl .full 0 [])))<|
 .nil) [0,1])
 (.seq
 (.reg (oq 7 (.lit 1 [.int .u32 0] [(0,1,(.k (.int .u32 1)))])<|
 oq 5 (.mv (.s 7))<|
 .nil) [0,1,5])
 (.seq
 (.seq
 (.reg (oq 6 (.mv (.k (.int .i64 0)))<|
 .nil) [0,1,5,6])
 (.blk 0
 (.loop ⟨[(0,.same),(1,.same),(5,.v),(6,.v)],[]⟩ [(.ext 0,⟨[(5,.v)],[]⟩)]
 (.seq
 (.seq
 (.reg (oq 8 (.mv (.s 6))<|
 oq 9 (.mv (.s 1))<|
 oq 10 (.min [.s 9,(.k (.int .i64 1300))])<|
 oq 11 (.bin .lss (.s 8) (.s 10))<|
 .nil) [0,1,5,6,11])
 (.cond (.s 11)
 .skip
 (.exit 0)))
 (.seq
 (.blk 1
 (.reg (oq 14 (.mv (.s 5))<|
 oq 15 (.mv (.s 0))<|
 oq 16 (.lit 1 [.int .u32 0] [(0,1,(.s 15))])<|
 oq 17 (.call f_ref01_Mul [.s 14,.s 16])<|
 oq 5 (.mv (.s 17))<|
 .nil) [0,1,5,6]))
 (.reg (oq 12 (.mv (.s 6))<|
 oq 13 (.bin .add (.s 12) (.k (.int .i64 1)))<|
 oq 6 (.mv (.s 13))<|
 .nil) [0,1,5,6]))))))
 (.seq
 (.reg (oq 18 (.mv (.s 5))<|
 oq 4 (.mv (.s 18))<|
 .nil) [4])
 .ret))))
def p_ref01_Pow:PFn:=⟨[.tmp 4],q_ref01_Pow⟩
def n_ref01_Pow:Fn:=⟨2,[.tmp 4],false,false,erase q_ref01_Pow⟩
def q_ref01_Norm:PC:=
 (.seq
 (.reg (oq 2 (.mv (.k (.sl .full 0 [])))<|
 .nil) [0])
 (.seq
 (.reg (oq 4 (.mv (.s 0))<|
 oq 5 (.len (.s 4))<|
 oq 3 (.mv (.s 5))<|
 .nil) [0,3])
 (.seq
 (.blk 0
 (.loop ⟨[(0,.same),(3,.v)],[]⟩ [(.ext 0,⟨[(0,.same),(3,.v)],[]⟩)]
 (.seq
 (.seq
 (.reg (oq 6 (.mv (.s 3))<|
 oq 7 (.bin .gtr (.s 6) (.k (.int .i64 0)))<|
 oq 8 (.mv (.s 7))<|
 .grp 8 true (oq 9 (.mv (.s 0))<|
 oq 10 (.mv (.s 3))<|
 oq 11 (.bin .sub (.s 10) (.k (.int .i64 1)))<|
 oq 12 (.iad 1 (.s 9) (.s 11))<|
 oq 13 (.load false 1 (.s 12))<|
 oq 14 (.bin .eql (.s 13) (.k (.int .u32 0)))<|
 .nil) 15 (.s 14) (.k (.bool false))<|
 .nil) [0,3,15])
 (.cond (.s 15)
 .skip
 (.exit 0)))
 (.blk 1
 (.reg (oq 16 (.mv (.s 3))<|
 oq 17 (.bin .sub (.s 16) (.k (.int .i64 1)))<|
 oq 3 (.mv (.s 17))<|
 .nil) [0,3])))))
 (.seq
 (.reg (oq 18 (.mv (.s 0))<|
 oq 19 (.mv (.s 3))<|
 oq 20 (.slc 1 (.s 18) none (some (.s 19)) none)<|
 oq 21 (.app 1 4 (.k (.sl .full 0 [])) (.s 20))<|
 oq 2 (.mv (.s 21))<|
 .nil) [2])
 .ret))))
def p_ref01_Norm:PFn:=⟨[.tmp 2],q_ref01_Norm⟩
def n_ref01_Norm:Fn:=⟨1,[.tmp 2],false,false,erase q_ref01_Norm⟩
def q_ref01_Add:PC:=
 (.seq
 (.reg (oq 4 (.mv (.k (.sl .full 0 [])))<|
 .nil) [0,1])
 (.seq
 (.reg (oq 5 (.mv (.k (.sl .full 0 [])))<|
 .nil) [0,1,5])
 (.seq
 (.reg (oq 6 (.mv (.k (.int .u64 0)))<|
 .nil) [0,1,5,6])
 (.seq
 (.seq
 (.reg (oq 7 (.mv (.k (.int .i64 0)))<|
 .nil) [0,1,5,6,7])
 (.blk 0
 (.loop ⟨[(0,.same),(1,.same),(5,(.own 1)),(6,.v),(7,.v)],[]⟩ [(.ext 0,⟨[(5,(.own 1))],[]⟩)]
 (.seq
 (.seq
 (.reg (oq 8 (.mv (.s 7))<|
 oq 9 (.mv (.s 0))<|
 oq 10 (.len (.s 9))<|
 oq 11 (.mv (.s 1))<|
 oq 12 (.len (.s 11))<|
 oq 13 (.max [.s 10,.s 12])<|
 oq 14 (.bin .leq (.s 8) (.s 13))<|
 .nil) [0,1,5,6,7,14])
 (.cond (.s 14)
 .skip
 (.exit 0)))
 (.seq
 (.blk 1
 (.seq
 (.reg (oq 17 (.mv (.s 6))<|
 oq 18 (.mv (.s 0))<|
 oq 19 (.mv (.s 7))<|
 oq 20 (.call f_ref01_limb [.s 18,.s 19])<|
 oq 21 (.bin .add (.s 17) (.s 20))<|
 oq 22 (.mv (.s 1))<|
 oq 23 (.mv (.s 7))<|
 oq 24 (.call f_ref01_limb [.s 22,.s 23])<|
 oq 25 (.bin .add (.s 21) (.s 24))<|
 oq 6 (.mv (.s 25))<|
 .nil) [0,1,5,6,7])
 (.seq
 (.reg (oq 26 (.mv (.s 5))<|
 oq 27 (.mv (.s 6))<|
 oq 28 (.cvi .u32 (.s 27))<|
 oq 29 (.lit 1 [.int .u32 0] [(0,1,(.s 28))])<|
 oq 30 (.app 1 4 (.s 26) (.s 29))<|
 oq 5 (.mv (.s 30))<|
 .nil) [0,1,5,6,7])
 (.reg (oq 31 (.mv (.s 6))<|
 oq 32 (.bin .shr (.s 31) (.k (.int .u64 32)))<|
 oq 6 (.mv (.s 32))<|
 .nil) [0,1,5,6,7]))))
 (.reg (oq 15 (.mv (.s 7))<|
 oq 16 (.bin .add (.s 15) (.k (.int .i64 1)))<|
 oq 7 (.mv (.s 16))<|
 .nil) [0,1,5,6,7]))))))
 (.seq
 (.reg (oq 33 (.mv (.s 5))<|
 oq 34 (.call f_ref01_Norm [.s 33])<|
 oq 4 (.mv (.s 34))<|
 .nil) [4])
 .ret)))))
def p_ref01_Add:PFn:=⟨[.tmp 4],q_ref01_Add⟩
def n_ref01_Add:Fn:=⟨2,[.tmp 4],false,false,erase q_ref01_Add⟩
def q_ref01_Sub:PC:=
 (.seq
 (.reg (oq 4 (.mv (.k (.sl .full 0 [])))<|
 .nil) [0,1])
 (.seq
 (.seq
 (.reg (oq 9 (.mv (.s 0))<|
 oq 10 (.mv (.s 1))<|
 oq 11 (.call f_ref01_Cmp [.s 9,.s 10])<|
 oq 12 (.bin .lss (.s 11) (.k (.int .i64 0)))<|
 .nil) [0,1,12])
 (.cond (.s 12)
 (.seq
 (.reg (oq 4 (.mv (.k (.sl .full 0 [])))<|
 .nil) [4])
 .ret)
 .skip))
 (.seq
 (.reg (oq 5 (.mv (.k (.sl .full 0 [])))<|
 .nil) [0,1,5])
 (.seq
 (.reg (oq 6 (.mv (.k (.int .u64 0)))<|
 .nil) [0,1,5,6])
 (.seq
 (.seq
 (.reg (oq 7 (.mv (.k (.int .i64 0)))<|
 .nil) [0,1,5,6,7])
 (.blk 0
 (.loop ⟨[(0,.same),(1,.same),(5,(.own 1)),(6,.v),(7,.v)],[]⟩ [(.ext 0,⟨[(5,(.own 1))],[]⟩)]
 (.seq
 (.seq
 (.reg (oq 13 (.mv (.s 7))<|
 oq 14 (.mv (.s 0))<|
 oq 15 (.len (.s 14))<|
 oq 16 (.bin .lss (.s 13) (.s 15))<|
 .nil) [0,1,5,6,7,16])
 (.cond (.s 16)
 .skip
 (.exit 0)))
 (.seq
 (.blk 1
 (.seq
 (.reg (oq 19 (.mv (.s 0))<|
 oq 20 (.mv (.s 7))<|
 oq 21 (.call f_ref01_limb [.s 19,.s 20])<|
 oq 22 (.mv (.s 1))<|
 oq 23 (.mv (.s 7))<|
 oq 24 (.call f_ref01_limb [.s 22,.s 23])<|
 oq 25 (.bin .sub (.s 21) (.s 24))<|
 oq 26 (.mv (.s 6))<|
 oq 27 (.bin .sub (.s 25) (.s 26))<|
 oq 8 (.mv (.s 27))<|
 .nil) [0,1,5,7,8])
 (.seq
 (.reg (oq 28 (.mv (.s 5))<|
 oq 29 (.mv (.s 8))<|
 oq 30 (.cvi .u32 (.s 29))<|
 oq 31 (.lit 1 [.int .u32 0] [(0,1,(.s 30))])<|
 oq 32 (.app 1 4 (.s 28) (.s 31))<|
 oq 5 (.mv (.s 32))<|
 .nil) [0,1,5,7,8])
 (.reg (oq 33 (.mv (.s 8))<|
 oq 34 (.bin .shr (.s 33) (.k (.int .u64 63)))<|
 oq 6 (.mv (.s 34))<|
 .nil) [0,1,5,6,7]))))
 (.reg (oq 17 (.mv (.s 7))<|
 oq 18 (.bin .add (.s 17) (.k (.int .i64 1)))<|
 oq 7 (.mv (.s 18))<|
 .nil) [0,1,5,6,7]))))))
 (.seq
 (.reg (oq 35 (.mv (.s 5))<|
 oq 36 (.call f_ref01_Norm [.s 35])<|
 oq 4 (.mv (.s 36))<|
 .nil) [4])
 .ret))))))
def p_ref01_Sub:PFn:=⟨[.tmp 4],q_ref01_Sub⟩
def n_ref01_Sub:Fn:=⟨2,[.tmp 4],false,false,erase q_ref01_Sub⟩
def q_ref01_Mul:PC:=
 (.seq
 (.reg (oq 4 (.mv (.k (.sl .full 0 [])))<|
 .nil) [0,1])
 (.seq
 (.reg (oq 9 (.mv (.s 0))<|
 oq 10 (.len (.s 9))<|
 oq 11 (.mv (.s 1))<|
 oq 12 (.len (.s 11))<|
 oq 13 (.bin .add (.s 10) (.s 12))<|
 oq 14 (.bin .add (.s 13) (.k (.int .i64 1)))<|
 oq 15 (.mks [.int .u32 0] 4 (.s 14) (.s 14))<|
 oq 5 (.mv (.s 15))<|
 .nil) [0,1,5])
 (.seq
 (.seq
 (.reg (oq 6 (.mv (.k (.int .i64 0)))<|
 .nil) [0,1,5,6])
 (.blk 0
 (.loop ⟨[(0,.same),(1,.same),(5,.same),(6,.v)],[(.arr .no 1)]⟩ [(.ext 0,⟨[(5,.same)],[(.arr .no 1)]⟩)]
 (.seq
 (.seq
 (.reg (oq 16 (.mv (.s 6))<|
 oq 17 (.mv (.s 0))<|
 oq 18 (.len (.s 17))<|
 oq 19 (.bin .lss (.s 16) (.s 18))<|
 .nil) [0,1,5,6,19])
 (.cond (.s 19)
 .skip
 (.exit 0)))
 (.seq
 (.blk 1
 (.seq
 (.reg (oq 7 (.mv (.k (.int .u64 0)))<|
 .nil) [0,1,5,6,7])
 (.seq
 (.reg (oq 8 (.mv (.k (.int .i64 0)))<|
 .nil) [0,1,5,6,7,8])
 (.blk 2
 (.loop ⟨[(0,.same),(1,.same),(5,.same),(6,.same),(7,.v),(8,.v)],[(.arr .no 1)]⟩ [(.ext 2,⟨[(0,.same),(1,.same),(5,.same),(6,.same)],[(.arr .no 1)]⟩)]
 (.seq
 (.seq
 (.reg (oq 22 (.mv (.s 8))<|
 oq 23 (.mv (.s 1))<|
 oq 24 (.len (.s 23))<|
 oq 25 (.bin .leq (.s 22) (.s 24))<|
 .nil) [0,1,5,6,7,8,25])
 (.cond (.s 25)
 .skip
 (.exit 2)))
 (.seq
 (.blk 3
 (.seq
 (.drw (.nil)
 (oq 28 (.mv (.s 7))<|
 oq 29 (.mv (.s 5))<|
 oq 30 (.mv (.s 6))<|
 oq 31 (.mv (.s 8))<|
 oq 32 (.bin .add (.s 30) (.s 31))<|
 oq 33 (.iad 1 (.s 29) (.s 32))<|
 oq 34 (.load false 1 (.s 33))<|
 oq 35 (.cvi .u64 (.s 34))<|
 oq 36 (.bin .add (.s 28) (.s 35))<|
 oq 37 (.mv (.s 0))<|
 oq 38 (.mv (.s 6))<|
 oq 39 (.call f_ref01_limb [.s 37,.s 38])<|
 oq 40 (.mv (.s 1))<|
 oq 41 (.mv (.s 8))<|
 oq 42 (.call f_ref01_limb [.s 40,.s 41])<|
 oq 43 (.bin .mul (.s 39) (.s 42))<|
 .nil)
 (oq 44 (.bin .add (.s 36) (.s 43))<|
 oq 7 (.mv (.s 44))<|
 .nil) [0,1,5,6,7,8])
 (.seq
 (.reg (oq 45 (.mv (.s 5))<|
 oq 46 (.mv (.s 6))<|
 oq 47 (.mv (.s 8))<|
 oq 48 (.bin .add (.s 46) (.s 47))<|
 oq 49 (.mv (.s 7))<|
 oq 50 (.cvi .u32 (.s 49))<|
 oq 51 (.iad 1 (.s 45) (.s 48))<|
 oz (.store 1 (.s 51) (.s 50))<|
 .nil) [0,1,5,6,7,8])
 (.reg (oq 52 (.mv (.s 7))<|
 oq 53 (.bin .shr (.s 52) (.k (.int .u64 32)))<|
 oq 7 (.mv (.s 53))<|
 .nil) [0,1,5,6,7,8]))))
 (.reg (oq 26 (.mv (.s 8))<|
 oq 27 (.bin .add (.s 26) (.k (.int .i64 1)))<|
 oq 8 (.mv (.s 27))<|
 .nil) [0,1,5,6,7,8]))))))))
 (.reg (oq 20 (.mv (.s 6))<|
 oq 21 (.bin .add (.s 20) (.k (.int .i64 1)))<|
 oq 6 (.mv (.s 21))<|
 .nil) [0,1,5,6]))))))
 (.seq
 (.reg (oq 54 (.mv (.s 5))<|
 oq 55 (.call f_ref01_Norm [.s 54])<|
 oq 4 (.mv (.s 55))<|
 .nil) [4])
 .ret))))
def p_ref01_Mul:PFn:=⟨[.tmp 4],q_ref01_Mul⟩
def n_ref01_Mul:Fn:=⟨2,[.tmp 4],false,false,erase q_ref01_Mul⟩
def q_ref01_Digits:PC:=
 (.seq
 (.reg (oq 2 (.mv (.k (.str [])))<|
 .nil) [0])
 (.seq
 (.reg (oq 3 (.mv (.k (.str [])))<|
 .nil) [0,3])
 (.seq
 (.reg (oq 7 (.mv (.s 0))<|
 oq 8 (.call f_ref01_Norm [.s 7])<|
 oq 4 (.mv (.s 8))<|
 .nil) [3,4])
 (.seq
 (.blk 0
 (.loop ⟨[(3,.v),(4,.v)],[]⟩ [(.ext 0,⟨[(3,.v)],[]⟩)]
 (.seq
 (.seq
 (.reg (oq 9 (.mv (.s 4))<|
 oq 10 (.len (.s 9))<|
 oq 11 (.bin .gtr (.s 10) (.k (.int .i64 0)))<|
 .nil) [3,4,11])
 (.cond (.s 11)
 .skip
 (.exit 0)))
 (.blk 1
 (.seq
 (.reg (oq 13 (.mv (.s 4))<|
 oq 14 (.call f_ref01_Small [.s 13,(.k (.int .u32 10))])<|
 oq 12 (.mv (.s 14))<|
 oq 15 (.ext (.s 12) 0)<|
 oq 16 (.ext (.s 12) 1)<|
 oq 5 (.mv (.s 15))<|
 oq 6 (.mv (.s 16))<|
 .nil) [3,5,6])
 (.seq
 (.reg (oq 17 (.mv (.s 6))<|
 oq 18 (.mv (.s 6))<|
 oq 19 (.bin .add (.s 18) (.k (.int .u32 1)))<|
 oq 20 (.sls (.k (.str [48,49,50,51,52,53,54,55,56,57])) (some (.s 17)) (some (.s 19)))<|
 oq 21 (.mv (.s 3))<|
 oq 22 (.bin .add (.s 20) (.s 21))<|
 oq 3 (.mv (.s 22))<|
 .nil) [3,5])
 (.reg (oq 23 (.mv (.s 5))<|
 oq 4 (.mv (.s 23))<|
 .nil) [3,4])))))))
 (.seq
 (.seq
 (.reg (oq 24 (.mv (.s 3))<|
 oq 25 (.bin .eql (.s 24) (.k (.str [])))<|
 .nil) [3,25])
 (.cond (.s 25)
 (.seq
 (.reg (oq 2 (.mv (.k (.str [48])))<|
 .nil) [2])
 .ret)
 .skip))
 (.seq
 (.reg (oq 26 (.mv (.s 3))<|
 oq 2 (.mv (.s 26))<|
 .nil) [2])
 .ret))))))
def p_ref01_Digits:PFn:=⟨[.tmp 2],q_ref01_Digits⟩
def n_ref01_Digits:Fn:=⟨1,[.tmp 2],false,false,erase q_ref01_Digits⟩
def q_cmp_Compare_uint64:PC:=
 (.seq
 (.reg (oq 4 (.mv (.k (.int .i64 0)))<|
 .nil) [0,1])
 (.seq
 (.reg (oq 7 (.mv (.s 0))<|
 oq 8 (.call f_cmp_isNaN_uint64 [.s 7])<|
 oq 5 (.mv (.s 8))<|
 .nil) [0,1,5])
 (.seq
 (.reg (oq 9 (.mv (.s 1))<|
 oq 10 (.call f_cmp_isNaN_uint64 [.s 9])<|
 oq 6 (.mv (.s 10))<|
 .nil) [0,1,5,6])
 (.seq
 (.seq
 (.reg (oq 11 (.mv (.s 5))<|
 .nil) [0,1,6,11])
 (.cond (.s 11)
 (.seq
 (.seq
 (.reg (oq 12 (.mv (.s 6))<|
 .nil) [12])
 (.cond (.s 12)
 (.seq
 (.reg (oq 4 (.mv (.k (.int .i64 0)))<|
 .nil) [4])
 .ret)
 .skip))
 (.seq
 (.reg (oq 4 (.mv (.k (.int .i64 (-1))))<|
 .nil) [4])
 .ret))
 .skip))
 (.seq
 (.seq
 (.reg (oq 13 (.mv (.s 6))<|
 .nil) [0,1,13])
 (.cond (.s 13)
 (.seq
 (.reg (oq 4 (.mv (.k (.int .i64 1)))<|
 .nil) [4])
 .ret)
 .skip))
 (.seq
 (.seq
 (.reg (oq 14 (.mv (.s 0))<|
 oq 15 (.mv (.s 1))<|
 oq 16 (.bin .lss (.s 14) (.s 15))<|
 .nil) [0,1,16])
 (.cond (.s 16)
 (.seq
 (.reg (oq 4 (.mv (.k (.int .i64 (-1))))<|
 .nil) [4])
 .ret)
 .skip))
 (.seq
 (.seq
 (.reg (oq 17 (.mv (.s 0))<|
 oq 18 (.mv (.s 1))<|
 oq 19 (.bin .gtr (.s 17) (.s 18))<|
 .nil) [19])
 (.cond (.s 19)
 (.seq
 (.reg (oq 4 (.mv (.k (.int .i64 1)))<|
 .nil) [4])
 .ret)
 .skip))
 (.seq
 (.reg (oq 4 (.mv (.k (.int .i64 0)))<|
 .nil) [4])
 .ret))))))))
def p_cmp_Compare_uint64:PFn:=⟨[.tmp 4],q_cmp_Compare_uint64⟩
def n_cmp_Compare_uint64:Fn:=⟨2,[.tmp 4],false,false,erase q_cmp_Compare_uint64⟩
def q_nat_at:PC:=
 (.seq
 (.reg (oq 4 (.mv (.k (.int .u64 0)))<|
 .nil) [0,1])
 (.seq
 (.seq
 (.reg (oq 5 (.mv (.s 1))<|
 oq 6 (.mv (.s 0))<|
 oq 7 (.len (.s 6))<|
 oq 8 (.bin .lss (.s 5) (.s 7))<|
 .nil) [0,1,8])
 (.cond (.s 8)
 (.seq
 (.reg (oq 9 (.mv (.s 0))<|
 oq 10 (.mv (.s 1))<|
 oq 11 (.iad 1 (.s 9) (.s 10))<|
 oq 12 (.load false 1 (.s 11))<|
 oq 13 (.cvi .u64 (.s 12))<|
 oq 4 (.mv (.s 13))<|
 .nil) [4])
 .ret)
 .skip))
 (.seq
 (.reg (oq 4 (.mv (.k (.int .u64 0)))<|
 .nil) [4])
 .ret)))
def p_nat_at:PFn:=⟨[.tmp 4],q_nat_at⟩
def n_nat_at:Fn:=⟨2,[.tmp 4],false,false,erase q_nat_at⟩
def q_math_bits_Len32:PC:=
 (.seq
 (.reg (oq 2 (.mv (.k (.int .i64 0)))<|
 .nil) [0,2])
 (.seq
 (.cut ⟨[(0,.v),(2,.v)],[]⟩ [(.nrm,⟨[(0,.v),(2,.v)],[]⟩)]
 (.seq
 (.reg (oq 3 (.mv (.s 0))<|
 oq 4 (.bin .geq (.s 3) (.k (.int .u32 65536)))<|
 .nil) [0,2,4])
 (.cond (.s 4)
 (.seq
 (.reg (oq 5 (.mv (.s 0))<|
 oq 6 (.bin .shr (.s 5) (.k (.int .u64 16)))<|
 oq 0 (.mv (.s 6))<|
 .nil) [0])
 (.reg (oq 2 (.mv (.k (.int .i64 16)))<|
 .nil) [0,2]))
 .skip)))
 (.seq
 (.cut ⟨[(0,.v),(2,.v)],[]⟩ [(.nrm,⟨[(0,.v),(2,.v)],[]⟩)]
 (.seq
 (.reg (oq 7 (.mv (.s 0))<|
 oq 8 (.bin .geq (.s 7) (.k (.int .u32 256)))<|
 .nil) [0,2,8])
 (.cond (.s 8)
 (.seq
 (.reg (oq 9 (.mv (.s 0))<|
 oq 10 (.bin .shr (.s 9) (.k (.int .u64 8)))<|
 oq 0 (.mv (.s 10))<|
 .nil) [0,2])
 (.reg (oq 11 (.mv (.s 2))<|
 oq 12 (.bin .add (.s 11) (.k (.int .i64 8)))<|
 oq 2 (.mv (.s 12))<|
 .nil) [0,2]))
 .skip)))
 (.seq
 (.reg (oq 13 (.mv (.s 2))<|
 oq 14 (.mv (.s 0))<|
 oq 15 (.cvi .u8 (.s 14))<|
 oq 16 (.ixs (.k (.str [0,1,2,2,3,3,3,3,4,4,4,4,4,4,4,4,5,5,5,5,5,5,5,5,5,5,5,5,5,5,5,5,6,6,6,6,6,6,6,6,6,6,6,6,6,6,6,6,6,6,6,6,6,6,6,6,6,6,6,6,6,6,6,6,7,7,7,7,7,7,7,7,7,7,7,7,7,7,7,7,7,7,7,7,7,7,7,7,7,7,7,7,7,7,7,7,7,7,7,7,7,7,7,7,7,7,7,7,7,7,7,7,7,7,7,7,7,7,7,7,7,7,7,7,7,7,7,7,8,8,8,8,8,8,8,8,8,8,8,8,8,8,8,8,8,8,8,8,8,8,8,8,8,8,8,8,8,8,8,8,8,8,8,8,8,8,8,8,8,8,8,8,8,8,8,8,8,8,8,8,8,8,8,8,8,8,8,8,8,8,8,8,8,8,8,8,8,8,8,8,8,8,8,8,8,8,8,8,8,8,8,8,8,8,8,8,8,8,8,8,8,8,8,8,8,8,8,8,8,8,8,8,8,8,8,8,8,8,8,8,8,8,8,8,8,8,8,8,8,8,8,8,8,8,8,8])) (.s 15))<|
 oq 17 (.cvi .i64 (.s 16))<|
 oq 18 (.bin .add (.s 13) (.s 17))<|
 oq 2 (.mv (.s 18))<|
 .nil) [2])
 .ret))))
def p_math_bits_Len32:PFn:=⟨[.tmp 2],q_math_bits_Len32⟩
def n_math_bits_Len32:Fn:=⟨1,[.tmp 2],false,false,erase q_math_bits_Len32⟩
def q_nat_small:PC:=
 (.seq
 (.reg (oq 4 (.mv (.k (.sl .full 0 [])))<|
 oq 5 (.mv (.k (.int .u32 0)))<|
 .nil) [0,1])
 (.seq
 (.reg (oq 9 (.mv (.s 0))<|
 oq 10 (.len (.s 9))<|
 oq 11 (.mks [.int .u32 0] 4 (.s 10) (.s 10))<|
 oq 6 (.mv (.s 11))<|
 .nil) [0,1,6])
 (.seq
 (.reg (oq 7 (.mv (.k (.int .u64 0)))<|
 .nil) [0,1,6,7])
 (.seq
 (.seq
 (.reg (oq 12 (.mv (.s 0))<|
 oq 13 (.len (.s 12))<|
 oq 14 (.bin .sub (.s 13) (.k (.int .i64 1)))<|
 oq 8 (.mv (.s 14))<|
 .nil) [0,1,6,7,8])
 (.blk 0
 (.loop ⟨[(0,.same),(1,.same),(6,.same),(7,.v),(8,.v)],[(.arr .no 1)]⟩ [(.ext 0,⟨[(6,.same),(7,.v)],[(.arr .no 1)]⟩)]
 (.seq
 (.seq
 (.reg (oq 15 (.mv (.s 8))<|
 oq 16 (.bin .geq (.s 15) (.k (.int .i64 0)))<|
 .nil) [0,1,6,7,8,16])
 (.cond (.s 16)
 .skip
 (.exit 0)))
 (.seq
 (.blk 1
 (.seq
 (.reg (oq 19 (.mv (.s 7))<|
 oq 20 (.bin .shl (.s 19) (.k (.int .u64 32)))<|
 oq 21 (.mv (.s 0))<|
 oq 22 (.mv (.s 8))<|
 oq 23 (.iad 1 (.s 21) (.s 22))<|
 oq 24 (.load false 1 (.s 23))<|
 oq 25 (.cvi .u64 (.s 24))<|
 oq 26 (.bin .or (.s 20) (.s 25))<|
 oq 7 (.mv (.s 26))<|
 .nil) [0,1,6,7,8])
 (.seq
 (.reg (oq 27 (.mv (.s 6))<|
 oq 28 (.mv (.s 8))<|
 oq 29 (.mv (.s 7))<|
 oq 30 (.mv (.s 1))<|
 oq 31 (.cvi .u64 (.s 30))<|
 oq 32 (.bin .quo (.s 29) (.s 31))<|
 oq 33 (.cvi .u32 (.s 32))<|
 oq 34 (.iad 1 (.s 27) (.s 28))<|
 oz (.store 1 (.s 34) (.s 33))<|
 .nil) [0,1,6,7,8])
 (.reg (oq 35 (.mv (.s 7))<|
 oq 36 (.mv (.s 1))<|
 oq 37 (.cvi .u64 (.s 36))<|
 oq 38 (.bin .rem (.s 35) (.s 37))<|
 oq 7 (.mv (.s 38))<|
 .nil) [0,1,6,7,8]))))
 (.reg (oq 17 (.mv (.s 8))<|
 oq 18 (.bin .sub (.s 17) (.k (.int .i64 1)))<|
 oq 8 (.mv (.s 18))<|
 .nil) [0,1,6,7,8]))))))
 (.seq
 (.reg (oq 39 (.mv (.s 6))<|
 oq 40 (.call f_nat_Norm [.s 39])<|
 oq 41 (.mv (.s 7))<|
 oq 42 (.cvi .u32 (.s 41))<|
 oq 4 (.mv (.s 40))<|
 oq 5 (.mv (.s 42))<|
 .nil) [4,5])
 .ret)))))
def p_nat_small:PFn:=⟨[.tmp 4,.tmp 5],q_nat_small⟩
def n_nat_small:Fn:=⟨2,[.tmp 4,.tmp 5],false,false,erase q_nat_small⟩
def q_strings_TrimLeft:PC:=
 (.seq
 (.reg (oq 4 (.mv (.k (.str [])))<|
 .nil) [0,1])
 (.seq
 (.seq
 (.reg (oq 7 (.mv (.s 0))<|
 oq 8 (.bin .eql (.s 7) (.k (.str [])))<|
 oq 9 (.mv (.s 8))<|
 .grp 9 false (oq 10 (.mv (.s 1))<|
 oq 11 (.bin .eql (.s 10) (.k (.str [])))<|
 .nil) 12 (.s 11) (.k (.bool true))<|
 .nil) [0,1,12])
 (.cond (.s 12)
 (.seq
 (.reg (oq 13 (.mv (.s 0))<|
 oq 4 (.mv (.s 13))<|
 .nil) [4])
 .ret)
 .skip))
 (.seq
 (.seq
 (.reg (oq 14 (.mv (.s 1))<|
 oq 15 (.lns (.s 14))<|
 oq 16 (.bin .eql (.s 15) (.k (.int .i64 1)))<|
 oq 17 (.mv (.s 16))<|
 .grp 17 true (oq 18 (.mv (.s 1))<|
 oq 19 (.ixs (.s 18) (.k (.int .i64 0)))<|
 oq 20 (.bin .lss (.s 19) (.k (.int .u8 128)))<|
 .nil) 21 (.s 20) (.k (.bool false))<|
 .nil) [0,1,21])
 (.cond (.s 21)
 (.seq
 (.reg (oq 22 (.mv (.s 0))<|
 oq 23 (.mv (.s 1))<|
 oq 24 (.ixs (.s 23) (.k (.int .i64 0)))<|
 oq 25 (.call f_strings_trimLeftByte [.s 22,.s 24])<|
 oq 4 (.mv (.s 25))<|
 .nil) [4])
 .ret)
 .skip))
 (.seq
 (.seq
 (.reg (oq 27 (.mv (.s 1))<|
 oq 28 (.call f_strings_makeASCIISet [.s 27])<|
 oq 26 (.mv (.s 28))<|
 oq 29 (.ext (.s 26) 0)<|
 oq 30 (.ext (.s 26) 1)<|
 oq 5 (.alloc [.bool false,.bool false,.bool false,.bool false,.bool false,.bool false,.bool false,.bool false,.bool false,.bool false,.bool false,.bool false,.bool false,.bool false,.bool false,.bool false,.bool false,.bool false,.bool false,.bool false,.bool false,.bool false,.bool false,.bool false,.bool false,.bool false,.bool false,.bool false,.bool false,.bool false,.bool false,.bool false,.bool false,.bool false,.bool false,.bool false,.bool false,.bool false,.bool false,.bool false,.bool false,.bool false,.bool false,.bool false,.bool false,.bool false,.bool false,.bool false,.bool false,.bool false,.bool false,.bool false,.bool false,.bool false,.bool false,.bool false,.bool false,.bool false,.bool false,.bool false,.bool false,.bool false,.bool false,.bool false,.bool false,.bool false,.bool false,.bool false,.bool false,.bool false,.bool false,.bool false,.bool false,.bool false,.bool false,.bool false,.bool false,.bool false,.bool false,.bool false,.bool false,.bool false,.bool false,.bool false,.bool false,.bool false,.bool false,.bool false,.bool false,.bool false,.bool false,.bool false,.bool false,.bool false,.bool false,.bool false,.bool false,.bool false,.bool false,.bool false,.bool false,.bool false,.bool false,.bool false,.bool false,.bool false,.bool false,.bool false,.bool false,.bool false,.bool false,.bool false,.bool false,.bool false,.bool false,.bool false,.bool false,.bool false,.bool false,.bool false,.bool false,.bool false,.bool false,.bool false,.bool false,.bool false,.bool false,.bool false,.bool false,.bool false,.bool false,.bool false,.bool false,.bool false,.bool false,.bool false,.bool false,.bool false,.bool false,.bool false,.bool false,.bool false,.bool false,.bool false,.bool false,.bool false,.bool false,.bool false,.bool false,.bool false,.bool false,.bool false,.bool false,.bool false,.bool false,.bool false,.bool false,.bool false,.bool false,.bool false,.bool false,.bool false,.bool false,.bool false,.bool false,.bool false,.bool false,.bool false,.bool false,.bool false,.bool false,.bool false,.bool false,.bool false,.bool false,.bool false,.bool false,.bool false,.bool false,.bool false,.bool false,.bool false,.bool false,.bool false,.bool false,.bool false,.bool false,.bool false,.bool false,.bool false,.bool false,.bool false,.bool false,.bool false,.bool false,.bool false,.bool false,.bool false,.bool false,.bool false,.bool false,.bool false,.bool false,.bool false,.bool false,.bool false,.bool false,.bool false,.bool false,.bool false,.bool false,.bool false,.bool false,.bool false,.bool false,.bool false,.bool false,.bool false,.bool false,.bool false,.bool false,.bool false,.bool false,.bool false,.bool false,.bool false,.bool false,.bool false,.bool false,.bool false,.bool false,.bool false,.bool false,.bool false,.bool false,.bool false,.bool false,.bool false,.bool false,.bool false,.bool false,.bool false,.bool false,.bool false,.bool false,.bool false,.bool false,.bool false,.bool false,.bool false,.bool false,.bool false,.bool false,.bool false,.bool false,.bool false])<|
 oz (.store 256 (.s 5) (.s 29))<|
 oq 6 (.mv (.s 30))<|
 .nil) [0,1,5,6])
 (.seq
 (.reg (oq 31 (.mv (.s 6))<|
 .nil) [0,1,5,31])
 (.cond (.s 31)
 (.seq
 (.reg (oq 32 (.mv (.s 0))<|
 oq 33 (.call f_strings_trimLeftASCII [.s 32,.s 5])<|
 oq 4 (.mv (.s 33))<|
 .nil) [4])
 .ret)
 .skip)))
 (.seq
 (.reg (oq 34 (.mv (.s 0))<|
 oq 35 (.mv (.s 1))<|
 oq 36 (.call f_strings_trimLeftUnicode [.s 34,.s 35])<|
 oq 4 (.mv (.s 36))<|
 .nil) [4])
 .ret)))))
def p_strings_TrimLeft:PFn:=⟨[.tmp 4],q_strings_TrimLeft⟩
def n_strings_TrimLeft:Fn:=⟨2,[.tmp 4],false,false,erase q_strings_TrimLeft⟩
def q_nat_up:PC:=
 (.seq
 (.reg (oq 4 (.mv (.k (.sl .full 0 [])))<|
 .nil) [0,1])
 (.seq
 (.reg (oq 8 (.mv (.s 0))<|
 oq 9 (.len (.s 8))<|
 oq 10 (.mv (.s 0))<|
 oq 11 (.len (.s 10))<|
 oq 12 (.bin .add (.s 11) (.k (.int .i64 1)))<|
 oq 13 (.mks [.int .u32 0] 4 (.s 9) (.s 12))<|
 oq 5 (.mv (.s 13))<|
 .nil) [0,1,5])
 (.seq
 (.seq
 (.reg (oq 14 (.mv (.s 0))<|
 oq 15 (.len (.s 14))<|
 oq 16 (.mv (.k (.int .i64 0)))<|
 .nil) [1,5,14,15,16])
 (.blk 0
 (.loop ⟨[(1,.v),(5,.same),(14,.same),(15,.same),(16,.v)],[(.arr .no 1)]⟩ [(.ext 0,⟨[(1,.v),(5,.same)],[(.arr .no 1)]⟩)]
 (.seq
 (.reg (oq 17 (.bin .lss (.s 16) (.s 15))<|
 .nil) [1,5,14,15,16,17])
 (.seq
 (.cond (.s 17)
 .skip
 (.exit 0))
 (.seq
 (.blk 1
 (.seq
 (.reg (oq 18 (.mv (.s 16))<|
 oq 19 (.iad 1 (.s 14) (.s 16))<|
 oq 20 (.load false 1 (.s 19))<|
 oq 6 (.mv (.s 18))<|
 oq 7 (.mv (.s 20))<|
 .nil) [1,5,6,7,14,15,16])
 (.seq
 (.reg (oq 21 (.mv (.s 5))<|
 oq 22 (.mv (.s 6))<|
 oq 23 (.mv (.s 7))<|
 oq 24 (.bin .shl (.s 23) (.k (.int .u64 1)))<|
 oq 25 (.mv (.s 1))<|
 oq 26 (.bin .or (.s 24) (.s 25))<|
 oq 27 (.iad 1 (.s 21) (.s 22))<|
 oz (.store 1 (.s 27) (.s 26))<|
 .nil) [5,7,14,15,16])
 (.reg (oq 28 (.mv (.s 7))<|
 oq 29 (.bin .shr (.s 28) (.k (.int .u64 31)))<|
 oq 1 (.mv (.s 29))<|
 .nil) [1,5,14,15,16]))))
 (.reg (oq 30 (.bin .add (.s 16) (.k (.int .i64 1)))<|
 oq 16 (.mv (.s 30))<|
 .nil) [1,5,14,15,16])))))))
 (.seq
 (.reg (oq 31 (.mv (.s 5))<|
 oq 32 (.mv (.s 1))<|
 oq 33 (.lit 1 [.int .u32 0] [(0,1,(.s 32))])<|
 oq 34 (.app 1 4 (.s 31) (.s 33))<|
 oq 35 (.call f_nat_Norm [.s 34])<|
 oq 4 (.mv (.s 35))<|
 .nil) [4])
 .ret))))
def p_nat_up:PFn:=⟨[.tmp 4],q_nat_up⟩
def n_nat_up:Fn:=⟨2,[.tmp 4],false,false,erase q_nat_up⟩
def q_ref01_Shift:PC:=
 (.seq
 (.reg (oq 4 (.mv (.k (.sl .full 0 [])))<|
 .nil) [0,1])
 (.seq
 (.reg (oq 8 (.mv (.s 0))<|
 oq 9 (.len (.s 8))<|
 oq 10 (.mv (.s 1))<|
 oq 11 (.bin .quo (.s 10) (.k (.int .i64 32)))<|
 oq 12 (.bin .add (.s 9) (.s 11))<|
 oq 13 (.bin .add (.s 12) (.k (.int .i64 1)))<|
 oq 14 (.mks [.int .u32 0] 4 (.s 13) (.s 13))<|
 oq 5 (.mv (.s 14))<|
 .nil) [0,1,5])
 (.seq
 (.seq
 (.reg (oq 6 (.mv (.k (.int .i64 0)))<|
 .nil) [0,1,5,6])
 (.blk 0
 (.loop ⟨[(0,.same),(1,.same),(5,.same),(6,.v)],[(.arr .no 1)]⟩ [(.ext 0,⟨[(5,.same)],[(.arr .no 1)]⟩)]
 (.seq
 (.seq
 (.reg (oq 15 (.mv (.s 6))<|
 oq 16 (.mv (.s 0))<|
 oq 17 (.len (.s 16))<|
 oq 18 (.bin .lss (.s 15) (.s 17))<|
 .nil) [0,1,5,6,18])
 (.cond (.s 18)
 .skip
 (.exit 0)))
 (.seq
 (.blk 1
 (.seq
 (.reg (oq 21 (.mv (.s 0))<|
 oq 22 (.mv (.s 6))<|
 oq 23 (.iad 1 (.s 21) (.s 22))<|
 oq 24 (.load false 1 (.s 23))<|
 oq 25 (.cvi .u64 (.s 24))<|
 oq 26 (.mv (.s 1))<|
 oq 27 (.bin .rem (.s 26) (.k (.int .i64 32)))<|
 oq 28 (.cvi .u64 (.s 27))<|
 oq 29 (.bin .shl (.s 25) (.s 28))<|
 oq 7 (.mv (.s 29))<|
 .nil) [0,1,5,6,7])
 (.seq
 (.reg (oq 30 (.mv (.s 5))<|
 oq 31 (.mv (.s 6))<|
 oq 32 (.mv (.s 1))<|
 oq 33 (.bin .quo (.s 32) (.k (.int .i64 32)))<|
 oq 34 (.bin .add (.s 31) (.s 33))<|
 oq 35 (.mv (.s 5))<|
 oq 36 (.mv (.s 6))<|
 oq 37 (.mv (.s 1))<|
 oq 38 (.bin .quo (.s 37) (.k (.int .i64 32)))<|
 oq 39 (.bin .add (.s 36) (.s 38))<|
 oq 40 (.iad 1 (.s 35) (.s 39))<|
 oq 41 (.load false 1 (.s 40))<|
 oq 42 (.mv (.s 7))<|
 oq 43 (.cvi .u32 (.s 42))<|
 oq 44 (.bin .or (.s 41) (.s 43))<|
 oq 45 (.iad 1 (.s 30) (.s 34))<|
 oz (.store 1 (.s 45) (.s 44))<|
 .nil) [0,1,5,6,7])
 (.reg (oq 46 (.mv (.s 5))<|
 oq 47 (.mv (.s 6))<|
 oq 48 (.mv (.s 1))<|
 oq 49 (.bin .quo (.s 48) (.k (.int .i64 32)))<|
 oq 50 (.bin .add (.s 47) (.s 49))<|
 oq 51 (.bin .add (.s 50) (.k (.int .i64 1)))<|
 oq 52 (.mv (.s 5))<|
 oq 53 (.mv (.s 6))<|
 oq 54 (.mv (.s 1))<|
 oq 55 (.bin .quo (.s 54) (.k (.int .i64 32)))<|
 oq 56 (.bin .add (.s 53) (.s 55))<|
 oq 57 (.bin .add (.s 56) (.k (.int .i64 1)))<|
 oq 58 (.iad 1 (.s 52) (.s 57))<|
 oq 59 (.load false 1 (.s 58))<|
 oq 60 (.mv (.s 7))<|
 oq 61 (.bin .shr (.s 60) (.k (.int .u64 32)))<|
 oq 62 (.cvi .u32 (.s 61))<|
 oq 63 (.bin .or (.s 59) (.s 62))<|
 oq 64 (.iad 1 (.s 46) (.s 51))<|
 oz (.store 1 (.s 64) (.s 63))<|
 .nil) [0,1,5,6]))))
 (.reg (oq 19 (.mv (.s 6))<|
 oq 20 (.bin .add (.s 19) (.k (.int .i64 1)))<|
 oq 6 (.mv (.s 20))<|
 .nil) [0,1,5,6]))))))
 (.seq
 (.reg (oq 65 (.mv (.s 5))<|
 oq 66 (.call f_ref01_Norm [.s 65])<|
 oq 4 (.mv (.s 66))<|
 .nil) [4])
 .ret))))
def p_ref01_Shift:PFn:=⟨[.tmp 4],q_ref01_Shift⟩
def n_ref01_Shift:Fn:=⟨2,[.tmp 4],false,false,erase q_ref01_Shift⟩
def q_ref01_Small:PC:=
 (.seq
 (.reg (oq 4 (.mv (.k (.sl .full 0 [])))<|
 oq 5 (.mv (.k (.int .u32 0)))<|
 .nil) [0,1])
 (.seq
 (.reg (oq 9 (.mv (.s 0))<|
 oq 10 (.len (.s 9))<|
 oq 11 (.mks [.int .u32 0] 4 (.s 10) (.s 10))<|
 oq 6 (.mv (.s 11))<|
 .nil) [0,1,6])
 (.seq
 (.reg (oq 7 (.mv (.k (.int .u64 0)))<|
 .nil) [0,1,6,7])
 (.seq
 (.seq
 (.reg (oq 12 (.mv (.s 0))<|
 oq 13 (.len (.s 12))<|
 oq 14 (.bin .sub (.s 13) (.k (.int .i64 1)))<|
 oq 8 (.mv (.s 14))<|
 .nil) [0,1,6,7,8])
 (.blk 0
 (.loop ⟨[(0,.same),(1,.same),(6,.same),(7,.v),(8,.v)],[(.arr .no 1)]⟩ [(.ext 0,⟨[(6,.same),(7,.v)],[(.arr .no 1)]⟩)]
 (.seq
 (.seq
 (.reg (oq 15 (.mv (.s 8))<|
 oq 16 (.bin .geq (.s 15) (.k (.int .i64 0)))<|
 .nil) [0,1,6,7,8,16])
 (.cond (.s 16)
 .skip
 (.exit 0)))
 (.seq
 (.blk 1
 (.seq
 (.reg (oq 19 (.mv (.s 7))<|
 oq 20 (.bin .shl (.s 19) (.k (.int .u64 32)))<|
 oq 21 (.mv (.s 0))<|
 oq 22 (.mv (.s 8))<|
 oq 23 (.iad 1 (.s 21) (.s 22))<|
 oq 24 (.load false 1 (.s 23))<|
 oq 25 (.cvi .u64 (.s 24))<|
 oq 26 (.bin .add (.s 20) (.s 25))<|
 oq 7 (.mv (.s 26))<|
 .nil) [0,1,6,7,8])
 (.seq
 (.reg (oq 27 (.mv (.s 6))<|
 oq 28 (.mv (.s 8))<|
 oq 29 (.mv (.s 7))<|
 oq 30 (.mv (.s 1))<|
 oq 31 (.cvi .u64 (.s 30))<|
 oq 32 (.bin .quo (.s 29) (.s 31))<|
 oq 33 (.cvi .u32 (.s 32))<|
 oq 34 (.iad 1 (.s 27) (.s 28))<|
 oz (.store 1 (.s 34) (.s 33))<|
 .nil) [0,1,6,7,8])
 (.reg (oq 35 (.mv (.s 7))<|
 oq 36 (.mv (.s 1))<|
 oq 37 (.cvi .u64 (.s 36))<|
 oq 38 (.bin .rem (.s 35) (.s 37))<|
 oq 7 (.mv (.s 38))<|
 .nil) [0,1,6,7,8]))))
 (.reg (oq 17 (.mv (.s 8))<|
 oq 18 (.bin .sub (.s 17) (.k (.int .i64 1)))<|
 oq 8 (.mv (.s 18))<|
 .nil) [0,1,6,7,8]))))))
 (.seq
 (.reg (oq 39 (.mv (.s 6))<|
 oq 40 (.call f_ref01_Norm [.s 39])<|
 oq 41 (.mv (.s 7))<|
 oq 42 (.cvi .u32 (.s 41))<|
 oq 4 (.mv (.s 40))<|
 oq 5 (.mv (.s 42))<|
 .nil) [4,5])
 .ret)))))
def p_ref01_Small:PFn:=⟨[.tmp 4,.tmp 5],q_ref01_Small⟩
def n_ref01_Small:Fn:=⟨2,[.tmp 4,.tmp 5],false,false,erase q_ref01_Small⟩
def q_ref01_limb:PC:=
 (.seq
 (.reg (oq 4 (.mv (.k (.int .u64 0)))<|
 .nil) [0,1])
 (.seq
 (.seq
 (.reg (oq 5 (.mv (.s 1))<|
 oq 6 (.mv (.s 0))<|
 oq 7 (.len (.s 6))<|
 oq 8 (.bin .lss (.s 5) (.s 7))<|
 .nil) [0,1,8])
 (.cond (.s 8)
 (.seq
 (.reg (oq 9 (.mv (.s 0))<|
 oq 10 (.mv (.s 1))<|
 oq 11 (.iad 1 (.s 9) (.s 10))<|
 oq 12 (.load false 1 (.s 11))<|
 oq 13 (.cvi .u64 (.s 12))<|
 oq 4 (.mv (.s 13))<|
 .nil) [4])
 .ret)
 .skip))
 (.seq
 (.reg (oq 4 (.mv (.k (.int .u64 0)))<|
 .nil) [4])
 .ret)))
def p_ref01_limb:PFn:=⟨[.tmp 4],q_ref01_limb⟩
def n_ref01_limb:Fn:=⟨2,[.tmp 4],false,false,erase q_ref01_limb⟩
def q_cmp_isNaN_uint64:PC:=
 (.seq
 (.reg (oq 2 (.mv (.k (.bool false)))<|
 .nil) [0])
 (.seq
 (.reg (oq 3 (.mv (.s 0))<|
 oq 4 (.mv (.s 0))<|
 oq 5 (.bin .neq (.s 3) (.s 4))<|
 oq 2 (.mv (.s 5))<|
 .nil) [2])
 .ret))
def p_cmp_isNaN_uint64:PFn:=⟨[.tmp 2],q_cmp_isNaN_uint64⟩
def n_cmp_isNaN_uint64:Fn:=⟨1,[.tmp 2],false,false,erase q_cmp_isNaN_uint64⟩
def q_strings_trimLeftByte:PC:=
 (.seq
 (.reg (oq 4 (.mv (.k (.str [])))<|
 .nil) [0,1])
 (.seq
 (.blk 0
 (.loop ⟨[(0,.v),(1,.same)],[]⟩ [(.ext 0,⟨[(0,.v)],[]⟩)]
 (.seq
 (.seq
 (.reg (oq 5 (.mv (.s 0))<|
 oq 6 (.lns (.s 5))<|
 oq 7 (.bin .gtr (.s 6) (.k (.int .i64 0)))<|
 oq 8 (.mv (.s 7))<|
 .grp 8 true (oq 9 (.mv (.s 0))<|
 oq 10 (.ixs (.s 9) (.k (.int .i64 0)))<|
 oq 11 (.mv (.s 1))<|
 oq 12 (.bin .eql (.s 10) (.s 11))<|
 .nil) 13 (.s 12) (.k (.bool false))<|
 .nil) [0,1,13])
 (.cond (.s 13)
 .skip
 (.exit 0)))
 (.blk 1
 (.reg (oq 14 (.mv (.s 0))<|
 oq 15 (.sls (.s 14) (some (.k (.int .i64 1))) none)<|
 oq 0 (.mv (.s 15))<|
 .nil) [0,1])))))
 (.seq
 (.reg (oq 16 (.mv (.s 0))<|
 oq 4 (.mv (.s 16))<|
 .nil) [4])
 .ret)))
def p_strings_trimLeftByte:PFn:=⟨[.tmp 4],q_strings_trimLeftByte⟩
def n_strings_trimLeftByte:Fn:=⟨2,[.tmp 4],false,false,erase q_strings_trimLeftByte⟩
def q_strings_makeASCIISet:PC:=
 (.seq
 (.reg (oq 2 (.alloc [.bool false,.bool false,.bool false,.bool false,.bool false,.bool false,.bool false,.bool false,.bool false,.bool false,.bool false,.bool false,.bool false,.bool false,.bool false,.bool false,.bool false,.bool false,.bool false,.bool false,.bool false,.bool false,.bool false,.bool false,.bool false,.bool false,.bool false,.bool false,.bool false,.bool false,.bool false,.bool false,.bool false,.bool false,.bool false,.bool false,.bool false,.bool false,.bool false,.bool false,.bool false,.bool false,.bool false,.bool false,.bool false,.bool false,.bool false,.bool false,.bool false,.bool false,.bool false,.bool false,.bool false,.bool false,.bool false,.bool false,.bool false,.bool false,.bool false,.bool false,.bool false,.bool false,.bool false,.bool false,.bool false,.bool false,.bool false,.bool false,.bool false,.bool false,.bool false,.bool false,.bool false,.bool false,.bool false,.bool false,.bool false,.bool false,.bool false,.bool false,.bool false,.bool false,.bool false,.bool false,.bool false,.bool false,.bool false,.bool false,.bool false,.bool false,.bool false,.bool false,.bool false,.bool false,.bool false,.bool false,.bool false,.bool false,.bool false,.bool false,.bool false,.bool false,.bool false,.bool false,.bool false,.bool false,.bool false,.bool false,.bool false,.bool false,.bool false,.bool false,.bool false,.bool false,.bool false,.bool false,.bool false,.bool false,.bool false,.bool false,.bool false,.bool false,.bool false,.bool false,.bool false,.bool false,.bool false,.bool false,.bool false,.bool false,.bool false,.bool false,.bool false,.bool false,.bool false,.bool false,.bool false,.bool false,.bool false,.bool false,.bool false,.bool false,.bool false,.bool false,.bool false,.bool false,.bool false,.bool false,.bool false,.bool false,.bool false,.bool false,.bool false,.bool false,.bool false,.bool false,.bool false,.bool false,.bool false,.bool false,.bool false,.bool false,.bool false,.bool false,.bool false,.bool false,.bool false,.bool false,.bool false,.bool false,.bool false,.bool false,.bool false,.bool false,.bool false,.bool false,.bool false,.bool false,.bool false,.bool false,.bool false,.bool false,.bool false,.bool false,.bool false,.bool false,.bool false,.bool false,.bool false,.bool false,.bool false,.bool false,.bool false,.bool false,.bool false,.bool false,.bool false,.bool false,.bool false,.bool false,.bool false,.bool false,.bool false,.bool false,.bool false,.bool false,.bool false,.bool false,.bool false,.bool false,.bool false,.bool false,.bool false,.bool false,.bool false,.bool false,.bool false,.bool false,.bool false,.bool false,.bool false,.bool false,.bool false,.bool false,.bool false,.bool false,.bool false,.bool false,.bool false,.bool false,.bool false,.bool false,.bool false,.bool false,.bool false,.bool false,.bool false,.bool false,.bool false,.bool false,.bool false,.bool false,.bool false,.bool false,.bool false,.bool false,.bool false,.bool false,.bool false,.bool false,.bool false,.bool false,.bool false,.bool false,.bool false,.bool false])<|
 oq 3 (.mv (.k (.bool false)))<|
 .nil) [0,2])
 (.seq
 (.seq
 (.reg (oq 4 (.mv (.k (.int .i64 0)))<|
 .nil) [0,2,4])
 (.blk 0
 (.loop ⟨[(0,.same),(2,.same),(4,.v)],[(.box 256)]⟩ [(.ext 0,⟨[(2,.same)],[(.box 256)]⟩),(.ret,⟨[(2,.same),(3,.v)],[(.box 256)]⟩)]
 (.seq
 (.seq
 (.reg (oq 6 (.mv (.s 4))<|
 oq 7 (.mv (.s 0))<|
 oq 8 (.lns (.s 7))<|
 oq 9 (.bin .lss (.s 6) (.s 8))<|
 .nil) [0,2,4,9])
 (.cond (.s 9)
 .skip
 (.exit 0)))
 (.seq
 (.blk 1
 (.seq
 (.reg (oq 12 (.mv (.s 0))<|
 oq 13 (.mv (.s 4))<|
 oq 14 (.ixs (.s 12) (.s 13))<|
 oq 5 (.mv (.s 14))<|
 .nil) [0,2,4,5])
 (.seq
 (.seq
 (.reg (oq 15 (.mv (.s 5))<|
 oq 16 (.bin .geq (.s 15) (.k (.int .u8 128)))<|
 .nil) [0,2,4,5,16])
 (.cond (.s 16)
 (.seq
 (.reg (oq 17 (.load true 256 (.s 2))<|
 oz (.store 256 (.s 2) (.s 17))<|
 oq 3 (.mv (.k (.bool false)))<|
 .nil) [2,3])
 .ret)
 .skip))
 (.reg (oq 18 (.mv (.s 5))<|
 oq 19 (.iaa 256 1 (.s 2) (.s 18))<|
 oz (.store 1 (.s 19) (.k (.bool true)))<|
 .nil) [0,2,4]))))
 (.reg (oq 10 (.mv (.s 4))<|
 oq 11 (.bin .add (.s 10) (.k (.int .i64 1)))<|
 oq 4 (.mv (.s 11))<|
 .nil) [0,2,4]))))))
 (.seq
 (.reg (oq 20 (.load true 256 (.s 2))<|
 oz (.store 256 (.s 2) (.s 20))<|
 oq 3 (.mv (.k (.bool true)))<|
 .nil) [2,3])
 .ret)))
def p_strings_makeASCIISet:PFn:=⟨[.cell 2 true 256,.tmp 3],q_strings_makeASCIISet⟩
def n_strings_makeASCIISet:Fn:=⟨1,[.cell 2 true 256,.tmp 3],false,false,erase q_strings_makeASCIISet⟩
def q_strings_trimLeftASCII:PC:=
 (.seq
 (.reg (oq 4 (.mv (.k (.str [])))<|
 .nil) [0,1])
 (.seq
 (.blk 0
 (.loop ⟨[(0,.v),(1,.same)],[(.box 256)]⟩ [(.ext 0,⟨[(0,.v)],[(.box 256)]⟩)]
 (.seq
 (.seq
 (.reg (oq 5 (.mv (.s 0))<|
 oq 6 (.lns (.s 5))<|
 oq 7 (.bin .gtr (.s 6) (.k (.int .i64 0)))<|
 .nil) [0,1,7])
 (.cond (.s 7)
 .skip
 (.exit 0)))
 (.blk 1
 (.seq
 (.seq
 (.reg (oq 8 (.mv (.s 1))<|
 oq 9 (.mv (.s 0))<|
 oq 10 (.ixs (.s 9) (.k (.int .i64 0)))<|
 oq 11 (.call f_strings_asciiSet_contains [.s 8,.s 10])<|
 oq 12 (.un .not (.s 11))<|
 .nil) [0,1,12])
 (.cond (.s 12)
 (.exit 0)
 .skip))
 (.reg (oq 13 (.mv (.s 0))<|
 oq 14 (.sls (.s 13) (some (.k (.int .i64 1))) none)<|
 oq 0 (.mv (.s 14))<|
 .nil) [0,1]))))))
 (.seq
 (.reg (oq 15 (.mv (.s 0))<|
 oq 4 (.mv (.s 15))<|
 .nil) [4])
 .ret)))
def p_strings_trimLeftASCII:PFn:=⟨[.tmp 4],q_strings_trimLeftASCII⟩
def n_strings_trimLeftASCII:Fn:=⟨2,[.tmp 4],false,false,erase q_strings_trimLeftASCII⟩
def q_strings_trimLeftUnicode:PC:=
 (.seq
 (.reg (oq 4 (.mv (.k (.str [])))<|
 .nil) [0,1])
 (.seq
 (.blk 0
 (.loop ⟨[(0,.v),(1,.same)],[]⟩ [(.ext 0,⟨[(0,.v)],[]⟩)]
 (.seq
 (.seq
 (.reg (oq 7 (.mv (.s 0))<|
 oq 8 (.lns (.s 7))<|
 oq 9 (.bin .gtr (.s 8) (.k (.int .i64 0)))<|
 .nil) [0,1,9])
 (.cond (.s 9)
 .skip
 (.exit 0)))
 (.blk 1
 (.seq
 (.reg (oq 11 (.mv (.s 0))<|
 oq 12 (.call f_u8_DecodeRuneInString [.s 11])<|
 oq 10 (.mv (.s 12))<|
 oq 13 (.ext (.s 10) 0)<|
 oq 14 (.ext (.s 10) 1)<|
 oq 5 (.mv (.s 13))<|
 oq 6 (.mv (.s 14))<|
 .nil) [0,1,5,6])
 (.seq
 (.seq
 (.reg (oq 15 (.mv (.s 1))<|
 oq 16 (.mv (.s 5))<|
 oq 17 (.call f_strings_ContainsRune [.s 15,.s 16])<|
 oq 18 (.un .not (.s 17))<|
 .nil) [0,1,6,18])
 (.cond (.s 18)
 (.exit 0)
 .skip))
 (.reg (oq 19 (.mv (.s 0))<|
 oq 20 (.mv (.s 6))<|
 oq 21 (.sls (.s 19) (some (.s 20)) none)<|
 oq 0 (.mv (.s 21))<|
 .nil) [0,1])))))))
 (.seq
 (.reg (oq 22 (.mv (.s 0))<|
 oq 4 (.mv (.s 22))<|
 .nil) [4])
 .ret)))
def p_strings_trimLeftUnicode:PFn:=⟨[.tmp 4],q_strings_trimLeftUnicode⟩
def n_strings_trimLeftUnicode:Fn:=⟨2,[.tmp 4],false,false,erase q_strings_trimLeftUnicode⟩
def q_strings_asciiSet_contains:PC:=
 (.seq
 (.reg (oq 4 (.mv (.k (.bool false)))<|
 .nil) [0,1])
 (.seq
 (.reg (oq 5 (.mv (.s 0))<|
 oq 6 (.mv (.s 1))<|
 oq 7 (.chk (.s 5))<|
 oq 8 (.iaa 256 1 (.s 7) (.s 6))<|
 oq 9 (.load false 1 (.s 8))<|
 oq 4 (.mv (.s 9))<|
 .nil) [4])
 .ret))
def p_strings_asciiSet_contains:PFn:=⟨[.tmp 4],q_strings_asciiSet_contains⟩
def n_strings_asciiSet_contains:Fn:=⟨2,[.tmp 4],false,false,erase q_strings_asciiSet_contains⟩
def q_u8_DecodeRuneInString:PC:=
 (.seq
 (.reg (oq 2 (.mv (.k (.int .i32 0)))<|
 oq 3 (.mv (.k (.int .i64 0)))<|
 .nil) [0])
 (.seq
 (.seq
 (.reg (oq 4 (.mv (.s 0))<|
 oq 5 (.bin .neq (.s 4) (.k (.str [])))<|
 oq 6 (.mv (.s 5))<|
 .grp 6 true (oq 7 (.mv (.s 0))<|
 oq 8 (.ixs (.s 7) (.k (.int .i64 0)))<|
 oq 9 (.bin .lss (.s 8) (.k (.int .u8 128)))<|
 .nil) 10 (.s 9) (.k (.bool false))<|
 .nil) [0,10])
 (.cond (.s 10)
 (.seq
 (.reg (oq 11 (.mv (.s 0))<|
 oq 12 (.ixs (.s 11) (.k (.int .i64 0)))<|
 oq 13 (.cvi .i32 (.s 12))<|
 oq 2 (.mv (.s 13))<|
 oq 3 (.mv (.k (.int .i64 1)))<|
 .nil) [2,3])
 .ret)
 (.reg (oq 15 (.mv (.s 0))<|
 oq 16 (.call f_u8_decodeRuneInStringSlow [.s 15])<|
 oq 14 (.mv (.s 16))<|
 oq 17 (.ext (.s 14) 0)<|
 oq 18 (.ext (.s 14) 1)<|
 oq 2 (.mv (.s 17))<|
 oq 3 (.mv (.s 18))<|
 .nil) [2,3])))
 .ret))
def p_u8_DecodeRuneInString:PFn:=⟨[.tmp 2,.tmp 3],q_u8_DecodeRuneInString⟩
def n_u8_DecodeRuneInString:Fn:=⟨1,[.tmp 2,.tmp 3],false,false,erase q_u8_DecodeRuneInString⟩
def q_strings_ContainsRune:PC:=
 (.seq
 (.reg (oq 4 (.mv (.k (.bool false)))<|
 .nil) [0,1])
 (.seq
 (.reg (oq 5 (.mv (.s 0))<|
 oq 6 (.mv (.s 1))<|
 oq 7 (.call f_strings_IndexRune [.s 5,.s 6])<|
 oq 8 (.bin .geq (.s 7) (.k (.int .i64 0)))<|
 oq 4 (.mv (.s 8))<|
 .nil) [4])
 .ret))
def p_strings_ContainsRune:PFn:=⟨[.tmp 4],q_strings_ContainsRune⟩
def n_strings_ContainsRune:Fn:=⟨2,[.tmp 4],false,false,erase q_strings_ContainsRune⟩
def q_u8_decodeRuneInStringSlow:PC:=
 (.seq
 (.reg (oq 2 (.mv (.k (.int .i32 0)))<|
 oq 3 (.mv (.k (.int .i64 0)))<|
 .nil) [0])
 (.seq
 (.reg (oq 13 (.mv (.s 0))<|
 oq 14 (.lns (.s 13))<|
 oq 4 (.mv (.s 14))<|
 .nil) [0,4])
 (.seq
 (.seq
 (.reg (oq 15 (.mv (.s 4))<|
 oq 16 (.bin .lss (.s 15) (.k (.int .i64 1)))<|
 .nil) [0,4,16])
 (.cond (.s 16)
 (.seq
 (.reg (oq 2 (.mv (.k (.int .i32 65533)))<|
 oq 3 (.mv (.k (.int .i64 0)))<|
 .nil) [2,3])
 .ret)
 .skip))
 (.seq
 (.reg (oq 17 (.mv (.s 0))<|
 oq 18 (.ixs (.s 17) (.k (.int .i64 0)))<|
 oq 5 (.mv (.s 18))<|
 .nil) [0,4,5])
 (.seq
 (.reg (oq 19 (.mv (.s 5))<|
 oq 20 (.iaa 256 1 (.g 0) (.s 19))<|
 oq 21 (.load false 1 (.s 20))<|
 oq 6 (.mv (.s 21))<|
 .nil) [0,4,5,6])
 (.seq
 (.seq
 (.reg (oq 22 (.mv (.s 6))<|
 oq 23 (.bin .geq (.s 22) (.k (.int .u8 240)))<|
 .nil) [0,4,5,6,23])
 (.cond (.s 23)
 (.seq
 (.reg (oq 24 (.mv (.s 6))<|
 oq 25 (.cvi .i32 (.s 24))<|
 oq 26 (.bin .shl (.s 25) (.k (.int .u64 31)))<|
 oq 27 (.bin .shr (.s 26) (.k (.int .u64 31)))<|
 oq 7 (.mv (.s 27))<|
 .nil) [0,7])
 (.seq
 (.reg (oq 28 (.mv (.s 0))<|
 oq 29 (.ixs (.s 28) (.k (.int .i64 0)))<|
 oq 30 (.cvi .i32 (.s 29))<|
 oq 31 (.mv (.s 7))<|
 oq 32 (.bin .andNot (.s 30) (.s 31))<|
 oq 33 (.mv (.s 7))<|
 oq 34 (.bin .and (.k (.int .i32 65533)) (.s 33))<|
 oq 35 (.bin .or (.s 32) (.s 34))<|
 oq 2 (.mv (.s 35))<|
 oq 3 (.mv (.k (.int .i64 1)))<|
 .nil) [2,3])
 .ret))
 .skip))
 (.seq
 (.reg (oq 36 (.mv (.s 6))<|
 oq 37 (.bin .and (.s 36) (.k (.int .u8 7)))<|
 oq 38 (.cvi .i64 (.s 37))<|
 oq 8 (.mv (.s 38))<|
 .nil) [0,4,5,6,8])
 (.seq
 (.reg (oq 39 (.mv (.s 6))<|
 oq 40 (.bin .shr (.s 39) (.k (.int .u64 4)))<|
 oq 41 (.iaa 16 2 (.g 1) (.s 40))<|
 oq 42 (.load true 2 (.s 41))<|
 oq 9 (.alloc [.int .u8 0,.int .u8 0])<|
 oz (.store 2 (.s 9) (.s 42))<|
 .nil) [0,4,5,8,9])
 (.seq
 (.seq
 (.reg (oq 43 (.mv (.s 4))<|
 oq 44 (.mv (.s 8))<|
 oq 45 (.bin .lss (.s 43) (.s 44))<|
 .nil) [0,5,8,9,45])
 (.cond (.s 45)
 (.seq
 (.reg (oq 2 (.mv (.k (.int .i32 65533)))<|
 oq 3 (.mv (.k (.int .i64 1)))<|
 .nil) [2,3])
 .ret)
 .skip))
 (.seq
 (.reg (oq 46 (.mv (.s 0))<|
 oq 47 (.ixs (.s 46) (.k (.int .i64 1)))<|
 oq 10 (.mv (.s 47))<|
 .nil) [0,5,8,9,10])
 (.seq
 (.seq
 (.reg (oq 48 (.mv (.s 10))<|
 oq 49 (.fad 0 (.s 9))<|
 oq 50 (.load false 1 (.s 49))<|
 oq 51 (.bin .lss (.s 48) (.s 50))<|
 oq 52 (.mv (.s 51))<|
 .grp 52 false (oq 53 (.fad 1 (.s 9))<|
 oq 54 (.load false 1 (.s 53))<|
 oq 55 (.mv (.s 10))<|
 oq 56 (.bin .lss (.s 54) (.s 55))<|
 .nil) 57 (.s 56) (.k (.bool true))<|
 .nil) [0,5,8,10,57])
 (.cond (.s 57)
 (.seq
 (.reg (oq 2 (.mv (.k (.int .i32 65533)))<|
 oq 3 (.mv (.k (.int .i64 1)))<|
 .nil) [2,3])
 .ret)
 .skip))
 (.seq
 (.seq
 (.reg (oq 58 (.mv (.s 8))<|
 oq 59 (.bin .leq (.s 58) (.k (.int .i64 2)))<|
 .nil) [0,5,8,10,59])
 (.cond (.s 59)
 (.seq
 (.reg (oq 60 (.mv (.s 5))<|
 oq 61 (.bin .and (.s 60) (.k (.int .u8 31)))<|
 oq 62 (.cvi .i32 (.s 61))<|
 oq 63 (.bin .shl (.s 62) (.k (.int .u64 6)))<|
 oq 64 (.mv (.s 10))<|
 oq 65 (.bin .and (.s 64) (.k (.int .u8 63)))<|
 oq 66 (.cvi .i32 (.s 65))<|
 oq 67 (.bin .or (.s 63) (.s 66))<|
 oq 2 (.mv (.s 67))<|
 oq 3 (.mv (.k (.int .i64 2)))<|
 .nil) [2,3])
 .ret)
 .skip))
 (.seq
 (.reg (oq 68 (.mv (.s 0))<|
 oq 69 (.ixs (.s 68) (.k (.int .i64 2)))<|
 oq 11 (.mv (.s 69))<|
 .nil) [0,5,8,10,11])
 (.seq
 (.seq
 (.reg (oq 70 (.mv (.s 11))<|
 oq 71 (.bin .lss (.s 70) (.k (.int .u8 128)))<|
 oq 72 (.mv (.s 71))<|
 .grp 72 false (oq 73 (.mv (.s 11))<|
 oq 74 (.bin .lss (.k (.int .u8 191)) (.s 73))<|
 .nil) 75 (.s 74) (.k (.bool true))<|
 .nil) [0,5,8,10,11,75])
 (.cond (.s 75)
 (.seq
 (.reg (oq 2 (.mv (.k (.int .i32 65533)))<|
 oq 3 (.mv (.k (.int .i64 1)))<|
 .nil) [2,3])
 .ret)
 .skip))
 (.seq
 (.seq
 (.reg (oq 76 (.mv (.s 8))<|
 oq 77 (.bin .leq (.s 76) (.k (.int .i64 3)))<|
 .nil) [0,5,10,11,77])
 (.cond (.s 77)
 (.seq
 (.reg (oq 78 (.mv (.s 5))<|
 oq 79 (.bin .and (.s 78) (.k (.int .u8 15)))<|
 oq 80 (.cvi .i32 (.s 79))<|
 oq 81 (.bin .shl (.s 80) (.k (.int .u64 12)))<|
 oq 82 (.mv (.s 10))<|
 oq 83 (.bin .and (.s 82) (.k (.int .u8 63)))<|
 oq 84 (.cvi .i32 (.s 83))<|
 oq 85 (.bin .shl (.s 84) (.k (.int .u64 6)))<|
 oq 86 (.bin .or (.s 81) (.s 85))<|
 oq 87 (.mv (.s 11))<|
 oq 88 (.bin .and (.s 87) (.k (.int .u8 63)))<|
 oq 89 (.cvi .i32 (.s 88))<|
 oq 90 (.bin .or (.s 86) (.s 89))<|
 oq 2 (.mv (.s 90))<|
 oq 3 (.mv (.k (.int .i64 3)))<|
 .nil) [2,3])
 .ret)
 .skip))
 (.seq
 (.reg (oq 91 (.mv (.s 0))<|
 oq 92 (.ixs (.s 91) (.k (.int .i64 3)))<|
 oq 12 (.mv (.s 92))<|
 .nil) [5,10,11,12])
 (.seq
 (.seq
 (.reg (oq 93 (.mv (.s 12))<|
 oq 94 (.bin .lss (.s 93) (.k (.int .u8 128)))<|
 oq 95 (.mv (.s 94))<|
 .grp 95 false (oq 96 (.mv (.s 12))<|
 oq 97 (.bin .lss (.k (.int .u8 191)) (.s 96))<|
 .nil) 98 (.s 97) (.k (.bool true))<|
 .nil) [5,10,11,12,98])
 (.cond (.s 98)
 (.seq
 (.reg (oq 2 (.mv (.k (.int .i32 65533)))<|
 oq 3 (.mv (.k (.int .i64 1)))<|
 .nil) [2,3])
 .ret)
 .skip))
 (.seq
 (.reg (oq 99 (.mv (.s 5))<|
 oq 100 (.bin .and (.s 99) (.k (.int .u8 7)))<|
 oq 101 (.cvi .i32 (.s 100))<|
 oq 102 (.bin .shl (.s 101) (.k (.int .u64 18)))<|
 oq 103 (.mv (.s 10))<|
 oq 104 (.bin .and (.s 103) (.k (.int .u8 63)))<|
 oq 105 (.cvi .i32 (.s 104))<|
 oq 106 (.bin .shl (.s 105) (.k (.int .u64 12)))<|
 oq 107 (.bin .or (.s 102) (.s 106))<|
 oq 108 (.mv (.s 11))<|
 oq 109 (.bin .and (.s 108) (.k (.int .u8 63)))<|
 oq 110 (.cvi .i32 (.s 109))<|
 oq 111 (.bin .shl (.s 110) (.k (.int .u64 6)))<|
 oq 112 (.bin .or (.s 107) (.s 111))<|
 oq 113 (.mv (.s 12))<|
 oq 114 (.bin .and (.s 113) (.k (.int .u8 63)))<|
 oq 115 (.cvi .i32 (.s 114))<|
 oq 116 (.bin .or (.s 112) (.s 115))<|
 oq 2 (.mv (.s 116))<|
 oq 3 (.mv (.k (.int .i64 4)))<|
 .nil) [2,3])
 .ret))))))))))))))))))
def p_u8_decodeRuneInStringSlow:PFn:=⟨[.tmp 2,.tmp 3],q_u8_decodeRuneInStringSlow⟩
def n_u8_decodeRuneInStringSlow:Fn:=⟨1,[.tmp 2,.tmp 3],false,false,erase q_u8_decodeRuneInStringSlow⟩
def tab0:Nat→Option PFn:=fun f=>(match f with | 8=>some p_law01_NatAll | 9=>some p_law01_few | 10=>some p_law01_awake | 11=>some p_nat_Cmp | 12=>some p_law00_Limbs | 14=>some p_nat_Add | 15=>some p_law00_SameLimbs | 16=>some p_nat_Norm | 17=>some p_nat_Bits | 18=>some p_nat_Digits | 19=>some p_nat_Sub | 20=>some p_nat_Mul | 21=>some p_nat_Pow | 22=>some p_nat_Parse | 23=>some p_nat_Trim | 24=>some p_nat_Div | 25=>some p_ref01_Div | 26=>some p_ref01_Trim | 27=>some p_ref01_Parse | 28=>some p_ref01_Cmp | 29=>some p_ref01_Bits | 30=>some p_ref01_Pow | 31=>some p_ref01_Norm | 32=>some p_ref01_Add | 33=>some p_ref01_Sub | 34=>some p_ref01_Mul | 35=>some p_ref01_Digits | 36=>some p_cmp_Compare_uint64 | 37=>some p_nat_at | 38=>some p_math_bits_Len32 | 39=>some p_nat_small | 41=>some p_strings_TrimLeft | 43=>some p_nat_up | 44=>some p_ref01_Shift | 45=>some p_ref01_Small | 46=>some p_ref01_limb | 47=>some p_cmp_isNaN_uint64 | 49=>some p_strings_trimLeftByte | 50=>some p_strings_makeASCIISet | 51=>some p_strings_trimLeftASCII | 52=>some p_strings_trimLeftUnicode | 54=>some p_strings_asciiSet_contains | 55=>some p_u8_DecodeRuneInString | 56=>some p_strings_ContainsRune | 57=>some p_u8_decodeRuneInStringSlow | _=>none)
def fnTab:List (Nat×Fn):=[(f_law01_NatAll,n_law01_NatAll),(f_law01_few,n_law01_few),(f_law01_awake,n_law01_awake),(f_nat_Cmp,n_nat_Cmp),(f_law00_Limbs,n_law00_Limbs),(f_nat_Add,n_nat_Add),(f_law00_SameLimbs,n_law00_SameLimbs),(f_nat_Norm,n_nat_Norm),(f_nat_Bits,n_nat_Bits),(f_nat_Digits,n_nat_Digits),(f_nat_Sub,n_nat_Sub),(f_nat_Mul,n_nat_Mul),(f_nat_Pow,n_nat_Pow),(f_nat_Parse,n_nat_Parse),(f_nat_Trim,n_nat_Trim),(f_nat_Div,n_nat_Div),(f_ref01_Div,n_ref01_Div),(f_ref01_Trim,n_ref01_Trim),(f_ref01_Parse,n_ref01_Parse),(f_ref01_Cmp,n_ref01_Cmp),(f_ref01_Bits,n_ref01_Bits),(f_ref01_Pow,n_ref01_Pow),(f_ref01_Norm,n_ref01_Norm),(f_ref01_Add,n_ref01_Add),(f_ref01_Sub,n_ref01_Sub),(f_ref01_Mul,n_ref01_Mul),(f_ref01_Digits,n_ref01_Digits),(f_cmp_Compare_uint64,n_cmp_Compare_uint64),(f_nat_at,n_nat_at),(f_math_bits_Len32,n_math_bits_Len32),(f_nat_small,n_nat_small),(f_strings_TrimLeft,n_strings_TrimLeft),(f_nat_up,n_nat_up),(f_ref01_Shift,n_ref01_Shift),(f_ref01_Small,n_ref01_Small),(f_ref01_limb,n_ref01_limb),(f_cmp_isNaN_uint64,n_cmp_isNaN_uint64),(f_strings_trimLeftByte,n_strings_trimLeftByte),(f_strings_makeASCIISet,n_strings_makeASCIISet),(f_strings_trimLeftASCII,n_strings_trimLeftASCII),(f_strings_trimLeftUnicode,n_strings_trimLeftUnicode),(f_strings_asciiSet_contains,n_strings_asciiSet_contains),(f_u8_DecodeRuneInString,n_u8_DecodeRuneInString),(f_strings_ContainsRune,n_strings_ContainsRune),(f_u8_decodeRuneInStringSlow,n_u8_decodeRuneInStringSlow)]
def ex0:Nat→Option Told:=fun f=>(match f with | 40=>some (.eff (.ws 56 5)) | 42=>some (.eff (.bs 56 5)) | _=>none)
def glT:Nat→Option (List V):=fun g=>match g with | 0=>some G_0 | 1=>some G_1 | _=>none
def E0:Env:=⟨look fnTab,fun g=>(glT g).map toDL,ex0⟩
def md0:Nat→Md:=fun f=>(match f with | 12 => .gv 1 | 40 => .eff (.ws 56 5) | 42 => .eff (.bs 56 5) | _ => .pl)
def tx0:Nat→Option (List V→Option V):=fun _=>none
def gl0:Gl:=⟨glT,md0,tx0⟩
noncomputable def P0:PcT:=pcL gl0 tab0
end Go.Ev
