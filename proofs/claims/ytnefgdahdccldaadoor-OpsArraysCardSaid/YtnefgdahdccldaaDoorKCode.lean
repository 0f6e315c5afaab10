/- The functions' code. -/
import Derived.Test.YtnefgdahdccldaaDoorKEvE
import Derived.Test.YtnefgdahdccldaaDoorKNums
set_option linter.all false
namespace Go.Ev
@[reducible] def oq(i:Nat)(o:O)(r:PO):PO := .one ⟨some i,o,none⟩ r
@[reducible] def oz(o:O)(r:PO):PO := .one ⟨none,o,none⟩ r
@[reducible] def zt8:List D:=[.int .i64 0,.bool false,.bool false,.sl .full 0 [],.int .i64 0,.str [],.sl .full 0 [],.sl .full 0 []]
@[reducible] def kf:X := .k (.bool false)
@[reducible] def kt:X := .k (.bool true)
@[reducible] def ki(i:Int):X := .k (.int .i64 i)
@[reducible] def om(i j:Nat)(r:PO):PO := .one ⟨some i,.mv (.s j),none⟩ r
@[reducible] def ol(i j:Nat)(r:PO):PO := .one ⟨some i,.load false 1 (.s j),none⟩ r
@[reducible] def nm(i j:Nat):OpC:=⟨some i,.mv (.s j),none⟩
@[reducible] def nq(i:Nat)(o:O):OpC:=⟨some i,o,none⟩
def G_0:List V:=[.int .u8 240,.int .u8 240,.int .u8 240,.int .u8 240,.int .u8 240,.int .u8 240,.int .u8 240,.int .u8 240,.int .u8 240,.int .u8 240,.int .u8 240,.int .u8 240,.int .u8 240,.int .u8 240,.int .u8 240,.int .u8 240,.int .u8 240,.int .u8 240,.int .u8 240,.int .u8 240,.int .u8 240,.int .u8 240,.int .u8 240,.int .u8 240,.int .u8 240,.int .u8 240,.int .u8 240,.int .u8 240,.int .u8 240,.int .u8 240,.int .u8 240,.int .u8 240,.int .u8 240,.int .u8 240,.int .u8 240,.int .u8 240,.int .u8 240,.int .u8 240,.int .u8 240,.int .u8 240,.int .u8 240,.int .u8 240,.int .u8 240,.int .u8 240,.int .u8 240,.int .u8 240,.int .u8 240,.int .u8 240,.int .u8 240,.int .u8 240,.int .u8 240,.int .u8 240,.int .u8 240,.int .u8 240,.int .u8 240,.int .u8 240,.int .u8 240,.int .u8 240,.int .u8 240,.int .u8 240,.int .u8 240,.int .u8 240,.int .u8 240,.int .u8 240,.int .u8 240,.int .u8 240,.int .u8 240,.int .u8 240,.int .u8 240,.int .u8 240,.int .u8 240,.int .u8 240,.int .u8 240,.int .u8 240,.int .u8 240,.int .u8 240,.int .u8 240,.int .u8 240,.int .u8 240,.int .u8 240,.int .u8 240,.int .u8 240,.int .u8 240,.int .u8 240,.int .u8 240,.int .u8 240,.int .u8 240,.int .u8 240,.int .u8 240,.int .u8 240,.int .u8 240,.int .u8 240,.int .u8 240,.int .u8 240,.int .u8 240,.int .u8 240,.int .u8 240,.int .u8 240,.int .u8 240,.int .u8 240,.int .u8 240,.int .u8 240,.int .u8 240,.int .u8 240,.int .u8 240,.int .u8 240,.int .u8 240,.int .u8 240,.int .u8 240,.int .u8 240,.int .u8 240,.int .u8 240,.int .u8 240,.int .u8 240,.int .u8 240,.int .u8 240,.int .u8 240,.int .u8 240,.int .u8 240,.int .u8 240,.int .u8 240,.int .u8 240,.int .u8 240,.int .u8 240,.int .u8 240,.int .u8 240,.int .u8 240,.int .u8 240,.int .u8 241,.int .u8 241,.int .u8 241,.int .u8 241,.int .u8 241,.int .u8 241,.int .u8 241,.int .u8 241,.int .u8 241,.int .u8 241,.int .u8 241,.int .u8 241,.int .u8 241,.int .u8 241,.int .u8 241,.int .u8 241,.int .u8 241,.int .u8 241,.int .u8 241,.int .u8 241,.int .u8 241,.int .u8 241,.int .u8 241,.int .u8 241,.int .u8 241,.int .u8 241,.int .u8 241,.int .u8 241,.int .u8 241,.int .u8 241,.int .u8 241,.int .u8 241,.int .u8 241,.int .u8 241,.int .u8 241,.int .u8 241,.int .u8 241,.int .u8 241,.int .u8 241,.int .u8 241,.int .u8 241,.int .u8 241,.int .u8 241,.int .u8 241,.int .u8 241,.int .u8 241,.int .u8 241,.int .u8 241,.int .u8 241,.int .u8 241,.int .u8 241,.int .u8 241,.int .u8 241,.int .u8 241,.int .u8 241,.int .u8 241,.int .u8 241,.int .u8 241,.int .u8 241,.int .u8 241,.int .u8 241,.int .u8 241,.int .u8 241,.int .u8 241,.int .u8 241,.int .u8 241,.int .u8 2,.int .u8 2,.int .u8 2,.int .u8 2,.int .u8 2,.int .u8 2,.int .u8 2,.int .u8 2,.int .u8 2,.int .u8 2,.int .u8 2,.int .u8 2,.int .u8 2,.int .u8 2,.int .u8 2,.int .u8 2,.int .u8 2,.int .u8 2,.int .u8 2,.int .u8 2,.int .u8 2,.int .u8 2,.int .u8 2,.int .u8 2,.int .u8 2,.int .u8 2,.int .u8 2,.int .u8 2,.int .u8 2,.int .u8 2,.int .u8 19,.int .u8 3,.int .u8 3,.int .u8 3,.int .u8 3,.int .u8 3,.int .u8 3,.int .u8 3,.int .u8 3,.int .u8 3,.int .u8 3,.int .u8 3,.int .u8 3,.int .u8 35,.int .u8 3,.int .u8 3,.int .u8 52,.int .u8 4,.int .u8 4,.int .u8 4,.int .u8 68,.int .u8 241,.int .u8 241,.int .u8 241,.int .u8 241,.int .u8 241,.int .u8 241,.int .u8 241,.int .u8 241,.int .u8 241,.int .u8 241,.int .u8 241]
def G_1:List V:=[.int .u8 128,.int .u8 191,.int .u8 160,.int .u8 191,.int .u8 128,.int .u8 159,.int .u8 144,.int .u8 191,.int .u8 128,.int .u8 143,.int .u8 0,.int .u8 0,.int .u8 0,.int .u8 0,.int .u8 0,.int .u8 0,.int .u8 0,.int .u8 0,.int .u8 0,.int .u8 0,.int .u8 0,.int .u8 0,.int .u8 0,.int .u8 0,.int .u8 0,.int .u8 0,.int .u8 0,.int .u8 0,.int .u8 0,.int .u8 0,.int .u8 0,.int .u8 0]
def Z2:PC:=
 (.seq
 (.reg (oq 8 (.mv kf)<|
 .nil) [0,1,2,3])
 (.seq
 (.reg (om 22 0<|
 oq 23 (.call yC [.s 22,(ki 9)])<|
 oq 24 (.bin .add (ki 1) (.s 23))<|
 om 9 24<|
 .nil) [1,2,3,9])
 (.seq
 (.reg (oq 25 (.build zt8 [(0,1,(ki 6))])<|
 oq 10 (.alloc zt8)<|
 oz (.store 8 (.s 10) (.s 25))<|
 .nil) [1,2,3,9,10])
 (.seq
 (.reg (oq 11 (.mv (.k (.sl .full 0 [])))<|
 .nil) [1,2,3,9,10,11])
 (.seq
 (.seq
 (.reg (oq 12 (.mv (ki 0))<|
 .nil) [1,2,3,9,10,11,12])
 (.blk 0
 (.loop ⟨[(1,.same),(2,.same),(3,.same),(9,.same),(10,.same),(11,(.own 1)),(12,.v)],[(.cells [.v,.v,.v,(.own 1),.v,.v,(.own 1),(.own 8)])]⟩ [(.ext 0,⟨[(1,.same),(2,.same),(3,.same),(9,.same),(10,.same),(11,(.own 1))],[(.cells [.v,.v,.v,(.own 1),.v,.v,(.own 1),(.own 8)])]⟩)]
 (.seq
 (.seq
 (.reg (om 26 12<|
 om 27 9<|
 oq 28 (.bin .lss (.s 26) (.s 27))<|
 .nil) [1,2,3,9,10,11,12,28])
 (.cond (.s 28)
 .skip
 (.exit 0)))
 (.seq
 (.blk 1
 (.seq
 (.drq (.nil)
 (oq 31 (.fad 7 (.s 10))<|
 ol 32 31<|
 om 33 12<|
 om 34 12<|
 oq 35 (.bin .add (.s 34) (ki 1))<|
 oq 36 (.sls (.k (.str [48,49,50,51,52,53,54,55,56,57])) (some (.s 33)) (some (.s 35)))<|
 oq 37 (.build zt8 [(0,1,(ki 4)),(5,1,(.s 36))])<|
 oq 38 (.lit 1 zt8 [(0,8,(.s 37))])<|
 .nil)
 (oq 39 (.app 8 120 (.s 32) (.s 38))<|
 oq 40 (.fad 7 (.s 10))<|
 oz (.store 1 (.s 40) (.s 39))<|
 .nil) [1,2,3,9,10,11,12])
 (.reg (om 41 11<|
 om 42 12<|
 oq 43 (.lit 1 [.int .i64 0] [(0,1,(.s 42))])<|
 oq 44 (.app 1 8 (.s 41) (.s 43))<|
 om 11 44<|
 .nil) [1,2,3,9,10,11,12])))
 (.reg (om 29 12<|
 oq 30 (.bin .add (.s 29) (ki 1))<|
 om 12 30<|
 .nil) [1,2,3,9,10,11,12]))))))
 (.seq
 (.reg (om 45 1<|
 om 46 9<|
 oq 47 (.call yC [.s 45,.s 46])<|
 om 48 2<|
 om 49 9<|
 oq 50 (.call yC [.s 48,.s 49])<|
 om 13 47<|
 om 14 50<|
 .nil) [3,10,11,13,14])
 (.seq
 (.reg (oq 15 (.mv (.k (.str [48,49,50,51,52,53,54,55,56,57])))<|
 .nil) [3,10,11,13,14,15])
 (.seq
 (.drw (oq 16 (.alloc [.int .i64 0,(.sl .full 0 []),(.sl .full 0 []),.int .i64 0,.bool false,.bool false,(.sl .full 0 []),.int .i64 0,(.str []),(.sl .full 0 []),(.sl .full 0 [])])<|
 .nil)
 (om 51 15<|
 om 52 13<|
 om 53 13<|
 oq 54 (.bin .add (.s 53) (ki 1))<|
 oq 55 (.sls (.s 51) (some (.s 52)) (some (.s 54)))<|
 oq 56 (.lit 1 [(.str [])] [(0,1,(.s 55))])<|
 om 57 15<|
 om 58 14<|
 om 59 14<|
 oq 60 (.bin .add (.s 59) (ki 1))<|
 oq 61 (.sls (.s 57) (some (.s 58)) (some (.s 60)))<|
 oq 62 (.lit 1 [(.str [])] [(0,1,(.s 61))])<|
 oq 63 (.build [.int .i64 0,(.sl .full 0 []),(.sl .full 0 []),.int .i64 0,.bool false,.bool false,(.sl .full 0 []),.int .i64 0,(.str []),(.sl .full 0 []),(.sl .full 0 [])] [(0,1,(ki 4)),(2,1,(.s 56)),(1,1,(.s 62))])<|
 .nil)
 (oz (.store 11 (.s 16) (.s 63))<|
 .nil) [3,10,11,13,14,15,16])
 (.seq
 (.drq (.nil)
 (om 64 11<|
 om 65 13<|
 oq 66 (.slc 1 (.s 64) none (some (.s 65)) none)<|
 oq 67 (.app 1 8 (.k (.sl .full 0 [])) (.s 66))<|
 om 68 11<|
 om 69 13<|
 oq 70 (.bin .add (.s 69) (ki 1))<|
 oq 71 (.slc 1 (.s 68) (some (.s 70)) none none)<|
 .nil)
 (oq 72 (.app 1 8 (.s 67) (.s 71))<|
 om 17 72<|
 .nil) [3,10,11,13,14,15,16,17])
 (.seq
 (.drq (.nil)
 (om 73 17<|
 om 74 14<|
 oq 75 (.slc 1 (.s 73) none (some (.s 74)) none)<|
 oq 76 (.app 1 8 (.k (.sl .full 0 [])) (.s 75))<|
 om 77 13<|
 oq 78 (.lit 1 [.int .i64 0] [(0,1,(.s 77))])<|
 oq 79 (.app 1 8 (.s 76) (.s 78))<|
 om 80 17<|
 om 81 14<|
 oq 82 (.slc 1 (.s 80) (some (.s 81)) none none)<|
 .nil)
 (oq 83 (.app 1 8 (.s 79) (.s 82))<|
 om 18 83<|
 .nil) [3,10,11,13,14,15,16,17,18])
 (.seq
 (.cut ⟨[(3,.same),(10,.same),(11,(.own 1)),(13,.same),(14,.same),(15,.same),(16,.same),(17,(.own 1)),(18,(.own 1))],[(.cells [.v,.v,.v,(.own 1),.v,.v,(.own 1),(.own 8)]),(.cells [.v,(.own 1),(.own 1),.v,.v,.v,(.own 1),.v,.v,(.own 1),(.own 1)])]⟩ [(.nrm,⟨[(10,.same),(15,.same),(16,.same),(18,(.own 1))],[(.cells [.v,.v,.v,(.own 1),.v,.v,(.own 1),(.own 8)]),(.cells [.v,(.own 1),(.own 1),.v,.v,.v,(.own 1),.v,.v,(.own 1),(.own 1)])]⟩)]
 (.seq
 (.reg (om 84 3<|
 oq 85 (.call yC [.s 84,(ki 4)])<|
 .nil) [10,11,13,14,15,16,17,18,85])
 (.blk 2
 (.seq
 (.reg (oq 87 (.bin .eql (.s 85) (ki 0))<|
 om 86 87<|
 .nil) [10,11,13,14,15,16,17,18,85,86])
 (.cond (.s 86)
 (.seq
 (.reg (om 88 15<|
 om 89 13<|
 om 90 13<|
 oq 91 (.bin .add (.s 90) (ki 1))<|
 oq 92 (.sls (.s 88) (some (.s 89)) (some (.s 91)))<|
 oq 93 (.lit 1 [(.str [])] [(0,1,(.s 92))])<|
 oq 94 (.build [.int .i64 0,(.sl .full 0 []),(.sl .full 0 []),.int .i64 0,.bool false,.bool false,(.sl .full 0 []),.int .i64 0,(.str []),(.sl .full 0 []),(.sl .full 0 [])] [(0,1,(ki 2)),(1,1,(.s 93))])<|
 oz (.store 11 (.s 16) (.s 94))<|
 .nil) [10,15,16,17])
 (.reg (om 95 17<|
 om 18 95<|
 .nil) [10,15,16,18]))
 (.seq
 (.reg (oq 97 (.bin .eql (.s 85) (ki 1))<|
 om 96 97<|
 .nil) [10,11,13,14,15,16,18,85,96])
 (.cond (.s 96)
 (.seq
 (.reg (om 98 15<|
 om 99 13<|
 om 100 13<|
 oq 101 (.bin .add (.s 100) (ki 1))<|
 oq 102 (.sls (.s 98) (some (.s 99)) (some (.s 101)))<|
 oq 103 (.lit 1 [(.str [])] [(0,1,(.s 102))])<|
 oq 104 (.lit 1 [(.str [])] [(0,1,(.k (.str [45])))])<|
 oq 105 (.build [.int .i64 0,(.sl .full 0 []),(.sl .full 0 []),.int .i64 0,.bool false,.bool false,(.sl .full 0 []),.int .i64 0,(.str []),(.sl .full 0 []),(.sl .full 0 [])] [(0,1,(ki 5)),(2,1,(.s 103)),(1,1,(.s 104))])<|
 oz (.store 11 (.s 16) (.s 105))<|
 .nil) [10,11,13,15,16])
 (.reg (om 106 11<|
 oq 107 (.app 1 8 (.k (.sl .full 0 [])) (.s 106))<|
 om 108 13<|
 oq 109 (.lit 1 [.int .i64 0] [(0,1,(.s 108))])<|
 oq 110 (.app 1 8 (.s 107) (.s 109))<|
 om 18 110<|
 .nil) [10,15,16,18]))
 (.seq
 (.reg (oq 112 (.bin .eql (.s 85) (ki 2))<|
 om 111 112<|
 .nil) [10,11,13,14,15,16,18,111])
 (.cond (.s 111)
 (.seq
 (.drw (.nil)
 (om 113 15<|
 om 114 14<|
 om 115 14<|
 oq 116 (.bin .add (.s 115) (ki 1))<|
 oq 117 (.sls (.s 113) (some (.s 114)) (some (.s 116)))<|
 oq 118 (.lit 1 [(.str [])] [(0,1,(.s 117))])<|
 om 119 15<|
 om 120 13<|
 om 121 13<|
 oq 122 (.bin .add (.s 121) (ki 1))<|
 oq 123 (.sls (.s 119) (some (.s 120)) (some (.s 122)))<|
 oq 124 (.build zt8 [(0,1,(ki 4)),(5,1,(.s 123))])<|
 .nil)
 (oq 125 (.build [.int .i64 0,(.sl .full 0 []),(.sl .full 0 []),.int .i64 0,.bool false,.bool false,(.sl .full 0 []),.int .i64 0,(.str []),(.sl .full 0 []),(.sl .full 0 [])] [(0,1,(ki 1)),(1,1,(.s 118)),(3,8,(.s 124))])<|
 oz (.store 11 (.s 16) (.s 125))<|
 .nil) [10,11,13,14,15,16])
 (.drq (.nil)
 (om 126 11<|
 om 127 14<|
 oq 128 (.slc 1 (.s 126) none (some (.s 127)) none)<|
 oq 129 (.app 1 8 (.k (.sl .full 0 [])) (.s 128))<|
 om 130 13<|
 oq 131 (.lit 1 [.int .i64 0] [(0,1,(.s 130))])<|
 oq 132 (.app 1 8 (.s 129) (.s 131))<|
 om 133 11<|
 om 134 14<|
 oq 135 (.slc 1 (.s 133) (some (.s 134)) none none)<|
 .nil)
 (oq 136 (.app 1 8 (.s 132) (.s 135))<|
 om 18 136<|
 .nil) [10,15,16,18]))
 .skip)))))))))
 (.seq
 (.reg (oq 138 (.load true 8 (.s 10))<|
 oq 139 (.load true 11 (.s 16))<|
 oq 140 (.call xU [.s 138,.s 139])<|
 om 137 140<|
 oq 141 (.ext (.s 137) 0)<|
 oq 142 (.ext (.s 137) 1)<|
 oq 19 (.alloc zt8)<|
 oz (.store 8 (.s 19) (.s 141))<|
 om 20 142<|
 .nil) [15,18,19,20])
 (.seq
 (.seq
 (.reg (om 143 20<|
 oq 144 (.un .not (.s 143))<|
 om 145 144<|
 .grp 145 false (oq 146 (.fad 7 (.s 19))<|
 ol 147 146<|
 oq 148 (.len (.s 147))<|
 om 149 18<|
 oq 150 (.len (.s 149))<|
 oq 151 (.bin .neq (.s 148) (.s 150))<|
 .nil) 152 (.s 151) kt<|
 .nil) [15,18,19,152])
 (.cond (.s 152)
 (.seq
 (.reg (oq 8 (.mv kf)<|
 .nil) [8])
 .ret)
 .skip))
 (.seq
 (.seq
 (.reg (oq 21 (.mv (ki 0))<|
 .nil) [15,18,19,21])
 (.blk 3
 (.loop ⟨[(15,.same),(18,(.own 1)),(19,.same),(21,.v)],[(.cells [.v,.v,.v,(.own 1),.v,.v,(.own 1),(.own 8)]),(.cells [.v,(.own 1),(.own 1),.v,.v,.v,(.own 1),.v,.v,(.own 1),(.own 1)]),.same]⟩ [(.ext 3,⟨[],[(.cells [.v,.v,.v,(.own 1),.v,.v,(.own 1),(.own 8)]),(.cells [.v,(.own 1),(.own 1),.v,.v,.v,(.own 1),.v,.v,(.own 1),(.own 1)]),.same]⟩),(.ret,⟨[(8,.v)],[(.cells [.v,.v,.v,(.own 1),.v,.v,(.own 1),(.own 8)]),(.cells [.v,(.own 1),(.own 1),.v,.v,.v,(.own 1),.v,.v,(.own 1),(.own 1)]),.same]⟩)]
 (.seq
 (.seq
 (.reg (om 153 21<|
 om 154 18<|
 oq 155 (.len (.s 154))<|
 oq 156 (.bin .lss (.s 153) (.s 155))<|
 .nil) [15,18,19,21,156])
 (.cond (.s 156)
 .skip
 (.exit 3)))
 (.seq
 (.blk 4
 (.seq
 (.drw (.nil)
 (oq 159 (.fad 7 (.s 19))<|
 ol 160 159<|
 om 161 21<|
 oq 162 (.iad 8 (.s 160) (.s 161))<|
 oq 163 (.fad 5 (.s 162))<|
 ol 164 163<|
 om 165 15<|
 om 166 18<|
 om 167 21<|
 oq 168 (.iad 1 (.s 166) (.s 167))<|
 ol 169 168<|
 om 170 18<|
 om 171 21<|
 oq 172 (.iad 1 (.s 170) (.s 171))<|
 ol 173 172<|
 oq 174 (.bin .add (.s 173) (ki 1))<|
 oq 175 (.sls (.s 165) (some (.s 169)) (some (.s 174)))<|
 .nil)
 (oq 176 (.bin .neq (.s 164) (.s 175))<|
 .nil) [15,18,19,21,176])
 (.cond (.s 176)
 (.seq
 (.reg (oq 8 (.mv kf)<|
 .nil) [8])
 .ret)
 .skip)))
 (.reg (om 157 21<|
 oq 158 (.bin .add (.s 157) (ki 1))<|
 om 21 158<|
 .nil) [15,18,19,21]))))))
 (.seq
 (.reg (oq 177 (.call vm [])<|
 om 8 177<|
 .nil) [8])
 .ret)))))))))))))))
def Yg:PFn:=⟨[.tmp 8],Z2,false⟩
def w8:Fn:=⟨4,[.tmp 8],false,false,zq Z2⟩
def VH:PC:=
 (.seq
 (.reg (oq 4 (.mv (ki 0))<|
 .nil) [0,1])
 (.seq
 (.reg (om 6 0<|
 om 7 1<|
 oq 8 (.bin .rem (.s 6) (.s 7))<|
 om 5 8<|
 .nil) [1,5])
 (.seq
 (.seq
 (.reg (om 9 5<|
 oq 10 (.bin .lss (.s 9) (ki 0))<|
 .nil) [1,5,10])
 (.cond (.s 10)
 (.reg (om 11 5<|
 om 12 1<|
 oq 13 (.bin .add (.s 11) (.s 12))<|
 om 5 13<|
 .nil) [5])
 .skip))
 (.seq
 (.reg (om 14 5<|
 om 4 14<|
 .nil) [4])
 .ret))))
def VO:PFn:=⟨[.tmp 4],VH,false⟩
def kh:Fn:=⟨2,[.tmp 4],false,false,zq VH⟩
def zeH:PC:=
 (.seq
 (.blk 1000000
 (.seq
 (.seq
 (.reg (.box 8 2 (.s 0)<|
 .box 11 3 (.s 1)<|
 oq 4 (.alloc zt8)<|
 oq 5 (.alloc [.bool false])<|
 .nil) [2,3,4,5])
 (.seq
 (.reg (.nil) [2,3,4,5])
 (.seq
 (.seq
 (.reg (oq 7 (.load true 8 (.s 2))<|
 oq 8 (.load true 11 (.s 3))<|
 oq 1000000 (.call vi [.s 7,.s 8])<|
 oq 1000001 (.ext (.s 1000000) 0)<|
 .nil) [1000000,1000001,4,9,5,4,5,4,5])
 (.cond (.s 1000001)
 (.reg (oq 9 (.ext (.s 1000000) 1)<|
 oz (.store 8 (.s 4) (.s 9))<|
 oz (.store 1 (.s 5) kt)<|
 .nil) [4,5])
 (.seq
 (.reg (oq 1000000 (.ext (.s 1000000) 1)<|
 .nil) [1000000,4,5])
 (.exit 1000000))))
 (.seq
 (.reg (oq 1000000 (.mv (.k .nili))<|
 .nil) [1000000,4,5])
 (.exit 1000000)))))
 (.seq
 (.reg (oq 1000000 (.mv (.k .nili))<|
 .nil) [1000000,4,5])
 (.exit 1000000))))
 (.reg (oz (.call vC [.s 4,.s 5,.s 1000000])<|
 .nil) [4,5]))
def ze1:PFn:=⟨[.cell 4 true 8,.cell 5 false 1],zeH,false⟩
def zlD:C:=
 (.seq
 (.reg [nq 2 (.box (.s 0)),nq 3 (.box (.s 1)),nq 4 (.alloc zt8),nq 5 (.alloc [.bool false])] [2,3,4,5])
 (.seq
 (.reg [] [2,3,4,5])
 (.seq
 (.reg [nq 7 (.load true 8 (.s 2)),nq 8 (.load true 11 (.s 3)),nq 9 (.call XM [.s 7,.s 8]),⟨none,.store 8 (.s 4) (.s 9),none⟩,⟨none,.store 1 (.s 5) kt,none⟩] [4,5])
 .ret)))
def Kb:Fn:=⟨2,[.cell 4 true 8,.cell 5 false 1],false,false,zlD⟩
def zlH:Fn:=⟨2,[.cell 4 true 8,.cell 5 false 1],false,false,zq zeH⟩
def VM:PC:=
 (.seq
 (.reg (oq 0 (.mv kf)<|
 .nil) [])
 (.seq
 (.reg (oq 5 (.lit 1 [(.str [])] [(0,1,(.k (.str [97])))])<|
 oq 6 (.build zt8 [(0,1,(ki 1))])<|
 oq 7 (.lit 1 zt8 [(0,8,(.s 6))])<|
 oq 8 (.build zt8 [(0,1,(ki 6)),(7,1,(.s 7))])<|
 oq 9 (.lit 1 zt8 [(0,8,(.s 8))])<|
 oq 10 (.build zt8 [(0,1,(ki 7)),(6,1,(.s 5)),(7,1,(.s 9))])<|
 oq 1 (.alloc zt8)<|
 oz (.store 8 (.s 1) (.s 10))<|
 .nil) [1])
 (.seq
 (.reg (oq 12 (.load true 8 (.s 1))<|
 oq 13 (.lit 2 [(.str [])] [(0,1,(.k (.str [97]))),(1,1,(.k (.str [45])))])<|
 oq 14 (.build zt8 [(0,1,(ki 2))])<|
 oq 15 (.build [.int .i64 0,(.sl .full 0 []),(.sl .full 0 []),.int .i64 0,.bool false,.bool false,(.sl .full 0 []),.int .i64 0,(.str []),(.sl .full 0 []),(.sl .full 0 [])] [(0,1,(ki 1)),(1,1,(.s 13)),(3,8,(.s 14))])<|
 oq 16 (.lit 1 [.int .i64 0,(.sl .full 0 []),(.sl .full 0 []),.int .i64 0,.bool false,.bool false,(.sl .full 0 []),.int .i64 0,(.str []),(.sl .full 0 []),(.sl .full 0 [])] [(0,11,(.s 15))])<|
 oq 17 (.call vB [.s 12,.s 16,(ki 100)])<|
 om 11 17<|
 oq 18 (.ext (.s 11) 0)<|
 oq 19 (.ext (.s 11) 1)<|
 oq 20 (.ext (.s 11) 2)<|
 oq 2 (.alloc zt8)<|
 oz (.store 8 (.s 2) (.s 18))<|
 om 3 19<|
 om 4 20<|
 .nil) [2,3,4])
 (.seq
 (.reg (om 21 4<|
 oq 22 (.bin .eql (.s 21) (ki 0))<|
 om 23 22<|
 .grp 23 true (om 24 3<|
 oq 25 (.bin .eql (.s 24) (.k (.int .i64 (-1))))<|
 .nil) 26 (.s 25) kf<|
 om 27 26<|
 .grp 27 true (oq 28 (.fad 7 (.s 2))<|
 ol 29 28<|
 oq 30 (.len (.s 29))<|
 oq 31 (.bin .eql (.s 30) (ki 1))<|
 .nil) 32 (.s 31) kf<|
 om 33 32<|
 .grp 33 true (oq 34 (.fad 7 (.s 2))<|
 ol 35 34<|
 oq 36 (.iad 8 (.s 35) (ki 0))<|
 oq 37 (.fad 7 (.s 36))<|
 ol 38 37<|
 oq 39 (.len (.s 38))<|
 oq 40 (.bin .eql (.s 39) (ki 2))<|
 .nil) 41 (.s 40) kf<|
 om 42 41<|
 .grp 42 true (oq 43 (.fad 7 (.s 2))<|
 ol 44 43<|
 oq 45 (.iad 8 (.s 44) (ki 0))<|
 oq 46 (.fad 7 (.s 45))<|
 ol 47 46<|
 oq 48 (.iad 8 (.s 47) (ki 1))<|
 oq 49 (.fad 0 (.s 48))<|
 ol 50 49<|
 oq 51 (.bin .eql (.s 50) (ki 2))<|
 .nil) 52 (.s 51) kf<|
 om 0 52<|
 .nil) [0])
 .ret))))
def V3:PFn:=⟨[.tmp 0],VM,false⟩
def ku:Fn:=⟨0,[.tmp 0],false,false,zq VM⟩
def KH:PC:=
 (.seq
 (.reg (.box 8 3 (.s 0)<|
 oq 6 (.alloc zt8)<|
 oq 7 (.mv (ki 0))<|
 oq 8 (.mv (ki 0))<|
 .nil) [1,2,3,6])
 (.seq
 (.seq
 (.reg (oq 13 (.load true 8 (.s 3))<|
 oq 14 (.call xj [.s 13])<|
 oq 15 (.un .not (.s 14))<|
 om 16 15<|
 .grp 16 false (om 17 1<|
 oq 18 (.call qq [.s 17])<|
 oq 19 (.un .not (.s 18))<|
 .nil) 20 (.s 19) kt<|
 .nil) [1,2,3,6,20])
 (.cond (.s 20)
 (.seq
 (.reg (oq 21 (.build zt8 [])<|
 oz (.store 8 (.s 6) (.s 21))<|
 oq 7 (.mv (.k (.int .i64 (-1))))<|
 oq 8 (.mv (ki 1))<|
 .nil) [6,7,8])
 .ret)
 .skip))
 (.seq
 (.seq
 (.reg (om 22 1<|
 oq 23 (.len (.s 22))<|
 oq 24 (.mv (ki 0))<|
 .nil) [2,3,6,22,23,24])
 (.blk 0
 (.loop ⟨[(2,.same),(3,.same),(6,.same),(22,.same),(23,.same),(24,.v)],[(.box 8),(.cells [.v,.v,.v,.v,.v,.v,.v,.v])]⟩ [(.ext 0,⟨[(3,.same),(6,.same)],[(.box 8),(.box 8)]⟩),(.ret,⟨[(6,.same),(7,.v),(8,.v)],[(.box 8),(.cells [.v,.v,.v,.v,.v,.v,.v,.v])]⟩)]
 (.seq
 (.reg (oq 25 (.bin .lss (.s 24) (.s 23))<|
 .nil) [2,3,6,22,23,24,25])
 (.seq
 (.cond (.s 25)
 .skip
 (.exit 0))
 (.seq
 (.blk 1
 (.seq
 (.reg (om 26 24<|
 oq 27 (.iad 11 (.s 22) (.s 24))<|
 oq 28 (.load true 11 (.s 27))<|
 oq 10 (.alloc [.int .i64 0,(.sl .full 0 []),(.sl .full 0 []),.int .i64 0,.bool false,.bool false,(.sl .full 0 []),.int .i64 0,(.str []),(.sl .full 0 []),(.sl .full 0 [])])<|
 om 9 26<|
 oz (.store 11 (.s 10) (.s 28))<|
 .nil) [2,3,6,9,10,22,23,24])
 (.seq
 (.reg (oq 30 (.load true 8 (.s 3))<|
 oq 31 (.load true 11 (.s 10))<|
 oq 32 (.call xU [.s 30,.s 31])<|
 om 29 32<|
 oq 33 (.ext (.s 29) 0)<|
 oq 34 (.ext (.s 29) 1)<|
 oq 11 (.alloc zt8)<|
 oz (.store 8 (.s 11) (.s 33))<|
 om 12 34<|
 .nil) [2,3,6,9,11,12,22,23,24])
 (.seq
 (.blk 2
 (.seq
 (.reg (om 36 12<|
 oq 37 (.un .not (.s 36))<|
 om 35 37<|
 .nil) [2,3,6,9,11,22,23,24,35])
 (.cond (.s 35)
 (.seq
 (.reg (oq 38 (.build zt8 [])<|
 om 39 9<|
 oz (.store 8 (.s 6) (.s 38))<|
 om 7 39<|
 oq 8 (.mv (ki 5))<|
 .nil) [6,7,8])
 .ret)
 (.seq
 (.reg (oq 41 (.load true 8 (.s 11))<|
 om 42 2<|
 oq 43 (.call jc [.s 41,.s 42])<|
 oq 44 (.un .not (.s 43))<|
 om 40 44<|
 .nil) [2,3,6,9,11,22,23,24,40])
 (.cond (.s 40)
 (.seq
 (.reg (oq 45 (.build zt8 [])<|
 om 46 9<|
 oz (.store 8 (.s 6) (.s 45))<|
 om 7 46<|
 oq 8 (.mv (ki 4))<|
 .nil) [6,7,8])
 .ret)
 .skip)))))
 (.reg (oq 47 (.load true 8 (.s 11))<|
 oz (.store 8 (.s 3) (.s 47))<|
 .nil) [2,3,6,22,23,24])))))
 (.reg (oq 48 (.bin .add (.s 24) (ki 1))<|
 om 24 48<|
 .nil) [2,3,6,22,23,24])))))))
 (.seq
 (.reg (oq 49 (.load true 8 (.s 3))<|
 oz (.store 8 (.s 6) (.s 49))<|
 oq 7 (.mv (.k (.int .i64 (-1))))<|
 oq 8 (.mv (ki 0))<|
 .nil) [6,7,8])
 .ret))))
def zal:PFn:=⟨[.cell 6 true 8,.tmp 7,.tmp 8],KH,false⟩
def Ye:Fn:=⟨3,[.cell 6 true 8,.tmp 7,.tmp 8],false,false,zq KH⟩
def K1:PC:=
 (.seq
 (.reg (om 6 2<|
 oq 7 (.inil true (.s 6))<|
 .nil) [0,1,2,7])
 (.cond (.s 7)
 (.seq
 (.seq
 (.reg (om 9 2<|
 oq 10 (.tas 52 true (.s 9))<|
 om 8 10<|
 oq 11 (.ext (.s 8) 0)<|
 oq 12 (.ext (.s 8) 1)<|
 oq 3 (.alloc [])<|
 oz (.store 0 (.s 3) (.s 11))<|
 om 4 12<|
 .nil) [0,1,2,4])
 (.seq
 (.reg (om 13 4<|
 oq 14 (.un .not (.s 13))<|
 .nil) [0,1,2,14])
 (.cond (.s 14)
 (.seq
 (.reg (om 15 2<|
 om 1000000 15<|
 oq 1000001 (.inil true (.s 1000000))<|
 .nil) [1000000,1000001])
 (.cond (.s 1000001)
 (.exit 1000000)
 (.exit 1000002)))
 .skip)))
 (.reg (oq 16 (.build zt8 [])<|
 oz (.store 8 (.s 0) (.s 16))<|
 oz (.store 1 (.s 1) kf)<|
 .nil) []))
 .skip))
def K7:PFn:=⟨[],K1,false⟩
def zhE:C:=
 (.seq
 (.reg [nm 6 2,nq 7 (.inil true (.s 6))] [0,1,2,7])
 (.cond (.s 7)
 (.seq
 (.seq
 (.reg [nm 9 2,nq 10 (.tas 52 true (.s 9)),nm 8 10,nq 11 (.ext (.s 8) 0),nq 12 (.ext (.s 8) 1),nq 3 (.alloc []),⟨none,.store 0 (.s 3) (.s 11),none⟩,nm 4 12] [0,1,2,4])
 (.seq
 (.reg [nm 13 4,nq 14 (.un .not (.s 13))] [0,1,2,14])
 (.cond (.s 14)
 (.reg [nm 15 2,⟨none,.pan (.s 15),none⟩] [0,1])
 .skip)))
 (.reg [nq 16 (.build zt8 []),⟨none,.store 8 (.s 0) (.s 16),none⟩,⟨none,.store 1 (.s 1) kf,none⟩] []))
 .skip))
def Yh:Fn:=⟨3,[],false,false,zhE⟩
def KI:Fn:=⟨3,[],false,false,zq K1⟩
def zbW:PC:=
 (.seq
 (.reg (.box 8 2 (.s 0)<|
 .box 11 3 (.s 1)<|
 oq 4 (.alloc zt8)<|
 .nil) [2,3,4])
 (.seq
 (.seq
 (.reg (oq 5 (.fad 0 (.s 3))<|
 ol 6 5<|
 .nil) [2,3,4,6])
 (.blk 0
 (.seq
 (.reg (oq 8 (.bin .eql (.s 6) (ki 1))<|
 om 7 8<|
 .nil) [2,3,4,6,7])
 (.cond (.s 7)
 (.seq
 (.seq
 (.reg (oq 9 (.load true 8 (.s 2))<|
 oq 10 (.fad 1 (.s 3))<|
 ol 11 10<|
 oq 12 (.fad 3 (.s 3))<|
 oq 13 (.load true 8 (.s 12))<|
 oq 1000000 (.call qD [.s 9,.s 11,.s 13])<|
 oq 1000001 (.ext (.s 1000000) 0)<|
 .nil) [1000000,1000001,4,14,4])
 (.cond (.s 1000001)
 (.reg (oq 14 (.ext (.s 1000000) 1)<|
 oz (.store 8 (.s 4) (.s 14))<|
 .nil) [4])
 (.seq
 (.reg (oq 1000000 (.ext (.s 1000000) 1)<|
 .nil) [1000000])
 (.exit 1000000))))
 .ret)
 (.seq
 (.reg (oq 16 (.bin .eql (.s 6) (ki 2))<|
 om 15 16<|
 .nil) [2,3,4,6,15])
 (.cond (.s 15)
 (.seq
 (.seq
 (.reg (oq 17 (.load true 8 (.s 2))<|
 oq 18 (.fad 1 (.s 3))<|
 ol 19 18<|
 oq 1000000 (.call vE [.s 17,.s 19])<|
 oq 1000001 (.ext (.s 1000000) 0)<|
 .nil) [1000000,1000001,4,20,4])
 (.cond (.s 1000001)
 (.reg (oq 20 (.ext (.s 1000000) 1)<|
 oz (.store 8 (.s 4) (.s 20))<|
 .nil) [4])
 (.seq
 (.reg (oq 1000000 (.ext (.s 1000000) 1)<|
 .nil) [1000000])
 (.exit 1000000))))
 .ret)
 (.seq
 (.reg (oq 22 (.bin .eql (.s 6) (ki 3))<|
 om 21 22<|
 .nil) [2,3,4,6,21])
 (.cond (.s 21)
 (.seq
 (.seq
 (.reg (oq 23 (.load true 8 (.s 2))<|
 oq 24 (.fad 1 (.s 3))<|
 ol 25 24<|
 oq 26 (.fad 3 (.s 3))<|
 oq 27 (.load true 8 (.s 26))<|
 oq 1000000 (.call wu [.s 23,.s 25,.s 27])<|
 oq 1000001 (.ext (.s 1000000) 0)<|
 .nil) [1000000,1000001,4,28,4])
 (.cond (.s 1000001)
 (.reg (oq 28 (.ext (.s 1000000) 1)<|
 oz (.store 8 (.s 4) (.s 28))<|
 .nil) [4])
 (.seq
 (.reg (oq 1000000 (.ext (.s 1000000) 1)<|
 .nil) [1000000])
 (.exit 1000000))))
 .ret)
 (.seq
 (.reg (oq 30 (.bin .eql (.s 6) (ki 4))<|
 om 29 30<|
 .nil) [2,3,4,6,29])
 (.cond (.s 29)
 (.seq
 (.seq
 (.reg (oq 31 (.load true 8 (.s 2))<|
 oq 32 (.fad 2 (.s 3))<|
 ol 33 32<|
 oq 34 (.fad 1 (.s 3))<|
 ol 35 34<|
 oq 1000000 (.call Zs [.s 31,.s 33,.s 35])<|
 oq 1000001 (.ext (.s 1000000) 0)<|
 .nil) [1000000,1000001,4,36,4])
 (.cond (.s 1000001)
 (.reg (oq 36 (.ext (.s 1000000) 1)<|
 oz (.store 8 (.s 4) (.s 36))<|
 .nil) [4])
 (.seq
 (.reg (oq 1000000 (.ext (.s 1000000) 1)<|
 .nil) [1000000])
 (.exit 1000000))))
 .ret)
 (.seq
 (.reg (oq 38 (.bin .eql (.s 6) (ki 5))<|
 om 37 38<|
 .nil) [2,3,4,37])
 (.cond (.s 37)
 (.seq
 (.seq
 (.drw (.nil)
 (oq 39 (.load true 8 (.s 2))<|
 oq 40 (.fad 1 (.s 3))<|
 ol 41 40<|
 oq 42 (.load true 8 (.s 2))<|
 oq 43 (.fad 2 (.s 3))<|
 ol 44 43<|
 oq 1000000 (.call xr [.s 42,.s 44])<|
 .nil)
 (oq 1000001 (.ext (.s 1000000) 0)<|
 .nil) [1000000,1000001,39,41,45,4,46,4])
 (.cond (.s 1000001)
 (.seq
 (.reg (oq 45 (.ext (.s 1000000) 1)<|
 oq 1000000 (.call qD [.s 39,.s 41,.s 45])<|
 oq 1000001 (.ext (.s 1000000) 0)<|
 .nil) [1000000,1000001,4,46,4])
 (.cond (.s 1000001)
 (.reg (oq 46 (.ext (.s 1000000) 1)<|
 oz (.store 8 (.s 4) (.s 46))<|
 .nil) [4])
 (.seq
 (.reg (oq 1000000 (.ext (.s 1000000) 1)<|
 .nil) [1000000])
 (.exit 1000000))))
 (.seq
 (.reg (oq 1000000 (.ext (.s 1000000) 1)<|
 .nil) [1000000])
 (.exit 1000000))))
 .ret)
 .skip))))))))))))
 (.seq
 (.seq
 (.drw (.nil)
 (oq 47 (.fad 0 (.s 3))<|
 ol 48 47<|
 oq 49 (.bin .eql (.s 48) (ki 6))<|
 om 50 49<|
 .one ⟨some 51,.load true 8 (.s 2),some (50,true)⟩<|
 .one ⟨some 52,.fad 1 (.s 3),some (50,true)⟩<|
 .one ⟨some 53,.load false 1 (.s 52),some (50,true)⟩<|
 .one ⟨some 55,.fad 3 (.s 3),some (50,true)⟩<|
 .one ⟨some 56,.load true 8 (.s 55),some (50,true)⟩<|
 .nil)
 (.nil) [50,51,53,54,56,50,50,57,58,2,4])
 (.cond (.s 50)
 (.seq
 (.drw (.nil)
 (oq 1000000 (.call xr [.s 51,.s 53])<|
 .nil)
 (oq 1000001 (.ext (.s 1000000) 0)<|
 .nil) [1000000,1000001,54,56,50,50,57,58,2,4])
 (.cond (.s 1000001)
 (.seq
 (.reg (oq 54 (.ext (.s 1000000) 1)<|
 .grp 50 true (oq 57 (.call wq [.s 54,.s 56])<|
 .nil) 58 (.s 57) kf<|
 oq 1000000 (.call zt [.s 58])<|
 oq 1000001 (.ext (.s 1000000) 0)<|
 .nil) [1000000,1000001,2,4])
 (.cond (.s 1000001)
 (.reg (oq 59 (.ext (.s 1000000) 1)<|
 .nil) [2,4])
 (.seq
 (.reg (oq 1000000 (.ext (.s 1000000) 1)<|
 .nil) [1000000])
 (.exit 1000000))))
 (.seq
 (.reg (oq 1000000 (.ext (.s 1000000) 1)<|
 .nil) [1000000])
 (.exit 1000000))))
 (.seq
 (.reg (.grp 50 true (oq 54 (.call wr [.s 51,.s 53])<|
 oq 57 (.call wq [.s 54,.s 56])<|
 .nil) 58 (.s 57) kf<|
 oq 1000000 (.call zt [.s 58])<|
 oq 1000001 (.ext (.s 1000000) 0)<|
 .nil) [1000000,1000001,2,4])
 (.cond (.s 1000001)
 (.reg (oq 59 (.ext (.s 1000000) 1)<|
 .nil) [2,4])
 (.seq
 (.reg (oq 1000000 (.ext (.s 1000000) 1)<|
 .nil) [1000000])
 (.exit 1000000))))))
 (.seq
 (.reg (oq 60 (.load true 8 (.s 2))<|
 oz (.store 8 (.s 4) (.s 60))<|
 .nil) [4])
 .ret))))
def zbp:PFn:=⟨[.cell 4 true 8],zbW,true⟩
def zjb:C:=
 (.seq
 (.reg [nq 2 (.box (.s 0)),nq 3 (.box (.s 1)),nq 4 (.alloc zt8)] [2,3,4])
 (.seq
 (.seq
 (.reg [nq 5 (.fad 0 (.s 3)),nq 6 (.load false 1 (.s 5))] [2,3,4,6])
 (.blk 0
 (.seq
 (.reg [nq 8 (.bin .eql (.s 6) (ki 1)),nm 7 8] [2,3,4,6,7])
 (.cond (.s 7)
 (.seq
 (.reg [nq 9 (.load true 8 (.s 2)),nq 10 (.fad 1 (.s 3)),nq 11 (.load false 1 (.s 10)),nq 12 (.fad 3 (.s 3)),nq 13 (.load true 8 (.s 12)),nq 14 (.call Zo [.s 9,.s 11,.s 13]),⟨none,.store 8 (.s 4) (.s 14),none⟩] [4])
 .ret)
 (.seq
 (.reg [nq 16 (.bin .eql (.s 6) (ki 2)),nm 15 16] [2,3,4,6,15])
 (.cond (.s 15)
 (.seq
 (.reg [nq 17 (.load true 8 (.s 2)),nq 18 (.fad 1 (.s 3)),nq 19 (.load false 1 (.s 18)),nq 20 (.call jt [.s 17,.s 19]),⟨none,.store 8 (.s 4) (.s 20),none⟩] [4])
 .ret)
 (.seq
 (.reg [nq 22 (.bin .eql (.s 6) (ki 3)),nm 21 22] [2,3,4,6,21])
 (.cond (.s 21)
 (.seq
 (.reg [nq 23 (.load true 8 (.s 2)),nq 24 (.fad 1 (.s 3)),nq 25 (.load false 1 (.s 24)),nq 26 (.fad 3 (.s 3)),nq 27 (.load true 8 (.s 26)),nq 28 (.call ji [.s 23,.s 25,.s 27]),⟨none,.store 8 (.s 4) (.s 28),none⟩] [4])
 .ret)
 (.seq
 (.reg [nq 30 (.bin .eql (.s 6) (ki 4)),nm 29 30] [2,3,4,6,29])
 (.cond (.s 29)
 (.seq
 (.reg [nq 31 (.load true 8 (.s 2)),nq 32 (.fad 2 (.s 3)),nq 33 (.load false 1 (.s 32)),nq 34 (.fad 1 (.s 3)),nq 35 (.load false 1 (.s 34)),nq 36 (.call XU [.s 31,.s 33,.s 35]),⟨none,.store 8 (.s 4) (.s 36),none⟩] [4])
 .ret)
 (.seq
 (.reg [nq 38 (.bin .eql (.s 6) (ki 5)),nm 37 38] [2,3,4,37])
 (.cond (.s 37)
 (.seq
 (.drw []
 [nq 39 (.load true 8 (.s 2)),nq 40 (.fad 1 (.s 3)),nq 41 (.load false 1 (.s 40)),nq 42 (.load true 8 (.s 2)),nq 43 (.fad 2 (.s 3)),nq 44 (.load false 1 (.s 43)),nq 45 (.call wr [.s 42,.s 44])]
 []
 [nq 46 (.call Zo [.s 39,.s 41,.s 45]),⟨none,.store 8 (.s 4) (.s 46),none⟩] [4])
 .ret)
 .skip))))))))))))
 (.seq
 (.drw []
 [nq 47 (.fad 0 (.s 3)),nq 48 (.load false 1 (.s 47)),nq 49 (.bin .eql (.s 48) (ki 6)),nm 50 49,⟨some 51,.load true 8 (.s 2),some (50,true)⟩,⟨some 52,.fad 1 (.s 3),some (50,true)⟩,⟨some 53,.load false 1 (.s 52),some (50,true)⟩,⟨some 55,.fad 3 (.s 3),some (50,true)⟩,⟨some 56,.load true 8 (.s 55),some (50,true)⟩,⟨some 54,.call wr [.s 51,.s 53],some (50,true)⟩]
 []
 [⟨some 57,.call wq [.s 54,.s 56],some (50,true)⟩,nq 58 (.pick (.s 50) (.s 57) kf),nq 59 (.call vG [.s 58])] [2,4])
 (.seq
 (.reg [nq 60 (.load true 8 (.s 2)),⟨none,.store 8 (.s 4) (.s 60),none⟩] [4])
 .ret))))
def Qz:Fn:=⟨2,[.cell 4 true 8],false,false,zjb⟩
def zjJ:Fn:=⟨2,[.cell 4 true 8],false,false,zq zbW⟩
def QY:PC:=
 (.seq
 (.reg (.box 8 1 (.s 0)<|
 oq 2 (.mv kf)<|
 .nil) [1])
 (.seq
 (.reg (oq 3 (.alloc [.int .i64 0])<|
 oz (.store 1 (.s 3) (ki 2000))<|
 .nil) [1,3])
 (.seq
 (.reg (oq 4 (.load true 8 (.s 1))<|
 oq 5 (.call xF [.s 4,(ki 1),.s 3])<|
 om 2 5<|
 .nil) [2])
 .ret)))
def Jo:PFn:=⟨[.tmp 2],QY,false⟩
def Zf:Fn:=⟨1,[.tmp 2],false,false,zq QY⟩
def zah:PC:=
 (.seq
 (.reg (oq 2 (.mv kf)<|
 .nil) [0])
 (.seq
 (.reg (om 3 0<|
 oq 4 (.len (.s 3))<|
 oq 5 (.bin .leq (.s 4) (ki 60))<|
 om 6 5<|
 .grp 6 true (om 7 0<|
 oq 8 (.call zv [.s 7,(.k (.fn xA []))])<|
 oq 9 (.un .not (.s 8))<|
 .nil) 10 (.s 9) kf<|
 om 2 10<|
 .nil) [2])
 .ret))
def KM:PFn:=⟨[.tmp 2],zah,false⟩
def Yb:Fn:=⟨1,[.tmp 2],false,false,zq zah⟩
def zbu:PC:=
 (.seq
 (.reg (.box 8 2 (.s 0)<|
 oq 4 (.mv kf)<|
 .nil) [1,2])
 (.seq
 (.reg (oq 5 (.load true 8 (.s 2))<|
 oq 6 (.call xz [.s 5])<|
 om 7 1<|
 oq 8 (.bin .leq (.s 6) (.s 7))<|
 om 9 8<|
 .grp 9 true (oq 10 (.load true 8 (.s 2))<|
 oq 11 (.call xN [.s 10])<|
 oq 12 (.bin .leq (.s 11) (ki 2000))<|
 .nil) 13 (.s 12) kf<|
 om 14 13<|
 .grp 14 true (oq 15 (.load true 8 (.s 2))<|
 oq 16 (.call xL [.s 15])<|
 oq 17 (.bin .leq (.s 16) (ki 64))<|
 .nil) 18 (.s 17) kf<|
 om 19 18<|
 .grp 19 true (oq 20 (.load true 8 (.s 2))<|
 oq 21 (.call qv [.s 20])<|
 .nil) 22 (.s 21) kf<|
 om 4 22<|
 .nil) [4])
 .ret))
def zcU:PFn:=⟨[.tmp 4],zbu,false⟩
def XA:Fn:=⟨2,[.tmp 4],false,false,zq zbu⟩
def zer:PC:=
 (.seq
 (.reg (.box 8 3 (.s 0)<|
 .box 8 5 (.s 2)<|
 oq 6 (.alloc zt8)<|
 .nil) [1,3,5,6])
 (.seq
 (.seq
 (.reg (om 12 1<|
 oq 13 (.len (.s 12))<|
 oq 14 (.bin .eql (.s 13) (ki 0))<|
 .nil) [1,3,5,6,14])
 (.cond (.s 14)
 (.seq
 (.reg (oq 15 (.load true 8 (.s 5))<|
 oz (.store 8 (.s 6) (.s 15))<|
 .nil) [6])
 .ret)
 .skip))
 (.seq
 (.reg (om 17 1<|
 oq 18 (.call xS [.s 17])<|
 om 16 18<|
 oq 19 (.ext (.s 16) 0)<|
 oq 20 (.ext (.s 16) 1)<|
 om 7 19<|
 om 8 20<|
 .nil) [3,5,6,7,8])
 (.seq
 (.seq
 (.reg (oq 21 (.load true 8 (.s 3))<|
 om 22 7<|
 oq 1000000 (.call xr [.s 21,.s 22])<|
 oq 1000001 (.ext (.s 1000000) 0)<|
 .nil) [1000000,1000001,9,23,3,5,6,7,8,9])
 (.cond (.s 1000001)
 (.reg (oq 23 (.ext (.s 1000000) 1)<|
 oq 9 (.alloc zt8)<|
 oz (.store 8 (.s 9) (.s 23))<|
 .nil) [3,5,6,7,8,9])
 (.seq
 (.reg (oq 1000000 (.ext (.s 1000000) 1)<|
 .nil) [1000000])
 (.exit 1000000))))
 (.seq
 (.seq
 (.reg (oq 24 (.fad 0 (.s 9))<|
 ol 25 24<|
 .nil) [3,5,6,7,8,9,25])
 (.blk 0
 (.seq
 (.reg (oq 27 (.bin .eql (.s 25) (ki 7))<|
 om 26 27<|
 .nil) [3,5,6,7,8,9,25,26])
 (.cond (.s 26)
 (.seq
 (.seq
 (.drw (.nil)
 (oq 28 (.load true 8 (.s 3))<|
 om 29 7<|
 oq 30 (.load true 8 (.s 9))<|
 om 31 8<|
 oq 32 (.load true 8 (.s 5))<|
 oq 33 (.call vj [.s 30,.s 31,.s 32])<|
 .nil)
 (oq 1000000 (.call wu [.s 28,.s 29,.s 33])<|
 oq 1000001 (.ext (.s 1000000) 0)<|
 .nil) [1000000,1000001,6,34,6])
 (.cond (.s 1000001)
 (.reg (oq 34 (.ext (.s 1000000) 1)<|
 oz (.store 8 (.s 6) (.s 34))<|
 .nil) [6])
 (.seq
 (.reg (oq 1000000 (.ext (.s 1000000) 1)<|
 .nil) [1000000])
 (.exit 1000000))))
 .ret)
 (.seq
 (.reg (oq 36 (.bin .eql (.s 25) (ki 6))<|
 om 35 36<|
 .nil) [3,5,6,7,8,9,35])
 (.cond (.s 35)
 (.seq
 (.reg (om 38 8<|
 oq 39 (.fad 7 (.s 9))<|
 ol 40 39<|
 oq 41 (.len (.s 40))<|
 oq 42 (.call ye [.s 38,.s 41])<|
 om 37 42<|
 oq 43 (.ext (.s 37) 0)<|
 oq 44 (.ext (.s 37) 1)<|
 om 10 43<|
 om 11 44<|
 .nil) [3,5,6,7,8,9,10,11])
 (.seq
 (.cut ⟨[(3,.same),(5,.same),(6,.same),(7,.same),(8,.same),(9,.same),(10,.v),(11,.v)],[.same,.same,.same,.same]⟩ [(.nrm,⟨[(3,.same),(5,.same),(6,.same),(7,.same),(9,.same),(10,.v),(11,.v)],[.same,.same,.same,.same]⟩)]
 (.seq
 (.reg (om 45 8<|
 oq 46 (.bin .eql (.s 45) (.k (.str [45])))<|
 .nil) [3,5,6,7,9,10,11,46])
 (.cond (.s 46)
 (.reg (oq 47 (.fad 7 (.s 9))<|
 ol 48 47<|
 oq 49 (.len (.s 48))<|
 om 10 49<|
 oq 11 (.mv kt)<|
 .nil) [3,5,6,7,9,10,11])
 .skip)))
 (.seq
 (.seq
 (.reg (om 50 11<|
 oq 1000000 (.call zt [.s 50])<|
 oq 1000001 (.ext (.s 1000000) 0)<|
 .nil) [1000000,1000001,3,5,6,7,9,10])
 (.cond (.s 1000001)
 (.reg (oq 51 (.ext (.s 1000000) 1)<|
 .nil) [3,5,6,7,9,10])
 (.seq
 (.reg (oq 1000000 (.ext (.s 1000000) 1)<|
 .nil) [1000000])
 (.exit 1000000))))
 (.seq
 (.seq
 (.drw (.nil)
 (oq 52 (.load true 8 (.s 3))<|
 om 53 7<|
 oq 54 (.fad 7 (.s 9))<|
 ol 55 54<|
 om 56 10<|
 oq 57 (.slc 8 (.s 55) none (some (.s 56)) none)<|
 oq 58 (.load true 8 (.s 5))<|
 oq 59 (.lit 1 zt8 [(0,8,(.s 58))])<|
 oq 60 (.fad 7 (.s 9))<|
 ol 61 60<|
 om 62 10<|
 oq 63 (.slc 8 (.s 61) (some (.s 62)) none none)<|
 oq 64 (.lit 3 [(.sl .full 0 [])] [(0,1,(.s 57)),(1,1,(.s 59)),(2,1,(.s 63))])<|
 oq 65 (.call z7 [.s 64])<|
 oq 66 (.build zt8 [(0,1,(ki 6)),(7,1,(.s 65))])<|
 .nil)
 (oq 1000000 (.call wu [.s 52,.s 53,.s 66])<|
 oq 1000001 (.ext (.s 1000000) 0)<|
 .nil) [1000000,1000001,6,67,6])
 (.cond (.s 1000001)
 (.reg (oq 67 (.ext (.s 1000000) 1)<|
 oz (.store 8 (.s 6) (.s 67))<|
 .nil) [6])
 (.seq
 (.reg (oq 1000000 (.ext (.s 1000000) 1)<|
 .nil) [1000000])
 (.exit 1000000))))
 .ret))))
 .skip))))))
 (.seq
 (.reg (oq 68 (.build [] [])<|
 oq 69 (.ifc 52 (.s 68))<|
 om 1000000 69<|
 oq 1000001 (.inil true (.s 1000000))<|
 .nil) [1000000,1000001])
 (.cond (.s 1000001)
 (.exit 1000000)
 (.exit 1000002))))))))
def ze5:PFn:=⟨[.cell 6 true 8],zer,true⟩
def zml:C:=
 (.seq
 (.reg [nq 3 (.box (.s 0)),nq 5 (.box (.s 2)),nq 6 (.alloc zt8)] [1,3,5,6])
 (.seq
 (.seq
 (.reg [nm 12 1,nq 13 (.len (.s 12)),nq 14 (.bin .eql (.s 13) (ki 0))] [1,3,5,6,14])
 (.cond (.s 14)
 (.seq
 (.reg [nq 15 (.load true 8 (.s 5)),⟨none,.store 8 (.s 6) (.s 15),none⟩] [6])
 .ret)
 .skip))
 (.seq
 (.reg [nm 17 1,nq 18 (.call xS [.s 17]),nm 16 18,nq 19 (.ext (.s 16) 0),nq 20 (.ext (.s 16) 1),nm 7 19,nm 8 20] [3,5,6,7,8])
 (.seq
 (.reg [nq 21 (.load true 8 (.s 3)),nm 22 7,nq 23 (.call wr [.s 21,.s 22]),nq 9 (.alloc zt8),⟨none,.store 8 (.s 9) (.s 23),none⟩] [3,5,6,7,8,9])
 (.seq
 (.seq
 (.reg [nq 24 (.fad 0 (.s 9)),nq 25 (.load false 1 (.s 24))] [3,5,6,7,8,9,25])
 (.blk 0
 (.seq
 (.reg [nq 27 (.bin .eql (.s 25) (ki 7)),nm 26 27] [3,5,6,7,8,9,25,26])
 (.cond (.s 26)
 (.seq
 (.drw []
 [nq 28 (.load true 8 (.s 3)),nm 29 7,nq 30 (.load true 8 (.s 9)),nm 31 8,nq 32 (.load true 8 (.s 5)),nq 33 (.call vj [.s 30,.s 31,.s 32])]
 []
 [nq 34 (.call ji [.s 28,.s 29,.s 33]),⟨none,.store 8 (.s 6) (.s 34),none⟩] [6])
 .ret)
 (.seq
 (.reg [nq 36 (.bin .eql (.s 25) (ki 6)),nm 35 36] [3,5,6,7,8,9,35])
 (.cond (.s 35)
 (.seq
 (.reg [nm 38 8,nq 39 (.fad 7 (.s 9)),nq 40 (.load false 1 (.s 39)),nq 41 (.len (.s 40)),nq 42 (.call ye [.s 38,.s 41]),nm 37 42,nq 43 (.ext (.s 37) 0),nq 44 (.ext (.s 37) 1),nm 10 43,nm 11 44] [3,5,6,7,8,9,10,11])
 (.seq
 (.seq
 (.reg [nm 45 8,nq 46 (.bin .eql (.s 45) (.k (.str [45])))] [3,5,6,7,9,10,11,46])
 (.cond (.s 46)
 (.reg [nq 47 (.fad 7 (.s 9)),nq 48 (.load false 1 (.s 47)),nq 49 (.len (.s 48)),nm 10 49,nq 11 (.mv kt)] [3,5,6,7,9,10,11])
 .skip))
 (.seq
 (.reg [nm 50 11,nq 51 (.call vG [.s 50])] [3,5,6,7,9,10])
 (.seq
 (.drw []
 [nq 52 (.load true 8 (.s 3)),nm 53 7,nq 54 (.fad 7 (.s 9)),nq 55 (.load false 1 (.s 54)),nm 56 10,nq 57 (.slc 8 (.s 55) none (some (.s 56)) none),nq 58 (.load true 8 (.s 5)),nq 59 (.lit 1 zt8 [(0,8,(.s 58))]),nq 60 (.fad 7 (.s 9)),nq 61 (.load false 1 (.s 60)),nm 62 10,nq 63 (.slc 8 (.s 61) (some (.s 62)) none none),nq 64 (.lit 3 [(.sl .full 0 [])] [(0,1,(.s 57)),(1,1,(.s 59)),(2,1,(.s 63))]),nq 65 (.call z7 [.s 64]),nq 66 (.build zt8 [(0,1,(ki 6)),(7,1,(.s 65))])]
 []
 [nq 67 (.call ji [.s 52,.s 53,.s 66]),⟨none,.store 8 (.s 6) (.s 67),none⟩] [6])
 .ret))))
 .skip))))))
 (.reg [nq 68 (.build [] []),nq 69 (.ifc 52 (.s 68)),⟨none,.pan (.s 69),none⟩] [6]))))))
def J9:Fn:=⟨3,[.cell 6 true 8],false,false,zml⟩
def zlW:Fn:=⟨3,[.cell 6 true 8],false,false,zq zer⟩
def JA:PC:=
 (.seq
 (.reg (.box 8 2 (.s 0)<|
 oq 4 (.alloc zt8)<|
 .nil) [1,2,4])
 (.seq
 (.seq
 (.reg (om 10 1<|
 oq 11 (.len (.s 10))<|
 oq 12 (.bin .gtr (.s 11) (ki 0))<|
 oq 1000000 (.call zt [.s 12])<|
 oq 1000001 (.ext (.s 1000000) 0)<|
 .nil) [1000000,1000001,1,2,4])
 (.cond (.s 1000001)
 (.reg (oq 13 (.ext (.s 1000000) 1)<|
 .nil) [1,2,4])
 (.seq
 (.reg (oq 1000000 (.ext (.s 1000000) 1)<|
 .nil) [1000000])
 (.exit 1000000))))
 (.seq
 (.seq
 (.reg (oq 14 (.load true 8 (.s 2))<|
 om 15 1<|
 oq 1000000 (.call xr [.s 14,.s 15])<|
 oq 1000001 (.ext (.s 1000000) 0)<|
 .nil) [1000000,1000001,1,2,4])
 (.cond (.s 1000001)
 (.reg (oq 16 (.ext (.s 1000000) 1)<|
 .nil) [1,2,4])
 (.seq
 (.reg (oq 1000000 (.ext (.s 1000000) 1)<|
 .nil) [1000000])
 (.exit 1000000))))
 (.seq
 (.reg (om 18 1<|
 oq 19 (.call xS [.s 18])<|
 om 17 19<|
 oq 20 (.ext (.s 17) 0)<|
 oq 21 (.ext (.s 17) 1)<|
 om 5 20<|
 om 6 21<|
 .nil) [2,4,5,6])
 (.seq
 (.seq
 (.reg (oq 22 (.load true 8 (.s 2))<|
 om 23 5<|
 oq 1000000 (.call xr [.s 22,.s 23])<|
 oq 1000001 (.ext (.s 1000000) 0)<|
 .nil) [1000000,1000001,7,24,2,4,5,6,7])
 (.cond (.s 1000001)
 (.reg (oq 24 (.ext (.s 1000000) 1)<|
 oq 7 (.alloc zt8)<|
 oz (.store 8 (.s 7) (.s 24))<|
 .nil) [2,4,5,6,7])
 (.seq
 (.reg (oq 1000000 (.ext (.s 1000000) 1)<|
 .nil) [1000000])
 (.exit 1000000))))
 (.seq
 (.seq
 (.reg (oq 25 (.fad 0 (.s 7))<|
 ol 26 25<|
 oq 27 (.bin .eql (.s 26) (ki 7))<|
 .nil) [2,4,5,6,7,27])
 (.cond (.s 27)
 (.seq
 (.seq
 (.drw (.nil)
 (oq 28 (.load true 8 (.s 2))<|
 om 29 5<|
 oq 30 (.load true 8 (.s 7))<|
 om 31 6<|
 oq 32 (.call w7 [.s 30,.s 31])<|
 .nil)
 (oq 1000000 (.call wu [.s 28,.s 29,.s 32])<|
 oq 1000001 (.ext (.s 1000000) 0)<|
 .nil) [1000000,1000001,4,33,4])
 (.cond (.s 1000001)
 (.reg (oq 33 (.ext (.s 1000000) 1)<|
 oz (.store 8 (.s 4) (.s 33))<|
 .nil) [4])
 (.seq
 (.reg (oq 1000000 (.ext (.s 1000000) 1)<|
 .nil) [1000000])
 (.exit 1000000))))
 .ret)
 .skip))
 (.seq
 (.reg (om 35 6<|
 oq 36 (.fad 7 (.s 7))<|
 ol 37 36<|
 oq 38 (.len (.s 37))<|
 oq 39 (.call ye [.s 35,.s 38])<|
 om 34 39<|
 oq 40 (.ext (.s 34) 0)<|
 oq 41 (.ext (.s 34) 1)<|
 om 8 40<|
 om 9 41<|
 .nil) [2,4,5,7,8])
 (.seq
 (.seq
 (.drw (.nil)
 (oq 42 (.load true 8 (.s 2))<|
 om 43 5<|
 oq 44 (.fad 7 (.s 7))<|
 ol 45 44<|
 om 46 8<|
 oq 47 (.slc 8 (.s 45) none (some (.s 46)) none)<|
 oq 48 (.fad 7 (.s 7))<|
 ol 49 48<|
 om 50 8<|
 oq 51 (.bin .add (.s 50) (ki 1))<|
 oq 52 (.slc 8 (.s 49) (some (.s 51)) none none)<|
 oq 53 (.lit 2 [(.sl .full 0 [])] [(0,1,(.s 47)),(1,1,(.s 52))])<|
 oq 54 (.call z7 [.s 53])<|
 oq 55 (.build zt8 [(0,1,(ki 6)),(7,1,(.s 54))])<|
 .nil)
 (oq 1000000 (.call wu [.s 42,.s 43,.s 55])<|
 oq 1000001 (.ext (.s 1000000) 0)<|
 .nil) [1000000,1000001,4,56,4])
 (.cond (.s 1000001)
 (.reg (oq 56 (.ext (.s 1000000) 1)<|
 oz (.store 8 (.s 4) (.s 56))<|
 .nil) [4])
 (.seq
 (.reg (oq 1000000 (.ext (.s 1000000) 1)<|
 .nil) [1000000])
 (.exit 1000000))))
 .ret))))))))
def JR:PFn:=⟨[.cell 4 true 8],JA,true⟩
def zfM:C:=
 (.seq
 (.reg [nq 2 (.box (.s 0)),nq 4 (.alloc zt8)] [1,2,4])
 (.seq
 (.reg [nm 10 1,nq 11 (.len (.s 10)),nq 12 (.bin .gtr (.s 11) (ki 0)),nq 13 (.call vG [.s 12])] [1,2,4])
 (.seq
 (.reg [nq 14 (.load true 8 (.s 2)),nm 15 1,nq 16 (.call wr [.s 14,.s 15])] [1,2,4])
 (.seq
 (.reg [nm 18 1,nq 19 (.call xS [.s 18]),nm 17 19,nq 20 (.ext (.s 17) 0),nq 21 (.ext (.s 17) 1),nm 5 20,nm 6 21] [2,4,5,6])
 (.seq
 (.reg [nq 22 (.load true 8 (.s 2)),nm 23 5,nq 24 (.call wr [.s 22,.s 23]),nq 7 (.alloc zt8),⟨none,.store 8 (.s 7) (.s 24),none⟩] [2,4,5,6,7])
 (.seq
 (.seq
 (.reg [nq 25 (.fad 0 (.s 7)),nq 26 (.load false 1 (.s 25)),nq 27 (.bin .eql (.s 26) (ki 7))] [2,4,5,6,7,27])
 (.cond (.s 27)
 (.seq
 (.drw []
 [nq 28 (.load true 8 (.s 2)),nm 29 5,nq 30 (.load true 8 (.s 7)),nm 31 6,nq 32 (.call w7 [.s 30,.s 31])]
 []
 [nq 33 (.call ji [.s 28,.s 29,.s 32]),⟨none,.store 8 (.s 4) (.s 33),none⟩] [4])
 .ret)
 .skip))
 (.seq
 (.reg [nm 35 6,nq 36 (.fad 7 (.s 7)),nq 37 (.load false 1 (.s 36)),nq 38 (.len (.s 37)),nq 39 (.call ye [.s 35,.s 38]),nm 34 39,nq 40 (.ext (.s 34) 0),nq 41 (.ext (.s 34) 1),nm 8 40,nm 9 41] [2,4,5,7,8])
 (.seq
 (.drw []
 [nq 42 (.load true 8 (.s 2)),nm 43 5,nq 44 (.fad 7 (.s 7)),nq 45 (.load false 1 (.s 44)),nm 46 8,nq 47 (.slc 8 (.s 45) none (some (.s 46)) none),nq 48 (.fad 7 (.s 7)),nq 49 (.load false 1 (.s 48)),nm 50 8,nq 51 (.bin .add (.s 50) (ki 1)),nq 52 (.slc 8 (.s 49) (some (.s 51)) none none),nq 53 (.lit 2 [(.sl .full 0 [])] [(0,1,(.s 47)),(1,1,(.s 52))]),nq 54 (.call z7 [.s 53]),nq 55 (.build zt8 [(0,1,(ki 6)),(7,1,(.s 54))])]
 []
 [nq 56 (.call ji [.s 42,.s 43,.s 55]),⟨none,.store 8 (.s 4) (.s 56),none⟩] [4])
 .ret))))))))
def XZ:Fn:=⟨2,[.cell 4 true 8],false,false,zfM⟩
def zfr:Fn:=⟨2,[.cell 4 true 8],false,false,zq JA⟩
def zd6:PC:=
 (.seq
 (.reg (.box 8 3 (.s 0)<|
 .box 8 5 (.s 2)<|
 oq 6 (.alloc zt8)<|
 .nil) [1,3,5,6])
 (.seq
 (.reg (oq 9 (.load true 8 (.s 3))<|
 om 10 1<|
 oq 11 (.load true 8 (.s 5))<|
 oq 12 (.call xy [.s 9,.s 10,.s 11])<|
 om 8 12<|
 oq 13 (.ext (.s 8) 0)<|
 oq 14 (.ext (.s 8) 1)<|
 oz (.store 8 (.s 3) (.s 13))<|
 om 7 14<|
 .nil) [3,6,7])
 (.seq
 (.seq
 (.reg (om 15 7<|
 oq 1000000 (.call zt [.s 15])<|
 oq 1000001 (.ext (.s 1000000) 0)<|
 .nil) [1000000,1000001,3,6])
 (.cond (.s 1000001)
 (.reg (oq 16 (.ext (.s 1000000) 1)<|
 .nil) [3,6])
 (.seq
 (.reg (oq 1000000 (.ext (.s 1000000) 1)<|
 .nil) [1000000])
 (.exit 1000000))))
 (.seq
 (.reg (oq 17 (.load true 8 (.s 3))<|
 oz (.store 8 (.s 6) (.s 17))<|
 .nil) [6])
 .ret))))
def zeq:PFn:=⟨[.cell 6 true 8],zd6,true⟩
def zli:C:=
 (.seq
 (.reg [nq 3 (.box (.s 0)),nq 5 (.box (.s 2)),nq 6 (.alloc zt8)] [1,3,5,6])
 (.seq
 (.reg [nq 9 (.load true 8 (.s 3)),nm 10 1,nq 11 (.load true 8 (.s 5)),nq 12 (.call xy [.s 9,.s 10,.s 11]),nm 8 12,nq 13 (.ext (.s 8) 0),nq 14 (.ext (.s 8) 1),⟨none,.store 8 (.s 3) (.s 13),none⟩,nm 7 14] [3,6,7])
 (.seq
 (.reg [nm 15 7,nq 16 (.call vG [.s 15])] [3,6])
 (.seq
 (.reg [nq 17 (.load true 8 (.s 3)),⟨none,.store 8 (.s 6) (.s 17),none⟩] [6])
 .ret))))
def JX:Fn:=⟨3,[.cell 6 true 8],false,false,zli⟩
def zms:Fn:=⟨3,[.cell 6 true 8],false,false,zq zd6⟩
def zby:PC:=
 (.seq
 (.reg (.box 8 3 (.s 0)<|
 oq 6 (.alloc zt8)<|
 .nil) [1,2,3,6])
 (.seq
 (.seq
 (.reg (oq 8 (.load true 8 (.s 3))<|
 om 9 1<|
 oq 1000000 (.call xr [.s 8,.s 9])<|
 oq 1000001 (.ext (.s 1000000) 0)<|
 .nil) [1000000,1000001,7,10,1,2,3,6,7])
 (.cond (.s 1000001)
 (.reg (oq 10 (.ext (.s 1000000) 1)<|
 oq 7 (.alloc zt8)<|
 oz (.store 8 (.s 7) (.s 10))<|
 .nil) [1,2,3,6,7])
 (.seq
 (.reg (oq 1000000 (.ext (.s 1000000) 1)<|
 .nil) [1000000])
 (.exit 1000000))))
 (.seq
 (.seq
 (.reg (om 11 1<|
 om 12 2<|
 oq 13 (.call ya [.s 11,.s 12])<|
 .nil) [1,2,3,6,7,13])
 (.cond (.s 13)
 (.seq
 (.reg (oq 14 (.load true 8 (.s 3))<|
 oz (.store 8 (.s 6) (.s 14))<|
 .nil) [6])
 .ret)
 .skip))
 (.seq
 (.seq
 (.reg (om 15 1<|
 oq 16 (.len (.s 15))<|
 oq 17 (.bin .gtr (.s 16) (ki 0))<|
 om 18 17<|
 .grp 18 true (om 19 1<|
 om 20 2<|
 oq 21 (.call y3 [.s 19,.s 20])<|
 oq 22 (.un .not (.s 21))<|
 .nil) 23 (.s 22) kf<|
 oq 1000000 (.call zt [.s 23])<|
 oq 1000001 (.ext (.s 1000000) 0)<|
 .nil) [1000000,1000001,1,2,3,6,7])
 (.cond (.s 1000001)
 (.reg (oq 24 (.ext (.s 1000000) 1)<|
 .nil) [1,2,3,6,7])
 (.seq
 (.reg (oq 1000000 (.ext (.s 1000000) 1)<|
 .nil) [1000000])
 (.exit 1000000))))
 (.seq
 (.seq
 (.drw (.nil)
 (oq 25 (.load true 8 (.s 3))<|
 om 26 1<|
 om 28 2<|
 oq 29 (.load true 8 (.s 7))<|
 oq 1000000 (.call vE [.s 25,.s 26])<|
 .nil)
 (oq 1000001 (.ext (.s 1000000) 0)<|
 .nil) [1000000,1000001,27,28,29,6,30,6])
 (.cond (.s 1000001)
 (.seq
 (.reg (oq 27 (.ext (.s 1000000) 1)<|
 oq 1000000 (.call qD [.s 27,.s 28,.s 29])<|
 oq 1000001 (.ext (.s 1000000) 0)<|
 .nil) [1000000,1000001,6,30,6])
 (.cond (.s 1000001)
 (.reg (oq 30 (.ext (.s 1000000) 1)<|
 oz (.store 8 (.s 6) (.s 30))<|
 .nil) [6])
 (.seq
 (.reg (oq 1000000 (.ext (.s 1000000) 1)<|
 .nil) [1000000])
 (.exit 1000000))))
 (.seq
 (.reg (oq 1000000 (.ext (.s 1000000) 1)<|
 .nil) [1000000])
 (.exit 1000000))))
 .ret)))))
def zbf:PFn:=⟨[.cell 6 true 8],zby,true⟩
def zjq:C:=
 (.seq
 (.reg [nq 3 (.box (.s 0)),nq 6 (.alloc zt8)] [1,2,3,6])
 (.seq
 (.reg [nq 8 (.load true 8 (.s 3)),nm 9 1,nq 10 (.call wr [.s 8,.s 9]),nq 7 (.alloc zt8),⟨none,.store 8 (.s 7) (.s 10),none⟩] [1,2,3,6,7])
 (.seq
 (.seq
 (.reg [nm 11 1,nm 12 2,nq 13 (.call ya [.s 11,.s 12])] [1,2,3,6,7,13])
 (.cond (.s 13)
 (.seq
 (.reg [nq 14 (.load true 8 (.s 3)),⟨none,.store 8 (.s 6) (.s 14),none⟩] [6])
 .ret)
 .skip))
 (.seq
 (.reg [nm 15 1,nq 16 (.len (.s 15)),nq 17 (.bin .gtr (.s 16) (ki 0)),nm 18 17,⟨some 19,.mv (.s 1),some (18,true)⟩,⟨some 20,.mv (.s 2),some (18,true)⟩,⟨some 21,.call y3 [.s 19,.s 20],some (18,true)⟩,⟨some 22,.un .not (.s 21),some (18,true)⟩,nq 23 (.pick (.s 18) (.s 22) kf),nq 24 (.call vG [.s 23])] [1,2,3,6,7])
 (.seq
 (.drw []
 [nq 25 (.load true 8 (.s 3)),nm 26 1,nm 28 2,nq 29 (.load true 8 (.s 7)),nq 27 (.call jt [.s 25,.s 26])]
 []
 [nq 30 (.call Zo [.s 27,.s 28,.s 29]),⟨none,.store 8 (.s 6) (.s 30),none⟩] [6])
 .ret)))))
def Qw:Fn:=⟨3,[.cell 6 true 8],false,false,zjq⟩
def zi7:Fn:=⟨3,[.cell 6 true 8],false,false,zq zby⟩
def zd0:PC:=
 (.seq
 (.reg (.box 8 2 (.s 0)<|
 oq 4 (.alloc zt8)<|
 .nil) [1,2,4])
 (.seq
 (.reg (oq 8 (.load true 8 (.s 2))<|
 om 9 1<|
 oq 10 (.call wo [.s 8,.s 9])<|
 om 7 10<|
 oq 11 (.ext (.s 7) 0)<|
 oq 12 (.ext (.s 7) 1)<|
 oq 5 (.alloc zt8)<|
 oz (.store 8 (.s 5) (.s 11))<|
 om 6 12<|
 .nil) [4,5,6])
 (.seq
 (.seq
 (.reg (om 13 6<|
 oq 1000000 (.call zt [.s 13])<|
 oq 1000001 (.ext (.s 1000000) 0)<|
 .nil) [1000000,1000001,4,5])
 (.cond (.s 1000001)
 (.reg (oq 14 (.ext (.s 1000000) 1)<|
 .nil) [4,5])
 (.seq
 (.reg (oq 1000000 (.ext (.s 1000000) 1)<|
 .nil) [1000000])
 (.exit 1000000))))
 (.seq
 (.reg (oq 15 (.load true 8 (.s 5))<|
 oz (.store 8 (.s 4) (.s 15))<|
 .nil) [4])
 .ret))))
def zeQ:PFn:=⟨[.cell 4 true 8],zd0,true⟩
def zlF:C:=
 (.seq
 (.reg [nq 2 (.box (.s 0)),nq 4 (.alloc zt8)] [1,2,4])
 (.seq
 (.reg [nq 8 (.load true 8 (.s 2)),nm 9 1,nq 10 (.call wo [.s 8,.s 9]),nm 7 10,nq 11 (.ext (.s 7) 0),nq 12 (.ext (.s 7) 1),nq 5 (.alloc zt8),⟨none,.store 8 (.s 5) (.s 11),none⟩,nm 6 12] [4,5,6])
 (.seq
 (.reg [nm 13 6,nq 14 (.call vG [.s 13])] [4,5])
 (.seq
 (.reg [nq 15 (.load true 8 (.s 5)),⟨none,.store 8 (.s 4) (.s 15),none⟩] [4])
 .ret))))
def Ku:Fn:=⟨2,[.cell 4 true 8],false,false,zlF⟩
def zls:Fn:=⟨2,[.cell 4 true 8],false,false,zq zd0⟩
def zdq:PC:=
 (.seq
 (.reg (om 2 0<|
 oq 3 (.un .not (.s 2))<|
 .nil) [3])
 (.cond (.s 3)
 (.seq
 (.reg (oq 4 (.build [] [])<|
 oq 5 (.ifc 52 (.s 4))<|
 om 1000000 5<|
 oq 1000001 (.inil true (.s 1000000))<|
 .nil) [1000000,1000001])
 (.cond (.s 1000001)
 (.exit 1000000)
 (.exit 1000002)))
 .skip))
def zcL:PFn:=⟨[],zdq,true⟩
def zjB:C:=
 (.seq
 (.reg [nm 2 0,nq 3 (.un .not (.s 2))] [3])
 (.cond (.s 3)
 (.reg [nq 4 (.build [] []),nq 5 (.ifc 52 (.s 4)),⟨none,.pan (.s 5),none⟩] [])
 .skip))
def Qs:Fn:=⟨1,[],false,false,zjB⟩
def ziW:Fn:=⟨1,[],false,false,zq zdq⟩
def K5:PC:=
 (.seq
 (.reg (.box 8 2 (.s 0)<|
 .box 8 3 (.s 1)<|
 oq 4 (.mv kf)<|
 .nil) [2,3])
 (.seq
 (.seq
 (.reg (oq 5 (.fad 0 (.s 2))<|
 ol 6 5<|
 oq 7 (.fad 0 (.s 3))<|
 ol 8 7<|
 oq 9 (.bin .neq (.s 6) (.s 8))<|
 .nil) [2,3,9])
 (.cond (.s 9)
 (.seq
 (.reg (oq 4 (.mv kf)<|
 .nil) [4])
 .ret)
 .skip))
 (.seq
 (.seq
 (.reg (oq 10 (.fad 0 (.s 2))<|
 ol 11 10<|
 .nil) [2,3,11])
 (.blk 0
 (.seq
 (.blk 6
 (.seq
 (.blk 5
 (.seq
 (.cut ⟨[(2,.same),(3,.same),(11,.same)],[.same,.same]⟩ [(.ext 0,⟨[],[.same,.same]⟩),(.ext 5,⟨[(2,.same),(3,.same)],[.same,.same]⟩),(.ext 6,⟨[(2,.same),(3,.same)],[.same,.same]⟩),(.nrm,⟨[(2,.same),(3,.same)],[.same,.same]⟩),(.ret,⟨[(4,.v)],[.same,.same]⟩)]
 (.blk 4
 (.blk 3
 (.seq
 (.blk 2
 (.seq
 (.blk 1
 (.seq
 (.seq
 (.seq
 (.reg (oq 13 (.bin .eql (.s 11) (ki 2))<|
 om 12 13<|
 .nil) [2,3,11,12])
 (.cond (.s 12)
 (.exit 1)
 .skip))
 (.seq
 (.seq
 (.reg (oq 15 (.bin .eql (.s 11) (ki 3))<|
 om 14 15<|
 .nil) [2,3,11,14])
 (.cond (.s 14)
 (.exit 2)
 .skip))
 (.seq
 (.seq
 (.reg (oq 17 (.bin .eql (.s 11) (ki 4))<|
 om 16 17<|
 .nil) [2,3,11,16])
 (.cond (.s 16)
 (.exit 3)
 .skip))
 (.seq
 (.seq
 (.reg (oq 19 (.bin .eql (.s 11) (ki 5))<|
 om 18 19<|
 .nil) [2,3,11,18])
 (.cond (.s 18)
 (.exit 4)
 .skip))
 (.seq
 (.seq
 (.reg (oq 21 (.bin .eql (.s 11) (ki 7))<|
 om 20 21<|
 .nil) [2,3,11,20])
 (.cond (.s 20)
 (.exit 5)
 .skip))
 (.seq
 (.reg (oq 23 (.bin .eql (.s 11) (ki 6))<|
 om 22 23<|
 .nil) [2,3,22])
 (.cond (.s 22)
 (.exit 6)
 .skip)))))))
 (.exit 0)))
 (.seq
 (.seq
 (.reg (oq 24 (.fad 1 (.s 2))<|
 ol 25 24<|
 oq 26 (.fad 1 (.s 3))<|
 ol 27 26<|
 oq 28 (.beq false (.s 25) (.s 27))<|
 om 4 28<|
 .nil) [4])
 .ret)
 (.exit 0))))
 (.seq
 (.seq
 (.reg (oq 29 (.fad 2 (.s 2))<|
 oq 30 (.load true 3 (.s 29))<|
 oq 31 (.fad 2 (.s 3))<|
 oq 32 (.load true 3 (.s 31))<|
 oq 33 (.call XF [.s 30,.s 32])<|
 om 4 33<|
 .nil) [4])
 .ret)
 (.exit 0))))))
 (.seq
 (.seq
 (.reg (oq 34 (.fad 5 (.s 2))<|
 ol 35 34<|
 oq 36 (.fad 5 (.s 3))<|
 ol 37 36<|
 oq 38 (.bin .eql (.s 35) (.s 37))<|
 om 4 38<|
 .nil) [4])
 .ret)
 (.exit 0))))
 (.seq
 (.seq
 (.reg (oq 39 (.fad 6 (.s 2))<|
 ol 40 39<|
 oq 41 (.fad 6 (.s 3))<|
 ol 42 41<|
 oq 43 (.call ya [.s 40,.s 42])<|
 om 44 43<|
 .grp 44 true (oq 45 (.fad 7 (.s 2))<|
 ol 46 45<|
 oq 47 (.fad 7 (.s 3))<|
 ol 48 47<|
 oq 49 (.call xI [.s 46,.s 48,(.k (.fn wq []))])<|
 .nil) 50 (.s 49) kf<|
 om 4 50<|
 .nil) [4])
 .ret)
 (.exit 0))))
 (.seq
 (.seq
 (.reg (oq 51 (.fad 7 (.s 2))<|
 ol 52 51<|
 oq 53 (.fad 7 (.s 3))<|
 ol 54 53<|
 oq 55 (.call xI [.s 52,.s 54,(.k (.fn wq []))])<|
 om 4 55<|
 .nil) [4])
 .ret)
 (.exit 0)))))
 (.seq
 (.reg (oq 4 (.mv kt)<|
 .nil) [4])
 .ret))))
def zik:PFn:=⟨[.tmp 4],K5,false⟩
def Yv:Fn:=⟨2,[.tmp 4],false,false,zq K5⟩
def QR:PC:=
 (.seq
 (.reg (.box 8 3 (.s 0)<|
 oq 6 (.mv kf)<|
 .nil) [1,2,3])
 (.seq
 (.reg (om 9 2<|
 oq 10 (.chk (.s 9))<|
 ol 11 10<|
 oq 12 (.bin .sub (.s 11) (ki 1))<|
 oq 13 (.chk (.s 9))<|
 oz (.store 1 (.s 13) (.s 12))<|
 .nil) [1,2,3])
 (.seq
 (.seq
 (.reg (om 14 2<|
 oq 15 (.chk (.s 14))<|
 ol 16 15<|
 oq 17 (.bin .lss (.s 16) (ki 0))<|
 om 18 17<|
 .grp 18 false (om 19 1<|
 oq 20 (.bin .gtr (.s 19) (ki 64))<|
 .nil) 21 (.s 20) kt<|
 om 22 21<|
 .grp 22 false (oq 23 (.load true 8 (.s 3))<|
 oq 24 (.call qn [.s 23])<|
 oq 25 (.un .not (.s 24))<|
 .nil) 26 (.s 25) kt<|
 .nil) [1,2,3,26])
 (.cond (.s 26)
 (.seq
 (.reg (oq 6 (.mv kf)<|
 .nil) [6])
 .ret)
 .skip))
 (.seq
 (.seq
 (.reg (oq 27 (.fad 7 (.s 3))<|
 ol 28 27<|
 oq 29 (.len (.s 28))<|
 oq 30 (.mv (ki 0))<|
 .nil) [1,2,28,29,30])
 (.blk 0
 (.loop ⟨[(1,.same),(2,.same),(28,.same),(29,.same),(30,.v)],[(.cells [.v]),.same]⟩ [(.ext 0,⟨[],[(.cells [.v]),.same]⟩),(.ret,⟨[(6,.v)],[(.cells [.v]),.same]⟩)]
 (.seq
 (.reg (oq 31 (.bin .lss (.s 30) (.s 29))<|
 .nil) [1,2,28,29,30,31])
 (.seq
 (.cond (.s 31)
 .skip
 (.exit 0))
 (.seq
 (.blk 1
 (.seq
 (.reg (oq 32 (.iad 8 (.s 28) (.s 30))<|
 oq 33 (.load true 8 (.s 32))<|
 oq 8 (.alloc zt8)<|
 oz (.store 8 (.s 8) (.s 33))<|
 .nil) [1,2,8,28,29,30])
 (.seq
 (.reg (oq 34 (.load true 8 (.s 8))<|
 om 35 1<|
 oq 36 (.bin .add (.s 35) (ki 1))<|
 om 37 2<|
 oq 38 (.call xF [.s 34,.s 36,.s 37])<|
 oq 39 (.un .not (.s 38))<|
 .nil) [1,2,28,29,30,39])
 (.cond (.s 39)
 (.seq
 (.reg (oq 6 (.mv kf)<|
 .nil) [6])
 .ret)
 .skip))))
 (.reg (oq 40 (.bin .add (.s 30) (ki 1))<|
 om 30 40<|
 .nil) [1,2,28,29,30])))))))
 (.seq
 (.reg (oq 6 (.mv kt)<|
 .nil) [6])
 .ret)))))
def Jq:PFn:=⟨[.tmp 6],QR,false⟩
def Za:Fn:=⟨3,[.tmp 6],false,false,zq QR⟩
def wh:PC:=
 (.seq
 (.reg (oq 4 (.mv kf)<|
 .nil) [0,1])
 (.seq
 (.reg (om 5 0<|
 om 6 1<|
 oq 7 (.call yi [.s 5,.s 6])<|
 oq 8 (.bin .geq (.s 7) (ki 0))<|
 om 4 8<|
 .nil) [4])
 .ret))
def we:PFn:=⟨[.tmp 4],wh,false⟩
def yE:Fn:=⟨2,[.tmp 4],false,false,zq wh⟩
def V6:PC:=
 (.seq
 (.reg (.box 11 1 (.s 0)<|
 oq 2 (.mv kf)<|
 .nil) [1])
 (.seq
 (.reg (oq 3 (.load true 11 (.s 1))<|
 oq 4 (.call vu [.s 3])<|
 oq 5 (.un .not (.s 4))<|
 om 2 5<|
 .nil) [2])
 .ret))
def VP:PFn:=⟨[.tmp 2],V6,false⟩
def kn:Fn:=⟨1,[.tmp 2],false,false,zq V6⟩
def ze8:PC:=
 (.seq
 (.reg (.box 11 1 (.s 0)<|
 oq 2 (.mv kf)<|
 .nil) [1])
 (.seq
 (.drw (.nil)
 (oq 5 (.fad 2 (.s 1))<|
 ol 6 5<|
 oq 7 (.len (.s 6))<|
 oq 8 (.bin .eql (.s 7) (ki 0))<|
 oq 9 (.fad 3 (.s 1))<|
 oq 10 (.load true 8 (.s 9))<|
 oq 11 (.call jd [.s 10])<|
 .nil)
 (om 3 8<|
 om 4 11<|
 .nil) [1,3,4])
 (.seq
 (.cut ⟨[(1,.same),(3,.v),(4,.v)],[.same]⟩ [(.nrm,⟨[(1,.same),(4,.v),(3,.v)],[.same]⟩),(.ret,⟨[(2,.v)],[.same]⟩)]
 (.seq
 (.reg (oq 12 (.fad 0 (.s 1))<|
 ol 13 12<|
 .nil) [1,3,4,13])
 (.blk 0
 (.seq
 (.blk 5
 (.seq
 (.blk 4
 (.seq
 (.cut ⟨[(1,.same),(3,.v),(4,.same),(13,.same)],[.same]⟩ [(.ext 0,⟨[(1,.same),(4,.same),(3,.v)],[.same]⟩),(.ext 4,⟨[(1,.same),(3,.v),(4,.same)],[.same]⟩),(.ext 5,⟨[],[.same]⟩),(.nrm,⟨[(1,.same),(3,.v)],[.same]⟩)]
 (.blk 3
 (.seq
 (.cut ⟨[(1,.same),(3,.same),(4,.same),(13,.same)],[.same]⟩ [(.ext 3,⟨[(1,.same),(3,.same)],[.same]⟩),(.ext 4,⟨[(1,.same),(3,.same),(4,.same)],[.same]⟩),(.ext 5,⟨[],[.same]⟩),(.nrm,⟨[(1,.same),(4,.same)],[.same]⟩)]
 (.blk 2
 (.blk 1
 (.seq
 (.seq
 (.seq
 (.reg (oq 15 (.bin .eql (.s 13) (ki 4))<|
 om 14 15<|
 .nil) [1,3,4,13,14])
 (.cond (.s 14)
 (.exit 1)
 .skip))
 (.seq
 (.seq
 (.reg (oq 17 (.bin .eql (.s 13) (ki 5))<|
 om 16 17<|
 .nil) [1,3,4,13,16])
 (.cond (.s 16)
 (.exit 2)
 .skip))
 (.seq
 (.seq
 (.seq
 (.reg (oq 19 (.bin .eql (.s 13) (ki 1))<|
 om 18 19<|
 .nil) [1,3,4,13,18])
 (.cond (.s 18)
 .skip
 (.seq
 (.reg (oq 20 (.bin .eql (.s 13) (ki 3))<|
 om 18 20<|
 .nil) [1,3,4,13,18])
 (.cond (.s 18)
 .skip
 (.reg (oq 21 (.bin .eql (.s 13) (ki 6))<|
 om 18 21<|
 .nil) [1,3,4,13,18])))))
 (.cond (.s 18)
 (.exit 3)
 .skip))
 (.seq
 (.reg (oq 23 (.bin .eql (.s 13) (ki 2))<|
 om 22 23<|
 .nil) [1,3,4,22])
 (.cond (.s 22)
 (.exit 4)
 .skip)))))
 (.exit 5)))))
 (.seq
 (.reg (oq 24 (.fad 2 (.s 1))<|
 ol 25 24<|
 oq 26 (.call vl [.s 25])<|
 om 3 26<|
 .nil) [1,3,4])
 (.exit 0)))))
 (.seq
 (.reg (oq 27 (.fad 3 (.s 1))<|
 oq 28 (.load true 8 (.s 27))<|
 oq 29 (.call xj [.s 28])<|
 om 4 29<|
 .nil) [1,3,4])
 (.exit 0))))
 (.exit 0)))
 (.seq
 (.seq
 (.reg (oq 2 (.mv kf)<|
 .nil) [2])
 .ret)
 (.exit 0))))))
 (.seq
 (.reg (oq 30 (.fad 1 (.s 1))<|
 ol 31 30<|
 oq 32 (.call vl [.s 31])<|
 om 33 32<|
 .grp 33 true (om 34 3<|
 .nil) 35 (.s 34) kf<|
 om 36 35<|
 .grp 36 true (om 37 4<|
 .nil) 38 (.s 37) kf<|
 om 2 38<|
 .nil) [2])
 .ret))))
def zem:PFn:=⟨[.tmp 2],ze8,false⟩
def Vc:Fn:=⟨1,[.tmp 2],false,false,zq ze8⟩
def VT:PC:=
 (.seq
 (.reg (.box 8 1 (.s 0)<|
 oq 2 (.mv (ki 0))<|
 .nil) [1])
 (.seq
 (.reg (oq 3 (.mv (ki 1))<|
 .nil) [1,3])
 (.seq
 (.cut ⟨[(1,.same),(3,.v)],[.same]⟩ [(.nrm,⟨[(1,.same),(3,.v)],[.same]⟩)]
 (.seq
 (.reg (oq 6 (.fad 0 (.s 1))<|
 ol 7 6<|
 .nil) [1,3,7])
 (.blk 0
 (.seq
 (.reg (oq 9 (.bin .eql (.s 7) (ki 3))<|
 om 8 9<|
 .nil) [1,3,7,8])
 (.cond (.s 8)
 (.reg (om 10 3<|
 oq 11 (.fad 2 (.s 1))<|
 oq 12 (.fad 1 (.s 11))<|
 ol 13 12<|
 oq 14 (.len (.s 13))<|
 oq 15 (.bin .add (.s 10) (.s 14))<|
 om 3 15<|
 .nil) [1,3])
 (.seq
 (.cut ⟨[(1,.same),(3,.same),(7,.same)],[.same]⟩ [(.nrm,⟨[(1,.same),(3,.same),(16,.v)],[.same]⟩)]
 (.seq
 (.reg (oq 17 (.bin .eql (.s 7) (ki 4))<|
 om 16 17<|
 .nil) [1,3,7,16])
 (.cond (.s 16)
 .skip
 (.reg (oq 18 (.bin .eql (.s 7) (ki 5))<|
 om 16 18<|
 .nil) [1,3,16]))))
 (.cond (.s 16)
 (.reg (om 19 3<|
 oq 20 (.fad 5 (.s 1))<|
 ol 21 20<|
 oq 22 (.lns (.s 21))<|
 oq 23 (.bin .add (.s 19) (.s 22))<|
 om 3 23<|
 .nil) [1,3])
 .skip)))))))
 (.seq
 (.seq
 (.reg (oq 24 (.fad 7 (.s 1))<|
 ol 25 24<|
 oq 26 (.len (.s 25))<|
 oq 27 (.mv (ki 0))<|
 .nil) [3,25,26,27])
 (.blk 1
 (.loop ⟨[(3,.v),(25,.same),(26,.same),(27,.v)],[.same]⟩ [(.ext 1,⟨[(3,.v)],[.same]⟩)]
 (.seq
 (.reg (oq 28 (.bin .lss (.s 27) (.s 26))<|
 .nil) [3,25,26,27,28])
 (.seq
 (.cond (.s 28)
 .skip
 (.exit 1))
 (.seq
 (.blk 2
 (.seq
 (.reg (oq 29 (.iad 8 (.s 25) (.s 27))<|
 oq 30 (.load true 8 (.s 29))<|
 oq 5 (.alloc zt8)<|
 oz (.store 8 (.s 5) (.s 30))<|
 .nil) [3,5,25,26,27])
 (.reg (om 31 3<|
 oq 32 (.load true 8 (.s 5))<|
 oq 33 (.call xz [.s 32])<|
 oq 34 (.bin .add (.s 31) (.s 33))<|
 om 3 34<|
 .nil) [3,25,26,27])))
 (.reg (oq 35 (.bin .add (.s 27) (ki 1))<|
 om 27 35<|
 .nil) [3,25,26,27])))))))
 (.seq
 (.reg (om 36 3<|
 om 2 36<|
 .nil) [2])
 .ret)))))
def VZ:PFn:=⟨[.tmp 2],VT,false⟩
def kq:Fn:=⟨1,[.tmp 2],false,false,zq VT⟩
def JS:PC:=
 (.seq
 (.reg (.box 8 1 (.s 0)<|
 oq 2 (.mv (ki 0))<|
 .nil) [1])
 (.seq
 (.reg (oq 3 (.mv (ki 1))<|
 .nil) [1,3])
 (.seq
 (.seq
 (.reg (oq 6 (.fad 7 (.s 1))<|
 ol 7 6<|
 oq 8 (.len (.s 7))<|
 oq 9 (.mv (ki 0))<|
 .nil) [3,7,8,9])
 (.blk 0
 (.loop ⟨[(3,.v),(7,.same),(8,.same),(9,.v)],[.same]⟩ [(.ext 0,⟨[(3,.v)],[.same]⟩)]
 (.seq
 (.reg (oq 10 (.bin .lss (.s 9) (.s 8))<|
 .nil) [3,7,8,9,10])
 (.seq
 (.cond (.s 10)
 .skip
 (.exit 0))
 (.seq
 (.blk 1
 (.seq
 (.reg (oq 11 (.iad 8 (.s 7) (.s 9))<|
 oq 12 (.load true 8 (.s 11))<|
 oq 5 (.alloc zt8)<|
 oz (.store 8 (.s 5) (.s 12))<|
 .nil) [3,5,7,8,9])
 (.reg (om 13 3<|
 oq 14 (.load true 8 (.s 5))<|
 oq 15 (.call xN [.s 14])<|
 oq 16 (.bin .add (.s 13) (.s 15))<|
 om 3 16<|
 .nil) [3,7,8,9])))
 (.reg (oq 17 (.bin .add (.s 9) (ki 1))<|
 om 9 17<|
 .nil) [3,7,8,9])))))))
 (.seq
 (.reg (om 18 3<|
 om 2 18<|
 .nil) [2])
 .ret))))
def QK:PFn:=⟨[.tmp 2],JS,false⟩
def k9:Fn:=⟨1,[.tmp 2],false,false,zq JS⟩
def Jg:PC:=
 (.seq
 (.reg (.box 8 1 (.s 0)<|
 oq 2 (.mv (ki 0))<|
 .nil) [1])
 (.seq
 (.reg (oq 3 (.mv (ki 0))<|
 .nil) [1,3])
 (.seq
 (.seq
 (.reg (oq 6 (.fad 7 (.s 1))<|
 ol 7 6<|
 oq 8 (.len (.s 7))<|
 oq 9 (.mv (ki 0))<|
 .nil) [3,7,8,9])
 (.blk 0
 (.loop ⟨[(3,.v),(7,.same),(8,.same),(9,.v)],[.same]⟩ [(.ext 0,⟨[(3,.v)],[.same]⟩)]
 (.seq
 (.reg (oq 10 (.bin .lss (.s 9) (.s 8))<|
 .nil) [3,7,8,9,10])
 (.seq
 (.cond (.s 10)
 .skip
 (.exit 0))
 (.seq
 (.blk 1
 (.seq
 (.reg (oq 11 (.iad 8 (.s 7) (.s 9))<|
 oq 12 (.load true 8 (.s 11))<|
 oq 5 (.alloc zt8)<|
 oz (.store 8 (.s 5) (.s 12))<|
 .nil) [3,5,7,8,9])
 (.reg (om 13 3<|
 oq 14 (.load true 8 (.s 5))<|
 oq 15 (.call xL [.s 14])<|
 oq 16 (.max [.s 13,.s 15])<|
 om 3 16<|
 .nil) [3,7,8,9])))
 (.reg (oq 17 (.bin .add (.s 9) (ki 1))<|
 om 9 17<|
 .nil) [3,7,8,9])))))))
 (.seq
 (.reg (om 18 3<|
 oq 19 (.bin .add (ki 1) (.s 18))<|
 om 2 19<|
 .nil) [2])
 .ret))))
def Jj:PFn:=⟨[.tmp 2],Jg,false⟩
def Ze:Fn:=⟨1,[.tmp 2],false,false,zq Jg⟩
def zfe:PC:=
 (.seq
 (.reg (.box 8 1 (.s 0)<|
 oq 2 (.mv kf)<|
 .nil) [1])
 (.seq
 (.reg (oq 3 (.fad 7 (.s 1))<|
 ol 4 3<|
 oq 5 (.len (.s 4))<|
 oq 6 (.bin .leq (.s 5) (ki 300))<|
 om 7 6<|
 .grp 7 true (oq 8 (.fad 7 (.s 1))<|
 ol 9 8<|
 oq 10 (.call yD [.s 9,(.k (.fn vD []))])<|
 oq 11 (.un .not (.s 10))<|
 .nil) 12 (.s 11) kf<|
 om 2 12<|
 .nil) [2])
 .ret))
def zeo:PFn:=⟨[.tmp 2],zfe,false⟩
def Vo:Fn:=⟨1,[.tmp 2],false,false,zq zfe⟩
def zai:PC:=
 (.seq
 (.reg (oq 2 (.mv (.k (.sl .full 0 [])))<|
 oq 3 (.mv (.k (.str [])))<|
 .nil) [0])
 (.seq
 (.drw (.nil)
 (om 4 0<|
 om 5 0<|
 oq 6 (.len (.s 5))<|
 oq 7 (.bin .sub (.s 6) (ki 1))<|
 oq 8 (.slc 1 (.s 4) none (some (.s 7)) none)<|
 om 9 0<|
 om 10 0<|
 oq 11 (.len (.s 10))<|
 oq 12 (.bin .sub (.s 11) (ki 1))<|
 oq 13 (.iad 1 (.s 9) (.s 12))<|
 ol 14 13<|
 om 2 8<|
 .nil)
 (om 3 14<|
 .nil) [2,3])
 .ret))
def KP:PFn:=⟨[.tmp 2,.tmp 3],zai,false⟩
def Yq:Fn:=⟨1,[.tmp 2,.tmp 3],false,false,zq zai⟩
def zbQ:PC:=
 (.seq
 (.reg (.box 8 3 (.s 0)<|
 .box 1 4 (.s 1)<|
 .box 8 5 (.s 2)<|
 oq 6 (.alloc zt8)<|
 .nil) [3,4,5,6])
 (.seq
 (.reg (oq 14 (.load true 8 (.s 3))<|
 oq 15 (.call wx [.s 14])<|
 om 13 15<|
 oq 16 (.ext (.s 13) 0)<|
 oq 17 (.ext (.s 13) 1)<|
 om 7 16<|
 om 8 17<|
 .nil) [4,5,6,7,8])
 (.seq
 (.drw (om 18 7<|
 oq 19 (.len (.s 18))<|
 om 21 8<|
 oq 22 (.len (.s 21))<|
 oq 20 (.mks [(.str [])] 16 (.s 19) (.s 19))<|
 oq 23 (.mks zt8 120 (.s 22) (.s 22))<|
 .nil)
 (om 9 20<|
 .nil)
 (om 10 23<|
 .nil) [4,5,6,7,8,9,10])
 (.seq
 (.reg (om 24 9<|
 om 25 7<|
 oq 26 (.cpy 1 (.s 24) (.s 25))<|
 .nil) [4,5,6,8,9,10])
 (.seq
 (.reg (om 27 10<|
 om 28 8<|
 oq 29 (.cpy 8 (.s 27) (.s 28))<|
 .nil) [4,5,6,9,10])
 (.seq
 (.seq
 (.reg (om 30 9<|
 ol 31 4<|
 oq 32 (.call yb [.s 30,.s 31])<|
 om 11 32<|
 .nil) [4,5,6,9,10,11])
 (.seq
 (.reg (om 33 11<|
 oq 34 (.bin .geq (.s 33) (ki 0))<|
 .nil) [4,5,6,9,10,11,34])
 (.cond (.s 34)
 (.seq
 (.reg (om 35 10<|
 om 36 11<|
 oq 37 (.load true 8 (.s 5))<|
 oq 38 (.iad 8 (.s 35) (.s 36))<|
 oz (.store 8 (.s 38) (.s 37))<|
 .nil) [6,9,10])
 (.seq
 (.reg (om 39 9<|
 om 40 10<|
 oq 41 (.build zt8 [(0,1,(ki 7)),(6,1,(.s 39)),(7,1,(.s 40))])<|
 oz (.store 8 (.s 6) (.s 41))<|
 .nil) [6])
 .ret))
 .skip)))
 (.seq
 (.reg (om 42 9<|
 oq 43 (.mkf xJ [.s 4])<|
 oq 44 (.call zz [.s 42,.s 43])<|
 om 12 44<|
 .nil) [4,5,6,9,10,12])
 (.seq
 (.cut ⟨[(4,.same),(5,.same),(6,.same),(9,.same),(10,.same),(12,.v)],[.same,.same,.same,.same,.same,.same]⟩ [(.nrm,⟨[(4,.same),(5,.same),(6,.same),(9,.same),(10,.same),(12,.v)],[.same,.same,.same,.same,.same,.same]⟩)]
 (.seq
 (.reg (om 45 12<|
 oq 46 (.bin .lss (.s 45) (ki 0))<|
 .nil) [4,5,6,9,10,12,46])
 (.cond (.s 46)
 (.reg (om 47 9<|
 oq 48 (.len (.s 47))<|
 om 12 48<|
 .nil) [4,5,6,9,10,12])
 .skip)))
 (.seq
 (.drw (.nil)
 (om 49 9<|
 om 50 12<|
 ol 51 4<|
 oq 52 (.lit 1 [(.str [])] [(0,1,(.s 51))])<|
 oq 53 (.call xG [.s 49,.s 50,.s 52])<|
 om 54 10<|
 om 55 12<|
 oq 56 (.load true 8 (.s 5))<|
 oq 57 (.lit 1 zt8 [(0,8,(.s 56))])<|
 .nil)
 (oq 58 (.call wB [.s 54,.s 55,.s 57])<|
 oq 59 (.build zt8 [(0,1,(ki 7)),(6,1,(.s 53)),(7,1,(.s 58))])<|
 oz (.store 8 (.s 6) (.s 59))<|
 .nil) [6])
 .ret)))))))))
def zdl:PFn:=⟨[.cell 6 true 8],zbQ,false⟩
def X3:Fn:=⟨3,[.cell 6 true 8],false,false,zq zbQ⟩
def X7:PC:=
 (.seq
 (.reg (oq 4 (.mv (ki 0))<|
 oq 5 (.mv kf)<|
 .nil) [0,1])
 (.seq
 (.seq
 (.reg (om 8 0<|
 oq 9 (.bin .eql (.s 8) (.k (.str [])))<|
 om 10 9<|
 .grp 10 false (om 11 0<|
 oq 12 (.lns (.s 11))<|
 oq 13 (.bin .gtr (.s 12) (ki 4))<|
 .nil) 14 (.s 13) kt<|
 om 15 14<|
 .grp 15 false (om 16 0<|
 oq 17 (.ixs (.s 16) (ki 0))<|
 oq 18 (.bin .eql (.s 17) (.k (.int .u8 48)))<|
 om 19 18<|
 .grp 19 true (om 20 0<|
 oq 21 (.lns (.s 20))<|
 oq 22 (.bin .gtr (.s 21) (ki 1))<|
 .nil) 23 (.s 22) kf<|
 .nil) 24 (.s 23) kt<|
 .nil) [0,1,24])
 (.cond (.s 24)
 (.seq
 (.reg (oq 4 (.mv (ki 0))<|
 oq 5 (.mv kf)<|
 .nil) [4,5])
 .ret)
 .skip))
 (.seq
 (.reg (oq 6 (.mv (ki 0))<|
 .nil) [0,1,6])
 (.seq
 (.seq
 (.reg (om 25 0<|
 oq 26 (.lns (.s 25))<|
 oq 27 (.mv (ki 0))<|
 .nil) [0,1,6,26,27])
 (.blk 0
 (.loop ⟨[(0,.same),(1,.same),(6,.v),(26,.same),(27,.v)],[]⟩ [(.ext 0,⟨[(1,.same),(6,.v)],[]⟩),(.ret,⟨[(4,.v),(5,.v)],[]⟩)]
 (.seq
 (.reg (oq 28 (.bin .lss (.s 27) (.s 26))<|
 .nil) [0,1,6,26,27,28])
 (.seq
 (.cond (.s 28)
 .skip
 (.exit 0))
 (.seq
 (.blk 1
 (.seq
 (.reg (om 29 27<|
 om 7 29<|
 .nil) [0,1,6,7,26,27])
 (.seq
 (.seq
 (.reg (om 30 0<|
 om 31 7<|
 oq 32 (.ixs (.s 30) (.s 31))<|
 oq 33 (.bin .lss (.s 32) (.k (.int .u8 48)))<|
 om 34 33<|
 .grp 34 false (om 35 0<|
 om 36 7<|
 oq 37 (.ixs (.s 35) (.s 36))<|
 oq 38 (.bin .gtr (.s 37) (.k (.int .u8 57)))<|
 .nil) 39 (.s 38) kt<|
 .nil) [0,1,6,7,26,27,39])
 (.cond (.s 39)
 (.seq
 (.reg (oq 4 (.mv (ki 0))<|
 oq 5 (.mv kf)<|
 .nil) [4,5])
 .ret)
 .skip))
 (.reg (om 40 6<|
 oq 41 (.bin .mul (ki 10) (.s 40))<|
 om 42 0<|
 om 43 7<|
 oq 44 (.ixs (.s 42) (.s 43))<|
 oq 45 (.bin .sub (.s 44) (.k (.int .u8 48)))<|
 oq 46 (.cvi .i64 (.s 45))<|
 oq 47 (.bin .add (.s 41) (.s 46))<|
 om 6 47<|
 .nil) [0,1,6,26,27]))))
 (.reg (oq 48 (.bin .add (.s 27) (ki 1))<|
 om 27 48<|
 .nil) [0,1,6,26,27])))))))
 (.seq
 (.seq
 (.reg (om 49 6<|
 om 50 1<|
 oq 51 (.bin .gtr (.s 49) (.s 50))<|
 .nil) [6,51])
 (.cond (.s 51)
 (.seq
 (.reg (oq 4 (.mv (ki 0))<|
 oq 5 (.mv kf)<|
 .nil) [4,5])
 .ret)
 .skip))
 (.seq
 (.reg (om 52 6<|
 om 4 52<|
 oq 5 (.mv kt)<|
 .nil) [4,5])
 .ret))))))
def X5:PFn:=⟨[.tmp 4,.tmp 5],X7,false⟩
def qX:Fn:=⟨2,[.tmp 4,.tmp 5],false,false,zq X7⟩
def ZO:PC:=
 (.seq
 (.reg (oq 2 (.mv (.k (.sl .full 0 [])))<|
 .nil) [0])
 (.seq
 (.reg (oq 3 (.mv (ki 0))<|
 .nil) [0,3])
 (.seq
 (.seq
 (.reg (om 9 0<|
 oq 10 (.len (.s 9))<|
 oq 11 (.mv (ki 0))<|
 .nil) [0,3,9,10,11])
 (.blk 0
 (.loop ⟨[(0,.same),(3,.v),(9,.same),(10,.same),(11,.v)],[]⟩ [(.ext 0,⟨[(0,.same),(3,.v)],[]⟩),(.ext 1000000,⟨[(1000000,.v)],[]⟩),(.ext 1000002,⟨[],[]⟩)]
 (.seq
 (.reg (oq 12 (.bin .lss (.s 11) (.s 10))<|
 .nil) [0,3,9,10,11,12])
 (.seq
 (.cond (.s 12)
 .skip
 (.exit 0))
 (.seq
 (.blk 1
 (.seq
 (.reg (oq 13 (.iad 1 (.s 9) (.s 11))<|
 ol 14 13<|
 om 5 14<|
 .nil) [0,3,5,9,10,11])
 (.seq
 (.reg (om 15 3<|
 om 16 5<|
 oq 17 (.len (.s 16))<|
 oq 18 (.bin .add (.s 15) (.s 17))<|
 om 3 18<|
 .nil) [0,3,9,10,11])
 (.seq
 (.reg (om 19 3<|
 oq 20 (.bin .lss (.s 19) (ki 0))<|
 .nil) [0,3,9,10,11,20])
 (.cond (.s 20)
 (.seq
 (.reg (oq 21 (.ifc 9 (.k (.str [108,101,110,32,111,117,116,32,111,102,32,114,97,110,103,101])))<|
 om 1000000 21<|
 oq 1000001 (.inil true (.s 1000000))<|
 .nil) [1000000,1000001])
 (.cond (.s 1000001)
 (.exit 1000000)
 (.exit 1000002)))
 .skip)))))
 (.reg (oq 22 (.bin .add (.s 11) (ki 1))<|
 om 11 22<|
 .nil) [0,3,9,10,11])))))))
 (.seq
 (.reg (om 23 3<|
 oq 24 (.call wv [(.k (.sl .full 0 [])),.s 23])<|
 om 6 24<|
 .nil) [0,6])
 (.seq
 (.seq
 (.reg (om 25 0<|
 oq 26 (.len (.s 25))<|
 oq 27 (.mv (ki 0))<|
 .nil) [6,25,26,27])
 (.blk 2
 (.loop ⟨[(6,(.own 8)),(25,.same),(26,.same),(27,.v)],[]⟩ [(.ext 2,⟨[(6,(.own 8))],[]⟩)]
 (.seq
 (.reg (oq 28 (.bin .lss (.s 27) (.s 26))<|
 .nil) [6,25,26,27,28])
 (.seq
 (.cond (.s 28)
 .skip
 (.exit 2))
 (.seq
 (.blk 3
 (.seq
 (.reg (oq 29 (.iad 1 (.s 25) (.s 27))<|
 ol 30 29<|
 om 8 30<|
 .nil) [6,8,25,26,27])
 (.reg (om 31 6<|
 om 32 8<|
 oq 33 (.app 8 120 (.s 31) (.s 32))<|
 om 6 33<|
 .nil) [6,25,26,27])))
 (.reg (oq 34 (.bin .add (.s 27) (ki 1))<|
 om 27 34<|
 .nil) [6,25,26,27])))))))
 (.seq
 (.reg (om 35 6<|
 om 2 35<|
 .nil) [2])
 .ret))))))
def ZW:PFn:=⟨[.tmp 2],ZO,false⟩
def V9:C:=
 (.seq
 (.reg [nq 2 (.mv (.k (.sl .full 0 [])))] [0])
 (.seq
 (.reg [nq 3 (.mv (ki 0))] [0,3])
 (.seq
 (.seq
 (.reg [nm 9 0,nq 10 (.len (.s 9)),nq 11 (.mv (ki 0))] [0,3,9,10,11])
 (.blk 0
 (.loop
 (.seq
 (.reg [nq 12 (.bin .lss (.s 11) (.s 10))] [0,3,9,10,11,12])
 (.seq
 (.cond (.s 12)
 .skip
 (.exit 0))
 (.seq
 (.blk 1
 (.seq
 (.reg [nq 13 (.iad 1 (.s 9) (.s 11)),nq 14 (.load false 1 (.s 13)),nm 5 14] [0,3,5,9,10,11])
 (.seq
 (.reg [nm 15 3,nm 16 5,nq 17 (.len (.s 16)),nq 18 (.bin .add (.s 15) (.s 17)),nm 3 18] [0,3,9,10,11])
 (.seq
 (.reg [nm 19 3,nq 20 (.bin .lss (.s 19) (ki 0))] [0,3,9,10,11,20])
 (.cond (.s 20)
 (.reg [nq 21 (.ifc 9 (.k (.str [108,101,110,32,111,117,116,32,111,102,32,114,97,110,103,101]))),⟨none,.pan (.s 21),none⟩] [0,3,9,10,11])
 .skip)))))
 (.reg [nq 22 (.bin .add (.s 11) (ki 1)),nm 11 22] [0,3,9,10,11])))))))
 (.seq
 (.reg [nm 23 3,nq 24 (.call wv [(.k (.sl .full 0 [])),.s 23]),nm 6 24] [0,6])
 (.seq
 (.seq
 (.reg [nm 25 0,nq 26 (.len (.s 25)),nq 27 (.mv (ki 0))] [6,25,26,27])
 (.blk 2
 (.loop
 (.seq
 (.reg [nq 28 (.bin .lss (.s 27) (.s 26))] [6,25,26,27,28])
 (.seq
 (.cond (.s 28)
 .skip
 (.exit 2))
 (.seq
 (.blk 3
 (.seq
 (.reg [nq 29 (.iad 1 (.s 25) (.s 27)),nq 30 (.load false 1 (.s 29)),nm 8 30] [6,8,25,26,27])
 (.reg [nm 31 6,nm 32 8,nq 33 (.app 8 120 (.s 31) (.s 32)),nm 6 33] [6,25,26,27])))
 (.reg [nq 34 (.bin .add (.s 27) (ki 1)),nm 27 34] [6,25,26,27])))))))
 (.seq
 (.reg [nm 35 6,nm 2 35] [2])
 .ret))))))
def ja:Fn:=⟨1,[.tmp 2],false,false,V9⟩
def QE:Fn:=⟨1,[.tmp 2],false,false,zq ZO⟩
def JT:PC:=
 (.seq
 (.reg (.box 8 2 (.s 0)<|
 oq 4 (.alloc zt8)<|
 .nil) [1,2,4])
 (.seq
 (.reg (oq 9 (.load true 8 (.s 2))<|
 oq 10 (.call wx [.s 9])<|
 om 8 10<|
 oq 11 (.ext (.s 8) 0)<|
 oq 12 (.ext (.s 8) 1)<|
 om 5 11<|
 om 6 12<|
 .nil) [1,2,4,5,6])
 (.seq
 (.reg (om 13 5<|
 om 14 1<|
 oq 15 (.call yb [.s 13,.s 14])<|
 om 7 15<|
 .nil) [2,4,5,6,7])
 (.seq
 (.seq
 (.reg (om 16 7<|
 oq 17 (.bin .lss (.s 16) (ki 0))<|
 .nil) [2,4,5,6,7,17])
 (.cond (.s 17)
 (.seq
 (.reg (oq 18 (.load true 8 (.s 2))<|
 oz (.store 8 (.s 4) (.s 18))<|
 .nil) [4])
 .ret)
 .skip))
 (.seq
 (.drw (.nil)
 (om 19 5<|
 om 20 7<|
 oq 21 (.slc 1 (.s 19) none (some (.s 20)) none)<|
 om 22 5<|
 om 23 7<|
 oq 24 (.bin .add (.s 23) (ki 1))<|
 oq 25 (.slc 1 (.s 22) (some (.s 24)) none none)<|
 oq 26 (.lit 2 [(.sl .full 0 [])] [(0,1,(.s 21)),(1,1,(.s 25))])<|
 oq 27 (.call yN [.s 26])<|
 om 28 6<|
 om 29 7<|
 oq 30 (.slc 8 (.s 28) none (some (.s 29)) none)<|
 om 31 6<|
 om 32 7<|
 oq 33 (.bin .add (.s 32) (ki 1))<|
 oq 34 (.slc 8 (.s 31) (some (.s 33)) none none)<|
 oq 35 (.lit 2 [(.sl .full 0 [])] [(0,1,(.s 30)),(1,1,(.s 34))])<|
 .nil)
 (oq 36 (.call z7 [.s 35])<|
 oq 37 (.build zt8 [(0,1,(ki 7)),(6,1,(.s 27)),(7,1,(.s 36))])<|
 oz (.store 8 (.s 4) (.s 37))<|
 .nil) [4])
 .ret)))))
def Q2:PFn:=⟨[.cell 4 true 8],JT,false⟩
def Zb:Fn:=⟨2,[.cell 4 true 8],false,false,zq JT⟩
def VX:PC:=
 (.seq
 (.reg (.box 8 3 (.s 0)<|
 .box 8 5 (.s 2)<|
 oq 6 (.alloc zt8)<|
 oq 7 (.mv kf)<|
 .nil) [1,3,5,6])
 (.seq
 (.seq
 (.reg (om 13 1<|
 oq 14 (.len (.s 13))<|
 oq 15 (.bin .eql (.s 14) (ki 0))<|
 .nil) [1,3,5,6,15])
 (.cond (.s 15)
 (.seq
 (.reg (oq 16 (.load true 8 (.s 5))<|
 oz (.store 8 (.s 6) (.s 16))<|
 oq 7 (.mv kt)<|
 .nil) [6,7])
 .ret)
 .skip))
 (.seq
 (.drw (oq 8 (.alloc zt8)<|
 .nil)
 (oq 18 (.load true 8 (.s 3))<|
 om 19 1<|
 oq 20 (.iad 1 (.s 19) (ki 0))<|
 ol 21 20<|
 oq 22 (.call xC [.s 18,.s 21])<|
 om 17 22<|
 oq 23 (.ext (.s 17) 0)<|
 oq 24 (.ext (.s 17) 1)<|
 .nil)
 (oz (.store 8 (.s 8) (.s 23))<|
 om 9 24<|
 .nil) [1,3,5,6,8,9])
 (.seq
 (.cut ⟨[(1,.same),(3,.same),(5,.same),(6,.same),(8,.same),(9,.v)],[.same,.same,.same,(.box 8)]⟩ [(.nrm,⟨[(1,.same),(3,.same),(6,.same),(8,.same),(9,.v)],[.same,.same,.same,(.box 8)]⟩)]
 (.seq
 (.reg (om 25 9<|
 .nil) [1,3,5,6,8,9,25])
 (.cond (.s 25)
 (.drw (.nil)
 (oq 27 (.load true 8 (.s 8))<|
 om 28 1<|
 oq 29 (.slc 1 (.s 28) (some (ki 1)) none none)<|
 oq 30 (.load true 8 (.s 5))<|
 oq 31 (.call xy [.s 27,.s 29,.s 30])<|
 om 26 31<|
 oq 32 (.ext (.s 26) 0)<|
 oq 33 (.ext (.s 26) 1)<|
 .nil)
 (oz (.store 8 (.s 8) (.s 32))<|
 om 9 33<|
 .nil) [1,3,6,8,9])
 .skip)))
 (.seq
 (.blk 0
 (.seq
 (.reg (om 35 9<|
 oq 36 (.un .not (.s 35))<|
 om 34 36<|
 .nil) [1,3,6,8,34])
 (.cond (.s 34)
 (.seq
 (.reg (oq 37 (.build zt8 [])<|
 oz (.store 8 (.s 6) (.s 37))<|
 oq 7 (.mv kf)<|
 .nil) [6,7])
 .ret)
 (.seq
 (.reg (oq 39 (.fad 0 (.s 3))<|
 ol 40 39<|
 oq 41 (.bin .eql (.s 40) (ki 7))<|
 om 38 41<|
 .nil) [1,3,6,8,38])
 (.cond (.s 38)
 (.seq
 (.drw (.nil)
 (oq 42 (.load true 8 (.s 3))<|
 om 43 1<|
 oq 44 (.iad 1 (.s 43) (ki 0))<|
 ol 45 44<|
 oq 46 (.load true 8 (.s 8))<|
 .nil)
 (oq 47 (.call vj [.s 42,.s 45,.s 46])<|
 oz (.store 8 (.s 6) (.s 47))<|
 oq 7 (.mv kt)<|
 .nil) [6,7])
 .ret)
 .skip)))))
 (.seq
 (.drw (.nil)
 (om 49 1<|
 oq 50 (.iad 1 (.s 49) (ki 0))<|
 ol 51 50<|
 oq 52 (.fad 7 (.s 3))<|
 ol 53 52<|
 oq 54 (.len (.s 53))<|
 oq 55 (.bin .sub (.s 54) (ki 1))<|
 oq 56 (.call ye [.s 51,.s 55])<|
 om 48 56<|
 oq 57 (.ext (.s 48) 0)<|
 oq 58 (.ext (.s 48) 1)<|
 om 10 57<|
 .nil)
 (om 11 58<|
 .nil) [3,6,8,10])
 (.seq
 (.reg (oq 59 (.fad 7 (.s 3))<|
 ol 60 59<|
 oq 61 (.len (.s 60))<|
 oq 62 (.mks zt8 120 (.s 61) (.s 61))<|
 om 12 62<|
 .nil) [3,6,8,10,12])
 (.seq
 (.reg (om 63 12<|
 oq 64 (.fad 7 (.s 3))<|
 ol 65 64<|
 oq 66 (.cpy 8 (.s 63) (.s 65))<|
 .nil) [3,6,8,10,12])
 (.seq
 (.reg (om 67 12<|
 om 68 10<|
 oq 69 (.load true 8 (.s 8))<|
 oq 70 (.iad 8 (.s 67) (.s 68))<|
 oz (.store 8 (.s 70) (.s 69))<|
 .nil) [3,6,12])
 (.seq
 (.reg (om 71 12<|
 oq 72 (.fad 7 (.s 3))<|
 oz (.store 1 (.s 72) (.s 71))<|
 .nil) [3,6])
 (.seq
 (.reg (oq 73 (.load true 8 (.s 3))<|
 oz (.store 8 (.s 6) (.s 73))<|
 oq 7 (.mv kt)<|
 .nil) [6,7])
 .ret)))))))))))
def VF:PFn:=⟨[.cell 6 true 8,.tmp 7],VX,false⟩
def kg:Fn:=⟨3,[.cell 6 true 8,.tmp 7],false,false,zq VX⟩
def jM:PC:=
 (.seq
 (.reg (oq 4 (.mv kf)<|
 .nil) [0,1])
 (.seq
 (.seq
 (.reg (om 6 0<|
 oq 7 (.len (.s 6))<|
 om 8 1<|
 oq 9 (.len (.s 8))<|
 oq 10 (.bin .neq (.s 7) (.s 9))<|
 .nil) [0,1,10])
 (.cond (.s 10)
 (.seq
 (.reg (oq 4 (.mv kf)<|
 .nil) [4])
 .ret)
 .skip))
 (.seq
 (.seq
 (.reg (om 11 0<|
 oq 12 (.len (.s 11))<|
 oq 13 (.mv (ki 0))<|
 .nil) [0,1,12,13])
 (.blk 0
 (.loop ⟨[(0,.same),(1,.same),(12,.same),(13,.v)],[]⟩ [(.ext 0,⟨[],[]⟩),(.ret,⟨[(4,.v)],[]⟩)]
 (.seq
 (.reg (oq 14 (.bin .lss (.s 13) (.s 12))<|
 .nil) [0,1,12,13,14])
 (.seq
 (.cond (.s 14)
 .skip
 (.exit 0))
 (.seq
 (.blk 1
 (.seq
 (.reg (om 15 13<|
 om 5 15<|
 .nil) [0,1,5,12,13])
 (.seq
 (.drw (.nil)
 (om 16 0<|
 om 17 5<|
 oq 18 (.iad 1 (.s 16) (.s 17))<|
 ol 19 18<|
 om 20 1<|
 om 21 5<|
 oq 22 (.iad 1 (.s 20) (.s 21))<|
 ol 23 22<|
 .nil)
 (oq 24 (.bin .neq (.s 19) (.s 23))<|
 .nil) [0,1,12,13,24])
 (.cond (.s 24)
 (.seq
 (.reg (oq 4 (.mv kf)<|
 .nil) [4])
 .ret)
 .skip))))
 (.reg (oq 25 (.bin .add (.s 13) (ki 1))<|
 om 13 25<|
 .nil) [0,1,12,13])))))))
 (.seq
 (.reg (oq 4 (.mv kt)<|
 .nil) [4])
 .ret))))
def jK:PFn:=⟨[.tmp 4],jM,false⟩
def wI:Fn:=⟨2,[.tmp 4],false,false,zq jM⟩
def Xd:PC:=
 (.seq
 (.reg (oq 4 (.mv kf)<|
 .nil) [0,1])
 (.seq
 (.reg (om 5 0<|
 oq 6 (.len (.s 5))<|
 om 7 1<|
 oq 8 (.len (.s 7))<|
 oq 9 (.bin .leq (.s 6) (.s 8))<|
 om 10 9<|
 .grp 10 true (om 11 0<|
 om 12 1<|
 om 13 0<|
 oq 14 (.len (.s 13))<|
 oq 15 (.slc 1 (.s 12) none (some (.s 14)) none)<|
 oq 16 (.call ya [.s 11,.s 15])<|
 .nil) 17 (.s 16) kf<|
 om 4 17<|
 .nil) [4])
 .ret))
def Y4:PFn:=⟨[.tmp 4],Xd,false⟩
def qz:Fn:=⟨2,[.tmp 4],false,false,zq Xd⟩
def VK:PC:=
 (.seq
 (.reg (.box 8 2 (.s 0)<|
 oq 4 (.alloc zt8)<|
 oq 5 (.mv kf)<|
 .nil) [1,2,4])
 (.seq
 (.seq
 (.reg (om 10 1<|
 oq 11 (.len (.s 10))<|
 oq 12 (.mv (ki 0))<|
 .nil) [2,4,10,11,12])
 (.blk 0
 (.loop ⟨[(2,.same),(4,.same),(10,.same),(11,.same),(12,.v)],[(.box 8),(.cells [.v,.v,.v,.v,.v,.v,.v,.v])]⟩ [(.ext 0,⟨[(2,.same),(4,.same)],[(.box 8),(.box 8)]⟩),(.ret,⟨[(4,.same),(5,.v)],[(.box 8),(.cells [.v,.v,.v,.v,.v,.v,.v,.v])]⟩)]
 (.seq
 (.reg (oq 13 (.bin .lss (.s 12) (.s 11))<|
 .nil) [2,4,10,11,12,13])
 (.seq
 (.cond (.s 13)
 .skip
 (.exit 0))
 (.seq
 (.blk 1
 (.seq
 (.reg (oq 14 (.iad 1 (.s 10) (.s 12))<|
 ol 15 14<|
 om 7 15<|
 .nil) [2,4,7,10,11,12])
 (.seq
 (.reg (oq 17 (.load true 8 (.s 2))<|
 om 18 7<|
 oq 19 (.call xC [.s 17,.s 18])<|
 om 16 19<|
 oq 20 (.ext (.s 16) 0)<|
 oq 21 (.ext (.s 16) 1)<|
 oq 8 (.alloc zt8)<|
 oz (.store 8 (.s 8) (.s 20))<|
 om 9 21<|
 .nil) [2,4,8,9,10,11,12])
 (.seq
 (.seq
 (.reg (om 22 9<|
 oq 23 (.un .not (.s 22))<|
 .nil) [2,4,8,10,11,12,23])
 (.cond (.s 23)
 (.seq
 (.reg (oq 24 (.build zt8 [])<|
 oz (.store 8 (.s 4) (.s 24))<|
 oq 5 (.mv kf)<|
 .nil) [4,5])
 .ret)
 .skip))
 (.reg (oq 25 (.load true 8 (.s 8))<|
 oz (.store 8 (.s 2) (.s 25))<|
 .nil) [2,4,10,11,12])))))
 (.reg (oq 26 (.bin .add (.s 12) (ki 1))<|
 om 12 26<|
 .nil) [2,4,10,11,12])))))))
 (.seq
 (.reg (oq 27 (.load true 8 (.s 2))<|
 oz (.store 8 (.s 4) (.s 27))<|
 oq 5 (.mv kt)<|
 .nil) [4,5])
 .ret)))
def V4:PFn:=⟨[.cell 4 true 8,.tmp 5],VK,false⟩
def kx:Fn:=⟨2,[.cell 4 true 8,.tmp 5],false,false,zq VK⟩
def zbx:PC:=
 (.seq
 (.reg (.box 3 2 (.s 0)<|
 .box 3 3 (.s 1)<|
 oq 4 (.mv kf)<|
 .nil) [2,3])
 (.seq
 (.drw (.nil)
 (oq 5 (.load true 3 (.s 2))<|
 oq 6 (.call WC [.s 5])<|
 oq 7 (.load true 3 (.s 3))<|
 .nil)
 (oq 8 (.call WC [.s 7])<|
 oz (.store 3 (.s 2) (.s 6))<|
 oz (.store 3 (.s 3) (.s 8))<|
 .nil) [2,3])
 (.seq
 (.reg (oq 9 (.fad 0 (.s 2))<|
 ol 10 9<|
 oq 11 (.fad 0 (.s 3))<|
 ol 12 11<|
 oq 13 (.beq false (.s 10) (.s 12))<|
 om 14 13<|
 .grp 14 true (oq 15 (.fad 2 (.s 2))<|
 ol 16 15<|
 oq 17 (.fad 2 (.s 3))<|
 ol 18 17<|
 oq 19 (.bin .eql (.s 16) (.s 18))<|
 .nil) 20 (.s 19) kf<|
 om 21 20<|
 .grp 21 true (oq 22 (.fad 1 (.s 2))<|
 ol 23 22<|
 oq 24 (.fad 1 (.s 3))<|
 ol 25 24<|
 oq 26 (.call wF [.s 23,.s 25])<|
 .nil) 27 (.s 26) kf<|
 om 4 27<|
 .nil) [4])
 .ret)))
def ziF:PFn:=⟨[.tmp 4],zbx,false⟩
def XT:Fn:=⟨2,[.tmp 4],false,false,zq zbx⟩
def jO:PC:=
 (.seq
 (.reg (oq 6 (.mv kf)<|
 .nil) [0,1,2])
 (.seq
 (.seq
 (.reg (om 10 0<|
 oq 11 (.len (.s 10))<|
 om 12 1<|
 oq 13 (.len (.s 12))<|
 oq 14 (.bin .neq (.s 11) (.s 13))<|
 .nil) [0,1,2,14])
 (.cond (.s 14)
 (.seq
 (.reg (oq 6 (.mv kf)<|
 .nil) [6])
 .ret)
 .skip))
 (.seq
 (.seq
 (.reg (om 15 0<|
 oq 16 (.len (.s 15))<|
 oq 17 (.mv (ki 0))<|
 .nil) [1,2,15,16,17])
 (.blk 0
 (.loop ⟨[(1,.same),(2,.same),(15,.same),(16,.same),(17,.v)],[]⟩ [(.ext 0,⟨[],[]⟩),(.ret,⟨[(6,.v)],[]⟩)]
 (.seq
 (.reg (oq 18 (.bin .lss (.s 17) (.s 16))<|
 .nil) [1,2,15,16,17,18])
 (.seq
 (.cond (.s 18)
 .skip
 (.exit 0))
 (.seq
 (.blk 1
 (.seq
 (.reg (om 19 17<|
 oq 20 (.iad 8 (.s 15) (.s 17))<|
 oq 21 (.load true 8 (.s 20))<|
 oq 8 (.alloc zt8)<|
 om 7 19<|
 oz (.store 8 (.s 8) (.s 21))<|
 .nil) [1,2,7,8,15,16,17])
 (.seq
 (.reg (om 22 1<|
 om 23 7<|
 oq 24 (.iad 8 (.s 22) (.s 23))<|
 oq 25 (.load true 8 (.s 24))<|
 oq 9 (.alloc zt8)<|
 oz (.store 8 (.s 9) (.s 25))<|
 .nil) [1,2,8,9,15,16,17])
 (.seq
 (.reg (om 26 2<|
 oq 27 (.load true 8 (.s 8))<|
 oq 28 (.load true 8 (.s 9))<|
 oq 29 (.callv (.s 26) [.s 27,.s 28])<|
 oq 30 (.un .not (.s 29))<|
 .nil) [1,2,15,16,17,30])
 (.cond (.s 30)
 (.seq
 (.reg (oq 6 (.mv kf)<|
 .nil) [6])
 .ret)
 .skip)))))
 (.reg (oq 31 (.bin .add (.s 17) (ki 1))<|
 om 17 31<|
 .nil) [1,2,15,16,17])))))))
 (.seq
 (.reg (oq 6 (.mv kt)<|
 .nil) [6])
 .ret))))
def Wj:PFn:=⟨[.tmp 6],jO,false⟩
def wK:Fn:=⟨3,[.tmp 6],false,false,zq jO⟩
def zbM:PC:=
 (.seq
 (.reg (.box 8 1 (.s 0)<|
 oq 2 (.mv kf)<|
 .nil) [1])
 (.seq
 (.drw (.nil)
 (oq 8 (.fad 1 (.s 1))<|
 ol 9 8<|
 oq 10 (.un .not (.s 9))<|
 oq 11 (.fad 2 (.s 1))<|
 oq 12 (.fad 0 (.s 11))<|
 ol 13 12<|
 oq 14 (.un .not (.s 13))<|
 om 15 14<|
 .grp 15 true (oq 16 (.fad 2 (.s 1))<|
 oq 17 (.fad 1 (.s 16))<|
 ol 18 17<|
 oq 19 (.len (.s 18))<|
 oq 20 (.bin .eql (.s 19) (ki 0))<|
 .nil) 21 (.s 20) kf<|
 om 22 21<|
 .grp 22 true (oq 23 (.fad 2 (.s 1))<|
 oq 24 (.fad 2 (.s 23))<|
 ol 25 24<|
 oq 26 (.bin .eql (.s 25) (ki 0))<|
 .nil) 27 (.s 26) kf<|
 oq 28 (.fad 5 (.s 1))<|
 ol 29 28<|
 oq 30 (.bin .eql (.s 29) (.k (.str [])))<|
 om 3 10<|
 om 4 27<|
 .nil)
 (om 5 30<|
 .nil) [1,3,4,5])
 (.seq
 (.drw (.nil)
 (oq 31 (.fad 6 (.s 1))<|
 ol 32 31<|
 oq 33 (.len (.s 32))<|
 oq 34 (.bin .eql (.s 33) (ki 0))<|
 oq 35 (.fad 7 (.s 1))<|
 ol 36 35<|
 oq 37 (.len (.s 36))<|
 oq 38 (.bin .eql (.s 37) (ki 0))<|
 om 6 34<|
 .nil)
 (om 7 38<|
 .nil) [1,3,4,5,6,7])
 (.seq
 (.cut ⟨[(1,.same),(3,.v),(4,.v),(5,.v),(6,.v),(7,.v)],[.same]⟩ [(.nrm,⟨[(3,.v),(4,.v),(5,.v),(6,.v),(7,.v)],[.same]⟩),(.ret,⟨[(2,.v)],[.same]⟩)]
 (.seq
 (.reg (oq 39 (.fad 0 (.s 1))<|
 ol 40 39<|
 .nil) [1,3,4,5,6,7,40])
 (.blk 0
 (.seq
 (.blk 8
 (.seq
 (.cut ⟨[(1,.same),(3,.v),(4,.v),(5,.v),(6,.v),(7,.same),(40,.same)],[.same]⟩ [(.ext 0,⟨[(3,.v),(4,.v),(5,.v),(6,.v),(7,.same)],[.same]⟩),(.ext 8,⟨[],[.same]⟩),(.nrm,⟨[(1,.same),(3,.v),(4,.v),(5,.v),(6,.v)],[.same]⟩)]
 (.blk 7
 (.seq
 (.blk 6
 (.seq
 (.blk 5
 (.seq
 (.blk 4
 (.seq
 (.blk 3
 (.seq
 (.blk 2
 (.seq
 (.blk 1
 (.seq
 (.seq
 (.seq
 (.reg (oq 42 (.bin .eql (.s 40) (ki 1))<|
 om 41 42<|
 .nil) [1,3,4,5,6,7,40,41])
 (.cond (.s 41)
 (.exit 1)
 .skip))
 (.seq
 (.seq
 (.reg (oq 44 (.bin .eql (.s 40) (ki 2))<|
 om 43 44<|
 .nil) [1,3,4,5,6,7,40,43])
 (.cond (.s 43)
 (.exit 2)
 .skip))
 (.seq
 (.seq
 (.reg (oq 46 (.bin .eql (.s 40) (ki 3))<|
 om 45 46<|
 .nil) [1,3,4,5,6,7,40,45])
 (.cond (.s 45)
 (.exit 3)
 .skip))
 (.seq
 (.seq
 (.reg (oq 48 (.bin .eql (.s 40) (ki 4))<|
 om 47 48<|
 .nil) [1,3,4,5,6,7,40,47])
 (.cond (.s 47)
 (.exit 4)
 .skip))
 (.seq
 (.seq
 (.reg (oq 50 (.bin .eql (.s 40) (ki 5))<|
 om 49 50<|
 .nil) [1,3,4,5,6,7,40,49])
 (.cond (.s 49)
 (.exit 5)
 .skip))
 (.seq
 (.seq
 (.reg (oq 52 (.bin .eql (.s 40) (ki 7))<|
 om 51 52<|
 .nil) [1,3,4,5,6,40,51])
 (.cond (.s 51)
 (.exit 6)
 .skip))
 (.seq
 (.reg (oq 54 (.bin .eql (.s 40) (ki 6))<|
 om 53 54<|
 .nil) [1,3,4,5,6,53])
 (.cond (.s 53)
 (.exit 7)
 .skip))))))))
 (.exit 8)))
 (.exit 0)))
 (.seq
 (.reg (oq 3 (.mv kt)<|
 .nil) [3,4,5,6,7])
 (.exit 0))))
 (.seq
 (.reg (oq 55 (.fad 2 (.s 1))<|
 oq 56 (.load true 3 (.s 55))<|
 oq 57 (.call vy [.s 56])<|
 om 4 57<|
 .nil) [3,4,5,6,7])
 (.exit 0))))
 (.seq
 (.reg (oq 58 (.fad 5 (.s 1))<|
 ol 59 58<|
 oq 60 (.call ve [.s 59])<|
 om 5 60<|
 .nil) [3,4,5,6,7])
 (.exit 0))))
 (.seq
 (.reg (oq 61 (.fad 5 (.s 1))<|
 ol 62 61<|
 oq 63 (.lns (.s 62))<|
 oq 64 (.bin .leq (.s 63) (ki 2000))<|
 om 5 64<|
 .nil) [3,4,5,6,7])
 (.exit 0))))
 (.reg (oq 65 (.fad 6 (.s 1))<|
 ol 66 65<|
 oq 67 (.call vJ [.s 66])<|
 om 68 67<|
 .grp 68 true (oq 69 (.fad 6 (.s 1))<|
 ol 70 69<|
 oq 71 (.len (.s 70))<|
 oq 72 (.fad 7 (.s 1))<|
 ol 73 72<|
 oq 74 (.len (.s 73))<|
 oq 75 (.bin .eql (.s 71) (.s 74))<|
 .nil) 76 (.s 75) kf<|
 om 6 76<|
 .nil) [1,3,4,5,6]))))
 (.seq
 (.reg (oq 77 (.fad 7 (.s 1))<|
 ol 78 77<|
 oq 79 (.len (.s 78))<|
 oq 80 (.bin .leq (.s 79) (ki 300))<|
 om 7 80<|
 .nil) [3,4,5,6,7])
 (.exit 0))))
 (.seq
 (.seq
 (.reg (oq 2 (.mv kf)<|
 .nil) [2])
 .ret)
 (.exit 0))))))
 (.seq
 (.reg (om 81 3<|
 om 82 81<|
 .grp 82 true (om 83 4<|
 .nil) 84 (.s 83) kf<|
 om 85 84<|
 .grp 85 true (om 86 5<|
 .nil) 87 (.s 86) kf<|
 om 88 87<|
 .grp 88 true (om 89 6<|
 .nil) 90 (.s 89) kf<|
 om 91 90<|
 .grp 91 true (om 92 7<|
 .nil) 93 (.s 92) kf<|
 om 2 93<|
 .nil) [2])
 .ret)))))
def zbl:PFn:=⟨[.tmp 2],zbM,false⟩
def XK:Fn:=⟨1,[.tmp 2],false,false,zq zbM⟩
def wS:PC:=
 (.seq
 (.reg (oq 4 (.mv (ki 0))<|
 .nil) [0,1])
 (.seq
 (.seq
 (.reg (om 6 0<|
 oq 7 (.len (.s 6))<|
 oq 8 (.mv (ki 0))<|
 .nil) [0,1,7,8])
 (.blk 0
 (.loop ⟨[(0,.same),(1,.same),(7,.same),(8,.v)],[]⟩ [(.ext 0,⟨[],[]⟩),(.ret,⟨[(4,.v)],[]⟩)]
 (.seq
 (.reg (oq 9 (.bin .lss (.s 8) (.s 7))<|
 .nil) [0,1,7,8,9])
 (.seq
 (.cond (.s 9)
 .skip
 (.exit 0))
 (.seq
 (.blk 1
 (.seq
 (.reg (om 10 8<|
 om 5 10<|
 .nil) [0,1,5,7,8])
 (.seq
 (.reg (om 11 1<|
 om 12 0<|
 om 13 5<|
 oq 14 (.iad 11 (.s 12) (.s 13))<|
 oq 15 (.load true 11 (.s 14))<|
 oq 16 (.callv (.s 11) [.s 15])<|
 .nil) [0,1,5,7,8,16])
 (.cond (.s 16)
 (.seq
 (.reg (om 17 5<|
 om 4 17<|
 .nil) [4])
 .ret)
 .skip))))
 (.reg (oq 18 (.bin .add (.s 8) (ki 1))<|
 om 8 18<|
 .nil) [0,1,7,8])))))))
 (.seq
 (.reg (oq 4 (.mv (.k (.int .i64 (-1))))<|
 .nil) [4])
 .ret)))
def wQ:PFn:=⟨[.tmp 4],wS,false⟩
def yS:Fn:=⟨2,[.tmp 4],false,false,zq wS⟩
def zcj:PC:=
 (.seq
 (.reg (.box 8 1 (.s 0)<|
 oq 2 (.mv kf)<|
 .nil) [1])
 (.seq
 (.reg (oq 3 (.fad 0 (.s 1))<|
 ol 4 3<|
 oq 5 (.bin .eql (.s 4) (ki 0))<|
 om 6 5<|
 .grp 6 true (oq 7 (.fad 1 (.s 1))<|
 ol 8 7<|
 oq 9 (.un .not (.s 8))<|
 .nil) 10 (.s 9) kf<|
 om 11 10<|
 .grp 11 true (oq 12 (.fad 2 (.s 1))<|
 oq 13 (.fad 0 (.s 12))<|
 ol 14 13<|
 oq 15 (.un .not (.s 14))<|
 .nil) 16 (.s 15) kf<|
 om 17 16<|
 .grp 17 true (oq 18 (.fad 2 (.s 1))<|
 oq 19 (.fad 1 (.s 18))<|
 ol 20 19<|
 oq 21 (.len (.s 20))<|
 oq 22 (.bin .eql (.s 21) (ki 0))<|
 .nil) 23 (.s 22) kf<|
 om 24 23<|
 .grp 24 true (oq 25 (.fad 2 (.s 1))<|
 oq 26 (.fad 2 (.s 25))<|
 ol 27 26<|
 oq 28 (.bin .eql (.s 27) (ki 0))<|
 .nil) 29 (.s 28) kf<|
 om 30 29<|
 .grp 30 true (oq 31 (.fad 5 (.s 1))<|
 ol 32 31<|
 oq 33 (.bin .eql (.s 32) (.k (.str [])))<|
 .nil) 34 (.s 33) kf<|
 om 35 34<|
 .grp 35 true (oq 36 (.fad 6 (.s 1))<|
 ol 37 36<|
 oq 38 (.len (.s 37))<|
 oq 39 (.bin .eql (.s 38) (ki 0))<|
 .nil) 40 (.s 39) kf<|
 om 41 40<|
 .grp 41 true (oq 42 (.fad 7 (.s 1))<|
 ol 43 42<|
 oq 44 (.len (.s 43))<|
 oq 45 (.bin .eql (.s 44) (ki 0))<|
 .nil) 46 (.s 45) kf<|
 om 2 46<|
 .nil) [2])
 .ret))
def zbG:PFn:=⟨[.tmp 2],zcj,false⟩
def X1:Fn:=⟨1,[.tmp 2],false,false,zq zcj⟩
def zcE:PC:=
 (.seq
 (.reg (oq 2 (.mv kf)<|
 .nil) [0])
 (.seq
 (.reg (om 3 0<|
 oq 4 (.len (.s 3))<|
 oq 5 (.bin .leq (.s 4) (ki 63))<|
 om 6 5<|
 .grp 6 true (om 7 0<|
 oq 8 (.call yo [.s 7,(.k (.fn wk []))])<|
 oq 9 (.un .not (.s 8))<|
 .nil) 10 (.s 9) kf<|
 om 2 10<|
 .nil) [2])
 .ret))
def zc7:PFn:=⟨[.tmp 2],zcE,false⟩
def XD:Fn:=⟨1,[.tmp 2],false,false,zq zcE⟩
def qO:PC:=
 (.seq
 (.reg (oq 4 (.mv kf)<|
 .nil) [0,1])
 (.seq
 (.reg (om 5 0<|
 om 6 1<|
 oq 7 (.call xc [.s 5,.s 6])<|
 oq 8 (.bin .geq (.s 7) (ki 0))<|
 om 4 8<|
 .nil) [4])
 .ret))
def qS:PFn:=⟨[.tmp 4],qO,false⟩
def xK:Fn:=⟨2,[.tmp 4],false,false,zq qO⟩
def KK:PC:=
 (.seq
 (.reg (.box 8 1 (.s 0)<|
 oq 2 (.mv kf)<|
 .nil) [1])
 (.seq
 (.reg (oq 3 (.load true 8 (.s 1))<|
 oq 4 (.call qv [.s 3])<|
 oq 5 (.un .not (.s 4))<|
 om 2 5<|
 .nil) [2])
 .ret))
def zao:PFn:=⟨[.tmp 2],KK,false⟩
def Yc:Fn:=⟨1,[.tmp 2],false,false,zq KK⟩
def zbm:PC:=
 (.seq
 (.reg (.box 8 1 (.s 0)<|
 oq 2 (.mv (.k (.sl .full 0 [])))<|
 oq 3 (.mv (.k (.sl .full 0 [])))<|
 .nil) [1])
 (.seq
 (.seq
 (.reg (oq 5 (.fad 0 (.s 1))<|
 ol 6 5<|
 oq 7 (.bin .neq (.s 6) (ki 7))<|
 .nil) [1,7])
 (.cond (.s 7)
 (.seq
 (.reg (oq 2 (.mv (.k (.sl .full 0 [])))<|
 oq 3 (.mv (.k (.sl .full 0 [])))<|
 .nil) [2,3])
 .ret)
 .skip))
 (.seq
 (.reg (oq 8 (.fad 6 (.s 1))<|
 ol 9 8<|
 oq 10 (.len (.s 9))<|
 oq 11 (.fad 7 (.s 1))<|
 ol 12 11<|
 oq 13 (.len (.s 12))<|
 oq 14 (.min [.s 10,.s 13])<|
 om 4 14<|
 .nil) [1,4])
 (.seq
 (.drw (.nil)
 (oq 15 (.fad 6 (.s 1))<|
 ol 16 15<|
 om 17 4<|
 om 18 4<|
 oq 19 (.slc 1 (.s 16) none (some (.s 17)) (some (.s 18)))<|
 oq 20 (.fad 7 (.s 1))<|
 ol 21 20<|
 om 22 4<|
 om 23 4<|
 oq 24 (.slc 8 (.s 21) none (some (.s 22)) (some (.s 23)))<|
 om 2 19<|
 .nil)
 (om 3 24<|
 .nil) [2,3])
 .ret))))
def zbE:PFn:=⟨[.tmp 2,.tmp 3],zbm,false⟩
def Xz:Fn:=⟨1,[.tmp 2,.tmp 3],false,false,zq zbm⟩
def jL:PC:=
 (.seq
 (.reg (oq 4 (.mv (ki 0))<|
 .nil) [0,1])
 (.seq
 (.seq
 (.reg (om 6 0<|
 oq 7 (.len (.s 6))<|
 oq 8 (.mv (ki 0))<|
 .nil) [0,1,7,8])
 (.blk 0
 (.loop ⟨[(0,.same),(1,.same),(7,.same),(8,.v)],[]⟩ [(.ext 0,⟨[],[]⟩),(.ret,⟨[(4,.v)],[]⟩)]
 (.seq
 (.reg (oq 9 (.bin .lss (.s 8) (.s 7))<|
 .nil) [0,1,7,8,9])
 (.seq
 (.cond (.s 9)
 .skip
 (.exit 0))
 (.seq
 (.blk 1
 (.seq
 (.reg (om 10 8<|
 om 5 10<|
 .nil) [0,1,5,7,8])
 (.seq
 (.reg (om 11 1<|
 om 12 0<|
 om 13 5<|
 oq 14 (.iad 1 (.s 12) (.s 13))<|
 ol 15 14<|
 oq 16 (.bin .eql (.s 11) (.s 15))<|
 .nil) [0,1,5,7,8,16])
 (.cond (.s 16)
 (.seq
 (.reg (om 17 5<|
 om 4 17<|
 .nil) [4])
 .ret)
 .skip))))
 (.reg (oq 18 (.bin .add (.s 8) (ki 1))<|
 om 8 18<|
 .nil) [0,1,7,8])))))))
 (.seq
 (.reg (oq 4 (.mv (.k (.int .i64 (-1))))<|
 .nil) [4])
 .ret)))
def jR:PFn:=⟨[.tmp 4],jL,false⟩
def wP:Fn:=⟨2,[.tmp 4],false,false,zq jL⟩
def qJ:PC:=
 (.seq
 (.reg (oq 4 (.mv (ki 0))<|
 .nil) [0,1])
 (.seq
 (.seq
 (.reg (om 6 0<|
 oq 7 (.len (.s 6))<|
 oq 8 (.mv (ki 0))<|
 .nil) [0,1,7,8])
 (.blk 0
 (.loop ⟨[(0,.same),(1,.same),(7,.same),(8,.v)],[.same]⟩ [(.ext 0,⟨[],[.same]⟩),(.ret,⟨[(4,.v)],[.same]⟩)]
 (.seq
 (.reg (oq 9 (.bin .lss (.s 8) (.s 7))<|
 .nil) [0,1,7,8,9])
 (.seq
 (.cond (.s 9)
 .skip
 (.exit 0))
 (.seq
 (.blk 1
 (.seq
 (.reg (om 10 8<|
 om 5 10<|
 .nil) [0,1,5,7,8])
 (.seq
 (.reg (om 11 1<|
 om 12 0<|
 om 13 5<|
 oq 14 (.iad 1 (.s 12) (.s 13))<|
 ol 15 14<|
 oq 16 (.callv (.s 11) [.s 15])<|
 .nil) [0,1,5,7,8,16])
 (.cond (.s 16)
 (.seq
 (.reg (om 17 5<|
 om 4 17<|
 .nil) [4])
 .ret)
 .skip))))
 (.reg (oq 18 (.bin .add (.s 8) (ki 1))<|
 om 8 18<|
 .nil) [0,1,7,8])))))))
 (.seq
 (.reg (oq 4 (.mv (.k (.int .i64 (-1))))<|
 .nil) [4])
 .ret)))
def qL:PFn:=⟨[.tmp 4],qJ,false⟩
def xH:Fn:=⟨2,[.tmp 4],false,false,zq qJ⟩
def Zh:PC:=
 (.seq
 (.reg (oq 4 (.mv (ki 0))<|
 .nil) [0,1])
 (.seq
 (.seq
 (.reg (om 6 0<|
 oq 7 (.len (.s 6))<|
 oq 8 (.mv (ki 0))<|
 .nil) [0,1,7,8])
 (.blk 0
 (.loop ⟨[(0,.same),(1,.same),(7,.same),(8,.v)],[]⟩ [(.ext 0,⟨[],[]⟩),(.ret,⟨[(4,.v)],[]⟩)]
 (.seq
 (.reg (oq 9 (.bin .lss (.s 8) (.s 7))<|
 .nil) [0,1,7,8,9])
 (.seq
 (.cond (.s 9)
 .skip
 (.exit 0))
 (.seq
 (.blk 1
 (.seq
 (.reg (om 10 8<|
 om 5 10<|
 .nil) [0,1,5,7,8])
 (.seq
 (.reg (om 11 1<|
 om 12 0<|
 om 13 5<|
 oq 14 (.iad 1 (.s 12) (.s 13))<|
 ol 15 14<|
 oq 16 (.callv (.s 11) [.s 15])<|
 .nil) [0,1,5,7,8,16])
 (.cond (.s 16)
 (.seq
 (.reg (om 17 5<|
 om 4 17<|
 .nil) [4])
 .ret)
 .skip))))
 (.reg (oq 18 (.bin .add (.s 8) (ki 1))<|
 om 8 18<|
 .nil) [0,1,7,8])))))))
 (.seq
 (.reg (oq 4 (.mv (.k (.int .i64 (-1))))<|
 .nil) [4])
 .ret)))
def qg:PFn:=⟨[.tmp 4],Zh,false⟩
def QO:PC:=
 (.seq
 (.reg (oq 3 (.mv kf)<|
 .nil) [0,1])
 (.seq
 (.reg (om 4 0<|
 ol 5 1<|
 oq 6 (.bin .gtr (.s 4) (.s 5))<|
 om 3 6<|
 .nil) [3])
 .ret))
def JP:PFn:=⟨[.tmp 3],QO,false⟩
def Zc:Fn:=⟨1,[.tmp 3],false,false,zq QO⟩
def jD:PC:=
 (.seq
 (.reg (oq 2 (.mv (.k (.sl .full 0 [])))<|
 .nil) [0])
 (.seq
 (.reg (oq 3 (.mv (ki 0))<|
 .nil) [0,3])
 (.seq
 (.seq
 (.reg (om 9 0<|
 oq 10 (.len (.s 9))<|
 oq 11 (.mv (ki 0))<|
 .nil) [0,3,9,10,11])
 (.blk 0
 (.loop ⟨[(0,.same),(3,.v),(9,.same),(10,.same),(11,.v)],[]⟩ [(.ext 0,⟨[(0,.same),(3,.v)],[]⟩),(.ext 1000000,⟨[(1000000,.v)],[]⟩),(.ext 1000002,⟨[],[]⟩)]
 (.seq
 (.reg (oq 12 (.bin .lss (.s 11) (.s 10))<|
 .nil) [0,3,9,10,11,12])
 (.seq
 (.cond (.s 12)
 .skip
 (.exit 0))
 (.seq
 (.blk 1
 (.seq
 (.reg (oq 13 (.iad 1 (.s 9) (.s 11))<|
 ol 14 13<|
 om 5 14<|
 .nil) [0,3,5,9,10,11])
 (.seq
 (.reg (om 15 3<|
 om 16 5<|
 oq 17 (.len (.s 16))<|
 oq 18 (.bin .add (.s 15) (.s 17))<|
 om 3 18<|
 .nil) [0,3,9,10,11])
 (.seq
 (.reg (om 19 3<|
 oq 20 (.bin .lss (.s 19) (ki 0))<|
 .nil) [0,3,9,10,11,20])
 (.cond (.s 20)
 (.seq
 (.reg (oq 21 (.ifc 9 (.k (.str [108,101,110,32,111,117,116,32,111,102,32,114,97,110,103,101])))<|
 om 1000000 21<|
 oq 1000001 (.inil true (.s 1000000))<|
 .nil) [1000000,1000001])
 (.cond (.s 1000001)
 (.exit 1000000)
 (.exit 1000002)))
 .skip)))))
 (.reg (oq 22 (.bin .add (.s 11) (ki 1))<|
 om 11 22<|
 .nil) [0,3,9,10,11])))))))
 (.seq
 (.reg (om 23 3<|
 oq 24 (.call xu [(.k (.sl .full 0 [])),.s 23])<|
 om 6 24<|
 .nil) [0,6])
 (.seq
 (.seq
 (.reg (om 25 0<|
 oq 26 (.len (.s 25))<|
 oq 27 (.mv (ki 0))<|
 .nil) [6,25,26,27])
 (.blk 2
 (.loop ⟨[(6,(.own 1)),(25,.same),(26,.same),(27,.v)],[]⟩ [(.ext 2,⟨[(6,(.own 1))],[]⟩)]
 (.seq
 (.reg (oq 28 (.bin .lss (.s 27) (.s 26))<|
 .nil) [6,25,26,27,28])
 (.seq
 (.cond (.s 28)
 .skip
 (.exit 2))
 (.seq
 (.blk 3
 (.seq
 (.reg (oq 29 (.iad 1 (.s 25) (.s 27))<|
 ol 30 29<|
 om 8 30<|
 .nil) [6,8,25,26,27])
 (.reg (om 31 6<|
 om 32 8<|
 oq 33 (.app 1 16 (.s 31) (.s 32))<|
 om 6 33<|
 .nil) [6,25,26,27])))
 (.reg (oq 34 (.bin .add (.s 27) (ki 1))<|
 om 27 34<|
 .nil) [6,25,26,27])))))))
 (.seq
 (.reg (om 35 6<|
 om 2 35<|
 .nil) [2])
 .ret))))))
def jA:PFn:=⟨[.tmp 2],jD,false⟩
def Xr:C:=
 (.seq
 (.reg [nq 2 (.mv (.k (.sl .full 0 [])))] [0])
 (.seq
 (.reg [nq 3 (.mv (ki 0))] [0,3])
 (.seq
 (.seq
 (.reg [nm 9 0,nq 10 (.len (.s 9)),nq 11 (.mv (ki 0))] [0,3,9,10,11])
 (.blk 0
 (.loop
 (.seq
 (.reg [nq 12 (.bin .lss (.s 11) (.s 10))] [0,3,9,10,11,12])
 (.seq
 (.cond (.s 12)
 .skip
 (.exit 0))
 (.seq
 (.blk 1
 (.seq
 (.reg [nq 13 (.iad 1 (.s 9) (.s 11)),nq 14 (.load false 1 (.s 13)),nm 5 14] [0,3,5,9,10,11])
 (.seq
 (.reg [nm 15 3,nm 16 5,nq 17 (.len (.s 16)),nq 18 (.bin .add (.s 15) (.s 17)),nm 3 18] [0,3,9,10,11])
 (.seq
 (.reg [nm 19 3,nq 20 (.bin .lss (.s 19) (ki 0))] [0,3,9,10,11,20])
 (.cond (.s 20)
 (.reg [nq 21 (.ifc 9 (.k (.str [108,101,110,32,111,117,116,32,111,102,32,114,97,110,103,101]))),⟨none,.pan (.s 21),none⟩] [0,3,9,10,11])
 .skip)))))
 (.reg [nq 22 (.bin .add (.s 11) (ki 1)),nm 11 22] [0,3,9,10,11])))))))
 (.seq
 (.reg [nm 23 3,nq 24 (.call xu [(.k (.sl .full 0 [])),.s 23]),nm 6 24] [0,6])
 (.seq
 (.seq
 (.reg [nm 25 0,nq 26 (.len (.s 25)),nq 27 (.mv (ki 0))] [6,25,26,27])
 (.blk 2
 (.loop
 (.seq
 (.reg [nq 28 (.bin .lss (.s 27) (.s 26))] [6,25,26,27,28])
 (.seq
 (.cond (.s 28)
 .skip
 (.exit 2))
 (.seq
 (.blk 3
 (.seq
 (.reg [nq 29 (.iad 1 (.s 25) (.s 27)),nq 30 (.load false 1 (.s 29)),nm 8 30] [6,8,25,26,27])
 (.reg [nm 31 6,nm 32 8,nq 33 (.app 1 16 (.s 31) (.s 32)),nm 6 33] [6,25,26,27])))
 (.reg [nq 34 (.bin .add (.s 27) (ki 1)),nm 27 34] [6,25,26,27])))))))
 (.seq
 (.reg [nm 35 6,nm 2 35] [2])
 .ret))))))
def vM:Fn:=⟨1,[.tmp 2],false,false,Xr⟩
def XN:Fn:=⟨1,[.tmp 2],false,false,zq jD⟩
def Wy:PC:=
 (.seq
 (.reg (.box 8 2 (.s 0)<|
 oq 4 (.alloc zt8)<|
 oq 5 (.mv kf)<|
 .nil) [1,2,4])
 (.seq
 (.seq
 (.reg (oq 8 (.fad 0 (.s 2))<|
 ol 9 8<|
 oq 10 (.bin .neq (.s 9) (ki 6))<|
 .nil) [1,2,4,10])
 (.cond (.s 10)
 (.seq
 (.reg (oq 11 (.load true 8 (.s 2))<|
 om 12 1<|
 oq 13 (.call vk [.s 11,.s 12])<|
 oq 14 (.ext (.s 13) 0)<|
 oq 15 (.ext (.s 13) 1)<|
 oz (.store 8 (.s 4) (.s 14))<|
 om 5 15<|
 .nil) [4,5])
 .ret)
 .skip))
 (.seq
 (.reg (om 17 1<|
 oq 18 (.fad 7 (.s 2))<|
 ol 19 18<|
 oq 20 (.len (.s 19))<|
 oq 21 (.bin .sub (.s 20) (ki 1))<|
 oq 22 (.call ye [.s 17,.s 21])<|
 om 16 22<|
 oq 23 (.ext (.s 16) 0)<|
 oq 24 (.ext (.s 16) 1)<|
 om 6 23<|
 om 7 24<|
 .nil) [2,4,6,7])
 (.seq
 (.seq
 (.reg (om 25 7<|
 oq 26 (.un .not (.s 25))<|
 .nil) [2,4,6,26])
 (.cond (.s 26)
 (.seq
 (.reg (oq 27 (.build zt8 [])<|
 oz (.store 8 (.s 4) (.s 27))<|
 oq 5 (.mv kf)<|
 .nil) [4,5])
 .ret)
 .skip))
 (.seq
 (.reg (oq 28 (.fad 7 (.s 2))<|
 ol 29 28<|
 om 30 6<|
 oq 31 (.iad 8 (.s 29) (.s 30))<|
 oq 32 (.load true 8 (.s 31))<|
 oz (.store 8 (.s 4) (.s 32))<|
 oq 5 (.mv kt)<|
 .nil) [4,5])
 .ret)))))
def WA:PFn:=⟨[.cell 4 true 8,.tmp 5],Wy,false⟩
def ju:Fn:=⟨2,[.cell 4 true 8,.tmp 5],false,false,zq Wy⟩
def zh5:PC:=
 (.seq
 (.reg (.box 3 1 (.s 0)<|
 oq 2 (.alloc [.bool false,(.sl .full 0 []),.int .i64 0])<|
 .nil) [1,2])
 (.seq
 (.seq
 (.reg (oq 3 (.load true 3 (.s 1))<|
 oq 4 (.call vy [.s 3])<|
 oq 5 (.un .not (.s 4))<|
 .nil) [1,2,5])
 (.cond (.s 5)
 (.seq
 (.reg (oq 6 (.build [.bool false,(.sl .full 0 []),.int .i64 0] [])<|
 oz (.store 3 (.s 2) (.s 6))<|
 .nil) [2])
 .ret)
 .skip))
 (.seq
 (.reg (oq 7 (.load true 3 (.s 1))<|
 oz (.store 3 (.s 2) (.s 7))<|
 .nil) [2])
 .ret)))
def zow:PFn:=⟨[.cell 2 true 3],zh5,false⟩
def Jb:Fn:=⟨1,[.cell 2 true 3],false,false,zq zh5⟩
def jW:PC:=
 (.seq
 (.reg (oq 4 (.mv kf)<|
 .nil) [0,1])
 (.seq
 (.seq
 (.reg (om 6 0<|
 oq 7 (.len (.s 6))<|
 om 8 1<|
 oq 9 (.len (.s 8))<|
 oq 10 (.bin .neq (.s 7) (.s 9))<|
 .nil) [0,1,10])
 (.cond (.s 10)
 (.seq
 (.reg (oq 4 (.mv kf)<|
 .nil) [4])
 .ret)
 .skip))
 (.seq
 (.seq
 (.reg (om 11 0<|
 oq 12 (.len (.s 11))<|
 oq 13 (.mv (ki 0))<|
 .nil) [0,1,12,13])
 (.blk 0
 (.loop ⟨[(0,.same),(1,.same),(12,.same),(13,.v)],[]⟩ [(.ext 0,⟨[],[]⟩),(.ret,⟨[(4,.v)],[]⟩)]
 (.seq
 (.reg (oq 14 (.bin .lss (.s 13) (.s 12))<|
 .nil) [0,1,12,13,14])
 (.seq
 (.cond (.s 14)
 .skip
 (.exit 0))
 (.seq
 (.blk 1
 (.seq
 (.reg (om 15 13<|
 om 5 15<|
 .nil) [0,1,5,12,13])
 (.seq
 (.drw (.nil)
 (om 16 0<|
 om 17 5<|
 oq 18 (.iad 1 (.s 16) (.s 17))<|
 ol 19 18<|
 om 20 1<|
 om 21 5<|
 oq 22 (.iad 1 (.s 20) (.s 21))<|
 ol 23 22<|
 .nil)
 (oq 24 (.bin .neq (.s 19) (.s 23))<|
 .nil) [0,1,12,13,24])
 (.cond (.s 24)
 (.seq
 (.reg (oq 4 (.mv kf)<|
 .nil) [4])
 .ret)
 .skip))))
 (.reg (oq 25 (.bin .add (.s 13) (ki 1))<|
 om 13 25<|
 .nil) [0,1,12,13])))))))
 (.seq
 (.reg (oq 4 (.mv kt)<|
 .nil) [4])
 .ret))))
def Wh:PFn:=⟨[.tmp 4],jW,false⟩
def wN:Fn:=⟨2,[.tmp 4],false,false,zq jW⟩
def zaq:PC:=
 (.seq
 (.reg (.box 3 1 (.s 0)<|
 oq 2 (.mv kf)<|
 .nil) [1])
 (.seq
 (.reg (oq 6 (.fad 1 (.s 1))<|
 ol 7 6<|
 oq 8 (.len (.s 7))<|
 om 3 8<|
 .nil) [1,3])
 (.seq
 (.seq
 (.reg (om 9 3<|
 oq 10 (.bin .eql (.s 9) (ki 0))<|
 .nil) [1,3,10])
 (.cond (.s 10)
 (.seq
 (.reg (oq 11 (.fad 0 (.s 1))<|
 ol 12 11<|
 oq 13 (.un .not (.s 12))<|
 om 14 13<|
 .grp 14 true (oq 15 (.fad 2 (.s 1))<|
 ol 16 15<|
 oq 17 (.bin .eql (.s 16) (ki 0))<|
 .nil) 18 (.s 17) kf<|
 om 2 18<|
 .nil) [2])
 .ret)
 .skip))
 (.seq
 (.seq
 (.reg (om 19 3<|
 oq 20 (.bin .gtr (.s 19) (ki 90))<|
 om 21 20<|
 .grp 21 false (oq 22 (.fad 1 (.s 1))<|
 ol 23 22<|
 om 24 3<|
 oq 25 (.bin .sub (.s 24) (ki 1))<|
 oq 26 (.iad 1 (.s 23) (.s 25))<|
 ol 27 26<|
 oq 28 (.bin .eql (.s 27) (.k (.int .u32 0)))<|
 .nil) 29 (.s 28) kt<|
 om 30 29<|
 .grp 30 false (oq 31 (.fad 2 (.s 1))<|
 ol 32 31<|
 oq 33 (.bin .lss (.s 32) (.k (.int .i64 (-1200))))<|
 .nil) 34 (.s 33) kt<|
 om 35 34<|
 .grp 35 false (oq 36 (.fad 2 (.s 1))<|
 ol 37 36<|
 oq 38 (.bin .gtr (.s 37) (ki 1200))<|
 .nil) 39 (.s 38) kt<|
 .nil) [1,39])
 (.cond (.s 39)
 (.seq
 (.reg (oq 2 (.mv kf)<|
 .nil) [2])
 .ret)
 .skip))
 (.seq
 (.reg (oq 41 (.fad 1 (.s 1))<|
 ol 42 41<|
 oq 43 (.call jb [.s 42])<|
 om 40 43<|
 oq 44 (.ext (.s 40) 0)<|
 oq 45 (.ext (.s 40) 1)<|
 om 4 44<|
 om 5 45<|
 .nil) [5])
 (.seq
 (.reg (om 46 5<|
 oq 47 (.bin .eql (.s 46) (ki 0))<|
 om 2 47<|
 .nil) [2])
 .ret))))))
def K2:PFn:=⟨[.tmp 2],zaq,false⟩
def Z9:Fn:=⟨1,[.tmp 2],false,false,zq zaq⟩
def zad:PC:=
 (.seq
 (.reg (oq 2 (.mv kf)<|
 .nil) [0])
 (.seq
 (.reg (om 3 0<|
 oq 4 (.lns (.s 3))<|
 oq 5 (.bin .leq (.s 4) (ki 2000))<|
 om 6 5<|
 .grp 6 true (om 7 0<|
 oq 8 (.call wZ [.s 7])<|
 .nil) 9 (.s 8) kf<|
 om 2 9<|
 .nil) [2])
 .ret))
def zak:PFn:=⟨[.tmp 2],zad,false⟩
def Yt:Fn:=⟨1,[.tmp 2],false,false,zq zad⟩
def Jr:PC:=
 (.seq
 (.reg (oq 2 (.mv kf)<|
 .nil) [0])
 (.seq
 (.seq
 (.reg (om 5 0<|
 oq 6 (.len (.s 5))<|
 oq 7 (.mv (ki 0))<|
 .nil) [0,5,6,7])
 (.blk 0
 (.loop ⟨[(0,.same),(5,.same),(6,.same),(7,.v)],[]⟩ [(.ext 0,⟨[(0,.same)],[]⟩),(.ret,⟨[(2,.v)],[]⟩)]
 (.seq
 (.reg (oq 8 (.bin .lss (.s 7) (.s 6))<|
 .nil) [0,5,6,7,8])
 (.seq
 (.cond (.s 8)
 .skip
 (.exit 0))
 (.seq
 (.blk 1
 (.seq
 (.reg (om 9 7<|
 oq 10 (.iad 1 (.s 5) (.s 7))<|
 ol 11 10<|
 om 3 9<|
 om 4 11<|
 .nil) [0,3,4,5,6,7])
 (.seq
 (.reg (om 12 4<|
 oq 13 (.call ve [.s 12])<|
 oq 14 (.un .not (.s 13))<|
 om 15 14<|
 .grp 15 false (om 16 3<|
 oq 17 (.bin .gtr (.s 16) (ki 0))<|
 om 18 17<|
 .grp 18 true (om 19 0<|
 om 20 3<|
 oq 21 (.bin .sub (.s 20) (ki 1))<|
 oq 22 (.iad 1 (.s 19) (.s 21))<|
 ol 23 22<|
 om 24 4<|
 oq 25 (.bin .geq (.s 23) (.s 24))<|
 .nil) 26 (.s 25) kf<|
 .nil) 27 (.s 26) kt<|
 .nil) [0,5,6,7,27])
 (.cond (.s 27)
 (.seq
 (.reg (oq 2 (.mv kf)<|
 .nil) [2])
 .ret)
 .skip))))
 (.reg (oq 28 (.bin .add (.s 7) (ki 1))<|
 om 7 28<|
 .nil) [0,5,6,7])))))))
 (.seq
 (.reg (om 29 0<|
 oq 30 (.len (.s 29))<|
 oq 31 (.bin .leq (.s 30) (ki 300))<|
 om 2 31<|
 .nil) [2])
 .ret)))
def Q7:PFn:=⟨[.tmp 2],Jr,false⟩
def kX:Fn:=⟨1,[.tmp 2],false,false,zq Jr⟩
def vP:PC:=
 (.seq
 (.reg (oq 4 (.mv kf)<|
 .nil) [0,1])
 (.seq
 (.reg (om 5 0<|
 om 6 1<|
 oq 7 (.call zz [.s 5,.s 6])<|
 oq 8 (.bin .geq (.s 7) (ki 0))<|
 om 4 8<|
 .nil) [4])
 .ret))
def vO:PFn:=⟨[.tmp 4],vP,false⟩
def xi:Fn:=⟨2,[.tmp 4],false,false,zq vP⟩
def Jw:PC:=
 (.seq
 (.reg (oq 2 (.mv kf)<|
 .nil) [0])
 (.seq
 (.reg (om 3 0<|
 oq 4 (.lns (.s 3))<|
 oq 5 (.bin .gtr (.s 4) (ki 2000))<|
 om 6 5<|
 .grp 6 false (om 7 0<|
 oq 8 (.call wZ [.s 7])<|
 oq 9 (.un .not (.s 8))<|
 .nil) 10 (.s 9) kt<|
 om 2 10<|
 .nil) [2])
 .ret))
def JQ:PFn:=⟨[.tmp 2],Jw,false⟩
def kW:Fn:=⟨1,[.tmp 2],false,false,zq Jw⟩
def KZ:PC:=
 (.seq
 (.reg (oq 2 (.mv kf)<|
 .nil) [0])
 (.seq
 .skip
 (.seq
 (.seq
 (.reg (om 7 0<|
 oq 8 (.rng (.s 7))<|
 .nil) [0,8])
 (.blk 0
 (.loop ⟨[(0,.same),(8,.same)],[.iter]⟩ [(.ext 0,⟨[],[.dead]⟩),(.ret,⟨[(2,.v)],[.dead]⟩)]
 (.seq
 (.reg (oq 9 (.nxt (.s 8))<|
 oq 10 (.ext (.s 9) 0)<|
 .nil) [0,8,9,10])
 (.seq
 (.cond (.s 10)
 .skip
 (.exit 0))
 (.blk 1
 (.seq
 (.reg (oq 11 (.ext (.s 9) 1)<|
 oq 12 (.ext (.s 9) 2)<|
 om 3 11<|
 om 4 12<|
 .nil) [0,3,4,8])
 (.seq
 (.seq
 (.reg (om 13 4<|
 oq 14 (.bin .neq (.s 13) (.k (.int .i32 65533)))<|
 .nil) [0,3,8,14])
 (.cond (.s 14)
 (.exit 1)
 .skip))
 (.seq
 (.reg (om 16 0<|
 om 17 3<|
 oq 18 (.sls (.s 16) (some (.s 17)) none)<|
 oq 19 (.call yJ [.s 18])<|
 om 15 19<|
 oq 20 (.ext (.s 15) 0)<|
 oq 21 (.ext (.s 15) 1)<|
 om 5 20<|
 om 6 21<|
 .nil) [0,6,8])
 (.seq
 (.reg (om 22 6<|
 oq 23 (.bin .eql (.s 22) (ki 1))<|
 .nil) [0,8,23])
 (.cond (.s 23)
 (.seq
 (.reg (oq 2 (.mv kf)<|
 .nil) [2])
 .ret)
 .skip)))))))))))
 (.seq
 (.reg (oq 2 (.mv kt)<|
 .nil) [2])
 .ret))))
def KX:PFn:=⟨[.tmp 2],KZ,false⟩
def Yp:Fn:=⟨1,[.tmp 2],false,false,zq KZ⟩
def jV:PC:=
 (.seq
 (.reg (oq 4 (.mv (ki 0))<|
 .nil) [0,1])
 (.seq
 (.seq
 (.reg (om 6 0<|
 oq 7 (.len (.s 6))<|
 oq 8 (.mv (ki 0))<|
 .nil) [0,1,7,8])
 (.blk 0
 (.loop ⟨[(0,.same),(1,.same),(7,.same),(8,.v)],[]⟩ [(.ext 0,⟨[],[]⟩),(.ret,⟨[(4,.v)],[]⟩)]
 (.seq
 (.reg (oq 9 (.bin .lss (.s 8) (.s 7))<|
 .nil) [0,1,7,8,9])
 (.seq
 (.cond (.s 9)
 .skip
 (.exit 0))
 (.seq
 (.blk 1
 (.seq
 (.reg (om 10 8<|
 om 5 10<|
 .nil) [0,1,5,7,8])
 (.seq
 (.reg (om 11 1<|
 om 12 0<|
 om 13 5<|
 oq 14 (.iad 8 (.s 12) (.s 13))<|
 oq 15 (.load true 8 (.s 14))<|
 oq 16 (.callv (.s 11) [.s 15])<|
 .nil) [0,1,5,7,8,16])
 (.cond (.s 16)
 (.seq
 (.reg (om 17 5<|
 om 4 17<|
 .nil) [4])
 .ret)
 .skip))))
 (.reg (oq 18 (.bin .add (.s 8) (ki 1))<|
 om 8 18<|
 .nil) [0,1,7,8])))))))
 (.seq
 (.reg (oq 4 (.mv (.k (.int .i64 (-1))))<|
 .nil) [4])
 .ret)))
def jP:PFn:=⟨[.tmp 4],jV,false⟩
def wJ:Fn:=⟨2,[.tmp 4],false,false,zq jV⟩
def VG:PC:=
 (.seq
 (.reg (.box 8 2 (.s 0)<|
 oq 4 (.alloc zt8)<|
 oq 5 (.mv kf)<|
 .nil) [1,2,4])
 (.seq
 (.reg (oq 10 (.load true 8 (.s 2))<|
 oq 11 (.call wx [.s 10])<|
 om 9 11<|
 oq 12 (.ext (.s 9) 0)<|
 oq 13 (.ext (.s 9) 1)<|
 om 6 12<|
 om 7 13<|
 .nil) [1,4,6,7])
 (.seq
 (.seq
 (.reg (om 14 6<|
 om 15 1<|
 oq 16 (.call yb [.s 14,.s 15])<|
 om 8 16<|
 .nil) [4,7,8])
 (.seq
 (.reg (om 17 8<|
 oq 18 (.bin .geq (.s 17) (ki 0))<|
 .nil) [4,7,8,18])
 (.cond (.s 18)
 (.seq
 (.reg (om 19 7<|
 om 20 8<|
 oq 21 (.iad 8 (.s 19) (.s 20))<|
 oq 22 (.load true 8 (.s 21))<|
 oz (.store 8 (.s 4) (.s 22))<|
 oq 5 (.mv kt)<|
 .nil) [4,5])
 .ret)
 .skip)))
 (.seq
 (.reg (oq 23 (.build zt8 [])<|
 oz (.store 8 (.s 4) (.s 23))<|
 oq 5 (.mv kf)<|
 .nil) [4,5])
 .ret))))
def VV:PFn:=⟨[.cell 4 true 8,.tmp 5],VG,false⟩
def kv:Fn:=⟨2,[.cell 4 true 8,.tmp 5],false,false,zq VG⟩
def zcN:PC:=
 (.seq
 (.reg (oq 2 (.mv (.k (.sl .full 0 [])))<|
 oq 3 (.mv (ki 0))<|
 .nil) [0])
 (.seq
 (.reg (om 7 0<|
 oq 8 (.call vL [.s 7])<|
 om 0 8<|
 .nil) [0])
 (.seq
 (.reg (oq 4 (.mv (ki 0))<|
 .nil) [0,4])
 (.seq
 .skip
 (.seq
 (.blk 0
 (.loop ⟨[(0,.v),(4,.v)],[]⟩ [(.ext 0,⟨[(0,.v),(4,.v)],[]⟩)]
 (.seq
 (.seq
 (.reg (om 9 0<|
 oq 10 (.len (.s 9))<|
 oq 11 (.bin .gtr (.s 10) (ki 0))<|
 .nil) [0,4,11])
 (.cond (.s 11)
 .skip
 (.exit 0)))
 (.blk 1
 (.seq
 (.reg (om 13 0<|
 oq 14 (.call vz [.s 13,(.k (.int .u32 10))])<|
 om 12 14<|
 oq 15 (.ext (.s 12) 0)<|
 oq 16 (.ext (.s 12) 1)<|
 om 5 15<|
 om 6 16<|
 .nil) [0,4,5,6])
 (.seq
 (.seq
 (.reg (om 17 6<|
 oq 18 (.bin .neq (.s 17) (.k (.int .u32 0)))<|
 .nil) [0,4,5,18])
 (.cond (.s 18)
 (.exit 0)
 .skip))
 (.seq
 (.reg (om 19 5<|
 om 0 19<|
 .nil) [0,4])
 (.reg (om 20 4<|
 oq 21 (.bin .add (.s 20) (ki 1))<|
 om 4 21<|
 .nil) [0,4]))))))))
 (.seq
 (.reg (om 22 0<|
 om 23 4<|
 om 2 22<|
 om 3 23<|
 .nil) [2,3])
 .ret))))))
def zcm:PFn:=⟨[.tmp 2,.tmp 3],zcN,false⟩
def Xv:Fn:=⟨1,[.tmp 2,.tmp 3],false,false,zq zcN⟩
def jk:PC:=
 (.seq
 (.reg (oq 2 (.mv (.k (.int .i32 0)))<|
 oq 3 (.mv (ki 0))<|
 .nil) [0])
 (.seq
 (.seq
 (.reg (om 4 0<|
 oq 5 (.bin .neq (.s 4) (.k (.str [])))<|
 om 6 5<|
 .grp 6 true (om 7 0<|
 oq 8 (.ixs (.s 7) (ki 0))<|
 oq 9 (.bin .lss (.s 8) (.k (.int .u8 128)))<|
 .nil) 10 (.s 9) kf<|
 .nil) [0,10])
 (.cond (.s 10)
 (.seq
 (.reg (om 11 0<|
 oq 12 (.ixs (.s 11) (ki 0))<|
 oq 13 (.cvi .i32 (.s 12))<|
 om 2 13<|
 oq 3 (.mv (ki 1))<|
 .nil) [2,3])
 .ret)
 (.reg (om 15 0<|
 oq 16 (.call z5 [.s 15])<|
 om 14 16<|
 oq 17 (.ext (.s 14) 0)<|
 oq 18 (.ext (.s 14) 1)<|
 om 2 17<|
 om 3 18<|
 .nil) [2,3])))
 .ret))
def jh:PFn:=⟨[.tmp 2,.tmp 3],jk,false⟩
def xY:Fn:=⟨1,[.tmp 2,.tmp 3],false,false,zq jk⟩
def zb3:PC:=
 (.seq
 (.reg (oq 2 (.mv (.k (.sl .full 0 [])))<|
 .nil) [0])
 (.seq
 (.reg (om 5 0<|
 oq 6 (.len (.s 5))<|
 om 3 6<|
 .nil) [0,3])
 (.seq
 (.blk 0
 (.loop ⟨[(0,.same),(3,.v)],[]⟩ [(.ext 0,⟨[(0,.same),(3,.v)],[]⟩)]
 (.seq
 (.seq
 (.reg (om 7 3<|
 oq 8 (.bin .gtr (.s 7) (ki 0))<|
 om 9 8<|
 .grp 9 true (om 10 0<|
 om 11 3<|
 oq 12 (.bin .sub (.s 11) (ki 1))<|
 oq 13 (.iad 1 (.s 10) (.s 12))<|
 ol 14 13<|
 oq 15 (.bin .eql (.s 14) (.k (.int .u32 0)))<|
 .nil) 16 (.s 15) kf<|
 .nil) [0,3,16])
 (.cond (.s 16)
 .skip
 (.exit 0)))
 (.blk 1
 (.reg (om 17 3<|
 oq 18 (.bin .sub (.s 17) (ki 1))<|
 om 3 18<|
 .nil) [0,3])))))
 (.seq
 (.seq
 (.reg (om 19 3<|
 oq 20 (.bin .eql (.s 19) (ki 0))<|
 .nil) [0,3,20])
 (.cond (.s 20)
 (.seq
 (.reg (oq 2 (.mv (.k (.sl .full 0 [])))<|
 .nil) [2])
 .ret)
 .skip))
 (.seq
 (.reg (om 21 3<|
 oq 22 (.mks [.int .u32 0] 4 (.s 21) (.s 21))<|
 om 4 22<|
 .nil) [0,4])
 (.seq
 (.reg (om 23 4<|
 om 24 0<|
 oq 25 (.cpy 1 (.s 23) (.s 24))<|
 .nil) [4])
 (.seq
 (.reg (om 26 4<|
 om 2 26<|
 .nil) [2])
 .ret)))))))
def zbV:PFn:=⟨[.tmp 2],zb3,false⟩
def XG:Fn:=⟨1,[.tmp 2],false,false,zq zb3⟩
def K9:PC:=
 (.seq
 (.reg (oq 4 (.mv (.k (.sl .full 0 [])))<|
 oq 5 (.mv (.k (.int .u32 0)))<|
 .nil) [0,1])
 (.seq
 (.reg (om 9 0<|
 oq 10 (.len (.s 9))<|
 oq 11 (.mks [.int .u32 0] 4 (.s 10) (.s 10))<|
 om 6 11<|
 .nil) [0,1,6])
 (.seq
 (.reg (oq 7 (.mv (.k (.int .u64 0)))<|
 .nil) [0,1,6,7])
 (.seq
 (.seq
 (.reg (om 12 0<|
 oq 13 (.len (.s 12))<|
 oq 14 (.bin .sub (.s 13) (ki 1))<|
 om 8 14<|
 .nil) [0,1,6,7,8])
 (.blk 0
 (.loop ⟨[(0,.same),(1,.same),(6,.same),(7,.v),(8,.v)],[(.arr .no 1)]⟩ [(.ext 0,⟨[(6,.same),(7,.v)],[(.arr .no 1)]⟩)]
 (.seq
 (.seq
 (.reg (om 15 8<|
 oq 16 (.bin .geq (.s 15) (ki 0))<|
 .nil) [0,1,6,7,8,16])
 (.cond (.s 16)
 .skip
 (.exit 0)))
 (.seq
 (.blk 1
 (.seq
 (.reg (om 19 7<|
 oq 20 (.bin .shl (.s 19) (.k (.int .u64 32)))<|
 om 21 0<|
 om 22 8<|
 oq 23 (.iad 1 (.s 21) (.s 22))<|
 ol 24 23<|
 oq 25 (.cvi .u64 (.s 24))<|
 oq 26 (.bin .or (.s 20) (.s 25))<|
 om 7 26<|
 .nil) [0,1,6,7,8])
 (.seq
 (.reg (om 27 6<|
 om 28 8<|
 om 29 7<|
 om 30 1<|
 oq 31 (.cvi .u64 (.s 30))<|
 oq 32 (.bin .quo (.s 29) (.s 31))<|
 oq 33 (.cvi .u32 (.s 32))<|
 oq 34 (.iad 1 (.s 27) (.s 28))<|
 oz (.store 1 (.s 34) (.s 33))<|
 .nil) [0,1,6,7,8])
 (.reg (om 35 7<|
 om 36 1<|
 oq 37 (.cvi .u64 (.s 36))<|
 oq 38 (.bin .rem (.s 35) (.s 37))<|
 om 7 38<|
 .nil) [0,1,6,7,8]))))
 (.reg (om 17 8<|
 oq 18 (.bin .sub (.s 17) (ki 1))<|
 om 8 18<|
 .nil) [0,1,6,7,8]))))))
 (.seq
 (.reg (om 39 6<|
 oq 40 (.call vL [.s 39])<|
 om 41 7<|
 oq 42 (.cvi .u32 (.s 41))<|
 om 4 40<|
 om 5 42<|
 .nil) [4,5])
 .ret)))))
def zac:PFn:=⟨[.tmp 4,.tmp 5],K9,false⟩
def Yn:Fn:=⟨2,[.tmp 4,.tmp 5],false,false,zq K9⟩
def qb:PC:=
 (.seq
 (.reg (oq 2 (.mv (.k (.int .i32 0)))<|
 oq 3 (.mv (ki 0))<|
 .nil) [0])
 (.seq
 (.reg (om 13 0<|
 oq 14 (.lns (.s 13))<|
 om 4 14<|
 .nil) [0,4])
 (.seq
 (.seq
 (.reg (om 15 4<|
 oq 16 (.bin .lss (.s 15) (ki 1))<|
 .nil) [0,4,16])
 (.cond (.s 16)
 (.seq
 (.reg (oq 2 (.mv (.k (.int .i32 65533)))<|
 oq 3 (.mv (ki 0))<|
 .nil) [2,3])
 .ret)
 .skip))
 (.seq
 (.reg (om 17 0<|
 oq 18 (.ixs (.s 17) (ki 0))<|
 om 5 18<|
 .nil) [0,4,5])
 (.seq
 (.reg (om 19 5<|
 oq 20 (.iaa 256 1 (.g 0) (.s 19))<|
 ol 21 20<|
 om 6 21<|
 .nil) [0,4,5,6])
 (.seq
 (.seq
 (.reg (om 22 6<|
 oq 23 (.bin .geq (.s 22) (.k (.int .u8 240)))<|
 .nil) [0,4,5,6,23])
 (.cond (.s 23)
 (.seq
 (.reg (om 24 6<|
 oq 25 (.cvi .i32 (.s 24))<|
 oq 26 (.bin .shl (.s 25) (.k (.int .u64 31)))<|
 oq 27 (.bin .shr (.s 26) (.k (.int .u64 31)))<|
 om 7 27<|
 .nil) [0,7])
 (.seq
 (.reg (om 28 0<|
 oq 29 (.ixs (.s 28) (ki 0))<|
 oq 30 (.cvi .i32 (.s 29))<|
 om 31 7<|
 oq 32 (.bin .andNot (.s 30) (.s 31))<|
 om 33 7<|
 oq 34 (.bin .and (.k (.int .i32 65533)) (.s 33))<|
 oq 35 (.bin .or (.s 32) (.s 34))<|
 om 2 35<|
 oq 3 (.mv (ki 1))<|
 .nil) [2,3])
 .ret))
 .skip))
 (.seq
 (.reg (om 36 6<|
 oq 37 (.bin .and (.s 36) (.k (.int .u8 7)))<|
 oq 38 (.cvi .i64 (.s 37))<|
 om 8 38<|
 .nil) [0,4,5,6,8])
 (.seq
 (.reg (om 39 6<|
 oq 40 (.bin .shr (.s 39) (.k (.int .u64 4)))<|
 oq 41 (.iaa 16 2 (.g 1) (.s 40))<|
 oq 42 (.load true 2 (.s 41))<|
 oq 9 (.alloc [.int .u8 0,.int .u8 0])<|
 oz (.store 2 (.s 9) (.s 42))<|
 .nil) [0,4,5,8,9])
 (.seq
 (.seq
 (.reg (om 43 4<|
 om 44 8<|
 oq 45 (.bin .lss (.s 43) (.s 44))<|
 .nil) [0,5,8,9,45])
 (.cond (.s 45)
 (.seq
 (.reg (oq 2 (.mv (.k (.int .i32 65533)))<|
 oq 3 (.mv (ki 1))<|
 .nil) [2,3])
 .ret)
 .skip))
 (.seq
 (.reg (om 46 0<|
 oq 47 (.ixs (.s 46) (ki 1))<|
 om 10 47<|
 .nil) [0,5,8,9,10])
 (.seq
 (.seq
 (.reg (om 48 10<|
 oq 49 (.fad 0 (.s 9))<|
 ol 50 49<|
 oq 51 (.bin .lss (.s 48) (.s 50))<|
 om 52 51<|
 .grp 52 false (oq 53 (.fad 1 (.s 9))<|
 ol 54 53<|
 om 55 10<|
 oq 56 (.bin .lss (.s 54) (.s 55))<|
 .nil) 57 (.s 56) kt<|
 .nil) [0,5,8,10,57])
 (.cond (.s 57)
 (.seq
 (.reg (oq 2 (.mv (.k (.int .i32 65533)))<|
 oq 3 (.mv (ki 1))<|
 .nil) [2,3])
 .ret)
 .skip))
 (.seq
 (.seq
 (.reg (om 58 8<|
 oq 59 (.bin .leq (.s 58) (ki 2))<|
 .nil) [0,5,8,10,59])
 (.cond (.s 59)
 (.seq
 (.reg (om 60 5<|
 oq 61 (.bin .and (.s 60) (.k (.int .u8 31)))<|
 oq 62 (.cvi .i32 (.s 61))<|
 oq 63 (.bin .shl (.s 62) (.k (.int .u64 6)))<|
 om 64 10<|
 oq 65 (.bin .and (.s 64) (.k (.int .u8 63)))<|
 oq 66 (.cvi .i32 (.s 65))<|
 oq 67 (.bin .or (.s 63) (.s 66))<|
 om 2 67<|
 oq 3 (.mv (ki 2))<|
 .nil) [2,3])
 .ret)
 .skip))
 (.seq
 (.reg (om 68 0<|
 oq 69 (.ixs (.s 68) (ki 2))<|
 om 11 69<|
 .nil) [0,5,8,10,11])
 (.seq
 (.seq
 (.reg (om 70 11<|
 oq 71 (.bin .lss (.s 70) (.k (.int .u8 128)))<|
 om 72 71<|
 .grp 72 false (om 73 11<|
 oq 74 (.bin .lss (.k (.int .u8 191)) (.s 73))<|
 .nil) 75 (.s 74) kt<|
 .nil) [0,5,8,10,11,75])
 (.cond (.s 75)
 (.seq
 (.reg (oq 2 (.mv (.k (.int .i32 65533)))<|
 oq 3 (.mv (ki 1))<|
 .nil) [2,3])
 .ret)
 .skip))
 (.seq
 (.seq
 (.reg (om 76 8<|
 oq 77 (.bin .leq (.s 76) (ki 3))<|
 .nil) [0,5,10,11,77])
 (.cond (.s 77)
 (.seq
 (.reg (om 78 5<|
 oq 79 (.bin .and (.s 78) (.k (.int .u8 15)))<|
 oq 80 (.cvi .i32 (.s 79))<|
 oq 81 (.bin .shl (.s 80) (.k (.int .u64 12)))<|
 om 82 10<|
 oq 83 (.bin .and (.s 82) (.k (.int .u8 63)))<|
 oq 84 (.cvi .i32 (.s 83))<|
 oq 85 (.bin .shl (.s 84) (.k (.int .u64 6)))<|
 oq 86 (.bin .or (.s 81) (.s 85))<|
 om 87 11<|
 oq 88 (.bin .and (.s 87) (.k (.int .u8 63)))<|
 oq 89 (.cvi .i32 (.s 88))<|
 oq 90 (.bin .or (.s 86) (.s 89))<|
 om 2 90<|
 oq 3 (.mv (ki 3))<|
 .nil) [2,3])
 .ret)
 .skip))
 (.seq
 (.reg (om 91 0<|
 oq 92 (.ixs (.s 91) (ki 3))<|
 om 12 92<|
 .nil) [5,10,11,12])
 (.seq
 (.seq
 (.reg (om 93 12<|
 oq 94 (.bin .lss (.s 93) (.k (.int .u8 128)))<|
 om 95 94<|
 .grp 95 false (om 96 12<|
 oq 97 (.bin .lss (.k (.int .u8 191)) (.s 96))<|
 .nil) 98 (.s 97) kt<|
 .nil) [5,10,11,12,98])
 (.cond (.s 98)
 (.seq
 (.reg (oq 2 (.mv (.k (.int .i32 65533)))<|
 oq 3 (.mv (ki 1))<|
 .nil) [2,3])
 .ret)
 .skip))
 (.seq
 (.reg (om 99 5<|
 oq 100 (.bin .and (.s 99) (.k (.int .u8 7)))<|
 oq 101 (.cvi .i32 (.s 100))<|
 oq 102 (.bin .shl (.s 101) (.k (.int .u64 18)))<|
 om 103 10<|
 oq 104 (.bin .and (.s 103) (.k (.int .u8 63)))<|
 oq 105 (.cvi .i32 (.s 104))<|
 oq 106 (.bin .shl (.s 105) (.k (.int .u64 12)))<|
 oq 107 (.bin .or (.s 102) (.s 106))<|
 om 108 11<|
 oq 109 (.bin .and (.s 108) (.k (.int .u8 63)))<|
 oq 110 (.cvi .i32 (.s 109))<|
 oq 111 (.bin .shl (.s 110) (.k (.int .u64 6)))<|
 oq 112 (.bin .or (.s 107) (.s 111))<|
 om 113 12<|
 oq 114 (.bin .and (.s 113) (.k (.int .u8 63)))<|
 oq 115 (.cvi .i32 (.s 114))<|
 oq 116 (.bin .or (.s 112) (.s 115))<|
 om 2 116<|
 oq 3 (.mv (ki 4))<|
 .nil) [2,3])
 .ret))))))))))))))))))
def qc:PFn:=⟨[.tmp 2,.tmp 3],qb,false⟩
def xw:Fn:=⟨1,[.tmp 2,.tmp 3],false,false,zq qb⟩
def zhu:Nat→Nat→Option PFn:=fun f k=>(match f with | 3=>some Yg | 6=>some VO | 7=>some ze1 | 8=>some V3 | 13=>some zal | 500016=>some K7 | 1000017=>some zbp | 20=>some Jo | 21=>some KM | 22=>some zcU | 1000025=>some ze5 | 1000026=>some JR | 1000027=>some zeq | 1000028=>some zbf | 1000029=>some zeQ | 1000030=>some zcL | 31=>some zik | 37=>some Jq | 38=>some we | 39=>some VP | 40=>some zem | 41=>some VZ | 42=>some QK | 43=>some Jj | 44=>some zeo | 46=>some KP | 47=>some zdl | 48=>some X5 | 49=>some ZW | 50=>some Q2 | 51=>some VF | 52=>some jK | 53=>some Y4 | 54=>some V4 | 55=>some ziF | 56=>some Wj | 59=>some zbl | 60=>some wQ | 61=>some zbG | 62=>some zc7 | 63=>some qS | 64=>some zao | 65=>some zbE | 66=>some jR | 67=>(match k with | 0=>some qg | _=>some qL) | 68=>some JP | 72=>some jA | 73=>some WA | 74=>some zow | 75=>some Wh | 77=>some K2 | 78=>some zak | 79=>some Q7 | 80=>some vO | 81=>some JQ | 82=>some KX | 83=>some jP | 89=>some VV | 92=>some zcm | 93=>some jh | 96=>some zbV | 97=>some zac | 98=>some qc | _=>none)
def zp3:List (Nat×Fn):=[(xX,w8),(yC,kh),(xU,Kb),(vm,ku),(vB,Ye),(XM,Qz),(xj,Zf),(qq,Yb),(jc,XA),(Zo,J9),(jt,XZ),(ji,JX),(XU,Qw),(wr,Ku),(vG,Qs),(wq,Yv),(xF,Za),(zv,yE),(xA,kn),(vu,Vc),(xz,kq),(xN,k9),(xL,Ze),(qv,Vo),(xS,Yq),(vj,X3),(ye,qX),(z7,ja),(w7,Zb),(xy,kg),(ya,wI),(y3,qz),(wo,kx),(XF,XT),(xI,wK),(qn,XK),(yi,yS),(jd,X1),(vl,XD),(yD,xK),(vD,Yc),(wx,Xz),(yb,wP),(zz,xH),(xJ,Zc),(yN,vM),(xC,ju),(WC,Jb),(wF,wN),(vy,Z9),(ve,Yt),(vJ,kX),(yo,xi),(wk,kW),(wZ,Yp),(xc,wJ),(vk,kv),(jb,Xv),(yJ,xY),(vL,XG),(vz,Yn),(z5,xw)]
def zp0:List (Nat×List X×Fn):=[(xU,([.s 4,.s 5],Yh))]
def ex0:Nat→Option Told:=fun f=>(match f with | 69=>some (.fn (Xg 1 16)) | 70=>some (.fn (Xg 8 120)) | 71=>some (.fn (KC 8 120)) | 88=>some (.fn (KC 1 16)) | _=>none)
def glT:Nat→Option (List V):=fun g=>match g with | 0=>some G_0 | 1=>some G_1 | _=>none
def E0:Env:=⟨look zp3,fun g=>(glT g).map toDL,ex0,zeR zp0⟩
def mk0:Nat→Bool:=fun f=>(match f with | 17=>true | 25=>true | 26=>true | 27=>true | 28=>true | 29=>true | 30=>true | _=>false)
def znk:List (Nat×Fn):=[(xX,w8),(yC,kh),(xU,zlH),(vm,ku),(vB,Ye),(vC,KI),(vi,zjJ),(xj,Zf),(qq,Yb),(jc,XA),(qD,zlW),(vE,zfr),(wu,zms),(Zs,zi7),(xr,zls),(zt,ziW),(wq,Yv),(xF,Za),(zv,yE),(xA,kn),(vu,Vc),(xz,kq),(xN,k9),(xL,Ze),(qv,Vo),(xS,Yq),(vj,X3),(ye,qX),(z7,QE),(w7,Zb),(xy,kg),(ya,wI),(y3,qz),(wo,kx),(XF,XT),(xI,wK),(qn,XK),(yi,yS),(jd,X1),(vl,XD),(yD,xK),(vD,Yc),(wx,Xz),(yb,wP),(zz,xH),(xJ,Zc),(yN,XN),(xC,ju),(WC,Jb),(wF,wN),(vy,Z9),(ve,Yt),(vJ,kX),(yo,xi),(wk,kW),(wZ,Yp),(xc,wJ),(vk,kv),(jb,Xv),(yJ,xY),(vL,XG),(vz,Yn),(z5,xw)]
def E1:Env:=⟨look znk,fun g=>(glT g).map toDL,ex0,fun _=>none⟩
def md0:Nat→Md:=fun f=>(match f with | 69 => .ful | 70 => .ful | 71 => .gvf 8 | 88 => .gvf 1 | _ => .pl)
def tx0:Nat→Option (List V→Option V):=fun f=>(match f with | 69=>some (kC 1 16) | 70=>some (kC 8 120) | 71=>some (W2 120) | 88=>some (W2 16) | _=>none)
def gl0:Gl:=⟨glT,md0,tx0⟩
noncomputable def P0:PcT:=pcL gl0 zhu
end Go.Ev
