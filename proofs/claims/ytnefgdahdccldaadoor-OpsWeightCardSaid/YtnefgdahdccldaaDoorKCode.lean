/- The functions' code. -/
import Derived.Test.YtnefgdahdccldaaDoorKEvE
import Derived.Test.YtnefgdahdccldaaDoorKNums
set_option linter.all false
namespace Go.Ev
@[reducible] def oq(i:Nat)(o:O)(r:PO):PO := .one ⟨some i,o,none⟩ r
@[reducible] def oz(o:O)(r:PO):PO := .one ⟨none,o,none⟩ r
@[reducible] def zt8:List D:=[.int .i64 0,.bool false,.bool false,.sl .full 0 [],.int .i64 0,.str [],.sl .full 0 [],.sl .full 0 []]
def G_0:List V:=[.int .u8 240,.int .u8 240,.int .u8 240,.int .u8 240,.int .u8 240,.int .u8 240,.int .u8 240,.int .u8 240,.int .u8 240,.int .u8 240,.int .u8 240,.int .u8 240,.int .u8 240,.int .u8 240,.int .u8 240,.int .u8 240,.int .u8 240,.int .u8 240,.int .u8 240,.int .u8 240,.int .u8 240,.int .u8 240,.int .u8 240,.int .u8 240,.int .u8 240,.int .u8 240,.int .u8 240,.int .u8 240,.int .u8 240,.int .u8 240,.int .u8 240,.int .u8 240,.int .u8 240,.int .u8 240,.int .u8 240,.int .u8 240,.int .u8 240,.int .u8 240,.int .u8 240,.int .u8 240,.int .u8 240,.int .u8 240,.int .u8 240,.int .u8 240,.int .u8 240,.int .u8 240,.int .u8 240,.int .u8 240,.int .u8 240,.int .u8 240,.int .u8 240,.int .u8 240,.int .u8 240,.int .u8 240,.int .u8 240,.int .u8 240,.int .u8 240,.int .u8 240,.int .u8 240,.int .u8 240,.int .u8 240,.int .u8 240,.int .u8 240,.int .u8 240,.int .u8 240,.int .u8 240,.int .u8 240,.int .u8 240,.int .u8 240,.int .u8 240,.int .u8 240,.int .u8 240,.int .u8 240,.int .u8 240,.int .u8 240,.int .u8 240,.int .u8 240,.int .u8 240,.int .u8 240,.int .u8 240,.int .u8 240,.int .u8 240,.int .u8 240,.int .u8 240,.int .u8 240,.int .u8 240,.int .u8 240,.int .u8 240,.int .u8 240,.int .u8 240,.int .u8 240,.int .u8 240,.int .u8 240,.int .u8 240,.int .u8 240,.int .u8 240,.int .u8 240,.int .u8 240,.int .u8 240,.int .u8 240,.int .u8 240,.int .u8 240,.int .u8 240,.int .u8 240,.int .u8 240,.int .u8 240,.int .u8 240,.int .u8 240,.int .u8 240,.int .u8 240,.int .u8 240,.int .u8 240,.int .u8 240,.int .u8 240,.int .u8 240,.int .u8 240,.int .u8 240,.int .u8 240,.int .u8 240,.int .u8 240,.int .u8 240,.int .u8 240,.int .u8 240,.int .u8 240,.int .u8 240,.int .u8 240,.int .u8 240,.int .u8 240,.int .u8 241,.int .u8 241,.int .u8 241,.int .u8 241,.int .u8 241,.int .u8 241,.int .u8 241,.int .u8 241,.int .u8 241,.int .u8 241,.int .u8 241,.int .u8 241,.int .u8 241,.int .u8 241,.int .u8 241,.int .u8 241,.int .u8 241,.int .u8 241,.int .u8 241,.int .u8 241,.int .u8 241,.int .u8 241,.int .u8 241,.int .u8 241,.int .u8 241,.int .u8 241,.int .u8 241,.int .u8 241,.int .u8 241,.int .u8 241,.int .u8 241,.int .u8 241,.int .u8 241,.int .u8 241,.int .u8 241,.int .u8 241,.int .u8 241,.int .u8 241,.int .u8 241,.int .u8 241,.int .u8 241,.int .u8 241,.int .u8 241,.int .u8 241,.int .u8 241,.int .u8 241,.int .u8 241,.int .u8 241,.int .u8 241,.int .u8 241,.int .u8 241,.int .u8 241,.int .u8 241,.int .u8 241,.int .u8 241,.int .u8 241,.int .u8 241,.int .u8 241,.int .u8 241,.int .u8 241,.int .u8 241,.int .u8 241,.int .u8 241,.int .u8 241,.int .u8 241,.int .u8 241,.int .u8 2,.int .u8 2,.int .u8 2,.int .u8 2,.int .u8 2,.int .u8 2,.int .u8 2,.int .u8 2,.int .u8 2,.int .u8 2,.int .u8 2,.int .u8 2,.int .u8 2,.int .u8 2,.int .u8 2,.int .u8 2,.int .u8 2,.int .u8 2,.int .u8 2,.int .u8 2,.int .u8 2,.int .u8 2,.int .u8 2,.int .u8 2,.int .u8 2,.int .u8 2,.int .u8 2,.int .u8 2,.int .u8 2,.int .u8 2,.int .u8 19,.int .u8 3,.int .u8 3,.int .u8 3,.int .u8 3,.int .u8 3,.int .u8 3,.int .u8 3,.int .u8 3,.int .u8 3,.int .u8 3,.int .u8 3,.int .u8 3,.int .u8 35,.int .u8 3,.int .u8 3,.int .u8 52,.int .u8 4,.int .u8 4,.int .u8 4,.int .u8 68,.int .u8 241,.int .u8 241,.int .u8 241,.int .u8 241,.int .u8 241,.int .u8 241,.int .u8 241,.int .u8 241,.int .u8 241,.int .u8 241,.int .u8 241]
def G_1:List V:=[.int .u8 128,.int .u8 191,.int .u8 160,.int .u8 191,.int .u8 128,.int .u8 159,.int .u8 144,.int .u8 191,.int .u8 128,.int .u8 143,.int .u8 0,.int .u8 0,.int .u8 0,.int .u8 0,.int .u8 0,.int .u8 0,.int .u8 0,.int .u8 0,.int .u8 0,.int .u8 0,.int .u8 0,.int .u8 0,.int .u8 0,.int .u8 0,.int .u8 0,.int .u8 0,.int .u8 0,.int .u8 0,.int .u8 0,.int .u8 0,.int .u8 0,.int .u8 0]
def Yr:PC:=
 (.seq
 (.reg (oq 4 (.mv (.k (.bool false)))<|
 .nil) [0,1])
 (.seq
 (.reg (oq 15 (.build zt8 [(0,1,(.k (.int .i64 6)))])<|
 oq 5 (.alloc zt8)<|
 oz (.store 8 (.s 5) (.s 15))<|
 .nil) [0,1,5])
 (.seq
 (.reg (oq 6 (.mv (.k (.sl .full 0 [])))<|
 .nil) [0,1,5,6])
 (.seq
 (.reg (oq 16 (.mv (.s 1))<|
 oq 17 (.call y3 [.s 16,(.k (.int .i64 300))])<|
 oq 7 (.mv (.s 17))<|
 .nil) [0,5,6,7])
 (.seq
 (.reg (oq 8 (.mv (.k (.int .i64 1)))<|
 oq 9 (.mv (.k (.int .i64 (-1))))<|
 .nil) [0,5,6,7,8,9])
 (.seq
 (.seq
 (.reg (oq 10 (.mv (.k (.int .i64 0)))<|
 .nil) [0,5,6,7,8,9,10])
 (.blk 0
 (.loop ⟨[(0,.same),(5,.same),(6,(.own 11)),(7,.same),(8,.v),(9,.v),(10,.v)],[.same]⟩ [(.ext 0,⟨[(5,.same),(6,(.own 11)),(7,.same),(8,.v),(9,.v)],[.same]⟩)]
 (.seq
 (.seq
 (.reg (oq 18 (.mv (.s 10))<|
 oq 19 (.mv (.s 0))<|
 oq 20 (.len (.s 19))<|
 oq 21 (.bin .lss (.s 18) (.s 20))<|
 oq 22 (.mv (.s 21))<|
 .grp 22 true (oq 23 (.mv (.s 10))<|
 oq 24 (.bin .lss (.s 23) (.k (.int .i64 30)))<|
 .nil) 25 (.s 24) (.k (.bool false))<|
 .nil) [0,5,6,7,8,9,10,25])
 (.cond (.s 25)
 .skip
 (.exit 0)))
 (.seq
 (.cut ⟨[(0,.same),(5,.same),(6,(.own 11)),(7,.same),(8,.v),(9,.v),(10,.same)],[.same]⟩ [(.nrm,⟨[(0,.same),(5,.same),(6,(.own 11)),(7,.same),(8,.v),(9,.v),(10,.same)],[.same]⟩)]
 (.blk 1
 (.seq
 (.reg (oq 28 (.mv (.s 0))<|
 oq 29 (.mv (.s 10))<|
 oq 30 (.iad 1 (.s 28) (.s 29))<|
 oq 31 (.load false 1 (.s 30))<|
 oq 32 (.call y3 [.s 31,(.k (.int .i64 30))])<|
 oq 11 (.mv (.s 32))<|
 .nil) [0,5,6,7,8,9,10,11])
 (.seq
 (.reg (oq 33 (.mv (.s 6))<|
 oq 34 (.lit 1 [(.str [])] [(0,1,(.k (.str [45])))])<|
 oq 35 (.mv (.s 11))<|
 oq 36 (.mks [.int .u8 0] 1 (.s 35) (.s 35))<|
 oq 37 (.cbs (.s 36))<|
 oq 38 (.build zt8 [(0,1,(.k (.int .i64 4))),(5,1,(.s 37))])<|
 oq 39 (.build [.int .i64 0,(.sl .full 0 []),(.sl .full 0 []),.int .i64 0,.bool false,.bool false,(.sl .full 0 []),.int .i64 0,(.str []),(.sl .full 0 []),(.sl .full 0 [])] [(0,1,(.k (.int .i64 1))),(1,1,(.s 34)),(3,8,(.s 38))])<|
 oq 40 (.lit 1 [.int .i64 0,(.sl .full 0 []),(.sl .full 0 []),.int .i64 0,.bool false,.bool false,(.sl .full 0 []),.int .i64 0,(.str []),(.sl .full 0 []),(.sl .full 0 [])] [(0,11,(.s 39))])<|
 oq 41 (.app 11 176 (.s 33) (.s 40))<|
 oq 6 (.mv (.s 41))<|
 .nil) [0,5,6,7,8,9,10,11])
 (.seq
 (.reg (oq 42 (.mv (.s 8))<|
 oq 43 (.bin .add (.s 42) (.k (.int .i64 1)))<|
 oq 44 (.mv (.s 11))<|
 oq 45 (.bin .add (.s 43) (.s 44))<|
 oq 8 (.mv (.s 45))<|
 .nil) [0,5,6,7,8,9,10])
 (.seq
 (.reg (oq 46 (.mv (.s 8))<|
 oq 47 (.mv (.s 7))<|
 oq 48 (.bin .gtr (.s 46) (.s 47))<|
 oq 49 (.mv (.s 48))<|
 .grp 49 true (oq 50 (.mv (.s 9))<|
 oq 51 (.bin .lss (.s 50) (.k (.int .i64 0)))<|
 .nil) 52 (.s 51) (.k (.bool false))<|
 .nil) [0,5,6,7,8,9,10,52])
 (.cond (.s 52)
 (.reg (oq 53 (.mv (.s 10))<|
 oq 9 (.mv (.s 53))<|
 .nil) [0,5,6,7,8,9,10])
 .skip)))))))
 (.reg (oq 26 (.mv (.s 10))<|
 oq 27 (.bin .add (.s 26) (.k (.int .i64 1)))<|
 oq 10 (.mv (.s 27))<|
 .nil) [0,5,6,7,8,9,10]))))))
 (.seq
 (.reg (oq 55 (.load true 8 (.s 5))<|
 oq 56 (.mv (.s 6))<|
 oq 57 (.mv (.s 7))<|
 oq 58 (.call xz [.s 55,.s 56,.s 57])<|
 oq 54 (.mv (.s 58))<|
 oq 59 (.ext (.s 54) 0)<|
 oq 60 (.ext (.s 54) 1)<|
 oq 61 (.ext (.s 54) 2)<|
 oq 12 (.alloc zt8)<|
 oz (.store 8 (.s 12) (.s 59))<|
 oq 13 (.mv (.s 60))<|
 oq 14 (.mv (.s 61))<|
 .nil) [6,8,9,12,13,14])
 (.seq
 (.seq
 (.reg (oq 62 (.mv (.s 9))<|
 oq 63 (.bin .geq (.s 62) (.k (.int .i64 0)))<|
 .nil) [6,8,9,12,13,14,63])
 (.cond (.s 63)
 (.seq
 (.reg (oq 64 (.mv (.s 14))<|
 oq 65 (.bin .eql (.s 64) (.k (.int .i64 4)))<|
 oq 66 (.mv (.s 65))<|
 .grp 66 true (oq 67 (.mv (.s 13))<|
 oq 68 (.mv (.s 9))<|
 oq 69 (.bin .eql (.s 67) (.s 68))<|
 .nil) 70 (.s 69) (.k (.bool false))<|
 oq 71 (.mv (.s 70))<|
 .grp 71 true (oq 72 (.load true 8 (.s 12))<|
 oq 73 (.build zt8 [])<|
 oq 74 (.call yB [.s 72,.s 73])<|
 .nil) 75 (.s 74) (.k (.bool false))<|
 oq 76 (.mv (.s 75))<|
 .grp 76 true (oq 77 (.call xK [])<|
 .nil) 78 (.s 77) (.k (.bool false))<|
 oq 4 (.mv (.s 78))<|
 .nil) [4])
 .ret)
 .skip))
 (.seq
 (.reg (oq 79 (.mv (.s 14))<|
 oq 80 (.bin .eql (.s 79) (.k (.int .i64 0)))<|
 oq 81 (.mv (.s 80))<|
 .grp 81 true (oq 82 (.mv (.s 13))<|
 oq 83 (.bin .eql (.s 82) (.k (.int .i64 (-1))))<|
 .nil) 84 (.s 83) (.k (.bool false))<|
 oq 85 (.mv (.s 84))<|
 .grp 85 true (oq 86 (.fad 7 (.s 12))<|
 oq 87 (.load false 1 (.s 86))<|
 oq 88 (.len (.s 87))<|
 oq 89 (.mv (.s 6))<|
 oq 90 (.len (.s 89))<|
 oq 91 (.bin .eql (.s 88) (.s 90))<|
 .nil) 92 (.s 91) (.k (.bool false))<|
 oq 93 (.mv (.s 92))<|
 .grp 93 true (oq 94 (.load true 8 (.s 12))<|
 oq 95 (.call y4 [.s 94])<|
 oq 96 (.mv (.s 8))<|
 oq 97 (.bin .eql (.s 95) (.s 96))<|
 .nil) 98 (.s 97) (.k (.bool false))<|
 oq 99 (.mv (.s 98))<|
 .grp 99 true (oq 100 (.call xK [])<|
 .nil) 101 (.s 100) (.k (.bool false))<|
 oq 4 (.mv (.s 101))<|
 .nil) [4])
 .ret)))))))))
def Z4:PFn:=⟨[.tmp 4],Yr,false⟩
def w9:Fn:=⟨2,[.tmp 4],false,false,zm Yr⟩
def VG:PC:=
 (.seq
 (.reg (oq 4 (.mv (.k (.int .i64 0)))<|
 .nil) [0,1])
 (.seq
 (.reg (oq 6 (.mv (.s 0))<|
 oq 7 (.mv (.s 1))<|
 oq 8 (.bin .rem (.s 6) (.s 7))<|
 oq 5 (.mv (.s 8))<|
 .nil) [1,5])
 (.seq
 (.seq
 (.reg (oq 9 (.mv (.s 5))<|
 oq 10 (.bin .lss (.s 9) (.k (.int .i64 0)))<|
 .nil) [1,5,10])
 (.cond (.s 10)
 (.reg (oq 11 (.mv (.s 5))<|
 oq 12 (.mv (.s 1))<|
 oq 13 (.bin .add (.s 11) (.s 12))<|
 oq 5 (.mv (.s 13))<|
 .nil) [5])
 .skip))
 (.seq
 (.reg (oq 14 (.mv (.s 5))<|
 oq 4 (.mv (.s 14))<|
 .nil) [4])
 .ret))))
def V6:PFn:=⟨[.tmp 4],VG,false⟩
def j5:Fn:=⟨2,[.tmp 4],false,false,zm VG⟩
def zeH:PC:=
 (.seq
 (.blk 1000000
 (.seq
 (.seq
 (.reg (.box 8 2 (.s 0)<|
 .box 11 3 (.s 1)<|
 oq 4 (.alloc zt8)<|
 oq 5 (.alloc [.bool false])<|
 .nil) [2,3,4,5])
 (.seq
 (.reg (.nil) [2,3,4,5])
 (.seq
 (.seq
 (.reg (oq 7 (.load true 8 (.s 2))<|
 oq 8 (.load true 11 (.s 3))<|
 oq 1000000 (.call q6 [.s 7,.s 8])<|
 oq 1000001 (.ext (.s 1000000) 0)<|
 .nil) [1000000,1000001,4,9,5,4,5,4,5])
 (.cond (.s 1000001)
 (.reg (oq 9 (.ext (.s 1000000) 1)<|
 oz (.store 8 (.s 4) (.s 9))<|
 oz (.store 1 (.s 5) (.k (.bool true)))<|
 .nil) [4,5])
 (.seq
 (.reg (oq 1000000 (.ext (.s 1000000) 1)<|
 .nil) [1000000,4,5])
 (.exit 1000000))))
 (.seq
 (.reg (oq 1000000 (.mv (.k .nili))<|
 .nil) [1000000,4,5])
 (.exit 1000000)))))
 (.seq
 (.reg (oq 1000000 (.mv (.k .nili))<|
 .nil) [1000000,4,5])
 (.exit 1000000))))
 (.reg (oz (.call vu [.s 4,.s 5,.s 1000000])<|
 .nil) [4,5]))
def zeg:PFn:=⟨[.cell 4 true 8,.cell 5 false 1],zeH,false⟩
def zlS:C:=
 (.seq
 (.reg [⟨some 2,.box (.s 0),none⟩,⟨some 3,.box (.s 1),none⟩,⟨some 4,.alloc zt8,none⟩,⟨some 5,.alloc [.bool false],none⟩] [2,3,4,5])
 (.seq
 (.reg [] [2,3,4,5])
 (.seq
 (.reg [⟨some 7,.load true 8 (.s 2),none⟩,⟨some 8,.load true 11 (.s 3),none⟩,⟨some 9,.call XB [.s 7,.s 8],none⟩,⟨none,.store 8 (.s 4) (.s 9),none⟩,⟨none,.store 1 (.s 5) (.k (.bool true)),none⟩] [4,5])
 .ret)))
def Kk:Fn:=⟨2,[.cell 4 true 8,.cell 5 false 1],false,false,zlS⟩
def zla:Fn:=⟨2,[.cell 4 true 8,.cell 5 false 1],false,false,zm zeH⟩
def VR:PC:=
 (.seq
 (.reg (oq 0 (.mv (.k (.bool false)))<|
 .nil) [])
 (.seq
 (.reg (oq 5 (.lit 1 [(.str [])] [(0,1,(.k (.str [97])))])<|
 oq 6 (.build zt8 [(0,1,(.k (.int .i64 1)))])<|
 oq 7 (.lit 1 zt8 [(0,8,(.s 6))])<|
 oq 8 (.build zt8 [(0,1,(.k (.int .i64 6))),(7,1,(.s 7))])<|
 oq 9 (.lit 1 zt8 [(0,8,(.s 8))])<|
 oq 10 (.build zt8 [(0,1,(.k (.int .i64 7))),(6,1,(.s 5)),(7,1,(.s 9))])<|
 oq 1 (.alloc zt8)<|
 oz (.store 8 (.s 1) (.s 10))<|
 .nil) [1])
 (.seq
 (.reg (oq 12 (.load true 8 (.s 1))<|
 oq 13 (.lit 2 [(.str [])] [(0,1,(.k (.str [97]))),(1,1,(.k (.str [45])))])<|
 oq 14 (.build zt8 [(0,1,(.k (.int .i64 2)))])<|
 oq 15 (.build [.int .i64 0,(.sl .full 0 []),(.sl .full 0 []),.int .i64 0,.bool false,.bool false,(.sl .full 0 []),.int .i64 0,(.str []),(.sl .full 0 []),(.sl .full 0 [])] [(0,1,(.k (.int .i64 1))),(1,1,(.s 13)),(3,8,(.s 14))])<|
 oq 16 (.lit 1 [.int .i64 0,(.sl .full 0 []),(.sl .full 0 []),.int .i64 0,.bool false,.bool false,(.sl .full 0 []),.int .i64 0,(.str []),(.sl .full 0 []),(.sl .full 0 [])] [(0,11,(.s 15))])<|
 oq 17 (.call xz [.s 12,.s 16,(.k (.int .i64 100))])<|
 oq 11 (.mv (.s 17))<|
 oq 18 (.ext (.s 11) 0)<|
 oq 19 (.ext (.s 11) 1)<|
 oq 20 (.ext (.s 11) 2)<|
 oq 2 (.alloc zt8)<|
 oz (.store 8 (.s 2) (.s 18))<|
 oq 3 (.mv (.s 19))<|
 oq 4 (.mv (.s 20))<|
 .nil) [2,3,4])
 (.seq
 (.reg (oq 21 (.mv (.s 4))<|
 oq 22 (.bin .eql (.s 21) (.k (.int .i64 0)))<|
 oq 23 (.mv (.s 22))<|
 .grp 23 true (oq 24 (.mv (.s 3))<|
 oq 25 (.bin .eql (.s 24) (.k (.int .i64 (-1))))<|
 .nil) 26 (.s 25) (.k (.bool false))<|
 oq 27 (.mv (.s 26))<|
 .grp 27 true (oq 28 (.fad 7 (.s 2))<|
 oq 29 (.load false 1 (.s 28))<|
 oq 30 (.len (.s 29))<|
 oq 31 (.bin .eql (.s 30) (.k (.int .i64 1)))<|
 .nil) 32 (.s 31) (.k (.bool false))<|
 oq 33 (.mv (.s 32))<|
 .grp 33 true (oq 34 (.fad 7 (.s 2))<|
 oq 35 (.load false 1 (.s 34))<|
 oq 36 (.iad 8 (.s 35) (.k (.int .i64 0)))<|
 oq 37 (.fad 7 (.s 36))<|
 oq 38 (.load false 1 (.s 37))<|
 oq 39 (.len (.s 38))<|
 oq 40 (.bin .eql (.s 39) (.k (.int .i64 2)))<|
 .nil) 41 (.s 40) (.k (.bool false))<|
 oq 42 (.mv (.s 41))<|
 .grp 42 true (oq 43 (.fad 7 (.s 2))<|
 oq 44 (.load false 1 (.s 43))<|
 oq 45 (.iad 8 (.s 44) (.k (.int .i64 0)))<|
 oq 46 (.fad 7 (.s 45))<|
 oq 47 (.load false 1 (.s 46))<|
 oq 48 (.iad 8 (.s 47) (.k (.int .i64 1)))<|
 oq 49 (.fad 0 (.s 48))<|
 oq 50 (.load false 1 (.s 49))<|
 oq 51 (.bin .eql (.s 50) (.k (.int .i64 2)))<|
 .nil) 52 (.s 51) (.k (.bool false))<|
 oq 0 (.mv (.s 52))<|
 .nil) [0])
 .ret))))
def VP:PFn:=⟨[.tmp 0],VR,false⟩
def ke:Fn:=⟨0,[.tmp 0],false,false,zm VR⟩
def zam:PC:=
 (.seq
 (.reg (.box 8 3 (.s 0)<|
 oq 6 (.alloc zt8)<|
 oq 7 (.mv (.k (.int .i64 0)))<|
 oq 8 (.mv (.k (.int .i64 0)))<|
 .nil) [1,2,3,6])
 (.seq
 (.seq
 (.reg (oq 13 (.load true 8 (.s 3))<|
 oq 14 (.call y5 [.s 13])<|
 oq 15 (.un .not (.s 14))<|
 oq 16 (.mv (.s 15))<|
 .grp 16 false (oq 17 (.mv (.s 1))<|
 oq 18 (.call ql [.s 17])<|
 oq 19 (.un .not (.s 18))<|
 .nil) 20 (.s 19) (.k (.bool true))<|
 .nil) [1,2,3,6,20])
 (.cond (.s 20)
 (.seq
 (.reg (oq 21 (.build zt8 [])<|
 oz (.store 8 (.s 6) (.s 21))<|
 oq 7 (.mv (.k (.int .i64 (-1))))<|
 oq 8 (.mv (.k (.int .i64 1)))<|
 .nil) [6,7,8])
 .ret)
 .skip))
 (.seq
 (.seq
 (.reg (oq 22 (.mv (.s 1))<|
 oq 23 (.len (.s 22))<|
 oq 24 (.mv (.k (.int .i64 0)))<|
 .nil) [2,3,6,22,23,24])
 (.blk 0
 (.loop ⟨[(2,.same),(3,.same),(6,.same),(22,.same),(23,.same),(24,.v)],[(.box 8),(.cells [.v,.v,.v,.v,.v,.v,.v,.v])]⟩ [(.ext 0,⟨[(3,.same),(6,.same)],[(.box 8),(.box 8)]⟩),(.ret,⟨[(6,.same),(7,.v),(8,.v)],[(.box 8),(.cells [.v,.v,.v,.v,.v,.v,.v,.v])]⟩)]
 (.seq
 (.reg (oq 25 (.bin .lss (.s 24) (.s 23))<|
 .nil) [2,3,6,22,23,24,25])
 (.seq
 (.cond (.s 25)
 .skip
 (.exit 0))
 (.seq
 (.blk 1
 (.seq
 (.reg (oq 26 (.mv (.s 24))<|
 oq 27 (.iad 11 (.s 22) (.s 24))<|
 oq 28 (.load true 11 (.s 27))<|
 oq 10 (.alloc [.int .i64 0,(.sl .full 0 []),(.sl .full 0 []),.int .i64 0,.bool false,.bool false,(.sl .full 0 []),.int .i64 0,(.str []),(.sl .full 0 []),(.sl .full 0 [])])<|
 oq 9 (.mv (.s 26))<|
 oz (.store 11 (.s 10) (.s 28))<|
 .nil) [2,3,6,9,10,22,23,24])
 (.seq
 (.reg (oq 30 (.load true 8 (.s 3))<|
 oq 31 (.load true 11 (.s 10))<|
 oq 32 (.call q9 [.s 30,.s 31])<|
 oq 29 (.mv (.s 32))<|
 oq 33 (.ext (.s 29) 0)<|
 oq 34 (.ext (.s 29) 1)<|
 oq 11 (.alloc zt8)<|
 oz (.store 8 (.s 11) (.s 33))<|
 oq 12 (.mv (.s 34))<|
 .nil) [2,3,6,9,11,12,22,23,24])
 (.seq
 (.blk 2
 (.seq
 (.reg (oq 36 (.mv (.s 12))<|
 oq 37 (.un .not (.s 36))<|
 oq 35 (.mv (.s 37))<|
 .nil) [2,3,6,9,11,22,23,24,35])
 (.cond (.s 35)
 (.seq
 (.reg (oq 38 (.build zt8 [])<|
 oq 39 (.mv (.s 9))<|
 oz (.store 8 (.s 6) (.s 38))<|
 oq 7 (.mv (.s 39))<|
 oq 8 (.mv (.k (.int .i64 5)))<|
 .nil) [6,7,8])
 .ret)
 (.seq
 (.reg (oq 41 (.load true 8 (.s 11))<|
 oq 42 (.mv (.s 2))<|
 oq 43 (.call qV [.s 41,.s 42])<|
 oq 44 (.un .not (.s 43))<|
 oq 40 (.mv (.s 44))<|
 .nil) [2,3,6,9,11,22,23,24,40])
 (.cond (.s 40)
 (.seq
 (.reg (oq 45 (.build zt8 [])<|
 oq 46 (.mv (.s 9))<|
 oz (.store 8 (.s 6) (.s 45))<|
 oq 7 (.mv (.s 46))<|
 oq 8 (.mv (.k (.int .i64 4)))<|
 .nil) [6,7,8])
 .ret)
 .skip)))))
 (.reg (oq 47 (.load true 8 (.s 11))<|
 oz (.store 8 (.s 3) (.s 47))<|
 .nil) [2,3,6,22,23,24])))))
 (.reg (oq 48 (.bin .add (.s 24) (.k (.int .i64 1)))<|
 oq 24 (.mv (.s 48))<|
 .nil) [2,3,6,22,23,24])))))))
 (.seq
 (.reg (oq 49 (.load true 8 (.s 3))<|
 oz (.store 8 (.s 6) (.s 49))<|
 oq 7 (.mv (.k (.int .i64 (-1))))<|
 oq 8 (.mv (.k (.int .i64 0)))<|
 .nil) [6,7,8])
 .ret))))
def KN:PFn:=⟨[.cell 6 true 8,.tmp 7,.tmp 8],zam,false⟩
def Z5:Fn:=⟨3,[.cell 6 true 8,.tmp 7,.tmp 8],false,false,zm zam⟩
def Y4:PC:=
 (.seq
 (.reg (.box 8 2 (.s 0)<|
 .box 8 3 (.s 1)<|
 oq 4 (.mv (.k (.bool false)))<|
 .nil) [2,3])
 (.seq
 (.seq
 (.reg (oq 6 (.fad 0 (.s 2))<|
 oq 7 (.load false 1 (.s 6))<|
 oq 8 (.fad 0 (.s 3))<|
 oq 9 (.load false 1 (.s 8))<|
 oq 10 (.bin .neq (.s 7) (.s 9))<|
 oq 11 (.mv (.s 10))<|
 .grp 11 false (oq 12 (.fad 1 (.s 2))<|
 oq 13 (.load false 1 (.s 12))<|
 oq 14 (.fad 1 (.s 3))<|
 oq 15 (.load false 1 (.s 14))<|
 oq 16 (.beq true (.s 13) (.s 15))<|
 .nil) 17 (.s 16) (.k (.bool true))<|
 oq 18 (.mv (.s 17))<|
 .grp 18 false (oq 19 (.fad 2 (.s 2))<|
 oq 20 (.load true 3 (.s 19))<|
 oq 21 (.fad 2 (.s 3))<|
 oq 22 (.load true 3 (.s 21))<|
 oq 23 (.call xU [.s 20,.s 22])<|
 oq 24 (.un .not (.s 23))<|
 .nil) 25 (.s 24) (.k (.bool true))<|
 oq 26 (.mv (.s 25))<|
 .grp 26 false (oq 27 (.fad 5 (.s 2))<|
 oq 28 (.load false 1 (.s 27))<|
 oq 29 (.fad 5 (.s 3))<|
 oq 30 (.load false 1 (.s 29))<|
 oq 31 (.bin .neq (.s 28) (.s 30))<|
 .nil) 32 (.s 31) (.k (.bool true))<|
 oq 33 (.mv (.s 32))<|
 .grp 33 false (oq 34 (.fad 6 (.s 2))<|
 oq 35 (.load false 1 (.s 34))<|
 oq 36 (.fad 6 (.s 3))<|
 oq 37 (.load false 1 (.s 36))<|
 oq 38 (.call yU [.s 35,.s 37])<|
 oq 39 (.un .not (.s 38))<|
 .nil) 40 (.s 39) (.k (.bool true))<|
 oq 41 (.mv (.s 40))<|
 .grp 41 false (oq 42 (.fad 7 (.s 2))<|
 oq 43 (.load false 1 (.s 42))<|
 oq 44 (.len (.s 43))<|
 oq 45 (.fad 7 (.s 3))<|
 oq 46 (.load false 1 (.s 45))<|
 oq 47 (.len (.s 46))<|
 oq 48 (.bin .neq (.s 44) (.s 47))<|
 .nil) 49 (.s 48) (.k (.bool true))<|
 .nil) [2,3,49])
 (.cond (.s 49)
 (.seq
 (.reg (oq 4 (.mv (.k (.bool false)))<|
 .nil) [4])
 .ret)
 .skip))
 (.seq
 (.seq
 (.reg (oq 5 (.mv (.k (.int .i64 0)))<|
 .nil) [2,3,5])
 (.blk 0
 (.loop ⟨[(2,.same),(3,.same),(5,.v)],[.same,.same]⟩ [(.ext 0,⟨[],[.same,.same]⟩),(.ret,⟨[(4,.v)],[.same,.same]⟩)]
 (.seq
 (.seq
 (.reg (oq 50 (.mv (.s 5))<|
 oq 51 (.fad 7 (.s 2))<|
 oq 52 (.load false 1 (.s 51))<|
 oq 53 (.len (.s 52))<|
 oq 54 (.bin .lss (.s 50) (.s 53))<|
 .nil) [2,3,5,54])
 (.cond (.s 54)
 .skip
 (.exit 0)))
 (.seq
 (.blk 1
 (.seq
 (.drw (.nil)
 (oq 57 (.fad 7 (.s 2))<|
 oq 58 (.load false 1 (.s 57))<|
 oq 59 (.mv (.s 5))<|
 oq 60 (.iad 8 (.s 58) (.s 59))<|
 oq 61 (.load true 8 (.s 60))<|
 oq 62 (.fad 7 (.s 3))<|
 oq 63 (.load false 1 (.s 62))<|
 oq 64 (.mv (.s 5))<|
 oq 65 (.iad 8 (.s 63) (.s 64))<|
 oq 66 (.load true 8 (.s 65))<|
 .nil)
 (oq 67 (.call yB [.s 61,.s 66])<|
 oq 68 (.un .not (.s 67))<|
 .nil) [2,3,5,68])
 (.cond (.s 68)
 (.seq
 (.reg (oq 4 (.mv (.k (.bool false)))<|
 .nil) [4])
 .ret)
 .skip)))
 (.reg (oq 55 (.mv (.s 5))<|
 oq 56 (.bin .add (.s 55) (.k (.int .i64 1)))<|
 oq 5 (.mv (.s 56))<|
 .nil) [2,3,5]))))))
 (.seq
 (.reg (oq 4 (.mv (.k (.bool true)))<|
 .nil) [4])
 .ret))))
def Y6:PFn:=⟨[.tmp 4],Y4,false⟩
def qz:Fn:=⟨2,[.tmp 4],false,false,zm Y4⟩
def Wt:PC:=
 (.seq
 (.reg (.box 8 1 (.s 0)<|
 oq 2 (.mv (.k (.int .i64 0)))<|
 .nil) [1])
 (.seq
 (.reg (oq 3 (.mv (.k (.int .i64 1)))<|
 .nil) [1,3])
 (.seq
 (.cut ⟨[(1,.same),(3,.v)],[.same]⟩ [(.nrm,⟨[(1,.same),(3,.v)],[.same]⟩)]
 (.seq
 (.reg (oq 5 (.fad 0 (.s 1))<|
 oq 6 (.load false 1 (.s 5))<|
 .nil) [1,3,6])
 (.blk 0
 (.seq
 (.reg (oq 8 (.bin .eql (.s 6) (.k (.int .i64 3)))<|
 oq 7 (.mv (.s 8))<|
 .nil) [1,3,6,7])
 (.cond (.s 7)
 (.reg (oq 9 (.mv (.s 3))<|
 oq 10 (.fad 2 (.s 1))<|
 oq 11 (.fad 1 (.s 10))<|
 oq 12 (.load false 1 (.s 11))<|
 oq 13 (.len (.s 12))<|
 oq 14 (.bin .add (.s 9) (.s 13))<|
 oq 3 (.mv (.s 14))<|
 .nil) [1,3])
 (.seq
 (.cut ⟨[(1,.same),(3,.same),(6,.same)],[.same]⟩ [(.nrm,⟨[(1,.same),(3,.same),(15,.v)],[.same]⟩)]
 (.seq
 (.reg (oq 16 (.bin .eql (.s 6) (.k (.int .i64 4)))<|
 oq 15 (.mv (.s 16))<|
 .nil) [1,3,6,15])
 (.cond (.s 15)
 .skip
 (.reg (oq 17 (.bin .eql (.s 6) (.k (.int .i64 5)))<|
 oq 15 (.mv (.s 17))<|
 .nil) [1,3,15]))))
 (.cond (.s 15)
 (.reg (oq 18 (.mv (.s 3))<|
 oq 19 (.fad 5 (.s 1))<|
 oq 20 (.load false 1 (.s 19))<|
 oq 21 (.lns (.s 20))<|
 oq 22 (.bin .add (.s 18) (.s 21))<|
 oq 3 (.mv (.s 22))<|
 .nil) [1,3])
 .skip)))))))
 (.seq
 (.seq
 (.reg (oq 4 (.mv (.k (.int .i64 0)))<|
 .nil) [1,3,4])
 (.blk 1
 (.loop ⟨[(1,.same),(3,.v),(4,.v)],[.same]⟩ [(.ext 1,⟨[(3,.v)],[.same]⟩)]
 (.seq
 (.seq
 (.reg (oq 23 (.mv (.s 4))<|
 oq 24 (.fad 7 (.s 1))<|
 oq 25 (.load false 1 (.s 24))<|
 oq 26 (.len (.s 25))<|
 oq 27 (.bin .lss (.s 23) (.s 26))<|
 .nil) [1,3,4,27])
 (.cond (.s 27)
 .skip
 (.exit 1)))
 (.seq
 (.blk 2
 (.reg (oq 30 (.mv (.s 3))<|
 oq 31 (.fad 7 (.s 1))<|
 oq 32 (.load false 1 (.s 31))<|
 oq 33 (.mv (.s 4))<|
 oq 34 (.iad 8 (.s 32) (.s 33))<|
 oq 35 (.load true 8 (.s 34))<|
 oq 36 (.call y4 [.s 35])<|
 oq 37 (.bin .add (.s 30) (.s 36))<|
 oq 3 (.mv (.s 37))<|
 .nil) [1,3,4]))
 (.reg (oq 28 (.mv (.s 4))<|
 oq 29 (.bin .add (.s 28) (.k (.int .i64 1)))<|
 oq 4 (.mv (.s 29))<|
 .nil) [1,3,4]))))))
 (.seq
 (.reg (oq 38 (.mv (.s 3))<|
 oq 2 (.mv (.s 38))<|
 .nil) [2])
 .ret)))))
def W0:PFn:=⟨[.tmp 2],Wt,false⟩
def jx:Fn:=⟨1,[.tmp 2],false,false,zm Wt⟩
def zaw:PC:=
 (.seq
 (.reg (oq 6 (.mv (.s 2))<|
 oq 7 (.inil true (.s 6))<|
 .nil) [0,1,2,7])
 (.cond (.s 7)
 (.seq
 (.seq
 (.reg (oq 9 (.mv (.s 2))<|
 oq 10 (.tas 52 true (.s 9))<|
 oq 8 (.mv (.s 10))<|
 oq 11 (.ext (.s 8) 0)<|
 oq 12 (.ext (.s 8) 1)<|
 oq 3 (.alloc [])<|
 oz (.store 0 (.s 3) (.s 11))<|
 oq 4 (.mv (.s 12))<|
 .nil) [0,1,2,4])
 (.seq
 (.reg (oq 13 (.mv (.s 4))<|
 oq 14 (.un .not (.s 13))<|
 .nil) [0,1,2,14])
 (.cond (.s 14)
 (.seq
 (.reg (oq 15 (.mv (.s 2))<|
 oq 1000000 (.mv (.s 15))<|
 oq 1000001 (.inil true (.s 1000000))<|
 .nil) [1000000,1000001])
 (.cond (.s 1000001)
 (.exit 1000000)
 (.exit 1000002)))
 .skip)))
 (.reg (oq 16 (.build zt8 [])<|
 oz (.store 8 (.s 0) (.s 16))<|
 oz (.store 1 (.s 1) (.k (.bool false)))<|
 .nil) []))
 .skip))
def zav:PFn:=⟨[],zaw,false⟩
def zg6:C:=
 (.seq
 (.reg [⟨some 6,.mv (.s 2),none⟩,⟨some 7,.inil true (.s 6),none⟩] [0,1,2,7])
 (.cond (.s 7)
 (.seq
 (.seq
 (.reg [⟨some 9,.mv (.s 2),none⟩,⟨some 10,.tas 52 true (.s 9),none⟩,⟨some 8,.mv (.s 10),none⟩,⟨some 11,.ext (.s 8) 0,none⟩,⟨some 12,.ext (.s 8) 1,none⟩,⟨some 3,.alloc [],none⟩,⟨none,.store 0 (.s 3) (.s 11),none⟩,⟨some 4,.mv (.s 12),none⟩] [0,1,2,4])
 (.seq
 (.reg [⟨some 13,.mv (.s 4),none⟩,⟨some 14,.un .not (.s 13),none⟩] [0,1,2,14])
 (.cond (.s 14)
 (.reg [⟨some 15,.mv (.s 2),none⟩,⟨none,.pan (.s 15),none⟩] [0,1])
 .skip)))
 (.reg [⟨some 16,.build zt8 [],none⟩,⟨none,.store 8 (.s 0) (.s 16),none⟩,⟨none,.store 1 (.s 1) (.k (.bool false)),none⟩] []))
 .skip))
def Yc:Fn:=⟨3,[],false,false,zg6⟩
def zat:Fn:=⟨3,[],false,false,zm zaw⟩
def zb8:PC:=
 (.seq
 (.reg (.box 8 2 (.s 0)<|
 .box 11 3 (.s 1)<|
 oq 4 (.alloc zt8)<|
 .nil) [2,3,4])
 (.seq
 (.seq
 (.reg (oq 5 (.fad 0 (.s 3))<|
 oq 6 (.load false 1 (.s 5))<|
 .nil) [2,3,4,6])
 (.blk 0
 (.seq
 (.reg (oq 8 (.bin .eql (.s 6) (.k (.int .i64 1)))<|
 oq 7 (.mv (.s 8))<|
 .nil) [2,3,4,6,7])
 (.cond (.s 7)
 (.seq
 (.seq
 (.reg (oq 9 (.load true 8 (.s 2))<|
 oq 10 (.fad 1 (.s 3))<|
 oq 11 (.load false 1 (.s 10))<|
 oq 12 (.fad 3 (.s 3))<|
 oq 13 (.load true 8 (.s 12))<|
 oq 1000000 (.call je [.s 9,.s 11,.s 13])<|
 oq 1000001 (.ext (.s 1000000) 0)<|
 .nil) [1000000,1000001,4,14,4])
 (.cond (.s 1000001)
 (.reg (oq 14 (.ext (.s 1000000) 1)<|
 oz (.store 8 (.s 4) (.s 14))<|
 .nil) [4])
 (.seq
 (.reg (oq 1000000 (.ext (.s 1000000) 1)<|
 .nil) [1000000])
 (.exit 1000000))))
 .ret)
 (.seq
 (.reg (oq 16 (.bin .eql (.s 6) (.k (.int .i64 2)))<|
 oq 15 (.mv (.s 16))<|
 .nil) [2,3,4,6,15])
 (.cond (.s 15)
 (.seq
 (.seq
 (.reg (oq 17 (.load true 8 (.s 2))<|
 oq 18 (.fad 1 (.s 3))<|
 oq 19 (.load false 1 (.s 18))<|
 oq 1000000 (.call kZ [.s 17,.s 19])<|
 oq 1000001 (.ext (.s 1000000) 0)<|
 .nil) [1000000,1000001,4,20,4])
 (.cond (.s 1000001)
 (.reg (oq 20 (.ext (.s 1000000) 1)<|
 oz (.store 8 (.s 4) (.s 20))<|
 .nil) [4])
 (.seq
 (.reg (oq 1000000 (.ext (.s 1000000) 1)<|
 .nil) [1000000])
 (.exit 1000000))))
 .ret)
 (.seq
 (.reg (oq 22 (.bin .eql (.s 6) (.k (.int .i64 3)))<|
 oq 21 (.mv (.s 22))<|
 .nil) [2,3,4,6,21])
 (.cond (.s 21)
 (.seq
 (.seq
 (.reg (oq 23 (.load true 8 (.s 2))<|
 oq 24 (.fad 1 (.s 3))<|
 oq 25 (.load false 1 (.s 24))<|
 oq 26 (.fad 3 (.s 3))<|
 oq 27 (.load true 8 (.s 26))<|
 oq 1000000 (.call vr [.s 23,.s 25,.s 27])<|
 oq 1000001 (.ext (.s 1000000) 0)<|
 .nil) [1000000,1000001,4,28,4])
 (.cond (.s 1000001)
 (.reg (oq 28 (.ext (.s 1000000) 1)<|
 oz (.store 8 (.s 4) (.s 28))<|
 .nil) [4])
 (.seq
 (.reg (oq 1000000 (.ext (.s 1000000) 1)<|
 .nil) [1000000])
 (.exit 1000000))))
 .ret)
 (.seq
 (.reg (oq 30 (.bin .eql (.s 6) (.k (.int .i64 4)))<|
 oq 29 (.mv (.s 30))<|
 .nil) [2,3,4,6,29])
 (.cond (.s 29)
 (.seq
 (.seq
 (.reg (oq 31 (.load true 8 (.s 2))<|
 oq 32 (.fad 2 (.s 3))<|
 oq 33 (.load false 1 (.s 32))<|
 oq 34 (.fad 1 (.s 3))<|
 oq 35 (.load false 1 (.s 34))<|
 oq 1000000 (.call QF [.s 31,.s 33,.s 35])<|
 oq 1000001 (.ext (.s 1000000) 0)<|
 .nil) [1000000,1000001,4,36,4])
 (.cond (.s 1000001)
 (.reg (oq 36 (.ext (.s 1000000) 1)<|
 oz (.store 8 (.s 4) (.s 36))<|
 .nil) [4])
 (.seq
 (.reg (oq 1000000 (.ext (.s 1000000) 1)<|
 .nil) [1000000])
 (.exit 1000000))))
 .ret)
 (.seq
 (.reg (oq 38 (.bin .eql (.s 6) (.k (.int .i64 5)))<|
 oq 37 (.mv (.s 38))<|
 .nil) [2,3,4,37])
 (.cond (.s 37)
 (.seq
 (.seq
 (.drw (.nil)
 (oq 39 (.load true 8 (.s 2))<|
 oq 40 (.fad 1 (.s 3))<|
 oq 41 (.load false 1 (.s 40))<|
 oq 42 (.load true 8 (.s 2))<|
 oq 43 (.fad 2 (.s 3))<|
 oq 44 (.load false 1 (.s 43))<|
 oq 1000000 (.call xP [.s 42,.s 44])<|
 .nil)
 (oq 1000001 (.ext (.s 1000000) 0)<|
 .nil) [1000000,1000001,39,41,45,4,46,4])
 (.cond (.s 1000001)
 (.seq
 (.reg (oq 45 (.ext (.s 1000000) 1)<|
 oq 1000000 (.call je [.s 39,.s 41,.s 45])<|
 oq 1000001 (.ext (.s 1000000) 0)<|
 .nil) [1000000,1000001,4,46,4])
 (.cond (.s 1000001)
 (.reg (oq 46 (.ext (.s 1000000) 1)<|
 oz (.store 8 (.s 4) (.s 46))<|
 .nil) [4])
 (.seq
 (.reg (oq 1000000 (.ext (.s 1000000) 1)<|
 .nil) [1000000])
 (.exit 1000000))))
 (.seq
 (.reg (oq 1000000 (.ext (.s 1000000) 1)<|
 .nil) [1000000])
 (.exit 1000000))))
 .ret)
 .skip))))))))))))
 (.seq
 (.seq
 (.drw (.nil)
 (oq 47 (.fad 0 (.s 3))<|
 oq 48 (.load false 1 (.s 47))<|
 oq 49 (.bin .eql (.s 48) (.k (.int .i64 6)))<|
 oq 50 (.mv (.s 49))<|
 .one ⟨some 51,.load true 8 (.s 2),some (50,true)⟩<|
 .one ⟨some 52,.fad 1 (.s 3),some (50,true)⟩<|
 .one ⟨some 53,.load false 1 (.s 52),some (50,true)⟩<|
 .one ⟨some 55,.fad 3 (.s 3),some (50,true)⟩<|
 .one ⟨some 56,.load true 8 (.s 55),some (50,true)⟩<|
 .nil)
 (.nil) [50,51,53,54,56,50,50,57,58,2,4])
 (.cond (.s 50)
 (.seq
 (.drw (.nil)
 (oq 1000000 (.call xP [.s 51,.s 53])<|
 .nil)
 (oq 1000001 (.ext (.s 1000000) 0)<|
 .nil) [1000000,1000001,54,56,50,50,57,58,2,4])
 (.cond (.s 1000001)
 (.seq
 (.reg (oq 54 (.ext (.s 1000000) 1)<|
 .grp 50 true (oq 57 (.call wk [.s 54,.s 56])<|
 .nil) 58 (.s 57) (.k (.bool false))<|
 oq 1000000 (.call zt [.s 58])<|
 oq 1000001 (.ext (.s 1000000) 0)<|
 .nil) [1000000,1000001,2,4])
 (.cond (.s 1000001)
 (.reg (oq 59 (.ext (.s 1000000) 1)<|
 .nil) [2,4])
 (.seq
 (.reg (oq 1000000 (.ext (.s 1000000) 1)<|
 .nil) [1000000])
 (.exit 1000000))))
 (.seq
 (.reg (oq 1000000 (.ext (.s 1000000) 1)<|
 .nil) [1000000])
 (.exit 1000000))))
 (.seq
 (.reg (.grp 50 true (oq 54 (.call wo [.s 51,.s 53])<|
 oq 57 (.call wk [.s 54,.s 56])<|
 .nil) 58 (.s 57) (.k (.bool false))<|
 oq 1000000 (.call zt [.s 58])<|
 oq 1000001 (.ext (.s 1000000) 0)<|
 .nil) [1000000,1000001,2,4])
 (.cond (.s 1000001)
 (.reg (oq 59 (.ext (.s 1000000) 1)<|
 .nil) [2,4])
 (.seq
 (.reg (oq 1000000 (.ext (.s 1000000) 1)<|
 .nil) [1000000])
 (.exit 1000000))))))
 (.seq
 (.reg (oq 60 (.load true 8 (.s 2))<|
 oz (.store 8 (.s 4) (.s 60))<|
 .nil) [4])
 .ret))))
def za7:PFn:=⟨[.cell 4 true 8],zb8,true⟩
def ziO:C:=
 (.seq
 (.reg [⟨some 2,.box (.s 0),none⟩,⟨some 3,.box (.s 1),none⟩,⟨some 4,.alloc zt8,none⟩] [2,3,4])
 (.seq
 (.seq
 (.reg [⟨some 5,.fad 0 (.s 3),none⟩,⟨some 6,.load false 1 (.s 5),none⟩] [2,3,4,6])
 (.blk 0
 (.seq
 (.reg [⟨some 8,.bin .eql (.s 6) (.k (.int .i64 1)),none⟩,⟨some 7,.mv (.s 8),none⟩] [2,3,4,6,7])
 (.cond (.s 7)
 (.seq
 (.reg [⟨some 9,.load true 8 (.s 2),none⟩,⟨some 10,.fad 1 (.s 3),none⟩,⟨some 11,.load false 1 (.s 10),none⟩,⟨some 12,.fad 3 (.s 3),none⟩,⟨some 13,.load true 8 (.s 12),none⟩,⟨some 14,.call Zg [.s 9,.s 11,.s 13],none⟩,⟨none,.store 8 (.s 4) (.s 14),none⟩] [4])
 .ret)
 (.seq
 (.reg [⟨some 16,.bin .eql (.s 6) (.k (.int .i64 2)),none⟩,⟨some 15,.mv (.s 16),none⟩] [2,3,4,6,15])
 (.cond (.s 15)
 (.seq
 (.reg [⟨some 17,.load true 8 (.s 2),none⟩,⟨some 18,.fad 1 (.s 3),none⟩,⟨some 19,.load false 1 (.s 18),none⟩,⟨some 20,.call jv [.s 17,.s 19],none⟩,⟨none,.store 8 (.s 4) (.s 20),none⟩] [4])
 .ret)
 (.seq
 (.reg [⟨some 22,.bin .eql (.s 6) (.k (.int .i64 3)),none⟩,⟨some 21,.mv (.s 22),none⟩] [2,3,4,6,21])
 (.cond (.s 21)
 (.seq
 (.reg [⟨some 23,.load true 8 (.s 2),none⟩,⟨some 24,.fad 1 (.s 3),none⟩,⟨some 25,.load false 1 (.s 24),none⟩,⟨some 26,.fad 3 (.s 3),none⟩,⟨some 27,.load true 8 (.s 26),none⟩,⟨some 28,.call ji [.s 23,.s 25,.s 27],none⟩,⟨none,.store 8 (.s 4) (.s 28),none⟩] [4])
 .ret)
 (.seq
 (.reg [⟨some 30,.bin .eql (.s 6) (.k (.int .i64 4)),none⟩,⟨some 29,.mv (.s 30),none⟩] [2,3,4,6,29])
 (.cond (.s 29)
 (.seq
 (.reg [⟨some 31,.load true 8 (.s 2),none⟩,⟨some 32,.fad 2 (.s 3),none⟩,⟨some 33,.load false 1 (.s 32),none⟩,⟨some 34,.fad 1 (.s 3),none⟩,⟨some 35,.load false 1 (.s 34),none⟩,⟨some 36,.call Xp [.s 31,.s 33,.s 35],none⟩,⟨none,.store 8 (.s 4) (.s 36),none⟩] [4])
 .ret)
 (.seq
 (.reg [⟨some 38,.bin .eql (.s 6) (.k (.int .i64 5)),none⟩,⟨some 37,.mv (.s 38),none⟩] [2,3,4,37])
 (.cond (.s 37)
 (.seq
 (.drw []
 [⟨some 39,.load true 8 (.s 2),none⟩,⟨some 40,.fad 1 (.s 3),none⟩,⟨some 41,.load false 1 (.s 40),none⟩,⟨some 42,.load true 8 (.s 2),none⟩,⟨some 43,.fad 2 (.s 3),none⟩,⟨some 44,.load false 1 (.s 43),none⟩,⟨some 45,.call wo [.s 42,.s 44],none⟩]
 []
 [⟨some 46,.call Zg [.s 39,.s 41,.s 45],none⟩,⟨none,.store 8 (.s 4) (.s 46),none⟩] [4])
 .ret)
 .skip))))))))))))
 (.seq
 (.drw []
 [⟨some 47,.fad 0 (.s 3),none⟩,⟨some 48,.load false 1 (.s 47),none⟩,⟨some 49,.bin .eql (.s 48) (.k (.int .i64 6)),none⟩,⟨some 50,.mv (.s 49),none⟩,⟨some 51,.load true 8 (.s 2),some (50,true)⟩,⟨some 52,.fad 1 (.s 3),some (50,true)⟩,⟨some 53,.load false 1 (.s 52),some (50,true)⟩,⟨some 55,.fad 3 (.s 3),some (50,true)⟩,⟨some 56,.load true 8 (.s 55),some (50,true)⟩,⟨some 54,.call wo [.s 51,.s 53],some (50,true)⟩]
 []
 [⟨some 57,.call wk [.s 54,.s 56],some (50,true)⟩,⟨some 58,.pick (.s 50) (.s 57) (.k (.bool false)),none⟩,⟨some 59,.call vC [.s 58],none⟩] [2,4])
 (.seq
 (.reg [⟨some 60,.load true 8 (.s 2),none⟩,⟨none,.store 8 (.s 4) (.s 60),none⟩] [4])
 .ret))))
def Qe:Fn:=⟨2,[.cell 4 true 8],false,false,ziO⟩
def zi3:Fn:=⟨2,[.cell 4 true 8],false,false,zm zb8⟩
def JI:PC:=
 (.seq
 (.reg (.box 8 1 (.s 0)<|
 oq 2 (.mv (.k (.bool false)))<|
 .nil) [1])
 (.seq
 (.reg (oq 3 (.alloc [.int .i64 0])<|
 oz (.store 1 (.s 3) (.k (.int .i64 2000)))<|
 .nil) [1,3])
 (.seq
 (.reg (oq 4 (.load true 8 (.s 1))<|
 oq 5 (.call xw [.s 4,(.k (.int .i64 1)),.s 3])<|
 oq 2 (.mv (.s 5))<|
 .nil) [2])
 .ret)))
def QN:PFn:=⟨[.tmp 2],JI,false⟩
def kR:Fn:=⟨1,[.tmp 2],false,false,zm JI⟩
def zaq:PC:=
 (.seq
 (.reg (oq 2 (.mv (.k (.bool false)))<|
 .nil) [0])
 (.seq
 (.reg (oq 3 (.mv (.s 0))<|
 oq 4 (.len (.s 3))<|
 oq 5 (.bin .leq (.s 4) (.k (.int .i64 60)))<|
 oq 6 (.mv (.s 5))<|
 .grp 6 true (oq 7 (.mv (.s 0))<|
 oq 8 (.call zu [.s 7,(.k (.fn xo []))])<|
 oq 9 (.un .not (.s 8))<|
 .nil) 10 (.s 9) (.k (.bool false))<|
 oq 2 (.mv (.s 10))<|
 .nil) [2])
 .ret))
def zai:PFn:=⟨[.tmp 2],zaq,false⟩
def Z3:Fn:=⟨1,[.tmp 2],false,false,zm zaq⟩
def za5:PC:=
 (.seq
 (.reg (.box 8 2 (.s 0)<|
 oq 4 (.mv (.k (.bool false)))<|
 .nil) [1,2])
 (.seq
 (.reg (oq 5 (.load true 8 (.s 2))<|
 oq 6 (.call xk [.s 5])<|
 oq 7 (.mv (.s 1))<|
 oq 8 (.bin .leq (.s 6) (.s 7))<|
 oq 9 (.mv (.s 8))<|
 .grp 9 true (oq 10 (.load true 8 (.s 2))<|
 oq 11 (.call xJ [.s 10])<|
 oq 12 (.bin .leq (.s 11) (.k (.int .i64 2000)))<|
 .nil) 13 (.s 12) (.k (.bool false))<|
 oq 14 (.mv (.s 13))<|
 .grp 14 true (oq 15 (.load true 8 (.s 2))<|
 oq 16 (.call xG [.s 15])<|
 oq 17 (.bin .leq (.s 16) (.k (.int .i64 64)))<|
 .nil) 18 (.s 17) (.k (.bool false))<|
 oq 19 (.mv (.s 18))<|
 .grp 19 true (oq 20 (.load true 8 (.s 2))<|
 oq 21 (.call qp [.s 20])<|
 .nil) 22 (.s 21) (.k (.bool false))<|
 oq 4 (.mv (.s 22))<|
 .nil) [4])
 .ret))
def zcY:PFn:=⟨[.tmp 4],za5,false⟩
def Xd:Fn:=⟨2,[.tmp 4],false,false,zm za5⟩
def X2:PC:=
 (.seq
 (.reg (.box 3 2 (.s 0)<|
 .box 3 3 (.s 1)<|
 oq 4 (.mv (.k (.bool false)))<|
 .nil) [2,3])
 (.seq
 (.reg (oq 5 (.fad 0 (.s 2))<|
 oq 6 (.load false 1 (.s 5))<|
 oq 7 (.fad 0 (.s 3))<|
 oq 8 (.load false 1 (.s 7))<|
 oq 9 (.beq false (.s 6) (.s 8))<|
 oq 10 (.mv (.s 9))<|
 .grp 10 true (oq 11 (.fad 2 (.s 2))<|
 oq 12 (.load false 1 (.s 11))<|
 oq 13 (.fad 2 (.s 3))<|
 oq 14 (.load false 1 (.s 13))<|
 oq 15 (.bin .eql (.s 12) (.s 14))<|
 .nil) 16 (.s 15) (.k (.bool false))<|
 oq 17 (.mv (.s 16))<|
 .grp 17 true (oq 18 (.fad 1 (.s 2))<|
 oq 19 (.load false 1 (.s 18))<|
 oq 20 (.fad 1 (.s 3))<|
 oq 21 (.load false 1 (.s 20))<|
 oq 22 (.call xp [.s 19,.s 21])<|
 .nil) 23 (.s 22) (.k (.bool false))<|
 oq 4 (.mv (.s 23))<|
 .nil) [4])
 .ret))
def X6:PFn:=⟨[.tmp 4],X2,false⟩
def qO:Fn:=⟨2,[.tmp 4],false,false,zm X2⟩
def kL:PC:=
 (.seq
 (.reg (oq 4 (.mv (.k (.bool false)))<|
 .nil) [0,1])
 (.seq
 (.seq
 (.reg (oq 6 (.mv (.s 0))<|
 oq 7 (.len (.s 6))<|
 oq 8 (.mv (.s 1))<|
 oq 9 (.len (.s 8))<|
 oq 10 (.bin .neq (.s 7) (.s 9))<|
 .nil) [0,1,10])
 (.cond (.s 10)
 (.seq
 (.reg (oq 4 (.mv (.k (.bool false)))<|
 .nil) [4])
 .ret)
 .skip))
 (.seq
 (.seq
 (.reg (oq 5 (.mv (.k (.int .i64 0)))<|
 .nil) [0,1,5])
 (.blk 0
 (.loop ⟨[(0,.same),(1,.same),(5,.v)],[]⟩ [(.ext 0,⟨[],[]⟩),(.ret,⟨[(4,.v)],[]⟩)]
 (.seq
 (.seq
 (.reg (oq 11 (.mv (.s 5))<|
 oq 12 (.mv (.s 0))<|
 oq 13 (.len (.s 12))<|
 oq 14 (.bin .lss (.s 11) (.s 13))<|
 .nil) [0,1,5,14])
 (.cond (.s 14)
 .skip
 (.exit 0)))
 (.seq
 (.blk 1
 (.seq
 (.drw (.nil)
 (oq 17 (.mv (.s 0))<|
 oq 18 (.mv (.s 5))<|
 oq 19 (.iad 1 (.s 17) (.s 18))<|
 oq 20 (.load false 1 (.s 19))<|
 oq 21 (.mv (.s 1))<|
 oq 22 (.mv (.s 5))<|
 oq 23 (.iad 1 (.s 21) (.s 22))<|
 oq 24 (.load false 1 (.s 23))<|
 .nil)
 (oq 25 (.bin .neq (.s 20) (.s 24))<|
 .nil) [0,1,5,25])
 (.cond (.s 25)
 (.seq
 (.reg (oq 4 (.mv (.k (.bool false)))<|
 .nil) [4])
 .ret)
 .skip)))
 (.reg (oq 15 (.mv (.s 5))<|
 oq 16 (.bin .add (.s 15) (.k (.int .i64 1)))<|
 oq 5 (.mv (.s 16))<|
 .nil) [0,1,5]))))))
 (.seq
 (.reg (oq 4 (.mv (.k (.bool true)))<|
 .nil) [4])
 .ret))))
def kM:PFn:=⟨[.tmp 4],kL,false⟩
def vj:Fn:=⟨2,[.tmp 4],false,false,zm kL⟩
def zec:PC:=
 (.seq
 (.reg (.box 8 3 (.s 0)<|
 .box 8 5 (.s 2)<|
 oq 6 (.alloc zt8)<|
 .nil) [1,3,5,6])
 (.seq
 (.seq
 (.reg (oq 12 (.mv (.s 1))<|
 oq 13 (.len (.s 12))<|
 oq 14 (.bin .eql (.s 13) (.k (.int .i64 0)))<|
 .nil) [1,3,5,6,14])
 (.cond (.s 14)
 (.seq
 (.reg (oq 15 (.load true 8 (.s 5))<|
 oz (.store 8 (.s 6) (.s 15))<|
 .nil) [6])
 .ret)
 .skip))
 (.seq
 (.reg (oq 17 (.mv (.s 1))<|
 oq 18 (.call wm [.s 17])<|
 oq 16 (.mv (.s 18))<|
 oq 19 (.ext (.s 16) 0)<|
 oq 20 (.ext (.s 16) 1)<|
 oq 7 (.mv (.s 19))<|
 oq 8 (.mv (.s 20))<|
 .nil) [3,5,6,7,8])
 (.seq
 (.seq
 (.reg (oq 21 (.load true 8 (.s 3))<|
 oq 22 (.mv (.s 7))<|
 oq 1000000 (.call xP [.s 21,.s 22])<|
 oq 1000001 (.ext (.s 1000000) 0)<|
 .nil) [1000000,1000001,9,23,3,5,6,7,8,9])
 (.cond (.s 1000001)
 (.reg (oq 23 (.ext (.s 1000000) 1)<|
 oq 9 (.alloc zt8)<|
 oz (.store 8 (.s 9) (.s 23))<|
 .nil) [3,5,6,7,8,9])
 (.seq
 (.reg (oq 1000000 (.ext (.s 1000000) 1)<|
 .nil) [1000000])
 (.exit 1000000))))
 (.seq
 (.seq
 (.reg (oq 24 (.fad 0 (.s 9))<|
 oq 25 (.load false 1 (.s 24))<|
 .nil) [3,5,6,7,8,9,25])
 (.blk 0
 (.seq
 (.reg (oq 27 (.bin .eql (.s 25) (.k (.int .i64 7)))<|
 oq 26 (.mv (.s 27))<|
 .nil) [3,5,6,7,8,9,25,26])
 (.cond (.s 26)
 (.seq
 (.seq
 (.drw (.nil)
 (oq 28 (.load true 8 (.s 3))<|
 oq 29 (.mv (.s 7))<|
 oq 30 (.load true 8 (.s 9))<|
 oq 31 (.mv (.s 8))<|
 oq 32 (.load true 8 (.s 5))<|
 oq 33 (.call ve [.s 30,.s 31,.s 32])<|
 .nil)
 (oq 1000000 (.call vr [.s 28,.s 29,.s 33])<|
 oq 1000001 (.ext (.s 1000000) 0)<|
 .nil) [1000000,1000001,6,34,6])
 (.cond (.s 1000001)
 (.reg (oq 34 (.ext (.s 1000000) 1)<|
 oz (.store 8 (.s 6) (.s 34))<|
 .nil) [6])
 (.seq
 (.reg (oq 1000000 (.ext (.s 1000000) 1)<|
 .nil) [1000000])
 (.exit 1000000))))
 .ret)
 (.seq
 (.reg (oq 36 (.bin .eql (.s 25) (.k (.int .i64 6)))<|
 oq 35 (.mv (.s 36))<|
 .nil) [3,5,6,7,8,9,35])
 (.cond (.s 35)
 (.seq
 (.reg (oq 38 (.mv (.s 8))<|
 oq 39 (.fad 7 (.s 9))<|
 oq 40 (.load false 1 (.s 39))<|
 oq 41 (.len (.s 40))<|
 oq 42 (.call yp [.s 38,.s 41])<|
 oq 37 (.mv (.s 42))<|
 oq 43 (.ext (.s 37) 0)<|
 oq 44 (.ext (.s 37) 1)<|
 oq 10 (.mv (.s 43))<|
 oq 11 (.mv (.s 44))<|
 .nil) [3,5,6,7,8,9,10,11])
 (.seq
 (.cut ⟨[(3,.same),(5,.same),(6,.same),(7,.same),(8,.same),(9,.same),(10,.v),(11,.v)],[.same,.same,.same,.same]⟩ [(.nrm,⟨[(3,.same),(5,.same),(6,.same),(7,.same),(9,.same),(10,.v),(11,.v)],[.same,.same,.same,.same]⟩)]
 (.seq
 (.reg (oq 45 (.mv (.s 8))<|
 oq 46 (.bin .eql (.s 45) (.k (.str [45])))<|
 .nil) [3,5,6,7,9,10,11,46])
 (.cond (.s 46)
 (.reg (oq 47 (.fad 7 (.s 9))<|
 oq 48 (.load false 1 (.s 47))<|
 oq 49 (.len (.s 48))<|
 oq 10 (.mv (.s 49))<|
 oq 11 (.mv (.k (.bool true)))<|
 .nil) [3,5,6,7,9,10,11])
 .skip)))
 (.seq
 (.seq
 (.reg (oq 50 (.mv (.s 11))<|
 oq 1000000 (.call zt [.s 50])<|
 oq 1000001 (.ext (.s 1000000) 0)<|
 .nil) [1000000,1000001,3,5,6,7,9,10])
 (.cond (.s 1000001)
 (.reg (oq 51 (.ext (.s 1000000) 1)<|
 .nil) [3,5,6,7,9,10])
 (.seq
 (.reg (oq 1000000 (.ext (.s 1000000) 1)<|
 .nil) [1000000])
 (.exit 1000000))))
 (.seq
 (.seq
 (.drw (.nil)
 (oq 52 (.load true 8 (.s 3))<|
 oq 53 (.mv (.s 7))<|
 oq 54 (.fad 7 (.s 9))<|
 oq 55 (.load false 1 (.s 54))<|
 oq 56 (.mv (.s 10))<|
 oq 57 (.slc 8 (.s 55) none (some (.s 56)) none)<|
 oq 58 (.load true 8 (.s 5))<|
 oq 59 (.lit 1 zt8 [(0,8,(.s 58))])<|
 oq 60 (.fad 7 (.s 9))<|
 oq 61 (.load false 1 (.s 60))<|
 oq 62 (.mv (.s 10))<|
 oq 63 (.slc 8 (.s 61) (some (.s 62)) none none)<|
 oq 64 (.lit 3 [(.sl .full 0 [])] [(0,1,(.s 57)),(1,1,(.s 59)),(2,1,(.s 63))])<|
 oq 65 (.call yq [.s 64])<|
 oq 66 (.build zt8 [(0,1,(.k (.int .i64 6))),(7,1,(.s 65))])<|
 .nil)
 (oq 1000000 (.call vr [.s 52,.s 53,.s 66])<|
 oq 1000001 (.ext (.s 1000000) 0)<|
 .nil) [1000000,1000001,6,67,6])
 (.cond (.s 1000001)
 (.reg (oq 67 (.ext (.s 1000000) 1)<|
 oz (.store 8 (.s 6) (.s 67))<|
 .nil) [6])
 (.seq
 (.reg (oq 1000000 (.ext (.s 1000000) 1)<|
 .nil) [1000000])
 (.exit 1000000))))
 .ret))))
 .skip))))))
 (.seq
 (.reg (oq 68 (.build [] [])<|
 oq 69 (.ifc 52 (.s 68))<|
 oq 1000000 (.mv (.s 69))<|
 oq 1000001 (.inil true (.s 1000000))<|
 .nil) [1000000,1000001])
 (.cond (.s 1000001)
 (.exit 1000000)
 (.exit 1000002))))))))
def zd5:PFn:=⟨[.cell 6 true 8],zec,true⟩
def zmq:C:=
 (.seq
 (.reg [⟨some 3,.box (.s 0),none⟩,⟨some 5,.box (.s 2),none⟩,⟨some 6,.alloc zt8,none⟩] [1,3,5,6])
 (.seq
 (.seq
 (.reg [⟨some 12,.mv (.s 1),none⟩,⟨some 13,.len (.s 12),none⟩,⟨some 14,.bin .eql (.s 13) (.k (.int .i64 0)),none⟩] [1,3,5,6,14])
 (.cond (.s 14)
 (.seq
 (.reg [⟨some 15,.load true 8 (.s 5),none⟩,⟨none,.store 8 (.s 6) (.s 15),none⟩] [6])
 .ret)
 .skip))
 (.seq
 (.reg [⟨some 17,.mv (.s 1),none⟩,⟨some 18,.call wm [.s 17],none⟩,⟨some 16,.mv (.s 18),none⟩,⟨some 19,.ext (.s 16) 0,none⟩,⟨some 20,.ext (.s 16) 1,none⟩,⟨some 7,.mv (.s 19),none⟩,⟨some 8,.mv (.s 20),none⟩] [3,5,6,7,8])
 (.seq
 (.reg [⟨some 21,.load true 8 (.s 3),none⟩,⟨some 22,.mv (.s 7),none⟩,⟨some 23,.call wo [.s 21,.s 22],none⟩,⟨some 9,.alloc zt8,none⟩,⟨none,.store 8 (.s 9) (.s 23),none⟩] [3,5,6,7,8,9])
 (.seq
 (.seq
 (.reg [⟨some 24,.fad 0 (.s 9),none⟩,⟨some 25,.load false 1 (.s 24),none⟩] [3,5,6,7,8,9,25])
 (.blk 0
 (.seq
 (.reg [⟨some 27,.bin .eql (.s 25) (.k (.int .i64 7)),none⟩,⟨some 26,.mv (.s 27),none⟩] [3,5,6,7,8,9,25,26])
 (.cond (.s 26)
 (.seq
 (.drw []
 [⟨some 28,.load true 8 (.s 3),none⟩,⟨some 29,.mv (.s 7),none⟩,⟨some 30,.load true 8 (.s 9),none⟩,⟨some 31,.mv (.s 8),none⟩,⟨some 32,.load true 8 (.s 5),none⟩,⟨some 33,.call ve [.s 30,.s 31,.s 32],none⟩]
 []
 [⟨some 34,.call ji [.s 28,.s 29,.s 33],none⟩,⟨none,.store 8 (.s 6) (.s 34),none⟩] [6])
 .ret)
 (.seq
 (.reg [⟨some 36,.bin .eql (.s 25) (.k (.int .i64 6)),none⟩,⟨some 35,.mv (.s 36),none⟩] [3,5,6,7,8,9,35])
 (.cond (.s 35)
 (.seq
 (.reg [⟨some 38,.mv (.s 8),none⟩,⟨some 39,.fad 7 (.s 9),none⟩,⟨some 40,.load false 1 (.s 39),none⟩,⟨some 41,.len (.s 40),none⟩,⟨some 42,.call yp [.s 38,.s 41],none⟩,⟨some 37,.mv (.s 42),none⟩,⟨some 43,.ext (.s 37) 0,none⟩,⟨some 44,.ext (.s 37) 1,none⟩,⟨some 10,.mv (.s 43),none⟩,⟨some 11,.mv (.s 44),none⟩] [3,5,6,7,8,9,10,11])
 (.seq
 (.seq
 (.reg [⟨some 45,.mv (.s 8),none⟩,⟨some 46,.bin .eql (.s 45) (.k (.str [45])),none⟩] [3,5,6,7,9,10,11,46])
 (.cond (.s 46)
 (.reg [⟨some 47,.fad 7 (.s 9),none⟩,⟨some 48,.load false 1 (.s 47),none⟩,⟨some 49,.len (.s 48),none⟩,⟨some 10,.mv (.s 49),none⟩,⟨some 11,.mv (.k (.bool true)),none⟩] [3,5,6,7,9,10,11])
 .skip))
 (.seq
 (.reg [⟨some 50,.mv (.s 11),none⟩,⟨some 51,.call vC [.s 50],none⟩] [3,5,6,7,9,10])
 (.seq
 (.drw []
 [⟨some 52,.load true 8 (.s 3),none⟩,⟨some 53,.mv (.s 7),none⟩,⟨some 54,.fad 7 (.s 9),none⟩,⟨some 55,.load false 1 (.s 54),none⟩,⟨some 56,.mv (.s 10),none⟩,⟨some 57,.slc 8 (.s 55) none (some (.s 56)) none,none⟩,⟨some 58,.load true 8 (.s 5),none⟩,⟨some 59,.lit 1 zt8 [(0,8,(.s 58))],none⟩,⟨some 60,.fad 7 (.s 9),none⟩,⟨some 61,.load false 1 (.s 60),none⟩,⟨some 62,.mv (.s 10),none⟩,⟨some 63,.slc 8 (.s 61) (some (.s 62)) none none,none⟩,⟨some 64,.lit 3 [(.sl .full 0 [])] [(0,1,(.s 57)),(1,1,(.s 59)),(2,1,(.s 63))],none⟩,⟨some 65,.call yq [.s 64],none⟩,⟨some 66,.build zt8 [(0,1,(.k (.int .i64 6))),(7,1,(.s 65))],none⟩]
 []
 [⟨some 67,.call ji [.s 52,.s 53,.s 66],none⟩,⟨none,.store 8 (.s 6) (.s 67),none⟩] [6])
 .ret))))
 .skip))))))
 (.reg [⟨some 68,.build [] [],none⟩,⟨some 69,.ifc 52 (.s 68),none⟩,⟨none,.pan (.s 69),none⟩] [6]))))))
def Kt:Fn:=⟨3,[.cell 6 true 8],false,false,zmq⟩
def zly:Fn:=⟨3,[.cell 6 true 8],false,false,zm zec⟩
def JP:PC:=
 (.seq
 (.reg (.box 8 2 (.s 0)<|
 oq 4 (.alloc zt8)<|
 .nil) [1,2,4])
 (.seq
 (.seq
 (.reg (oq 10 (.mv (.s 1))<|
 oq 11 (.len (.s 10))<|
 oq 12 (.bin .gtr (.s 11) (.k (.int .i64 0)))<|
 oq 1000000 (.call zt [.s 12])<|
 oq 1000001 (.ext (.s 1000000) 0)<|
 .nil) [1000000,1000001,1,2,4])
 (.cond (.s 1000001)
 (.reg (oq 13 (.ext (.s 1000000) 1)<|
 .nil) [1,2,4])
 (.seq
 (.reg (oq 1000000 (.ext (.s 1000000) 1)<|
 .nil) [1000000])
 (.exit 1000000))))
 (.seq
 (.seq
 (.reg (oq 14 (.load true 8 (.s 2))<|
 oq 15 (.mv (.s 1))<|
 oq 1000000 (.call xP [.s 14,.s 15])<|
 oq 1000001 (.ext (.s 1000000) 0)<|
 .nil) [1000000,1000001,1,2,4])
 (.cond (.s 1000001)
 (.reg (oq 16 (.ext (.s 1000000) 1)<|
 .nil) [1,2,4])
 (.seq
 (.reg (oq 1000000 (.ext (.s 1000000) 1)<|
 .nil) [1000000])
 (.exit 1000000))))
 (.seq
 (.reg (oq 18 (.mv (.s 1))<|
 oq 19 (.call wm [.s 18])<|
 oq 17 (.mv (.s 19))<|
 oq 20 (.ext (.s 17) 0)<|
 oq 21 (.ext (.s 17) 1)<|
 oq 5 (.mv (.s 20))<|
 oq 6 (.mv (.s 21))<|
 .nil) [2,4,5,6])
 (.seq
 (.seq
 (.reg (oq 22 (.load true 8 (.s 2))<|
 oq 23 (.mv (.s 5))<|
 oq 1000000 (.call xP [.s 22,.s 23])<|
 oq 1000001 (.ext (.s 1000000) 0)<|
 .nil) [1000000,1000001,7,24,2,4,5,6,7])
 (.cond (.s 1000001)
 (.reg (oq 24 (.ext (.s 1000000) 1)<|
 oq 7 (.alloc zt8)<|
 oz (.store 8 (.s 7) (.s 24))<|
 .nil) [2,4,5,6,7])
 (.seq
 (.reg (oq 1000000 (.ext (.s 1000000) 1)<|
 .nil) [1000000])
 (.exit 1000000))))
 (.seq
 (.seq
 (.reg (oq 25 (.fad 0 (.s 7))<|
 oq 26 (.load false 1 (.s 25))<|
 oq 27 (.bin .eql (.s 26) (.k (.int .i64 7)))<|
 .nil) [2,4,5,6,7,27])
 (.cond (.s 27)
 (.seq
 (.seq
 (.drw (.nil)
 (oq 28 (.load true 8 (.s 2))<|
 oq 29 (.mv (.s 5))<|
 oq 30 (.load true 8 (.s 7))<|
 oq 31 (.mv (.s 6))<|
 oq 32 (.call js [.s 30,.s 31])<|
 .nil)
 (oq 1000000 (.call vr [.s 28,.s 29,.s 32])<|
 oq 1000001 (.ext (.s 1000000) 0)<|
 .nil) [1000000,1000001,4,33,4])
 (.cond (.s 1000001)
 (.reg (oq 33 (.ext (.s 1000000) 1)<|
 oz (.store 8 (.s 4) (.s 33))<|
 .nil) [4])
 (.seq
 (.reg (oq 1000000 (.ext (.s 1000000) 1)<|
 .nil) [1000000])
 (.exit 1000000))))
 .ret)
 .skip))
 (.seq
 (.reg (oq 35 (.mv (.s 6))<|
 oq 36 (.fad 7 (.s 7))<|
 oq 37 (.load false 1 (.s 36))<|
 oq 38 (.len (.s 37))<|
 oq 39 (.call yp [.s 35,.s 38])<|
 oq 34 (.mv (.s 39))<|
 oq 40 (.ext (.s 34) 0)<|
 oq 41 (.ext (.s 34) 1)<|
 oq 8 (.mv (.s 40))<|
 oq 9 (.mv (.s 41))<|
 .nil) [2,4,5,7,8])
 (.seq
 (.seq
 (.drw (.nil)
 (oq 42 (.load true 8 (.s 2))<|
 oq 43 (.mv (.s 5))<|
 oq 44 (.fad 7 (.s 7))<|
 oq 45 (.load false 1 (.s 44))<|
 oq 46 (.mv (.s 8))<|
 oq 47 (.slc 8 (.s 45) none (some (.s 46)) none)<|
 oq 48 (.fad 7 (.s 7))<|
 oq 49 (.load false 1 (.s 48))<|
 oq 50 (.mv (.s 8))<|
 oq 51 (.bin .add (.s 50) (.k (.int .i64 1)))<|
 oq 52 (.slc 8 (.s 49) (some (.s 51)) none none)<|
 oq 53 (.lit 2 [(.sl .full 0 [])] [(0,1,(.s 47)),(1,1,(.s 52))])<|
 oq 54 (.call yq [.s 53])<|
 oq 55 (.build zt8 [(0,1,(.k (.int .i64 6))),(7,1,(.s 54))])<|
 .nil)
 (oq 1000000 (.call vr [.s 42,.s 43,.s 55])<|
 oq 1000001 (.ext (.s 1000000) 0)<|
 .nil) [1000000,1000001,4,56,4])
 (.cond (.s 1000001)
 (.reg (oq 56 (.ext (.s 1000000) 1)<|
 oz (.store 8 (.s 4) (.s 56))<|
 .nil) [4])
 (.seq
 (.reg (oq 1000000 (.ext (.s 1000000) 1)<|
 .nil) [1000000])
 (.exit 1000000))))
 .ret))))))))
def zfU:PFn:=⟨[.cell 4 true 8],JP,true⟩
def zfS:C:=
 (.seq
 (.reg [⟨some 2,.box (.s 0),none⟩,⟨some 4,.alloc zt8,none⟩] [1,2,4])
 (.seq
 (.reg [⟨some 10,.mv (.s 1),none⟩,⟨some 11,.len (.s 10),none⟩,⟨some 12,.bin .gtr (.s 11) (.k (.int .i64 0)),none⟩,⟨some 13,.call vC [.s 12],none⟩] [1,2,4])
 (.seq
 (.reg [⟨some 14,.load true 8 (.s 2),none⟩,⟨some 15,.mv (.s 1),none⟩,⟨some 16,.call wo [.s 14,.s 15],none⟩] [1,2,4])
 (.seq
 (.reg [⟨some 18,.mv (.s 1),none⟩,⟨some 19,.call wm [.s 18],none⟩,⟨some 17,.mv (.s 19),none⟩,⟨some 20,.ext (.s 17) 0,none⟩,⟨some 21,.ext (.s 17) 1,none⟩,⟨some 5,.mv (.s 20),none⟩,⟨some 6,.mv (.s 21),none⟩] [2,4,5,6])
 (.seq
 (.reg [⟨some 22,.load true 8 (.s 2),none⟩,⟨some 23,.mv (.s 5),none⟩,⟨some 24,.call wo [.s 22,.s 23],none⟩,⟨some 7,.alloc zt8,none⟩,⟨none,.store 8 (.s 7) (.s 24),none⟩] [2,4,5,6,7])
 (.seq
 (.seq
 (.reg [⟨some 25,.fad 0 (.s 7),none⟩,⟨some 26,.load false 1 (.s 25),none⟩,⟨some 27,.bin .eql (.s 26) (.k (.int .i64 7)),none⟩] [2,4,5,6,7,27])
 (.cond (.s 27)
 (.seq
 (.drw []
 [⟨some 28,.load true 8 (.s 2),none⟩,⟨some 29,.mv (.s 5),none⟩,⟨some 30,.load true 8 (.s 7),none⟩,⟨some 31,.mv (.s 6),none⟩,⟨some 32,.call js [.s 30,.s 31],none⟩]
 []
 [⟨some 33,.call ji [.s 28,.s 29,.s 32],none⟩,⟨none,.store 8 (.s 4) (.s 33),none⟩] [4])
 .ret)
 .skip))
 (.seq
 (.reg [⟨some 35,.mv (.s 6),none⟩,⟨some 36,.fad 7 (.s 7),none⟩,⟨some 37,.load false 1 (.s 36),none⟩,⟨some 38,.len (.s 37),none⟩,⟨some 39,.call yp [.s 35,.s 38],none⟩,⟨some 34,.mv (.s 39),none⟩,⟨some 40,.ext (.s 34) 0,none⟩,⟨some 41,.ext (.s 34) 1,none⟩,⟨some 8,.mv (.s 40),none⟩,⟨some 9,.mv (.s 41),none⟩] [2,4,5,7,8])
 (.seq
 (.drw []
 [⟨some 42,.load true 8 (.s 2),none⟩,⟨some 43,.mv (.s 5),none⟩,⟨some 44,.fad 7 (.s 7),none⟩,⟨some 45,.load false 1 (.s 44),none⟩,⟨some 46,.mv (.s 8),none⟩,⟨some 47,.slc 8 (.s 45) none (some (.s 46)) none,none⟩,⟨some 48,.fad 7 (.s 7),none⟩,⟨some 49,.load false 1 (.s 48),none⟩,⟨some 50,.mv (.s 8),none⟩,⟨some 51,.bin .add (.s 50) (.k (.int .i64 1)),none⟩,⟨some 52,.slc 8 (.s 49) (some (.s 51)) none none,none⟩,⟨some 53,.lit 2 [(.sl .full 0 [])] [(0,1,(.s 47)),(1,1,(.s 52))],none⟩,⟨some 54,.call yq [.s 53],none⟩,⟨some 55,.build zt8 [(0,1,(.k (.int .i64 6))),(7,1,(.s 54))],none⟩]
 []
 [⟨some 56,.call ji [.s 42,.s 43,.s 55],none⟩,⟨none,.store 8 (.s 4) (.s 56),none⟩] [4])
 .ret))))))))
def XG:Fn:=⟨2,[.cell 4 true 8],false,false,zfS⟩
def zfV:Fn:=⟨2,[.cell 4 true 8],false,false,zm JP⟩
def zdZ:PC:=
 (.seq
 (.reg (.box 8 3 (.s 0)<|
 .box 8 5 (.s 2)<|
 oq 6 (.alloc zt8)<|
 .nil) [1,3,5,6])
 (.seq
 (.reg (oq 9 (.load true 8 (.s 3))<|
 oq 10 (.mv (.s 1))<|
 oq 11 (.load true 8 (.s 5))<|
 oq 12 (.call xn [.s 9,.s 10,.s 11])<|
 oq 8 (.mv (.s 12))<|
 oq 13 (.ext (.s 8) 0)<|
 oq 14 (.ext (.s 8) 1)<|
 oz (.store 8 (.s 3) (.s 13))<|
 oq 7 (.mv (.s 14))<|
 .nil) [3,6,7])
 (.seq
 (.seq
 (.reg (oq 15 (.mv (.s 7))<|
 oq 1000000 (.call zt [.s 15])<|
 oq 1000001 (.ext (.s 1000000) 0)<|
 .nil) [1000000,1000001,3,6])
 (.cond (.s 1000001)
 (.reg (oq 16 (.ext (.s 1000000) 1)<|
 .nil) [3,6])
 (.seq
 (.reg (oq 1000000 (.ext (.s 1000000) 1)<|
 .nil) [1000000])
 (.exit 1000000))))
 (.seq
 (.reg (oq 17 (.load true 8 (.s 3))<|
 oz (.store 8 (.s 6) (.s 17))<|
 .nil) [6])
 .ret))))
def zdU:PFn:=⟨[.cell 6 true 8],zdZ,true⟩
def zlv:C:=
 (.seq
 (.reg [⟨some 3,.box (.s 0),none⟩,⟨some 5,.box (.s 2),none⟩,⟨some 6,.alloc zt8,none⟩] [1,3,5,6])
 (.seq
 (.reg [⟨some 9,.load true 8 (.s 3),none⟩,⟨some 10,.mv (.s 1),none⟩,⟨some 11,.load true 8 (.s 5),none⟩,⟨some 12,.call xn [.s 9,.s 10,.s 11],none⟩,⟨some 8,.mv (.s 12),none⟩,⟨some 13,.ext (.s 8) 0,none⟩,⟨some 14,.ext (.s 8) 1,none⟩,⟨none,.store 8 (.s 3) (.s 13),none⟩,⟨some 7,.mv (.s 14),none⟩] [3,6,7])
 (.seq
 (.reg [⟨some 15,.mv (.s 7),none⟩,⟨some 16,.call vC [.s 15],none⟩] [3,6])
 (.seq
 (.reg [⟨some 17,.load true 8 (.s 3),none⟩,⟨none,.store 8 (.s 6) (.s 17),none⟩] [6])
 .ret))))
def JX:Fn:=⟨3,[.cell 6 true 8],false,false,zlv⟩
def zk3:Fn:=⟨3,[.cell 6 true 8],false,false,zm zdZ⟩
def zb7:PC:=
 (.seq
 (.reg (.box 8 3 (.s 0)<|
 oq 6 (.alloc zt8)<|
 .nil) [1,2,3,6])
 (.seq
 (.seq
 (.reg (oq 8 (.load true 8 (.s 3))<|
 oq 9 (.mv (.s 1))<|
 oq 1000000 (.call xP [.s 8,.s 9])<|
 oq 1000001 (.ext (.s 1000000) 0)<|
 .nil) [1000000,1000001,7,10,1,2,3,6,7])
 (.cond (.s 1000001)
 (.reg (oq 10 (.ext (.s 1000000) 1)<|
 oq 7 (.alloc zt8)<|
 oz (.store 8 (.s 7) (.s 10))<|
 .nil) [1,2,3,6,7])
 (.seq
 (.reg (oq 1000000 (.ext (.s 1000000) 1)<|
 .nil) [1000000])
 (.exit 1000000))))
 (.seq
 (.seq
 (.reg (oq 11 (.mv (.s 1))<|
 oq 12 (.mv (.s 2))<|
 oq 13 (.call yN [.s 11,.s 12])<|
 .nil) [1,2,3,6,7,13])
 (.cond (.s 13)
 (.seq
 (.reg (oq 14 (.load true 8 (.s 3))<|
 oz (.store 8 (.s 6) (.s 14))<|
 .nil) [6])
 .ret)
 .skip))
 (.seq
 (.seq
 (.reg (oq 15 (.mv (.s 1))<|
 oq 16 (.len (.s 15))<|
 oq 17 (.bin .gtr (.s 16) (.k (.int .i64 0)))<|
 oq 18 (.mv (.s 17))<|
 .grp 18 true (oq 19 (.mv (.s 1))<|
 oq 20 (.mv (.s 2))<|
 oq 21 (.call vp [.s 19,.s 20])<|
 oq 22 (.un .not (.s 21))<|
 .nil) 23 (.s 22) (.k (.bool false))<|
 oq 1000000 (.call zt [.s 23])<|
 oq 1000001 (.ext (.s 1000000) 0)<|
 .nil) [1000000,1000001,1,2,3,6,7])
 (.cond (.s 1000001)
 (.reg (oq 24 (.ext (.s 1000000) 1)<|
 .nil) [1,2,3,6,7])
 (.seq
 (.reg (oq 1000000 (.ext (.s 1000000) 1)<|
 .nil) [1000000])
 (.exit 1000000))))
 (.seq
 (.seq
 (.drw (.nil)
 (oq 25 (.load true 8 (.s 3))<|
 oq 26 (.mv (.s 1))<|
 oq 28 (.mv (.s 2))<|
 oq 29 (.load true 8 (.s 7))<|
 oq 1000000 (.call kZ [.s 25,.s 26])<|
 .nil)
 (oq 1000001 (.ext (.s 1000000) 0)<|
 .nil) [1000000,1000001,27,28,29,6,30,6])
 (.cond (.s 1000001)
 (.seq
 (.reg (oq 27 (.ext (.s 1000000) 1)<|
 oq 1000000 (.call je [.s 27,.s 28,.s 29])<|
 oq 1000001 (.ext (.s 1000000) 0)<|
 .nil) [1000000,1000001,6,30,6])
 (.cond (.s 1000001)
 (.reg (oq 30 (.ext (.s 1000000) 1)<|
 oz (.store 8 (.s 6) (.s 30))<|
 .nil) [6])
 (.seq
 (.reg (oq 1000000 (.ext (.s 1000000) 1)<|
 .nil) [1000000])
 (.exit 1000000))))
 (.seq
 (.reg (oq 1000000 (.ext (.s 1000000) 1)<|
 .nil) [1000000])
 (.exit 1000000))))
 .ret)))))
def zi4:PFn:=⟨[.cell 6 true 8],zb7,true⟩
def ziP:C:=
 (.seq
 (.reg [⟨some 3,.box (.s 0),none⟩,⟨some 6,.alloc zt8,none⟩] [1,2,3,6])
 (.seq
 (.reg [⟨some 8,.load true 8 (.s 3),none⟩,⟨some 9,.mv (.s 1),none⟩,⟨some 10,.call wo [.s 8,.s 9],none⟩,⟨some 7,.alloc zt8,none⟩,⟨none,.store 8 (.s 7) (.s 10),none⟩] [1,2,3,6,7])
 (.seq
 (.seq
 (.reg [⟨some 11,.mv (.s 1),none⟩,⟨some 12,.mv (.s 2),none⟩,⟨some 13,.call yN [.s 11,.s 12],none⟩] [1,2,3,6,7,13])
 (.cond (.s 13)
 (.seq
 (.reg [⟨some 14,.load true 8 (.s 3),none⟩,⟨none,.store 8 (.s 6) (.s 14),none⟩] [6])
 .ret)
 .skip))
 (.seq
 (.reg [⟨some 15,.mv (.s 1),none⟩,⟨some 16,.len (.s 15),none⟩,⟨some 17,.bin .gtr (.s 16) (.k (.int .i64 0)),none⟩,⟨some 18,.mv (.s 17),none⟩,⟨some 19,.mv (.s 1),some (18,true)⟩,⟨some 20,.mv (.s 2),some (18,true)⟩,⟨some 21,.call vp [.s 19,.s 20],some (18,true)⟩,⟨some 22,.un .not (.s 21),some (18,true)⟩,⟨some 23,.pick (.s 18) (.s 22) (.k (.bool false)),none⟩,⟨some 24,.call vC [.s 23],none⟩] [1,2,3,6,7])
 (.seq
 (.drw []
 [⟨some 25,.load true 8 (.s 3),none⟩,⟨some 26,.mv (.s 1),none⟩,⟨some 28,.mv (.s 2),none⟩,⟨some 29,.load true 8 (.s 7),none⟩,⟨some 27,.call jv [.s 25,.s 26],none⟩]
 []
 [⟨some 30,.call Zg [.s 27,.s 28,.s 29],none⟩,⟨none,.store 8 (.s 6) (.s 30),none⟩] [6])
 .ret)))))
def Qi:Fn:=⟨3,[.cell 6 true 8],false,false,ziP⟩
def zjk:Fn:=⟨3,[.cell 6 true 8],false,false,zm zb7⟩
def zei:PC:=
 (.seq
 (.reg (.box 8 2 (.s 0)<|
 oq 4 (.alloc zt8)<|
 .nil) [1,2,4])
 (.seq
 (.reg (oq 8 (.load true 8 (.s 2))<|
 oq 9 (.mv (.s 1))<|
 oq 10 (.call wj [.s 8,.s 9])<|
 oq 7 (.mv (.s 10))<|
 oq 11 (.ext (.s 7) 0)<|
 oq 12 (.ext (.s 7) 1)<|
 oq 5 (.alloc zt8)<|
 oz (.store 8 (.s 5) (.s 11))<|
 oq 6 (.mv (.s 12))<|
 .nil) [4,5,6])
 (.seq
 (.seq
 (.reg (oq 13 (.mv (.s 6))<|
 oq 1000000 (.call zt [.s 13])<|
 oq 1000001 (.ext (.s 1000000) 0)<|
 .nil) [1000000,1000001,4,5])
 (.cond (.s 1000001)
 (.reg (oq 14 (.ext (.s 1000000) 1)<|
 .nil) [4,5])
 (.seq
 (.reg (oq 1000000 (.ext (.s 1000000) 1)<|
 .nil) [1000000])
 (.exit 1000000))))
 (.seq
 (.reg (oq 15 (.load true 8 (.s 5))<|
 oz (.store 8 (.s 4) (.s 15))<|
 .nil) [4])
 .ret))))
def zen:PFn:=⟨[.cell 4 true 8],zei,true⟩
def zl8:C:=
 (.seq
 (.reg [⟨some 2,.box (.s 0),none⟩,⟨some 4,.alloc zt8,none⟩] [1,2,4])
 (.seq
 (.reg [⟨some 8,.load true 8 (.s 2),none⟩,⟨some 9,.mv (.s 1),none⟩,⟨some 10,.call wj [.s 8,.s 9],none⟩,⟨some 7,.mv (.s 10),none⟩,⟨some 11,.ext (.s 7) 0,none⟩,⟨some 12,.ext (.s 7) 1,none⟩,⟨some 5,.alloc zt8,none⟩,⟨none,.store 8 (.s 5) (.s 11),none⟩,⟨some 6,.mv (.s 12),none⟩] [4,5,6])
 (.seq
 (.reg [⟨some 13,.mv (.s 6),none⟩,⟨some 14,.call vC [.s 13],none⟩] [4,5])
 (.seq
 (.reg [⟨some 15,.load true 8 (.s 5),none⟩,⟨none,.store 8 (.s 4) (.s 15),none⟩] [4])
 .ret))))
def KG:Fn:=⟨2,[.cell 4 true 8],false,false,zl8⟩
def zlI:Fn:=⟨2,[.cell 4 true 8],false,false,zm zei⟩
def zde:PC:=
 (.seq
 (.reg (oq 2 (.mv (.s 0))<|
 oq 3 (.un .not (.s 2))<|
 .nil) [3])
 (.cond (.s 3)
 (.seq
 (.reg (oq 4 (.build [] [])<|
 oq 5 (.ifc 52 (.s 4))<|
 oq 1000000 (.mv (.s 5))<|
 oq 1000001 (.inil true (.s 1000000))<|
 .nil) [1000000,1000001])
 (.cond (.s 1000001)
 (.exit 1000000)
 (.exit 1000002)))
 .skip))
def zcx:PFn:=⟨[],zde,true⟩
def ziW:C:=
 (.seq
 (.reg [⟨some 2,.mv (.s 0),none⟩,⟨some 3,.un .not (.s 2),none⟩] [3])
 (.cond (.s 3)
 (.reg [⟨some 4,.build [] [],none⟩,⟨some 5,.ifc 52 (.s 4),none⟩,⟨none,.pan (.s 5),none⟩] [])
 .skip))
def Qu:Fn:=⟨1,[],false,false,ziW⟩
def zjv:Fn:=⟨1,[],false,false,zm zde⟩
def zau:PC:=
 (.seq
 (.reg (.box 8 2 (.s 0)<|
 .box 8 3 (.s 1)<|
 oq 4 (.mv (.k (.bool false)))<|
 .nil) [2,3])
 (.seq
 (.seq
 (.reg (oq 5 (.fad 0 (.s 2))<|
 oq 6 (.load false 1 (.s 5))<|
 oq 7 (.fad 0 (.s 3))<|
 oq 8 (.load false 1 (.s 7))<|
 oq 9 (.bin .neq (.s 6) (.s 8))<|
 .nil) [2,3,9])
 (.cond (.s 9)
 (.seq
 (.reg (oq 4 (.mv (.k (.bool false)))<|
 .nil) [4])
 .ret)
 .skip))
 (.seq
 (.seq
 (.reg (oq 10 (.fad 0 (.s 2))<|
 oq 11 (.load false 1 (.s 10))<|
 .nil) [2,3,11])
 (.blk 0
 (.seq
 (.blk 6
 (.seq
 (.blk 5
 (.seq
 (.cut ⟨[(2,.same),(3,.same),(11,.same)],[.same,.same]⟩ [(.ext 0,⟨[],[.same,.same]⟩),(.ext 5,⟨[(2,.same),(3,.same)],[.same,.same]⟩),(.ext 6,⟨[(2,.same),(3,.same)],[.same,.same]⟩),(.nrm,⟨[(2,.same),(3,.same)],[.same,.same]⟩),(.ret,⟨[(4,.v)],[.same,.same]⟩)]
 (.blk 4
 (.blk 3
 (.seq
 (.blk 2
 (.seq
 (.blk 1
 (.seq
 (.seq
 (.seq
 (.reg (oq 13 (.bin .eql (.s 11) (.k (.int .i64 2)))<|
 oq 12 (.mv (.s 13))<|
 .nil) [2,3,11,12])
 (.cond (.s 12)
 (.exit 1)
 .skip))
 (.seq
 (.seq
 (.reg (oq 15 (.bin .eql (.s 11) (.k (.int .i64 3)))<|
 oq 14 (.mv (.s 15))<|
 .nil) [2,3,11,14])
 (.cond (.s 14)
 (.exit 2)
 .skip))
 (.seq
 (.seq
 (.reg (oq 17 (.bin .eql (.s 11) (.k (.int .i64 4)))<|
 oq 16 (.mv (.s 17))<|
 .nil) [2,3,11,16])
 (.cond (.s 16)
 (.exit 3)
 .skip))
 (.seq
 (.seq
 (.reg (oq 19 (.bin .eql (.s 11) (.k (.int .i64 5)))<|
 oq 18 (.mv (.s 19))<|
 .nil) [2,3,11,18])
 (.cond (.s 18)
 (.exit 4)
 .skip))
 (.seq
 (.seq
 (.reg (oq 21 (.bin .eql (.s 11) (.k (.int .i64 7)))<|
 oq 20 (.mv (.s 21))<|
 .nil) [2,3,11,20])
 (.cond (.s 20)
 (.exit 5)
 .skip))
 (.seq
 (.reg (oq 23 (.bin .eql (.s 11) (.k (.int .i64 6)))<|
 oq 22 (.mv (.s 23))<|
 .nil) [2,3,22])
 (.cond (.s 22)
 (.exit 6)
 .skip)))))))
 (.exit 0)))
 (.seq
 (.seq
 (.reg (oq 24 (.fad 1 (.s 2))<|
 oq 25 (.load false 1 (.s 24))<|
 oq 26 (.fad 1 (.s 3))<|
 oq 27 (.load false 1 (.s 26))<|
 oq 28 (.beq false (.s 25) (.s 27))<|
 oq 4 (.mv (.s 28))<|
 .nil) [4])
 .ret)
 (.exit 0))))
 (.seq
 (.seq
 (.reg (oq 29 (.fad 2 (.s 2))<|
 oq 30 (.load true 3 (.s 29))<|
 oq 31 (.fad 2 (.s 3))<|
 oq 32 (.load true 3 (.s 31))<|
 oq 33 (.call XM [.s 30,.s 32])<|
 oq 4 (.mv (.s 33))<|
 .nil) [4])
 .ret)
 (.exit 0))))))
 (.seq
 (.seq
 (.reg (oq 34 (.fad 5 (.s 2))<|
 oq 35 (.load false 1 (.s 34))<|
 oq 36 (.fad 5 (.s 3))<|
 oq 37 (.load false 1 (.s 36))<|
 oq 38 (.bin .eql (.s 35) (.s 37))<|
 oq 4 (.mv (.s 38))<|
 .nil) [4])
 .ret)
 (.exit 0))))
 (.seq
 (.seq
 (.reg (oq 39 (.fad 6 (.s 2))<|
 oq 40 (.load false 1 (.s 39))<|
 oq 41 (.fad 6 (.s 3))<|
 oq 42 (.load false 1 (.s 41))<|
 oq 43 (.call yN [.s 40,.s 42])<|
 oq 44 (.mv (.s 43))<|
 .grp 44 true (oq 45 (.fad 7 (.s 2))<|
 oq 46 (.load false 1 (.s 45))<|
 oq 47 (.fad 7 (.s 3))<|
 oq 48 (.load false 1 (.s 47))<|
 oq 49 (.call xB [.s 46,.s 48,(.k (.fn wk []))])<|
 .nil) 50 (.s 49) (.k (.bool false))<|
 oq 4 (.mv (.s 50))<|
 .nil) [4])
 .ret)
 (.exit 0))))
 (.seq
 (.seq
 (.reg (oq 51 (.fad 7 (.s 2))<|
 oq 52 (.load false 1 (.s 51))<|
 oq 53 (.fad 7 (.s 3))<|
 oq 54 (.load false 1 (.s 53))<|
 oq 55 (.call xB [.s 52,.s 54,(.k (.fn wk []))])<|
 oq 4 (.mv (.s 55))<|
 .nil) [4])
 .ret)
 (.exit 0)))))
 (.seq
 (.reg (oq 4 (.mv (.k (.bool true)))<|
 .nil) [4])
 .ret))))
def zhS:PFn:=⟨[.tmp 4],zau,false⟩
def Yd:Fn:=⟨2,[.tmp 4],false,false,zm zau⟩
def Ji:PC:=
 (.seq
 (.reg (.box 8 3 (.s 0)<|
 oq 6 (.mv (.k (.bool false)))<|
 .nil) [1,2,3])
 (.seq
 (.reg (oq 9 (.mv (.s 2))<|
 oq 10 (.chk (.s 9))<|
 oq 11 (.load false 1 (.s 10))<|
 oq 12 (.bin .sub (.s 11) (.k (.int .i64 1)))<|
 oq 13 (.chk (.s 9))<|
 oz (.store 1 (.s 13) (.s 12))<|
 .nil) [1,2,3])
 (.seq
 (.seq
 (.reg (oq 14 (.mv (.s 2))<|
 oq 15 (.chk (.s 14))<|
 oq 16 (.load false 1 (.s 15))<|
 oq 17 (.bin .lss (.s 16) (.k (.int .i64 0)))<|
 oq 18 (.mv (.s 17))<|
 .grp 18 false (oq 19 (.mv (.s 1))<|
 oq 20 (.bin .gtr (.s 19) (.k (.int .i64 64)))<|
 .nil) 21 (.s 20) (.k (.bool true))<|
 oq 22 (.mv (.s 21))<|
 .grp 22 false (oq 23 (.load true 8 (.s 3))<|
 oq 24 (.call qh [.s 23])<|
 oq 25 (.un .not (.s 24))<|
 .nil) 26 (.s 25) (.k (.bool true))<|
 .nil) [1,2,3,26])
 (.cond (.s 26)
 (.seq
 (.reg (oq 6 (.mv (.k (.bool false)))<|
 .nil) [6])
 .ret)
 .skip))
 (.seq
 (.seq
 (.reg (oq 27 (.fad 7 (.s 3))<|
 oq 28 (.load false 1 (.s 27))<|
 oq 29 (.len (.s 28))<|
 oq 30 (.mv (.k (.int .i64 0)))<|
 .nil) [1,2,28,29,30])
 (.blk 0
 (.loop ⟨[(1,.same),(2,.same),(28,.same),(29,.same),(30,.v)],[(.cells [.v]),.same]⟩ [(.ext 0,⟨[],[(.cells [.v]),.same]⟩),(.ret,⟨[(6,.v)],[(.cells [.v]),.same]⟩)]
 (.seq
 (.reg (oq 31 (.bin .lss (.s 30) (.s 29))<|
 .nil) [1,2,28,29,30,31])
 (.seq
 (.cond (.s 31)
 .skip
 (.exit 0))
 (.seq
 (.blk 1
 (.seq
 (.reg (oq 32 (.iad 8 (.s 28) (.s 30))<|
 oq 33 (.load true 8 (.s 32))<|
 oq 8 (.alloc zt8)<|
 oz (.store 8 (.s 8) (.s 33))<|
 .nil) [1,2,8,28,29,30])
 (.seq
 (.reg (oq 34 (.load true 8 (.s 8))<|
 oq 35 (.mv (.s 1))<|
 oq 36 (.bin .add (.s 35) (.k (.int .i64 1)))<|
 oq 37 (.mv (.s 2))<|
 oq 38 (.call xw [.s 34,.s 36,.s 37])<|
 oq 39 (.un .not (.s 38))<|
 .nil) [1,2,28,29,30,39])
 (.cond (.s 39)
 (.seq
 (.reg (oq 6 (.mv (.k (.bool false)))<|
 .nil) [6])
 .ret)
 .skip))))
 (.reg (oq 40 (.bin .add (.s 30) (.k (.int .i64 1)))<|
 oq 30 (.mv (.s 40))<|
 .nil) [1,2,28,29,30])))))))
 (.seq
 (.reg (oq 6 (.mv (.k (.bool true)))<|
 .nil) [6])
 .ret)))))
def Ja:PFn:=⟨[.tmp 6],Ji,false⟩
def Zb:Fn:=⟨3,[.tmp 6],false,false,zm Ji⟩
def xY:PC:=
 (.seq
 (.reg (oq 4 (.mv (.k (.bool false)))<|
 .nil) [0,1])
 (.seq
 (.reg (oq 5 (.mv (.s 0))<|
 oq 6 (.mv (.s 1))<|
 oq 7 (.call yc [.s 5,.s 6])<|
 oq 8 (.bin .geq (.s 7) (.k (.int .i64 0)))<|
 oq 4 (.mv (.s 8))<|
 .nil) [4])
 .ret))
def xX:PFn:=⟨[.tmp 4],xY,false⟩
def yA:Fn:=⟨2,[.tmp 4],false,false,zm xY⟩
def V7:PC:=
 (.seq
 (.reg (.box 11 1 (.s 0)<|
 oq 2 (.mv (.k (.bool false)))<|
 .nil) [1])
 (.seq
 (.reg (oq 3 (.load true 11 (.s 1))<|
 oq 4 (.call wW [.s 3])<|
 oq 5 (.un .not (.s 4))<|
 oq 2 (.mv (.s 5))<|
 .nil) [2])
 .ret))
def VX:PFn:=⟨[.tmp 2],V7,false⟩
def ka:Fn:=⟨1,[.tmp 2],false,false,zm V7⟩
def zeu:PC:=
 (.seq
 (.reg (.box 11 1 (.s 0)<|
 oq 2 (.mv (.k (.bool false)))<|
 .nil) [1])
 (.seq
 (.drw (.nil)
 (oq 5 (.fad 2 (.s 1))<|
 oq 6 (.load false 1 (.s 5))<|
 oq 7 (.len (.s 6))<|
 oq 8 (.bin .eql (.s 7) (.k (.int .i64 0)))<|
 oq 9 (.fad 3 (.s 1))<|
 oq 10 (.load true 8 (.s 9))<|
 oq 11 (.call qW [.s 10])<|
 .nil)
 (oq 3 (.mv (.s 8))<|
 oq 4 (.mv (.s 11))<|
 .nil) [1,3,4])
 (.seq
 (.cut ⟨[(1,.same),(3,.v),(4,.v)],[.same]⟩ [(.nrm,⟨[(1,.same),(4,.v),(3,.v)],[.same]⟩),(.ret,⟨[(2,.v)],[.same]⟩)]
 (.seq
 (.reg (oq 12 (.fad 0 (.s 1))<|
 oq 13 (.load false 1 (.s 12))<|
 .nil) [1,3,4,13])
 (.blk 0
 (.seq
 (.blk 5
 (.seq
 (.blk 4
 (.seq
 (.cut ⟨[(1,.same),(3,.v),(4,.same),(13,.same)],[.same]⟩ [(.ext 0,⟨[(1,.same),(4,.same),(3,.v)],[.same]⟩),(.ext 4,⟨[(1,.same),(3,.v),(4,.same)],[.same]⟩),(.ext 5,⟨[],[.same]⟩),(.nrm,⟨[(1,.same),(3,.v)],[.same]⟩)]
 (.blk 3
 (.seq
 (.cut ⟨[(1,.same),(3,.same),(4,.same),(13,.same)],[.same]⟩ [(.ext 3,⟨[(1,.same),(3,.same)],[.same]⟩),(.ext 4,⟨[(1,.same),(3,.same),(4,.same)],[.same]⟩),(.ext 5,⟨[],[.same]⟩),(.nrm,⟨[(1,.same),(4,.same)],[.same]⟩)]
 (.blk 2
 (.blk 1
 (.seq
 (.seq
 (.seq
 (.reg (oq 15 (.bin .eql (.s 13) (.k (.int .i64 4)))<|
 oq 14 (.mv (.s 15))<|
 .nil) [1,3,4,13,14])
 (.cond (.s 14)
 (.exit 1)
 .skip))
 (.seq
 (.seq
 (.reg (oq 17 (.bin .eql (.s 13) (.k (.int .i64 5)))<|
 oq 16 (.mv (.s 17))<|
 .nil) [1,3,4,13,16])
 (.cond (.s 16)
 (.exit 2)
 .skip))
 (.seq
 (.seq
 (.seq
 (.reg (oq 19 (.bin .eql (.s 13) (.k (.int .i64 1)))<|
 oq 18 (.mv (.s 19))<|
 .nil) [1,3,4,13,18])
 (.cond (.s 18)
 .skip
 (.seq
 (.reg (oq 20 (.bin .eql (.s 13) (.k (.int .i64 3)))<|
 oq 18 (.mv (.s 20))<|
 .nil) [1,3,4,13,18])
 (.cond (.s 18)
 .skip
 (.reg (oq 21 (.bin .eql (.s 13) (.k (.int .i64 6)))<|
 oq 18 (.mv (.s 21))<|
 .nil) [1,3,4,13,18])))))
 (.cond (.s 18)
 (.exit 3)
 .skip))
 (.seq
 (.reg (oq 23 (.bin .eql (.s 13) (.k (.int .i64 2)))<|
 oq 22 (.mv (.s 23))<|
 .nil) [1,3,4,22])
 (.cond (.s 22)
 (.exit 4)
 .skip)))))
 (.exit 5)))))
 (.seq
 (.reg (oq 24 (.fad 2 (.s 1))<|
 oq 25 (.load false 1 (.s 24))<|
 oq 26 (.call vd [.s 25])<|
 oq 3 (.mv (.s 26))<|
 .nil) [1,3,4])
 (.exit 0)))))
 (.seq
 (.reg (oq 27 (.fad 3 (.s 1))<|
 oq 28 (.load true 8 (.s 27))<|
 oq 29 (.call y5 [.s 28])<|
 oq 4 (.mv (.s 29))<|
 .nil) [1,3,4])
 (.exit 0))))
 (.exit 0)))
 (.seq
 (.seq
 (.reg (oq 2 (.mv (.k (.bool false)))<|
 .nil) [2])
 .ret)
 (.exit 0))))))
 (.seq
 (.reg (oq 30 (.fad 1 (.s 1))<|
 oq 31 (.load false 1 (.s 30))<|
 oq 32 (.call vd [.s 31])<|
 oq 33 (.mv (.s 32))<|
 .grp 33 true (oq 34 (.mv (.s 3))<|
 .nil) 35 (.s 34) (.k (.bool false))<|
 oq 36 (.mv (.s 35))<|
 .grp 36 true (oq 37 (.mv (.s 4))<|
 .nil) 38 (.s 37) (.k (.bool false))<|
 oq 2 (.mv (.s 38))<|
 .nil) [2])
 .ret))))
def zeO:PFn:=⟨[.tmp 2],zeu,false⟩
def Ve:Fn:=⟨1,[.tmp 2],false,false,zm zeu⟩
def V0:PC:=
 (.seq
 (.reg (.box 8 1 (.s 0)<|
 oq 2 (.mv (.k (.int .i64 0)))<|
 .nil) [1])
 (.seq
 (.reg (oq 3 (.mv (.k (.int .i64 1)))<|
 .nil) [1,3])
 (.seq
 (.cut ⟨[(1,.same),(3,.v)],[.same]⟩ [(.nrm,⟨[(1,.same),(3,.v)],[.same]⟩)]
 (.seq
 (.reg (oq 6 (.fad 0 (.s 1))<|
 oq 7 (.load false 1 (.s 6))<|
 .nil) [1,3,7])
 (.blk 0
 (.seq
 (.reg (oq 9 (.bin .eql (.s 7) (.k (.int .i64 3)))<|
 oq 8 (.mv (.s 9))<|
 .nil) [1,3,7,8])
 (.cond (.s 8)
 (.reg (oq 10 (.mv (.s 3))<|
 oq 11 (.fad 2 (.s 1))<|
 oq 12 (.fad 1 (.s 11))<|
 oq 13 (.load false 1 (.s 12))<|
 oq 14 (.len (.s 13))<|
 oq 15 (.bin .add (.s 10) (.s 14))<|
 oq 3 (.mv (.s 15))<|
 .nil) [1,3])
 (.seq
 (.cut ⟨[(1,.same),(3,.same),(7,.same)],[.same]⟩ [(.nrm,⟨[(1,.same),(3,.same),(16,.v)],[.same]⟩)]
 (.seq
 (.reg (oq 17 (.bin .eql (.s 7) (.k (.int .i64 4)))<|
 oq 16 (.mv (.s 17))<|
 .nil) [1,3,7,16])
 (.cond (.s 16)
 .skip
 (.reg (oq 18 (.bin .eql (.s 7) (.k (.int .i64 5)))<|
 oq 16 (.mv (.s 18))<|
 .nil) [1,3,16]))))
 (.cond (.s 16)
 (.reg (oq 19 (.mv (.s 3))<|
 oq 20 (.fad 5 (.s 1))<|
 oq 21 (.load false 1 (.s 20))<|
 oq 22 (.lns (.s 21))<|
 oq 23 (.bin .add (.s 19) (.s 22))<|
 oq 3 (.mv (.s 23))<|
 .nil) [1,3])
 .skip)))))))
 (.seq
 (.seq
 (.reg (oq 24 (.fad 7 (.s 1))<|
 oq 25 (.load false 1 (.s 24))<|
 oq 26 (.len (.s 25))<|
 oq 27 (.mv (.k (.int .i64 0)))<|
 .nil) [3,25,26,27])
 (.blk 1
 (.loop ⟨[(3,.v),(25,.same),(26,.same),(27,.v)],[.same]⟩ [(.ext 1,⟨[(3,.v)],[.same]⟩)]
 (.seq
 (.reg (oq 28 (.bin .lss (.s 27) (.s 26))<|
 .nil) [3,25,26,27,28])
 (.seq
 (.cond (.s 28)
 .skip
 (.exit 1))
 (.seq
 (.blk 2
 (.seq
 (.reg (oq 29 (.iad 8 (.s 25) (.s 27))<|
 oq 30 (.load true 8 (.s 29))<|
 oq 5 (.alloc zt8)<|
 oz (.store 8 (.s 5) (.s 30))<|
 .nil) [3,5,25,26,27])
 (.reg (oq 31 (.mv (.s 3))<|
 oq 32 (.load true 8 (.s 5))<|
 oq 33 (.call xk [.s 32])<|
 oq 34 (.bin .add (.s 31) (.s 33))<|
 oq 3 (.mv (.s 34))<|
 .nil) [3,25,26,27])))
 (.reg (oq 35 (.bin .add (.s 27) (.k (.int .i64 1)))<|
 oq 27 (.mv (.s 35))<|
 .nil) [3,25,26,27])))))))
 (.seq
 (.reg (oq 36 (.mv (.s 3))<|
 oq 2 (.mv (.s 36))<|
 .nil) [2])
 .ret)))))
def VZ:PFn:=⟨[.tmp 2],V0,false⟩
def kb:Fn:=⟨1,[.tmp 2],false,false,zm V0⟩
def Jw:PC:=
 (.seq
 (.reg (.box 8 1 (.s 0)<|
 oq 2 (.mv (.k (.int .i64 0)))<|
 .nil) [1])
 (.seq
 (.reg (oq 3 (.mv (.k (.int .i64 1)))<|
 .nil) [1,3])
 (.seq
 (.seq
 (.reg (oq 6 (.fad 7 (.s 1))<|
 oq 7 (.load false 1 (.s 6))<|
 oq 8 (.len (.s 7))<|
 oq 9 (.mv (.k (.int .i64 0)))<|
 .nil) [3,7,8,9])
 (.blk 0
 (.loop ⟨[(3,.v),(7,.same),(8,.same),(9,.v)],[.same]⟩ [(.ext 0,⟨[(3,.v)],[.same]⟩)]
 (.seq
 (.reg (oq 10 (.bin .lss (.s 9) (.s 8))<|
 .nil) [3,7,8,9,10])
 (.seq
 (.cond (.s 10)
 .skip
 (.exit 0))
 (.seq
 (.blk 1
 (.seq
 (.reg (oq 11 (.iad 8 (.s 7) (.s 9))<|
 oq 12 (.load true 8 (.s 11))<|
 oq 5 (.alloc zt8)<|
 oz (.store 8 (.s 5) (.s 12))<|
 .nil) [3,5,7,8,9])
 (.reg (oq 13 (.mv (.s 3))<|
 oq 14 (.load true 8 (.s 5))<|
 oq 15 (.call xJ [.s 14])<|
 oq 16 (.bin .add (.s 13) (.s 15))<|
 oq 3 (.mv (.s 16))<|
 .nil) [3,7,8,9])))
 (.reg (oq 17 (.bin .add (.s 9) (.k (.int .i64 1)))<|
 oq 9 (.mv (.s 17))<|
 .nil) [3,7,8,9])))))))
 (.seq
 (.reg (oq 18 (.mv (.s 3))<|
 oq 2 (.mv (.s 18))<|
 .nil) [2])
 .ret))))
def JF:PFn:=⟨[.tmp 2],Jw,false⟩
def kW:Fn:=⟨1,[.tmp 2],false,false,zm Jw⟩
def Q0:PC:=
 (.seq
 (.reg (.box 8 1 (.s 0)<|
 oq 2 (.mv (.k (.int .i64 0)))<|
 .nil) [1])
 (.seq
 (.reg (oq 3 (.mv (.k (.int .i64 0)))<|
 .nil) [1,3])
 (.seq
 (.seq
 (.reg (oq 6 (.fad 7 (.s 1))<|
 oq 7 (.load false 1 (.s 6))<|
 oq 8 (.len (.s 7))<|
 oq 9 (.mv (.k (.int .i64 0)))<|
 .nil) [3,7,8,9])
 (.blk 0
 (.loop ⟨[(3,.v),(7,.same),(8,.same),(9,.v)],[.same]⟩ [(.ext 0,⟨[(3,.v)],[.same]⟩)]
 (.seq
 (.reg (oq 10 (.bin .lss (.s 9) (.s 8))<|
 .nil) [3,7,8,9,10])
 (.seq
 (.cond (.s 10)
 .skip
 (.exit 0))
 (.seq
 (.blk 1
 (.seq
 (.reg (oq 11 (.iad 8 (.s 7) (.s 9))<|
 oq 12 (.load true 8 (.s 11))<|
 oq 5 (.alloc zt8)<|
 oz (.store 8 (.s 5) (.s 12))<|
 .nil) [3,5,7,8,9])
 (.reg (oq 13 (.mv (.s 3))<|
 oq 14 (.load true 8 (.s 5))<|
 oq 15 (.call xG [.s 14])<|
 oq 16 (.max [.s 13,.s 15])<|
 oq 3 (.mv (.s 16))<|
 .nil) [3,7,8,9])))
 (.reg (oq 17 (.bin .add (.s 9) (.k (.int .i64 1)))<|
 oq 9 (.mv (.s 17))<|
 .nil) [3,7,8,9])))))))
 (.seq
 (.reg (oq 18 (.mv (.s 3))<|
 oq 19 (.bin .add (.k (.int .i64 1)) (.s 18))<|
 oq 2 (.mv (.s 19))<|
 .nil) [2])
 .ret))))
def Jo:PFn:=⟨[.tmp 2],Q0,false⟩
def kV:Fn:=⟨1,[.tmp 2],false,false,zm Q0⟩
def zd3:PC:=
 (.seq
 (.reg (.box 8 1 (.s 0)<|
 oq 2 (.mv (.k (.bool false)))<|
 .nil) [1])
 (.seq
 (.reg (oq 3 (.fad 7 (.s 1))<|
 oq 4 (.load false 1 (.s 3))<|
 oq 5 (.len (.s 4))<|
 oq 6 (.bin .leq (.s 5) (.k (.int .i64 300)))<|
 oq 7 (.mv (.s 6))<|
 .grp 7 true (oq 8 (.fad 7 (.s 1))<|
 oq 9 (.load false 1 (.s 8))<|
 oq 10 (.call yy [.s 9,(.k (.fn vy []))])<|
 oq 11 (.un .not (.s 10))<|
 .nil) 12 (.s 11) (.k (.bool false))<|
 oq 2 (.mv (.s 12))<|
 .nil) [2])
 .ret))
def zeW:PFn:=⟨[.tmp 2],zd3,false⟩
def Vb:Fn:=⟨1,[.tmp 2],false,false,zm zd3⟩
def Ym:PC:=
 (.seq
 (.reg (oq 4 (.mv (.k (.bool false)))<|
 .nil) [0,1])
 (.seq
 (.seq
 (.reg (oq 6 (.mv (.s 0))<|
 oq 7 (.len (.s 6))<|
 oq 8 (.mv (.s 1))<|
 oq 9 (.len (.s 8))<|
 oq 10 (.bin .neq (.s 7) (.s 9))<|
 .nil) [0,1,10])
 (.cond (.s 10)
 (.seq
 (.reg (oq 4 (.mv (.k (.bool false)))<|
 .nil) [4])
 .ret)
 .skip))
 (.seq
 (.seq
 (.reg (oq 5 (.mv (.k (.int .i64 0)))<|
 .nil) [0,1,5])
 (.blk 0
 (.loop ⟨[(0,.same),(1,.same),(5,.v)],[]⟩ [(.ext 0,⟨[],[]⟩),(.ret,⟨[(4,.v)],[]⟩)]
 (.seq
 (.seq
 (.reg (oq 11 (.mv (.s 5))<|
 oq 12 (.mv (.s 0))<|
 oq 13 (.len (.s 12))<|
 oq 14 (.bin .lss (.s 11) (.s 13))<|
 .nil) [0,1,5,14])
 (.cond (.s 14)
 .skip
 (.exit 0)))
 (.seq
 (.blk 1
 (.seq
 (.drw (.nil)
 (oq 17 (.mv (.s 0))<|
 oq 18 (.mv (.s 5))<|
 oq 19 (.iad 1 (.s 17) (.s 18))<|
 oq 20 (.load false 1 (.s 19))<|
 oq 21 (.mv (.s 1))<|
 oq 22 (.mv (.s 5))<|
 oq 23 (.iad 1 (.s 21) (.s 22))<|
 oq 24 (.load false 1 (.s 23))<|
 .nil)
 (oq 25 (.bin .neq (.s 20) (.s 24))<|
 .nil) [0,1,5,25])
 (.cond (.s 25)
 (.seq
 (.reg (oq 4 (.mv (.k (.bool false)))<|
 .nil) [4])
 .ret)
 .skip)))
 (.reg (oq 15 (.mv (.s 5))<|
 oq 16 (.bin .add (.s 15) (.k (.int .i64 1)))<|
 oq 5 (.mv (.s 16))<|
 .nil) [0,1,5]))))))
 (.seq
 (.reg (oq 4 (.mv (.k (.bool true)))<|
 .nil) [4])
 .ret))))
def ZU:PFn:=⟨[.tmp 4],Ym,false⟩
def qd:Fn:=⟨2,[.tmp 4],false,false,zm Ym⟩
def K3:PC:=
 (.seq
 (.reg (oq 2 (.mv (.k (.sl .full 0 [])))<|
 oq 3 (.mv (.k (.str [])))<|
 .nil) [0])
 (.seq
 (.drw (.nil)
 (oq 4 (.mv (.s 0))<|
 oq 5 (.mv (.s 0))<|
 oq 6 (.len (.s 5))<|
 oq 7 (.bin .sub (.s 6) (.k (.int .i64 1)))<|
 oq 8 (.slc 1 (.s 4) none (some (.s 7)) none)<|
 oq 9 (.mv (.s 0))<|
 oq 10 (.mv (.s 0))<|
 oq 11 (.len (.s 10))<|
 oq 12 (.bin .sub (.s 11) (.k (.int .i64 1)))<|
 oq 13 (.iad 1 (.s 9) (.s 12))<|
 oq 14 (.load false 1 (.s 13))<|
 oq 2 (.mv (.s 8))<|
 .nil)
 (oq 3 (.mv (.s 14))<|
 .nil) [2,3])
 .ret))
def zad:PFn:=⟨[.tmp 2,.tmp 3],K3,false⟩
def Yh:Fn:=⟨1,[.tmp 2,.tmp 3],false,false,zm K3⟩
def zbB:PC:=
 (.seq
 (.reg (.box 8 3 (.s 0)<|
 .box 1 4 (.s 1)<|
 .box 8 5 (.s 2)<|
 oq 6 (.alloc zt8)<|
 .nil) [3,4,5,6])
 (.seq
 (.reg (oq 14 (.load true 8 (.s 3))<|
 oq 15 (.call vh [.s 14])<|
 oq 13 (.mv (.s 15))<|
 oq 16 (.ext (.s 13) 0)<|
 oq 17 (.ext (.s 13) 1)<|
 oq 7 (.mv (.s 16))<|
 oq 8 (.mv (.s 17))<|
 .nil) [4,5,6,7,8])
 (.seq
 (.drw (oq 18 (.mv (.s 7))<|
 oq 19 (.len (.s 18))<|
 oq 21 (.mv (.s 8))<|
 oq 22 (.len (.s 21))<|
 oq 20 (.mks [(.str [])] 16 (.s 19) (.s 19))<|
 oq 23 (.mks zt8 120 (.s 22) (.s 22))<|
 .nil)
 (oq 9 (.mv (.s 20))<|
 .nil)
 (oq 10 (.mv (.s 23))<|
 .nil) [4,5,6,7,8,9,10])
 (.seq
 (.reg (oq 24 (.mv (.s 9))<|
 oq 25 (.mv (.s 7))<|
 oq 26 (.cpy 1 (.s 24) (.s 25))<|
 .nil) [4,5,6,8,9,10])
 (.seq
 (.reg (oq 27 (.mv (.s 10))<|
 oq 28 (.mv (.s 8))<|
 oq 29 (.cpy 8 (.s 27) (.s 28))<|
 .nil) [4,5,6,9,10])
 (.seq
 (.seq
 (.reg (oq 30 (.mv (.s 9))<|
 oq 31 (.load false 1 (.s 4))<|
 oq 32 (.call ye [.s 30,.s 31])<|
 oq 11 (.mv (.s 32))<|
 .nil) [4,5,6,9,10,11])
 (.seq
 (.reg (oq 33 (.mv (.s 11))<|
 oq 34 (.bin .geq (.s 33) (.k (.int .i64 0)))<|
 .nil) [4,5,6,9,10,11,34])
 (.cond (.s 34)
 (.seq
 (.reg (oq 35 (.mv (.s 10))<|
 oq 36 (.mv (.s 11))<|
 oq 37 (.load true 8 (.s 5))<|
 oq 38 (.iad 8 (.s 35) (.s 36))<|
 oz (.store 8 (.s 38) (.s 37))<|
 .nil) [6,9,10])
 (.seq
 (.reg (oq 39 (.mv (.s 9))<|
 oq 40 (.mv (.s 10))<|
 oq 41 (.build zt8 [(0,1,(.k (.int .i64 7))),(6,1,(.s 39)),(7,1,(.s 40))])<|
 oz (.store 8 (.s 6) (.s 41))<|
 .nil) [6])
 .ret))
 .skip)))
 (.seq
 (.reg (oq 42 (.mv (.s 9))<|
 oq 43 (.mkf xI [.s 4])<|
 oq 44 (.call zw [.s 42,.s 43])<|
 oq 12 (.mv (.s 44))<|
 .nil) [4,5,6,9,10,12])
 (.seq
 (.cut ⟨[(4,.same),(5,.same),(6,.same),(9,.same),(10,.same),(12,.v)],[.same,.same,.same,.same,.same,.same]⟩ [(.nrm,⟨[(4,.same),(5,.same),(6,.same),(9,.same),(10,.same),(12,.v)],[.same,.same,.same,.same,.same,.same]⟩)]
 (.seq
 (.reg (oq 45 (.mv (.s 12))<|
 oq 46 (.bin .lss (.s 45) (.k (.int .i64 0)))<|
 .nil) [4,5,6,9,10,12,46])
 (.cond (.s 46)
 (.reg (oq 47 (.mv (.s 9))<|
 oq 48 (.len (.s 47))<|
 oq 12 (.mv (.s 48))<|
 .nil) [4,5,6,9,10,12])
 .skip)))
 (.seq
 (.drw (.nil)
 (oq 49 (.mv (.s 9))<|
 oq 50 (.mv (.s 12))<|
 oq 51 (.load false 1 (.s 4))<|
 oq 52 (.lit 1 [(.str [])] [(0,1,(.s 51))])<|
 oq 53 (.call xx [.s 49,.s 50,.s 52])<|
 oq 54 (.mv (.s 10))<|
 oq 55 (.mv (.s 12))<|
 oq 56 (.load true 8 (.s 5))<|
 oq 57 (.lit 1 zt8 [(0,8,(.s 56))])<|
 .nil)
 (oq 58 (.call ww [.s 54,.s 55,.s 57])<|
 oq 59 (.build zt8 [(0,1,(.k (.int .i64 7))),(6,1,(.s 53)),(7,1,(.s 58))])<|
 oz (.store 8 (.s 6) (.s 59))<|
 .nil) [6])
 .ret)))))))))
def zbA:PFn:=⟨[.cell 6 true 8],zbB,false⟩
def Xr:Fn:=⟨3,[.cell 6 true 8],false,false,zm zbB⟩
def X5:PC:=
 (.seq
 (.reg (oq 4 (.mv (.k (.int .i64 0)))<|
 oq 5 (.mv (.k (.bool false)))<|
 .nil) [0,1])
 (.seq
 (.seq
 (.reg (oq 8 (.mv (.s 0))<|
 oq 9 (.bin .eql (.s 8) (.k (.str [])))<|
 oq 10 (.mv (.s 9))<|
 .grp 10 false (oq 11 (.mv (.s 0))<|
 oq 12 (.lns (.s 11))<|
 oq 13 (.bin .gtr (.s 12) (.k (.int .i64 4)))<|
 .nil) 14 (.s 13) (.k (.bool true))<|
 oq 15 (.mv (.s 14))<|
 .grp 15 false (oq 16 (.mv (.s 0))<|
 oq 17 (.ixs (.s 16) (.k (.int .i64 0)))<|
 oq 18 (.bin .eql (.s 17) (.k (.int .u8 48)))<|
 oq 19 (.mv (.s 18))<|
 .grp 19 true (oq 20 (.mv (.s 0))<|
 oq 21 (.lns (.s 20))<|
 oq 22 (.bin .gtr (.s 21) (.k (.int .i64 1)))<|
 .nil) 23 (.s 22) (.k (.bool false))<|
 .nil) 24 (.s 23) (.k (.bool true))<|
 .nil) [0,1,24])
 (.cond (.s 24)
 (.seq
 (.reg (oq 4 (.mv (.k (.int .i64 0)))<|
 oq 5 (.mv (.k (.bool false)))<|
 .nil) [4,5])
 .ret)
 .skip))
 (.seq
 (.reg (oq 6 (.mv (.k (.int .i64 0)))<|
 .nil) [0,1,6])
 (.seq
 (.seq
 (.reg (oq 25 (.mv (.s 0))<|
 oq 26 (.lns (.s 25))<|
 oq 27 (.mv (.k (.int .i64 0)))<|
 .nil) [0,1,6,26,27])
 (.blk 0
 (.loop ⟨[(0,.same),(1,.same),(6,.v),(26,.same),(27,.v)],[]⟩ [(.ext 0,⟨[(1,.same),(6,.v)],[]⟩),(.ret,⟨[(4,.v),(5,.v)],[]⟩)]
 (.seq
 (.reg (oq 28 (.bin .lss (.s 27) (.s 26))<|
 .nil) [0,1,6,26,27,28])
 (.seq
 (.cond (.s 28)
 .skip
 (.exit 0))
 (.seq
 (.blk 1
 (.seq
 (.reg (oq 29 (.mv (.s 27))<|
 oq 7 (.mv (.s 29))<|
 .nil) [0,1,6,7,26,27])
 (.seq
 (.seq
 (.reg (oq 30 (.mv (.s 0))<|
 oq 31 (.mv (.s 7))<|
 oq 32 (.ixs (.s 30) (.s 31))<|
 oq 33 (.bin .lss (.s 32) (.k (.int .u8 48)))<|
 oq 34 (.mv (.s 33))<|
 .grp 34 false (oq 35 (.mv (.s 0))<|
 oq 36 (.mv (.s 7))<|
 oq 37 (.ixs (.s 35) (.s 36))<|
 oq 38 (.bin .gtr (.s 37) (.k (.int .u8 57)))<|
 .nil) 39 (.s 38) (.k (.bool true))<|
 .nil) [0,1,6,7,26,27,39])
 (.cond (.s 39)
 (.seq
 (.reg (oq 4 (.mv (.k (.int .i64 0)))<|
 oq 5 (.mv (.k (.bool false)))<|
 .nil) [4,5])
 .ret)
 .skip))
 (.reg (oq 40 (.mv (.s 6))<|
 oq 41 (.bin .mul (.k (.int .i64 10)) (.s 40))<|
 oq 42 (.mv (.s 0))<|
 oq 43 (.mv (.s 7))<|
 oq 44 (.ixs (.s 42) (.s 43))<|
 oq 45 (.bin .sub (.s 44) (.k (.int .u8 48)))<|
 oq 46 (.cvi .i64 (.s 45))<|
 oq 47 (.bin .add (.s 41) (.s 46))<|
 oq 6 (.mv (.s 47))<|
 .nil) [0,1,6,26,27]))))
 (.reg (oq 48 (.bin .add (.s 27) (.k (.int .i64 1)))<|
 oq 27 (.mv (.s 48))<|
 .nil) [0,1,6,26,27])))))))
 (.seq
 (.seq
 (.reg (oq 49 (.mv (.s 6))<|
 oq 50 (.mv (.s 1))<|
 oq 51 (.bin .gtr (.s 49) (.s 50))<|
 .nil) [6,51])
 (.cond (.s 51)
 (.seq
 (.reg (oq 4 (.mv (.k (.int .i64 0)))<|
 oq 5 (.mv (.k (.bool false)))<|
 .nil) [4,5])
 .ret)
 .skip))
 (.seq
 (.reg (oq 52 (.mv (.s 6))<|
 oq 4 (.mv (.s 52))<|
 oq 5 (.mv (.k (.bool true)))<|
 .nil) [4,5])
 .ret))))))
def X7:PFn:=⟨[.tmp 4,.tmp 5],X5,false⟩
def qR:Fn:=⟨2,[.tmp 4,.tmp 5],false,false,zm X5⟩
def Zp:PC:=
 (.seq
 (.reg (oq 2 (.mv (.k (.sl .full 0 [])))<|
 .nil) [0])
 (.seq
 (.reg (oq 3 (.mv (.k (.int .i64 0)))<|
 .nil) [0,3])
 (.seq
 (.seq
 (.reg (oq 9 (.mv (.s 0))<|
 oq 10 (.len (.s 9))<|
 oq 11 (.mv (.k (.int .i64 0)))<|
 .nil) [0,3,9,10,11])
 (.blk 0
 (.loop ⟨[(0,.same),(3,.v),(9,.same),(10,.same),(11,.v)],[]⟩ [(.ext 0,⟨[(0,.same),(3,.v)],[]⟩),(.ext 1000000,⟨[(1000000,.v)],[]⟩),(.ext 1000002,⟨[],[]⟩)]
 (.seq
 (.reg (oq 12 (.bin .lss (.s 11) (.s 10))<|
 .nil) [0,3,9,10,11,12])
 (.seq
 (.cond (.s 12)
 .skip
 (.exit 0))
 (.seq
 (.blk 1
 (.seq
 (.reg (oq 13 (.iad 1 (.s 9) (.s 11))<|
 oq 14 (.load false 1 (.s 13))<|
 oq 5 (.mv (.s 14))<|
 .nil) [0,3,5,9,10,11])
 (.seq
 (.reg (oq 15 (.mv (.s 3))<|
 oq 16 (.mv (.s 5))<|
 oq 17 (.len (.s 16))<|
 oq 18 (.bin .add (.s 15) (.s 17))<|
 oq 3 (.mv (.s 18))<|
 .nil) [0,3,9,10,11])
 (.seq
 (.reg (oq 19 (.mv (.s 3))<|
 oq 20 (.bin .lss (.s 19) (.k (.int .i64 0)))<|
 .nil) [0,3,9,10,11,20])
 (.cond (.s 20)
 (.seq
 (.reg (oq 21 (.ifc 9 (.k (.str [108,101,110,32,111,117,116,32,111,102,32,114,97,110,103,101])))<|
 oq 1000000 (.mv (.s 21))<|
 oq 1000001 (.inil true (.s 1000000))<|
 .nil) [1000000,1000001])
 (.cond (.s 1000001)
 (.exit 1000000)
 (.exit 1000002)))
 .skip)))))
 (.reg (oq 22 (.bin .add (.s 11) (.k (.int .i64 1)))<|
 oq 11 (.mv (.s 22))<|
 .nil) [0,3,9,10,11])))))))
 (.seq
 (.reg (oq 23 (.mv (.s 3))<|
 oq 24 (.call wq [(.k (.sl .full 0 [])),.s 23])<|
 oq 6 (.mv (.s 24))<|
 .nil) [0,6])
 (.seq
 (.seq
 (.reg (oq 25 (.mv (.s 0))<|
 oq 26 (.len (.s 25))<|
 oq 27 (.mv (.k (.int .i64 0)))<|
 .nil) [6,25,26,27])
 (.blk 2
 (.loop ⟨[(6,(.own 8)),(25,.same),(26,.same),(27,.v)],[]⟩ [(.ext 2,⟨[(6,(.own 8))],[]⟩)]
 (.seq
 (.reg (oq 28 (.bin .lss (.s 27) (.s 26))<|
 .nil) [6,25,26,27,28])
 (.seq
 (.cond (.s 28)
 .skip
 (.exit 2))
 (.seq
 (.blk 3
 (.seq
 (.reg (oq 29 (.iad 1 (.s 25) (.s 27))<|
 oq 30 (.load false 1 (.s 29))<|
 oq 8 (.mv (.s 30))<|
 .nil) [6,8,25,26,27])
 (.reg (oq 31 (.mv (.s 6))<|
 oq 32 (.mv (.s 8))<|
 oq 33 (.app 8 120 (.s 31) (.s 32))<|
 oq 6 (.mv (.s 33))<|
 .nil) [6,25,26,27])))
 (.reg (oq 34 (.bin .add (.s 27) (.k (.int .i64 1)))<|
 oq 27 (.mv (.s 34))<|
 .nil) [6,25,26,27])))))))
 (.seq
 (.reg (oq 35 (.mv (.s 6))<|
 oq 2 (.mv (.s 35))<|
 .nil) [2])
 .ret))))))
def Zu:PFn:=⟨[.tmp 2],Zp,false⟩
def Qh:C:=
 (.seq
 (.reg [⟨some 2,.mv (.k (.sl .full 0 [])),none⟩] [0])
 (.seq
 (.reg [⟨some 3,.mv (.k (.int .i64 0)),none⟩] [0,3])
 (.seq
 (.seq
 (.reg [⟨some 9,.mv (.s 0),none⟩,⟨some 10,.len (.s 9),none⟩,⟨some 11,.mv (.k (.int .i64 0)),none⟩] [0,3,9,10,11])
 (.blk 0
 (.loop
 (.seq
 (.reg [⟨some 12,.bin .lss (.s 11) (.s 10),none⟩] [0,3,9,10,11,12])
 (.seq
 (.cond (.s 12)
 .skip
 (.exit 0))
 (.seq
 (.blk 1
 (.seq
 (.reg [⟨some 13,.iad 1 (.s 9) (.s 11),none⟩,⟨some 14,.load false 1 (.s 13),none⟩,⟨some 5,.mv (.s 14),none⟩] [0,3,5,9,10,11])
 (.seq
 (.reg [⟨some 15,.mv (.s 3),none⟩,⟨some 16,.mv (.s 5),none⟩,⟨some 17,.len (.s 16),none⟩,⟨some 18,.bin .add (.s 15) (.s 17),none⟩,⟨some 3,.mv (.s 18),none⟩] [0,3,9,10,11])
 (.seq
 (.reg [⟨some 19,.mv (.s 3),none⟩,⟨some 20,.bin .lss (.s 19) (.k (.int .i64 0)),none⟩] [0,3,9,10,11,20])
 (.cond (.s 20)
 (.reg [⟨some 21,.ifc 9 (.k (.str [108,101,110,32,111,117,116,32,111,102,32,114,97,110,103,101])),none⟩,⟨none,.pan (.s 21),none⟩] [0,3,9,10,11])
 .skip)))))
 (.reg [⟨some 22,.bin .add (.s 11) (.k (.int .i64 1)),none⟩,⟨some 11,.mv (.s 22),none⟩] [0,3,9,10,11])))))))
 (.seq
 (.reg [⟨some 23,.mv (.s 3),none⟩,⟨some 24,.call wq [(.k (.sl .full 0 [])),.s 23],none⟩,⟨some 6,.mv (.s 24),none⟩] [0,6])
 (.seq
 (.seq
 (.reg [⟨some 25,.mv (.s 0),none⟩,⟨some 26,.len (.s 25),none⟩,⟨some 27,.mv (.k (.int .i64 0)),none⟩] [6,25,26,27])
 (.blk 2
 (.loop
 (.seq
 (.reg [⟨some 28,.bin .lss (.s 27) (.s 26),none⟩] [6,25,26,27,28])
 (.seq
 (.cond (.s 28)
 .skip
 (.exit 2))
 (.seq
 (.blk 3
 (.seq
 (.reg [⟨some 29,.iad 1 (.s 25) (.s 27),none⟩,⟨some 30,.load false 1 (.s 29),none⟩,⟨some 8,.mv (.s 30),none⟩] [6,8,25,26,27])
 (.reg [⟨some 31,.mv (.s 6),none⟩,⟨some 32,.mv (.s 8),none⟩,⟨some 33,.app 8 120 (.s 31) (.s 32),none⟩,⟨some 6,.mv (.s 33),none⟩] [6,25,26,27])))
 (.reg [⟨some 34,.bin .add (.s 27) (.k (.int .i64 1)),none⟩,⟨some 27,.mv (.s 34),none⟩] [6,25,26,27])))))))
 (.seq
 (.reg [⟨some 35,.mv (.s 6),none⟩,⟨some 2,.mv (.s 35),none⟩] [2])
 .ret))))))
def qZ:Fn:=⟨1,[.tmp 2],false,false,Qh⟩
def Qb:Fn:=⟨1,[.tmp 2],false,false,zm Zp⟩
def JR:PC:=
 (.seq
 (.reg (.box 8 2 (.s 0)<|
 oq 4 (.alloc zt8)<|
 .nil) [1,2,4])
 (.seq
 (.reg (oq 9 (.load true 8 (.s 2))<|
 oq 10 (.call vh [.s 9])<|
 oq 8 (.mv (.s 10))<|
 oq 11 (.ext (.s 8) 0)<|
 oq 12 (.ext (.s 8) 1)<|
 oq 5 (.mv (.s 11))<|
 oq 6 (.mv (.s 12))<|
 .nil) [1,2,4,5,6])
 (.seq
 (.reg (oq 13 (.mv (.s 5))<|
 oq 14 (.mv (.s 1))<|
 oq 15 (.call ye [.s 13,.s 14])<|
 oq 7 (.mv (.s 15))<|
 .nil) [2,4,5,6,7])
 (.seq
 (.seq
 (.reg (oq 16 (.mv (.s 7))<|
 oq 17 (.bin .lss (.s 16) (.k (.int .i64 0)))<|
 .nil) [2,4,5,6,7,17])
 (.cond (.s 17)
 (.seq
 (.reg (oq 18 (.load true 8 (.s 2))<|
 oz (.store 8 (.s 4) (.s 18))<|
 .nil) [4])
 .ret)
 .skip))
 (.seq
 (.drw (.nil)
 (oq 19 (.mv (.s 5))<|
 oq 20 (.mv (.s 7))<|
 oq 21 (.slc 1 (.s 19) none (some (.s 20)) none)<|
 oq 22 (.mv (.s 5))<|
 oq 23 (.mv (.s 7))<|
 oq 24 (.bin .add (.s 23) (.k (.int .i64 1)))<|
 oq 25 (.slc 1 (.s 22) (some (.s 24)) none none)<|
 oq 26 (.lit 2 [(.sl .full 0 [])] [(0,1,(.s 21)),(1,1,(.s 25))])<|
 oq 27 (.call wg [.s 26])<|
 oq 28 (.mv (.s 6))<|
 oq 29 (.mv (.s 7))<|
 oq 30 (.slc 8 (.s 28) none (some (.s 29)) none)<|
 oq 31 (.mv (.s 6))<|
 oq 32 (.mv (.s 7))<|
 oq 33 (.bin .add (.s 32) (.k (.int .i64 1)))<|
 oq 34 (.slc 8 (.s 31) (some (.s 33)) none none)<|
 oq 35 (.lit 2 [(.sl .full 0 [])] [(0,1,(.s 30)),(1,1,(.s 34))])<|
 .nil)
 (oq 36 (.call yq [.s 35])<|
 oq 37 (.build zt8 [(0,1,(.k (.int .i64 7))),(6,1,(.s 27)),(7,1,(.s 36))])<|
 oz (.store 8 (.s 4) (.s 37))<|
 .nil) [4])
 .ret)))))
def zfH:PFn:=⟨[.cell 4 true 8],JR,false⟩
def kN:Fn:=⟨2,[.cell 4 true 8],false,false,zm JR⟩
def VW:PC:=
 (.seq
 (.reg (.box 8 3 (.s 0)<|
 .box 8 5 (.s 2)<|
 oq 6 (.alloc zt8)<|
 oq 7 (.mv (.k (.bool false)))<|
 .nil) [1,3,5,6])
 (.seq
 (.seq
 (.reg (oq 13 (.mv (.s 1))<|
 oq 14 (.len (.s 13))<|
 oq 15 (.bin .eql (.s 14) (.k (.int .i64 0)))<|
 .nil) [1,3,5,6,15])
 (.cond (.s 15)
 (.seq
 (.reg (oq 16 (.load true 8 (.s 5))<|
 oz (.store 8 (.s 6) (.s 16))<|
 oq 7 (.mv (.k (.bool true)))<|
 .nil) [6,7])
 .ret)
 .skip))
 (.seq
 (.drw (oq 8 (.alloc zt8)<|
 .nil)
 (oq 18 (.load true 8 (.s 3))<|
 oq 19 (.mv (.s 1))<|
 oq 20 (.iad 1 (.s 19) (.k (.int .i64 0)))<|
 oq 21 (.load false 1 (.s 20))<|
 oq 22 (.call xu [.s 18,.s 21])<|
 oq 17 (.mv (.s 22))<|
 oq 23 (.ext (.s 17) 0)<|
 oq 24 (.ext (.s 17) 1)<|
 .nil)
 (oz (.store 8 (.s 8) (.s 23))<|
 oq 9 (.mv (.s 24))<|
 .nil) [1,3,5,6,8,9])
 (.seq
 (.cut ⟨[(1,.same),(3,.same),(5,.same),(6,.same),(8,.same),(9,.v)],[.same,.same,.same,(.box 8)]⟩ [(.nrm,⟨[(1,.same),(3,.same),(6,.same),(8,.same),(9,.v)],[.same,.same,.same,(.box 8)]⟩)]
 (.seq
 (.reg (oq 25 (.mv (.s 9))<|
 .nil) [1,3,5,6,8,9,25])
 (.cond (.s 25)
 (.drw (.nil)
 (oq 27 (.load true 8 (.s 8))<|
 oq 28 (.mv (.s 1))<|
 oq 29 (.slc 1 (.s 28) (some (.k (.int .i64 1))) none none)<|
 oq 30 (.load true 8 (.s 5))<|
 oq 31 (.call xn [.s 27,.s 29,.s 30])<|
 oq 26 (.mv (.s 31))<|
 oq 32 (.ext (.s 26) 0)<|
 oq 33 (.ext (.s 26) 1)<|
 .nil)
 (oz (.store 8 (.s 8) (.s 32))<|
 oq 9 (.mv (.s 33))<|
 .nil) [1,3,6,8,9])
 .skip)))
 (.seq
 (.blk 0
 (.seq
 (.reg (oq 35 (.mv (.s 9))<|
 oq 36 (.un .not (.s 35))<|
 oq 34 (.mv (.s 36))<|
 .nil) [1,3,6,8,34])
 (.cond (.s 34)
 (.seq
 (.reg (oq 37 (.build zt8 [])<|
 oz (.store 8 (.s 6) (.s 37))<|
 oq 7 (.mv (.k (.bool false)))<|
 .nil) [6,7])
 .ret)
 (.seq
 (.reg (oq 39 (.fad 0 (.s 3))<|
 oq 40 (.load false 1 (.s 39))<|
 oq 41 (.bin .eql (.s 40) (.k (.int .i64 7)))<|
 oq 38 (.mv (.s 41))<|
 .nil) [1,3,6,8,38])
 (.cond (.s 38)
 (.seq
 (.drw (.nil)
 (oq 42 (.load true 8 (.s 3))<|
 oq 43 (.mv (.s 1))<|
 oq 44 (.iad 1 (.s 43) (.k (.int .i64 0)))<|
 oq 45 (.load false 1 (.s 44))<|
 oq 46 (.load true 8 (.s 8))<|
 .nil)
 (oq 47 (.call ve [.s 42,.s 45,.s 46])<|
 oz (.store 8 (.s 6) (.s 47))<|
 oq 7 (.mv (.k (.bool true)))<|
 .nil) [6,7])
 .ret)
 .skip)))))
 (.seq
 (.drw (.nil)
 (oq 49 (.mv (.s 1))<|
 oq 50 (.iad 1 (.s 49) (.k (.int .i64 0)))<|
 oq 51 (.load false 1 (.s 50))<|
 oq 52 (.fad 7 (.s 3))<|
 oq 53 (.load false 1 (.s 52))<|
 oq 54 (.len (.s 53))<|
 oq 55 (.bin .sub (.s 54) (.k (.int .i64 1)))<|
 oq 56 (.call yp [.s 51,.s 55])<|
 oq 48 (.mv (.s 56))<|
 oq 57 (.ext (.s 48) 0)<|
 oq 58 (.ext (.s 48) 1)<|
 oq 10 (.mv (.s 57))<|
 .nil)
 (oq 11 (.mv (.s 58))<|
 .nil) [3,6,8,10])
 (.seq
 (.reg (oq 59 (.fad 7 (.s 3))<|
 oq 60 (.load false 1 (.s 59))<|
 oq 61 (.len (.s 60))<|
 oq 62 (.mks zt8 120 (.s 61) (.s 61))<|
 oq 12 (.mv (.s 62))<|
 .nil) [3,6,8,10,12])
 (.seq
 (.reg (oq 63 (.mv (.s 12))<|
 oq 64 (.fad 7 (.s 3))<|
 oq 65 (.load false 1 (.s 64))<|
 oq 66 (.cpy 8 (.s 63) (.s 65))<|
 .nil) [3,6,8,10,12])
 (.seq
 (.reg (oq 67 (.mv (.s 12))<|
 oq 68 (.mv (.s 10))<|
 oq 69 (.load true 8 (.s 8))<|
 oq 70 (.iad 8 (.s 67) (.s 68))<|
 oz (.store 8 (.s 70) (.s 69))<|
 .nil) [3,6,12])
 (.seq
 (.reg (oq 71 (.mv (.s 12))<|
 oq 72 (.fad 7 (.s 3))<|
 oz (.store 1 (.s 72) (.s 71))<|
 .nil) [3,6])
 (.seq
 (.reg (oq 73 (.load true 8 (.s 3))<|
 oz (.store 8 (.s 6) (.s 73))<|
 oq 7 (.mv (.k (.bool true)))<|
 .nil) [6,7])
 .ret)))))))))))
def V2:PFn:=⟨[.cell 6 true 8,.tmp 7],VW,false⟩
def j7:Fn:=⟨3,[.cell 6 true 8,.tmp 7],false,false,zm VW⟩
def jL:PC:=
 (.seq
 (.reg (oq 4 (.mv (.k (.bool false)))<|
 .nil) [0,1])
 (.seq
 (.seq
 (.reg (oq 6 (.mv (.s 0))<|
 oq 7 (.len (.s 6))<|
 oq 8 (.mv (.s 1))<|
 oq 9 (.len (.s 8))<|
 oq 10 (.bin .neq (.s 7) (.s 9))<|
 .nil) [0,1,10])
 (.cond (.s 10)
 (.seq
 (.reg (oq 4 (.mv (.k (.bool false)))<|
 .nil) [4])
 .ret)
 .skip))
 (.seq
 (.seq
 (.reg (oq 11 (.mv (.s 0))<|
 oq 12 (.len (.s 11))<|
 oq 13 (.mv (.k (.int .i64 0)))<|
 .nil) [0,1,12,13])
 (.blk 0
 (.loop ⟨[(0,.same),(1,.same),(12,.same),(13,.v)],[]⟩ [(.ext 0,⟨[],[]⟩),(.ret,⟨[(4,.v)],[]⟩)]
 (.seq
 (.reg (oq 14 (.bin .lss (.s 13) (.s 12))<|
 .nil) [0,1,12,13,14])
 (.seq
 (.cond (.s 14)
 .skip
 (.exit 0))
 (.seq
 (.blk 1
 (.seq
 (.reg (oq 15 (.mv (.s 13))<|
 oq 5 (.mv (.s 15))<|
 .nil) [0,1,5,12,13])
 (.seq
 (.drw (.nil)
 (oq 16 (.mv (.s 0))<|
 oq 17 (.mv (.s 5))<|
 oq 18 (.iad 1 (.s 16) (.s 17))<|
 oq 19 (.load false 1 (.s 18))<|
 oq 20 (.mv (.s 1))<|
 oq 21 (.mv (.s 5))<|
 oq 22 (.iad 1 (.s 20) (.s 21))<|
 oq 23 (.load false 1 (.s 22))<|
 .nil)
 (oq 24 (.bin .neq (.s 19) (.s 23))<|
 .nil) [0,1,12,13,24])
 (.cond (.s 24)
 (.seq
 (.reg (oq 4 (.mv (.k (.bool false)))<|
 .nil) [4])
 .ret)
 .skip))))
 (.reg (oq 25 (.bin .add (.s 13) (.k (.int .i64 1)))<|
 oq 13 (.mv (.s 25))<|
 .nil) [0,1,12,13])))))))
 (.seq
 (.reg (oq 4 (.mv (.k (.bool true)))<|
 .nil) [4])
 .ret))))
def Wj:PFn:=⟨[.tmp 4],jL,false⟩
def wM:Fn:=⟨2,[.tmp 4],false,false,zm jL⟩
def Y5:PC:=
 (.seq
 (.reg (oq 4 (.mv (.k (.bool false)))<|
 .nil) [0,1])
 (.seq
 (.reg (oq 5 (.mv (.s 0))<|
 oq 6 (.len (.s 5))<|
 oq 7 (.mv (.s 1))<|
 oq 8 (.len (.s 7))<|
 oq 9 (.bin .leq (.s 6) (.s 8))<|
 oq 10 (.mv (.s 9))<|
 .grp 10 true (oq 11 (.mv (.s 0))<|
 oq 12 (.mv (.s 1))<|
 oq 13 (.mv (.s 0))<|
 oq 14 (.len (.s 13))<|
 oq 15 (.slc 1 (.s 12) none (some (.s 14)) none)<|
 oq 16 (.call yN [.s 11,.s 15])<|
 .nil) 17 (.s 16) (.k (.bool false))<|
 oq 4 (.mv (.s 17))<|
 .nil) [4])
 .ret))
def Ko:PFn:=⟨[.tmp 4],Y5,false⟩
def qq:Fn:=⟨2,[.tmp 4],false,false,zm Y5⟩
def VU:PC:=
 (.seq
 (.reg (.box 8 2 (.s 0)<|
 oq 4 (.alloc zt8)<|
 oq 5 (.mv (.k (.bool false)))<|
 .nil) [1,2,4])
 (.seq
 (.seq
 (.reg (oq 10 (.mv (.s 1))<|
 oq 11 (.len (.s 10))<|
 oq 12 (.mv (.k (.int .i64 0)))<|
 .nil) [2,4,10,11,12])
 (.blk 0
 (.loop ⟨[(2,.same),(4,.same),(10,.same),(11,.same),(12,.v)],[(.box 8),(.cells [.v,.v,.v,.v,.v,.v,.v,.v])]⟩ [(.ext 0,⟨[(2,.same),(4,.same)],[(.box 8),(.box 8)]⟩),(.ret,⟨[(4,.same),(5,.v)],[(.box 8),(.cells [.v,.v,.v,.v,.v,.v,.v,.v])]⟩)]
 (.seq
 (.reg (oq 13 (.bin .lss (.s 12) (.s 11))<|
 .nil) [2,4,10,11,12,13])
 (.seq
 (.cond (.s 13)
 .skip
 (.exit 0))
 (.seq
 (.blk 1
 (.seq
 (.reg (oq 14 (.iad 1 (.s 10) (.s 12))<|
 oq 15 (.load false 1 (.s 14))<|
 oq 7 (.mv (.s 15))<|
 .nil) [2,4,7,10,11,12])
 (.seq
 (.reg (oq 17 (.load true 8 (.s 2))<|
 oq 18 (.mv (.s 7))<|
 oq 19 (.call xu [.s 17,.s 18])<|
 oq 16 (.mv (.s 19))<|
 oq 20 (.ext (.s 16) 0)<|
 oq 21 (.ext (.s 16) 1)<|
 oq 8 (.alloc zt8)<|
 oz (.store 8 (.s 8) (.s 20))<|
 oq 9 (.mv (.s 21))<|
 .nil) [2,4,8,9,10,11,12])
 (.seq
 (.seq
 (.reg (oq 22 (.mv (.s 9))<|
 oq 23 (.un .not (.s 22))<|
 .nil) [2,4,8,10,11,12,23])
 (.cond (.s 23)
 (.seq
 (.reg (oq 24 (.build zt8 [])<|
 oz (.store 8 (.s 4) (.s 24))<|
 oq 5 (.mv (.k (.bool false)))<|
 .nil) [4,5])
 .ret)
 .skip))
 (.reg (oq 25 (.load true 8 (.s 8))<|
 oz (.store 8 (.s 2) (.s 25))<|
 .nil) [2,4,10,11,12])))))
 (.reg (oq 26 (.bin .add (.s 12) (.k (.int .i64 1)))<|
 oq 12 (.mv (.s 26))<|
 .nil) [2,4,10,11,12])))))))
 (.seq
 (.reg (oq 27 (.load true 8 (.s 2))<|
 oz (.store 8 (.s 4) (.s 27))<|
 oq 5 (.mv (.k (.bool true)))<|
 .nil) [4,5])
 .ret)))
def V4:PFn:=⟨[.cell 4 true 8,.tmp 5],VU,false⟩
def j6:Fn:=⟨2,[.cell 4 true 8,.tmp 5],false,false,zm VU⟩
def zcS:PC:=
 (.seq
 (.reg (.box 3 2 (.s 0)<|
 .box 3 3 (.s 1)<|
 oq 4 (.mv (.k (.bool false)))<|
 .nil) [2,3])
 (.seq
 (.drw (.nil)
 (oq 5 (.load true 3 (.s 2))<|
 oq 6 (.call WT [.s 5])<|
 oq 7 (.load true 3 (.s 3))<|
 .nil)
 (oq 8 (.call WT [.s 7])<|
 oz (.store 3 (.s 2) (.s 6))<|
 oz (.store 3 (.s 3) (.s 8))<|
 .nil) [2,3])
 (.seq
 (.reg (oq 9 (.fad 0 (.s 2))<|
 oq 10 (.load false 1 (.s 9))<|
 oq 11 (.fad 0 (.s 3))<|
 oq 12 (.load false 1 (.s 11))<|
 oq 13 (.beq false (.s 10) (.s 12))<|
 oq 14 (.mv (.s 13))<|
 .grp 14 true (oq 15 (.fad 2 (.s 2))<|
 oq 16 (.load false 1 (.s 15))<|
 oq 17 (.fad 2 (.s 3))<|
 oq 18 (.load false 1 (.s 17))<|
 oq 19 (.bin .eql (.s 16) (.s 18))<|
 .nil) 20 (.s 19) (.k (.bool false))<|
 oq 21 (.mv (.s 20))<|
 .grp 21 true (oq 22 (.fad 1 (.s 2))<|
 oq 23 (.load false 1 (.s 22))<|
 oq 24 (.fad 1 (.s 3))<|
 oq 25 (.load false 1 (.s 24))<|
 oq 26 (.call wL [.s 23,.s 25])<|
 .nil) 27 (.s 26) (.k (.bool false))<|
 oq 4 (.mv (.s 27))<|
 .nil) [4])
 .ret)))
def zjI:PFn:=⟨[.tmp 4],zcS,false⟩
def XY:Fn:=⟨2,[.tmp 4],false,false,zm zcS⟩
def jN:PC:=
 (.seq
 (.reg (oq 6 (.mv (.k (.bool false)))<|
 .nil) [0,1,2])
 (.seq
 (.seq
 (.reg (oq 10 (.mv (.s 0))<|
 oq 11 (.len (.s 10))<|
 oq 12 (.mv (.s 1))<|
 oq 13 (.len (.s 12))<|
 oq 14 (.bin .neq (.s 11) (.s 13))<|
 .nil) [0,1,2,14])
 (.cond (.s 14)
 (.seq
 (.reg (oq 6 (.mv (.k (.bool false)))<|
 .nil) [6])
 .ret)
 .skip))
 (.seq
 (.seq
 (.reg (oq 15 (.mv (.s 0))<|
 oq 16 (.len (.s 15))<|
 oq 17 (.mv (.k (.int .i64 0)))<|
 .nil) [1,2,15,16,17])
 (.blk 0
 (.loop ⟨[(1,.same),(2,.same),(15,.same),(16,.same),(17,.v)],[]⟩ [(.ext 0,⟨[],[]⟩),(.ret,⟨[(6,.v)],[]⟩)]
 (.seq
 (.reg (oq 18 (.bin .lss (.s 17) (.s 16))<|
 .nil) [1,2,15,16,17,18])
 (.seq
 (.cond (.s 18)
 .skip
 (.exit 0))
 (.seq
 (.blk 1
 (.seq
 (.reg (oq 19 (.mv (.s 17))<|
 oq 20 (.iad 8 (.s 15) (.s 17))<|
 oq 21 (.load true 8 (.s 20))<|
 oq 8 (.alloc zt8)<|
 oq 7 (.mv (.s 19))<|
 oz (.store 8 (.s 8) (.s 21))<|
 .nil) [1,2,7,8,15,16,17])
 (.seq
 (.reg (oq 22 (.mv (.s 1))<|
 oq 23 (.mv (.s 7))<|
 oq 24 (.iad 8 (.s 22) (.s 23))<|
 oq 25 (.load true 8 (.s 24))<|
 oq 9 (.alloc zt8)<|
 oz (.store 8 (.s 9) (.s 25))<|
 .nil) [1,2,8,9,15,16,17])
 (.seq
 (.reg (oq 26 (.mv (.s 2))<|
 oq 27 (.load true 8 (.s 8))<|
 oq 28 (.load true 8 (.s 9))<|
 oq 29 (.callv (.s 26) [.s 27,.s 28])<|
 oq 30 (.un .not (.s 29))<|
 .nil) [1,2,15,16,17,30])
 (.cond (.s 30)
 (.seq
 (.reg (oq 6 (.mv (.k (.bool false)))<|
 .nil) [6])
 .ret)
 .skip)))))
 (.reg (oq 31 (.bin .add (.s 17) (.k (.int .i64 1)))<|
 oq 17 (.mv (.s 31))<|
 .nil) [1,2,15,16,17])))))))
 (.seq
 (.reg (oq 6 (.mv (.k (.bool true)))<|
 .nil) [6])
 .ret))))
def Wg:PFn:=⟨[.tmp 6],jN,false⟩
def wJ:Fn:=⟨3,[.tmp 6],false,false,zm jN⟩
def zbP:PC:=
 (.seq
 (.reg (.box 8 1 (.s 0)<|
 oq 2 (.mv (.k (.bool false)))<|
 .nil) [1])
 (.seq
 (.drw (.nil)
 (oq 8 (.fad 1 (.s 1))<|
 oq 9 (.load false 1 (.s 8))<|
 oq 10 (.un .not (.s 9))<|
 oq 11 (.fad 2 (.s 1))<|
 oq 12 (.fad 0 (.s 11))<|
 oq 13 (.load false 1 (.s 12))<|
 oq 14 (.un .not (.s 13))<|
 oq 15 (.mv (.s 14))<|
 .grp 15 true (oq 16 (.fad 2 (.s 1))<|
 oq 17 (.fad 1 (.s 16))<|
 oq 18 (.load false 1 (.s 17))<|
 oq 19 (.len (.s 18))<|
 oq 20 (.bin .eql (.s 19) (.k (.int .i64 0)))<|
 .nil) 21 (.s 20) (.k (.bool false))<|
 oq 22 (.mv (.s 21))<|
 .grp 22 true (oq 23 (.fad 2 (.s 1))<|
 oq 24 (.fad 2 (.s 23))<|
 oq 25 (.load false 1 (.s 24))<|
 oq 26 (.bin .eql (.s 25) (.k (.int .i64 0)))<|
 .nil) 27 (.s 26) (.k (.bool false))<|
 oq 28 (.fad 5 (.s 1))<|
 oq 29 (.load false 1 (.s 28))<|
 oq 30 (.bin .eql (.s 29) (.k (.str [])))<|
 oq 3 (.mv (.s 10))<|
 oq 4 (.mv (.s 27))<|
 .nil)
 (oq 5 (.mv (.s 30))<|
 .nil) [1,3,4,5])
 (.seq
 (.drw (.nil)
 (oq 31 (.fad 6 (.s 1))<|
 oq 32 (.load false 1 (.s 31))<|
 oq 33 (.len (.s 32))<|
 oq 34 (.bin .eql (.s 33) (.k (.int .i64 0)))<|
 oq 35 (.fad 7 (.s 1))<|
 oq 36 (.load false 1 (.s 35))<|
 oq 37 (.len (.s 36))<|
 oq 38 (.bin .eql (.s 37) (.k (.int .i64 0)))<|
 oq 6 (.mv (.s 34))<|
 .nil)
 (oq 7 (.mv (.s 38))<|
 .nil) [1,3,4,5,6,7])
 (.seq
 (.cut ⟨[(1,.same),(3,.v),(4,.v),(5,.v),(6,.v),(7,.v)],[.same]⟩ [(.nrm,⟨[(3,.v),(4,.v),(5,.v),(6,.v),(7,.v)],[.same]⟩),(.ret,⟨[(2,.v)],[.same]⟩)]
 (.seq
 (.reg (oq 39 (.fad 0 (.s 1))<|
 oq 40 (.load false 1 (.s 39))<|
 .nil) [1,3,4,5,6,7,40])
 (.blk 0
 (.seq
 (.blk 8
 (.seq
 (.cut ⟨[(1,.same),(3,.v),(4,.v),(5,.v),(6,.v),(7,.same),(40,.same)],[.same]⟩ [(.ext 0,⟨[(3,.v),(4,.v),(5,.v),(6,.v),(7,.same)],[.same]⟩),(.ext 8,⟨[],[.same]⟩),(.nrm,⟨[(1,.same),(3,.v),(4,.v),(5,.v),(6,.v)],[.same]⟩)]
 (.blk 7
 (.seq
 (.blk 6
 (.seq
 (.blk 5
 (.seq
 (.blk 4
 (.seq
 (.blk 3
 (.seq
 (.blk 2
 (.seq
 (.blk 1
 (.seq
 (.seq
 (.seq
 (.reg (oq 42 (.bin .eql (.s 40) (.k (.int .i64 1)))<|
 oq 41 (.mv (.s 42))<|
 .nil) [1,3,4,5,6,7,40,41])
 (.cond (.s 41)
 (.exit 1)
 .skip))
 (.seq
 (.seq
 (.reg (oq 44 (.bin .eql (.s 40) (.k (.int .i64 2)))<|
 oq 43 (.mv (.s 44))<|
 .nil) [1,3,4,5,6,7,40,43])
 (.cond (.s 43)
 (.exit 2)
 .skip))
 (.seq
 (.seq
 (.reg (oq 46 (.bin .eql (.s 40) (.k (.int .i64 3)))<|
 oq 45 (.mv (.s 46))<|
 .nil) [1,3,4,5,6,7,40,45])
 (.cond (.s 45)
 (.exit 3)
 .skip))
 (.seq
 (.seq
 (.reg (oq 48 (.bin .eql (.s 40) (.k (.int .i64 4)))<|
 oq 47 (.mv (.s 48))<|
 .nil) [1,3,4,5,6,7,40,47])
 (.cond (.s 47)
 (.exit 4)
 .skip))
 (.seq
 (.seq
 (.reg (oq 50 (.bin .eql (.s 40) (.k (.int .i64 5)))<|
 oq 49 (.mv (.s 50))<|
 .nil) [1,3,4,5,6,7,40,49])
 (.cond (.s 49)
 (.exit 5)
 .skip))
 (.seq
 (.seq
 (.reg (oq 52 (.bin .eql (.s 40) (.k (.int .i64 7)))<|
 oq 51 (.mv (.s 52))<|
 .nil) [1,3,4,5,6,40,51])
 (.cond (.s 51)
 (.exit 6)
 .skip))
 (.seq
 (.reg (oq 54 (.bin .eql (.s 40) (.k (.int .i64 6)))<|
 oq 53 (.mv (.s 54))<|
 .nil) [1,3,4,5,6,53])
 (.cond (.s 53)
 (.exit 7)
 .skip))))))))
 (.exit 8)))
 (.exit 0)))
 (.seq
 (.reg (oq 3 (.mv (.k (.bool true)))<|
 .nil) [3,4,5,6,7])
 (.exit 0))))
 (.seq
 (.reg (oq 55 (.fad 2 (.s 1))<|
 oq 56 (.load true 3 (.s 55))<|
 oq 57 (.call vw [.s 56])<|
 oq 4 (.mv (.s 57))<|
 .nil) [3,4,5,6,7])
 (.exit 0))))
 (.seq
 (.reg (oq 58 (.fad 5 (.s 1))<|
 oq 59 (.load false 1 (.s 58))<|
 oq 60 (.call w6 [.s 59])<|
 oq 5 (.mv (.s 60))<|
 .nil) [3,4,5,6,7])
 (.exit 0))))
 (.seq
 (.reg (oq 61 (.fad 5 (.s 1))<|
 oq 62 (.load false 1 (.s 61))<|
 oq 63 (.lns (.s 62))<|
 oq 64 (.bin .leq (.s 63) (.k (.int .i64 2000)))<|
 oq 5 (.mv (.s 64))<|
 .nil) [3,4,5,6,7])
 (.exit 0))))
 (.reg (oq 65 (.fad 6 (.s 1))<|
 oq 66 (.load false 1 (.s 65))<|
 oq 67 (.call vA [.s 66])<|
 oq 68 (.mv (.s 67))<|
 .grp 68 true (oq 69 (.fad 6 (.s 1))<|
 oq 70 (.load false 1 (.s 69))<|
 oq 71 (.len (.s 70))<|
 oq 72 (.fad 7 (.s 1))<|
 oq 73 (.load false 1 (.s 72))<|
 oq 74 (.len (.s 73))<|
 oq 75 (.bin .eql (.s 71) (.s 74))<|
 .nil) 76 (.s 75) (.k (.bool false))<|
 oq 6 (.mv (.s 76))<|
 .nil) [1,3,4,5,6]))))
 (.seq
 (.reg (oq 77 (.fad 7 (.s 1))<|
 oq 78 (.load false 1 (.s 77))<|
 oq 79 (.len (.s 78))<|
 oq 80 (.bin .leq (.s 79) (.k (.int .i64 300)))<|
 oq 7 (.mv (.s 80))<|
 .nil) [3,4,5,6,7])
 (.exit 0))))
 (.seq
 (.seq
 (.reg (oq 2 (.mv (.k (.bool false)))<|
 .nil) [2])
 .ret)
 (.exit 0))))))
 (.seq
 (.reg (oq 81 (.mv (.s 3))<|
 oq 82 (.mv (.s 81))<|
 .grp 82 true (oq 83 (.mv (.s 4))<|
 .nil) 84 (.s 83) (.k (.bool false))<|
 oq 85 (.mv (.s 84))<|
 .grp 85 true (oq 86 (.mv (.s 5))<|
 .nil) 87 (.s 86) (.k (.bool false))<|
 oq 88 (.mv (.s 87))<|
 .grp 88 true (oq 89 (.mv (.s 6))<|
 .nil) 90 (.s 89) (.k (.bool false))<|
 oq 91 (.mv (.s 90))<|
 .grp 91 true (oq 92 (.mv (.s 7))<|
 .nil) 93 (.s 92) (.k (.bool false))<|
 oq 2 (.mv (.s 93))<|
 .nil) [2])
 .ret)))))
def zdh:PFn:=⟨[.tmp 2],zbP,false⟩
def Xn:Fn:=⟨1,[.tmp 2],false,false,zm zbP⟩
def wQ:PC:=
 (.seq
 (.reg (oq 4 (.mv (.k (.int .i64 0)))<|
 .nil) [0,1])
 (.seq
 (.seq
 (.reg (oq 6 (.mv (.s 0))<|
 oq 7 (.len (.s 6))<|
 oq 8 (.mv (.k (.int .i64 0)))<|
 .nil) [0,1,7,8])
 (.blk 0
 (.loop ⟨[(0,.same),(1,.same),(7,.same),(8,.v)],[]⟩ [(.ext 0,⟨[],[]⟩),(.ret,⟨[(4,.v)],[]⟩)]
 (.seq
 (.reg (oq 9 (.bin .lss (.s 8) (.s 7))<|
 .nil) [0,1,7,8,9])
 (.seq
 (.cond (.s 9)
 .skip
 (.exit 0))
 (.seq
 (.blk 1
 (.seq
 (.reg (oq 10 (.mv (.s 8))<|
 oq 5 (.mv (.s 10))<|
 .nil) [0,1,5,7,8])
 (.seq
 (.reg (oq 11 (.mv (.s 1))<|
 oq 12 (.mv (.s 0))<|
 oq 13 (.mv (.s 5))<|
 oq 14 (.iad 11 (.s 12) (.s 13))<|
 oq 15 (.load true 11 (.s 14))<|
 oq 16 (.callv (.s 11) [.s 15])<|
 .nil) [0,1,5,7,8,16])
 (.cond (.s 16)
 (.seq
 (.reg (oq 17 (.mv (.s 5))<|
 oq 4 (.mv (.s 17))<|
 .nil) [4])
 .ret)
 .skip))))
 (.reg (oq 18 (.bin .add (.s 8) (.k (.int .i64 1)))<|
 oq 8 (.mv (.s 18))<|
 .nil) [0,1,7,8])))))))
 (.seq
 (.reg (oq 4 (.mv (.k (.int .i64 (-1))))<|
 .nil) [4])
 .ret)))
def wP:PFn:=⟨[.tmp 4],wQ,false⟩
def yL:Fn:=⟨2,[.tmp 4],false,false,zm wQ⟩
def zbY:PC:=
 (.seq
 (.reg (.box 8 1 (.s 0)<|
 oq 2 (.mv (.k (.bool false)))<|
 .nil) [1])
 (.seq
 (.reg (oq 3 (.fad 0 (.s 1))<|
 oq 4 (.load false 1 (.s 3))<|
 oq 5 (.bin .eql (.s 4) (.k (.int .i64 0)))<|
 oq 6 (.mv (.s 5))<|
 .grp 6 true (oq 7 (.fad 1 (.s 1))<|
 oq 8 (.load false 1 (.s 7))<|
 oq 9 (.un .not (.s 8))<|
 .nil) 10 (.s 9) (.k (.bool false))<|
 oq 11 (.mv (.s 10))<|
 .grp 11 true (oq 12 (.fad 2 (.s 1))<|
 oq 13 (.fad 0 (.s 12))<|
 oq 14 (.load false 1 (.s 13))<|
 oq 15 (.un .not (.s 14))<|
 .nil) 16 (.s 15) (.k (.bool false))<|
 oq 17 (.mv (.s 16))<|
 .grp 17 true (oq 18 (.fad 2 (.s 1))<|
 oq 19 (.fad 1 (.s 18))<|
 oq 20 (.load false 1 (.s 19))<|
 oq 21 (.len (.s 20))<|
 oq 22 (.bin .eql (.s 21) (.k (.int .i64 0)))<|
 .nil) 23 (.s 22) (.k (.bool false))<|
 oq 24 (.mv (.s 23))<|
 .grp 24 true (oq 25 (.fad 2 (.s 1))<|
 oq 26 (.fad 2 (.s 25))<|
 oq 27 (.load false 1 (.s 26))<|
 oq 28 (.bin .eql (.s 27) (.k (.int .i64 0)))<|
 .nil) 29 (.s 28) (.k (.bool false))<|
 oq 30 (.mv (.s 29))<|
 .grp 30 true (oq 31 (.fad 5 (.s 1))<|
 oq 32 (.load false 1 (.s 31))<|
 oq 33 (.bin .eql (.s 32) (.k (.str [])))<|
 .nil) 34 (.s 33) (.k (.bool false))<|
 oq 35 (.mv (.s 34))<|
 .grp 35 true (oq 36 (.fad 6 (.s 1))<|
 oq 37 (.load false 1 (.s 36))<|
 oq 38 (.len (.s 37))<|
 oq 39 (.bin .eql (.s 38) (.k (.int .i64 0)))<|
 .nil) 40 (.s 39) (.k (.bool false))<|
 oq 41 (.mv (.s 40))<|
 .grp 41 true (oq 42 (.fad 7 (.s 1))<|
 oq 43 (.load false 1 (.s 42))<|
 oq 44 (.len (.s 43))<|
 oq 45 (.bin .eql (.s 44) (.k (.int .i64 0)))<|
 .nil) 46 (.s 45) (.k (.bool false))<|
 oq 2 (.mv (.s 46))<|
 .nil) [2])
 .ret))
def zcf:PFn:=⟨[.tmp 2],zbY,false⟩
def Xq:Fn:=⟨1,[.tmp 2],false,false,zm zbY⟩
def zcN:PC:=
 (.seq
 (.reg (oq 2 (.mv (.k (.bool false)))<|
 .nil) [0])
 (.seq
 (.reg (oq 3 (.mv (.s 0))<|
 oq 4 (.len (.s 3))<|
 oq 5 (.bin .leq (.s 4) (.k (.int .i64 63)))<|
 oq 6 (.mv (.s 5))<|
 .grp 6 true (oq 7 (.mv (.s 0))<|
 oq 8 (.call yf [.s 7,(.k (.fn wi []))])<|
 oq 9 (.un .not (.s 8))<|
 .nil) 10 (.s 9) (.k (.bool false))<|
 oq 2 (.mv (.s 10))<|
 .nil) [2])
 .ret))
def zbz:PFn:=⟨[.tmp 2],zcN,false⟩
def XF:Fn:=⟨1,[.tmp 2],false,false,zm zcN⟩
def qL:PC:=
 (.seq
 (.reg (oq 4 (.mv (.k (.bool false)))<|
 .nil) [0,1])
 (.seq
 (.reg (oq 5 (.mv (.s 0))<|
 oq 6 (.mv (.s 1))<|
 oq 7 (.call yZ [.s 5,.s 6])<|
 oq 8 (.bin .geq (.s 7) (.k (.int .i64 0)))<|
 oq 4 (.mv (.s 8))<|
 .nil) [4])
 .ret))
def qN:PFn:=⟨[.tmp 4],qL,false⟩
def xE:Fn:=⟨2,[.tmp 4],false,false,zm qL⟩
def zaa:PC:=
 (.seq
 (.reg (.box 8 1 (.s 0)<|
 oq 2 (.mv (.k (.bool false)))<|
 .nil) [1])
 (.seq
 (.reg (oq 3 (.load true 8 (.s 1))<|
 oq 4 (.call qp [.s 3])<|
 oq 5 (.un .not (.s 4))<|
 oq 2 (.mv (.s 5))<|
 .nil) [2])
 .ret))
def zaj:PFn:=⟨[.tmp 2],zaa,false⟩
def Yl:Fn:=⟨1,[.tmp 2],false,false,zm zaa⟩
def zc9:PC:=
 (.seq
 (.reg (.box 8 1 (.s 0)<|
 oq 2 (.mv (.k (.sl .full 0 [])))<|
 oq 3 (.mv (.k (.sl .full 0 [])))<|
 .nil) [1])
 (.seq
 (.seq
 (.reg (oq 5 (.fad 0 (.s 1))<|
 oq 6 (.load false 1 (.s 5))<|
 oq 7 (.bin .neq (.s 6) (.k (.int .i64 7)))<|
 .nil) [1,7])
 (.cond (.s 7)
 (.seq
 (.reg (oq 2 (.mv (.k (.sl .full 0 [])))<|
 oq 3 (.mv (.k (.sl .full 0 [])))<|
 .nil) [2,3])
 .ret)
 .skip))
 (.seq
 (.reg (oq 8 (.fad 6 (.s 1))<|
 oq 9 (.load false 1 (.s 8))<|
 oq 10 (.len (.s 9))<|
 oq 11 (.fad 7 (.s 1))<|
 oq 12 (.load false 1 (.s 11))<|
 oq 13 (.len (.s 12))<|
 oq 14 (.min [.s 10,.s 13])<|
 oq 4 (.mv (.s 14))<|
 .nil) [1,4])
 (.seq
 (.drw (.nil)
 (oq 15 (.fad 6 (.s 1))<|
 oq 16 (.load false 1 (.s 15))<|
 oq 17 (.mv (.s 4))<|
 oq 18 (.mv (.s 4))<|
 oq 19 (.slc 1 (.s 16) none (some (.s 17)) (some (.s 18)))<|
 oq 20 (.fad 7 (.s 1))<|
 oq 21 (.load false 1 (.s 20))<|
 oq 22 (.mv (.s 4))<|
 oq 23 (.mv (.s 4))<|
 oq 24 (.slc 8 (.s 21) none (some (.s 22)) (some (.s 23)))<|
 oq 2 (.mv (.s 19))<|
 .nil)
 (oq 3 (.mv (.s 24))<|
 .nil) [2,3])
 .ret))))
def zbe:PFn:=⟨[.tmp 2,.tmp 3],zc9,false⟩
def Xs:Fn:=⟨1,[.tmp 2,.tmp 3],false,false,zm zc9⟩
def jO:PC:=
 (.seq
 (.reg (oq 4 (.mv (.k (.int .i64 0)))<|
 .nil) [0,1])
 (.seq
 (.seq
 (.reg (oq 6 (.mv (.s 0))<|
 oq 7 (.len (.s 6))<|
 oq 8 (.mv (.k (.int .i64 0)))<|
 .nil) [0,1,7,8])
 (.blk 0
 (.loop ⟨[(0,.same),(1,.same),(7,.same),(8,.v)],[]⟩ [(.ext 0,⟨[],[]⟩),(.ret,⟨[(4,.v)],[]⟩)]
 (.seq
 (.reg (oq 9 (.bin .lss (.s 8) (.s 7))<|
 .nil) [0,1,7,8,9])
 (.seq
 (.cond (.s 9)
 .skip
 (.exit 0))
 (.seq
 (.blk 1
 (.seq
 (.reg (oq 10 (.mv (.s 8))<|
 oq 5 (.mv (.s 10))<|
 .nil) [0,1,5,7,8])
 (.seq
 (.reg (oq 11 (.mv (.s 1))<|
 oq 12 (.mv (.s 0))<|
 oq 13 (.mv (.s 5))<|
 oq 14 (.iad 1 (.s 12) (.s 13))<|
 oq 15 (.load false 1 (.s 14))<|
 oq 16 (.bin .eql (.s 11) (.s 15))<|
 .nil) [0,1,5,7,8,16])
 (.cond (.s 16)
 (.seq
 (.reg (oq 17 (.mv (.s 5))<|
 oq 4 (.mv (.s 17))<|
 .nil) [4])
 .ret)
 .skip))))
 (.reg (oq 18 (.bin .add (.s 8) (.k (.int .i64 1)))<|
 oq 8 (.mv (.s 18))<|
 .nil) [0,1,7,8])))))))
 (.seq
 (.reg (oq 4 (.mv (.k (.int .i64 (-1))))<|
 .nil) [4])
 .ret)))
def jH:PFn:=⟨[.tmp 4],jO,false⟩
def wD:Fn:=⟨2,[.tmp 4],false,false,zm jO⟩
def qD:PC:=
 (.seq
 (.reg (oq 4 (.mv (.k (.int .i64 0)))<|
 .nil) [0,1])
 (.seq
 (.seq
 (.reg (oq 6 (.mv (.s 0))<|
 oq 7 (.len (.s 6))<|
 oq 8 (.mv (.k (.int .i64 0)))<|
 .nil) [0,1,7,8])
 (.blk 0
 (.loop ⟨[(0,.same),(1,.same),(7,.same),(8,.v)],[.same]⟩ [(.ext 0,⟨[],[.same]⟩),(.ret,⟨[(4,.v)],[.same]⟩)]
 (.seq
 (.reg (oq 9 (.bin .lss (.s 8) (.s 7))<|
 .nil) [0,1,7,8,9])
 (.seq
 (.cond (.s 9)
 .skip
 (.exit 0))
 (.seq
 (.blk 1
 (.seq
 (.reg (oq 10 (.mv (.s 8))<|
 oq 5 (.mv (.s 10))<|
 .nil) [0,1,5,7,8])
 (.seq
 (.reg (oq 11 (.mv (.s 1))<|
 oq 12 (.mv (.s 0))<|
 oq 13 (.mv (.s 5))<|
 oq 14 (.iad 1 (.s 12) (.s 13))<|
 oq 15 (.load false 1 (.s 14))<|
 oq 16 (.callv (.s 11) [.s 15])<|
 .nil) [0,1,5,7,8,16])
 (.cond (.s 16)
 (.seq
 (.reg (oq 17 (.mv (.s 5))<|
 oq 4 (.mv (.s 17))<|
 .nil) [4])
 .ret)
 .skip))))
 (.reg (oq 18 (.bin .add (.s 8) (.k (.int .i64 1)))<|
 oq 8 (.mv (.s 18))<|
 .nil) [0,1,7,8])))))))
 (.seq
 (.reg (oq 4 (.mv (.k (.int .i64 (-1))))<|
 .nil) [4])
 .ret)))
def qF:PFn:=⟨[.tmp 4],qD,false⟩
def xA:Fn:=⟨2,[.tmp 4],false,false,zm qD⟩
def kU:PC:=
 (.seq
 (.reg (oq 4 (.mv (.k (.int .i64 0)))<|
 .nil) [0,1])
 (.seq
 (.seq
 (.reg (oq 6 (.mv (.s 0))<|
 oq 7 (.len (.s 6))<|
 oq 8 (.mv (.k (.int .i64 0)))<|
 .nil) [0,1,7,8])
 (.blk 0
 (.loop ⟨[(0,.same),(1,.same),(7,.same),(8,.v)],[]⟩ [(.ext 0,⟨[],[]⟩),(.ret,⟨[(4,.v)],[]⟩)]
 (.seq
 (.reg (oq 9 (.bin .lss (.s 8) (.s 7))<|
 .nil) [0,1,7,8,9])
 (.seq
 (.cond (.s 9)
 .skip
 (.exit 0))
 (.seq
 (.blk 1
 (.seq
 (.reg (oq 10 (.mv (.s 8))<|
 oq 5 (.mv (.s 10))<|
 .nil) [0,1,5,7,8])
 (.seq
 (.reg (oq 11 (.mv (.s 1))<|
 oq 12 (.mv (.s 0))<|
 oq 13 (.mv (.s 5))<|
 oq 14 (.iad 1 (.s 12) (.s 13))<|
 oq 15 (.load false 1 (.s 14))<|
 oq 16 (.callv (.s 11) [.s 15])<|
 .nil) [0,1,5,7,8,16])
 (.cond (.s 16)
 (.seq
 (.reg (oq 17 (.mv (.s 5))<|
 oq 4 (.mv (.s 17))<|
 .nil) [4])
 .ret)
 .skip))))
 (.reg (oq 18 (.bin .add (.s 8) (.k (.int .i64 1)))<|
 oq 8 (.mv (.s 18))<|
 .nil) [0,1,7,8])))))))
 (.seq
 (.reg (oq 4 (.mv (.k (.int .i64 (-1))))<|
 .nil) [4])
 .ret)))
def qa:PFn:=⟨[.tmp 4],kU,false⟩
def Jj:PC:=
 (.seq
 (.reg (oq 3 (.mv (.k (.bool false)))<|
 .nil) [0,1])
 (.seq
 (.reg (oq 4 (.mv (.s 0))<|
 oq 5 (.load false 1 (.s 1))<|
 oq 6 (.bin .gtr (.s 4) (.s 5))<|
 oq 3 (.mv (.s 6))<|
 .nil) [3])
 .ret))
def Jp:PFn:=⟨[.tmp 3],Jj,false⟩
def kS:Fn:=⟨1,[.tmp 3],false,false,zm Jj⟩
def jz:PC:=
 (.seq
 (.reg (oq 2 (.mv (.k (.sl .full 0 [])))<|
 .nil) [0])
 (.seq
 (.reg (oq 3 (.mv (.k (.int .i64 0)))<|
 .nil) [0,3])
 (.seq
 (.seq
 (.reg (oq 9 (.mv (.s 0))<|
 oq 10 (.len (.s 9))<|
 oq 11 (.mv (.k (.int .i64 0)))<|
 .nil) [0,3,9,10,11])
 (.blk 0
 (.loop ⟨[(0,.same),(3,.v),(9,.same),(10,.same),(11,.v)],[]⟩ [(.ext 0,⟨[(0,.same),(3,.v)],[]⟩),(.ext 1000000,⟨[(1000000,.v)],[]⟩),(.ext 1000002,⟨[],[]⟩)]
 (.seq
 (.reg (oq 12 (.bin .lss (.s 11) (.s 10))<|
 .nil) [0,3,9,10,11,12])
 (.seq
 (.cond (.s 12)
 .skip
 (.exit 0))
 (.seq
 (.blk 1
 (.seq
 (.reg (oq 13 (.iad 1 (.s 9) (.s 11))<|
 oq 14 (.load false 1 (.s 13))<|
 oq 5 (.mv (.s 14))<|
 .nil) [0,3,5,9,10,11])
 (.seq
 (.reg (oq 15 (.mv (.s 3))<|
 oq 16 (.mv (.s 5))<|
 oq 17 (.len (.s 16))<|
 oq 18 (.bin .add (.s 15) (.s 17))<|
 oq 3 (.mv (.s 18))<|
 .nil) [0,3,9,10,11])
 (.seq
 (.reg (oq 19 (.mv (.s 3))<|
 oq 20 (.bin .lss (.s 19) (.k (.int .i64 0)))<|
 .nil) [0,3,9,10,11,20])
 (.cond (.s 20)
 (.seq
 (.reg (oq 21 (.ifc 9 (.k (.str [108,101,110,32,111,117,116,32,111,102,32,114,97,110,103,101])))<|
 oq 1000000 (.mv (.s 21))<|
 oq 1000001 (.inil true (.s 1000000))<|
 .nil) [1000000,1000001])
 (.cond (.s 1000001)
 (.exit 1000000)
 (.exit 1000002)))
 .skip)))))
 (.reg (oq 22 (.bin .add (.s 11) (.k (.int .i64 1)))<|
 oq 11 (.mv (.s 22))<|
 .nil) [0,3,9,10,11])))))))
 (.seq
 (.reg (oq 23 (.mv (.s 3))<|
 oq 24 (.call kx [(.k (.sl .full 0 [])),.s 23])<|
 oq 6 (.mv (.s 24))<|
 .nil) [0,6])
 (.seq
 (.seq
 (.reg (oq 25 (.mv (.s 0))<|
 oq 26 (.len (.s 25))<|
 oq 27 (.mv (.k (.int .i64 0)))<|
 .nil) [6,25,26,27])
 (.blk 2
 (.loop ⟨[(6,(.own 1)),(25,.same),(26,.same),(27,.v)],[]⟩ [(.ext 2,⟨[(6,(.own 1))],[]⟩)]
 (.seq
 (.reg (oq 28 (.bin .lss (.s 27) (.s 26))<|
 .nil) [6,25,26,27,28])
 (.seq
 (.cond (.s 28)
 .skip
 (.exit 2))
 (.seq
 (.blk 3
 (.seq
 (.reg (oq 29 (.iad 1 (.s 25) (.s 27))<|
 oq 30 (.load false 1 (.s 29))<|
 oq 8 (.mv (.s 30))<|
 .nil) [6,8,25,26,27])
 (.reg (oq 31 (.mv (.s 6))<|
 oq 32 (.mv (.s 8))<|
 oq 33 (.app 1 16 (.s 31) (.s 32))<|
 oq 6 (.mv (.s 33))<|
 .nil) [6,25,26,27])))
 (.reg (oq 34 (.bin .add (.s 27) (.k (.int .i64 1)))<|
 oq 27 (.mv (.s 34))<|
 .nil) [6,25,26,27])))))))
 (.seq
 (.reg (oq 35 (.mv (.s 6))<|
 oq 2 (.mv (.s 35))<|
 .nil) [2])
 .ret))))))
def Xt:PFn:=⟨[.tmp 2],jz,false⟩
def Xu:C:=
 (.seq
 (.reg [⟨some 2,.mv (.k (.sl .full 0 [])),none⟩] [0])
 (.seq
 (.reg [⟨some 3,.mv (.k (.int .i64 0)),none⟩] [0,3])
 (.seq
 (.seq
 (.reg [⟨some 9,.mv (.s 0),none⟩,⟨some 10,.len (.s 9),none⟩,⟨some 11,.mv (.k (.int .i64 0)),none⟩] [0,3,9,10,11])
 (.blk 0
 (.loop
 (.seq
 (.reg [⟨some 12,.bin .lss (.s 11) (.s 10),none⟩] [0,3,9,10,11,12])
 (.seq
 (.cond (.s 12)
 .skip
 (.exit 0))
 (.seq
 (.blk 1
 (.seq
 (.reg [⟨some 13,.iad 1 (.s 9) (.s 11),none⟩,⟨some 14,.load false 1 (.s 13),none⟩,⟨some 5,.mv (.s 14),none⟩] [0,3,5,9,10,11])
 (.seq
 (.reg [⟨some 15,.mv (.s 3),none⟩,⟨some 16,.mv (.s 5),none⟩,⟨some 17,.len (.s 16),none⟩,⟨some 18,.bin .add (.s 15) (.s 17),none⟩,⟨some 3,.mv (.s 18),none⟩] [0,3,9,10,11])
 (.seq
 (.reg [⟨some 19,.mv (.s 3),none⟩,⟨some 20,.bin .lss (.s 19) (.k (.int .i64 0)),none⟩] [0,3,9,10,11,20])
 (.cond (.s 20)
 (.reg [⟨some 21,.ifc 9 (.k (.str [108,101,110,32,111,117,116,32,111,102,32,114,97,110,103,101])),none⟩,⟨none,.pan (.s 21),none⟩] [0,3,9,10,11])
 .skip)))))
 (.reg [⟨some 22,.bin .add (.s 11) (.k (.int .i64 1)),none⟩,⟨some 11,.mv (.s 22),none⟩] [0,3,9,10,11])))))))
 (.seq
 (.reg [⟨some 23,.mv (.s 3),none⟩,⟨some 24,.call kx [(.k (.sl .full 0 [])),.s 23],none⟩,⟨some 6,.mv (.s 24),none⟩] [0,6])
 (.seq
 (.seq
 (.reg [⟨some 25,.mv (.s 0),none⟩,⟨some 26,.len (.s 25),none⟩,⟨some 27,.mv (.k (.int .i64 0)),none⟩] [6,25,26,27])
 (.blk 2
 (.loop
 (.seq
 (.reg [⟨some 28,.bin .lss (.s 27) (.s 26),none⟩] [6,25,26,27,28])
 (.seq
 (.cond (.s 28)
 .skip
 (.exit 2))
 (.seq
 (.blk 3
 (.seq
 (.reg [⟨some 29,.iad 1 (.s 25) (.s 27),none⟩,⟨some 30,.load false 1 (.s 29),none⟩,⟨some 8,.mv (.s 30),none⟩] [6,8,25,26,27])
 (.reg [⟨some 31,.mv (.s 6),none⟩,⟨some 32,.mv (.s 8),none⟩,⟨some 33,.app 1 16 (.s 31) (.s 32),none⟩,⟨some 6,.mv (.s 33),none⟩] [6,25,26,27])))
 (.reg [⟨some 34,.bin .add (.s 27) (.k (.int .i64 1)),none⟩,⟨some 27,.mv (.s 34),none⟩] [6,25,26,27])))))))
 (.seq
 (.reg [⟨some 35,.mv (.s 6),none⟩,⟨some 2,.mv (.s 35),none⟩] [2])
 .ret))))))
def vH:Fn:=⟨1,[.tmp 2],false,false,Xu⟩
def Xl:Fn:=⟨1,[.tmp 2],false,false,zm jz⟩
def W5:PC:=
 (.seq
 (.reg (.box 8 2 (.s 0)<|
 oq 4 (.alloc zt8)<|
 oq 5 (.mv (.k (.bool false)))<|
 .nil) [1,2,4])
 (.seq
 (.seq
 (.reg (oq 8 (.fad 0 (.s 2))<|
 oq 9 (.load false 1 (.s 8))<|
 oq 10 (.bin .neq (.s 9) (.k (.int .i64 6)))<|
 .nil) [1,2,4,10])
 (.cond (.s 10)
 (.seq
 (.reg (oq 11 (.load true 8 (.s 2))<|
 oq 12 (.mv (.s 1))<|
 oq 13 (.call vi [.s 11,.s 12])<|
 oq 14 (.ext (.s 13) 0)<|
 oq 15 (.ext (.s 13) 1)<|
 oz (.store 8 (.s 4) (.s 14))<|
 oq 5 (.mv (.s 15))<|
 .nil) [4,5])
 .ret)
 .skip))
 (.seq
 (.reg (oq 17 (.mv (.s 1))<|
 oq 18 (.fad 7 (.s 2))<|
 oq 19 (.load false 1 (.s 18))<|
 oq 20 (.len (.s 19))<|
 oq 21 (.bin .sub (.s 20) (.k (.int .i64 1)))<|
 oq 22 (.call yp [.s 17,.s 21])<|
 oq 16 (.mv (.s 22))<|
 oq 23 (.ext (.s 16) 0)<|
 oq 24 (.ext (.s 16) 1)<|
 oq 6 (.mv (.s 23))<|
 oq 7 (.mv (.s 24))<|
 .nil) [2,4,6,7])
 (.seq
 (.seq
 (.reg (oq 25 (.mv (.s 7))<|
 oq 26 (.un .not (.s 25))<|
 .nil) [2,4,6,26])
 (.cond (.s 26)
 (.seq
 (.reg (oq 27 (.build zt8 [])<|
 oz (.store 8 (.s 4) (.s 27))<|
 oq 5 (.mv (.k (.bool false)))<|
 .nil) [4,5])
 .ret)
 .skip))
 (.seq
 (.reg (oq 28 (.fad 7 (.s 2))<|
 oq 29 (.load false 1 (.s 28))<|
 oq 30 (.mv (.s 6))<|
 oq 31 (.iad 8 (.s 29) (.s 30))<|
 oq 32 (.load true 8 (.s 31))<|
 oz (.store 8 (.s 4) (.s 32))<|
 oq 5 (.mv (.k (.bool true)))<|
 .nil) [4,5])
 .ret)))))
def W2:PFn:=⟨[.cell 4 true 8,.tmp 5],W5,false⟩
def jy:Fn:=⟨2,[.cell 4 true 8,.tmp 5],false,false,zm W5⟩
def zhG:PC:=
 (.seq
 (.reg (.box 3 1 (.s 0)<|
 oq 2 (.alloc [.bool false,(.sl .full 0 []),.int .i64 0])<|
 .nil) [1,2])
 (.seq
 (.seq
 (.reg (oq 3 (.load true 3 (.s 1))<|
 oq 4 (.call vw [.s 3])<|
 oq 5 (.un .not (.s 4))<|
 .nil) [1,2,5])
 (.cond (.s 5)
 (.seq
 (.reg (oq 6 (.build [.bool false,(.sl .full 0 []),.int .i64 0] [])<|
 oz (.store 3 (.s 2) (.s 6))<|
 .nil) [2])
 .ret)
 .skip))
 (.seq
 (.reg (oq 7 (.load true 3 (.s 1))<|
 oz (.store 3 (.s 2) (.s 7))<|
 .nil) [2])
 .ret)))
def zm9:PFn:=⟨[.cell 2 true 3],zhG,false⟩
def QT:Fn:=⟨1,[.cell 2 true 3],false,false,zm zhG⟩
def jE:PC:=
 (.seq
 (.reg (oq 4 (.mv (.k (.bool false)))<|
 .nil) [0,1])
 (.seq
 (.seq
 (.reg (oq 6 (.mv (.s 0))<|
 oq 7 (.len (.s 6))<|
 oq 8 (.mv (.s 1))<|
 oq 9 (.len (.s 8))<|
 oq 10 (.bin .neq (.s 7) (.s 9))<|
 .nil) [0,1,10])
 (.cond (.s 10)
 (.seq
 (.reg (oq 4 (.mv (.k (.bool false)))<|
 .nil) [4])
 .ret)
 .skip))
 (.seq
 (.seq
 (.reg (oq 11 (.mv (.s 0))<|
 oq 12 (.len (.s 11))<|
 oq 13 (.mv (.k (.int .i64 0)))<|
 .nil) [0,1,12,13])
 (.blk 0
 (.loop ⟨[(0,.same),(1,.same),(12,.same),(13,.v)],[]⟩ [(.ext 0,⟨[],[]⟩),(.ret,⟨[(4,.v)],[]⟩)]
 (.seq
 (.reg (oq 14 (.bin .lss (.s 13) (.s 12))<|
 .nil) [0,1,12,13,14])
 (.seq
 (.cond (.s 14)
 .skip
 (.exit 0))
 (.seq
 (.blk 1
 (.seq
 (.reg (oq 15 (.mv (.s 13))<|
 oq 5 (.mv (.s 15))<|
 .nil) [0,1,5,12,13])
 (.seq
 (.drw (.nil)
 (oq 16 (.mv (.s 0))<|
 oq 17 (.mv (.s 5))<|
 oq 18 (.iad 1 (.s 16) (.s 17))<|
 oq 19 (.load false 1 (.s 18))<|
 oq 20 (.mv (.s 1))<|
 oq 21 (.mv (.s 5))<|
 oq 22 (.iad 1 (.s 20) (.s 21))<|
 oq 23 (.load false 1 (.s 22))<|
 .nil)
 (oq 24 (.bin .neq (.s 19) (.s 23))<|
 .nil) [0,1,12,13,24])
 (.cond (.s 24)
 (.seq
 (.reg (oq 4 (.mv (.k (.bool false)))<|
 .nil) [4])
 .ret)
 .skip))))
 (.reg (oq 25 (.bin .add (.s 13) (.k (.int .i64 1)))<|
 oq 13 (.mv (.s 25))<|
 .nil) [0,1,12,13])))))))
 (.seq
 (.reg (oq 4 (.mv (.k (.bool true)))<|
 .nil) [4])
 .ret))))
def Wc:PFn:=⟨[.tmp 4],jE,false⟩
def wG:Fn:=⟨2,[.tmp 4],false,false,zm jE⟩
def K8:PC:=
 (.seq
 (.reg (.box 3 1 (.s 0)<|
 oq 2 (.mv (.k (.bool false)))<|
 .nil) [1])
 (.seq
 (.reg (oq 6 (.fad 1 (.s 1))<|
 oq 7 (.load false 1 (.s 6))<|
 oq 8 (.len (.s 7))<|
 oq 3 (.mv (.s 8))<|
 .nil) [1,3])
 (.seq
 (.seq
 (.reg (oq 9 (.mv (.s 3))<|
 oq 10 (.bin .eql (.s 9) (.k (.int .i64 0)))<|
 .nil) [1,3,10])
 (.cond (.s 10)
 (.seq
 (.reg (oq 11 (.fad 0 (.s 1))<|
 oq 12 (.load false 1 (.s 11))<|
 oq 13 (.un .not (.s 12))<|
 oq 14 (.mv (.s 13))<|
 .grp 14 true (oq 15 (.fad 2 (.s 1))<|
 oq 16 (.load false 1 (.s 15))<|
 oq 17 (.bin .eql (.s 16) (.k (.int .i64 0)))<|
 .nil) 18 (.s 17) (.k (.bool false))<|
 oq 2 (.mv (.s 18))<|
 .nil) [2])
 .ret)
 .skip))
 (.seq
 (.seq
 (.reg (oq 19 (.mv (.s 3))<|
 oq 20 (.bin .gtr (.s 19) (.k (.int .i64 90)))<|
 oq 21 (.mv (.s 20))<|
 .grp 21 false (oq 22 (.fad 1 (.s 1))<|
 oq 23 (.load false 1 (.s 22))<|
 oq 24 (.mv (.s 3))<|
 oq 25 (.bin .sub (.s 24) (.k (.int .i64 1)))<|
 oq 26 (.iad 1 (.s 23) (.s 25))<|
 oq 27 (.load false 1 (.s 26))<|
 oq 28 (.bin .eql (.s 27) (.k (.int .u32 0)))<|
 .nil) 29 (.s 28) (.k (.bool true))<|
 oq 30 (.mv (.s 29))<|
 .grp 30 false (oq 31 (.fad 2 (.s 1))<|
 oq 32 (.load false 1 (.s 31))<|
 oq 33 (.bin .lss (.s 32) (.k (.int .i64 (-1200))))<|
 .nil) 34 (.s 33) (.k (.bool true))<|
 oq 35 (.mv (.s 34))<|
 .grp 35 false (oq 36 (.fad 2 (.s 1))<|
 oq 37 (.load false 1 (.s 36))<|
 oq 38 (.bin .gtr (.s 37) (.k (.int .i64 1200)))<|
 .nil) 39 (.s 38) (.k (.bool true))<|
 .nil) [1,39])
 (.cond (.s 39)
 (.seq
 (.reg (oq 2 (.mv (.k (.bool false)))<|
 .nil) [2])
 .ret)
 .skip))
 (.seq
 (.reg (oq 41 (.fad 1 (.s 1))<|
 oq 42 (.load false 1 (.s 41))<|
 oq 43 (.call qU [.s 42])<|
 oq 40 (.mv (.s 43))<|
 oq 44 (.ext (.s 40) 0)<|
 oq 45 (.ext (.s 40) 1)<|
 oq 4 (.mv (.s 44))<|
 oq 5 (.mv (.s 45))<|
 .nil) [5])
 (.seq
 (.reg (oq 46 (.mv (.s 5))<|
 oq 47 (.bin .eql (.s 46) (.k (.int .i64 0)))<|
 oq 2 (.mv (.s 47))<|
 .nil) [2])
 .ret))))))
def K6:PFn:=⟨[.tmp 2],K8,false⟩
def Yg:Fn:=⟨1,[.tmp 2],false,false,zm K8⟩
def KV:PC:=
 (.seq
 (.reg (oq 2 (.mv (.k (.bool false)))<|
 .nil) [0])
 (.seq
 (.reg (oq 3 (.mv (.s 0))<|
 oq 4 (.lns (.s 3))<|
 oq 5 (.bin .leq (.s 4) (.k (.int .i64 2000)))<|
 oq 6 (.mv (.s 5))<|
 .grp 6 true (oq 7 (.mv (.s 0))<|
 oq 8 (.call wY [.s 7])<|
 .nil) 9 (.s 8) (.k (.bool false))<|
 oq 2 (.mv (.s 9))<|
 .nil) [2])
 .ret))
def zag:PFn:=⟨[.tmp 2],KV,false⟩
def Z0:Fn:=⟨1,[.tmp 2],false,false,zm KV⟩
def Jz:PC:=
 (.seq
 (.reg (oq 2 (.mv (.k (.bool false)))<|
 .nil) [0])
 (.seq
 (.seq
 (.reg (oq 5 (.mv (.s 0))<|
 oq 6 (.len (.s 5))<|
 oq 7 (.mv (.k (.int .i64 0)))<|
 .nil) [0,5,6,7])
 (.blk 0
 (.loop ⟨[(0,.same),(5,.same),(6,.same),(7,.v)],[]⟩ [(.ext 0,⟨[(0,.same)],[]⟩),(.ret,⟨[(2,.v)],[]⟩)]
 (.seq
 (.reg (oq 8 (.bin .lss (.s 7) (.s 6))<|
 .nil) [0,5,6,7,8])
 (.seq
 (.cond (.s 8)
 .skip
 (.exit 0))
 (.seq
 (.blk 1
 (.seq
 (.reg (oq 9 (.mv (.s 7))<|
 oq 10 (.iad 1 (.s 5) (.s 7))<|
 oq 11 (.load false 1 (.s 10))<|
 oq 3 (.mv (.s 9))<|
 oq 4 (.mv (.s 11))<|
 .nil) [0,3,4,5,6,7])
 (.seq
 (.reg (oq 12 (.mv (.s 4))<|
 oq 13 (.call w6 [.s 12])<|
 oq 14 (.un .not (.s 13))<|
 oq 15 (.mv (.s 14))<|
 .grp 15 false (oq 16 (.mv (.s 3))<|
 oq 17 (.bin .gtr (.s 16) (.k (.int .i64 0)))<|
 oq 18 (.mv (.s 17))<|
 .grp 18 true (oq 19 (.mv (.s 0))<|
 oq 20 (.mv (.s 3))<|
 oq 21 (.bin .sub (.s 20) (.k (.int .i64 1)))<|
 oq 22 (.iad 1 (.s 19) (.s 21))<|
 oq 23 (.load false 1 (.s 22))<|
 oq 24 (.mv (.s 4))<|
 oq 25 (.bin .geq (.s 23) (.s 24))<|
 .nil) 26 (.s 25) (.k (.bool false))<|
 .nil) 27 (.s 26) (.k (.bool true))<|
 .nil) [0,5,6,7,27])
 (.cond (.s 27)
 (.seq
 (.reg (oq 2 (.mv (.k (.bool false)))<|
 .nil) [2])
 .ret)
 .skip))))
 (.reg (oq 28 (.bin .add (.s 7) (.k (.int .i64 1)))<|
 oq 7 (.mv (.s 28))<|
 .nil) [0,5,6,7])))))))
 (.seq
 (.reg (oq 29 (.mv (.s 0))<|
 oq 30 (.len (.s 29))<|
 oq 31 (.bin .leq (.s 30) (.k (.int .i64 300)))<|
 oq 2 (.mv (.s 31))<|
 .nil) [2])
 .ret)))
def JG:PFn:=⟨[.tmp 2],Jz,false⟩
def kY:Fn:=⟨1,[.tmp 2],false,false,zm Jz⟩
def vM:PC:=
 (.seq
 (.reg (oq 4 (.mv (.k (.bool false)))<|
 .nil) [0,1])
 (.seq
 (.reg (oq 5 (.mv (.s 0))<|
 oq 6 (.mv (.s 1))<|
 oq 7 (.call zw [.s 5,.s 6])<|
 oq 8 (.bin .geq (.s 7) (.k (.int .i64 0)))<|
 oq 4 (.mv (.s 8))<|
 .nil) [4])
 .ret))
def vN:PFn:=⟨[.tmp 4],vM,false⟩
def y9:Fn:=⟨2,[.tmp 4],false,false,zm vM⟩
def Jf:PC:=
 (.seq
 (.reg (oq 2 (.mv (.k (.bool false)))<|
 .nil) [0])
 (.seq
 (.reg (oq 3 (.mv (.s 0))<|
 oq 4 (.lns (.s 3))<|
 oq 5 (.bin .gtr (.s 4) (.k (.int .i64 2000)))<|
 oq 6 (.mv (.s 5))<|
 .grp 6 false (oq 7 (.mv (.s 0))<|
 oq 8 (.call wY [.s 7])<|
 oq 9 (.un .not (.s 8))<|
 .nil) 10 (.s 9) (.k (.bool true))<|
 oq 2 (.mv (.s 10))<|
 .nil) [2])
 .ret))
def Jr:PFn:=⟨[.tmp 2],Jf,false⟩
def kT:Fn:=⟨1,[.tmp 2],false,false,zm Jf⟩
def K9:PC:=
 (.seq
 (.reg (oq 2 (.mv (.k (.bool false)))<|
 .nil) [0])
 (.seq
 .skip
 (.seq
 (.seq
 (.reg (oq 7 (.mv (.s 0))<|
 oq 8 (.rng (.s 7))<|
 .nil) [0,8])
 (.blk 0
 (.loop ⟨[(0,.same),(8,.same)],[.iter]⟩ [(.ext 0,⟨[],[.dead]⟩),(.ret,⟨[(2,.v)],[.dead]⟩)]
 (.seq
 (.reg (oq 9 (.nxt (.s 8))<|
 oq 10 (.ext (.s 9) 0)<|
 .nil) [0,8,9,10])
 (.seq
 (.cond (.s 10)
 .skip
 (.exit 0))
 (.blk 1
 (.seq
 (.reg (oq 11 (.ext (.s 9) 1)<|
 oq 12 (.ext (.s 9) 2)<|
 oq 3 (.mv (.s 11))<|
 oq 4 (.mv (.s 12))<|
 .nil) [0,3,4,8])
 (.seq
 (.seq
 (.reg (oq 13 (.mv (.s 4))<|
 oq 14 (.bin .neq (.s 13) (.k (.int .i32 65533)))<|
 .nil) [0,3,8,14])
 (.cond (.s 14)
 (.exit 1)
 .skip))
 (.seq
 (.reg (oq 16 (.mv (.s 0))<|
 oq 17 (.mv (.s 3))<|
 oq 18 (.sls (.s 16) (some (.s 17)) none)<|
 oq 19 (.call yE [.s 18])<|
 oq 15 (.mv (.s 19))<|
 oq 20 (.ext (.s 15) 0)<|
 oq 21 (.ext (.s 15) 1)<|
 oq 5 (.mv (.s 20))<|
 oq 6 (.mv (.s 21))<|
 .nil) [0,6,8])
 (.seq
 (.reg (oq 22 (.mv (.s 6))<|
 oq 23 (.bin .eql (.s 22) (.k (.int .i64 1)))<|
 .nil) [0,8,23])
 (.cond (.s 23)
 (.seq
 (.reg (oq 2 (.mv (.k (.bool false)))<|
 .nil) [2])
 .ret)
 .skip)))))))))))
 (.seq
 (.reg (oq 2 (.mv (.k (.bool true)))<|
 .nil) [2])
 .ret))))
def zac:PFn:=⟨[.tmp 2],K9,false⟩
def Yj:Fn:=⟨1,[.tmp 2],false,false,zm K9⟩
def jF:PC:=
 (.seq
 (.reg (oq 4 (.mv (.k (.int .i64 0)))<|
 .nil) [0,1])
 (.seq
 (.seq
 (.reg (oq 6 (.mv (.s 0))<|
 oq 7 (.len (.s 6))<|
 oq 8 (.mv (.k (.int .i64 0)))<|
 .nil) [0,1,7,8])
 (.blk 0
 (.loop ⟨[(0,.same),(1,.same),(7,.same),(8,.v)],[]⟩ [(.ext 0,⟨[],[]⟩),(.ret,⟨[(4,.v)],[]⟩)]
 (.seq
 (.reg (oq 9 (.bin .lss (.s 8) (.s 7))<|
 .nil) [0,1,7,8,9])
 (.seq
 (.cond (.s 9)
 .skip
 (.exit 0))
 (.seq
 (.blk 1
 (.seq
 (.reg (oq 10 (.mv (.s 8))<|
 oq 5 (.mv (.s 10))<|
 .nil) [0,1,5,7,8])
 (.seq
 (.reg (oq 11 (.mv (.s 1))<|
 oq 12 (.mv (.s 0))<|
 oq 13 (.mv (.s 5))<|
 oq 14 (.iad 8 (.s 12) (.s 13))<|
 oq 15 (.load true 8 (.s 14))<|
 oq 16 (.callv (.s 11) [.s 15])<|
 .nil) [0,1,5,7,8,16])
 (.cond (.s 16)
 (.seq
 (.reg (oq 17 (.mv (.s 5))<|
 oq 4 (.mv (.s 17))<|
 .nil) [4])
 .ret)
 .skip))))
 (.reg (oq 18 (.bin .add (.s 8) (.k (.int .i64 1)))<|
 oq 8 (.mv (.s 18))<|
 .nil) [0,1,7,8])))))))
 (.seq
 (.reg (oq 4 (.mv (.k (.int .i64 (-1))))<|
 .nil) [4])
 .ret)))
def jK:PFn:=⟨[.tmp 4],jF,false⟩
def wE:Fn:=⟨2,[.tmp 4],false,false,zm jF⟩
def V3:PC:=
 (.seq
 (.reg (.box 8 2 (.s 0)<|
 oq 4 (.alloc zt8)<|
 oq 5 (.mv (.k (.bool false)))<|
 .nil) [1,2,4])
 (.seq
 (.reg (oq 10 (.load true 8 (.s 2))<|
 oq 11 (.call vh [.s 10])<|
 oq 9 (.mv (.s 11))<|
 oq 12 (.ext (.s 9) 0)<|
 oq 13 (.ext (.s 9) 1)<|
 oq 6 (.mv (.s 12))<|
 oq 7 (.mv (.s 13))<|
 .nil) [1,4,6,7])
 (.seq
 (.seq
 (.reg (oq 14 (.mv (.s 6))<|
 oq 15 (.mv (.s 1))<|
 oq 16 (.call ye [.s 14,.s 15])<|
 oq 8 (.mv (.s 16))<|
 .nil) [4,7,8])
 (.seq
 (.reg (oq 17 (.mv (.s 8))<|
 oq 18 (.bin .geq (.s 17) (.k (.int .i64 0)))<|
 .nil) [4,7,8,18])
 (.cond (.s 18)
 (.seq
 (.reg (oq 19 (.mv (.s 7))<|
 oq 20 (.mv (.s 8))<|
 oq 21 (.iad 8 (.s 19) (.s 20))<|
 oq 22 (.load true 8 (.s 21))<|
 oz (.store 8 (.s 4) (.s 22))<|
 oq 5 (.mv (.k (.bool true)))<|
 .nil) [4,5])
 .ret)
 .skip)))
 (.seq
 (.reg (oq 23 (.build zt8 [])<|
 oz (.store 8 (.s 4) (.s 23))<|
 oq 5 (.mv (.k (.bool false)))<|
 .nil) [4,5])
 .ret))))
def VQ:PFn:=⟨[.cell 4 true 8,.tmp 5],V3,false⟩
def kj:Fn:=⟨2,[.cell 4 true 8,.tmp 5],false,false,zm V3⟩
def zbr:PC:=
 (.seq
 (.reg (oq 2 (.mv (.k (.sl .full 0 [])))<|
 oq 3 (.mv (.k (.int .i64 0)))<|
 .nil) [0])
 (.seq
 (.reg (oq 7 (.mv (.s 0))<|
 oq 8 (.call vD [.s 7])<|
 oq 0 (.mv (.s 8))<|
 .nil) [0])
 (.seq
 (.reg (oq 4 (.mv (.k (.int .i64 0)))<|
 .nil) [0,4])
 (.seq
 .skip
 (.seq
 (.blk 0
 (.loop ⟨[(0,.v),(4,.v)],[]⟩ [(.ext 0,⟨[(0,.v),(4,.v)],[]⟩)]
 (.seq
 (.seq
 (.reg (oq 9 (.mv (.s 0))<|
 oq 10 (.len (.s 9))<|
 oq 11 (.bin .gtr (.s 10) (.k (.int .i64 0)))<|
 .nil) [0,4,11])
 (.cond (.s 11)
 .skip
 (.exit 0)))
 (.blk 1
 (.seq
 (.reg (oq 13 (.mv (.s 0))<|
 oq 14 (.call vz [.s 13,(.k (.int .u32 10))])<|
 oq 12 (.mv (.s 14))<|
 oq 15 (.ext (.s 12) 0)<|
 oq 16 (.ext (.s 12) 1)<|
 oq 5 (.mv (.s 15))<|
 oq 6 (.mv (.s 16))<|
 .nil) [0,4,5,6])
 (.seq
 (.seq
 (.reg (oq 17 (.mv (.s 6))<|
 oq 18 (.bin .neq (.s 17) (.k (.int .u32 0)))<|
 .nil) [0,4,5,18])
 (.cond (.s 18)
 (.exit 0)
 .skip))
 (.seq
 (.reg (oq 19 (.mv (.s 5))<|
 oq 0 (.mv (.s 19))<|
 .nil) [0,4])
 (.reg (oq 20 (.mv (.s 4))<|
 oq 21 (.bin .add (.s 20) (.k (.int .i64 1)))<|
 oq 4 (.mv (.s 21))<|
 .nil) [0,4]))))))))
 (.seq
 (.reg (oq 22 (.mv (.s 0))<|
 oq 23 (.mv (.s 4))<|
 oq 2 (.mv (.s 22))<|
 oq 3 (.mv (.s 23))<|
 .nil) [2,3])
 .ret))))))
def zbn:PFn:=⟨[.tmp 2,.tmp 3],zbr,false⟩
def XK:Fn:=⟨1,[.tmp 2,.tmp 3],false,false,zm zbr⟩
def jd:PC:=
 (.seq
 (.reg (oq 2 (.mv (.k (.int .i32 0)))<|
 oq 3 (.mv (.k (.int .i64 0)))<|
 .nil) [0])
 (.seq
 (.seq
 (.reg (oq 4 (.mv (.s 0))<|
 oq 5 (.bin .neq (.s 4) (.k (.str [])))<|
 oq 6 (.mv (.s 5))<|
 .grp 6 true (oq 7 (.mv (.s 0))<|
 oq 8 (.ixs (.s 7) (.k (.int .i64 0)))<|
 oq 9 (.bin .lss (.s 8) (.k (.int .u8 128)))<|
 .nil) 10 (.s 9) (.k (.bool false))<|
 .nil) [0,10])
 (.cond (.s 10)
 (.seq
 (.reg (oq 11 (.mv (.s 0))<|
 oq 12 (.ixs (.s 11) (.k (.int .i64 0)))<|
 oq 13 (.cvi .i32 (.s 12))<|
 oq 2 (.mv (.s 13))<|
 oq 3 (.mv (.k (.int .i64 1)))<|
 .nil) [2,3])
 .ret)
 (.reg (oq 15 (.mv (.s 0))<|
 oq 16 (.call zx [.s 15])<|
 oq 14 (.mv (.s 16))<|
 oq 17 (.ext (.s 14) 0)<|
 oq 18 (.ext (.s 14) 1)<|
 oq 2 (.mv (.s 17))<|
 oq 3 (.mv (.s 18))<|
 .nil) [2,3])))
 .ret))
def jc:PFn:=⟨[.tmp 2,.tmp 3],jd,false⟩
def xS:Fn:=⟨1,[.tmp 2,.tmp 3],false,false,zm jd⟩
def zcJ:PC:=
 (.seq
 (.reg (oq 2 (.mv (.k (.sl .full 0 [])))<|
 .nil) [0])
 (.seq
 (.reg (oq 5 (.mv (.s 0))<|
 oq 6 (.len (.s 5))<|
 oq 3 (.mv (.s 6))<|
 .nil) [0,3])
 (.seq
 (.blk 0
 (.loop ⟨[(0,.same),(3,.v)],[]⟩ [(.ext 0,⟨[(0,.same),(3,.v)],[]⟩)]
 (.seq
 (.seq
 (.reg (oq 7 (.mv (.s 3))<|
 oq 8 (.bin .gtr (.s 7) (.k (.int .i64 0)))<|
 oq 9 (.mv (.s 8))<|
 .grp 9 true (oq 10 (.mv (.s 0))<|
 oq 11 (.mv (.s 3))<|
 oq 12 (.bin .sub (.s 11) (.k (.int .i64 1)))<|
 oq 13 (.iad 1 (.s 10) (.s 12))<|
 oq 14 (.load false 1 (.s 13))<|
 oq 15 (.bin .eql (.s 14) (.k (.int .u32 0)))<|
 .nil) 16 (.s 15) (.k (.bool false))<|
 .nil) [0,3,16])
 (.cond (.s 16)
 .skip
 (.exit 0)))
 (.blk 1
 (.reg (oq 17 (.mv (.s 3))<|
 oq 18 (.bin .sub (.s 17) (.k (.int .i64 1)))<|
 oq 3 (.mv (.s 18))<|
 .nil) [0,3])))))
 (.seq
 (.seq
 (.reg (oq 19 (.mv (.s 3))<|
 oq 20 (.bin .eql (.s 19) (.k (.int .i64 0)))<|
 .nil) [0,3,20])
 (.cond (.s 20)
 (.seq
 (.reg (oq 2 (.mv (.k (.sl .full 0 [])))<|
 .nil) [2])
 .ret)
 .skip))
 (.seq
 (.reg (oq 21 (.mv (.s 3))<|
 oq 22 (.mks [.int .u32 0] 4 (.s 21) (.s 21))<|
 oq 4 (.mv (.s 22))<|
 .nil) [0,4])
 (.seq
 (.reg (oq 23 (.mv (.s 4))<|
 oq 24 (.mv (.s 0))<|
 oq 25 (.cpy 1 (.s 23) (.s 24))<|
 .nil) [4])
 (.seq
 (.reg (oq 26 (.mv (.s 4))<|
 oq 2 (.mv (.s 26))<|
 .nil) [2])
 .ret)))))))
def zbO:PFn:=⟨[.tmp 2],zcJ,false⟩
def XC:Fn:=⟨1,[.tmp 2],false,false,zm zcJ⟩
def KW:PC:=
 (.seq
 (.reg (oq 4 (.mv (.k (.sl .full 0 [])))<|
 oq 5 (.mv (.k (.int .u32 0)))<|
 .nil) [0,1])
 (.seq
 (.reg (oq 9 (.mv (.s 0))<|
 oq 10 (.len (.s 9))<|
 oq 11 (.mks [.int .u32 0] 4 (.s 10) (.s 10))<|
 oq 6 (.mv (.s 11))<|
 .nil) [0,1,6])
 (.seq
 (.reg (oq 7 (.mv (.k (.int .u64 0)))<|
 .nil) [0,1,6,7])
 (.seq
 (.seq
 (.reg (oq 12 (.mv (.s 0))<|
 oq 13 (.len (.s 12))<|
 oq 14 (.bin .sub (.s 13) (.k (.int .i64 1)))<|
 oq 8 (.mv (.s 14))<|
 .nil) [0,1,6,7,8])
 (.blk 0
 (.loop ⟨[(0,.same),(1,.same),(6,.same),(7,.v),(8,.v)],[(.arr .no 1)]⟩ [(.ext 0,⟨[(6,.same),(7,.v)],[(.arr .no 1)]⟩)]
 (.seq
 (.seq
 (.reg (oq 15 (.mv (.s 8))<|
 oq 16 (.bin .geq (.s 15) (.k (.int .i64 0)))<|
 .nil) [0,1,6,7,8,16])
 (.cond (.s 16)
 .skip
 (.exit 0)))
 (.seq
 (.blk 1
 (.seq
 (.reg (oq 19 (.mv (.s 7))<|
 oq 20 (.bin .shl (.s 19) (.k (.int .u64 32)))<|
 oq 21 (.mv (.s 0))<|
 oq 22 (.mv (.s 8))<|
 oq 23 (.iad 1 (.s 21) (.s 22))<|
 oq 24 (.load false 1 (.s 23))<|
 oq 25 (.cvi .u64 (.s 24))<|
 oq 26 (.bin .or (.s 20) (.s 25))<|
 oq 7 (.mv (.s 26))<|
 .nil) [0,1,6,7,8])
 (.seq
 (.reg (oq 27 (.mv (.s 6))<|
 oq 28 (.mv (.s 8))<|
 oq 29 (.mv (.s 7))<|
 oq 30 (.mv (.s 1))<|
 oq 31 (.cvi .u64 (.s 30))<|
 oq 32 (.bin .quo (.s 29) (.s 31))<|
 oq 33 (.cvi .u32 (.s 32))<|
 oq 34 (.iad 1 (.s 27) (.s 28))<|
 oz (.store 1 (.s 34) (.s 33))<|
 .nil) [0,1,6,7,8])
 (.reg (oq 35 (.mv (.s 7))<|
 oq 36 (.mv (.s 1))<|
 oq 37 (.cvi .u64 (.s 36))<|
 oq 38 (.bin .rem (.s 35) (.s 37))<|
 oq 7 (.mv (.s 38))<|
 .nil) [0,1,6,7,8]))))
 (.reg (oq 17 (.mv (.s 8))<|
 oq 18 (.bin .sub (.s 17) (.k (.int .i64 1)))<|
 oq 8 (.mv (.s 18))<|
 .nil) [0,1,6,7,8]))))))
 (.seq
 (.reg (oq 39 (.mv (.s 6))<|
 oq 40 (.call vD [.s 39])<|
 oq 41 (.mv (.s 7))<|
 oq 42 (.cvi .u32 (.s 41))<|
 oq 4 (.mv (.s 40))<|
 oq 5 (.mv (.s 42))<|
 .nil) [4,5])
 .ret)))))
def KU:PFn:=⟨[.tmp 4,.tmp 5],KW,false⟩
def ZT:Fn:=⟨2,[.tmp 4,.tmp 5],false,false,zm KW⟩
def v6:PC:=
 (.seq
 (.reg (oq 2 (.mv (.k (.int .i32 0)))<|
 oq 3 (.mv (.k (.int .i64 0)))<|
 .nil) [0])
 (.seq
 (.reg (oq 13 (.mv (.s 0))<|
 oq 14 (.lns (.s 13))<|
 oq 4 (.mv (.s 14))<|
 .nil) [0,4])
 (.seq
 (.seq
 (.reg (oq 15 (.mv (.s 4))<|
 oq 16 (.bin .lss (.s 15) (.k (.int .i64 1)))<|
 .nil) [0,4,16])
 (.cond (.s 16)
 (.seq
 (.reg (oq 2 (.mv (.k (.int .i32 65533)))<|
 oq 3 (.mv (.k (.int .i64 0)))<|
 .nil) [2,3])
 .ret)
 .skip))
 (.seq
 (.reg (oq 17 (.mv (.s 0))<|
 oq 18 (.ixs (.s 17) (.k (.int .i64 0)))<|
 oq 5 (.mv (.s 18))<|
 .nil) [0,4,5])
 (.seq
 (.reg (oq 19 (.mv (.s 5))<|
 oq 20 (.iaa 256 1 (.g 0) (.s 19))<|
 oq 21 (.load false 1 (.s 20))<|
 oq 6 (.mv (.s 21))<|
 .nil) [0,4,5,6])
 (.seq
 (.seq
 (.reg (oq 22 (.mv (.s 6))<|
 oq 23 (.bin .geq (.s 22) (.k (.int .u8 240)))<|
 .nil) [0,4,5,6,23])
 (.cond (.s 23)
 (.seq
 (.reg (oq 24 (.mv (.s 6))<|
 oq 25 (.cvi .i32 (.s 24))<|
 oq 26 (.bin .shl (.s 25) (.k (.int .u64 31)))<|
 oq 27 (.bin .shr (.s 26) (.k (.int .u64 31)))<|
 oq 7 (.mv (.s 27))<|
 .nil) [0,7])
 (.seq
 (.reg (oq 28 (.mv (.s 0))<|
 oq 29 (.ixs (.s 28) (.k (.int .i64 0)))<|
 oq 30 (.cvi .i32 (.s 29))<|
 oq 31 (.mv (.s 7))<|
 oq 32 (.bin .andNot (.s 30) (.s 31))<|
 oq 33 (.mv (.s 7))<|
 oq 34 (.bin .and (.k (.int .i32 65533)) (.s 33))<|
 oq 35 (.bin .or (.s 32) (.s 34))<|
 oq 2 (.mv (.s 35))<|
 oq 3 (.mv (.k (.int .i64 1)))<|
 .nil) [2,3])
 .ret))
 .skip))
 (.seq
 (.reg (oq 36 (.mv (.s 6))<|
 oq 37 (.bin .and (.s 36) (.k (.int .u8 7)))<|
 oq 38 (.cvi .i64 (.s 37))<|
 oq 8 (.mv (.s 38))<|
 .nil) [0,4,5,6,8])
 (.seq
 (.reg (oq 39 (.mv (.s 6))<|
 oq 40 (.bin .shr (.s 39) (.k (.int .u64 4)))<|
 oq 41 (.iaa 16 2 (.g 1) (.s 40))<|
 oq 42 (.load true 2 (.s 41))<|
 oq 9 (.alloc [.int .u8 0,.int .u8 0])<|
 oz (.store 2 (.s 9) (.s 42))<|
 .nil) [0,4,5,8,9])
 (.seq
 (.seq
 (.reg (oq 43 (.mv (.s 4))<|
 oq 44 (.mv (.s 8))<|
 oq 45 (.bin .lss (.s 43) (.s 44))<|
 .nil) [0,5,8,9,45])
 (.cond (.s 45)
 (.seq
 (.reg (oq 2 (.mv (.k (.int .i32 65533)))<|
 oq 3 (.mv (.k (.int .i64 1)))<|
 .nil) [2,3])
 .ret)
 .skip))
 (.seq
 (.reg (oq 46 (.mv (.s 0))<|
 oq 47 (.ixs (.s 46) (.k (.int .i64 1)))<|
 oq 10 (.mv (.s 47))<|
 .nil) [0,5,8,9,10])
 (.seq
 (.seq
 (.reg (oq 48 (.mv (.s 10))<|
 oq 49 (.fad 0 (.s 9))<|
 oq 50 (.load false 1 (.s 49))<|
 oq 51 (.bin .lss (.s 48) (.s 50))<|
 oq 52 (.mv (.s 51))<|
 .grp 52 false (oq 53 (.fad 1 (.s 9))<|
 oq 54 (.load false 1 (.s 53))<|
 oq 55 (.mv (.s 10))<|
 oq 56 (.bin .lss (.s 54) (.s 55))<|
 .nil) 57 (.s 56) (.k (.bool true))<|
 .nil) [0,5,8,10,57])
 (.cond (.s 57)
 (.seq
 (.reg (oq 2 (.mv (.k (.int .i32 65533)))<|
 oq 3 (.mv (.k (.int .i64 1)))<|
 .nil) [2,3])
 .ret)
 .skip))
 (.seq
 (.seq
 (.reg (oq 58 (.mv (.s 8))<|
 oq 59 (.bin .leq (.s 58) (.k (.int .i64 2)))<|
 .nil) [0,5,8,10,59])
 (.cond (.s 59)
 (.seq
 (.reg (oq 60 (.mv (.s 5))<|
 oq 61 (.bin .and (.s 60) (.k (.int .u8 31)))<|
 oq 62 (.cvi .i32 (.s 61))<|
 oq 63 (.bin .shl (.s 62) (.k (.int .u64 6)))<|
 oq 64 (.mv (.s 10))<|
 oq 65 (.bin .and (.s 64) (.k (.int .u8 63)))<|
 oq 66 (.cvi .i32 (.s 65))<|
 oq 67 (.bin .or (.s 63) (.s 66))<|
 oq 2 (.mv (.s 67))<|
 oq 3 (.mv (.k (.int .i64 2)))<|
 .nil) [2,3])
 .ret)
 .skip))
 (.seq
 (.reg (oq 68 (.mv (.s 0))<|
 oq 69 (.ixs (.s 68) (.k (.int .i64 2)))<|
 oq 11 (.mv (.s 69))<|
 .nil) [0,5,8,10,11])
 (.seq
 (.seq
 (.reg (oq 70 (.mv (.s 11))<|
 oq 71 (.bin .lss (.s 70) (.k (.int .u8 128)))<|
 oq 72 (.mv (.s 71))<|
 .grp 72 false (oq 73 (.mv (.s 11))<|
 oq 74 (.bin .lss (.k (.int .u8 191)) (.s 73))<|
 .nil) 75 (.s 74) (.k (.bool true))<|
 .nil) [0,5,8,10,11,75])
 (.cond (.s 75)
 (.seq
 (.reg (oq 2 (.mv (.k (.int .i32 65533)))<|
 oq 3 (.mv (.k (.int .i64 1)))<|
 .nil) [2,3])
 .ret)
 .skip))
 (.seq
 (.seq
 (.reg (oq 76 (.mv (.s 8))<|
 oq 77 (.bin .leq (.s 76) (.k (.int .i64 3)))<|
 .nil) [0,5,10,11,77])
 (.cond (.s 77)
 (.seq
 (.reg (oq 78 (.mv (.s 5))<|
 oq 79 (.bin .and (.s 78) (.k (.int .u8 15)))<|
 oq 80 (.cvi .i32 (.s 79))<|
 oq 81 (.bin .shl (.s 80) (.k (.int .u64 12)))<|
 oq 82 (.mv (.s 10))<|
 oq 83 (.bin .and (.s 82) (.k (.int .u8 63)))<|
 oq 84 (.cvi .i32 (.s 83))<|
 oq 85 (.bin .shl (.s 84) (.k (.int .u64 6)))<|
 oq 86 (.bin .or (.s 81) (.s 85))<|
 oq 87 (.mv (.s 11))<|
 oq 88 (.bin .and (.s 87) (.k (.int .u8 63)))<|
 oq 89 (.cvi .i32 (.s 88))<|
 oq 90 (.bin .or (.s 86) (.s 89))<|
 oq 2 (.mv (.s 90))<|
 oq 3 (.mv (.k (.int .i64 3)))<|
 .nil) [2,3])
 .ret)
 .skip))
 (.seq
 (.reg (oq 91 (.mv (.s 0))<|
 oq 92 (.ixs (.s 91) (.k (.int .i64 3)))<|
 oq 12 (.mv (.s 92))<|
 .nil) [5,10,11,12])
 (.seq
 (.seq
 (.reg (oq 93 (.mv (.s 12))<|
 oq 94 (.bin .lss (.s 93) (.k (.int .u8 128)))<|
 oq 95 (.mv (.s 94))<|
 .grp 95 false (oq 96 (.mv (.s 12))<|
 oq 97 (.bin .lss (.k (.int .u8 191)) (.s 96))<|
 .nil) 98 (.s 97) (.k (.bool true))<|
 .nil) [5,10,11,12,98])
 (.cond (.s 98)
 (.seq
 (.reg (oq 2 (.mv (.k (.int .i32 65533)))<|
 oq 3 (.mv (.k (.int .i64 1)))<|
 .nil) [2,3])
 .ret)
 .skip))
 (.seq
 (.reg (oq 99 (.mv (.s 5))<|
 oq 100 (.bin .and (.s 99) (.k (.int .u8 7)))<|
 oq 101 (.cvi .i32 (.s 100))<|
 oq 102 (.bin .shl (.s 101) (.k (.int .u64 18)))<|
 oq 103 (.mv (.s 10))<|
 oq 104 (.bin .and (.s 103) (.k (.int .u8 63)))<|
 oq 105 (.cvi .i32 (.s 104))<|
 oq 106 (.bin .shl (.s 105) (.k (.int .u64 12)))<|
 oq 107 (.bin .or (.s 102) (.s 106))<|
 oq 108 (.mv (.s 11))<|
 oq 109 (.bin .and (.s 108) (.k (.int .u8 63)))<|
 oq 110 (.cvi .i32 (.s 109))<|
 oq 111 (.bin .shl (.s 110) (.k (.int .u64 6)))<|
 oq 112 (.bin .or (.s 107) (.s 111))<|
 oq 113 (.mv (.s 12))<|
 oq 114 (.bin .and (.s 113) (.k (.int .u8 63)))<|
 oq 115 (.cvi .i32 (.s 114))<|
 oq 116 (.bin .or (.s 112) (.s 115))<|
 oq 2 (.mv (.s 116))<|
 oq 3 (.mv (.k (.int .i64 4)))<|
 .nil) [2,3])
 .ret))))))))))))))))))
def v8:PFn:=⟨[.tmp 2,.tmp 3],v6,false⟩
def xg:Fn:=⟨1,[.tmp 2,.tmp 3],false,false,zm v6⟩
def ziZ:Nat→Nat→Option PFn:=fun f k=>(match f with | 5=>some Z4 | 6=>some V6 | 7=>some zeg | 8=>some VP | 13=>some KN | 14=>some Y6 | 15=>some W0 | 500016=>some zav | 1000017=>some za7 | 20=>some QN | 21=>some zai | 22=>some zcY | 23=>some X6 | 24=>some kM | 1000025=>some zd5 | 1000026=>some zfU | 1000027=>some zdU | 1000028=>some zi4 | 1000029=>some zen | 1000030=>some zcx | 31=>some zhS | 37=>some Ja | 38=>some xX | 39=>some VX | 40=>some zeO | 41=>some VZ | 42=>some JF | 43=>some Jo | 44=>some zeW | 45=>some ZU | 46=>some zad | 47=>some zbA | 48=>some X7 | 49=>some Zu | 50=>some zfH | 51=>some V2 | 52=>some Wj | 53=>some Ko | 54=>some V4 | 55=>some zjI | 56=>some Wg | 59=>some zdh | 60=>some wP | 61=>some zcf | 62=>some zbz | 63=>some qN | 64=>some zaj | 65=>some zbe | 66=>some jH | 67=>(match k with | 0=>some qa | _=>some qF) | 68=>some Jp | 72=>some Xt | 73=>some W2 | 74=>some zm9 | 75=>some Wc | 77=>some K6 | 78=>some zag | 79=>some JG | 80=>some vN | 81=>some Jr | 82=>some zac | 83=>some jK | 89=>some VQ | 92=>some zbn | 93=>some jc | 96=>some zbO | 97=>some KU | 98=>some v8 | _=>none)
def zqd:List (Nat×Fn):=[(xR,w9),(y3,j5),(q9,Kk),(xK,ke),(xz,Z5),(yB,qz),(y4,jx),(XB,Qe),(y5,kR),(ql,Z3),(qV,Xd),(xU,qO),(yU,vj),(Zg,Kt),(jv,XG),(ji,JX),(Xp,Qi),(wo,KG),(vC,Qu),(wk,Yd),(xw,Zb),(zu,yA),(xo,ka),(wW,Ve),(xk,kb),(xJ,kW),(xG,kV),(qp,Vb),(xp,qd),(wm,Yh),(ve,Xr),(yp,qR),(yq,qZ),(js,kN),(xn,j7),(yN,wM),(vp,qq),(wj,j6),(XM,XY),(xB,wJ),(qh,Xn),(yc,yL),(qW,Xq),(vd,XF),(yy,xE),(vy,Yl),(vh,Xs),(ye,wD),(zw,xA),(xI,kS),(wg,vH),(xu,jy),(WT,QT),(wL,wG),(vw,Yg),(w6,Z0),(vA,kY),(yf,y9),(wi,kT),(wY,Yj),(yZ,wE),(vi,kj),(qU,XK),(yE,xS),(vD,XC),(vz,ZT),(zx,xg)]
def zp5:List (Nat×List X×Fn):=[(q9,([.s 4,.s 5],Yc))]
def ex0:Nat→Option Told:=fun f=>(match f with | 69=>some (.fn (YM 1 16)) | 70=>some (.fn (YM 8 120)) | 71=>some (.fn (J1 8 120)) | 88=>some (.fn (J1 1 16)) | _=>none)
def glT:Nat→Option (List V):=fun g=>match g with | 0=>some G_0 | 1=>some G_1 | _=>none
def E0:Env:=⟨look zqd,fun g=>(glT g).map toDL,ex0,zes zp5⟩
def mk0:Nat→Bool:=fun f=>(match f with | 17=>true | 25=>true | 26=>true | 27=>true | 28=>true | 29=>true | 30=>true | _=>false)
def zmN:List (Nat×Fn):=[(xR,w9),(y3,j5),(q9,zla),(xK,ke),(xz,Z5),(yB,qz),(y4,jx),(vu,zat),(q6,zi3),(y5,kR),(ql,Z3),(qV,Xd),(xU,qO),(yU,vj),(je,zly),(kZ,zfV),(vr,zk3),(QF,zjk),(xP,zlI),(zt,zjv),(wk,Yd),(xw,Zb),(zu,yA),(xo,ka),(wW,Ve),(xk,kb),(xJ,kW),(xG,kV),(qp,Vb),(xp,qd),(wm,Yh),(ve,Xr),(yp,qR),(yq,Qb),(js,kN),(xn,j7),(yN,wM),(vp,qq),(wj,j6),(XM,XY),(xB,wJ),(qh,Xn),(yc,yL),(qW,Xq),(vd,XF),(yy,xE),(vy,Yl),(vh,Xs),(ye,wD),(zw,xA),(xI,kS),(wg,Xl),(xu,jy),(WT,QT),(wL,wG),(vw,Yg),(w6,Z0),(vA,kY),(yf,y9),(wi,kT),(wY,Yj),(yZ,wE),(vi,kj),(qU,XK),(yE,xS),(vD,XC),(vz,ZT),(zx,xg)]
def E1:Env:=⟨look zmN,fun g=>(glT g).map toDL,ex0,fun _=>none⟩
def md0:Nat→Md:=fun f=>(match f with | 69 => .ful | 70 => .ful | 71 => .gvf 8 | 88 => .gvf 1 | _ => .pl)
def tx0:Nat→Option (List V→Option V):=fun f=>(match f with | 69=>some (kB 1 16) | 70=>some (kB 8 120) | 71=>some (Kh 120) | 88=>some (Kh 16) | _=>none)
def gl0:Gl:=⟨glT,md0,tx0⟩
noncomputable def P0:PcT:=pcL gl0 ziZ
end Go.Ev
