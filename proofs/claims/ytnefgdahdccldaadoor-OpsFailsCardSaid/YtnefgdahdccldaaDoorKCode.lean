/- The functions' code. -/
import Derived.Test.YtnefgdahdccldaaDoorKEvE
import Derived.Test.YtnefgdahdccldaaDoorKNums
import Derived.Test.YtnefgdahdccldaaDoorProg
set_option linter.all false
noncomputable section
namespace Go.Ev
open Go.Proofs.Tryd
@[reducible] def oq(i:Nat)(o:O)(r:PO):PO := .one ⟨some i,o,none⟩ r
@[reducible] def oz(o:O)(r:PO):PO := .one ⟨none,o,none⟩ r
@[reducible] def zt8:List D:=[.int .i64 0,.bool false,.bool false,.sl .full 0 [],.int .i64 0,.str [],.sl .full 0 [],.sl .full 0 []]
@[reducible] def kf:X := .k (.bool false)
@[reducible] def kt:X := .k (.bool true)
@[reducible] def ki(i:Int):X := .k (.int .i64 i)
@[reducible] def om(i j:Nat)(r:PO):PO := .one ⟨some i,.mv (.s j),none⟩ r
@[reducible] def ol(i j:Nat)(r:PO):PO := .one ⟨some i,.load false 1 (.s j),none⟩ r
@[reducible] def nm(i j:Nat):OpC:=⟨some i,.mv (.s j),none⟩
@[reducible] def nq(i:Nat)(o:O):OpC:=⟨some i,o,none⟩
def mk0:Nat->Bool:=fun f=>(match f with | 17=>true | 25=>true | 26=>true | 27=>true | 28=>true | 29=>true | 30=>true | _=>false)
def G_0:List V:=[.int .u8 240,.int .u8 240,.int .u8 240,.int .u8 240,.int .u8 240,.int .u8 240,.int .u8 240,.int .u8 240,.int .u8 240,.int .u8 240,.int .u8 240,.int .u8 240,.int .u8 240,.int .u8 240,.int .u8 240,.int .u8 240,.int .u8 240,.int .u8 240,.int .u8 240,.int .u8 240,.int .u8 240,.int .u8 240,.int .u8 240,.int .u8 240,.int .u8 240,.int .u8 240,.int .u8 240,.int .u8 240,.int .u8 240,.int .u8 240,.int .u8 240,.int .u8 240,.int .u8 240,.int .u8 240,.int .u8 240,.int .u8 240,.int .u8 240,.int .u8 240,.int .u8 240,.int .u8 240,.int .u8 240,.int .u8 240,.int .u8 240,.int .u8 240,.int .u8 240,.int .u8 240,.int .u8 240,.int .u8 240,.int .u8 240,.int .u8 240,.int .u8 240,.int .u8 240,.int .u8 240,.int .u8 240,.int .u8 240,.int .u8 240,.int .u8 240,.int .u8 240,.int .u8 240,.int .u8 240,.int .u8 240,.int .u8 240,.int .u8 240,.int .u8 240,.int .u8 240,.int .u8 240,.int .u8 240,.int .u8 240,.int .u8 240,.int .u8 240,.int .u8 240,.int .u8 240,.int .u8 240,.int .u8 240,.int .u8 240,.int .u8 240,.int .u8 240,.int .u8 240,.int .u8 240,.int .u8 240,.int .u8 240,.int .u8 240,.int .u8 240,.int .u8 240,.int .u8 240,.int .u8 240,.int .u8 240,.int .u8 240,.int .u8 240,.int .u8 240,.int .u8 240,.int .u8 240,.int .u8 240,.int .u8 240,.int .u8 240,.int .u8 240,.int .u8 240,.int .u8 240,.int .u8 240,.int .u8 240,.int .u8 240,.int .u8 240,.int .u8 240,.int .u8 240,.int .u8 240,.int .u8 240,.int .u8 240,.int .u8 240,.int .u8 240,.int .u8 240,.int .u8 240,.int .u8 240,.int .u8 240,.int .u8 240,.int .u8 240,.int .u8 240,.int .u8 240,.int .u8 240,.int .u8 240,.int .u8 240,.int .u8 240,.int .u8 240,.int .u8 240,.int .u8 240,.int .u8 240,.int .u8 240,.int .u8 240,.int .u8 240,.int .u8 241,.int .u8 241,.int .u8 241,.int .u8 241,.int .u8 241,.int .u8 241,.int .u8 241,.int .u8 241,.int .u8 241,.int .u8 241,.int .u8 241,.int .u8 241,.int .u8 241,.int .u8 241,.int .u8 241,.int .u8 241,.int .u8 241,.int .u8 241,.int .u8 241,.int .u8 241,.int .u8 241,.int .u8 241,.int .u8 241,.int .u8 241,.int .u8 241,.int .u8 241,.int .u8 241,.int .u8 241,.int .u8 241,.int .u8 241,.int .u8 241,.int .u8 241,.int .u8 241,.int .u8 241,.int .u8 241,.int .u8 241,.int .u8 241,.int .u8 241,.int .u8 241,.int .u8 241,.int .u8 241,.int .u8 241,.int .u8 241,.int .u8 241,.int .u8 241,.int .u8 241,.int .u8 241,.int .u8 241,.int .u8 241,.int .u8 241,.int .u8 241,.int .u8 241,.int .u8 241,.int .u8 241,.int .u8 241,.int .u8 241,.int .u8 241,.int .u8 241,.int .u8 241,.int .u8 241,.int .u8 241,.int .u8 241,.int .u8 241,.int .u8 241,.int .u8 241,.int .u8 241,.int .u8 2,.int .u8 2,.int .u8 2,.int .u8 2,.int .u8 2,.int .u8 2,.int .u8 2,.int .u8 2,.int .u8 2,.int .u8 2,.int .u8 2,.int .u8 2,.int .u8 2,.int .u8 2,.int .u8 2,.int .u8 2,.int .u8 2,.int .u8 2,.int .u8 2,.int .u8 2,.int .u8 2,.int .u8 2,.int .u8 2,.int .u8 2,.int .u8 2,.int .u8 2,.int .u8 2,.int .u8 2,.int .u8 2,.int .u8 2,.int .u8 19,.int .u8 3,.int .u8 3,.int .u8 3,.int .u8 3,.int .u8 3,.int .u8 3,.int .u8 3,.int .u8 3,.int .u8 3,.int .u8 3,.int .u8 3,.int .u8 3,.int .u8 35,.int .u8 3,.int .u8 3,.int .u8 52,.int .u8 4,.int .u8 4,.int .u8 4,.int .u8 68,.int .u8 241,.int .u8 241,.int .u8 241,.int .u8 241,.int .u8 241,.int .u8 241,.int .u8 241,.int .u8 241,.int .u8 241,.int .u8 241,.int .u8 241]
def G_1:List V:=[.int .u8 128,.int .u8 191,.int .u8 160,.int .u8 191,.int .u8 128,.int .u8 159,.int .u8 144,.int .u8 191,.int .u8 128,.int .u8 143,.int .u8 0,.int .u8 0,.int .u8 0,.int .u8 0,.int .u8 0,.int .u8 0,.int .u8 0,.int .u8 0,.int .u8 0,.int .u8 0,.int .u8 0,.int .u8 0,.int .u8 0,.int .u8 0,.int .u8 0,.int .u8 0,.int .u8 0,.int .u8 0,.int .u8 0,.int .u8 0,.int .u8 0,.int .u8 0]
def Vo:=kl [[0,1,2],[0,1,2,21],[6],[1,2,7],[2,7,8],[2,7,8,9,10],[2,7,8,9,10,11],[7,10,12],[7,12,75],[7,12],[7,12,13,14],[13,14,15,16,17],[13,14,15,16,17,18],[6]]
def Vw:=kd [(7,[],[31],[0,1,2,3,4,5,6,7,8,9,10,11,12,13,14,15,16,17,18,19,20,21,22,23,24,25,26,27,28,29,30],[])]
noncomputable def zen:C:=cd prog f4 Vo Vw
def zdV:PC:=
 ann [] zen (.s 6 (.l (.c ⟨[(7,.same),(10,.same),(12,.same)],[.same,.same,(.box 11)]⟩ [(.nrm,⟨[(7,.same),(12,.same)],[.same,.same,(.cells [.v,.v,.v,.v,.v,.v,.v,.v,.v,.v,.v])]⟩)] .n)))
def Z1:PFn:=⟨[.tmp 6],zdV,false⟩
def qx:Fn:=nf 3 Z1
def zaz:=kl [[0,1],[1,5],[1,5,10],[5],[4]]
def zaH:=kd []
noncomputable def zjX:C:=cd prog f6 zaz zaH
def zj7:PC:=
 ann [] zjX .n
def Vf:PFn:=⟨[.tmp 4],zj7,false⟩
def Yt:Fn:=nf 2 Vf
def zsR:PC:=
 (.seq
 (.blk 1000000
 (.seq
 (.seq
 (.reg (.box 8 2 (.s 0)<|
 .box 11 3 (.s 1)<|
 oq 4 (.alloc zt8)<|
 oq 5 (.alloc [.bool false])<|
 .nil) [2,3,4,5])
 (.seq
 (.reg (.nil) [2,3,4,5])
 (.seq
 (.seq
 (.reg (oq 7 (.load true 8 (.s 2))<|
 oq 8 (.load true 11 (.s 3))<|
 oq 1000000 (.call wo [.s 7,.s 8])<|
 oq 1000001 (.ext (.s 1000000) 0)<|
 .nil) [1000000,1000001,4,9,5,4,5,4,5])
 (.cond (.s 1000001)
 (.reg (oq 9 (.ext (.s 1000000) 1)<|
 oz (.store 8 (.s 4) (.s 9))<|
 oz (.store 1 (.s 5) kt)<|
 .nil) [4,5])
 (.seq
 (.reg (oq 1000000 (.ext (.s 1000000) 1)<|
 .nil) [1000000,4,5])
 (.exit 1000000))))
 (.seq
 (.reg (oq 1000000 (.mv (.k .nili))<|
 .nil) [1000000,4,5])
 (.exit 1000000)))))
 (.seq
 (.reg (oq 1000000 (.mv (.k .nili))<|
 .nil) [1000000,4,5])
 (.exit 1000000))))
 (.reg (oz (.call qK [.s 4,.s 5,.s 1000000])<|
 .nil) [4,5]))
def zev:PFn:=⟨[.cell 4 true 8,.cell 5 false 1],zsR,false⟩
def zt6:C:=
 (.seq
 (.reg [nq 2 (.box (.s 0)),nq 3 (.box (.s 1)),nq 4 (.alloc zt8),nq 5 (.alloc [.bool false])] [2,3,4,5])
 (.seq
 (.reg [] [2,3,4,5])
 (.seq
 (.reg [nq 7 (.load true 8 (.s 2)),nq 8 (.load true 11 (.s 3)),nq 9 (.call QI [.s 7,.s 8]),⟨none,.store 8 (.s 4) (.s 9),none⟩,⟨none,.store 1 (.s 5) kt,none⟩] [4,5])
 .ret)))
def zeF:Fn:=⟨2,[.cell 4 true 8,.cell 5 false 1],false,false,zt6⟩
def zuJ:Fn:=nf 2 zev
def zau:=kl [[],[1],[2,3,4],[0]]
def zaI:=kd []
noncomputable def zka:C:=cd prog f8 zau zaI
def zjq:PC:=
 ann [] zka .n
def WT:PFn:=⟨[.tmp 0],zjq,false⟩
def Yv:Fn:=nf 0 WT
def zdp:=kl [[0,1,4],[4,5],[4]]
def zcj:=kd []
noncomputable def zmC:C:=cd prog f9 zdp zcj
def zng:PC:=
 ann [] zmC .n
def QS:PFn:=⟨[.cell 4 true 8],zng,false⟩
def Xe:Fn:=nf 2 QS
def zff:=kl [[1,2],[1,2,5],[1,2,5,6],[1,2,5,6,16],[1,2,5,6],[1,2,5,6,7],[1,2,5,6,7,42],[5,7,45],[5],[4],[1,2,5,6,8],[1,2,5,6,8,63],[1,2,5,6,8],[1,2,5,6,8],[1,2,5,6],[4]]
def zfk:=kd []
noncomputable def zoQ:C:=cd prog f10 zff zfk
def zoM:PC:=
 ann [(2,8)] zoQ (.s 1 (.l (.s 0 (.l (.o ⟨[(1,.same),(2,.same),(5,(.own 1)),(6,.v)],[(.box 8)]⟩ [(.ext 0,⟨[(5,(.own 1))],[(.box 8)]⟩),(.ret,⟨[(4,(.own 1))],[(.box 8)]⟩)] (.s 0 (.l (.l (.s 2 (.l (.c ⟨[(1,.same),(2,.same),(5,(.own 1)),(6,.same),(8,.same)],[.same]⟩ [(.nrm,⟨[(1,.same),(2,.same),(5,(.own 1)),(6,.same),(8,.same)],[.same]⟩)] .n)))))))))))
def Kq:PFn:=⟨[.tmp 4],zoM,false⟩
def Wv:Fn:=nf 2 Kq
def zft:=kl [[1,2,4],[1,2,4,6],[1,2,4,6,12],[1,2,4,6],[1,2,4,6,7,8],[1,2,4,6,7,25],[4,5],[1,2,4,6],[4,5]]
def zfE:=kd [(4,[],[9],[0,1,2,3,4,5,6,7,8],[])]
noncomputable def zpq:C:=cd prog f11 zft zfE
def zoz:PC:=
 ann [(2,8)] zpq (.s 0 (.l (.s 0 (.l (.o ⟨[(1,.same),(2,.same),(4,.same),(6,.v)],[(.box 8),(.cells [.v,.v,.v,.v,.v,.v,.v,.v])]⟩ [(.ext 0,⟨[(2,.same),(4,.same)],[(.box 8),(.box 8)]⟩),(.ret,⟨[(4,.same),(5,.v)],[(.box 8),(.cells [.v,.v,.v,.v,.v,.v,.v,.v])]⟩)] .n)))))
def Kf:PFn:=⟨[.cell 4 true 8,.tmp 5],zoz,false⟩
def WA:Fn:=nf 2 Kf
def Q9:=kl [[0],[2]]
def Q0:=kd []
noncomputable def zf2:C:=cd prog f12 Q9 Q0
def Q1:PC:=
 ann [] zf2 .n
def Q8:PFn:=⟨[.tmp 2],Q1,false⟩
def kx:Fn:=⟨1,[.tmp 2],false,true,xz Q1⟩
def zfo:=kl [[1,2,3,6],[1,2,3,6,20],[6,7,8],[2,3,6,22,23,24],[2,3,6,22,23,24,25],[2,3,6,9,10,22,23,24],[2,3,6,9,11,12,22,23,24],[2,3,6,9,11,22,23,24,35],[6,7,8],[2,3,6,9,11,22,23,24,40],[6,7,8],[2,3,6,22,23,24],[2,3,6,22,23,24],[6,7,8]]
def zfw:=kd []
noncomputable def zpQ:C:=cd prog f13 zfo zfw
def zpD:PC:=
 ann [(3,8)] zpQ (.s 1 (.l (.s 0 (.l (.o ⟨[(2,.same),(3,.same),(6,.same),(22,.same),(23,.same),(24,.v)],[(.box 8),(.cells [.v,.v,.v,.v,.v,.v,.v,.v])]⟩ [(.ext 0,⟨[(3,.same),(6,.same)],[(.box 8),(.box 8)]⟩),(.ret,⟨[(6,.same),(7,.v),(8,.v)],[(.box 8),(.cells [.v,.v,.v,.v,.v,.v,.v,.v])]⟩)] .n)))))
def Jx:PFn:=⟨[.cell 6 true 8,.tmp 7,.tmp 8],zpD,false⟩
def WG:Fn:=nf 3 Jx
def Vm:=kl [[2,3],[2,3,49],[4],[2,3,5],[2,3,5,54],[2,3,5],[2,3,5,68],[4],[4]]
def Vu:=kd [(6,[],[],[0,1,2,3,4,5,6,7,8,9],[])]
noncomputable def zdP:C:=cd prog f14 Vm Vu
def zdW:PC:=
 ann [(2,8),(3,8)] zdP (.s 1 (.l (.s 0 (.l (.o ⟨[(2,.same),(3,.same),(5,.v)],[.same,.same]⟩ [(.ext 0,⟨[],[.same,.same]⟩),(.ret,⟨[(4,.v)],[.same,.same]⟩)] .n)))))
def Z5:PFn:=⟨[.tmp 4],zdW,false⟩
def jS:Fn:=nf 2 Z5
def zof:PC:=
 (.seq
 (.reg (om 6 2<|
 oq 7 (.inil true (.s 6))<|
 .nil) [0,1,2,7])
 (.cond (.s 7)
 (.seq
 (.seq
 (.reg (om 9 2<|
 oq 10 (.tas 52 true (.s 9))<|
 om 8 10<|
 oq 11 (.ext (.s 8) 0)<|
 oq 12 (.ext (.s 8) 1)<|
 oq 3 (.alloc [])<|
 oz (.store 0 (.s 3) (.s 11))<|
 om 4 12<|
 .nil) [0,1,2,4])
 (.seq
 (.reg (om 13 4<|
 oq 14 (.un .not (.s 13))<|
 .nil) [0,1,2,14])
 (.cond (.s 14)
 (.seq
 (.reg (om 15 2<|
 om 1000000 15<|
 oq 1000001 (.inil true (.s 1000000))<|
 .nil) [1000000,1000001])
 (.cond (.s 1000001)
 (.exit 1000000)
 (.exit 1000002)))
 .skip)))
 (.reg (oq 16 (.build zt8 [])<|
 oz (.store 8 (.s 0) (.s 16))<|
 oz (.store 1 (.s 1) kf)<|
 .nil) []))
 .skip))
def Ky:PFn:=⟨[],zof,false⟩
def zoY:C:=
 (.seq
 (.reg [nm 6 2,nq 7 (.inil true (.s 6))] [0,1,2,7])
 (.cond (.s 7)
 (.seq
 (.seq
 (.reg [nm 9 2,nq 10 (.tas 52 true (.s 9)),nm 8 10,nq 11 (.ext (.s 8) 0),nq 12 (.ext (.s 8) 1),nq 3 (.alloc []),⟨none,.store 0 (.s 3) (.s 11),none⟩,nm 4 12] [0,1,2,4])
 (.seq
 (.reg [nm 13 4,nq 14 (.un .not (.s 13))] [0,1,2,14])
 (.cond (.s 14)
 (.reg [nm 15 2,⟨none,.pan (.s 15),none⟩] [0,1])
 .skip)))
 (.reg [nq 16 (.build zt8 []),⟨none,.store 8 (.s 0) (.s 16),none⟩,⟨none,.store 1 (.s 1) kf,none⟩] []))
 .skip))
def WH:Fn:=⟨3,[],false,false,zoY⟩
def zfM:Fn:=nf 3 Ky
def zhf:=kl [[2,3,4],[2,3,4,6],[2,3,4,6,7],[4],[2,3,4,6,15],[4],[2,3,4,6,21],[4],[2,3,4,6,29],[4],[2,3,4,37],[4],[2,4],[4]]
def ziH:=kd [(11,[],[],[0,1,2,3,4,5,6],[]),(12,[],[],[0,1,2,3,4,5,6,8,9,7],[])]
noncomputable def zg7:C:=cd prog f17 zhf ziH
def zrj:PC:=
 ann [(2,8),(3,11)] (vr mk0 [] false zg7) .n
def zbS:PFn:=⟨[.cell 4 true 8],zrj,true⟩
def zbL:Fn:=⟨2,[.cell 4 true 8],false,false,zg7⟩
def zqm:Fn:=nf 2 zbS
def zcb:=kl [[0,1,4],[0,1,4,18],[4,5],[0,1,4,6],[0,1,4,6],[0,1,4,6,7],[0,1,4,6,7,33],[0,1,4,6,7],[0,1,4,6,36],[0,1,4,6,36,37],[4,5],[0,1,4,6,36,41],[4,5],[0,1,4,6,36,49],[0,1,4,6,36,49],[4,5],[0,1,4,6,36,57],[4,5],[0,1,4,6,36,67],[4,5],[0,1,4,6,36,75],[0,1,4,6,36,75],[0,1,4,6,75],[0,1,4,6,8],[0,1,4,6,8,9],[0,1,4,6,8,9,84],[0,1,4,6,8,9],[1,4,6,8,9,10,11],[1,4,6,8,9,11],[0,1,4,6,8,9],[4,5],[0,1,4,6,12],[0,1,4,6,12,13],[0,1,4,6,12,13,108],[0,1,4,6,12,13],[1,4,6,12,13,14,15],[1,4,6,12,13,15],[0,1,4,6,12,13],[4,5]]
def zch:=kd [(36,[],[],[0,1,2,3,4,5,6,7,8,9,10],[])]
noncomputable def zmY:C:=cd prog f18 zcb zch
def zni:PC:=
 ann [] zmY (.s 4 (.b (.c ⟨[(0,.same),(1,.same),(4,.same),(6,.same),(7,.v)],[.same]⟩ [(.nrm,⟨[(0,.same),(1,.same),(4,.same),(6,.same),(7,.v)],[.same]⟩)] .n) (.b (.c ⟨[(0,.v),(1,.same),(4,.same),(6,.same),(7,.same)],[(.cells [.v,.v,.v,(.own 8),.v,.v,(.own 8),(.own 8)])]⟩ [(.nrm,⟨[(0,.v),(1,.same),(4,.same),(6,.same)],[(.cells [.v,.v,.v,(.own 8),.v,.v,(.own 8),(.own 8)])]⟩),(.ret,⟨[(4,.same),(5,.v)],[(.cells [.v,.v,.v,.v,.v,.v,(.own 8),(.own 8)])]⟩)] (.s 0 (.l (.s 3 (.b (.c ⟨[(0,.same),(1,.same),(4,.same),(6,.same),(36,.same)],[(.cells [.v,.v,.v,(.own 8),.v,.v,(.own 8),(.own 8)])]⟩ [(.nrm,⟨[(0,.same),(1,.same),(4,.same),(6,.same),(36,.same),(49,.v)],[(.cells [.v,.v,.v,(.own 8),.v,.v,(.own 8),(.own 8)])]⟩)] .n) (.s 4 (.b (.c ⟨[(0,.same),(1,.same),(4,.same),(6,.same),(36,.same)],[(.cells [.v,.v,.v,(.own 8),.v,.v,(.own 8),(.own 8)])]⟩ [(.nrm,⟨[(0,.same),(1,.same),(4,.same),(6,.same),(75,.v)],[(.cells [.v,.v,.v,(.own 8),.v,.v,(.own 8),(.own 8)])]⟩)] .n) (.l (.s 0 (.l (.s 0 (.l (.o ⟨[(0,.v),(1,.same),(4,.same),(6,.same),(8,.same),(9,.v)],[(.cells [.v,.v,.v,(.own 8),.v,.v,(.own 8),(.own 8)]),(.cells [.v,.v,.v,(.own 8),.v,.v,(.own 8),(.own 8)])]⟩ [(.ext 1,⟨[(0,.v),(4,.same),(8,.same)],[(.cells [.v,.v,.v,(.own 8),.v,.v,(.own 8),(.own 8)]),(.cells [.v,.v,.v,(.own 8),.v,.v,(.own 8),(.own 8)])]⟩)] .n))))))))))))) (.s 0 (.l (.s 0 (.l (.o ⟨[(0,.v),(1,.same),(4,.same),(6,.same),(12,.same),(13,.v)],[(.cells [.v,.v,.v,(.own 8),.v,.v,(.own 8),(.own 8)]),(.cells [.v,.v,.v,.v,.v,.v,.v,.v])]⟩ [(.ext 3,⟨[(0,.v),(4,.same),(12,.same)],[(.cells [.v,.v,.v,(.own 8),.v,.v,(.own 8),(.own 8)]),(.box 8)]⟩)] .n))))))))
def Qg:PFn:=⟨[.cell 4 true 8,.tmp 5],zni,false⟩
def Y9:Fn:=nf 2 Qg
def za2:=kl [[1,2,4],[1,2,4,10],[1,2,4,6,7],[1,2,4,6,20],[4,5],[4,5]]
def za0:=kd []
noncomputable def zkb:C:=cd prog f19 za2 za0
def zjo:PC:=
 ann [(2,8)] zkb (.s 0 (.l (.c ⟨[(1,.same),(2,.same),(4,.same)],[.same,(.cells [.v,.v,.v,.v,.v,.v,.v,.v])]⟩ [(.nrm,⟨[(1,.same),(2,.same),(4,.same)],[.same,(.box 8)]⟩),(.ret,⟨[(4,.same),(5,.v)],[.same,(.box 8)]⟩)] .n)))
def Vh:PFn:=⟨[.cell 4 true 8,.tmp 5],zjo,false⟩
def Yo:Fn:=nf 2 Vh
def zdg:=kl [[1],[1,3],[2]]
def zdf:=kd []
noncomputable def zma:C:=cd prog f20 zdg zdf
def zlJ:PC:=
 ann [(1,8)] zma .n
def V4:PFn:=⟨[.tmp 2],zlJ,false⟩
def Xl:Fn:=nf 1 V4
def zfe:=kl [[0],[2]]
def zfp:=kd []
noncomputable def zor:C:=cd prog f21 zfe zfp
def zo6:PC:=
 ann [] zor .n
def JZ:PFn:=⟨[.tmp 2],zo6,false⟩
def WL:Fn:=nf 1 JZ
def zjk:=kl [[1,2],[4]]
def zit:=kd []
noncomputable def zq1:C:=cd prog f22 zjk zit
def zqY:PC:=
 ann [(2,8)] zq1 .n
def zbd:PFn:=⟨[.tmp 4],zqY,false⟩
def Qx:Fn:=nf 2 zbd
def Q7:=kl [[2,3],[4]]
def Jb:=kd []
noncomputable def zfZ:C:=cd prog f23 Q7 Jb
def zfR:PC:=
 ann [(2,3),(3,3)] zfZ .n
def YQ:PFn:=⟨[.tmp 4],zfR,false⟩
def kA:Fn:=nf 2 YQ
def Y2:=kl [[0,1],[0,1,10],[4],[0,1,5],[0,1,5,14],[0,1,5],[0,1,5,25],[4],[4]]
def Y3:=kd [(6,[],[],[0,1,2,3,4,5,6,7],[])]
noncomputable def zal:C:=cd prog f24 Y2 Y3
def zak:PC:=
 ann [] zal (.s 1 (.l (.s 0 (.l (.o ⟨[(0,.same),(1,.same),(5,.v)],[]⟩ [(.ext 0,⟨[],[]⟩),(.ret,⟨[(4,.v)],[]⟩)] .n)))))
def ke:PFn:=⟨[.tmp 4],zak,false⟩
def qt:Fn:=nf 2 ke
def zlc:=kl [[1,3,5,6],[1,3,5,6,14],[6],[3,5,6,7,8],[3,5,6,7,8,9],[3,5,6,7,8,9,25],[3,5,6,7,8,9,25,26],[6],[3,5,6,7,8,9,35],[3,5,6,7,8,9,10,11],[3,5,6,7,9,10,11,46],[3,5,6,7,9,10,11],[3,5,6,7,9,10],[6],[6]]
def zkD:=kd [(7,[],[],[0,1,2,3,4,5],[]),(13,[],[],[0,1,2,3,4,5,6,7,8,9,10,11,12,13,14],[])]
noncomputable def zk7:C:=cd prog f25 zlc zkD
def zs7:PC:=
 ann [(3,8),(5,8)] (vr mk0 [] false zk7) (.s 3 (.l (.s 0 (.l (.s 2 (.l (.s 0 (.l (.c ⟨[(3,.same),(5,.same),(6,.same),(7,.same),(8,.same),(9,.same),(10,.v),(11,.v)],[.same,.same,.same,.same]⟩ [(.nrm,⟨[(3,.same),(5,.same),(6,.same),(7,.same),(9,.same),(10,.v),(11,.v)],[.same,.same,.same,.same]⟩)] .n)))))))))
def zeB:PFn:=⟨[.cell 6 true 8],zs7,true⟩
def zeC:Fn:=⟨3,[.cell 6 true 8],false,false,zk7⟩
def zsX:Fn:=nf 3 zeB
def zb2:=kl [[1,2,4],[1,2,4],[1,2,4],[2,4,5,6],[2,4,5,6,7],[2,4,5,6,7,27],[4],[2,4,5,7,8],[4]]
def zcZ:=kd [(6,[],[],[0,1,2,3,4],[]),(8,[],[],[0,1,2,3,4,5,6,7,8,9,10,11,12,13],[])]
noncomputable def zcf:C:=cd prog f26 zb2 zcZ
def zmM:PC:=
 ann [(2,8)] (vr mk0 [] false zcf) .n
def Qm:PFn:=⟨[.cell 4 true 8],zmM,true⟩
def QP:Fn:=⟨2,[.cell 4 true 8],false,false,zcf⟩
def zlK:Fn:=nf 2 Qm
def zkv:=kl [[1,3,5,6],[3,6,7],[3,6],[6]]
def zky:=kd []
noncomputable def zkO:C:=cd prog f27 zkv zky
def zs0:PC:=
 ann [(3,8),(5,8)] (vr mk0 [] false zkO) .n
def zdI:PFn:=⟨[.cell 6 true 8],zs0,true⟩
def zeS:Fn:=⟨3,[.cell 6 true 8],false,false,zkO⟩
def zs9:Fn:=nf 3 zdI
def zhm:=kl [[1,2,3,6],[1,2,3,6,7],[1,2,3,6,7,13],[6],[1,2,3,6,7],[6]]
def zgC:=kd [(5,[],[],[0,1,3,4,2],[])]
noncomputable def zhQ:C:=cd prog f28 zhm zgC
def zq4:PC:=
 ann [(3,8)] (vr mk0 [] false zhQ) .n
def zbA:PFn:=⟨[.cell 6 true 8],zq4,true⟩
def zby:Fn:=⟨3,[.cell 6 true 8],false,false,zhQ⟩
def zqI:Fn:=nf 3 zbA
def zkS:=kl [[1,2,4],[4,5,6],[4,5],[4]]
def zk4:=kd []
noncomputable def zkz:C:=cd prog f29 zkS zk4
def zuE:PC:=
 ann [(2,8)] (vr mk0 [] false zkz) .n
def zee:PFn:=⟨[.cell 4 true 8],zuE,true⟩
def zd6:Fn:=⟨2,[.cell 4 true 8],false,false,zkz⟩
def ztQ:Fn:=nf 2 zee
def zhe:=kl [[3]]
def zic:=kd []
noncomputable def zjl:C:=cd prog f30 zhe zic
def zqV:PC:=
 ann [] (vr mk0 [] false zjl) .n
def zbf:PFn:=⟨[],zqV,true⟩
def zbg:Fn:=⟨1,[],false,false,zjl⟩
def zqf:Fn:=nf 1 zbf
def zfI:=kl [[2,3],[2,3,9],[4],[2,3,11],[2,3,11,12],[2,3,11,14],[2,3,11,16],[2,3,11,18],[2,3,11,20],[2,3,22],[4],[4],[4],[4],[4],[4]]
def zfA:=kd []
noncomputable def znw:C:=cd prog f31 zfI zfA
def znx:PC:=
 ann [(2,8),(3,8)] znw (.s 1 (.l (.s 0 (.l (.l (.l (.l (.l (.l (.c ⟨[(2,.same),(3,.same),(11,.same)],[.same,.same]⟩ [(.ext 0,⟨[],[.same,.same]⟩),(.ext 5,⟨[(2,.same),(3,.same)],[.same,.same]⟩),(.ext 6,⟨[(2,.same),(3,.same)],[.same,.same]⟩),(.nrm,⟨[(2,.same),(3,.same)],[.same,.same]⟩),(.ret,⟨[(4,.v)],[.same,.same]⟩)] .n))))))))))
def Js:PFn:=⟨[.tmp 4],znx,false⟩
def Ws:Fn:=nf 2 Js
def JF:=kl [[0,2],[0,2,10],[0,2,10,11],[2],[0,2,10,18],[2,3],[2],[0,2,10,38],[2,5],[2],[0,2,54],[2,7],[2],[2]]
def Kz:=kd []
noncomputable def zih:C:=cd prog f32 JF Kz
def zgO:PC:=
 ann [] zih .n
def XY:PFn:=⟨[.cell 2 true 3],zgO,false⟩
def Zq:Fn:=nf 1 XY
def zfN:=kl [[1,3,5,6],[1,3,5,6,7],[1,3,5,6,7,8],[1,3,5,6,7,8,10],[1,3,5,6,7,8,10,11],[1,3,5,6,7,8,10,11,35],[1,3,5,6,7,8,10,11],[1,3,5,6,7,8,10,11,38],[1,3,5,6,7,10,11],[1,3,5,6,7,8,10,11],[1,3,5,6,7,8,10,11,62],[1,3,5,6,7,10,11],[1,3,5,6,7,8,10,11],[1,3,5,6,7,8,10,11],[1,5,6,7,111],[6,7],[6]]
def zfi:=kd [(8,[],[],[0,1,2,3,4,5,6,7,8,9,10],[]),(11,[],[],[0,1,2,3,4,5,6,7,8,9,10],[]),(13,[],[],[0,1,2,3,4,5,6,7,8,9,10,11,12,13,14,15,16,17,18],[]),(15,[],[],[0,1,2,3,4,5,6,7,8,9,10],[])]
noncomputable def zpz:C:=cd prog f33 zfN zfi
def zo4:PC:=
 ann [(3,8),(5,8)] zpz (.s 3 (.b (.s 0 (.l (.o ⟨[(1,.same),(3,.same),(5,.same),(6,.same),(7,.same),(8,.v),(10,.same),(11,.v)],[.same,.same,.same,(.cells [.v,.v,.v,(.own 1),.v,.v,(.own 1),(.own 8)]),.same]⟩ [(.ext 0,⟨[(1,.same),(5,.same),(6,.same),(7,.same),(8,.v)],[.same,.same,.same,(.cells [.v,.v,.v,(.own 1),.v,.v,(.own 1),(.own 8)]),.same]⟩)] (.s 0 (.l (.l (.b (.l (.s 0 (.b (.l .q) (.s 0 (.l (.l .q)))))) .q))))))) (.l (.s 0 (.l .q)))))
def KA:PFn:=⟨[.cell 6 true 8],zo4,false⟩
def WF:Fn:=nf 3 KA
def zaC:=kl [[],[0]]
def zao:=kd []
noncomputable def zjO:C:=cd prog f34 zaC zao
def zaL:PC:=
 ann [] zjO .n
def zaB:PFn:=⟨[.tmp 0],zaL,false⟩
def Yu:Fn:=⟨0,[.tmp 0],false,true,xz zaL⟩
def zaw:=kl [[0,1],[0,1,25],[4,5],[0,1,6],[0,1,6,7],[0,1,6,7,29],[0,1,6,7],[0,1,6,7,41],[4,5],[0,1,6,7],[6,52],[4,5],[4,5]]
def zat:=kd []
noncomputable def zjN:C:=cd prog f35 zaw zat
def zjY:PC:=
 ann [] zjN (.s 2 (.l (.s 0 (.l (.o ⟨[(0,.same),(1,.same),(6,.v),(7,.v)],[]⟩ [(.ext 0,⟨[(1,.same),(6,.v)],[]⟩),(.ret,⟨[(4,.v),(5,.v)],[]⟩)] .n)))))
def WZ:PFn:=⟨[.tmp 4,.tmp 5],zjY,false⟩
def YD:Fn:=nf 2 WZ
def Jw:=kl [[1,2,4],[1,2,4,6],[1,2,4,6,23],[1,2,4,6],[1,2,4,6,32],[4,5],[4,5]]
def JO:=kd []
noncomputable def zhO:C:=cd prog f36 Jw JO
def zhA:PC:=
 ann [(2,8)] zhO (.s 0 (.l (.s 0 (.l (.o ⟨[(1,.same),(2,.same),(4,.same),(6,.v)],[.same,(.cells [.v,.v,.v,.v,.v,.v,.v,.v])]⟩ [(.ext 0,⟨[(4,.same)],[.same,(.box 8)]⟩),(.ret,⟨[(4,.same),(5,.v)],[.same,(.box 8)]⟩)] .n)))))
def XT:PFn:=⟨[.cell 4 true 8,.tmp 5],zhA,false⟩
def Zw:Fn:=nf 2 XT
def zcF:=kl [[1,2,3],[1,2,3],[1,2,3,26],[6],[1,2,28,29,30],[1,2,28,29,30,31],[1,2,8,28,29,30],[1,2,28,29,30,39],[6],[1,2,28,29,30],[6]]
def zdy:=kd []
noncomputable def zmJ:C:=cd prog f37 zcF zdy
def zmr:PC:=
 ann [(3,8)] zmJ (.s 2 (.l (.s 0 (.l (.o ⟨[(1,.same),(2,.same),(28,.same),(29,.same),(30,.v)],[(.cells [.v]),.same]⟩ [(.ext 0,⟨[],[(.cells [.v]),.same]⟩),(.ret,⟨[(6,.v)],[(.cells [.v]),.same]⟩)] .n)))))
def Qf:PFn:=⟨[.tmp 6],zmr,false⟩
def Xg:Fn:=nf 3 Qf
def wU:=kl [[0,1],[4]]
def wY:=kd []
noncomputable def j9:C:=cd prog f38 wU wY
def kb:PC:=
 ann [] j9 .n
def xA:PFn:=⟨[.tmp 4],kb,false⟩
def yV:Fn:=nf 2 xA
def zaS:=kl [[1],[2]]
def zaM:=kd []
noncomputable def zjH:C:=cd prog f39 zaS zaM
def zki:PC:=
 ann [(1,11)] zjH .n
def Vj:PFn:=⟨[.tmp 2],zki,false⟩
def Yr:Fn:=nf 1 Vj
def zkt:=kl [[1],[1,3,4],[1,3,4,13],[1,3,4,13,14],[1,3,4,13,16],[1,3,4,13,18],[1,3,4,13,18],[1,3,4,13,18],[1,3,4,22],[1,3,4],[1,3,4],[2],[2]]
def zk9:=kd [(1,[],[],[0,1,2,3,4,5,6],[])]
noncomputable def ztS:C:=cd prog f40 zkt zk9
def zuv:PC:=
 ann [(1,11)] ztS (.s 1 (.l (.c ⟨[(1,.same),(3,.v),(4,.v)],[.same]⟩ [(.nrm,⟨[(1,.same),(4,.v),(3,.v)],[.same]⟩),(.ret,⟨[(2,.v)],[.same]⟩)] (.s 0 (.l (.l (.l (.l (.l (.l (.c ⟨[(1,.same),(3,.v),(4,.same),(13,.same)],[.same]⟩ [(.ext 0,⟨[(1,.same),(4,.same),(3,.v)],[.same]⟩),(.ext 4,⟨[(1,.same),(3,.v),(4,.same)],[.same]⟩),(.ext 5,⟨[],[.same]⟩),(.nrm,⟨[(1,.same),(3,.v)],[.same]⟩)] (.l (.l (.c ⟨[(1,.same),(3,.same),(4,.same),(13,.same)],[.same]⟩ [(.ext 3,⟨[(1,.same),(3,.same)],[.same]⟩),(.ext 4,⟨[(1,.same),(3,.same),(4,.same)],[.same]⟩),(.ext 5,⟨[],[.same]⟩),(.nrm,⟨[(1,.same),(4,.same)],[.same]⟩)] .n))))))))))))))
def zeg:PFn:=⟨[.tmp 2],zuv,false⟩
def zaa:Fn:=nf 1 zeg
def zaK:=kl [[1],[1,3],[1,3,7],[1,3,7,8],[1,3],[1,3,7,16],[1,3,16],[1,3],[3,25,26,27],[3,25,26,27,28],[3,5,25,26,27],[3,25,26,27],[3,25,26,27],[2]]
def zaR:=kd []
noncomputable def zjC:C:=cd prog f41 zaK zaR
def zjF:PC:=
 ann [(1,8)] zjC (.s 1 (.b (.c ⟨[(1,.same),(3,.v)],[.same]⟩ [(.nrm,⟨[(1,.same),(3,.v)],[.same]⟩)] (.s 0 (.l (.s 1 (.l (.c ⟨[(1,.same),(3,.same),(7,.same)],[.same]⟩ [(.nrm,⟨[(1,.same),(3,.same),(16,.v)],[.same]⟩)] .n)))))) (.l (.s 0 (.l (.o ⟨[(3,.v),(25,.same),(26,.same),(27,.v)],[.same]⟩ [(.ext 1,⟨[(3,.v)],[.same]⟩)] .n))))))
def WX:PFn:=⟨[.tmp 2],zjF,false⟩
def YC:Fn:=nf 1 WX
def zcX:=kl [[1],[1,3],[3,7,8,9],[3,7,8,9,10],[3,5,7,8,9],[3,7,8,9],[3,7,8,9],[2]]
def zdb:=kd []
noncomputable def zmH:C:=cd prog f42 zcX zdb
def zlM:PC:=
 ann [(1,8)] zmH (.s 1 (.l (.s 0 (.l (.o ⟨[(3,.v),(7,.same),(8,.same),(9,.v)],[.same]⟩ [(.ext 0,⟨[(3,.v)],[.same]⟩)] .n)))))
def QH:PFn:=⟨[.tmp 2],zlM,false⟩
def Xd:Fn:=nf 1 QH
def zb4:=kl [[1],[1,3],[3,7,8,9],[3,7,8,9,10],[3,5,7,8,9],[3,7,8,9],[3,7,8,9],[2]]
def zda:=kd []
noncomputable def zmb:C:=cd prog f43 zb4 zda
def zm9:PC:=
 ann [(1,8)] zmb (.s 1 (.l (.s 0 (.l (.o ⟨[(3,.v),(7,.same),(8,.same),(9,.v)],[.same]⟩ [(.ext 0,⟨[(3,.v)],[.same]⟩)] .n)))))
def Qi:PFn:=⟨[.tmp 2],zm9,false⟩
def Xk:Fn:=nf 1 Qi
def zlj:=kl [[1],[2]]
def zkV:=kd []
noncomputable def ztj:C:=cd prog f44 zlj zkV
def ztO:PC:=
 ann [(1,8)] ztj .n
def zet:PFn:=⟨[.tmp 2],ztO,false⟩
def KV:Fn:=nf 1 zet
def WD:=kl [[0,1],[0,1,10],[4],[0,1,5],[0,1,5,14],[0,1,5],[0,1,5,25],[4],[4]]
def Wn:=kd [(6,[],[],[0,1,2,3,4,5,6,7],[])]
noncomputable def zcl:C:=cd prog f45 WD Wn
def zcT:PC:=
 ann [] zcl (.s 1 (.l (.s 0 (.l (.o ⟨[(0,.same),(1,.same),(5,.v)],[]⟩ [(.ext 0,⟨[],[]⟩),(.ret,⟨[(4,.v)],[]⟩)] .n)))))
def ZC:PFn:=⟨[.tmp 4],zcT,false⟩
def jw:Fn:=nf 2 ZC
def zfj:=kl [[0],[2,3]]
def zeV:=kd [(1,[],[],[0,1,2,3,4,5,6,7,8,9,10,11],[])]
noncomputable def znP:C:=cd prog f46 zfj zeV
def zpO:PC:=
 ann [] znP .n
def JU:PFn:=⟨[.tmp 2,.tmp 3],zpO,false⟩
def Wy:Fn:=nf 1 JU
def zjn:=kl [[3,4,5,6],[4,5,6,7,8],[4,5,6,7,8,9,10],[4,5,6,8,9,10],[4,5,6,9,10],[4,5,6,9,10,11],[4,5,6,9,10,11,34],[6,9,10],[6],[4,5,6,9,10,12],[4,5,6,9,10,12,46],[4,5,6,9,10,12],[6]]
def zhZ:=kd [(2,[0,1,3,4],[2,5],[6],[]),(12,[],[],[0,1,2,3,4,5,6,7,8],[])]
noncomputable def zrH:C:=cd prog f47 zjn zhZ
def zrb:PC:=
 ann [(3,8),(4,1),(5,8)] zrH (.s 6 (.l (.c ⟨[(4,.same),(5,.same),(6,.same),(9,.same),(10,.same),(12,.v)],[.same,.same,.same,.same,.same,.same]⟩ [(.nrm,⟨[(4,.same),(5,.same),(6,.same),(9,.same),(10,.same),(12,.v)],[.same,.same,.same,.same,.same,.same]⟩)] .n)))
def zbV:PFn:=⟨[.cell 6 true 8],zrb,false⟩
def V5:Fn:=nf 3 zbV
def Q5:=kl [[0,1],[0,1,24],[4,5],[0,1,6],[0,1,6,26,27],[0,1,6,26,27,28],[0,1,6,7,26,27],[0,1,6,7,26,27,39],[4,5],[0,1,6,26,27],[0,1,6,26,27],[6,51],[4,5],[4,5]]
def Q6:=kd []
noncomputable def zfY:C:=cd prog f48 Q5 Q6
def zgc:PC:=
 ann [] zfY (.s 2 (.l (.s 0 (.l (.o ⟨[(0,.same),(1,.same),(6,.v),(26,.same),(27,.v)],[]⟩ [(.ext 0,⟨[(1,.same),(6,.v)],[]⟩),(.ret,⟨[(4,.v),(5,.v)],[]⟩)] .n)))))
def YU:PFn:=⟨[.tmp 4,.tmp 5],zgc,false⟩
def kB:Fn:=nf 2 YU
def X8:=kl [[0],[0,3],[0,3,9,10,11],[0,3,9,10,11,12],[0,3,5,9,10,11],[0,3,9,10,11],[0,3,9,10,11,20],[0,3,9,10,11],[0,3,9,10,11],[0,6],[6,25,26,27],[6,25,26,27,28],[6,8,25,26,27],[6,25,26,27],[6,25,26,27],[2]]
def XR:=kd []
noncomputable def XV:C:=cd prog f49 X8 XR
def zbx:PC:=
 ann [] (vr mk0 [] false XV) (.s 1 (.b (.s 0 (.l (.o ⟨[(0,.same),(3,.v),(9,.same),(10,.same),(11,.v)],[]⟩ [(.ext 0,⟨[(0,.same),(3,.v)],[]⟩),(.ext 1000000,⟨[(1000000,.v)],[]⟩),(.ext 1000002,⟨[],[]⟩)] .n))) (.s 0 (.l (.s 0 (.l (.o ⟨[(6,(.own 8)),(25,.same),(26,.same),(27,.v)],[]⟩ [(.ext 2,⟨[(6,(.own 8))],[]⟩)] .n)))))))
def kE:PFn:=⟨[.tmp 2],zbx,false⟩
def kF:Fn:=⟨1,[.tmp 2],false,false,XV⟩
def zbk:Fn:=nf 1 kE
def zcw:=kl [[1,2,4],[1,2,4,5,6],[2,4,5,6,7],[2,4,5,6,7,17],[4],[4]]
def zcN:=kd [(5,[],[],[0,1,2,3,4,5,6,7,8,9,10,11,12,13,14,15,16],[])]
noncomputable def zmZ:C:=cd prog f50 zcw zcN
def zl4:PC:=
 ann [(2,8)] zmZ .n
def Qt:PFn:=⟨[.cell 4 true 8],zl4,false⟩
def Xc:Fn:=nf 2 Qt
def zaJ:=kl [[1,3,5,6],[1,3,5,6,15],[6,7],[1,3,5,6,8,9],[1,3,5,6,8,9,25],[1,3,6,8,9],[1,3,6,8,34],[6,7],[1,3,6,8,38],[6,7],[3,6,8,10],[3,6,8,10,12],[3,6,8,10,12],[3,6,12],[3,6],[6,7]]
def zan:=kd [(3,[],[8],[0,1,2,3,4,5,6,7],[]),(5,[],[],[0,1,2,3,4,5,6,7],[]),(9,[],[],[0,1,2,3,4],[]),(10,[],[],[0,1,2,3,4,5,6,7,8,9,10,11],[])]
noncomputable def zjy:C:=cd prog f51 zaJ zan
def zjB:PC:=
 ann [(3,8),(5,8)] zjy (.s 2 (.l (.c ⟨[(1,.same),(3,.same),(5,.same),(6,.same),(8,.same),(9,.v)],[.same,.same,.same,(.box 8)]⟩ [(.nrm,⟨[(1,.same),(3,.same),(6,.same),(8,.same),(9,.v)],[.same,.same,.same,(.box 8)]⟩)] .n)))
def W8:PFn:=⟨[.cell 6 true 8,.tmp 7],zjB,false⟩
def Yx:Fn:=nf 3 W8
def ZM:=kl [[0,1],[0,1,10],[4],[0,1,12,13],[0,1,12,13,14],[0,1,5,12,13],[0,1,12,13,24],[4],[0,1,12,13],[4]]
def ZN:=kd [(6,[],[],[0,1,2,3,4,5,6,7],[])]
noncomputable def Jn:C:=cd prog f52 ZM ZN
def Jd:PC:=
 ann [] Jn (.s 1 (.l (.s 0 (.l (.o ⟨[(0,.same),(1,.same),(12,.same),(13,.v)],[]⟩ [(.ext 0,⟨[],[]⟩),(.ret,⟨[(4,.v)],[]⟩)] .n)))))
def js:PFn:=⟨[.tmp 4],Jd,false⟩
def vN:Fn:=nf 2 js
def Vy:=kl [[0,1],[4]]
def VR:=kd []
noncomputable def zec:C:=cd prog f53 Vy VR
def zdX:PC:=
 ann [] zec .n
def Yf:PFn:=⟨[.tmp 4],zdX,false⟩
def jU:Fn:=nf 2 Yf
def zaU:=kl [[1,2,4],[2,4,10,11,12],[2,4,10,11,12,13],[2,4,7,10,11,12],[2,4,8,9,10,11,12],[2,4,8,10,11,12,23],[4,5],[2,4,10,11,12],[2,4,10,11,12],[4,5]]
def zaW:=kd []
noncomputable def zkd:C:=cd prog f54 zaU zaW
def zjM:PC:=
 ann [(2,8)] zkd (.s 0 (.l (.s 0 (.l (.o ⟨[(2,.same),(4,.same),(10,.same),(11,.same),(12,.v)],[(.box 8),(.cells [.v,.v,.v,.v,.v,.v,.v,.v])]⟩ [(.ext 0,⟨[(2,.same),(4,.same)],[(.box 8),(.box 8)]⟩),(.ret,⟨[(4,.same),(5,.v)],[(.box 8),(.cells [.v,.v,.v,.v,.v,.v,.v,.v])]⟩)] .n)))))
def W6:PFn:=⟨[.cell 4 true 8,.tmp 5],zjM,false⟩
def Yz:Fn:=nf 2 W6
def zhG:=kl [[2,3],[2,3],[4]]
def ziW:=kd [(1,[],[],[0,1,2],[])]
noncomputable def zrt:C:=cd prog f55 zhG ziW
def zrx:PC:=
 ann [(2,3),(3,3)] zrt .n
def zbp:PFn:=⟨[.tmp 4],zrx,false⟩
def VY:Fn:=nf 2 zbp
def ZH:=kl [[0,1,2],[0,1,2,14],[6],[1,2,15,16,17],[1,2,15,16,17,18],[1,2,7,8,15,16,17],[1,2,8,9,15,16,17],[1,2,15,16,17,30],[6],[1,2,15,16,17],[6]]
def ZJ:=kd []
noncomputable def Jl:C:=cd prog f56 ZH ZJ
def Jh:PC:=
 ann [] Jl (.s 1 (.l (.s 0 (.l (.o ⟨[(1,.same),(2,.same),(15,.same),(16,.same),(17,.v)],[]⟩ [(.ext 0,⟨[],[]⟩),(.ret,⟨[(6,.v)],[]⟩)] .n)))))
def jt:PFn:=⟨[.tmp 6],Jh,false⟩
def vK:Fn:=nf 3 jt
def zi6:=kl [[0,2],[0,2,3],[0,2,3,9],[0,2,3],[2,4],[2]]
def zgM:=kd []
noncomputable def zqc:C:=cd prog f57 zi6 zgM
def zq6:PC:=
 ann [] zqc (.s 1 (.l (.c ⟨[(0,.same),(2,.same),(3,.v)],[.same]⟩ [(.nrm,⟨[(0,.same),(2,.same),(3,.v)],[.same]⟩)] .n)))
def zba:PFn:=⟨[.cell 2 true 3],zq6,false⟩
def Qq:Fn:=nf 1 zba
def zcs:=kl [[0,1,2,6],[0,2,6,8,9],[0,2,6,8,9,17],[6,7],[0,2,6,8,9,45],[6,7],[6,7]]
def zcc:=kd []
noncomputable def zlT:C:=cd prog f58 zcs zcc
def zmf:PC:=
 ann [] zlT .n
def Qy:PFn:=⟨[.cell 6 true 3,.tmp 7],zmf,false⟩
def Y5:Fn:=nf 3 Qy
def zgP:=kl [[1],[1,3,4,5],[1,3,4,5,6,7],[1,3,4,5,6,7,40],[1,3,4,5,6,7,40,41],[1,3,4,5,6,7,40,43],[1,3,4,5,6,7,40,45],[1,3,4,5,6,7,40,47],[1,3,4,5,6,7,40,49],[1,3,4,5,6,40,51],[1,3,4,5,6,53],[3,4,5,6,7],[3,4,5,6,7],[3,4,5,6,7],[3,4,5,6,7],[1,3,4,5,6],[3,4,5,6,7],[2],[2]]
def zg3:=kd [(1,[],[],[0,1,2,3,4,5,6,7,8,9,10,11,12,13,14,15,16,17,18,19,20,21,22,23,24],[]),(2,[],[],[0,1,2,3,4,5,6,7,8],[])]
noncomputable def zqs:C:=cd prog f59 zgP zg3
def zqt:PC:=
 ann [(1,8)] zqs (.s 2 (.l (.c ⟨[(1,.same),(3,.v),(4,.v),(5,.v),(6,.v),(7,.v)],[.same]⟩ [(.nrm,⟨[(3,.v),(4,.v),(5,.v),(6,.v),(7,.v)],[.same]⟩),(.ret,⟨[(2,.v)],[.same]⟩)] (.s 0 (.l (.l (.l (.l (.c ⟨[(1,.same),(3,.v),(4,.v),(5,.v),(6,.v),(7,.same),(40,.same)],[.same]⟩ [(.ext 0,⟨[(3,.v),(4,.v),(5,.v),(6,.v),(7,.same)],[.same]⟩),(.ext 8,⟨[],[.same]⟩),(.nrm,⟨[(1,.same),(3,.v),(4,.v),(5,.v),(6,.v)],[.same]⟩)] .n)))))))))
def zbl:PFn:=⟨[.tmp 2],zqt,false⟩
def QY:Fn:=nf 1 zbl
def vR:=kl [[0,1],[0,1,7,8],[0,1,7,8,9],[0,1,5,7,8],[0,1,5,7,8,16],[4],[0,1,7,8],[4]]
def vS:=kd []
noncomputable def Zb:C:=cd prog f60 vR vS
def Za:PC:=
 ann [] Zb (.s 0 (.l (.s 0 (.l (.o ⟨[(0,.same),(1,.same),(7,.same),(8,.v)],[]⟩ [(.ext 0,⟨[],[]⟩),(.ret,⟨[(4,.v)],[]⟩)] .n)))))
def xV:PFn:=⟨[.tmp 4],Za,false⟩
def xf:Fn:=nf 2 xV
def zin:=kl [[1],[2]]
def zhx:=kd []
noncomputable def zrq:C:=cd prog f61 zin zhx
def zql:PC:=
 ann [(1,8)] zrq .n
def za7:PFn:=⟨[.tmp 2],zql,false⟩
def QM:Fn:=nf 1 za7
def ziw:=kl [[0],[2]]
def zjj:=kd []
noncomputable def zqH:C:=cd prog f62 ziw zjj
def zrC:PC:=
 ann [] zqH .n
def zbe:PFn:=⟨[.tmp 2],zrC,false⟩
def Qj:Fn:=nf 1 zbe
def kv:=kl [[0,1],[4]]
def kn:=kd []
noncomputable def Vc:C:=cd prog f63 kv kn
def WS:PC:=
 ann [] Vc .n
def qm:PFn:=⟨[.tmp 4],WS,false⟩
def wx:Fn:=nf 2 qm
def ze7:=kl [[1],[2]]
def zfu:=kd []
noncomputable def zow:C:=cd prog f64 ze7 zfu
def zoe:PC:=
 ann [(1,8)] zow .n
def JL:PFn:=⟨[.tmp 2],zoe,false⟩
def Wx:Fn:=nf 1 JL
def zh6:=kl [[1],[1,7],[2,3],[1,4],[2,3]]
def zgY:=kd [(4,[],[],[0,1,2,3,4,5,6,7,8,9,10],[])]
noncomputable def zqL:C:=cd prog f65 zh6 zgY
def zrf:PC:=
 ann [(1,8)] zqL .n
def zbO:PFn:=⟨[.tmp 2,.tmp 3],zrf,false⟩
def Qo:Fn:=nf 1 zbO
def ZK:=kl [[0,1],[0,1,7,8],[0,1,7,8,9],[0,1,5,7,8],[0,1,5,7,8,16],[4],[0,1,7,8],[4]]
def ZR:=kd []
noncomputable def Ji:C:=cd prog f66 ZK ZR
def Jj:PC:=
 ann [] Ji (.s 0 (.l (.s 0 (.l (.o ⟨[(0,.same),(1,.same),(7,.same),(8,.v)],[]⟩ [(.ext 0,⟨[],[]⟩),(.ret,⟨[(4,.v)],[]⟩)] .n)))))
def jo:PFn:=⟨[.tmp 4],Jj,false⟩
def vM:Fn:=nf 2 jo
def j7:=kl [[0,1],[0,1,7,8],[0,1,7,8,9],[0,1,5,7,8],[0,1,5,7,8,16],[4],[0,1,7,8],[4]]
def j6:=kd []
noncomputable def j5:C:=cd prog f67 j7 j6
def Wg:PC:=
 ann [] j5 (.s 0 (.l (.s 0 (.l (.o ⟨[(0,.same),(1,.same),(7,.same),(8,.v)],[.same]⟩ [(.ext 0,⟨[],[.same]⟩),(.ret,⟨[(4,.v)],[.same]⟩)] .n)))))
def vW:PFn:=⟨[.tmp 4],Wg,false⟩
def wg:Fn:=nf 2 vW
def Xb:PC:=
 ann [] j5 (.s 0 (.l (.s 0 (.l (.o ⟨[(0,.same),(1,.same),(7,.same),(8,.v)],[]⟩ [(.ext 0,⟨[],[]⟩),(.ret,⟨[(4,.v)],[]⟩)] .n)))))
def jv:PFn:=⟨[.tmp 4],Xb,false⟩
def zcq:=kl [[0,1],[3]]
def zcC:=kd []
noncomputable def zmF:C:=cd prog f68 zcq zcC
def zl3:PC:=
 ann [] zmF .n
def QE:PFn:=⟨[.tmp 3],zl3,false⟩
def Xa:Fn:=nf 1 QE
def ZA:=kl [[0],[0,3],[0,3,9,10,11],[0,3,9,10,11,12],[0,3,5,9,10,11],[0,3,9,10,11],[0,3,9,10,11,20],[0,3,9,10,11],[0,3,9,10,11],[0,6],[6,25,26,27],[6,25,26,27,28],[6,8,25,26,27],[6,25,26,27],[6,25,26,27],[2]]
def Zr:=kd []
noncomputable def Zo:C:=cd prog f72 ZA Zr
def Qk:PC:=
 ann [] (vr mk0 [] false Zo) (.s 1 (.b (.s 0 (.l (.o ⟨[(0,.same),(3,.v),(9,.same),(10,.same),(11,.v)],[]⟩ [(.ext 0,⟨[(0,.same),(3,.v)],[]⟩),(.ext 1000000,⟨[(1000000,.v)],[]⟩),(.ext 1000002,⟨[],[]⟩)] .n))) (.s 0 (.l (.s 0 (.l (.o ⟨[(6,(.own 1)),(25,.same),(26,.same),(27,.v)],[]⟩ [(.ext 2,⟨[(6,(.own 1))],[]⟩)] .n)))))))
def qP:PFn:=⟨[.tmp 2],Qk,false⟩
def qR:Fn:=⟨1,[.tmp 2],false,false,Zo⟩
def QR:Fn:=nf 1 qP
def JN:=kl [[1,2,4],[1,2,4,10],[4,5],[2,4,6,7],[2,4,6,26],[4,5],[4,5]]
def Ki:=kd []
noncomputable def zje:C:=cd prog f73 JN Ki
def zhg:PC:=
 ann [(2,8)] zje .n
def X1:PFn:=⟨[.cell 4 true 8,.tmp 5],zhg,false⟩
def Zd:Fn:=nf 2 X1
def znD:=kl [[1,2],[1,2,5],[2],[2]]
def zpn:=kd []
noncomputable def zwW:C:=cd prog f74 znD zpn
def zuM:PC:=
 ann [(1,3)] zwW .n
def zhp:PFn:=⟨[.cell 2 true 3],zuM,false⟩
def zc1:Fn:=nf 1 zhp
def ZT:=kl [[0,1],[0,1,10],[4],[0,1,12,13],[0,1,12,13,14],[0,1,5,12,13],[0,1,12,13,24],[4],[0,1,12,13],[4]]
def ZU:=kd [(6,[],[],[0,1,2,3,4,5,6,7],[])]
noncomputable def Jg:C:=cd prog f75 ZT ZU
def Jr:PC:=
 ann [] Jg (.s 1 (.l (.s 0 (.l (.o ⟨[(0,.same),(1,.same),(12,.same),(13,.v)],[]⟩ [(.ext 0,⟨[],[]⟩),(.ret,⟨[(4,.v)],[]⟩)] .n)))))
def jn:PFn:=⟨[.tmp 4],Jr,false⟩
def vO:Fn:=nf 2 jn
def zcJ:=kl [[0],[4],[4,5],[4,5,12],[4,5,6,7],[4,5,6,19],[4,5],[4,5],[2,3]]
def zco:=kd []
noncomputable def zmw:C:=cd prog f76 zcJ zco
def zmv:PC:=
 ann [] zmw (.s 2 (.l (.l (.o ⟨[(4,.v),(5,.v)],[]⟩ [(.ext 0,⟨[(4,.v),(5,.v)],[]⟩)] .n))))
def QQ:PFn:=⟨[.tmp 2,.tmp 3],zmv,false⟩
def Xh:Fn:=nf 1 QQ
def zfG:=kl [[1],[1,3],[1,3,10],[2],[1,39],[2],[5],[2]]
def zfc:=kd []
noncomputable def znU:C:=cd prog f77 zfG zfc
def zpI:PC:=
 ann [(1,3)] znU .n
def Ka:PFn:=⟨[.tmp 2],zpI,false⟩
def Wz:Fn:=nf 1 Ka
def zfD:=kl [[0],[2]]
def zfy:=kd []
noncomputable def zoU:C:=cd prog f78 zfD zfy
def zn2:PC:=
 ann [] zoU .n
def JV:PFn:=⟨[.tmp 2],zn2,false⟩
def Wo:Fn:=nf 1 JV
def zdz:=kl [[0],[0,5,6,7],[0,5,6,7,8],[0,3,4,5,6,7],[0,5,6,7,27],[2],[0,5,6,7],[2]]
def zcY:=kd []
noncomputable def zmO:C:=cd prog f79 zdz zcY
def zmW:PC:=
 ann [] zmO (.s 0 (.l (.s 0 (.l (.o ⟨[(0,.same),(5,.same),(6,.same),(7,.v)],[]⟩ [(.ext 0,⟨[(0,.same)],[]⟩),(.ret,⟨[(2,.v)],[]⟩)] .n)))))
def V8:PFn:=⟨[.tmp 2],zmW,false⟩
def Xs:Fn:=nf 1 V8
def qX:=kl [[0,1],[4]]
def qW:=kd []
noncomputable def YP:C:=cd prog f80 qX qW
def YW:PC:=
 ann [] YP .n
def wQ:PFn:=⟨[.tmp 4],YW,false⟩
def xL:Fn:=nf 2 wQ
def zca:=kl [[0],[2]]
def zdi:=kd []
noncomputable def zlS:C:=cd prog f81 zca zdi
def zlG:PC:=
 ann [] zlS .n
def QD:PFn:=⟨[.tmp 2],zlG,false⟩
def Xr:Fn:=nf 1 QD
def zfb:=kl [[0],[0,8],[0,8,9,10],[0,3,4,8],[0,3,8,14],[0,6,8],[0,8,23],[2],[2]]
def ze5:=kd []
noncomputable def zpb:C:=cd prog f82 zfb ze5
def zod:PC:=
 ann [] zpb (.s 1 (.l (.s 0 (.l (.o ⟨[(0,.same),(8,.same)],[.iter]⟩ [(.ext 0,⟨[],[.dead]⟩),(.ret,⟨[(2,.v)],[.dead]⟩)] .n)))))
def J2:PFn:=⟨[.tmp 2],zod,false⟩
def WE:Fn:=nf 1 J2
def ZG:=kl [[0,1],[0,1,7,8],[0,1,7,8,9],[0,1,5,7,8],[0,1,5,7,8,16],[4],[0,1,7,8],[4]]
def ZV:=kd []
noncomputable def Je:C:=cd prog f83 ZG ZV
def Jf:PC:=
 ann [] Je (.s 0 (.l (.s 0 (.l (.o ⟨[(0,.same),(1,.same),(7,.same),(8,.v)],[]⟩ [(.ext 0,⟨[],[]⟩),(.ret,⟨[(4,.v)],[]⟩)] .n)))))
def jr:PFn:=⟨[.tmp 4],Jf,false⟩
def vI:Fn:=nf 2 jr
def zaN:=kl [[1,2,4],[1,4,6,7],[4,7,8],[4,7,8,18],[4,5],[4,5]]
def za3:=kd []
noncomputable def zjr:C:=cd prog f89 zaN za3
def zj4:PC:=
 ann [(2,8)] zjr .n
def WP:PFn:=⟨[.cell 4 true 8,.tmp 5],zj4,false⟩
def YB:Fn:=nf 2 WP
def zdt:=kl [[0],[0,3],[0,3,15],[0,3],[2]]
def zdd:=kd []
noncomputable def zmn:C:=cd prog f90 zdt zdd
def zmd:PC:=
 ann [] zmn (.s 1 (.l (.l (.o ⟨[(0,.same),(3,.v)],[]⟩ [(.ext 0,⟨[(0,.same),(3,.v)],[]⟩)] .n))))
def VX:PFn:=⟨[.tmp 2],zmd,false⟩
def Y4:Fn:=nf 1 VX
def zaE:=kl [[0,1],[0,1,6],[0,1,6,7],[0,1,6,7,8],[0,1,6,7,8,16],[0,1,6,7,8],[0,1,6,7,8],[0,1,6,7,8],[0,1,6,7,8],[4,5]]
def zaO:=kd []
noncomputable def zjz:C:=cd prog f91 zaE zaO
def zj1:PC:=
 ann [] zjz (.s 2 (.l (.s 0 (.l (.o ⟨[(0,.same),(1,.same),(6,.same),(7,.v),(8,.v)],[(.arr .no 1)]⟩ [(.ext 0,⟨[(6,.same),(7,.v)],[(.arr .no 1)]⟩)] .n)))))
def Vd:PFn:=⟨[.tmp 4,.tmp 5],zj1,false⟩
def Yy:Fn:=nf 2 Vd
def zgG:=kl [[0],[0],[0,4],[0,4,11],[0,4,5,6],[0,4,5,18],[0,4],[0,4],[2,3]]
def zgV:=kd []
noncomputable def zqk:C:=cd prog f92 zgG zgV
def zry:PC:=
 ann [] zqk (.s 3 (.l (.l (.o ⟨[(0,.v),(4,.v)],[]⟩ [(.ext 0,⟨[(0,.v),(4,.v)],[]⟩)] .n))))
def zbo:PFn:=⟨[.tmp 2,.tmp 3],zry,false⟩
def Qc:Fn:=nf 1 zbo
def vQ:=kl [[0],[0,10],[2,3],[2,3]]
def vU:=kd []
noncomputable def VL:C:=cd prog f93 vQ vU
def Vx:PC:=
 ann [] VL .n
def qF:PFn:=⟨[.tmp 2,.tmp 3],Vx,false⟩
def wM:Fn:=nf 1 qF
def ziL:=kl [[0],[0,3],[0,3,16],[0,3],[0,3,20],[2],[0,4],[4],[2]]
def zhY:=kd []
noncomputable def zrD:C:=cd prog f96 ziL zhY
def zrc:PC:=
 ann [] zrD (.s 1 (.l (.l (.o ⟨[(0,.same),(3,.v)],[]⟩ [(.ext 0,⟨[(0,.same),(3,.v)],[]⟩)] .n))))
def zbU:PFn:=⟨[.tmp 2],zrc,false⟩
def Qe:Fn:=nf 1 zbU
def zfz:=kl [[0,1],[0,1,6],[0,1,6,7],[0,1,6,7,8],[0,1,6,7,8,16],[0,1,6,7,8],[0,1,6,7,8],[0,1,6,7,8],[0,1,6,7,8],[4,5]]
def zfm:=kd []
noncomputable def zoX:C:=cd prog f97 zfz zfm
def zoH:PC:=
 ann [] zoX (.s 2 (.l (.s 0 (.l (.o ⟨[(0,.same),(1,.same),(6,.same),(7,.v),(8,.v)],[(.arr .no 1)]⟩ [(.ext 0,⟨[(6,.same),(7,.v)],[(.arr .no 1)]⟩)] .n)))))
def JB:PFn:=⟨[.tmp 4,.tmp 5],zoH,false⟩
def Wp:Fn:=nf 2 JB
def wN:=kl [[0],[0,4],[0,4,16],[2,3],[0,4,5],[0,4,5,6],[0,4,5,6,23],[0,7],[2,3],[0,4,5,6,8],[0,4,5,8,9],[0,5,8,9,45],[2,3],[0,5,8,9,10],[0,5,8,10,57],[2,3],[0,5,8,10,59],[2,3],[0,5,8,10,11],[0,5,8,10,11,75],[2,3],[0,5,10,11,77],[2,3],[5,10,11,12],[5,10,11,12,98],[2,3],[2,3]]
def wK:=kd []
noncomputable def Xm:C:=cd prog f98 wN wK
def Xt:PC:=
 ann [] Xm .n
def vi:PFn:=⟨[.tmp 2,.tmp 3],Xt,false⟩
def xU:Fn:=nf 1 vi
def zpt:Nat->Nat->Option PFn:=fun f k=>(match f with | 4=>some Z1 | 6=>some Vf | 7=>some zev | 8=>some WT | 9=>some QS | 10=>some Kq | 11=>some Kf | 12=>some Q8 | 13=>some Jx | 14=>some Z5 | 500016=>some Ky | 1000017=>some zbS | 18=>some Qg | 19=>some Vh | 20=>some V4 | 21=>some JZ | 22=>some zbd | 23=>some YQ | 24=>some ke | 1000025=>some zeB | 1000026=>some Qm | 1000027=>some zdI | 1000028=>some zbA | 1000029=>some zee | 1000030=>some zbf | 31=>some Js | 32=>some XY | 33=>some KA | 34=>some zaB | 35=>some WZ | 36=>some XT | 37=>some Qf | 38=>some xA | 39=>some Vj | 40=>some zeg | 41=>some WX | 42=>some QH | 43=>some Qi | 44=>some zet | 45=>some ZC | 46=>some JU | 47=>some zbV | 48=>some YU | 49=>some kE | 50=>some Qt | 51=>some W8 | 52=>some js | 53=>some Yf | 54=>some W6 | 55=>some zbp | 56=>some jt | 57=>some zba | 58=>some Qy | 59=>some zbl | 60=>some xV | 61=>some za7 | 62=>some zbe | 63=>some qm | 64=>some JL | 65=>some zbO | 66=>some jo | 67=>(match k with | 0=>some jv | _=>some vW) | 68=>some QE | 72=>some qP | 73=>some X1 | 74=>some zhp | 75=>some jn | 76=>some QQ | 77=>some Ka | 78=>some JV | 79=>some V8 | 80=>some wQ | 81=>some QD | 82=>some J2 | 83=>some jr | 89=>some WP | 90=>some VX | 91=>some Vd | 92=>some zbo | 93=>some qF | 96=>some zbU | 97=>some JB | 98=>some vi | _=>none)
def zyI:List (Nat×Fn):=[(vt,qx),(xF,Yt),(jm,zeF),(ql,Yv),(qQ,Xe),(k9,Wv),(jO,WA),(wR,kx),(vn,WG),(yY,jS),(QI,zbL),(vg,Y9),(jg,Yo),(xo,Xl),(jM,WL),(Yb,Qx),(v6,kA),(xY,qt),(zd2,zeC),(QU,QP),(zez,zeS),(zbz,zby),(Xz,zd6),(zbj,zbg),(wc,Ws),(qD,Zq),(kR,WF),(jf,Yu),(jl,YD),(vD,Zw),(vj,Xg),(yc,yV),(wu,Yr),(qa,zaa),(vq,YC),(qg,Xd),(qb,Xk),(ZY,KV),(wI,jw),(jN,Wy),(kP,V5),(xv,kB),(y9,kF),(j4,Xc),(qo,Yx),(yU,vN),(wl,jU),(jh,Yz),(Z9,VY),(xn,vK),(kG,Qq),(w8,Y5),(kM,QY),(yK,xf),(kJ,QM),(qU,Qj),(xi,wx),(jJ,Wx),(jE,Qo),(yT,vM),(yt,wg),(vd,Xa),(xx,qR),(vw,Zd),(XO,zc1),(xC,vO),(j3,Xh),(jG,Wz),(jH,Wo),(jR,Xs),(yr,xL),(wz,Xr),(jF,WE),(wj,vI),(jd,YB),(qM,Y4),(vk,Yy),(Yh,Qc),(xq,wM),(kO,Qe),(jL,Wp),(yf,xU)]
def zyT:List (Nat×List X×Fn):=[(jm,([.s 4,.s 5],WH))]
def ex0:Nat->Option Told:=fun f=>(match f with | 69=>some (.fn (Vv 1 16)) | 70=>some (.fn (Vv 8 120)) | 71=>some (.fn (zdY 8 120)) | 88=>some (.fn (zdY 1 16)) | _=>none)
def glT:Nat->Option (List V):=fun g=>match g with | 0=>some G_0 | 1=>some G_1 | _=>none
def E0:Env:=⟨look zyI,fun g=>(glT g).map toDL,ex0,zlo zyT⟩
def zwO:List (Nat×Fn):=[(vt,qx),(xF,Yt),(jm,zuJ),(ql,Yv),(qQ,Xe),(k9,Wv),(jO,WA),(wR,kx),(vn,WG),(yY,jS),(qK,zfM),(wo,zqm),(vg,Y9),(jg,Yo),(xo,Xl),(jM,WL),(Yb,Qx),(v6,kA),(xY,qt),(Xy,zsX),(Zc,zlK),(kX,zs9),(V0,zqI),(qy,ztQ),(yb,zqf),(wc,Ws),(qD,Zq),(kR,WF),(jf,Yu),(jl,YD),(vD,Zw),(vj,Xg),(yc,yV),(wu,Yr),(qa,zaa),(vq,YC),(qg,Xd),(qb,Xk),(ZY,KV),(wI,jw),(jN,Wy),(kP,V5),(xv,kB),(y9,zbk),(j4,Xc),(qo,Yx),(yU,vN),(wl,jU),(jh,Yz),(Z9,VY),(xn,vK),(kG,Qq),(w8,Y5),(kM,QY),(yK,xf),(kJ,QM),(qU,Qj),(xi,wx),(jJ,Wx),(jE,Qo),(yT,vM),(yt,wg),(vd,Xa),(xx,QR),(vw,Zd),(XO,zc1),(xC,vO),(j3,Xh),(jG,Wz),(jH,Wo),(jR,Xs),(yr,xL),(wz,Xr),(jF,WE),(wj,vI),(jd,YB),(qM,Y4),(vk,Yy),(Yh,Qc),(xq,wM),(kO,Qe),(jL,Wp),(yf,xU)]
def E1:Env:=⟨look zwO,fun g=>(glT g).map toDL,ex0,fun _=>none⟩
def md0:Nat->Md:=fun f=>(match f with | 12 => .gv 1 | 34 => .gv 1 | 69 => .ful | 70 => .ful | 71 => .gvf 8 | 88 => .gvf 1 | _ => .pl)
def tx0:Nat->Option (List V->Option V):=fun f=>(match f with | 69=>some (YK 1 16) | 70=>some (YK 8 120) | 71=>some (Ko 120) | 88=>some (Ko 16) | _=>none)
def gl0:Gl:=⟨glT,md0,tx0⟩
def P0:PcT:=pcL gl0 zpt
end Go.Ev
end
