/- The functions' code. -/
import Derived.Test.YtnefgdahdccldaaGreatDoorKEvE
import Derived.Test.YtnefgdahdccldaaGreatDoorKNums
import Derived.Test.YtnefgdahdccldaaGreatDoorProg
set_option linter.all false
noncomputable section
namespace Go.Ev
open Go.Proofs.Tryz
@[reducible] def oq(i:Nat)(o:O)(r:PO):PO := .one ⟨some i,o,none⟩ r
@[reducible] def oz(o:O)(r:PO):PO := .one ⟨none,o,none⟩ r
@[reducible] def zt8:List D:=[.int .i64 0,.bool false,.bool false,.sl .full 0 [],.int .i64 0,.str [],.sl .full 0 [],.sl .full 0 []]
@[reducible] def kf:X := .k (.bool false)
@[reducible] def kt:X := .k (.bool true)
@[reducible] def ki(i:Int):X := .k (.int .i64 i)
@[reducible] def om(i j:Nat)(r:PO):PO := .one ⟨some i,.mv (.s j),none⟩ r
@[reducible] def ol(i j:Nat)(r:PO):PO := .one ⟨some i,.load false 1 (.s j),none⟩ r
@[reducible] def nm(i j:Nat):OpC:=⟨some i,.mv (.s j),none⟩
@[reducible] def nq(i:Nat)(o:O):OpC:=⟨some i,o,none⟩
def mk0:Nat->Bool:=fun f=>(match f with | 51=>true | 69=>true | 70=>true | 71=>true | 72=>true | 73=>true | 74=>true | _=>false)
def G_0:List V:=[.int .u8 240,.int .u8 240,.int .u8 240,.int .u8 240,.int .u8 240,.int .u8 240,.int .u8 240,.int .u8 240,.int .u8 240,.int .u8 240,.int .u8 240,.int .u8 240,.int .u8 240,.int .u8 240,.int .u8 240,.int .u8 240,.int .u8 240,.int .u8 240,.int .u8 240,.int .u8 240,.int .u8 240,.int .u8 240,.int .u8 240,.int .u8 240,.int .u8 240,.int .u8 240,.int .u8 240,.int .u8 240,.int .u8 240,.int .u8 240,.int .u8 240,.int .u8 240,.int .u8 240,.int .u8 240,.int .u8 240,.int .u8 240,.int .u8 240,.int .u8 240,.int .u8 240,.int .u8 240,.int .u8 240,.int .u8 240,.int .u8 240,.int .u8 240,.int .u8 240,.int .u8 240,.int .u8 240,.int .u8 240,.int .u8 240,.int .u8 240,.int .u8 240,.int .u8 240,.int .u8 240,.int .u8 240,.int .u8 240,.int .u8 240,.int .u8 240,.int .u8 240,.int .u8 240,.int .u8 240,.int .u8 240,.int .u8 240,.int .u8 240,.int .u8 240,.int .u8 240,.int .u8 240,.int .u8 240,.int .u8 240,.int .u8 240,.int .u8 240,.int .u8 240,.int .u8 240,.int .u8 240,.int .u8 240,.int .u8 240,.int .u8 240,.int .u8 240,.int .u8 240,.int .u8 240,.int .u8 240,.int .u8 240,.int .u8 240,.int .u8 240,.int .u8 240,.int .u8 240,.int .u8 240,.int .u8 240,.int .u8 240,.int .u8 240,.int .u8 240,.int .u8 240,.int .u8 240,.int .u8 240,.int .u8 240,.int .u8 240,.int .u8 240,.int .u8 240,.int .u8 240,.int .u8 240,.int .u8 240,.int .u8 240,.int .u8 240,.int .u8 240,.int .u8 240,.int .u8 240,.int .u8 240,.int .u8 240,.int .u8 240,.int .u8 240,.int .u8 240,.int .u8 240,.int .u8 240,.int .u8 240,.int .u8 240,.int .u8 240,.int .u8 240,.int .u8 240,.int .u8 240,.int .u8 240,.int .u8 240,.int .u8 240,.int .u8 240,.int .u8 240,.int .u8 240,.int .u8 240,.int .u8 240,.int .u8 240,.int .u8 240,.int .u8 241,.int .u8 241,.int .u8 241,.int .u8 241,.int .u8 241,.int .u8 241,.int .u8 241,.int .u8 241,.int .u8 241,.int .u8 241,.int .u8 241,.int .u8 241,.int .u8 241,.int .u8 241,.int .u8 241,.int .u8 241,.int .u8 241,.int .u8 241,.int .u8 241,.int .u8 241,.int .u8 241,.int .u8 241,.int .u8 241,.int .u8 241,.int .u8 241,.int .u8 241,.int .u8 241,.int .u8 241,.int .u8 241,.int .u8 241,.int .u8 241,.int .u8 241,.int .u8 241,.int .u8 241,.int .u8 241,.int .u8 241,.int .u8 241,.int .u8 241,.int .u8 241,.int .u8 241,.int .u8 241,.int .u8 241,.int .u8 241,.int .u8 241,.int .u8 241,.int .u8 241,.int .u8 241,.int .u8 241,.int .u8 241,.int .u8 241,.int .u8 241,.int .u8 241,.int .u8 241,.int .u8 241,.int .u8 241,.int .u8 241,.int .u8 241,.int .u8 241,.int .u8 241,.int .u8 241,.int .u8 241,.int .u8 241,.int .u8 241,.int .u8 241,.int .u8 241,.int .u8 241,.int .u8 2,.int .u8 2,.int .u8 2,.int .u8 2,.int .u8 2,.int .u8 2,.int .u8 2,.int .u8 2,.int .u8 2,.int .u8 2,.int .u8 2,.int .u8 2,.int .u8 2,.int .u8 2,.int .u8 2,.int .u8 2,.int .u8 2,.int .u8 2,.int .u8 2,.int .u8 2,.int .u8 2,.int .u8 2,.int .u8 2,.int .u8 2,.int .u8 2,.int .u8 2,.int .u8 2,.int .u8 2,.int .u8 2,.int .u8 2,.int .u8 19,.int .u8 3,.int .u8 3,.int .u8 3,.int .u8 3,.int .u8 3,.int .u8 3,.int .u8 3,.int .u8 3,.int .u8 3,.int .u8 3,.int .u8 3,.int .u8 3,.int .u8 35,.int .u8 3,.int .u8 3,.int .u8 52,.int .u8 4,.int .u8 4,.int .u8 4,.int .u8 68,.int .u8 241,.int .u8 241,.int .u8 241,.int .u8 241,.int .u8 241,.int .u8 241,.int .u8 241,.int .u8 241,.int .u8 241,.int .u8 241,.int .u8 241]
def G_1:List V:=[.int .u8 128,.int .u8 191,.int .u8 160,.int .u8 191,.int .u8 128,.int .u8 159,.int .u8 144,.int .u8 191,.int .u8 128,.int .u8 143,.int .u8 0,.int .u8 0,.int .u8 0,.int .u8 0,.int .u8 0,.int .u8 0,.int .u8 0,.int .u8 0,.int .u8 0,.int .u8 0,.int .u8 0,.int .u8 0,.int .u8 0,.int .u8 0,.int .u8 0,.int .u8 0,.int .u8 0,.int .u8 0,.int .u8 0,.int .u8 0,.int .u8 0,.int .u8 0]
def W4:=kl [[0,1,2],[0,1,2,40],[6],[1,7,8],[7,8,9],[7,8,9,10,11],[7,8,9,10,60],[7,9,10,12,13],[7,9,10,13,14,15],[7,9,13,14,15,17],[7,9,13,14,15,17,18,19],[7,13,14,15,17,18,19,20,21],[139],[6],[6],[7,8,9,22,23],[7,8,9,22,150],[22,25],[6],[7,8,9,22,170],[6],[7,8,9,22,26],[7,8,9,22,26,185],[7,8,22,26,27],[7,8,22,26,198],[6],[7,8,22,26,29,30],[7,8,29,30,31,32],[6]]
def Vk:=kd [(23,[],[10],[0,1,2,3,4,5,6,7,8,9],[])]
noncomputable def zd0:C:=cd prog f6 W4 Vk
def zds:PC:=
 ann [] zd0 (.s 9 (.l (.c ⟨[(7,.same),(8,.same),(9,.same),(22,.same),(26,.same)],[.same,.same,.same,.same]⟩ [(.nrm,⟨[(7,.same),(8,.same),(22,.same),(26,.same)],[.same,.same,.same,.same]⟩),(.ret,⟨[(6,.v)],[.same,.same,.same,.same]⟩)] .n)))
def ZH:PFn:=⟨[.tmp 6],zds,false⟩
def qm:Fn:=nf 3 ZH
def zaV:=kl [[],[1],[2,3,4],[0]]
def za9:=kd []
noncomputable def zk5:C:=cd prog f9 zaV za9
def zke:PC:=
 ann [] zk5 .n
def Vp:PFn:=⟨[.tmp 0],zke,false⟩
def YF:Fn:=nf 0 Vp
def zfU:=kl [[1,2,3,6],[1,2,3,6,20],[6,7,8],[2,3,6,22,23,24],[2,3,6,22,23,24,25],[2,3,6,9,10,22,23,24],[2,3,6,9,11,12,22,23,24],[2,3,6,9,11,22,23,24,35],[6,7,8],[2,3,6,9,11,22,23,24,40],[6,7,8],[2,3,6,22,23,24],[2,3,6,22,23,24],[6,7,8]]
def zf2:=kd []
noncomputable def zqW:C:=cd prog f10 zfU zf2
def zqJ:PC:=
 ann [(3,8)] zqW (.s 1 (.l (.s 0 (.l (.o ⟨[(2,.same),(3,.same),(6,.same),(22,.same),(23,.same),(24,.v)],[(.box 8),(.cells [.v,.v,.v,.v,.v,.v,.v,.v])]⟩ [(.ext 0,⟨[(3,.same),(6,.same)],[(.box 8),(.box 8)]⟩),(.ret,⟨[(6,.same),(7,.v),(8,.v)],[(.box 8),(.cells [.v,.v,.v,.v,.v,.v,.v,.v])]⟩)] .n)))))
def J3:PFn:=⟨[.cell 6 true 8,.tmp 7,.tmp 8],zqJ,false⟩
def W9:Fn:=nf 3 J3
def VS:=kl [[2,3],[2,3,49],[4],[2,3,5],[2,3,5,54],[2,3,5],[2,3,5,68],[4],[4]]
def VZ:=kd [(6,[],[],[0,1,2,3,4,5,6,7,8,9],[])]
noncomputable def zen:C:=cd prog f14 VS VZ
def zeu:PC:=
 ann [(2,8),(3,8)] zen (.s 1 (.l (.s 0 (.l (.o ⟨[(2,.same),(3,.same),(5,.v)],[.same,.same]⟩ [(.ext 0,⟨[],[.same,.same]⟩),(.ret,⟨[(4,.v)],[.same,.same]⟩)] .n)))))
def Ye:PFn:=⟨[.tmp 4],zeu,false⟩
def jX:Fn:=nf 2 Ye
def zfI:=kl [[0],[2]]
def zfV:=kd []
noncomputable def zpu:C:=cd prog f15 zfI zfV
def zqa:PC:=
 ann [] zpu .n
def Kx:PFn:=⟨[.tmp 2],zqa,false⟩
def Ve:Fn:=nf 1 Kx
def zj8:=kl [[1,2],[4]]
def zjf:=kd []
noncomputable def zr3:C:=cd prog f17 zj8 zjf
def zr0:PC:=
 ann [(2,8)] zr3 .n
def zbH:PFn:=⟨[.tmp 4],zr0,false⟩
def Q2:Fn:=nf 2 zbH
def ztW:PC:=
 (.seq
 (.blk 1000000
 (.seq
 (.seq
 (.reg (.box 8 2 (.s 0)<|
 .box 11 3 (.s 1)<|
 oq 4 (.alloc zt8)<|
 oq 5 (.alloc [.bool false])<|
 .nil) [2,3,4,5])
 (.seq
 (.reg (.nil) [2,3,4,5])
 (.seq
 (.seq
 (.reg (oq 7 (.load true 8 (.s 2))<|
 oq 8 (.load true 11 (.s 3))<|
 oq 1000000 (.call wr [.s 7,.s 8])<|
 oq 1000001 (.ext (.s 1000000) 0)<|
 .nil) [1000000,1000001,4,9,5,4,5,4,5])
 (.cond (.s 1000001)
 (.reg (oq 9 (.ext (.s 1000000) 1)<|
 oz (.store 8 (.s 4) (.s 9))<|
 oz (.store 1 (.s 5) kt)<|
 .nil) [4,5])
 (.seq
 (.reg (oq 1000000 (.ext (.s 1000000) 1)<|
 .nil) [1000000,4,5])
 (.exit 1000000))))
 (.seq
 (.reg (oq 1000000 (.mv (.k .nili))<|
 .nil) [1000000,4,5])
 (.exit 1000000)))))
 (.seq
 (.reg (oq 1000000 (.mv (.k .nili))<|
 .nil) [1000000,4,5])
 (.exit 1000000))))
 (.reg (oz (.call qK [.s 4,.s 5,.s 1000000])<|
 .nil) [4,5]))
def zeZ:PFn:=⟨[.cell 4 true 8,.cell 5 false 1],ztW,false⟩
def zvj:C:=
 (.seq
 (.reg [nq 2 (.box (.s 0)),nq 3 (.box (.s 1)),nq 4 (.alloc zt8),nq 5 (.alloc [.bool false])] [2,3,4,5])
 (.seq
 (.reg [] [2,3,4,5])
 (.seq
 (.reg [nq 7 (.load true 8 (.s 2)),nq 8 (.load true 11 (.s 3)),nq 9 (.call Jc [.s 7,.s 8]),⟨none,.store 8 (.s 4) (.s 9),none⟩,⟨none,.store 1 (.s 5) kt,none⟩] [4,5])
 .ret)))
def ze9:Fn:=⟨2,[.cell 4 true 8,.cell 5 false 1],false,false,zvj⟩
def zvV:Fn:=nf 2 zeZ
def zdV:=kl [[0,1,4],[4,5],[4]]
def zcL:=kd []
noncomputable def znD:C:=cd prog f23 zdV zcL
def zog:PC:=
 ann [] znD .n
def Jq:PFn:=⟨[.cell 4 true 8],zog,false⟩
def Xt:Fn:=nf 2 Jq
def za0:=kl [[0,1],[1,5],[1,5,10],[5],[4]]
def za8:=kd []
noncomputable def zkP:C:=cd prog f25 za0 za8
def zk1:PC:=
 ann [] zkP .n
def VK:PFn:=⟨[.tmp 4],zk1,false⟩
def YD:Fn:=nf 2 VK
def zdt:=kl [[2,3],[2,3,11],[4],[2,3,13],[2,3,13,14],[4],[2,3,13,21],[4],[2,3,13,28],[2,3,13,28],[4],[2,3,13,36],[2,3,36],[2,3,59],[4],[2,3,5],[2,3,5,69],[2,3,5],[2,3,5,82],[4],[2,3,6],[2,3,6,87],[2,3,6],[2,3,6,101],[4],[4]]
def zc8:=kd [(18,[],[],[0,1,2,3,4,5,6,7,8,9],[]),(23,[],[],[0,1,2,3,4,5,6,7,8,9],[])]
noncomputable def zmY:C:=cd prog f26 zdt zc8
def zn0:PC:=
 ann [(2,8),(3,8)] zmY (.s 1 (.l (.s 0 (.l (.s 3 (.b (.c ⟨[(2,.same),(3,.same),(13,.same)],[.same,.same]⟩ [(.nrm,⟨[(2,.same),(3,.same),(13,.same),(28,.v)],[.same,.same]⟩)] .n) (.s 0 (.b (.c ⟨[(2,.same),(3,.same),(13,.same)],[.same,.same]⟩ [(.nrm,⟨[(2,.same),(3,.same),(36,.v)],[.same,.same]⟩)] .n) (.l (.s 0 (.b (.s 0 (.l (.o ⟨[(2,.same),(3,.same),(5,.v)],[.same,.same]⟩ [(.ext 1,⟨[(2,.same),(3,.same)],[.same,.same]⟩),(.ret,⟨[(4,.v)],[.same,.same]⟩)] .n))) (.s 0 (.l (.o ⟨[(2,.same),(3,.same),(6,.v)],[.same,.same]⟩ [(.ext 3,⟨[],[.same,.same]⟩),(.ret,⟨[(4,.v)],[.same,.same]⟩)] .n))))))))))))))
def Jx:PFn:=⟨[.tmp 4],zn0,false⟩
def Xo:Fn:=nf 2 Jx
def zfJ:=kl [[1,2],[1,2,5],[1,2,5,6],[1,2,5,6,16],[1,2,5,6],[1,2,5,6,7],[1,2,5,6,7,42],[5,7,45],[5],[4],[1,2,5,6,8],[1,2,5,6,8,63],[1,2,5,6,8],[1,2,5,6,8],[1,2,5,6],[4]]
def zfQ:=kd []
noncomputable def zpT:C:=cd prog f27 zfJ zfQ
def zpP:PC:=
 ann [(2,8)] zpT (.s 1 (.l (.s 0 (.l (.o ⟨[(1,.same),(2,.same),(5,(.own 1)),(6,.v)],[(.box 8)]⟩ [(.ext 0,⟨[(5,(.own 1))],[(.box 8)]⟩),(.ret,⟨[(4,(.own 1))],[(.box 8)]⟩)] (.s 0 (.l (.l (.s 2 (.l (.c ⟨[(1,.same),(2,.same),(5,(.own 1)),(6,.same),(8,.same)],[.same]⟩ [(.nrm,⟨[(1,.same),(2,.same),(5,(.own 1)),(6,.same),(8,.same)],[.same]⟩)] .n)))))))))))
def KW:PFn:=⟨[.tmp 4],zpP,false⟩
def WU:Fn:=nf 2 KW
def zfZ:=kl [[1,2,4],[1,2,4,6],[1,2,4,6,12],[1,2,4,6],[1,2,4,6,7,8],[1,2,4,6,7,25],[4,5],[1,2,4,6],[4,5]]
def zga:=kd [(4,[],[9],[0,1,2,3,4,5,6,7,8],[])]
noncomputable def zqw:C:=cd prog f28 zfZ zga
def zpC:PC:=
 ann [(2,8)] zqw (.s 0 (.l (.s 0 (.l (.o ⟨[(1,.same),(2,.same),(4,.same),(6,.v)],[(.box 8),(.cells [.v,.v,.v,.v,.v,.v,.v,.v])]⟩ [(.ext 0,⟨[(2,.same),(4,.same)],[(.box 8),(.box 8)]⟩),(.ret,⟨[(4,.same),(5,.v)],[(.box 8),(.cells [.v,.v,.v,.v,.v,.v,.v,.v])]⟩)] .n)))))
def KM:PFn:=⟨[.cell 4 true 8,.tmp 5],zpC,false⟩
def W0:Fn:=nf 2 KM
def JH:=kl [[0],[2]]
def JA:=kd []
noncomputable def zgC:C:=cd prog f29 JH JA
def zgt:PC:=
 ann [] zgC .n
def Xb:PFn:=⟨[.tmp 2],zgt,false⟩
def kG:Fn:=nf 1 Xb
def zdN:=kl [[1],[1,3],[2]]
def zdM:=kd []
noncomputable def zm7:C:=cd prog f32 zdN zdM
def zmF:PC:=
 ann [(1,8)] zm7 .n
def QA:PFn:=⟨[.tmp 2],zmF,false⟩
def XC:Fn:=nf 1 QA
def JG:=kl [[2,3],[4]]
def JJ:=kd []
noncomputable def zgz:C:=cd prog f34 JG JJ
def zgo:PC:=
 ann [(2,3),(3,3)] zgz .n
def Y2:PFn:=⟨[.tmp 4],zgo,false⟩
def kI:Fn:=nf 2 Y2
def Xh:=kl [[0,1],[0,1,10],[4],[0,1,5],[0,1,5,14],[0,1,5],[0,1,5,25],[4],[4]]
def Xi:=kd [(6,[],[],[0,1,2,3,4,5,6,7],[])]
noncomputable def zaM:C:=cd prog f35 Xh Xi
def zaL:PC:=
 ann [] zaM (.s 1 (.l (.s 0 (.l (.o ⟨[(0,.same),(1,.same),(5,.v)],[]⟩ [(.ext 0,⟨[],[]⟩),(.ret,⟨[(4,.v)],[]⟩)] .n)))))
def kq:PFn:=⟨[.tmp 4],zaL,false⟩
def qx:Fn:=nf 2 kq
def wW:=kl [[0,1],[4]]
def wX:=kd []
noncomputable def km:C:=cd prog f36 wW wX
def ko:PC:=
 ann [] km .n
def xy:PFn:=⟨[.tmp 4],ko,false⟩
def yV:Fn:=nf 2 xy
def zbj:=kl [[1],[2]]
def zbd:=kd []
noncomputable def zky:C:=cd prog f37 zbj zbd
def zlc:PC:=
 ann [(1,11)] zky .n
def VQ:PFn:=⟨[.tmp 2],zlc,false⟩
def YB:Fn:=nf 1 VQ
def zlo:=kl [[1],[1,3,4],[1,3,4,13],[1,3,4,13,14],[1,3,4,13,16],[1,3,4,13,18],[1,3,4,13,18],[1,3,4,13,18],[1,3,4,22],[1,3,4],[1,3,4],[2],[2]]
def zl5:=kd [(1,[],[],[0,1,2,3,4,5,6],[])]
noncomputable def zu3:C:=cd prog f38 zlo zl5
def zvH:PC:=
 ann [(1,11)] zu3 (.s 1 (.l (.c ⟨[(1,.same),(3,.v),(4,.v)],[.same]⟩ [(.nrm,⟨[(1,.same),(4,.v),(3,.v)],[.same]⟩),(.ret,⟨[(2,.v)],[.same]⟩)] (.s 0 (.l (.l (.l (.l (.l (.l (.c ⟨[(1,.same),(3,.v),(4,.same),(13,.same)],[.same]⟩ [(.ext 0,⟨[(1,.same),(4,.same),(3,.v)],[.same]⟩),(.ext 4,⟨[(1,.same),(3,.v),(4,.same)],[.same]⟩),(.ext 5,⟨[],[.same]⟩),(.nrm,⟨[(1,.same),(3,.v)],[.same]⟩)] (.l (.l (.c ⟨[(1,.same),(3,.same),(4,.same),(13,.same)],[.same]⟩ [(.ext 3,⟨[(1,.same),(3,.same)],[.same]⟩),(.ext 4,⟨[(1,.same),(3,.same),(4,.same)],[.same]⟩),(.ext 5,⟨[],[.same]⟩),(.nrm,⟨[(1,.same),(4,.same)],[.same]⟩)] .n))))))))))))))
def zeL:PFn:=⟨[.tmp 2],zvH,false⟩
def zaB:Fn:=nf 1 zeL
def zbb:=kl [[1],[1,3],[1,3,7],[1,3,7,8],[1,3],[1,3,7,16],[1,3,16],[1,3],[3,25,26,27],[3,25,26,27,28],[3,5,25,26,27],[3,25,26,27],[3,25,26,27],[2]]
def zbi:=kd []
noncomputable def zkr:C:=cd prog f41 zbb zbi
def zku:PC:=
 ann [(1,8)] zkr (.s 1 (.b (.c ⟨[(1,.same),(3,.v)],[.same]⟩ [(.nrm,⟨[(1,.same),(3,.v)],[.same]⟩)] (.s 0 (.l (.s 1 (.l (.c ⟨[(1,.same),(3,.same),(7,.same)],[.same]⟩ [(.nrm,⟨[(1,.same),(3,.same),(16,.v)],[.same]⟩)] .n)))))) (.l (.s 0 (.l (.o ⟨[(3,.v),(25,.same),(26,.same),(27,.v)],[.same]⟩ [(.ext 1,⟨[(3,.v)],[.same]⟩)] .n))))))
def Vt:PFn:=⟨[.tmp 2],zku,false⟩
def YM:Fn:=nf 1 Vt
def zdr:=kl [[1],[1,3],[3,7,8,9],[3,7,8,9,10],[3,5,7,8,9],[3,7,8,9],[3,7,8,9],[2]]
def zdH:=kd []
noncomputable def znJ:C:=cd prog f42 zdr zdH
def zmI:PC:=
 ann [(1,8)] znJ (.s 1 (.l (.s 0 (.l (.o ⟨[(3,.v),(7,.same),(8,.same),(9,.v)],[.same]⟩ [(.ext 0,⟨[(3,.v)],[.same]⟩)] .n)))))
def Jb:PFn:=⟨[.tmp 2],zmI,false⟩
def Xs:Fn:=nf 1 Jb
def zcs:=kl [[1],[1,3],[3,7,8,9],[3,7,8,9,10],[3,5,7,8,9],[3,7,8,9],[3,7,8,9],[2]]
def zdG:=kd []
noncomputable def zm8:C:=cd prog f43 zcs zdG
def zob:PC:=
 ann [(1,8)] zm8 (.s 1 (.l (.s 0 (.l (.o ⟨[(3,.v),(7,.same),(8,.same),(9,.v)],[.same]⟩ [(.ext 0,⟨[(3,.v)],[.same]⟩)] .n)))))
def QN:PFn:=⟨[.tmp 2],zob,false⟩
def XB:Fn:=nf 1 QN
def zmg:=kl [[1],[2]]
def zlP:=kd []
noncomputable def zuu:C:=cd prog f44 zmg zlP
def zuZ:PC:=
 ann [(1,8)] zuu .n
def zeX:PFn:=⟨[.tmp 2],zuZ,false⟩
def zao:Fn:=nf 1 zeX
def zpk:PC:=
 (.seq
 (.reg (om 6 2<|
 oq 7 (.inil true (.s 6))<|
 .nil) [0,1,2,7])
 (.cond (.s 7)
 (.seq
 (.seq
 (.reg (om 9 2<|
 oq 10 (.tas 71 true (.s 9))<|
 om 8 10<|
 oq 11 (.ext (.s 8) 0)<|
 oq 12 (.ext (.s 8) 1)<|
 oq 3 (.alloc [])<|
 oz (.store 0 (.s 3) (.s 11))<|
 om 4 12<|
 .nil) [0,1,2,4])
 (.seq
 (.reg (om 13 4<|
 oq 14 (.un .not (.s 13))<|
 .nil) [0,1,2,14])
 (.cond (.s 14)
 (.seq
 (.reg (om 15 2<|
 om 1000000 15<|
 oq 1000001 (.inil true (.s 1000000))<|
 .nil) [1000000,1000001])
 (.cond (.s 1000001)
 (.exit 1000000)
 (.exit 1000002)))
 .skip)))
 (.reg (oq 16 (.build zt8 [])<|
 oz (.store 8 (.s 0) (.s 16))<|
 oz (.store 1 (.s 1) kf)<|
 .nil) []))
 .skip))
def K3:PFn:=⟨[],zpk,false⟩
def zp1:C:=
 (.seq
 (.reg [nm 6 2,nq 7 (.inil true (.s 6))] [0,1,2,7])
 (.cond (.s 7)
 (.seq
 (.seq
 (.reg [nm 9 2,nq 10 (.tas 71 true (.s 9)),nm 8 10,nq 11 (.ext (.s 8) 0),nq 12 (.ext (.s 8) 1),nq 3 (.alloc []),⟨none,.store 0 (.s 3) (.s 11),none⟩,nm 4 12] [0,1,2,4])
 (.seq
 (.reg [nm 13 4,nq 14 (.un .not (.s 13))] [0,1,2,14])
 (.cond (.s 14)
 (.reg [nm 15 2,⟨none,.pan (.s 15),none⟩] [0,1])
 .skip)))
 (.reg [nq 16 (.build zt8 []),⟨none,.store 8 (.s 0) (.s 16),none⟩,⟨none,.store 1 (.s 1) kf,none⟩] []))
 .skip))
def Va:Fn:=⟨3,[],false,false,zp1⟩
def zgj:Fn:=nf 3 K3
def zhT:=kl [[2,3,4],[2,3,4,6],[2,3,4,6,7],[4],[2,3,4,6,15],[4],[2,3,4,6,21],[4],[2,3,4,6,29],[4],[2,3,4,37],[4],[2,4],[4]]
def zjt:=kd [(11,[],[],[0,1,2,3,4,5,6],[]),(12,[],[],[0,1,2,3,4,5,6,8,9,7],[])]
noncomputable def zhK:C:=cd prog f51 zhT zjt
def zsl:PC:=
 ann [(2,8),(3,11)] (vp mk0 [] false zhK) .n
def zch:PFn:=⟨[.cell 4 true 8],zsl,true⟩
def zcc:Fn:=⟨2,[.cell 4 true 8],false,false,zhK⟩
def zrs:Fn:=nf 2 zch
def zcA:=kl [[0,1,4],[0,1,4,18],[4,5],[0,1,4,6],[0,1,4,6],[0,1,4,6,7],[0,1,4,6,7,33],[0,1,4,6,7],[0,1,4,6,36],[0,1,4,6,36,37],[4,5],[0,1,4,6,36,41],[4,5],[0,1,4,6,36,49],[0,1,4,6,36,49],[4,5],[0,1,4,6,36,57],[4,5],[0,1,4,6,36,67],[4,5],[0,1,4,6,36,75],[0,1,4,6,36,75],[0,1,4,6,75],[0,1,4,6,8],[0,1,4,6,8,9],[0,1,4,6,8,9,84],[0,1,4,6,8,9],[1,4,6,8,9,10,11],[1,4,6,8,9,11],[0,1,4,6,8,9],[4,5],[0,1,4,6,12],[0,1,4,6,12,13],[0,1,4,6,12,13,108],[0,1,4,6,12,13],[1,4,6,12,13,14,15],[1,4,6,12,13,15],[0,1,4,6,12,13],[4,5]]
def zcH:=kd [(36,[],[],[0,1,2,3,4,5,6,7,8,9,10],[])]
noncomputable def zn2:C:=cd prog f56 zcA zcH
def zoi:PC:=
 ann [] zn2 (.s 4 (.b (.c ⟨[(0,.same),(1,.same),(4,.same),(6,.same),(7,.v)],[.same]⟩ [(.nrm,⟨[(0,.same),(1,.same),(4,.same),(6,.same),(7,.v)],[.same]⟩)] .n) (.b (.c ⟨[(0,.v),(1,.same),(4,.same),(6,.same),(7,.same)],[(.cells [.v,.v,.v,(.own 8),.v,.v,(.own 8),(.own 8)])]⟩ [(.nrm,⟨[(0,.v),(1,.same),(4,.same),(6,.same)],[(.cells [.v,.v,.v,(.own 8),.v,.v,(.own 8),(.own 8)])]⟩),(.ret,⟨[(4,.same),(5,.v)],[(.cells [.v,.v,.v,.v,.v,.v,(.own 8),(.own 8)])]⟩)] (.s 0 (.l (.s 3 (.b (.c ⟨[(0,.same),(1,.same),(4,.same),(6,.same),(36,.same)],[(.cells [.v,.v,.v,(.own 8),.v,.v,(.own 8),(.own 8)])]⟩ [(.nrm,⟨[(0,.same),(1,.same),(4,.same),(6,.same),(36,.same),(49,.v)],[(.cells [.v,.v,.v,(.own 8),.v,.v,(.own 8),(.own 8)])]⟩)] .n) (.s 4 (.b (.c ⟨[(0,.same),(1,.same),(4,.same),(6,.same),(36,.same)],[(.cells [.v,.v,.v,(.own 8),.v,.v,(.own 8),(.own 8)])]⟩ [(.nrm,⟨[(0,.same),(1,.same),(4,.same),(6,.same),(75,.v)],[(.cells [.v,.v,.v,(.own 8),.v,.v,(.own 8),(.own 8)])]⟩)] .n) (.l (.s 0 (.l (.s 0 (.l (.o ⟨[(0,.v),(1,.same),(4,.same),(6,.same),(8,.same),(9,.v)],[(.cells [.v,.v,.v,(.own 8),.v,.v,(.own 8),(.own 8)]),(.cells [.v,.v,.v,(.own 8),.v,.v,(.own 8),(.own 8)])]⟩ [(.ext 1,⟨[(0,.v),(4,.same),(8,.same)],[(.cells [.v,.v,.v,(.own 8),.v,.v,(.own 8),(.own 8)]),(.cells [.v,.v,.v,(.own 8),.v,.v,(.own 8),(.own 8)])]⟩)] .n))))))))))))) (.s 0 (.l (.s 0 (.l (.o ⟨[(0,.v),(1,.same),(4,.same),(6,.same),(12,.same),(13,.v)],[(.cells [.v,.v,.v,(.own 8),.v,.v,(.own 8),(.own 8)]),(.cells [.v,.v,.v,.v,.v,.v,.v,.v])]⟩ [(.ext 3,⟨[(0,.v),(4,.same),(12,.same)],[(.cells [.v,.v,.v,(.own 8),.v,.v,(.own 8),(.own 8)]),(.box 8)]⟩)] .n))))))))
def QM:PFn:=⟨[.cell 4 true 8,.tmp 5],zoi,false⟩
def Xn:Fn:=nf 2 QM
def zcy:=kl [[2,3],[5,6],[4]]
def zcD:=kd [(1,[],[4,5],[0,1,2,3],[])]
noncomputable def znp:C:=cd prog f57 zcy zcD
def znO:PC:=
 ann [(2,3),(3,3)] znp .n
def Jd:PFn:=⟨[.tmp 4],znO,false⟩
def XJ:Fn:=nf 2 Jd
def zbv:=kl [[1,2,4],[1,2,4,10],[1,2,4,6,7],[1,2,4,6,20],[4,5],[4,5]]
def zbs:=kd []
noncomputable def zk6:C:=cd prog f58 zbv zbs
def zkc:PC:=
 ann [(2,8)] zk6 (.s 0 (.l (.c ⟨[(1,.same),(2,.same),(4,.same)],[.same,(.cells [.v,.v,.v,.v,.v,.v,.v,.v])]⟩ [(.nrm,⟨[(1,.same),(2,.same),(4,.same)],[.same,(.box 8)]⟩),(.ret,⟨[(4,.same),(5,.v)],[.same,(.box 8)]⟩)] .n)))
def VM:PFn:=⟨[.cell 4 true 8,.tmp 5],zkc,false⟩
def Yx:Fn:=nf 2 VM
def zc7:=kl [[1,2,3],[1,2,3],[1,2,3,26],[6],[1,2,28,29,30],[1,2,28,29,30,31],[1,2,8,28,29,30],[1,2,28,29,30,39],[6],[1,2,28,29,30],[6]]
def zd7:=kd []
noncomputable def znL:C:=cd prog f59 zc7 zd7
def zno:PC:=
 ann [(3,8)] znL (.s 2 (.l (.s 0 (.l (.o ⟨[(1,.same),(2,.same),(28,.same),(29,.same),(30,.v)],[(.cells [.v]),.same]⟩ [(.ext 0,⟨[],[(.cells [.v]),.same]⟩),(.ret,⟨[(6,.v)],[(.cells [.v]),.same]⟩)] .n)))))
def QL:PFn:=⟨[.tmp 6],zno,false⟩
def Xv:Fn:=nf 3 QL
def W5:=kl [[0,1],[0,1,10],[4],[0,1,5],[0,1,5,14],[0,1,5],[0,1,5,25],[4],[4]]
def WL:=kd [(6,[],[],[0,1,2,3,4,5,6,7],[])]
noncomputable def zcN:C:=cd prog f61 W5 WL
def zdn:PC:=
 ann [] zcN (.s 1 (.l (.s 0 (.l (.o ⟨[(0,.same),(1,.same),(5,.v)],[]⟩ [(.ext 0,⟨[],[]⟩),(.ret,⟨[(4,.v)],[]⟩)] .n)))))
def ZO:PFn:=⟨[.tmp 4],zdn,false⟩
def jz:Fn:=nf 2 ZO
def vN:=kl [[0,1],[0,1,7,8],[0,1,7,8,9],[0,1,5,7,8],[0,1,5,7,8,16],[4],[0,1,7,8],[4]]
def vO:=kd []
noncomputable def Zk:C:=cd prog f62 vN vO
def Zj:PC:=
 ann [] Zk (.s 0 (.l (.s 0 (.l (.o ⟨[(0,.same),(1,.same),(7,.same),(8,.v)],[]⟩ [(.ext 0,⟨[],[]⟩),(.ret,⟨[(4,.v)],[]⟩)] .n)))))
def xV:PFn:=⟨[.tmp 4],Zj,false⟩
def y9:Fn:=nf 2 xV
def zja:=kl [[1],[2]]
def zid:=kd []
noncomputable def zst:C:=cd prog f63 zja zid
def zrr:PC:=
 ann [(1,8)] zst .n
def zbA:PFn:=⟨[.tmp 2],zrr,false⟩
def Jk:Fn:=nf 1 zbA
def zji:=kl [[0],[2]]
def zj7:=kd []
noncomputable def zrK:C:=cd prog f64 zji zj7
def zsH:PC:=
 ann [] zrK .n
def zbI:PFn:=⟨[.tmp 2],zsH,false⟩
def QO:Fn:=nf 1 zbI
def kE:=kl [[0,1],[4]]
def kx:=kd []
noncomputable def VG:C:=cd prog f66 kE kx
def Vo:PC:=
 ann [] VG .n
def qr:PFn:=⟨[.tmp 4],Vo,false⟩
def wF:Fn:=nf 2 qr
def zfA:=kl [[1],[2]]
def zf0:=kd []
noncomputable def zpz:C:=cd prog f67 zfA zf0
def zpj:PC:=
 ann [(1,8)] zpz .n
def Ki:PFn:=⟨[.tmp 2],zpj,false⟩
def WX:Fn:=nf 1 Ki
def zl8:=kl [[1,3,5,6],[1,3,5,6,14],[6],[3,5,6,7,8],[3,5,6,7,8,9],[3,5,6,7,8,9,25],[3,5,6,7,8,9,25,26],[6],[3,5,6,7,8,9,35],[3,5,6,7,8,9,10,11],[3,5,6,7,9,10,11,46],[3,5,6,7,9,10,11],[3,5,6,7,9,10],[6],[6]]
def zlv:=kd [(7,[],[],[0,1,2,3,4,5],[]),(13,[],[],[0,1,2,3,4,5,6,7,8,9,10,11,12,13,14],[])]
noncomputable def zl3:C:=cd prog f69 zl8 zlv
def zue:PC:=
 ann [(3,8),(5,8)] (vp mk0 [] false zl3) (.s 3 (.l (.s 0 (.l (.s 2 (.l (.s 0 (.l (.c ⟨[(3,.same),(5,.same),(6,.same),(7,.same),(8,.same),(9,.same),(10,.v),(11,.v)],[.same,.same,.same,.same]⟩ [(.nrm,⟨[(3,.same),(5,.same),(6,.same),(7,.same),(9,.same),(10,.v),(11,.v)],[.same,.same,.same,.same]⟩)] .n)))))))))
def ze5:PFn:=⟨[.cell 6 true 8],zue,true⟩
def ze6:Fn:=⟨3,[.cell 6 true 8],false,false,zl3⟩
def zt2:Fn:=nf 3 ze5
def zcq:=kl [[1,2,4],[1,2,4],[1,2,4],[2,4,5,6],[2,4,5,6,7],[2,4,5,6,7,27],[4],[2,4,5,7,8],[4]]
def zdv:=kd [(6,[],[],[0,1,2,3,4],[]),(8,[],[],[0,1,2,3,4,5,6,7,8,9,10,11,12,13],[])]
noncomputable def zcF:C:=cd prog f70 zcq zdv
def znN:PC:=
 ann [(2,8)] (vp mk0 [] false zcF) .n
def QQ:PFn:=⟨[.cell 4 true 8],znN,true⟩
def Jn:Fn:=⟨2,[.cell 4 true 8],false,false,zcF⟩
def zmG:Fn:=nf 2 QQ
def zlp:=kl [[1,3,5,6],[3,6,7],[3,6],[6]]
def zlr:=kd []
noncomputable def zlJ:C:=cd prog f71 zlp zlr
def zt5:PC:=
 ann [(3,8),(5,8)] (vp mk0 [] false zlJ) .n
def zeh:PFn:=⟨[.cell 6 true 8],zt5,true⟩
def zfn:Fn:=⟨3,[.cell 6 true 8],false,false,zlJ⟩
def zug:Fn:=nf 3 zeh
def zh1:=kl [[1,2,3,6],[1,2,3,6,7],[1,2,3,6,7,13],[6],[1,2,3,6,7],[6]]
def zhe:=kd [(5,[],[],[0,1,3,4,2],[])]
noncomputable def ziA:C:=cd prog f72 zh1 zhe
def zr6:PC:=
 ann [(3,8)] (vp mk0 [] false ziA) .n
def zb5:PFn:=⟨[.cell 6 true 8],zr6,true⟩
def zb3:Fn:=⟨3,[.cell 6 true 8],false,false,ziA⟩
def zrL:Fn:=nf 3 zb5
def zlN:=kl [[1,2,4],[4,5,6],[4,5],[4]]
def zlZ:=kd []
noncomputable def zls:C:=cd prog f73 zlN zlZ
def zvP:PC:=
 ann [(2,8)] (vp mk0 [] false zls) .n
def zeJ:PFn:=⟨[.cell 4 true 8],zvP,true⟩
def zeC:Fn:=⟨2,[.cell 4 true 8],false,false,zls⟩
def zu2:Fn:=nf 2 zeJ
def zhS:=kl [[3]]
def ziX:=kd []
noncomputable def zj9:C:=cd prog f74 zhS ziX
def zrY:PC:=
 ann [] (vp mk0 [] false zj9) .n
def zbJ:PFn:=⟨[],zrY,true⟩
def zbK:Fn:=⟨1,[],false,false,zj9⟩
def zrl:Fn:=nf 1 zbJ
def zgf:=kl [[2,3],[2,3,9],[4],[2,3,11],[2,3,11,12],[2,3,11,14],[2,3,11,16],[2,3,11,18],[2,3,11,20],[2,3,22],[4],[4],[4],[4],[4],[4]]
def zf6:=kd []
noncomputable def zoz:C:=cd prog f75 zgf zf6
def zoC:PC:=
 ann [(2,8),(3,8)] zoz (.s 1 (.l (.s 0 (.l (.l (.l (.l (.l (.l (.c ⟨[(2,.same),(3,.same),(11,.same)],[.same,.same]⟩ [(.ext 0,⟨[],[.same,.same]⟩),(.ext 5,⟨[(2,.same),(3,.same)],[.same,.same]⟩),(.ext 6,⟨[(2,.same),(3,.same)],[.same,.same]⟩),(.nrm,⟨[(2,.same),(3,.same)],[.same,.same]⟩),(.ret,⟨[(4,.v)],[.same,.same]⟩)] .n))))))))))
def JZ:PFn:=⟨[.tmp 4],zoC,false⟩
def WQ:Fn:=nf 2 JZ
def zgk:=kl [[1,3,5,6],[1,3,5,6,7],[1,3,5,6,7,8],[1,3,5,6,7,8,10],[1,3,5,6,7,8,10,11],[1,3,5,6,7,8,10,11,35],[1,3,5,6,7,8,10,11],[1,3,5,6,7,8,10,11,38],[1,3,5,6,7,10,11],[1,3,5,6,7,8,10,11],[1,3,5,6,7,8,10,11,62],[1,3,5,6,7,10,11],[1,3,5,6,7,8,10,11],[1,3,5,6,7,8,10,11],[1,5,6,7,111],[6,7],[6]]
def zfO:=kd [(8,[],[],[0,1,2,3,4,5,6,7,8,9,10],[]),(11,[],[],[0,1,2,3,4,5,6,7,8,9,10],[]),(13,[],[],[0,1,2,3,4,5,6,7,8,9,10,11,12,13,14,15,16,17,18],[]),(15,[],[],[0,1,2,3,4,5,6,7,8,9,10],[])]
noncomputable def zqF:C:=cd prog f76 zgk zfO
def zp8:PC:=
 ann [(3,8),(5,8)] zqF (.s 3 (.b (.s 0 (.l (.o ⟨[(1,.same),(3,.same),(5,.same),(6,.same),(7,.same),(8,.v),(10,.same),(11,.v)],[.same,.same,.same,(.cells [.v,.v,.v,(.own 1),.v,.v,(.own 1),(.own 8)]),.same]⟩ [(.ext 0,⟨[(1,.same),(5,.same),(6,.same),(7,.same),(8,.v)],[.same,.same,.same,(.cells [.v,.v,.v,(.own 1),.v,.v,(.own 1),(.own 8)]),.same]⟩)] (.s 0 (.l (.l (.b (.l (.s 0 (.b (.l .q) (.s 0 (.l (.l .q)))))) .q))))))) (.l (.s 0 (.l .q)))))
def K5:PFn:=⟨[.cell 6 true 8],zp8,false⟩
def W8:Fn:=nf 3 K5
def zaX:=kl [[0,1],[0,1,25],[4,5],[0,1,6],[0,1,6,7],[0,1,6,7,29],[0,1,6,7],[0,1,6,7,41],[4,5],[0,1,6,7],[6,52],[4,5],[4,5]]
def zaU:=kd []
noncomputable def zkE:C:=cd prog f77 zaX zaU
def zkR:PC:=
 ann [] zkE (.s 2 (.l (.s 0 (.l (.o ⟨[(0,.same),(1,.same),(6,.v),(7,.v)],[]⟩ [(.ext 0,⟨[(1,.same),(6,.v)],[]⟩),(.ret,⟨[(4,.v),(5,.v)],[]⟩)] .n)))))
def Vv:PFn:=⟨[.tmp 4,.tmp 5],zkR,false⟩
def YN:Fn:=nf 2 Vv
def Kc:=kl [[0,2],[0,2,10],[0,2,10,11],[2],[0,2,10,18],[2,3],[2],[0,2,10,38],[2,5],[2],[0,2,54],[2,7],[2],[2]]
def K4:=kd []
noncomputable def zi4:C:=cd prog f80 Kc K4
def zht:PC:=
 ann [] zi4 .n
def Wo:PFn:=⟨[.cell 2 true 3],zht,false⟩
def ZB:Fn:=nf 1 Wo
def za3:=kl [[],[0]]
def zaP:=kd []
noncomputable def zkF:C:=cd prog f81 za3 zaP
def zbc:PC:=
 ann [] zkF .n
def za2:PFn:=⟨[.tmp 0],zbc,false⟩
def YE:Fn:=⟨0,[.tmp 0],false,true,xz zbc⟩
def zh6:=kl [[1,2],[1,2,4],[2],[2]]
def zhV:=kd []
noncomputable def zsF:C:=cd prog f82 zh6 zhV
def zrt:PC:=
 ann [(1,3)] zsF .n
def zbV:PFn:=⟨[.cell 2 true 3],zrt,false⟩
def QY:Fn:=nf 1 zbV
def zfF:=kl [[0,1],[0,1,5],[0,1,5,13],[0,1,5],[0,1,5,22],[4],[0,1,5,29],[4],[4]]
def zfM:=kd []
noncomputable def zoA:C:=cd prog f83 zfF zfM
def zqd:PC:=
 ann [] zoA (.s 0 (.l (.s 0 (.l (.o ⟨[(0,.same),(1,.same),(5,.v)],[]⟩ [(.ext 0,⟨[],[]⟩),(.ret,⟨[(4,.v)],[]⟩)] .n)))))
def Ko:PFn:=⟨[.tmp 4],zqd,false⟩
def WT:Fn:=nf 2 Ko
def J2:=kl [[1,2,4],[1,2,4,6],[1,2,4,6,23],[1,2,4,6],[1,2,4,6,32],[4,5],[4,5]]
def Kl:=kd []
noncomputable def ziy:C:=cd prog f84 J2 Kl
def zih:PC:=
 ann [(2,8)] ziy (.s 0 (.l (.s 0 (.l (.o ⟨[(1,.same),(2,.same),(4,.same),(6,.v)],[.same,(.cells [.v,.v,.v,.v,.v,.v,.v,.v])]⟩ [(.ext 0,⟨[(4,.same)],[.same,(.box 8)]⟩),(.ret,⟨[(4,.same),(5,.v)],[.same,(.box 8)]⟩)] .n)))))
def Wi:PFn:=⟨[.cell 4 true 8,.tmp 5],zih,false⟩
def ZG:Fn:=nf 2 Wi
def zhu:=kl [[1],[1,3,4,5],[1,3,4,5,6,7],[1,3,4,5,6,7,40],[1,3,4,5,6,7,40,41],[1,3,4,5,6,7,40,43],[1,3,4,5,6,7,40,45],[1,3,4,5,6,7,40,47],[1,3,4,5,6,7,40,49],[1,3,4,5,6,40,51],[1,3,4,5,6,53],[3,4,5,6,7],[3,4,5,6,7],[3,4,5,6,7],[3,4,5,6,7],[1,3,4,5,6],[3,4,5,6,7],[2],[2]]
def zhG:=kd [(1,[],[],[0,1,2,3,4,5,6,7,8,9,10,11,12,13,14,15,16,17,18,19,20,21,22,23,24],[]),(2,[],[],[0,1,2,3,4,5,6,7,8],[])]
noncomputable def zrz:C:=cd prog f85 zhu zhG
def zrA:PC:=
 ann [(1,8)] zrz (.s 2 (.l (.c ⟨[(1,.same),(3,.v),(4,.v),(5,.v),(6,.v),(7,.v)],[.same]⟩ [(.nrm,⟨[(3,.v),(4,.v),(5,.v),(6,.v),(7,.v)],[.same]⟩),(.ret,⟨[(2,.v)],[.same]⟩)] (.s 0 (.l (.l (.l (.l (.c ⟨[(1,.same),(3,.v),(4,.v),(5,.v),(6,.v),(7,.same),(40,.same)],[.same]⟩ [(.ext 0,⟨[(3,.v),(4,.v),(5,.v),(6,.v),(7,.same)],[.same]⟩),(.ext 8,⟨[],[.same]⟩),(.nrm,⟨[(1,.same),(3,.v),(4,.v),(5,.v),(6,.v)],[.same]⟩)] .n)))))))))
def zbQ:PFn:=⟨[.tmp 2],zrA,false⟩
def Jy:Fn:=nf 1 zbQ
def qW:=kl [[0,1],[4]]
def qV:=kd []
noncomputable def Y0:C:=cd prog f86 qW qV
def Y9:PC:=
 ann [] Y0 .n
def wT:PFn:=⟨[.tmp 4],Y9,false⟩
def xM:Fn:=nf 2 wT
def zcz:=kl [[0],[2]]
def zdP:=kd []
noncomputable def zmQ:C:=cd prog f87 zcz zdP
def zmC:PC:=
 ann [] zmQ .n
def Q8:PFn:=⟨[.tmp 2],zmC,false⟩
def XK:Fn:=nf 1 Q8
def zfE:=kl [[0],[0,8],[0,8,9,10],[0,3,4,8],[0,3,8,14],[0,6,8],[0,8,23],[2],[2]]
def zfy:=kd []
noncomputable def zqh:C:=cd prog f88 zfE zfy
def zpi:PC:=
 ann [] zqh (.s 1 (.l (.s 0 (.l (.o ⟨[(0,.same),(8,.same)],[.iter]⟩ [(.ext 0,⟨[],[.dead]⟩),(.ret,⟨[(2,.v)],[.dead]⟩)] .n)))))
def KA:PFn:=⟨[.tmp 2],zpi,false⟩
def W7:Fn:=nf 1 KA
def ZS:=kl [[0,1],[0,1,7,8],[0,1,7,8,9],[0,1,5,7,8],[0,1,5,7,8,16],[4],[0,1,7,8],[4]]
def Z5:=kd []
noncomputable def JM:C:=cd prog f90 ZS Z5
def JN:PC:=
 ann [] JM (.s 0 (.l (.s 0 (.l (.o ⟨[(0,.same),(1,.same),(7,.same),(8,.v)],[]⟩ [(.ext 0,⟨[],[]⟩),(.ret,⟨[(4,.v)],[]⟩)] .n)))))
def jt:PFn:=⟨[.tmp 4],JN,false⟩
def vF:Fn:=nf 2 jt
def zbg:=kl [[1],[1,3],[1,3,10],[2],[1,39],[2],[5],[2]]
def zbt:=kd []
noncomputable def zkt:C:=cd prog f92 zbg zbt
def zkv:PC:=
 ann [(1,3)] zkt .n
def VN:PFn:=⟨[.tmp 2],zkv,false⟩
def Yy:Fn:=nf 1 VN
def zfP:=kl [[0],[2,3]]
def zfp:=kd [(1,[],[],[0,1,2,3,4,5,6,7,8,9,10,11],[])]
noncomputable def zoS:C:=cd prog f94 zfP zfp
def zqU:PC:=
 ann [] zoS .n
def Kr:PFn:=⟨[.tmp 2,.tmp 3],zqU,false⟩
def WY:Fn:=nf 1 Kr
def zkb:=kl [[3,4,5,6],[4,5,6,7,8],[4,5,6,7,8,9,10],[4,5,6,8,9,10],[4,5,6,9,10],[4,5,6,9,10,11],[4,5,6,9,10,11,34],[6,9,10],[6],[4,5,6,9,10,12],[4,5,6,9,10,12,46],[4,5,6,9,10,12],[6]]
def ziJ:=kd [(2,[0,1,3,4],[2,5],[6],[]),(12,[],[],[0,1,2,3,4,5,6,7,8],[])]
noncomputable def zsM:C:=cd prog f95 zkb ziJ
def zsd:PC:=
 ann [(3,8),(4,1),(5,8)] zsM (.s 6 (.l (.c ⟨[(4,.same),(5,.same),(6,.same),(9,.same),(10,.same),(12,.v)],[.same,.same,.same,.same,.same,.same]⟩ [(.nrm,⟨[(4,.same),(5,.same),(6,.same),(9,.same),(10,.same),(12,.v)],[.same,.same,.same,.same,.same,.same]⟩)] .n)))
def zck:PFn:=⟨[.cell 6 true 8],zsd,false⟩
def QB:Fn:=nf 3 zck
def JE:=kl [[0,1],[0,1,24],[4,5],[0,1,6],[0,1,6,26,27],[0,1,6,26,27,28],[0,1,6,7,26,27],[0,1,6,7,26,27,39],[4,5],[0,1,6,26,27],[0,1,6,26,27],[6,51],[4,5],[4,5]]
def JF:=kd []
noncomputable def zgy:C:=cd prog f96 JE JF
def zgN:PC:=
 ann [] zgy (.s 2 (.l (.s 0 (.l (.o ⟨[(0,.same),(1,.same),(6,.v),(26,.same),(27,.v)],[]⟩ [(.ext 0,⟨[(1,.same),(6,.v)],[]⟩),(.ret,⟨[(4,.v),(5,.v)],[]⟩)] .n)))))
def Y6:PFn:=⟨[.tmp 4,.tmp 5],zgN,false⟩
def kJ:Fn:=nf 2 Y6
def Wz:=kl [[0],[0,3],[0,3,9,10,11],[0,3,9,10,11,12],[0,3,5,9,10,11],[0,3,9,10,11],[0,3,9,10,11,20],[0,3,9,10,11],[0,3,9,10,11],[0,6],[6,25,26,27],[6,25,26,27,28],[6,8,25,26,27],[6,25,26,27],[6,25,26,27],[2]]
def Wd:=kd []
noncomputable def Wk:C:=cd prog f97 Wz Wd
def zb2:PC:=
 ann [] (vp mk0 [] false Wk) (.s 1 (.b (.s 0 (.l (.o ⟨[(0,.same),(3,.v),(9,.same),(10,.same),(11,.v)],[]⟩ [(.ext 0,⟨[(0,.same),(3,.v)],[]⟩),(.ext 1000000,⟨[(1000000,.v)],[]⟩),(.ext 1000002,⟨[],[]⟩)] .n))) (.s 0 (.l (.s 0 (.l (.o ⟨[(6,(.own 8)),(25,.same),(26,.same),(27,.v)],[]⟩ [(.ext 2,⟨[(6,(.own 8))],[]⟩)] .n)))))))
def kM:PFn:=⟨[.tmp 2],zb2,false⟩
def kN:Fn:=⟨1,[.tmp 2],false,false,Wk⟩
def zbP:Fn:=nf 1 kM
def zcY:=kl [[1,2,4],[1,2,4,5,6],[2,4,5,6,7],[2,4,5,6,7,17],[4],[4]]
def zdg:=kd [(5,[],[],[0,1,2,3,4,5,6,7,8,9,10,11,12,13,14,15,16],[])]
noncomputable def zn3:C:=cd prog f98 zcY zdg
def zm2:PC:=
 ann [(2,8)] zn3 .n
def QX:PFn:=⟨[.cell 4 true 8],zm2,false⟩
def Xr:Fn:=nf 2 QX
def zba:=kl [[1,3,5,6],[1,3,5,6,15],[6,7],[1,3,5,6,8,9],[1,3,5,6,8,9,25],[1,3,6,8,9],[1,3,6,8,34],[6,7],[1,3,6,8,38],[6,7],[3,6,8,10],[3,6,8,10,12],[3,6,8,10,12],[3,6,12],[3,6],[6,7]]
def zaO:=kd [(3,[],[8],[0,1,2,3,4,5,6,7],[]),(5,[],[],[0,1,2,3,4,5,6,7],[]),(9,[],[],[0,1,2,3,4],[]),(10,[],[],[0,1,2,3,4,5,6,7,8,9,10,11],[])]
noncomputable def zkn:C:=cd prog f99 zba zaO
def zkq:PC:=
 ann [(3,8),(5,8)] zkn (.s 2 (.l (.c ⟨[(1,.same),(3,.same),(5,.same),(6,.same),(8,.same),(9,.v)],[.same,.same,.same,(.box 8)]⟩ [(.nrm,⟨[(1,.same),(3,.same),(6,.same),(8,.same),(9,.v)],[.same,.same,.same,(.box 8)]⟩)] .n)))
def VD:PFn:=⟨[.cell 6 true 8,.tmp 7],zkq,false⟩
def YH:Fn:=nf 3 VD
def ZX:=kl [[0,1],[0,1,10],[4],[0,1,12,13],[0,1,12,13,14],[0,1,5,12,13],[0,1,12,13,24],[4],[0,1,12,13],[4]]
def ZY:=kd [(6,[],[],[0,1,2,3,4,5,6,7],[])]
noncomputable def JV:C:=cd prog f100 ZX ZY
def JL:PC:=
 ann [] JV (.s 1 (.l (.s 0 (.l (.o ⟨[(0,.same),(1,.same),(12,.same),(13,.v)],[]⟩ [(.ext 0,⟨[],[]⟩),(.ret,⟨[(4,.v)],[]⟩)] .n)))))
def jv:PFn:=⟨[.tmp 4],JL,false⟩
def vK:Fn:=nf 2 jv
def V2:=kl [[0,1],[4]]
def Ql:=kd []
noncomputable def zeH:C:=cd prog f101 V2 Ql
def zev:PC:=
 ann [] zeH .n
def Yp:PFn:=⟨[.tmp 4],zev,false⟩
def jZ:Fn:=nf 2 Yp
def zbm:=kl [[1,2,4],[2,4,10,11,12],[2,4,10,11,12,13],[2,4,7,10,11,12],[2,4,8,9,10,11,12],[2,4,8,10,11,12,23],[4,5],[2,4,10,11,12],[2,4,10,11,12],[4,5]]
def zbo:=kd []
noncomputable def zk8:C:=cd prog f102 zbm zbo
def zkD:PC:=
 ann [(2,8)] zk8 (.s 0 (.l (.s 0 (.l (.o ⟨[(2,.same),(4,.same),(10,.same),(11,.same),(12,.v)],[(.box 8),(.cells [.v,.v,.v,.v,.v,.v,.v,.v])]⟩ [(.ext 0,⟨[(2,.same),(4,.same)],[(.box 8),(.box 8)]⟩),(.ret,⟨[(4,.same),(5,.v)],[(.box 8),(.cells [.v,.v,.v,.v,.v,.v,.v,.v])]⟩)] .n)))))
def VB:PFn:=⟨[.cell 4 true 8,.tmp 5],zkD,false⟩
def YJ:Fn:=nf 2 VB
def zio:=kl [[2,3],[2,3],[4]]
def zjJ:=kd [(1,[],[],[0,1,2],[])]
noncomputable def zsx:C:=cd prog f103 zio zjJ
def zsB:PC:=
 ann [(2,3),(3,3)] zsx .n
def zbU:PFn:=⟨[.tmp 4],zsB,false⟩
def Qt:Fn:=nf 2 zbU
def ZT:=kl [[0,1,2],[0,1,2,14],[6],[1,2,15,16,17],[1,2,15,16,17,18],[1,2,7,8,15,16,17],[1,2,8,9,15,16,17],[1,2,15,16,17,30],[6],[1,2,15,16,17],[6]]
def ZV:=kd []
noncomputable def JT:C:=cd prog f104 ZT ZV
def JP:PC:=
 ann [] JT (.s 1 (.l (.s 0 (.l (.o ⟨[(1,.same),(2,.same),(15,.same),(16,.same),(17,.v)],[]⟩ [(.ext 0,⟨[],[]⟩),(.ret,⟨[(6,.v)],[]⟩)] .n)))))
def jw:PFn:=⟨[.tmp 6],JP,false⟩
def vH:Fn:=nf 3 jw
def zjT:=kl [[0,2],[0,2,3],[0,2,3,9],[0,2,3],[2,4],[2]]
def zhr:=kd []
noncomputable def zri:C:=cd prog f105 zjT zhr
def zr8:PC:=
 ann [] zri (.s 1 (.l (.c ⟨[(0,.same),(2,.same),(3,.v)],[.same]⟩ [(.nrm,⟨[(0,.same),(2,.same),(3,.v)],[.same]⟩)] .n)))
def zbE:PFn:=⟨[.cell 2 true 3],zr8,false⟩
def QU:Fn:=nf 1 zbE
def zcT:=kl [[0,1,2,6],[0,2,6,8,9],[0,2,6,8,9,17],[6,7],[0,2,6,8,9,45],[6,7],[6,7]]
def zcB:=kd []
noncomputable def zmR:C:=cd prog f106 zcT zcB
def znc:PC:=
 ann [] zmR .n
def Q3:PFn:=⟨[.cell 6 true 3,.tmp 7],znc,false⟩
def Xk:Fn:=nf 3 Q3
def zdY:=kl [[0,1],[0,1,8],[4],[4]]
def zea:=kd []
noncomputable def znX:C:=cd prog f107 zdY zea
def zmO:PC:=
 ann [] znX .n
def Jg:PFn:=⟨[.tmp 4],zmO,false⟩
def Xw:Fn:=nf 2 Jg
def zgd:=kl [[1],[1,3],[1,3,10],[2],[1,39],[2],[5],[2]]
def zfG:=kd []
noncomputable def zoZ:C:=cd prog f108 zgd zfG
def zqO:PC:=
 ann [(1,3)] zoZ .n
def KI:PFn:=⟨[.tmp 2],zqO,false⟩
def WZ:Fn:=nf 1 KI
def zf9:=kl [[0],[2]]
def zf4:=kd []
noncomputable def zpX:C:=cd prog f109 zf9 zf4
def zo7:PC:=
 ann [] zpX .n
def Kt:PFn:=⟨[.tmp 2],zo7,false⟩
def WM:Fn:=nf 1 Kt
def zd8:=kl [[0],[0,5,6,7],[0,5,6,7,8],[0,3,4,5,6,7],[0,5,6,7,27],[2],[0,5,6,7],[2]]
def zdu:=kd []
noncomputable def znQ:C:=cd prog f110 zd8 zdu
def znZ:PC:=
 ann [] znQ (.s 0 (.l (.s 0 (.l (.o ⟨[(0,.same),(5,.same),(6,.same),(7,.v)],[]⟩ [(.ext 0,⟨[(0,.same)],[]⟩),(.ret,⟨[(2,.v)],[]⟩)] .n)))))
def QE:PFn:=⟨[.tmp 2],znZ,false⟩
def XL:Fn:=nf 1 QE
def kh:=kl [[0,1],[0,1,7,8],[0,1,7,8,9],[0,1,5,7,8],[0,1,5,7,8,16],[4],[0,1,7,8],[4]]
def kg:=kd []
noncomputable def ke:C:=cd prog f111 kh kg
def WG:PC:=
 ann [] ke (.s 0 (.l (.s 0 (.l (.o ⟨[(0,.same),(1,.same),(7,.same),(8,.v)],[.same]⟩ [(.ext 0,⟨[],[.same]⟩),(.ret,⟨[(4,.v)],[.same]⟩)] .n)))))
def vT:PFn:=⟨[.tmp 4],WG,false⟩
def wg:Fn:=nf 2 vT
def Xq:PC:=
 ann [] ke (.s 0 (.l (.s 0 (.l (.o ⟨[(0,.same),(1,.same),(7,.same),(8,.v)],[]⟩ [(.ext 0,⟨[],[]⟩),(.ret,⟨[(4,.v)],[]⟩)] .n)))))
def jy:PFn:=⟨[.tmp 4],Xq,false⟩
def vM:=kl [[0],[0,10],[2,3],[2,3]]
def vR:=kd []
noncomputable def Qg:C:=cd prog f112 vM vR
def V1:PC:=
 ann [] Qg .n
def qI:PFn:=⟨[.tmp 2,.tmp 3],V1,false⟩
def wQ:Fn:=nf 1 qI
def za5:=kl [[0,1],[0,1,6],[0,1,6,7],[0,1,6,7,8],[0,1,6,7,8,16],[0,1,6,7,8],[0,1,6,7,8],[0,1,6,7,8],[0,1,6,7,8],[4,5]]
def zbf:=kd []
noncomputable def zko:C:=cd prog f114 za5 zbf
def zkU:PC:=
 ann [] zko (.s 2 (.l (.s 0 (.l (.o ⟨[(0,.same),(1,.same),(6,.same),(7,.v),(8,.v)],[(.arr .no 1)]⟩ [(.ext 0,⟨[(6,.same),(7,.v)],[(.arr .no 1)]⟩)] .n)))))
def VH:PFn:=⟨[.tmp 4,.tmp 5],zkU,false⟩
def YI:Fn:=nf 2 VH
def ziR:=kl [[1],[1,7],[2,3],[1,4],[2,3]]
def zhC:=kd [(4,[],[],[0,1,2,3,4,5,6,7,8,9,10],[])]
noncomputable def zrO:C:=cd prog f115 ziR zhC
def zsh:PC:=
 ann [(1,8)] zrO .n
def zcd:PFn:=⟨[.tmp 2,.tmp 3],zsh,false⟩
def QS:Fn:=nf 1 zcd
def ZW:=kl [[0,1],[0,1,7,8],[0,1,7,8,9],[0,1,5,7,8],[0,1,5,7,8,16],[4],[0,1,7,8],[4]]
def Z1:=kd []
noncomputable def JQ:C:=cd prog f116 ZW Z1
def JR:PC:=
 ann [] JQ (.s 0 (.l (.s 0 (.l (.o ⟨[(0,.same),(1,.same),(7,.same),(8,.v)],[]⟩ [(.ext 0,⟨[],[]⟩),(.ret,⟨[(4,.v)],[]⟩)] .n)))))
def jp:PFn:=⟨[.tmp 4],JR,false⟩
def vJ:Fn:=nf 2 jp
def zcR:=kl [[0,1],[3]]
def zc5:=kd []
noncomputable def znH:C:=cd prog f117 zcR zc5
def zm1:PC:=
 ann [] znH .n
def Q9:PFn:=⟨[.tmp 3],zm1,false⟩
def Xp:Fn:=nf 1 Q9
def ZM:=kl [[0],[0,3],[0,3,9,10,11],[0,3,9,10,11,12],[0,3,5,9,10,11],[0,3,9,10,11],[0,3,9,10,11,20],[0,3,9,10,11],[0,3,9,10,11],[0,6],[6,25,26,27],[6,25,26,27,28],[6,8,25,26,27],[6,25,26,27],[6,25,26,27],[2]]
def ZC:=kd []
noncomputable def Zz:C:=cd prog f121 ZM ZC
def QP:PC:=
 ann [] (vp mk0 [] false Zz) (.s 1 (.b (.s 0 (.l (.o ⟨[(0,.same),(3,.v),(9,.same),(10,.same),(11,.v)],[]⟩ [(.ext 0,⟨[(0,.same),(3,.v)],[]⟩),(.ext 1000000,⟨[(1000000,.v)],[]⟩),(.ext 1000002,⟨[],[]⟩)] .n))) (.s 0 (.l (.s 0 (.l (.o ⟨[(6,(.own 1)),(25,.same),(26,.same),(27,.v)],[]⟩ [(.ext 2,⟨[(6,(.own 1))],[]⟩)] .n)))))))
def qP:PFn:=⟨[.tmp 2],QP,false⟩
def qQ:Fn:=⟨1,[.tmp 2],false,false,Zz⟩
def Jp:Fn:=nf 1 qP
def Kk:=kl [[1,2,4],[1,2,4,10],[4,5],[2,4,6,7],[2,4,6,26],[4,5],[4,5]]
def KP:=kd []
noncomputable def zj3:C:=cd prog f122 Kk KP
def zhU:PC:=
 ann [(2,8)] zj3 .n
def Wr:PFn:=⟨[.cell 4 true 8,.tmp 5],zhU,false⟩
def Zo:Fn:=nf 2 Wr
def zoG:=kl [[1,2],[1,2,5],[2],[2]]
def zqt:=kd []
noncomputable def zx9:C:=cd prog f123 zoG zqt
def zvY:PC:=
 ann [(1,3)] zx9 .n
def zh4:PFn:=⟨[.cell 2 true 3],zvY,false⟩
def zdx:Fn:=nf 1 zh4
def Z3:=kl [[0,1],[0,1,10],[4],[0,1,12,13],[0,1,12,13,14],[0,1,5,12,13],[0,1,12,13,24],[4],[0,1,12,13],[4]]
def Z4:=kd [(6,[],[],[0,1,2,3,4,5,6,7],[])]
noncomputable def JO:C:=cd prog f124 Z3 Z4
def JY:PC:=
 ann [] JO (.s 1 (.l (.s 0 (.l (.o ⟨[(0,.same),(1,.same),(12,.same),(13,.v)],[]⟩ [(.ext 0,⟨[],[]⟩),(.ret,⟨[(4,.v)],[]⟩)] .n)))))
def jo:PFn:=⟨[.tmp 4],JY,false⟩
def vL:Fn:=nf 2 jo
def zdc:=kl [[0],[4],[4,5],[4,5,12],[4,5,6,7],[4,5,6,19],[4,5],[4,5],[2,3]]
def zcQ:=kd []
noncomputable def znv:C:=cd prog f125 zdc zcQ
def znt:PC:=
 ann [] znv (.s 2 (.l (.l (.o ⟨[(4,.v),(5,.v)],[]⟩ [(.ext 0,⟨[(4,.v),(5,.v)],[]⟩)] .n))))
def Jo:PFn:=⟨[.tmp 2,.tmp 3],znt,false⟩
def Xx:Fn:=nf 1 Jo
def zhj:=kl [[0],[0],[0,4],[0,4,11],[0,4,5,6],[0,4,5,18],[0,4],[0,4],[2,3]]
def zhz:=kd []
noncomputable def zrq:C:=cd prog f126 zhj zhz
def zsD:PC:=
 ann [] zrq (.s 3 (.l (.l (.o ⟨[(0,.v),(4,.v)],[]⟩ [(.ext 0,⟨[(0,.v),(4,.v)],[]⟩)] .n))))
def zbT:PFn:=⟨[.tmp 2,.tmp 3],zsD,false⟩
def QI:Fn:=nf 1 zbT
def wR:=kl [[0],[0,4],[0,4,16],[2,3],[0,4,5],[0,4,5,6],[0,4,5,6,23],[0,7],[2,3],[0,4,5,6,8],[0,4,5,8,9],[0,5,8,9,45],[2,3],[0,5,8,9,10],[0,5,8,10,57],[2,3],[0,5,8,10,59],[2,3],[0,5,8,10,11],[0,5,8,10,11,75],[2,3],[0,5,10,11,77],[2,3],[5,10,11,12],[5,10,11,12,98],[2,3],[2,3]]
def wP:=kd []
noncomputable def XE:C:=cd prog f127 wR wP
def XM:PC:=
 ann [] XE .n
def vh:PFn:=⟨[.tmp 2,.tmp 3],XM,false⟩
def xU:Fn:=nf 1 vh
def zd1:=kl [[0],[0,3],[0,3,15],[0,3],[2]]
def zdJ:=kd []
noncomputable def znk:C:=cd prog f129 zd1 zdJ
def zna:PC:=
 ann [] znk (.s 1 (.l (.l (.o ⟨[(0,.same),(3,.v)],[]⟩ [(.ext 0,⟨[(0,.same),(3,.v)],[]⟩)] .n))))
def Qs:PFn:=⟨[.tmp 2],zna,false⟩
def Xj:Fn:=nf 1 Qs
def zbe:=kl [[1,2,4],[1,4,6,7],[4,7,8],[4,7,8,18],[4,5],[4,5]]
def zbw:=kd []
noncomputable def zkf:C:=cd prog f135 zbe zbw
def zkY:PC:=
 ann [(2,8)] zkf .n
def Vl:PFn:=⟨[.cell 4 true 8,.tmp 5],zkY,false⟩
def YL:Fn:=nf 2 Vl
def zjx:=kl [[0],[0,3],[0,3,16],[0,3],[0,3,20],[2],[0,4],[4],[2]]
def ziI:=kd []
noncomputable def zsI:C:=cd prog f136 zjx ziI
def zse:PC:=
 ann [] zsI (.s 1 (.l (.l (.o ⟨[(0,.same),(3,.v)],[]⟩ [(.ext 0,⟨[(0,.same),(3,.v)],[]⟩)] .n))))
def zcj:PFn:=⟨[.tmp 2],zse,false⟩
def QK:Fn:=nf 1 zcj
def zf5:=kl [[0,1],[0,1,6],[0,1,6,7],[0,1,6,7,8],[0,1,6,7,8,16],[0,1,6,7,8],[0,1,6,7,8],[0,1,6,7,8],[0,1,6,7,8],[4,5]]
def zfS:=kd []
noncomputable def zp0:C:=cd prog f137 zf5 zfS
def zpJ:PC:=
 ann [] zp0 (.s 2 (.l (.s 0 (.l (.o ⟨[(0,.same),(1,.same),(6,.same),(7,.v),(8,.v)],[(.arr .no 1)]⟩ [(.ext 0,⟨[(6,.same),(7,.v)],[(.arr .no 1)]⟩)] .n)))))
def J8:PFn:=⟨[.tmp 4,.tmp 5],zpJ,false⟩
def WN:Fn:=nf 2 J8
def zqA:Nat->Nat->Option PFn:=fun f k=>(match f with | 6=>some ZH | 9=>some Vp | 10=>some J3 | 14=>some Ye | 15=>some Kx | 17=>some zbH | 20=>some zeZ | 23=>some Jq | 25=>some VK | 26=>some Jx | 27=>some KW | 28=>some KM | 29=>some Xb | 32=>some QA | 34=>some Y2 | 35=>some kq | 36=>some xy | 37=>some VQ | 38=>some zeL | 41=>some Vt | 42=>some Jb | 43=>some QN | 44=>some zeX | 500050=>some K3 | 1000051=>some zch | 56=>some QM | 57=>some Jd | 58=>some VM | 59=>some QL | 61=>some ZO | 62=>some xV | 63=>some zbA | 64=>some zbI | 66=>some qr | 67=>some Ki | 1000069=>some ze5 | 1000070=>some QQ | 1000071=>some zeh | 1000072=>some zb5 | 1000073=>some zeJ | 1000074=>some zbJ | 75=>some JZ | 76=>some K5 | 77=>some Vv | 80=>some Wo | 81=>some za2 | 82=>some zbV | 83=>some Ko | 84=>some Wi | 85=>some zbQ | 86=>some wT | 87=>some Q8 | 88=>some KA | 90=>some jt | 92=>some VN | 94=>some Kr | 95=>some zck | 96=>some Y6 | 97=>some kM | 98=>some QX | 99=>some VD | 100=>some jv | 101=>some Yp | 102=>some VB | 103=>some zbU | 104=>some jw | 105=>some zbE | 106=>some Q3 | 107=>some Jg | 108=>some KI | 109=>some Kt | 110=>some QE | 111=>(match k with | 0=>some jy | _=>some vT) | 112=>some qI | 114=>some VH | 115=>some zcd | 116=>some jp | 117=>some Q9 | 121=>some qP | 122=>some Wr | 123=>some zh4 | 124=>some jo | 125=>some Jo | 126=>some zbT | 127=>some vh | 129=>some Qs | 135=>some Vl | 136=>some zcj | 137=>some J8 | _=>none)
def zzJ:List (Nat×Fn):=[(wM,qm),(xH,YF),(jN,W9),(xu,jX),(Zh,Ve),(Yl,Q2),(yz,ze9),(ve,Xt),(wE,YD),(xN,Xo),(jP,WU),(xT,W0),(vZ,kG),(wC,XC),(vY,kI),(xY,qx),(z8,yV),(wD,YB),(jn,zaB),(vn,YM),(qg,Xs),(v7,XB),(Z8,zao),(Jc,zcc),(vf,Xn),(j2,XJ),(jf,Yx),(vi,Xv),(wL,jz),(yK,y9),(Ym,Jk),(jS,QO),(xb,wF),(jO,WX),(zez,ze6),(Js,Jn),(ze2,zfn),(zb4,zb3),(XS,zeC),(zbO,zbK),(wc,WQ),(kZ,W8),(jm,YN),(qG,ZB),(jd,YE),(kV,QY),(Zi,WT),(vB,ZG),(kT,Jy),(yO,xM),(qk,XK),(jJ,W7),(wk,vF),(je,Yy),(jT,WY),(kX,QB),(xj,kJ),(yZ,kN),(kb,Xr),(qu,YH),(yT,vK),(wm,jZ),(jg,YJ),(Yi,Qt),(xd,vH),(kO,QU),(w6,Xk),(wY,Xw),(jK,WZ),(jL,WM),(jW,XL),(yq,wg),(xg,wQ),(xF,YI),(jH,QS),(yS,vJ),(va,Xp),(xq,qQ),(vt,Zo),(X9,zdx),(xD,vL),(ka,Xx),(Yr,QI),(ye,xU),(qM,Xj),(jb,YL),(kW,QK),(jQ,WN)]
def zzT:List (Nat×List X×Fn):=[(yz,([.s 4,.s 5],Va))]
def ex0:Nat->Option Told:=fun f=>(match f with | 118=>some (.fn (V0 1 16)) | 119=>some (.fn (V0 8 120)) | 120=>some (.fn (zew 8 120)) | 134=>some (.fn (zew 1 16)) | _=>none)
def glT:Nat->Option (List V):=fun g=>match g with | 0=>some G_0 | 1=>some G_1 | _=>none
def E0:Env:=⟨look zzJ,fun g=>(glT g).map toDL,ex0,zml zzT⟩
def zx0:List (Nat×Fn):=[(wM,qm),(xH,YF),(jN,W9),(xu,jX),(Zh,Ve),(Yl,Q2),(yz,zvV),(ve,Xt),(wE,YD),(xN,Xo),(jP,WU),(xT,W0),(vZ,kG),(wC,XC),(vY,kI),(xY,qx),(z8,yV),(wD,YB),(jn,zaB),(vn,YM),(qg,Xs),(v7,XB),(Z8,zao),(qK,zgj),(wr,zrs),(vf,Xn),(j2,XJ),(jf,Yx),(vi,Xv),(wL,jz),(yK,y9),(Ym,Jk),(jS,QO),(xb,wF),(jO,WX),(XR,zt2),(Zl,zmG),(Ze,zug),(Qw,zrL),(qB,zu2),(z7,zrl),(wc,WQ),(kZ,W8),(jm,YN),(qG,ZB),(jd,YE),(kV,QY),(Zi,WT),(vB,ZG),(kT,Jy),(yO,xM),(qk,XK),(jJ,W7),(wk,vF),(je,Yy),(jT,WY),(kX,QB),(xj,kJ),(yZ,zbP),(kb,Xr),(qu,YH),(yT,vK),(wm,jZ),(jg,YJ),(Yi,Qt),(xd,vH),(kO,QU),(w6,Xk),(wY,Xw),(jK,WZ),(jL,WM),(jW,XL),(yq,wg),(xg,wQ),(xF,YI),(jH,QS),(yS,vJ),(va,Xp),(xq,Jp),(vt,Zo),(X9,zdx),(xD,vL),(ka,Xx),(Yr,QI),(ye,xU),(qM,Xj),(jb,YL),(kW,QK),(jQ,WN)]
def E1:Env:=⟨look zx0,fun g=>(glT g).map toDL,ex0,fun _=>none⟩
def md0:Nat->Md:=fun f=>(match f with | 81 => .gv 1 | 118 => .ful | 119 => .ful | 120 => .gvf 8 | 134 => .gvf 1 | _ => .pl)
def tx0:Nat->Option (List V->Option V):=fun f=>(match f with | 118=>some (YU 1 16) | 119=>some (YU 8 120) | 120=>some (KU 120) | 134=>some (KU 16) | _=>none)
def gl0:Gl:=⟨glT,md0,tx0⟩
def P0:PcT:=pcL gl0 zqA
end Go.Ev
end
