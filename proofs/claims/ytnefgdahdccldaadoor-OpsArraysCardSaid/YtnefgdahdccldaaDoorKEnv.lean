/- The functions' table stands for the loaded program's. -/
import Derived.Test.YtnefgdahdccldaaDoorKTx
import Derived.Test.YtnefgdahdccldaaDoorProg
import Derived.KernelRfl
set_option linter.all false
namespace Go.Ev
def kl(l:List (List Nat))(i:Nat):List Nat:=(l[i]?).getD []
def kd:List (Nat×List Nat×List Nat×List Nat)→Nat→List Nat×List Nat×List Nat
 | [],_=>([],[],[])
 | (j,x)::r,i=>if i=j then x else kd r i
open Go.Proofs.Tryd
theorem WU:Plain prog (xa prog) xX w8:=
 ⟨f3,_,kl [[0,1,2,3],[1,2,3,9],[1,2,3,9,10],[1,2,3,9,10,11],[1,2,3,9,10,11,12],[1,2,3,9,10,11,12,28],[1,2,3,9,10,11,12],[1,2,3,9,10,11,12],[1,2,3,9,10,11,12],[3,10,11,13,14],[3,10,11,13,14,15],[3,10,11,13,14,15,16],[3,10,11,13,14,15,16,17],[3,10,11,13,14,15,16,17,18],[10,11,13,14,15,16,17,18,85],[10,11,13,14,15,16,17,18,85,86],[10,15,16,17],[10,15,16,18],[10,11,13,14,15,16,18,85,96],[10,11,13,15,16],[10,15,16,18],[10,11,13,14,15,16,18,111],[10,11,13,14,15,16],[10,15,16,18],[15,18,19,20],[15,18,19,152],[8],[15,18,19,21],[15,18,19,21,156],[15,18,19,21],[15,18,19,21,176],[8],[8]],fun i=>if i=7 then([],[],[0,1,2,3,4,5,6,7],[])else if i=11 then([],[13],[0,1,2,3,4,5,6,7,8,9,10,11,12],[])else if i=12 then([],[],[0,1,2,3,4,5,6,7],[])else if i=13 then([],[],[0,1,2,3,4,5,6,7,8,9],[])else if i=22 then([],[],[0,1,2,3,4,5,6,7,8,9,10,11],[])else if i=23 then([],[],[0,1,2,3,4,5,6,7,8,9],[])else if i=30 then([],[],[0,1,2,3,4,5,6,7,8,9,10,11,12,13,14,15,16],[])else([],[],[],[]),func3,by kernel_rfl,rfl,by kernel_rfl,by kernel_rfl⟩
theorem Kr:Plain prog (xa prog) yC kh:=
 ⟨f6,_,kl [[0,1],[1,5],[1,5,10],[5],[4]],fun i=>([],[],[],[]),func6,by kernel_rfl,rfl,by kernel_rfl,by kernel_rfl⟩
theorem Kl:Plain prog (xa prog) vm ku:=
 ⟨f8,_,kl [[],[1],[2,3,4],[0]],fun i=>([],[],[],[]),func8,by kernel_rfl,rfl,by kernel_rfl,by kernel_rfl⟩
theorem zbh:Plain prog (xa prog) vB Ye:=
 ⟨f13,_,kl [[1,2,3,6],[1,2,3,6,20],[6,7,8],[2,3,6,22,23,24],[2,3,6,22,23,24,25],[2,3,6,9,10,22,23,24],[2,3,6,9,11,12,22,23,24],[2,3,6,9,11,22,23,24,35],[6,7,8],[2,3,6,9,11,22,23,24,40],[6,7,8],[2,3,6,22,23,24],[2,3,6,22,23,24],[6,7,8]],fun i=>([],[],[],[]),func13,by kernel_rfl,rfl,by kernel_rfl,by kernel_rfl⟩
theorem zdG:Plain prog (xa prog) XM Qz:=
 ⟨f17,_,kl [[2,3,4],[2,3,4,6],[2,3,4,6,7],[4],[2,3,4,6,15],[4],[2,3,4,6,21],[4],[2,3,4,6,29],[4],[2,3,4,37],[4],[2,4],[4]],fun i=>if i=11 then([],[],[0,1,2,3,4,5,6],[])else if i=12 then([],[],[0,1,2,3,4,5,6,8,9,7],[])else([],[],[],[]),func17,by kernel_rfl,rfl,by kernel_rfl,by kernel_rfl⟩
theorem zat:Plain prog (xa prog) xj Zf:=
 ⟨f20,_,kl [[1],[1,3],[2]],fun i=>([],[],[],[]),func20,by kernel_rfl,rfl,by kernel_rfl,by kernel_rfl⟩
theorem zbb:Plain prog (xa prog) qq Yb:=
 ⟨f21,_,kl [[0],[2]],fun i=>([],[],[],[]),func21,by kernel_rfl,rfl,by kernel_rfl,by kernel_rfl⟩
theorem zdB:Plain prog (xa prog) jc XA:=
 ⟨f22,_,kl [[1,2],[4]],fun i=>([],[],[],[]),func22,by kernel_rfl,rfl,by kernel_rfl,by kernel_rfl⟩
theorem zfJ:Plain prog (xa prog) Zo J9:=
 ⟨f25,_,kl [[1,3,5,6],[1,3,5,6,14],[6],[3,5,6,7,8],[3,5,6,7,8,9],[3,5,6,7,8,9,25],[3,5,6,7,8,9,25,26],[6],[3,5,6,7,8,9,35],[3,5,6,7,8,9,10,11],[3,5,6,7,9,10,11,46],[3,5,6,7,9,10,11],[3,5,6,7,9,10],[6],[6]],fun i=>if i=7 then([],[],[0,1,2,3,4,5],[])else if i=13 then([],[],[0,1,2,3,4,5,6,7,8,9,10,11,12,13,14],[])else([],[],[],[]),func25,by kernel_rfl,rfl,by kernel_rfl,by kernel_rfl⟩
theorem zaA:Plain prog (xa prog) jt XZ:=
 ⟨f26,_,kl [[1,2,4],[1,2,4],[1,2,4],[2,4,5,6],[2,4,5,6,7],[2,4,5,6,7,27],[4],[2,4,5,7,8],[4]],fun i=>if i=6 then([],[],[0,1,2,3,4],[])else if i=8 then([],[],[0,1,2,3,4,5,6,7,8,9,10,11,12,13],[])else([],[],[],[]),func26,by kernel_rfl,rfl,by kernel_rfl,by kernel_rfl⟩
theorem zfm:Plain prog (xa prog) ji JX:=
 ⟨f27,_,kl [[1,3,5,6],[3,6,7],[3,6],[6]],fun i=>([],[],[],[]),func27,by kernel_rfl,rfl,by kernel_rfl,by kernel_rfl⟩
theorem zdU:Plain prog (xa prog) XU Qw:=
 ⟨f28,_,kl [[1,2,3,6],[1,2,3,6,7],[1,2,3,6,7,13],[6],[1,2,3,6,7],[6]],fun i=>if i=5 then([],[],[0,1,3,4,2],[])else([],[],[],[]),func28,by kernel_rfl,rfl,by kernel_rfl,by kernel_rfl⟩
theorem zgl:Plain prog (xa prog) wr Ku:=
 ⟨f29,_,kl [[1,2,4],[4,5,6],[4,5],[4]],fun i=>([],[],[],[]),func29,by kernel_rfl,rfl,by kernel_rfl,by kernel_rfl⟩
theorem zdD:Plain prog (xa prog) vG Qs:=
 ⟨f30,_,kl [[3]],fun i=>([],[],[],[]),func30,by kernel_rfl,rfl,by kernel_rfl,by kernel_rfl⟩
theorem zcl:Plain prog (xa prog) wq Yv:=
 ⟨f31,_,kl [[2,3],[2,3,9],[4],[2,3,11],[2,3,11,12],[2,3,11,14],[2,3,11,16],[2,3,11,18],[2,3,11,20],[2,3,22],[4],[4],[4],[4],[4],[4]],fun i=>([],[],[],[]),func31,by kernel_rfl,rfl,by kernel_rfl,by kernel_rfl⟩
theorem zaK:Plain prog (xa prog) xF Za:=
 ⟨f37,_,kl [[1,2,3],[1,2,3],[1,2,3,26],[6],[1,2,28,29,30],[1,2,28,29,30,31],[1,2,8,28,29,30],[1,2,28,29,30,39],[6],[1,2,28,29,30],[6]],fun i=>([],[],[],[]),func37,by kernel_rfl,rfl,by kernel_rfl,by kernel_rfl⟩
theorem qi:Plain prog (xa prog) zv yE:=
 ⟨f38,_,kl [[0,1],[4]],fun i=>([],[],[],[]),func38,by kernel_rfl,rfl,by kernel_rfl,by kernel_rfl⟩
theorem JZ:Plain prog (xa prog) xA kn:=
 ⟨f39,_,kl [[1],[2]],fun i=>([],[],[],[]),func39,by kernel_rfl,rfl,by kernel_rfl,by kernel_rfl⟩
theorem zfl:Plain prog (xa prog) vu Vc:=
 ⟨f40,_,kl [[1],[1,3,4],[1,3,4,13],[1,3,4,13,14],[1,3,4,13,16],[1,3,4,13,18],[1,3,4,13,18],[1,3,4,13,18],[1,3,4,22],[1,3,4],[1,3,4],[2],[2]],fun i=>if i=1 then([],[],[0,1,2,3,4,5,6],[])else([],[],[],[]),func40,by kernel_rfl,rfl,by kernel_rfl,by kernel_rfl⟩
theorem KG:Plain prog (xa prog) xz kq:=
 ⟨f41,_,kl [[1],[1,3],[1,3,7],[1,3,7,8],[1,3],[1,3,7,16],[1,3,16],[1,3],[3,25,26,27],[3,25,26,27,28],[3,5,25,26,27],[3,25,26,27],[3,25,26,27],[2]],fun i=>([],[],[],[]),func41,by kernel_rfl,rfl,by kernel_rfl,by kernel_rfl⟩
theorem zaI:Plain prog (xa prog) xN k9:=
 ⟨f42,_,kl [[1],[1,3],[3,7,8,9],[3,7,8,9,10],[3,5,7,8,9],[3,7,8,9],[3,7,8,9],[2]],fun i=>([],[],[],[]),func42,by kernel_rfl,rfl,by kernel_rfl,by kernel_rfl⟩
theorem zaD:Plain prog (xa prog) xL Ze:=
 ⟨f43,_,kl [[1],[1,3],[3,7,8,9],[3,7,8,9,10],[3,5,7,8,9],[3,7,8,9],[3,7,8,9],[2]],fun i=>([],[],[],[]),func43,by kernel_rfl,rfl,by kernel_rfl,by kernel_rfl⟩
theorem zfB:Plain prog (xa prog) qv Vo:=
 ⟨f44,_,kl [[1],[2]],fun i=>([],[],[],[]),func44,by kernel_rfl,rfl,by kernel_rfl,by kernel_rfl⟩
theorem zcD:Plain prog (xa prog) xS Yq:=
 ⟨f46,_,kl [[0],[2,3]],fun i=>if i=1 then([],[],[0,1,2,3,4,5,6,7,8,9,10,11],[])else([],[],[],[]),func46,by kernel_rfl,rfl,by kernel_rfl,by kernel_rfl⟩
theorem zdx:Plain prog (xa prog) vj X3:=
 ⟨f47,_,kl [[3,4,5,6],[4,5,6,7,8],[4,5,6,7,8,9,10],[4,5,6,8,9,10],[4,5,6,9,10],[4,5,6,9,10,11],[4,5,6,9,10,11,34],[6,9,10],[6],[4,5,6,9,10,12],[4,5,6,9,10,12,46],[4,5,6,9,10,12],[6]],fun i=>if i=2 then([0,1,3,4],[2,5],[6],[])else if i=12 then([],[],[0,1,2,3,4,5,6,7,8],[])else([],[],[],[]),func47,by kernel_rfl,rfl,by kernel_rfl,by kernel_rfl⟩
theorem QB:Plain prog (xa prog) ye qX:=
 ⟨f48,_,kl [[0,1],[0,1,24],[4,5],[0,1,6],[0,1,6,26,27],[0,1,6,26,27,28],[0,1,6,7,26,27],[0,1,6,7,26,27,39],[4,5],[0,1,6,26,27],[0,1,6,26,27],[6,51],[4,5],[4,5]],fun i=>([],[],[],[]),func48,by kernel_rfl,rfl,by kernel_rfl,by kernel_rfl⟩
theorem Wd:Plain prog (xa prog) z7 ja:=
 ⟨f49,_,kl [[0],[0,3],[0,3,9,10,11],[0,3,9,10,11,12],[0,3,5,9,10,11],[0,3,9,10,11],[0,3,9,10,11,20],[0,3,9,10,11],[0,3,9,10,11],[0,6],[6,25,26,27],[6,25,26,27,28],[6,8,25,26,27],[6,25,26,27],[6,25,26,27],[2]],fun i=>([],[],[],[]),func49,by kernel_rfl,rfl,by kernel_rfl,by kernel_rfl⟩
theorem zaB:Plain prog (xa prog) w7 Zb:=
 ⟨f50,_,kl [[1,2,4],[1,2,4,5,6],[2,4,5,6,7],[2,4,5,6,7,17],[4],[4]],fun i=>if i=5 then([],[],[0,1,2,3,4,5,6,7,8,9,10,11,12,13,14,15,16],[])else([],[],[],[]),func50,by kernel_rfl,rfl,by kernel_rfl,by kernel_rfl⟩
theorem J3:Plain prog (xa prog) xy kg:=
 ⟨f51,_,kl [[1,3,5,6],[1,3,5,6,15],[6,7],[1,3,5,6,8,9],[1,3,5,6,8,9,25],[1,3,6,8,9],[1,3,6,8,34],[6,7],[1,3,6,8,38],[6,7],[3,6,8,10],[3,6,8,10,12],[3,6,8,10,12],[3,6,12],[3,6],[6,7]],fun i=>if i=3 then([],[8],[0,1,2,3,4,5,6,7],[])else if i=5 then([],[],[0,1,2,3,4,5,6,7],[])else if i=9 then([],[],[0,1,2,3,4],[])else if i=10 then([],[],[0,1,2,3,4,5,6,7,8,9,10,11],[])else([],[],[],[]),func51,by kernel_rfl,rfl,by kernel_rfl,by kernel_rfl⟩
theorem YD:Plain prog (xa prog) ya wI:=
 ⟨f52,_,kl [[0,1],[0,1,10],[4],[0,1,12,13],[0,1,12,13,14],[0,1,5,12,13],[0,1,12,13,24],[4],[0,1,12,13],[4]],fun i=>if i=6 then([],[],[0,1,2,3,4,5,6,7],[])else([],[],[],[]),func52,by kernel_rfl,rfl,by kernel_rfl,by kernel_rfl⟩
theorem VA:Plain prog (xa prog) y3 qz:=
 ⟨f53,_,kl [[0,1],[4]],fun i=>([],[],[],[]),func53,by kernel_rfl,rfl,by kernel_rfl,by kernel_rfl⟩
theorem J4:Plain prog (xa prog) wo kx:=
 ⟨f54,_,kl [[1,2,4],[2,4,10,11,12],[2,4,10,11,12,13],[2,4,7,10,11,12],[2,4,8,9,10,11,12],[2,4,8,10,11,12,23],[4,5],[2,4,10,11,12],[2,4,10,11,12],[4,5]],fun i=>([],[],[],[]),func54,by kernel_rfl,rfl,by kernel_rfl,by kernel_rfl⟩
theorem zdY:Plain prog (xa prog) XF XT:=
 ⟨f55,_,kl [[2,3],[2,3],[4]],fun i=>if i=1 then([],[],[0,1,2],[])else([],[],[],[]),func55,by kernel_rfl,rfl,by kernel_rfl,by kernel_rfl⟩
theorem Yy:Plain prog (xa prog) xI wK:=
 ⟨f56,_,kl [[0,1,2],[0,1,2,14],[6],[1,2,15,16,17],[1,2,15,16,17,18],[1,2,7,8,15,16,17],[1,2,8,9,15,16,17],[1,2,15,16,17,30],[6],[1,2,15,16,17],[6]],fun i=>([],[],[],[]),func56,by kernel_rfl,rfl,by kernel_rfl,by kernel_rfl⟩
theorem zdy:Plain prog (xa prog) qn XK:=
 ⟨f59,_,kl [[1],[1,3,4,5],[1,3,4,5,6,7],[1,3,4,5,6,7,40],[1,3,4,5,6,7,40,41],[1,3,4,5,6,7,40,43],[1,3,4,5,6,7,40,45],[1,3,4,5,6,7,40,47],[1,3,4,5,6,7,40,49],[1,3,4,5,6,40,51],[1,3,4,5,6,53],[3,4,5,6,7],[3,4,5,6,7],[3,4,5,6,7],[3,4,5,6,7],[1,3,4,5,6],[3,4,5,6,7],[2],[2]],fun i=>if i=1 then([],[],[0,1,2,3,4,5,6,7,8,9,10,11,12,13,14,15,16,17,18,19,20,21,22,23,24],[])else if i=2 then([],[],[0,1,2,3,4,5,6,7,8],[])else([],[],[],[]),func59,by kernel_rfl,rfl,by kernel_rfl,by kernel_rfl⟩
theorem qM:Plain prog (xa prog) yi yS:=
 ⟨f60,_,kl [[0,1],[0,1,7,8],[0,1,7,8,9],[0,1,5,7,8],[0,1,5,7,8,16],[4],[0,1,7,8],[4]],fun i=>([],[],[],[]),func60,by kernel_rfl,rfl,by kernel_rfl,by kernel_rfl⟩
theorem zdJ:Plain prog (xa prog) jd X1:=
 ⟨f61,_,kl [[1],[2]],fun i=>([],[],[],[]),func61,by kernel_rfl,rfl,by kernel_rfl,by kernel_rfl⟩
theorem zdX:Plain prog (xa prog) vl XD:=
 ⟨f62,_,kl [[0],[2]],fun i=>([],[],[],[]),func62,by kernel_rfl,rfl,by kernel_rfl,by kernel_rfl⟩
theorem kY:Plain prog (xa prog) yD xK:=
 ⟨f63,_,kl [[0,1],[4]],fun i=>([],[],[],[]),func63,by kernel_rfl,rfl,by kernel_rfl,by kernel_rfl⟩
theorem zc3:Plain prog (xa prog) vD Yc:=
 ⟨f64,_,kl [[1],[2]],fun i=>([],[],[],[]),func64,by kernel_rfl,rfl,by kernel_rfl,by kernel_rfl⟩
theorem zdE:Plain prog (xa prog) wx Xz:=
 ⟨f65,_,kl [[1],[1,7],[2,3],[1,4],[2,3]],fun i=>if i=4 then([],[],[0,1,2,3,4,5,6,7,8,9,10],[])else([],[],[],[]),func65,by kernel_rfl,rfl,by kernel_rfl,by kernel_rfl⟩
theorem YM:Plain prog (xa prog) yb wP:=
 ⟨f66,_,kl [[0,1],[0,1,7,8],[0,1,7,8,9],[0,1,5,7,8],[0,1,5,7,8,16],[4],[0,1,7,8],[4]],fun i=>([],[],[],[]),func66,by kernel_rfl,rfl,by kernel_rfl,by kernel_rfl⟩
theorem kQ:Plain prog (xa prog) zz xH:=
 ⟨f67,_,kl [[0,1],[0,1,7,8],[0,1,7,8,9],[0,1,5,7,8],[0,1,5,7,8,16],[4],[0,1,7,8],[4]],fun i=>([],[],[],[]),func67,by kernel_rfl,rfl,by kernel_rfl,by kernel_rfl⟩
theorem zaL:Plain prog (xa prog) xJ Zc:=
 ⟨f68,_,kl [[0,1],[3]],fun i=>([],[],[],[]),func68,by kernel_rfl,rfl,by kernel_rfl,by kernel_rfl⟩
theorem Z0:Plain prog (xa prog) yN vM:=
 ⟨f72,_,kl [[0],[0,3],[0,3,9,10,11],[0,3,9,10,11,12],[0,3,5,9,10,11],[0,3,9,10,11],[0,3,9,10,11,20],[0,3,9,10,11],[0,3,9,10,11],[0,6],[6,25,26,27],[6,25,26,27,28],[6,8,25,26,27],[6,25,26,27],[6,25,26,27],[2]],fun i=>([],[],[],[]),func72,by kernel_rfl,rfl,by kernel_rfl,by kernel_rfl⟩
theorem Ji:Plain prog (xa prog) xC ju:=
 ⟨f73,_,kl [[1,2,4],[1,2,4,10],[4,5],[2,4,6,7],[2,4,6,26],[4,5],[4,5]],fun i=>([],[],[],[]),func73,by kernel_rfl,rfl,by kernel_rfl,by kernel_rfl⟩
theorem zgO:Plain prog (xa prog) WC Jb:=
 ⟨f74,_,kl [[1,2],[1,2,5],[2],[2]],fun i=>([],[],[],[]),func74,by kernel_rfl,rfl,by kernel_rfl,by kernel_rfl⟩
theorem YE:Plain prog (xa prog) wF wN:=
 ⟨f75,_,kl [[0,1],[0,1,10],[4],[0,1,12,13],[0,1,12,13,14],[0,1,5,12,13],[0,1,12,13,24],[4],[0,1,12,13],[4]],fun i=>if i=6 then([],[],[0,1,2,3,4,5,6,7],[])else([],[],[],[]),func75,by kernel_rfl,rfl,by kernel_rfl,by kernel_rfl⟩
theorem zds:Plain prog (xa prog) vy Z9:=
 ⟨f77,_,kl [[1],[1,3],[1,3,10],[2],[1,39],[2],[5],[2]],fun i=>([],[],[],[]),func77,by kernel_rfl,rfl,by kernel_rfl,by kernel_rfl⟩
theorem zbg:Plain prog (xa prog) ve Yt:=
 ⟨f78,_,kl [[0],[2]],fun i=>([],[],[],[]),func78,by kernel_rfl,rfl,by kernel_rfl,by kernel_rfl⟩
theorem zau:Plain prog (xa prog) vJ kX:=
 ⟨f79,_,kl [[0],[0,5,6,7],[0,5,6,7,8],[0,3,4,5,6,7],[0,5,6,7,27],[2],[0,5,6,7],[2]],fun i=>([],[],[],[]),func79,by kernel_rfl,rfl,by kernel_rfl,by kernel_rfl⟩
theorem jJ:Plain prog (xa prog) yo xi:=
 ⟨f80,_,kl [[0,1],[4]],fun i=>([],[],[],[]),func80,by kernel_rfl,rfl,by kernel_rfl,by kernel_rfl⟩
theorem zaM:Plain prog (xa prog) wk kW:=
 ⟨f81,_,kl [[0],[2]],fun i=>([],[],[],[]),func81,by kernel_rfl,rfl,by kernel_rfl,by kernel_rfl⟩
theorem zb7:Plain prog (xa prog) wZ Yp:=
 ⟨f82,_,kl [[0],[0,8],[0,8,9,10],[0,3,4,8],[0,3,8,14],[0,6,8],[0,8,23],[2],[2]],fun i=>([],[],[],[]),func82,by kernel_rfl,rfl,by kernel_rfl,by kernel_rfl⟩
theorem YJ:Plain prog (xa prog) xc wJ:=
 ⟨f83,_,kl [[0,1],[0,1,7,8],[0,1,7,8,9],[0,1,5,7,8],[0,1,5,7,8,16],[4],[0,1,7,8],[4]],fun i=>([],[],[],[]),func83,by kernel_rfl,rfl,by kernel_rfl,by kernel_rfl⟩
theorem JV:Plain prog (xa prog) vk kv:=
 ⟨f89,_,kl [[1,2,4],[1,4,6,7],[4,7,8],[4,7,8,18],[4,5],[4,5]],fun i=>([],[],[],[]),func89,by kernel_rfl,rfl,by kernel_rfl,by kernel_rfl⟩
theorem zdV:Plain prog (xa prog) jb Xv:=
 ⟨f92,_,kl [[0],[0],[0,4],[0,4,11],[0,4,5,6],[0,4,5,18],[0,4],[0,4],[2,3]],fun i=>([],[],[],[]),func92,by kernel_rfl,rfl,by kernel_rfl,by kernel_rfl⟩
theorem ZP:Plain prog (xa prog) yJ xY:=
 ⟨f93,_,kl [[0],[0,10],[2,3],[2,3]],fun i=>([],[],[],[]),func93,by kernel_rfl,rfl,by kernel_rfl,by kernel_rfl⟩
theorem zdF:Plain prog (xa prog) vL XG:=
 ⟨f96,_,kl [[0],[0,3],[0,3,16],[0,3],[0,3,20],[2],[0,4],[4],[2]],fun i=>([],[],[],[]),func96,by kernel_rfl,rfl,by kernel_rfl,by kernel_rfl⟩
theorem zcM:Plain prog (xa prog) vz Yn:=
 ⟨f97,_,kl [[0,1],[0,1,6],[0,1,6,7],[0,1,6,7,8],[0,1,6,7,8,16],[0,1,6,7,8],[0,1,6,7,8],[0,1,6,7,8],[0,1,6,7,8],[4,5]],fun i=>([],[],[],[]),func97,by kernel_rfl,rfl,by kernel_rfl,by kernel_rfl⟩
theorem j8:Plain prog (xa prog) z5 xw:=
 ⟨f98,_,kl [[0],[0,4],[0,4,16],[2,3],[0,4,5],[0,4,5,6],[0,4,5,6,23],[0,7],[2,3],[0,4,5,6,8],[0,4,5,8,9],[0,5,8,9,45],[2,3],[0,5,8,9,10],[0,5,8,10,57],[2,3],[0,5,8,10,59],[2,3],[0,5,8,10,11],[0,5,8,10,11,75],[2,3],[0,5,10,11,77],[2,3],[5,10,11,12],[5,10,11,12,98],[2,3],[2,3]],fun i=>([],[],[],[]),func98,by kernel_rfl,rfl,by kernel_rfl,by kernel_rfl⟩
theorem zfx:Dfr prog (xa prog) xU Kb ([.s 4,.s 5],Yh):=
 ⟨f7,f16,_,_,_,_,_,_,_,_,_,_,_,_,kl [[2,3,4,5],[2,3,4,5],[4,5]],fun i=>([],[],[],[]),kl [[],[0,1,2,7],[0,1,2,4],[0,1,2,14],[0,1]],fun i=>([],[],[],[]),[4,5],16,[2,3,4,5],func7,by kernel_rfl,rfl,rfl,by kernel_rfl,by kernel_rfl,by kernel_rfl,rfl,by kernel_rfl,
  by first | exact .inl ⟨_,_,_,_,_,rfl,rfl,rfl,rfl,rfl,rfl,rfl,rfl,rfl,rfl⟩ | exact .inr ⟨_,_,rfl,rfl,rfl,rfl⟩,rfl,by kernel_rfl,by decide,func16,by kernel_rfl,rfl,⟨_,_,_,_,rfl,rfl,rfl,rfl,rfl,rfl,rfl,by decide⟩,by kernel_rfl,by kernel_rfl,rfl,rfl,by decide⟩
theorem zsc:zeC prog (xa prog) E0:=
 zoA (l:=zp3) (dl:=zp0) (.cons WU <| .cons Kr <| .dfr zfx <| .cons Kl <| .cons zbh <| .cons zdG <| .cons zat <| .cons zbb <| .cons zdB <| .cons zfJ <| .cons zaA <| .cons zfm <| .cons zdU <| .cons zgl <| .cons zdD <| .cons zcl <| .cons zaK <| .cons qi <| .cons JZ <| .cons zfl <| .cons KG <| .cons zaI <| .cons zaD <| .cons zfB <| .cons zcD <| .cons zdx <| .cons QB <| .cons Wd <| .cons zaB <| .cons J3 <| .cons YD <| .cons VA <| .cons J4 <| .cons zdY <| .cons Yy <| .cons zdy <| .cons qM <| .cons zdJ <| .cons zdX <| .cons kY <| .cons zc3 <| .cons zdE <| .cons YM <| .cons kQ <| .cons zaL <| .cons Z0 <| .cons Ji <| .cons zgO <| .cons YE <| .cons zds <| .cons zbg <| .cons zau <| .cons jJ <| .cons zaM <| .cons zb7 <| .cons YJ <| .cons JV <| .cons zdV <| .cons ZP <| .cons zdF <| .cons zcM <| .cons j8 <| .nil _ _ _) rfl rfl zsf zrn
theorem zrY:zcc E0 E1 mk0:=by
 refine zn3 (l:=znk) (.cons (.pl w8 rfl rfl rfl rfl (by kernel_rfl) (by kernel_rfl)) <| .cons (.pl kh rfl rfl rfl rfl (by kernel_rfl) (by kernel_rfl)) <| .cons (.df Kb ([.s 4,.s 5],Yh) [4,5] [4,5] vC KI rfl rfl rfl rfl rfl (by kernel_rfl) (by kernel_rfl) rfl (by kernel_rfl) rfl rfl) <| .cons (.pl ku rfl rfl rfl rfl (by kernel_rfl) (by kernel_rfl)) <| .cons (.pl Ye rfl rfl rfl rfl (by kernel_rfl) (by kernel_rfl)) <| .cons (.ps Yh rfl rfl (by kernel_rfl) (by kernel_rfl)) <| .cons (.pn XM Qz (by kernel_rfl) rfl rfl rfl rfl rfl (by kernel_rfl) (by kernel_rfl)) <| .cons (.pl Zf rfl rfl rfl rfl (by kernel_rfl) (by kernel_rfl)) <| .cons (.pl Yb rfl rfl rfl rfl (by kernel_rfl) (by kernel_rfl)) <| .cons (.pl XA rfl rfl rfl rfl (by kernel_rfl) (by kernel_rfl)) <| .cons (.pn Zo J9 (by kernel_rfl) rfl rfl rfl rfl rfl (by kernel_rfl) (by kernel_rfl)) <| .cons (.pn jt XZ (by kernel_rfl) rfl rfl rfl rfl rfl (by kernel_rfl) (by kernel_rfl)) <| .cons (.pn ji JX (by kernel_rfl) rfl rfl rfl rfl rfl (by kernel_rfl) (by kernel_rfl)) <| .cons (.pn XU Qw (by kernel_rfl) rfl rfl rfl rfl rfl (by kernel_rfl) (by kernel_rfl)) <| .cons (.pn wr Ku (by kernel_rfl) rfl rfl rfl rfl rfl (by kernel_rfl) (by kernel_rfl)) <| .cons (.pn vG Qs (by kernel_rfl) rfl rfl rfl rfl rfl (by kernel_rfl) (by kernel_rfl)) <| .cons (.pl Yv rfl rfl rfl rfl (by kernel_rfl) (by kernel_rfl)) <| .cons (.pl Za rfl rfl rfl rfl (by kernel_rfl) (by kernel_rfl)) <| .cons (.pl yE rfl rfl rfl rfl (by kernel_rfl) (by kernel_rfl)) <| .cons (.pl kn rfl rfl rfl rfl (by kernel_rfl) (by kernel_rfl)) <| .cons (.pl Vc rfl rfl rfl rfl (by kernel_rfl) (by kernel_rfl)) <| .cons (.pl kq rfl rfl rfl rfl (by kernel_rfl) (by kernel_rfl)) <| .cons (.pl k9 rfl rfl rfl rfl (by kernel_rfl) (by kernel_rfl)) <| .cons (.pl Ze rfl rfl rfl rfl (by kernel_rfl) (by kernel_rfl)) <| .cons (.pl Vo rfl rfl rfl rfl (by kernel_rfl) (by kernel_rfl)) <| .cons (.pl Yq rfl rfl rfl rfl (by kernel_rfl) (by kernel_rfl)) <| .cons (.pl X3 rfl rfl rfl rfl (by kernel_rfl) (by kernel_rfl)) <| .cons (.pl qX rfl rfl rfl rfl (by kernel_rfl) (by kernel_rfl)) <| .cons (.pl ja rfl rfl rfl rfl (by kernel_rfl) (by kernel_rfl)) <| .cons (.pl Zb rfl rfl rfl rfl (by kernel_rfl) (by kernel_rfl)) <| .cons (.pl kg rfl rfl rfl rfl (by kernel_rfl) (by kernel_rfl)) <| .cons (.pl wI rfl rfl rfl rfl (by kernel_rfl) (by kernel_rfl)) <| .cons (.pl qz rfl rfl rfl rfl (by kernel_rfl) (by kernel_rfl)) <| .cons (.pl kx rfl rfl rfl rfl (by kernel_rfl) (by kernel_rfl)) <| .cons (.pl XT rfl rfl rfl rfl (by kernel_rfl) (by kernel_rfl)) <| .cons (.pl wK rfl rfl rfl rfl (by kernel_rfl) (by kernel_rfl)) <| .cons (.pl XK rfl rfl rfl rfl (by kernel_rfl) (by kernel_rfl)) <| .cons (.pl yS rfl rfl rfl rfl (by kernel_rfl) (by kernel_rfl)) <| .cons (.pl X1 rfl rfl rfl rfl (by kernel_rfl) (by kernel_rfl)) <| .cons (.pl XD rfl rfl rfl rfl (by kernel_rfl) (by kernel_rfl)) <| .cons (.pl xK rfl rfl rfl rfl (by kernel_rfl) (by kernel_rfl)) <| .cons (.pl Yc rfl rfl rfl rfl (by kernel_rfl) (by kernel_rfl)) <| .cons (.pl Xz rfl rfl rfl rfl (by kernel_rfl) (by kernel_rfl)) <| .cons (.pl wP rfl rfl rfl rfl (by kernel_rfl) (by kernel_rfl)) <| .cons (.pl xH rfl rfl rfl rfl (by kernel_rfl) (by kernel_rfl)) <| .cons (.pl Zc rfl rfl rfl rfl (by kernel_rfl) (by kernel_rfl)) <| .cons (.pl vM rfl rfl rfl rfl (by kernel_rfl) (by kernel_rfl)) <| .cons (.pl ju rfl rfl rfl rfl (by kernel_rfl) (by kernel_rfl)) <| .cons (.pl Jb rfl rfl rfl rfl (by kernel_rfl) (by kernel_rfl)) <| .cons (.pl wN rfl rfl rfl rfl (by kernel_rfl) (by kernel_rfl)) <| .cons (.pl Z9 rfl rfl rfl rfl (by kernel_rfl) (by kernel_rfl)) <| .cons (.pl Yt rfl rfl rfl rfl (by kernel_rfl) (by kernel_rfl)) <| .cons (.pl kX rfl rfl rfl rfl (by kernel_rfl) (by kernel_rfl)) <| .cons (.pl xi rfl rfl rfl rfl (by kernel_rfl) (by kernel_rfl)) <| .cons (.pl kW rfl rfl rfl rfl (by kernel_rfl) (by kernel_rfl)) <| .cons (.pl Yp rfl rfl rfl rfl (by kernel_rfl) (by kernel_rfl)) <| .cons (.pl wJ rfl rfl rfl rfl (by kernel_rfl) (by kernel_rfl)) <| .cons (.pl kv rfl rfl rfl rfl (by kernel_rfl) (by kernel_rfl)) <| .cons (.pl Xv rfl rfl rfl rfl (by kernel_rfl) (by kernel_rfl)) <| .cons (.pl xY rfl rfl rfl rfl (by kernel_rfl) (by kernel_rfl)) <| .cons (.pl XG rfl rfl rfl rfl (by kernel_rfl) (by kernel_rfl)) <| .cons (.pl Yn rfl rfl rfl rfl (by kernel_rfl) (by kernel_rfl)) <| .cons (.pl xw rfl rfl rfl rfl (by kernel_rfl) (by kernel_rfl)) <| .nil) rfl rfl (fun _=>rfl) fun f x hx=>⟨?_,hx⟩
 have hx:ex0 f=some x:=hx
 unfold ex0 at hx
 split at hx<;>first | contradiction | decide
theorem zsy:zo6 E1 gl0 zhu:=by
 refine⟨fun f k g h hg => ?_,fun f e h => ?_⟩
 ·have hg:tx0 f=some g:=hg
  unfold tx0 at hg
  split at hg<;>first | contradiction | skip
  ·injection hg with hg;subst hg;exact⟨_,rfl,Q0 _ _⟩
  ·injection hg with hg;subst hg;exact⟨_,rfl,Q0 _ _⟩
  ·injection hg with hg;subst hg;exact⟨_,rfl,zbt _ _⟩
  ·injection hg with hg;subst hg;exact⟨_,rfl,zbt _ _⟩
 ·have h:md0 f = .eff e:=h
  unfold md0 at h
  split at h<;>first | contradiction | skip
end Go.Ev
