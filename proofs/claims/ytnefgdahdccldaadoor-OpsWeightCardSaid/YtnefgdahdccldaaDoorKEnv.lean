/- The functions' table stands for the loaded program's. -/
import Derived.Test.YtnefgdahdccldaaDoorKTx
import Derived.Test.YtnefgdahdccldaaDoorProg
import Derived.KernelRfl
set_option linter.all false
namespace Go.Ev
def kl(l:List (List Nat))(i:Nat):List Nat:=(l[i]?).getD []
def kd:List (Nat×List Nat×List Nat×List Nat)→Nat→List Nat×List Nat×List Nat
 | [],_=>([],[],[])
 | (j,x)::r,i=>if i=j then x else kd r i
theorem WH:Plain Go.Proofs.Tryd.prog (yS Go.Proofs.Tryd.prog) xR w9:=
 ⟨Go.Proofs.Tryd.f5,_,kl [[0,1],[0,1,5],[0,1,5,6],[0,5,6,7],[0,5,6,7,8,9],[0,5,6,7,8,9,10],[0,5,6,7,8,9,10,25],[0,5,6,7,8,9,10],[0,5,6,7,8,9,10,11],[0,5,6,7,8,9,10,11],[0,5,6,7,8,9,10],[0,5,6,7,8,9,10,52],[0,5,6,7,8,9,10],[6,8,9,12,13,14],[6,8,9,12,13,14,63],[4],[4]],fun i=>([],[],[],[]),Go.Proofs.Tryd.func5,by kernel_rfl,rfl,by kernel_rfl,by kernel_rfl⟩
theorem Kc:Plain Go.Proofs.Tryd.prog (yS Go.Proofs.Tryd.prog) y3 j5:=
 ⟨Go.Proofs.Tryd.f6,_,kl [[0,1],[1,5],[1,5,10],[5],[4]],fun i=>([],[],[],[]),Go.Proofs.Tryd.func6,by kernel_rfl,rfl,by kernel_rfl,by kernel_rfl⟩
theorem Kj:Plain Go.Proofs.Tryd.prog (yS Go.Proofs.Tryd.prog) xK ke:=
 ⟨Go.Proofs.Tryd.f8,_,kl [[],[1],[2,3,4],[0]],fun i=>([],[],[],[]),Go.Proofs.Tryd.func8,by kernel_rfl,rfl,by kernel_rfl,by kernel_rfl⟩
theorem zda:Plain Go.Proofs.Tryd.prog (yS Go.Proofs.Tryd.prog) xz Z5:=
 ⟨Go.Proofs.Tryd.f13,_,kl [[1,2,3,6],[1,2,3,6,20],[6,7,8],[2,3,6,22,23,24],[2,3,6,22,23,24,25],[2,3,6,9,10,22,23,24],[2,3,6,9,11,12,22,23,24],[2,3,6,9,11,22,23,24,35],[6,7,8],[2,3,6,9,11,22,23,24,40],[6,7,8],[2,3,6,22,23,24],[2,3,6,22,23,24],[6,7,8]],fun i=>([],[],[],[]),Go.Proofs.Tryd.func13,by kernel_rfl,rfl,by kernel_rfl,by kernel_rfl⟩
theorem VD:Plain Go.Proofs.Tryd.prog (yS Go.Proofs.Tryd.prog) yB qz:=
 ⟨Go.Proofs.Tryd.f14,_,kl [[2,3],[2,3,49],[4],[2,3,5],[2,3,5,54],[2,3,5],[2,3,5,68],[4],[4]],fun i=>if i=6 then([],[],[0,1,2,3,4,5,6,7,8,9],[])else([],[],[],[]),Go.Proofs.Tryd.func14,by kernel_rfl,rfl,by kernel_rfl,by kernel_rfl⟩
theorem Jx:Plain Go.Proofs.Tryd.prog (yS Go.Proofs.Tryd.prog) y4 jx:=
 ⟨Go.Proofs.Tryd.f15,_,kl [[1],[1,3],[1,3,6],[1,3,6,7],[1,3],[1,3,6,15],[1,3,15],[1,3],[1,3,4],[1,3,4,27],[1,3,4],[1,3,4],[2]],fun i=>([],[],[],[]),Go.Proofs.Tryd.func15,by kernel_rfl,rfl,by kernel_rfl,by kernel_rfl⟩
theorem zdL:Plain Go.Proofs.Tryd.prog (yS Go.Proofs.Tryd.prog) XB Qe:=
 ⟨Go.Proofs.Tryd.f17,_,kl [[2,3,4],[2,3,4,6],[2,3,4,6,7],[4],[2,3,4,6,15],[4],[2,3,4,6,21],[4],[2,3,4,6,29],[4],[2,3,4,37],[4],[2,4],[4]],fun i=>if i=11 then([],[],[0,1,2,3,4,5,6],[])else if i=12 then([],[],[0,1,2,3,4,5,6,8,9,7],[])else([],[],[],[]),Go.Proofs.Tryd.func17,by kernel_rfl,rfl,by kernel_rfl,by kernel_rfl⟩
theorem zaN:Plain Go.Proofs.Tryd.prog (yS Go.Proofs.Tryd.prog) y5 kR:=
 ⟨Go.Proofs.Tryd.f20,_,kl [[1],[1,3],[2]],fun i=>([],[],[],[]),Go.Proofs.Tryd.func20,by kernel_rfl,rfl,by kernel_rfl,by kernel_rfl⟩
theorem zdl:Plain Go.Proofs.Tryd.prog (yS Go.Proofs.Tryd.prog) ql Z3:=
 ⟨Go.Proofs.Tryd.f21,_,kl [[0],[2]],fun i=>([],[],[],[]),Go.Proofs.Tryd.func21,by kernel_rfl,rfl,by kernel_rfl,by kernel_rfl⟩
theorem zdF:Plain Go.Proofs.Tryd.prog (yS Go.Proofs.Tryd.prog) qV Xd:=
 ⟨Go.Proofs.Tryd.f22,_,kl [[1,2],[4]],fun i=>([],[],[],[]),Go.Proofs.Tryd.func22,by kernel_rfl,rfl,by kernel_rfl,by kernel_rfl⟩
theorem Qn:Plain Go.Proofs.Tryd.prog (yS Go.Proofs.Tryd.prog) xU qO:=
 ⟨Go.Proofs.Tryd.f23,_,kl [[2,3],[4]],fun i=>([],[],[],[]),Go.Proofs.Tryd.func23,by kernel_rfl,rfl,by kernel_rfl,by kernel_rfl⟩
theorem Xx:Plain Go.Proofs.Tryd.prog (yS Go.Proofs.Tryd.prog) yU vj:=
 ⟨Go.Proofs.Tryd.f24,_,kl [[0,1],[0,1,10],[4],[0,1,5],[0,1,5,14],[0,1,5],[0,1,5,25],[4],[4]],fun i=>if i=6 then([],[],[0,1,2,3,4,5,6,7],[])else([],[],[],[]),Go.Proofs.Tryd.func24,by kernel_rfl,rfl,by kernel_rfl,by kernel_rfl⟩
theorem zgg:Plain Go.Proofs.Tryd.prog (yS Go.Proofs.Tryd.prog) Zg Kt:=
 ⟨Go.Proofs.Tryd.f25,_,kl [[1,3,5,6],[1,3,5,6,14],[6],[3,5,6,7,8],[3,5,6,7,8,9],[3,5,6,7,8,9,25],[3,5,6,7,8,9,25,26],[6],[3,5,6,7,8,9,35],[3,5,6,7,8,9,10,11],[3,5,6,7,9,10,11,46],[3,5,6,7,9,10,11],[3,5,6,7,9,10],[6],[6]],fun i=>if i=7 then([],[],[0,1,2,3,4,5],[])else if i=13 then([],[],[0,1,2,3,4,5,6,7,8,9,10,11,12,13,14],[])else([],[],[],[]),Go.Proofs.Tryd.func25,by kernel_rfl,rfl,by kernel_rfl,by kernel_rfl⟩
theorem zaK:Plain Go.Proofs.Tryd.prog (yS Go.Proofs.Tryd.prog) jv XG:=
 ⟨Go.Proofs.Tryd.f26,_,kl [[1,2,4],[1,2,4],[1,2,4],[2,4,5,6],[2,4,5,6,7],[2,4,5,6,7,27],[4],[2,4,5,7,8],[4]],fun i=>if i=6 then([],[],[0,1,2,3,4],[])else if i=8 then([],[],[0,1,2,3,4,5,6,7,8,9,10,11,12,13],[])else([],[],[],[]),Go.Proofs.Tryd.func26,by kernel_rfl,rfl,by kernel_rfl,by kernel_rfl⟩
theorem zfe:Plain Go.Proofs.Tryd.prog (yS Go.Proofs.Tryd.prog) ji JX:=
 ⟨Go.Proofs.Tryd.f27,_,kl [[1,3,5,6],[3,6,7],[3,6],[6]],fun i=>([],[],[],[]),Go.Proofs.Tryd.func27,by kernel_rfl,rfl,by kernel_rfl,by kernel_rfl⟩
theorem zdE:Plain Go.Proofs.Tryd.prog (yS Go.Proofs.Tryd.prog) Xp Qi:=
 ⟨Go.Proofs.Tryd.f28,_,kl [[1,2,3,6],[1,2,3,6,7],[1,2,3,6,7,13],[6],[1,2,3,6,7],[6]],fun i=>if i=5 then([],[],[0,1,3,4,2],[])else([],[],[],[]),Go.Proofs.Tryd.func28,by kernel_rfl,rfl,by kernel_rfl,by kernel_rfl⟩
theorem zgh:Plain Go.Proofs.Tryd.prog (yS Go.Proofs.Tryd.prog) wo KG:=
 ⟨Go.Proofs.Tryd.f29,_,kl [[1,2,4],[4,5,6],[4,5],[4]],fun i=>([],[],[],[]),Go.Proofs.Tryd.func29,by kernel_rfl,rfl,by kernel_rfl,by kernel_rfl⟩
theorem zdr:Plain Go.Proofs.Tryd.prog (yS Go.Proofs.Tryd.prog) vC Qu:=
 ⟨Go.Proofs.Tryd.f30,_,kl [[3]],fun i=>([],[],[],[]),Go.Proofs.Tryd.func30,by kernel_rfl,rfl,by kernel_rfl,by kernel_rfl⟩
theorem zcb:Plain Go.Proofs.Tryd.prog (yS Go.Proofs.Tryd.prog) wk Yd:=
 ⟨Go.Proofs.Tryd.f31,_,kl [[2,3],[2,3,9],[4],[2,3,11],[2,3,11,12],[2,3,11,14],[2,3,11,16],[2,3,11,18],[2,3,11,20],[2,3,22],[4],[4],[4],[4],[4],[4]],fun i=>([],[],[],[]),Go.Proofs.Tryd.func31,by kernel_rfl,rfl,by kernel_rfl,by kernel_rfl⟩
theorem zaI:Plain Go.Proofs.Tryd.prog (yS Go.Proofs.Tryd.prog) xw Zb:=
 ⟨Go.Proofs.Tryd.f37,_,kl [[1,2,3],[1,2,3],[1,2,3,26],[6],[1,2,28,29,30],[1,2,28,29,30,31],[1,2,8,28,29,30],[1,2,28,29,30,39],[6],[1,2,28,29,30],[6]],fun i=>([],[],[],[]),Go.Proofs.Tryd.func37,by kernel_rfl,rfl,by kernel_rfl,by kernel_rfl⟩
theorem qf:Plain Go.Proofs.Tryd.prog (yS Go.Proofs.Tryd.prog) zu yA:=
 ⟨Go.Proofs.Tryd.f38,_,kl [[0,1],[4]],fun i=>([],[],[],[]),Go.Proofs.Tryd.func38,by kernel_rfl,rfl,by kernel_rfl,by kernel_rfl⟩
theorem J2:Plain Go.Proofs.Tryd.prog (yS Go.Proofs.Tryd.prog) xo ka:=
 ⟨Go.Proofs.Tryd.f39,_,kl [[1],[2]],fun i=>([],[],[],[]),Go.Proofs.Tryd.func39,by kernel_rfl,rfl,by kernel_rfl,by kernel_rfl⟩
theorem zfO:Plain Go.Proofs.Tryd.prog (yS Go.Proofs.Tryd.prog) wW Ve:=
 ⟨Go.Proofs.Tryd.f40,_,kl [[1],[1,3,4],[1,3,4,13],[1,3,4,13,14],[1,3,4,13,16],[1,3,4,13,18],[1,3,4,13,18],[1,3,4,13,18],[1,3,4,22],[1,3,4],[1,3,4],[2],[2]],fun i=>if i=1 then([],[],[0,1,2,3,4,5,6],[])else([],[],[],[]),Go.Proofs.Tryd.func40,by kernel_rfl,rfl,by kernel_rfl,by kernel_rfl⟩
theorem KJ:Plain Go.Proofs.Tryd.prog (yS Go.Proofs.Tryd.prog) xk kb:=
 ⟨Go.Proofs.Tryd.f41,_,kl [[1],[1,3],[1,3,7],[1,3,7,8],[1,3],[1,3,7,16],[1,3,16],[1,3],[3,25,26,27],[3,25,26,27,28],[3,5,25,26,27],[3,25,26,27],[3,25,26,27],[2]],fun i=>([],[],[],[]),Go.Proofs.Tryd.func41,by kernel_rfl,rfl,by kernel_rfl,by kernel_rfl⟩
theorem zaD:Plain Go.Proofs.Tryd.prog (yS Go.Proofs.Tryd.prog) xJ kW:=
 ⟨Go.Proofs.Tryd.f42,_,kl [[1],[1,3],[3,7,8,9],[3,7,8,9,10],[3,5,7,8,9],[3,7,8,9],[3,7,8,9],[2]],fun i=>([],[],[],[]),Go.Proofs.Tryd.func42,by kernel_rfl,rfl,by kernel_rfl,by kernel_rfl⟩
theorem zaB:Plain Go.Proofs.Tryd.prog (yS Go.Proofs.Tryd.prog) xG kV:=
 ⟨Go.Proofs.Tryd.f43,_,kl [[1],[1,3],[3,7,8,9],[3,7,8,9,10],[3,5,7,8,9],[3,7,8,9],[3,7,8,9],[2]],fun i=>([],[],[],[]),Go.Proofs.Tryd.func43,by kernel_rfl,rfl,by kernel_rfl,by kernel_rfl⟩
theorem zfY:Plain Go.Proofs.Tryd.prog (yS Go.Proofs.Tryd.prog) qp Vb:=
 ⟨Go.Proofs.Tryd.f44,_,kl [[1],[2]],fun i=>([],[],[],[]),Go.Proofs.Tryd.func44,by kernel_rfl,rfl,by kernel_rfl,by kernel_rfl⟩
theorem Wn:Plain Go.Proofs.Tryd.prog (yS Go.Proofs.Tryd.prog) xp qd:=
 ⟨Go.Proofs.Tryd.f45,_,kl [[0,1],[0,1,10],[4],[0,1,5],[0,1,5,14],[0,1,5],[0,1,5,25],[4],[4]],fun i=>if i=6 then([],[],[0,1,2,3,4,5,6,7],[])else([],[],[],[]),Go.Proofs.Tryd.func45,by kernel_rfl,rfl,by kernel_rfl,by kernel_rfl⟩
theorem zcB:Plain Go.Proofs.Tryd.prog (yS Go.Proofs.Tryd.prog) wm Yh:=
 ⟨Go.Proofs.Tryd.f46,_,kl [[0],[2,3]],fun i=>if i=1 then([],[],[0,1,2,3,4,5,6,7,8,9,10,11],[])else([],[],[],[]),Go.Proofs.Tryd.func46,by kernel_rfl,rfl,by kernel_rfl,by kernel_rfl⟩
theorem zdy:Plain Go.Proofs.Tryd.prog (yS Go.Proofs.Tryd.prog) ve Xr:=
 ⟨Go.Proofs.Tryd.f47,_,kl [[3,4,5,6],[4,5,6,7,8],[4,5,6,7,8,9,10],[4,5,6,8,9,10],[4,5,6,9,10],[4,5,6,9,10,11],[4,5,6,9,10,11,34],[6,9,10],[6],[4,5,6,9,10,12],[4,5,6,9,10,12,46],[4,5,6,9,10,12],[6]],fun i=>if i=2 then([0,1,3,4],[2,5],[6],[])else if i=12 then([],[],[0,1,2,3,4,5,6,7,8],[])else([],[],[],[]),Go.Proofs.Tryd.func47,by kernel_rfl,rfl,by kernel_rfl,by kernel_rfl⟩
theorem QG:Plain Go.Proofs.Tryd.prog (yS Go.Proofs.Tryd.prog) yp qR:=
 ⟨Go.Proofs.Tryd.f48,_,kl [[0,1],[0,1,24],[4,5],[0,1,6],[0,1,6,26,27],[0,1,6,26,27,28],[0,1,6,7,26,27],[0,1,6,7,26,27,39],[4,5],[0,1,6,26,27],[0,1,6,26,27],[6,51],[4,5],[4,5]],fun i=>([],[],[],[]),Go.Proofs.Tryd.func48,by kernel_rfl,rfl,by kernel_rfl,by kernel_rfl⟩
theorem Wi:Plain Go.Proofs.Tryd.prog (yS Go.Proofs.Tryd.prog) yq qZ:=
 ⟨Go.Proofs.Tryd.f49,_,kl [[0],[0,3],[0,3,9,10,11],[0,3,9,10,11,12],[0,3,5,9,10,11],[0,3,9,10,11],[0,3,9,10,11,20],[0,3,9,10,11],[0,3,9,10,11],[0,6],[6,25,26,27],[6,25,26,27,28],[6,8,25,26,27],[6,25,26,27],[6,25,26,27],[2]],fun i=>([],[],[],[]),Go.Proofs.Tryd.func49,by kernel_rfl,rfl,by kernel_rfl,by kernel_rfl⟩
theorem zaz:Plain Go.Proofs.Tryd.prog (yS Go.Proofs.Tryd.prog) js kN:=
 ⟨Go.Proofs.Tryd.f50,_,kl [[1,2,4],[1,2,4,5,6],[2,4,5,6,7],[2,4,5,6,7,17],[4],[4]],fun i=>if i=5 then([],[],[0,1,2,3,4,5,6,7,8,9,10,11,12,13,14,15,16],[])else([],[],[],[]),Go.Proofs.Tryd.func50,by kernel_rfl,rfl,by kernel_rfl,by kernel_rfl⟩
theorem J4:Plain Go.Proofs.Tryd.prog (yS Go.Proofs.Tryd.prog) xn j7:=
 ⟨Go.Proofs.Tryd.f51,_,kl [[1,3,5,6],[1,3,5,6,15],[6,7],[1,3,5,6,8,9],[1,3,5,6,8,9,25],[1,3,6,8,9],[1,3,6,8,34],[6,7],[1,3,6,8,38],[6,7],[3,6,8,10],[3,6,8,10,12],[3,6,8,10,12],[3,6,12],[3,6],[6,7]],fun i=>if i=3 then([],[8],[0,1,2,3,4,5,6,7],[])else if i=5 then([],[],[0,1,2,3,4,5,6,7],[])else if i=9 then([],[],[0,1,2,3,4],[])else if i=10 then([],[],[0,1,2,3,4,5,6,7,8,9,10,11],[])else([],[],[],[]),Go.Proofs.Tryd.func51,by kernel_rfl,rfl,by kernel_rfl,by kernel_rfl⟩
theorem Yu:Plain Go.Proofs.Tryd.prog (yS Go.Proofs.Tryd.prog) yN wM:=
 ⟨Go.Proofs.Tryd.f52,_,kl [[0,1],[0,1,10],[4],[0,1,12,13],[0,1,12,13,14],[0,1,5,12,13],[0,1,12,13,24],[4],[0,1,12,13],[4]],fun i=>if i=6 then([],[],[0,1,2,3,4,5,6,7],[])else([],[],[],[]),Go.Proofs.Tryd.func52,by kernel_rfl,rfl,by kernel_rfl,by kernel_rfl⟩
theorem Vz:Plain Go.Proofs.Tryd.prog (yS Go.Proofs.Tryd.prog) vp qq:=
 ⟨Go.Proofs.Tryd.f53,_,kl [[0,1],[4]],fun i=>([],[],[],[]),Go.Proofs.Tryd.func53,by kernel_rfl,rfl,by kernel_rfl,by kernel_rfl⟩
theorem Ki:Plain Go.Proofs.Tryd.prog (yS Go.Proofs.Tryd.prog) wj j6:=
 ⟨Go.Proofs.Tryd.f54,_,kl [[1,2,4],[2,4,10,11,12],[2,4,10,11,12,13],[2,4,7,10,11,12],[2,4,8,9,10,11,12],[2,4,8,10,11,12,23],[4,5],[2,4,10,11,12],[2,4,10,11,12],[4,5]],fun i=>([],[],[],[]),Go.Proofs.Tryd.func54,by kernel_rfl,rfl,by kernel_rfl,by kernel_rfl⟩
theorem zdu:Plain Go.Proofs.Tryd.prog (yS Go.Proofs.Tryd.prog) XM XY:=
 ⟨Go.Proofs.Tryd.f55,_,kl [[2,3],[2,3],[4]],fun i=>if i=1 then([],[],[0,1,2],[])else([],[],[],[]),Go.Proofs.Tryd.func55,by kernel_rfl,rfl,by kernel_rfl,by kernel_rfl⟩
theorem Yx:Plain Go.Proofs.Tryd.prog (yS Go.Proofs.Tryd.prog) xB wJ:=
 ⟨Go.Proofs.Tryd.f56,_,kl [[0,1,2],[0,1,2,14],[6],[1,2,15,16,17],[1,2,15,16,17,18],[1,2,7,8,15,16,17],[1,2,8,9,15,16,17],[1,2,15,16,17,30],[6],[1,2,15,16,17],[6]],fun i=>([],[],[],[]),Go.Proofs.Tryd.func56,by kernel_rfl,rfl,by kernel_rfl,by kernel_rfl⟩
theorem zdq:Plain Go.Proofs.Tryd.prog (yS Go.Proofs.Tryd.prog) qh Xn:=
 ⟨Go.Proofs.Tryd.f59,_,kl [[1],[1,3,4,5],[1,3,4,5,6,7],[1,3,4,5,6,7,40],[1,3,4,5,6,7,40,41],[1,3,4,5,6,7,40,43],[1,3,4,5,6,7,40,45],[1,3,4,5,6,7,40,47],[1,3,4,5,6,7,40,49],[1,3,4,5,6,40,51],[1,3,4,5,6,53],[3,4,5,6,7],[3,4,5,6,7],[3,4,5,6,7],[3,4,5,6,7],[1,3,4,5,6],[3,4,5,6,7],[2],[2]],fun i=>if i=1 then([],[],[0,1,2,3,4,5,6,7,8,9,10,11,12,13,14,15,16,17,18,19,20,21,22,23,24],[])else if i=2 then([],[],[0,1,2,3,4,5,6,7,8],[])else([],[],[],[]),Go.Proofs.Tryd.func59,by kernel_rfl,rfl,by kernel_rfl,by kernel_rfl⟩
theorem qH:Plain Go.Proofs.Tryd.prog (yS Go.Proofs.Tryd.prog) yc yL:=
 ⟨Go.Proofs.Tryd.f60,_,kl [[0,1],[0,1,7,8],[0,1,7,8,9],[0,1,5,7,8],[0,1,5,7,8,16],[4],[0,1,7,8],[4]],fun i=>([],[],[],[]),Go.Proofs.Tryd.func60,by kernel_rfl,rfl,by kernel_rfl,by kernel_rfl⟩
theorem zdH:Plain Go.Proofs.Tryd.prog (yS Go.Proofs.Tryd.prog) qW Xq:=
 ⟨Go.Proofs.Tryd.f61,_,kl [[1],[2]],fun i=>([],[],[],[]),Go.Proofs.Tryd.func61,by kernel_rfl,rfl,by kernel_rfl,by kernel_rfl⟩
theorem zdJ:Plain Go.Proofs.Tryd.prog (yS Go.Proofs.Tryd.prog) vd XF:=
 ⟨Go.Proofs.Tryd.f62,_,kl [[0],[2]],fun i=>([],[],[],[]),Go.Proofs.Tryd.func62,by kernel_rfl,rfl,by kernel_rfl,by kernel_rfl⟩
theorem k9:Plain Go.Proofs.Tryd.prog (yS Go.Proofs.Tryd.prog) yy xE:=
 ⟨Go.Proofs.Tryd.f63,_,kl [[0,1],[4]],fun i=>([],[],[],[]),Go.Proofs.Tryd.func63,by kernel_rfl,rfl,by kernel_rfl,by kernel_rfl⟩
theorem zc4:Plain Go.Proofs.Tryd.prog (yS Go.Proofs.Tryd.prog) vy Yl:=
 ⟨Go.Proofs.Tryd.f64,_,kl [[1],[2]],fun i=>([],[],[],[]),Go.Proofs.Tryd.func64,by kernel_rfl,rfl,by kernel_rfl,by kernel_rfl⟩
theorem zdx:Plain Go.Proofs.Tryd.prog (yS Go.Proofs.Tryd.prog) vh Xs:=
 ⟨Go.Proofs.Tryd.f65,_,kl [[1],[1,7],[2,3],[1,4],[2,3]],fun i=>if i=4 then([],[],[0,1,2,3,4,5,6,7,8,9,10],[])else([],[],[],[]),Go.Proofs.Tryd.func65,by kernel_rfl,rfl,by kernel_rfl,by kernel_rfl⟩
theorem YH:Plain Go.Proofs.Tryd.prog (yS Go.Proofs.Tryd.prog) ye wD:=
 ⟨Go.Proofs.Tryd.f66,_,kl [[0,1],[0,1,7,8],[0,1,7,8,9],[0,1,5,7,8],[0,1,5,7,8,16],[4],[0,1,7,8],[4]],fun i=>([],[],[],[]),Go.Proofs.Tryd.func66,by kernel_rfl,rfl,by kernel_rfl,by kernel_rfl⟩
theorem kE:Plain Go.Proofs.Tryd.prog (yS Go.Proofs.Tryd.prog) zw xA:=
 ⟨Go.Proofs.Tryd.f67,_,kl [[0,1],[0,1,7,8],[0,1,7,8,9],[0,1,5,7,8],[0,1,5,7,8,16],[4],[0,1,7,8],[4]],fun i=>([],[],[],[]),Go.Proofs.Tryd.func67,by kernel_rfl,rfl,by kernel_rfl,by kernel_rfl⟩
theorem zaH:Plain Go.Proofs.Tryd.prog (yS Go.Proofs.Tryd.prog) xI kS:=
 ⟨Go.Proofs.Tryd.f68,_,kl [[0,1],[3]],fun i=>([],[],[],[]),Go.Proofs.Tryd.func68,by kernel_rfl,rfl,by kernel_rfl,by kernel_rfl⟩
theorem ZS:Plain Go.Proofs.Tryd.prog (yS Go.Proofs.Tryd.prog) wg vH:=
 ⟨Go.Proofs.Tryd.f72,_,kl [[0],[0,3],[0,3,9,10,11],[0,3,9,10,11,12],[0,3,5,9,10,11],[0,3,9,10,11],[0,3,9,10,11,20],[0,3,9,10,11],[0,3,9,10,11],[0,6],[6,25,26,27],[6,25,26,27,28],[6,8,25,26,27],[6,25,26,27],[6,25,26,27],[2]],fun i=>([],[],[],[]),Go.Proofs.Tryd.func72,by kernel_rfl,rfl,by kernel_rfl,by kernel_rfl⟩
theorem QM:Plain Go.Proofs.Tryd.prog (yS Go.Proofs.Tryd.prog) xu jy:=
 ⟨Go.Proofs.Tryd.f73,_,kl [[1,2,4],[1,2,4,10],[4,5],[2,4,6,7],[2,4,6,26],[4,5],[4,5]],fun i=>([],[],[],[]),Go.Proofs.Tryd.func73,by kernel_rfl,rfl,by kernel_rfl,by kernel_rfl⟩
theorem zhE:Plain Go.Proofs.Tryd.prog (yS Go.Proofs.Tryd.prog) WT QT:=
 ⟨Go.Proofs.Tryd.f74,_,kl [[1,2],[1,2,5],[2],[2]],fun i=>([],[],[],[]),Go.Proofs.Tryd.func74,by kernel_rfl,rfl,by kernel_rfl,by kernel_rfl⟩
theorem YD:Plain Go.Proofs.Tryd.prog (yS Go.Proofs.Tryd.prog) wL wG:=
 ⟨Go.Proofs.Tryd.f75,_,kl [[0,1],[0,1,10],[4],[0,1,12,13],[0,1,12,13,14],[0,1,5,12,13],[0,1,12,13,24],[4],[0,1,12,13],[4]],fun i=>if i=6 then([],[],[0,1,2,3,4,5,6,7],[])else([],[],[],[]),Go.Proofs.Tryd.func75,by kernel_rfl,rfl,by kernel_rfl,by kernel_rfl⟩
theorem zbE:Plain Go.Proofs.Tryd.prog (yS Go.Proofs.Tryd.prog) vw Yg:=
 ⟨Go.Proofs.Tryd.f77,_,kl [[1],[1,3],[1,3,10],[2],[1,39],[2],[5],[2]],fun i=>([],[],[],[]),Go.Proofs.Tryd.func77,by kernel_rfl,rfl,by kernel_rfl,by kernel_rfl⟩
theorem zc8:Plain Go.Proofs.Tryd.prog (yS Go.Proofs.Tryd.prog) w6 Z0:=
 ⟨Go.Proofs.Tryd.f78,_,kl [[0],[2]],fun i=>([],[],[],[]),Go.Proofs.Tryd.func78,by kernel_rfl,rfl,by kernel_rfl,by kernel_rfl⟩
theorem zax:Plain Go.Proofs.Tryd.prog (yS Go.Proofs.Tryd.prog) vA kY:=
 ⟨Go.Proofs.Tryd.f79,_,kl [[0],[0,5,6,7],[0,5,6,7,8],[0,3,4,5,6,7],[0,5,6,7,27],[2],[0,5,6,7],[2]],fun i=>([],[],[],[]),Go.Proofs.Tryd.func79,by kernel_rfl,rfl,by kernel_rfl,by kernel_rfl⟩
theorem jD:Plain Go.Proofs.Tryd.prog (yS Go.Proofs.Tryd.prog) yf y9:=
 ⟨Go.Proofs.Tryd.f80,_,kl [[0,1],[4]],fun i=>([],[],[],[]),Go.Proofs.Tryd.func80,by kernel_rfl,rfl,by kernel_rfl,by kernel_rfl⟩
theorem zaC:Plain Go.Proofs.Tryd.prog (yS Go.Proofs.Tryd.prog) wi kT:=
 ⟨Go.Proofs.Tryd.f81,_,kl [[0],[2]],fun i=>([],[],[],[]),Go.Proofs.Tryd.func81,by kernel_rfl,rfl,by kernel_rfl,by kernel_rfl⟩
theorem zdf:Plain Go.Proofs.Tryd.prog (yS Go.Proofs.Tryd.prog) wY Yj:=
 ⟨Go.Proofs.Tryd.f82,_,kl [[0],[0,8],[0,8,9,10],[0,3,4,8],[0,3,8,14],[0,6,8],[0,8,23],[2],[2]],fun i=>([],[],[],[]),Go.Proofs.Tryd.func82,by kernel_rfl,rfl,by kernel_rfl,by kernel_rfl⟩
theorem YG:Plain Go.Proofs.Tryd.prog (yS Go.Proofs.Tryd.prog) yZ wE:=
 ⟨Go.Proofs.Tryd.f83,_,kl [[0,1],[0,1,7,8],[0,1,7,8,9],[0,1,5,7,8],[0,1,5,7,8,16],[4],[0,1,7,8],[4]],fun i=>([],[],[],[]),Go.Proofs.Tryd.func83,by kernel_rfl,rfl,by kernel_rfl,by kernel_rfl⟩
theorem Km:Plain Go.Proofs.Tryd.prog (yS Go.Proofs.Tryd.prog) vi kj:=
 ⟨Go.Proofs.Tryd.f89,_,kl [[1,2,4],[1,4,6,7],[4,7,8],[4,7,8,18],[4,5],[4,5]],fun i=>([],[],[],[]),Go.Proofs.Tryd.func89,by kernel_rfl,rfl,by kernel_rfl,by kernel_rfl⟩
theorem zdw:Plain Go.Proofs.Tryd.prog (yS Go.Proofs.Tryd.prog) qU XK:=
 ⟨Go.Proofs.Tryd.f92,_,kl [[0],[0],[0,4],[0,4,11],[0,4,5,6],[0,4,5,18],[0,4],[0,4],[2,3]],fun i=>([],[],[],[]),Go.Proofs.Tryd.func92,by kernel_rfl,rfl,by kernel_rfl,by kernel_rfl⟩
theorem Zm:Plain Go.Proofs.Tryd.prog (yS Go.Proofs.Tryd.prog) yE xS:=
 ⟨Go.Proofs.Tryd.f93,_,kl [[0],[0,10],[2,3],[2,3]],fun i=>([],[],[],[]),Go.Proofs.Tryd.func93,by kernel_rfl,rfl,by kernel_rfl,by kernel_rfl⟩
theorem zdA:Plain Go.Proofs.Tryd.prog (yS Go.Proofs.Tryd.prog) vD XC:=
 ⟨Go.Proofs.Tryd.f96,_,kl [[0],[0,3],[0,3,16],[0,3],[0,3,20],[2],[0,4],[4],[2]],fun i=>([],[],[],[]),Go.Proofs.Tryd.func96,by kernel_rfl,rfl,by kernel_rfl,by kernel_rfl⟩
theorem zbN:Plain Go.Proofs.Tryd.prog (yS Go.Proofs.Tryd.prog) vz ZT:=
 ⟨Go.Proofs.Tryd.f97,_,kl [[0,1],[0,1,6],[0,1,6,7],[0,1,6,7,8],[0,1,6,7,8,16],[0,1,6,7,8],[0,1,6,7,8],[0,1,6,7,8],[0,1,6,7,8],[4,5]],fun i=>([],[],[],[]),Go.Proofs.Tryd.func97,by kernel_rfl,rfl,by kernel_rfl,by kernel_rfl⟩
theorem jT:Plain Go.Proofs.Tryd.prog (yS Go.Proofs.Tryd.prog) zx xg:=
 ⟨Go.Proofs.Tryd.f98,_,kl [[0],[0,4],[0,4,16],[2,3],[0,4,5],[0,4,5,6],[0,4,5,6,23],[0,7],[2,3],[0,4,5,6,8],[0,4,5,8,9],[0,5,8,9,45],[2,3],[0,5,8,9,10],[0,5,8,10,57],[2,3],[0,5,8,10,59],[2,3],[0,5,8,10,11],[0,5,8,10,11,75],[2,3],[0,5,10,11,77],[2,3],[5,10,11,12],[5,10,11,12,98],[2,3],[2,3]],fun i=>([],[],[],[]),Go.Proofs.Tryd.func98,by kernel_rfl,rfl,by kernel_rfl,by kernel_rfl⟩
theorem zfu:Dfr Go.Proofs.Tryd.prog (yS Go.Proofs.Tryd.prog) q9 Kk ([.s 4,.s 5],Yc):=
 ⟨Go.Proofs.Tryd.f7,Go.Proofs.Tryd.f16,_,_,_,_,_,_,_,_,_,_,_,_,kl [[2,3,4,5],[2,3,4,5],[4,5]],fun i=>([],[],[],[]),kl [[],[0,1,2,7],[0,1,2,4],[0,1,2,14],[0,1]],fun i=>([],[],[],[]),[4,5],16,[2,3,4,5],Go.Proofs.Tryd.func7,by kernel_rfl,rfl,rfl,by kernel_rfl,by kernel_rfl,by kernel_rfl,rfl,by kernel_rfl,
  by first | exact .inl ⟨_,_,_,_,_,rfl,rfl,rfl,rfl,rfl,rfl,rfl,rfl,rfl,rfl⟩ | exact .inr ⟨_,_,rfl,rfl,rfl,rfl⟩,rfl,by kernel_rfl,by decide,Go.Proofs.Tryd.func16,by kernel_rfl,rfl,⟨_,_,_,_,rfl,rfl,rfl,rfl,rfl,rfl,rfl,by decide⟩,by kernel_rfl,by kernel_rfl,rfl,rfl,by decide⟩
theorem zsi:ze2 Go.Proofs.Tryd.prog (yS Go.Proofs.Tryd.prog) E0:=
 znS (l:=zqd) (dl:=zp5) (.cons WH <| .cons Kc <| .dfr zfu <| .cons Kj <| .cons zda <| .cons VD <| .cons Jx <| .cons zdL <| .cons zaN <| .cons zdl <| .cons zdF <| .cons Qn <| .cons Xx <| .cons zgg <| .cons zaK <| .cons zfe <| .cons zdE <| .cons zgh <| .cons zdr <| .cons zcb <| .cons zaI <| .cons qf <| .cons J2 <| .cons zfO <| .cons KJ <| .cons zaD <| .cons zaB <| .cons zfY <| .cons Wn <| .cons zcB <| .cons zdy <| .cons QG <| .cons Wi <| .cons zaz <| .cons J4 <| .cons Yu <| .cons Vz <| .cons Ki <| .cons zdu <| .cons Yx <| .cons zdq <| .cons qH <| .cons zdH <| .cons zdJ <| .cons k9 <| .cons zc4 <| .cons zdx <| .cons YH <| .cons kE <| .cons zaH <| .cons ZS <| .cons QM <| .cons zhE <| .cons YD <| .cons zbE <| .cons zc8 <| .cons zax <| .cons jD <| .cons zaC <| .cons zdf <| .cons YG <| .cons Km <| .cons zdw <| .cons Zm <| .cons zdA <| .cons zbN <| .cons jT <| .nil _ _ _) rfl rfl zrW zr4
theorem zsh:zbk E0 E1 mk0:=by
 refine zm4 (l:=zmN) (.cons (.pl w9 rfl rfl rfl rfl (by kernel_rfl) (by kernel_rfl)) <| .cons (.pl j5 rfl rfl rfl rfl (by kernel_rfl) (by kernel_rfl)) <| .cons (.df Kk ([.s 4,.s 5],Yc) [4,5] [4,5] vu zat rfl rfl rfl rfl rfl (by kernel_rfl) (by kernel_rfl) rfl (by kernel_rfl) rfl rfl) <| .cons (.pl ke rfl rfl rfl rfl (by kernel_rfl) (by kernel_rfl)) <| .cons (.pl Z5 rfl rfl rfl rfl (by kernel_rfl) (by kernel_rfl)) <| .cons (.pl qz rfl rfl rfl rfl (by kernel_rfl) (by kernel_rfl)) <| .cons (.pl jx rfl rfl rfl rfl (by kernel_rfl) (by kernel_rfl)) <| .cons (.ps Yc rfl rfl (by kernel_rfl) (by kernel_rfl)) <| .cons (.pn XB Qe (by kernel_rfl) rfl rfl rfl rfl rfl (by kernel_rfl) (by kernel_rfl)) <| .cons (.pl kR rfl rfl rfl rfl (by kernel_rfl) (by kernel_rfl)) <| .cons (.pl Z3 rfl rfl rfl rfl (by kernel_rfl) (by kernel_rfl)) <| .cons (.pl Xd rfl rfl rfl rfl (by kernel_rfl) (by kernel_rfl)) <| .cons (.pl qO rfl rfl rfl rfl (by kernel_rfl) (by kernel_rfl)) <| .cons (.pl vj rfl rfl rfl rfl (by kernel_rfl) (by kernel_rfl)) <| .cons (.pn Zg Kt (by kernel_rfl) rfl rfl rfl rfl rfl (by kernel_rfl) (by kernel_rfl)) <| .cons (.pn jv XG (by kernel_rfl) rfl rfl rfl rfl rfl (by kernel_rfl) (by kernel_rfl)) <| .cons (.pn ji JX (by kernel_rfl) rfl rfl rfl rfl rfl (by kernel_rfl) (by kernel_rfl)) <| .cons (.pn Xp Qi (by kernel_rfl) rfl rfl rfl rfl rfl (by kernel_rfl) (by kernel_rfl)) <| .cons (.pn wo KG (by kernel_rfl) rfl rfl rfl rfl rfl (by kernel_rfl) (by kernel_rfl)) <| .cons (.pn vC Qu (by kernel_rfl) rfl rfl rfl rfl rfl (by kernel_rfl) (by kernel_rfl)) <| .cons (.pl Yd rfl rfl rfl rfl (by kernel_rfl) (by kernel_rfl)) <| .cons (.pl Zb rfl rfl rfl rfl (by kernel_rfl) (by kernel_rfl)) <| .cons (.pl yA rfl rfl rfl rfl (by kernel_rfl) (by kernel_rfl)) <| .cons (.pl ka rfl rfl rfl rfl (by kernel_rfl) (by kernel_rfl)) <| .cons (.pl Ve rfl rfl rfl rfl (by kernel_rfl) (by kernel_rfl)) <| .cons (.pl kb rfl rfl rfl rfl (by kernel_rfl) (by kernel_rfl)) <| .cons (.pl kW rfl rfl rfl rfl (by kernel_rfl) (by kernel_rfl)) <| .cons (.pl kV rfl rfl rfl rfl (by kernel_rfl) (by kernel_rfl)) <| .cons (.pl Vb rfl rfl rfl rfl (by kernel_rfl) (by kernel_rfl)) <| .cons (.pl qd rfl rfl rfl rfl (by kernel_rfl) (by kernel_rfl)) <| .cons (.pl Yh rfl rfl rfl rfl (by kernel_rfl) (by kernel_rfl)) <| .cons (.pl Xr rfl rfl rfl rfl (by kernel_rfl) (by kernel_rfl)) <| .cons (.pl qR rfl rfl rfl rfl (by kernel_rfl) (by kernel_rfl)) <| .cons (.pl qZ rfl rfl rfl rfl (by kernel_rfl) (by kernel_rfl)) <| .cons (.pl kN rfl rfl rfl rfl (by kernel_rfl) (by kernel_rfl)) <| .cons (.pl j7 rfl rfl rfl rfl (by kernel_rfl) (by kernel_rfl)) <| .cons (.pl wM rfl rfl rfl rfl (by kernel_rfl) (by kernel_rfl)) <| .cons (.pl qq rfl rfl rfl rfl (by kernel_rfl) (by kernel_rfl)) <| .cons (.pl j6 rfl rfl rfl rfl (by kernel_rfl) (by kernel_rfl)) <| .cons (.pl XY rfl rfl rfl rfl (by kernel_rfl) (by kernel_rfl)) <| .cons (.pl wJ rfl rfl rfl rfl (by kernel_rfl) (by kernel_rfl)) <| .cons (.pl Xn rfl rfl rfl rfl (by kernel_rfl) (by kernel_rfl)) <| .cons (.pl yL rfl rfl rfl rfl (by kernel_rfl) (by kernel_rfl)) <| .cons (.pl Xq rfl rfl rfl rfl (by kernel_rfl) (by kernel_rfl)) <| .cons (.pl XF rfl rfl rfl rfl (by kernel_rfl) (by kernel_rfl)) <| .cons (.pl xE rfl rfl rfl rfl (by kernel_rfl) (by kernel_rfl)) <| .cons (.pl Yl rfl rfl rfl rfl (by kernel_rfl) (by kernel_rfl)) <| .cons (.pl Xs rfl rfl rfl rfl (by kernel_rfl) (by kernel_rfl)) <| .cons (.pl wD rfl rfl rfl rfl (by kernel_rfl) (by kernel_rfl)) <| .cons (.pl xA rfl rfl rfl rfl (by kernel_rfl) (by kernel_rfl)) <| .cons (.pl kS rfl rfl rfl rfl (by kernel_rfl) (by kernel_rfl)) <| .cons (.pl vH rfl rfl rfl rfl (by kernel_rfl) (by kernel_rfl)) <| .cons (.pl jy rfl rfl rfl rfl (by kernel_rfl) (by kernel_rfl)) <| .cons (.pl QT rfl rfl rfl rfl (by kernel_rfl) (by kernel_rfl)) <| .cons (.pl wG rfl rfl rfl rfl (by kernel_rfl) (by kernel_rfl)) <| .cons (.pl Yg rfl rfl rfl rfl (by kernel_rfl) (by kernel_rfl)) <| .cons (.pl Z0 rfl rfl rfl rfl (by kernel_rfl) (by kernel_rfl)) <| .cons (.pl kY rfl rfl rfl rfl (by kernel_rfl) (by kernel_rfl)) <| .cons (.pl y9 rfl rfl rfl rfl (by kernel_rfl) (by kernel_rfl)) <| .cons (.pl kT rfl rfl rfl rfl (by kernel_rfl) (by kernel_rfl)) <| .cons (.pl Yj rfl rfl rfl rfl (by kernel_rfl) (by kernel_rfl)) <| .cons (.pl wE rfl rfl rfl rfl (by kernel_rfl) (by kernel_rfl)) <| .cons (.pl kj rfl rfl rfl rfl (by kernel_rfl) (by kernel_rfl)) <| .cons (.pl XK rfl rfl rfl rfl (by kernel_rfl) (by kernel_rfl)) <| .cons (.pl xS rfl rfl rfl rfl (by kernel_rfl) (by kernel_rfl)) <| .cons (.pl XC rfl rfl rfl rfl (by kernel_rfl) (by kernel_rfl)) <| .cons (.pl ZT rfl rfl rfl rfl (by kernel_rfl) (by kernel_rfl)) <| .cons (.pl xg rfl rfl rfl rfl (by kernel_rfl) (by kernel_rfl)) <| .nil) rfl rfl (fun _=>rfl) fun f x hx=>⟨?_,hx⟩
 have hx:ex0 f=some x:=hx
 unfold ex0 at hx
 split at hx<;>first | contradiction | decide
theorem zsx:zpd E1 gl0 ziZ:=by
 refine⟨fun f k g h hg => ?_,fun f e h => ?_⟩
 ·have hg:tx0 f=some g:=hg
  unfold tx0 at hg
  split at hg<;>first | contradiction | skip
  ·injection hg with hg;subst hg;exact⟨_,rfl,QJ _ _⟩
  ·injection hg with hg;subst hg;exact⟨_,rfl,QJ _ _⟩
  ·injection hg with hg;subst hg;exact⟨_,rfl,zbq _ _⟩
  ·injection hg with hg;subst hg;exact⟨_,rfl,zbq _ _⟩
 ·have h:md0 f = .eff e:=h
  unfold md0 at h
  split at h<;>first | contradiction | skip
end Go.Ev
