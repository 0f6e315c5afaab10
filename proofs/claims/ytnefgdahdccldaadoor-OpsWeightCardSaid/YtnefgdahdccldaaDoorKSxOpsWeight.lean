/- OpsWeight: the weight's limit. -/
import Derived.Test.YtnefgdahdccldaaDoorRows
import Derived.Test.YtnefgdahdccldaaDoorKSA
import Derived.Test.YtnefgdahdccldaaDoorKSD
import Derived.Test.YtnefgdahdccldaaDoorKSC
set_option linter.all false
open Option renaming map_some→zC
open Bool renaming false_eq_true→zF
open List renaming getElem?_eq_getElem→zL,getElem?_cons_zero→zM,getElem?_cons_succ→zN,mem_cons_of_mem→zP,drop_zero→zU,take_of_length_le→zV,length_append→zZ
open Nat renaming le_refl→zR
namespace Go.Ev
attribute [local irreducible] P0
def WL(ks:List Nat):Nat:=weightL (ks.map xV)
theorem zja:WL []=0:=rfl
theorem zaP(k:Nat)(r:List Nat):WL (k::r)=(1+k)+WL r:=by show zz (xV k)+weightL (r.map xV)=_;rw[zmT];rfl
theorem zoo(a b:List Nat):WL (a++b)=WL a+WL b:=by unfold WL;rw[List.map_append,WW]
theorem zrQ(ks:List Nat)(h : ∀ k,k∈ks→k≤29):WL ks≤30 * ks.length:=by
 induction ks with
 | nil=>exact zR _
 | cons k r ih=>
  have h1:=h k List.mem_cons_self
  have h2:=ih (fun x hx=>h x (zP _ hx))
  rw[zaP,List.length_cons];omega
/-- the first that goes over the limit -/
def WR(lim:Nat):Nat→Nat→List Nat→Option Nat
 | _,_,[]=>none
 | a,i,k::r=>if lim<a+1+k then some i else WR lim (a+1+k) (i+1) r
def zcF(o:Option Nat):Int:=match o with
 | none => -1
 | some j=>(j:Int)
theorem zl9(ks:List Nat)(h:ks.length≤30)(lim:Int):zge (arr (ks.map xV)) lim=decide ((zz (arr (ks.map xV)):Int)≤lim):=by
 have hn:xZ (arr (ks.map xV))=1+ks.length:=by
  rw[wu]
  show 1+nodesL (ks.map xV)=_
  have : ∀ l:List Nat,nodesL (l.map xV)=l.length:=by
   intro l
   induction l with
   | nil=>rfl
   | cons k r ih=>
    rw[List.map_cons,nodesL,ih,List.length_cons]
    have:xZ (xV k)=1:=by rw[wu];rfl
    omega
  rw[this]
 have hd:depth (arr (ks.map xV))≤2:=by
  rw[jo]
  show 1+depthL (ks.map xV)≤2
  have : ∀ l:List Nat,depthL (l.map xV)≤1:=by
   intro l
   induction l with
   | nil=>simp[depthL]
   | cons k r ih=>
    rw[List.map_cons,depthL]
    have:depth (xV k)=1:=by rw[jo];rfl
    omega
  have:=this ks
  omega
 have hf:zfD (arr (ks.map xV))=true:=by
  rw[zi5]
  have : ∀ l:List Nat,fewL (l.map xV)=true:=by
   intro l
   induction l with
   | nil=>rfl
   | cons k r ih=>
    rw[List.map_cons,fewL,ih,zi5]
    rfl
  have e:(arr (ks.map xV)).v=ks.map xV:=rfl
  rw[e,this,List.length_map,decide_eq_true (by omega)];rfl
 unfold zge
 rw[hf,decide_eq_true (show((xZ (arr (ks.map xV)):Nat):Int)≤2000 by omega),decide_eq_true (show((depth (arr (ks.map xV)):Nat):Int)≤64 by omega),Bool.and_true,Bool.and_true,Bool.and_true]
theorem ziL(lim:Nat)(r:List Nat) : ∀ (ks:List Nat) (i:Nat),(ks++r).length≤30 →
  Wb (lim:Int) (arr (ks.map xV)) (r.map opW) i=match WR lim (1+WL ks) i r with
   | none => .inl (arr ((ks++r).map xV))
   | some j => .inr (j,4):=by
 induction r with
 | nil=>intro ks i _;rw[List.append_nil];rfl
 | cons k r ih=>
  intro ks i hl
  have hl2:((ks++[k])++r).length≤30:=by simpa using hl
  have ha:(ks++[k]).length≤30:=by rw[zZ]at hl2;omega
  have em:ks.map xV++[xV k]=(ks++[k]).map xV:=by rw[List.map_append];rfl
  rw[List.map_cons,Wb,zmR,em]
  dsimp only
  rw[zl9 _ ha,Qo]
  have ew:weightL ((ks++[k]).map xV)=WL ks+(1+k):=by show WL (ks++[k])=_;rw[zoo,zaP,zja];omega
  rw[ew,WR]
  by_cases c:lim<1+WL ks+1+k
  ·rw[if_pos c,decide_eq_false (by omega)];rfl
  ·rw[if_neg c,decide_eq_true (by omega),if_pos rfl,ih (ks++[k]) (i+1) hl2]
   have e1:1+WL (ks++[k])=1+WL ks+1+k:=by rw[zoo,zaP,zja];omega
   rw[e1,List.append_assoc];rfl
theorem zn9(k:Nat)(h:k≤1000):zc5 1 (.int .i64 (k:Int)) (.int .i64 (k:Int))=some (k,k):=ze3 1 k (by omega) (by omega)
theorem zbZ(l:Nat):kr (((List.replicate l (V.int .u8 0)).drop 0).take l)=some (List.replicate l 0):=by
 rw[zU,zV (by rw[List.length_replicate];exact zR _)]
 induction l with
 | zero=>rfl
 | succ l ih=>rw[List.replicate_succ,kr,ih];rfl
theorem zjo(l:List Int)(lim:Nat)(hlim:lim≤300)(m:Nat) : ∀ (i:Nat) (ks:List Nat) (w:Nat) (f:Option Nat),i+m=min l.length 30→ks.length=i→w≤1+30 * i→(∀ j,f=some j→j<i) →
  ∃ r:List Nat,r.length=m∧(∀ k,k∈r→k≤29) ∧
  yi (wc (.sl (ints l)) (.int .i64 (lim:Int),[])) (vec [.sl (Y9 (ks.map opW)),.int .i64 (w:Int),.int .i64 (zcF f),.int .i64 (i:Int)]) =
   some (0,vec [.sl (Y9 ((ks++r).map opW)),.int .i64 ((w+WL r:Nat):Int),.int .i64 (zcF (f.or (WR lim w i r)))]):=by
 induction m with
 | zero=>
  intro i ks w f hi hk hw hf
  refine⟨[],rfl,fun k h=>by simp at h,zq ?_⟩
  unfold wc
  have e:f.or (WR lim w i [])=f:=by cases f<;>rfl
  rw[e,List.append_nil,zja]
  by_cases c:(i:Int)<(l.length:Int)
  ·have c2 : ¬ (i:Int)<30:=by omega
   simp only[zb,zj,yz,zf,Y3,za,zy,c,decide_true,zc,if_true,c2,decide_false,zF,if_false,wz,Nat.add_zero]
  ·simp only[zb,zj,yz,zf,Y3,za,zy,c,decide_false,zc,zF,if_false,wz,Nat.add_zero]
 | succ m ih=>
  intro i ks w f hi hk hw hf
  have h1:i<l.length:=by omega
  have c:(i:Int)<(l.length:Int):=by omega
  have c2:(i:Int)<30:=by omega
  have hx:l[i]?=some l[i]:=zL h1
  obtain⟨k,hp,hk2,_⟩:=zmP l[i] 30 (by decide) (by decide)
  have hp:P0 y3 [.v (.int .i64 l[i]),.v (.int .i64 30)] []=some (.int .i64 (k:Int),[]):=hp
  generalize l[i]=z at *
  have w1:IntKind.i64.wrap ((w:Int)+1)=((w+1:Nat):Int):=xq (by omega)
  have w2:IntKind.i64.wrap (((w+1:Nat):Int)+(k:Int))=((w+1+k:Nat):Int):=w64 (a:=((w+1:Nat):Int)+(k:Int)) (by omega)
  have hsz:yu 11 [(opW k).val]=true:=by simp[yu,ZB]
  rw[zo3]at hsz
  have hap:Y9 (ks.map opW)++[V.agg [.int .i64 1,.sl [.str [45]],.sl [],.int .i64 4,.bool false,.bool false,.sl [],.int .i64 0,.str (List.replicate k 0),.sl [],.sl []]]=Y9 ((ks++[k]).map opW):=by
   unfold Y9;rw[List.map_append,List.map_append];rfl
  have hok:VO 176 ks.length 1=true:=zfq 176 ks.length 1 (by omega) (by omega)
  have hg:decide ((lim:Int)<((w+1+k:Nat):Int))=decide (lim<w+1+k):=by
   by_cases q:lim<w+1+k
   ·rw[decide_eq_true q,decide_eq_true (by omega)]
   ·rw[decide_eq_false q,decide_eq_false (by omega)]
  let f':Option Nat:=f.or (if lim<w+1+k then some i else none)
  have hf' : ∀ j,f'=some j→j<i+1:=by
   intro j hj
   cases f with
   | some q=>have hj:some q=some j:=hj;injection hj with hj;have:=hf q rfl;omega
   | none=>
    have hj:(if lim<w+1+k then some i else none)=some j:=hj
    split at hj
    ·injection hj with hj;omega
    ·contradiction
  obtain⟨r,r1,r2,r3⟩:=ih (i+1) (ks++[k]) (w+1+k) f' (by omega) (by rw[zZ];simp[hk]) (by omega) hf'
  refine⟨k::r,by rw[List.length_cons,r1],fun x hx => ?_,?_⟩
  ·rcases List.mem_cons.1 hx with rfl | hx
   ·omega
   ·exact r2 x hx
  have e1:ks++k::r=(ks++[k])++r:=by simp
  have e2:w+WL (k::r)=w+1+k+WL r:=by rw[zaP];omega
  have e3:f.or (WR lim w i (k::r))=f'.or (WR lim (w+1+k) (i+1) r):=by
   show _=(f.or (if lim<w+1+k then some i else none)).or _
   rw[WR]
   cases f with
   | some q=>rfl
   | none=>
    by_cases q:lim<w+1+k
    ·rw[if_pos q,if_pos q];rfl
    ·rw[if_neg q,if_neg q];rfl
  rw[e1,e2,e3,← r3]
  apply yb
  unfold wc
  by_cases q:lim<w+1+k
  ·have d:decide (lim<w+1+k)=true:=decide_eq_true q
   cases hfq:f with
   | some j=>
    have ef:f'=some j:=by show f.or _=_;rw[hfq];rfl
    have n0 : ¬ ((j:Int)<0):=by omega
    rw[ef]
    simp only[zb,zj,yz,zf,Y3,za,zy,c,decide_true,zc,if_true,c2,Y0,zn _ i l.length h1,QU,hx,zC,qu,hp,zn9 k (by omega),zbZ,hsz,zi,wz,vO,List.length_map,List.length_cons,List.length_nil,Nat.zero_add,hok,wB,w1,w2,kK,hg,d,zcF,n0,decide_false,zF,if_false,hap,xq (i:=i) (by omega)]
   | none=>
    have ef:f'=some i:=by show f.or _=_;rw[hfq,if_pos q];rfl
    have n0:((-1:Int)<0):=by decide
    rw[ef]
    simp only[zb,zj,yz,zf,Y3,za,zy,c,decide_true,zc,if_true,c2,Y0,zn _ i l.length h1,QU,hx,zC,qu,hp,zn9 k (by omega),zbZ,hsz,zi,wz,vO,List.length_map,List.length_cons,List.length_nil,Nat.zero_add,hok,wB,w1,w2,kK,hg,d,zcF,n0,hap,xq (i:=i) (by omega)]
  ·have d:decide (lim<w+1+k)=false:=decide_eq_false q
   have ef:f'=f:=by show f.or _=_;rw[if_neg q];cases f<;>rfl
   rw[ef]
   simp only[zb,zj,yz,zf,Y3,za,zy,c,decide_true,zc,if_true,c2,Y0,zn _ i l.length h1,QU,hx,zC,qu,hp,zn9 k (by omega),zbZ,hsz,zi,wz,vO,List.length_map,List.length_cons,List.length_nil,Nat.zero_add,hok,wB,w1,w2,kK,hg,d,zF,if_false,hap,xq (i:=i) (by omega)]
theorem zjC(l:List Int)(n:Int):P0 xR [.v (.sl (ints l)),.v (.int .i64 n)] []=some (.bool true,[]):=by
 obtain⟨lim,hp,hlim,_⟩:=zmP n 300 (by decide) (by decide)
 have hp:P0 y3 [.v (.int .i64 n),.v (.int .i64 300)] []=some (.int .i64 (lim:Int),[]):=hp
 obtain⟨ks,k1,k2,h1⟩:=zjo l lim (by omega) (min l.length 30) 0 [] 1 none (by omega) rfl (by omega) (fun j h=>by contradiction)
 have h1:yi (wc (.sl (ints l)) (.int .i64 (lim:Int),[])) (vec [.sl [],.int .i64 1,.int .i64 (-1),.int .i64 0])=some (0,vec [.sl (Y9 (ks.map opW)),.int .i64 ((1+WL ks:Nat):Int),.int .i64 (zcF (WR lim 1 0 ks))]):=h1
 have hk:ks.length≤30:=by omega
 have hW:=zrQ ks k2
 have hem:arr [] = .mk 6 false .zero [] [] []:=rfl
 have hav:(arr []).val = .agg [.int .i64 6,.bool false,.bool false,.sl [],.int .i64 0,.str [],.sl [],.sl []]:=by rw[zjO];rfl
 have hsz:Sz (arr []):=⟨zf6 (fun x hx=>by simp at hx),by decide⟩
 have ha:=zhl (arr []) (ks.map opW) (lim:Int) (by omega) hsz (JO (.arr [] (by decide) (fun x hx=>by simp at hx)) (by decide) (by decide)) (by rw[List.length_map];omega)
  (fun o ho=>by obtain⟨k,hk,rfl⟩:=List.mem_map.1 ho;exact zor k (by have:=k2 k hk;omega)) (zqk ks (fun k hk=>by have:=k2 k hk;omega))
 have hb:=ziL lim ks [] 0 (by simpa using hk)
 have hb:Wb (lim:Int) (arr []) (ks.map opW) 0=match WR lim 1 0 ks with
   | none => .inl (arr (ks.map xV))
   | some j => .inr (j,4):=hb
 rw[hb,hav]at ha
 rw[Ql];unfold Yi
 cases hf:WR lim 1 0 ks with
 | some j=>
  rw[hf]at ha h1
  have ha:P0 xz [.v (.agg [.int .i64 6,.bool false,.bool false,.sl [],.int .i64 0,.str [],.sl [],.sl []]),.v (.sl (Y9 (ks.map opW))),.v (.int .i64 (lim:Int))] []=some (.tup [Tree.zero.val,.int .i64 (j:Int),.int .i64 4],[]):=ha
  have g0:(0:Int)≤(j:Int):=by omega
  have hs:=zmz Tree.zero (.mk _ (fun x hx=>by simp[Tree.zero,Tree.n,Nm.zero]at hx) (by simp[Tree.zero,Tree.n,Nm.zero]) (by simp[Tree.zero,Tree.k]) (by simp[Tree.zero,Tree.v]) (fun x hx=>by simp[Tree.zero,Tree.v]at hx))
  have hs2:P0 yB [.v Tree.zero.val,.v (.agg [.int .i64 0,.bool false,.bool false,.sl [],.int .i64 0,.str [],.sl [],.sl []])] []=some (.bool true,[]):=by
   rw[← J6];exact hs
  simp only[zb,hp,h1,za,zj,yz,wz,ha,yd,zM,zN,zd,zi,zcF,qi,g0,decide_true,zc,if_true,xd,hs2,zkv]
 | none=>
  rw[hf]at ha h1
  have ha:P0 xz [.v (.agg [.int .i64 6,.bool false,.bool false,.sl [],.int .i64 0,.str [],.sl [],.sl []]),.v (.sl (Y9 (ks.map opW))),.v (.int .i64 (lim:Int))] []=some (.tup [(arr (ks.map xV)).val,.int .i64 (-1),.int .i64 0],[]):=ha
  have g0 : ¬ (0:Int) ≤ -1:=by decide
  have hw:zz (arr (ks.map xV))=1+WL ks:=Qo _
  have hr:=zjK (arr (ks.map xV)) (by omega)
  rw[hw]at hr
  have hv:(arr (ks.map xV)).v=ks.map xV:=rfl
  simp only[zb,hp,h1,za,zj,yz,wz,ha,yd,zM,zN,zd,zi,zcF,qi,g0,decide_false,zF,if_false,decide_true,zc,if_true,xd,vI,zf,zo,hv,vO,List.length_map,beq_self_eq_true,hr,zkv]
theorem zb4{n0 n1:Nat}{xs ys:List V}(hx:Ty Go.Proofs.Tryd.prog n0 30 xs)(hy:Ty Go.Proofs.Tryd.prog n1 3 ys) :
  P0 xR ([mkV Go.Proofs.Tryd.prog 30 xs,mkV Go.Proofs.Tryd.prog 3 ys].map .v) []=some (.bool true,[]):=by
 obtain⟨l,el⟩:=zpj Go.Proofs.Tryd.underlying30 Go.Proofs.Tryd.underlying3 hx
 obtain⟨y,_,ey⟩:=zm3 Go.Proofs.Tryd.underlying3 hy
 rw[el,ey]
 exact zjC l y
end Go.Ev
