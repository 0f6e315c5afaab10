/- OpsArrays: one operation on an array. -/
import Derived.Test.YtnefgdahdccldaaDoorRows
import Derived.Test.YtnefgdahdccldaaDoorKSA
import Derived.Test.YtnefgdahdccldaaDoorKSD
set_option linter.all false
open Option renaming map_some→zC,bind_some→zD
open Bool renaming false_eq_true→zF,not_true→zH
open List renaming getElem?_eq_getElem→zL,getElem?_cons_zero→zM,getElem?_cons_succ→zN,drop_zero→zU,take_of_length_le→zV,length_append→zZ
namespace Go.Ev
attribute [local irreducible] P0
def ni(l:List Nat):List V:=l.map (fun i:Nat=>V.int .i64 (i:Int))
theorem Qu(l:List Nat):(ni l).length=l.length:=List.length_map ..
theorem za9(l:List Nat)(i:Nat):(ni l).take i=ni (l.take i):=by simp[ni,List.map_take]
theorem zaY(l:List Nat)(i:Nat):(ni l).drop i=ni (l.drop i):=by simp[ni,List.map_drop]
theorem zcJ(a b:List Nat):ni a++ni b=ni (a++b):=by simp[ni]
theorem zbF(i:Nat):[V.int .i64 (i:Int)]=ni [i]:=rfl
theorem zqu(l:List Nat)(i:Nat):(ni l)[i]?=(l[i]?).map (fun j:Nat=>V.int .i64 (j:Int)):=List.getElem?_map ..
theorem Vq(l:List Nat):yc 1 (ni l)=true:=by
 induction l with
 | nil=>rfl
 | cons i r ih=>show yc 1 (V.int .i64 (i:Int)::ni r)=true;rw[yH];exact⟨rfl,ih⟩
theorem za1(l:List Nat):Y0 1 (.sl (ni l))=some (ni l):=by unfold Y0;simp only[Vq]
theorem zk1(k:IntKind)(i:Int):yc 1 [V.int k i]=true:=rfl
def dg(i:Nat):Str:=[UInt8.ofNat (48+i)]
def yZ(i:Nat):Tree := .mk 4 false .zero (dg i) [] []
theorem zm8(i:Nat):(yZ i).val = .agg [.int .i64 4,.bool false,.bool false,.sl [],.int .i64 0,.str (dg i),.sl [],.sl []]:=by rw[Tree.val_eq];rfl
theorem dsl(i:Nat)(h:i<10):JB (.str [48,49,50,51,52,53,54,55,56,57]) (some (.int .i64 (i:Int))) (some (.int .i64 ((i+1:Nat):Int)))=some (.str (dg i)):=by
 have:i=0∨i=1∨i=2∨i=3∨i=4∨i=5∨i=6∨i=7∨i=8∨i=9:=by omega
 rcases this with rfl | rfl | rfl | rfl | rfl | rfl | rfl | rfl | rfl | rfl<;>rfl
theorem zaR(i:Nat)(h:i<10):ziC (dg i)=some i∧dg i≠[45]:=by
 have:i=0∨i=1∨i=2∨i=3∨i=4∨i=5∨i=6∨i=7∨i=8∨i=9:=by omega
 rcases this with rfl | rfl | rfl | rfl | rfl | rfl | rfl | rfl | rfl | rfl<;>exact⟨by decide,by decide⟩
theorem zqp{i j:Nat}(hi:i<10)(hj:j<10)(h:dg i=dg j):i=j:=by
 have h1:=(zaR i hi).1
 rw[h,(zaR j hj).1]at h1
 injection h1 with h1;exact h1.symm
theorem ziI(i:Nat)(h:i<10)(m:Int)(hm:(i:Int)≤m):qh (dg i) m=some i:=by
 unfold qh;rw[(zaR i h).1,zD,if_pos hm]
theorem znF(v:List Tree)(i:Nat)(h:i<v.length)(hi:i<10):wU (arr v) [dg i]=some v[i]:=by
 have hc:child (arr v) (dg i)=some v[i]:=by
  unfold child
  rw[if_pos (show(arr v).kind=6 from rfl)]
  show(qh (dg i) ((v.length:Int) - 1)).bind (fun j=>v[j]?)=_
  rw[ziI i hi _ (by omega),zD,zL h]
 simp only[wU,hc,zD]
theorem zqU(v:List Tree)(f:Nat)(h:f<v.length)(hf:f<10):zaw (arr v) [dg f]=some (arr (v.take f++v.drop (f+1))):=by
 unfold zaw
 rw[if_neg (by simp),znF v f h hf,zD]
 show(wU (arr v) []).bind _=_
 rw[show wU (arr v) []=some (arr v)from rfl,zD]
 show some (zdh (arr v) (xq [dg f]))=_
 rw[show xq [dg f]=dg f from rfl]
 unfold zdh
 rw[if_neg (by simp[arr,Tree.kind])]
 show some (arr (v.take ((qh (dg f) ((v.length:Int) - 1)).getD 0)++v.drop ((qh (dg f) ((v.length:Int) - 1)).getD 0+1)))=_
 rw[ziI f hf _ (by omega)];rfl
theorem zof(v:List Tree)(g:Nat)(x:Tree)(h:g≤v.length)(hg:g<10):YK (arr v) [dg g] x=some (arr (v.take g++x::v.drop g)):=by
 unfold YK
 rw[if_neg (by simp)]
 show(wU (arr v) []).bind _=_
 rw[show wU (arr v) []=some (arr v)from rfl,zD,if_neg (by simp[arr,Tree.kind]),if_pos (by simp[arr,Tree.kind])]
 rw[show xq [dg g]=dg g from rfl]
 unfold YN
 rw[if_neg (zaR g hg).2]
 show(qh (dg g) (v.length:Int)).bind _=_
 rw[ziI g hg _ (by omega),zD];rfl
theorem zmP(i:Nat):OrdT (yZ i) := .mk _ (fun h=>by simp[yZ,Tree.kind]at h) (by rw[X9 (by simp[yZ,Tree.kind])];trivial) (fun x hx=>by simp[yZ,Tree.n,Nm.zero]at hx) (by simp[yZ,Tree.n,Nm.zero]) (by simp[yZ,Tree.k]) (fun x hx=>by simp[yZ,Tree.v]at hx)
theorem zqW(i:Nat):yj (yZ i)=2:=by
 rw[xZ]
 show w1 (yZ i)+weightL []=_
 unfold w1;simp[yZ,Tree.kind,Tree.s,weightL,dg]
theorem zpG(l:List Nat)(h:l.length≤1000):Sz (arr (l.map yZ)):=by
 refine⟨za0 (fun x hx=>by obtain⟨i,_,rfl⟩:=List.mem_map.1 hx;exact zmP i),?_⟩
 rw[Qc]
 have : ∀ l:List Nat,weightL (l.map yZ)=2 * l.length:=by
  intro l
  induction l with
  | nil=>rfl
  | cons a r ih=>rw[List.map_cons,weightL,ih,zqW,List.length_cons];omega
 rw[this];omega
theorem zi2(n:Nat)(hn:n≤9)(m:Nat) : ∀ i,i+m=n →
  yk (wi (.int .i64 (n:Int))) (vec [.sl (ni (List.range i)),.int .i64 (i:Int),.int .i64 6,.bool false,.bool false,.sl [],.int .i64 0,.str [],.sl [],.sl (trs ((List.range i).map yZ))]) =
   some (0,vec [.sl (ni (List.range n)),.int .i64 6,.bool false,.bool false,.sl [],.int .i64 0,.str [],.sl [],.sl (trs ((List.range n).map yZ))]):=by
 induction m with
 | zero=>
  intro i hi
  obtain rfl:i=n:=by omega
  apply zr
  unfold wi
  have c : ¬ (i:Int)<(i:Int):=by omega
  simp only[zb,zl,yp,zw,c,decide_false,za,zc,zF,if_false,yU]
 | succ m ih=>
  intro i hi
  have c:(i:Int)<(n:Int):=by omega
  have a1:wy 120 i 1=true:=qk 120 i 1 (by omega) (by omega)
  have a2:wy 8 i 1=true:=qk 8 i 1 (by omega) (by omega)
  have k1:okN 8 (.agg [.int .i64 4,.bool false,.bool false,.sl [],.int .i64 0,.str (dg i),.sl [],.sl []])=true:=rfl
  have k2:yc 8 [.agg [.int .i64 4,.bool false,.bool false,.sl [],.int .i64 0,.str (dg i),.sl [],.sl []]]=true:=by simp[yc,k1]
  have e1:ni (List.range i)++[V.int .i64 (i:Int)]=ni (List.range (i+1)):=by rw[zbF,zcJ,List.range_succ]
  have e2:trs ((List.range i).map yZ)++[V.agg [.int .i64 4,.bool false,.bool false,.sl [],.int .i64 0,.str (dg i),.sl [],.sl []]]=trs ((List.range (i+1)).map yZ):=by
   rw[← zm8,show [(yZ i).val]=trs [yZ i]from rfl,Je,List.range_succ,List.map_append];rfl
  rw[← ih (i+1) (by omega)]
  apply zy
  unfold wi
  simp only[zb,zl,yp,zw,c,decide_true,za,zc,if_true,xo,yM (i:=i) (by omega),dsl i (by omega),kA,y4,k1,k2,zh,yU,zm,List.length_map,List.length_range,List.length_cons,List.length_nil,Nat.zero_add,a1,qG,vH,zk1,Qu,a2,e1,e2]
theorem Xu(w:List Nat)(hw:w.length≤1000)(h10 : ∀ x,x∈w→x<10)(a2 a3 a4 a6 a7 a10 a13 a14 a15 a17 a18:V)(b5 b8 b9 b11 b12 b16 b19 b20:List V)(m:Nat) : ∀ i,i+m=w.length →
  ∃ o,yk (vp (arr (w.map yZ)).val) (vec [.sl (ni w),.int .i64 (i:Int),a2,a3,a4,.sl b5,a6,a7,.sl b8,.sl b9,a10,.sl b11,.sl b12,a13,a14,a15,.sl b16,a17,a18,.sl b19,.sl b20])=some o∧o.1=0:=by
 induction m with
 | zero=>
  intro i hi
  refine⟨(0,vec [a2,a3,a4,.sl b5,a6,a7,.sl b8,.sl b9,a10,.sl b11,.sl b12,a13,a14,a15,.sl b16,a17,a18,.sl b19,.sl b20]),zr ?_,rfl⟩
  unfold vp
  have c : ¬ (i:Int)<(w.length:Int):=by omega
  simp only[zb,zl,yp,yU,Qu,zw,c,decide_false,za,zc,zF,if_false]
 | succ m ih=>
  intro i hi
  have h1:i<w.length:=by omega
  have c:(i:Int)<(w.length:Int):=by omega
  obtain⟨o,ho,h0⟩:=ih (i+1) (by omega)
  refine⟨o,?_,h0⟩
  rw[← ho]
  have hx:w[i]?=some w[i]:=zL h1
  have hlt:=h10 w[i] (List.getElem_mem _)
  have hv:(arr (w.map yZ)).v=w.map yZ:=rfl
  have hg:(trs (w.map yZ))[i]?=some (yZ w[i]).val:=by rw[jy,List.getElem?_map,hx];rfl
  have hs:(yZ w[i]).s=dg w[i]:=rfl
  apply zy
  unfold vp
  simp only[zb,zl,yp,yU,Qu,zw,c,decide_true,za,zc,if_true,qj,hv,xQ,zm,List.length_map,zp _ i w.length h1,hg,Kh,hs,Vq,zh,zqu,hx,zC,vH,xo,yM (i:=w[i]) (by omega),dsl w[i] hlt,zeA,beq_self_eq_true,zH,zF,if_false,yM (i:=i) (by omega)]
theorem zqi(k:Nat)(h:k<4):k=0∨k=1∨k=2∨k=3:=by omega
theorem zjA : ∀ n:Fin 10,∀ f:Fin 10,f.val<n.val→((List.range n.val).take f.val++(List.range n.val).drop (f.val+1)).take f.val++[f.val]++((List.range n.val).take f.val++(List.range n.val).drop (f.val+1)).drop f.val=List.range n.val:=by decide
theorem zol{n f x:Nat}(h:x∈(List.range n).take f++(List.range n).drop (f+1)):x<n:=by
 rcases List.mem_append.1 h with h | h
 ·exact List.mem_range.1 (List.mem_of_mem_take h)
 ·exact List.mem_range.1 (List.mem_of_mem_drop h)
theorem zjQ(a b c d:Int):P0 xX [.v (.int .i64 a),.v (.int .i64 b),.v (.int .i64 c),.v (.int .i64 d)] []=some (.bool true,[]):=by
 obtain⟨n',hp1,hn',_⟩:=zft a 9 (by decide) (by decide)
 have hp1:P0 yC [.v (.int .i64 a),.v (.int .i64 9)] []=some (.int .i64 (n':Int),[]):=hp1
 have hx2:IntKind.i64.wrap (1+(n':Int))=((n'+1:Nat):Int):=(w64 (a:=1+(n':Int)) (by omega)).trans (by omega)
 have hn:1≤n'+1∧n'+1≤9:=by omega
 generalize n'+1=n at *
 obtain⟨f,hp2,hf,_⟩:=zft b n (by omega) (by omega)
 obtain⟨g,hp3,hg,_⟩:=zft c n (by omega) (by omega)
 obtain⟨k,hp4,hk,_⟩:=zft d 4 (by decide) (by decide)
 have hp4:P0 yC [.v (.int .i64 d),.v (.int .i64 4)] []=some (.int .i64 (k:Int),[]):=hp4
 have h1:=zi2 n hn.2 n 0 (by omega)
 have h1:yk (wi (.int .i64 (n:Int))) (vec [.sl [],.int .i64 0,.int .i64 6,.bool false,.bool false,.sl [],.int .i64 0,.str [],.sl [],.sl []])=some (0,vec [.sl (ni (List.range n)),.int .i64 6,.bool false,.bool false,.sl [],.int .i64 0,.str [],.sl [],.sl (trs ((List.range n).map yZ))]):=h1
 have hl:=List.length_range (n:=n)
 have h10 : ∀ x,x∈List.range n→x<10:=fun x hx=>by have:=List.mem_range.1 hx;omega
 have hL10 : ∀ x,x∈(List.range n).take f++(List.range n).drop (f+1)→x<10:=fun x hx=>by have:=zol hx;omega
 have hsame:f=g→((List.range n).take f++(List.range n).drop (f+1)).take g++[f]++((List.range n).take f++(List.range n).drop (f+1)).drop g=List.range n:=fun e=>by
  subst e;exact zjA ⟨n,by omega⟩ ⟨f,by omega⟩ hf
 have hgf : ∀ h:f<((List.range n).map yZ).length,((List.range n).map yZ)[f]=yZ f:=fun h=>by simp
 generalize List.range n=l at *
 have hA:(l.take f).length=f:=by rw[List.length_take];omega
 have hB:(l.drop (f+1)).length=n - (f+1):=by rw[List.length_drop];omega
 have hL:(l.take f++l.drop (f+1)).length=n - 1:=by rw[zZ,hA,hB];omega
 have hC:((l.take f++l.drop (f+1)).take g).length=g:=by rw[List.length_take];omega
 have hD:((l.take f++l.drop (f+1)).drop g).length=n - 1 - g:=by rw[List.length_drop];omega
 have hM:((l.take f++l.drop (f+1)).take g++[f]).length=g+1:=by rw[zZ,hC];rfl
 have hE:(l.take g).length=g:=by rw[List.length_take];omega
 have hF:(l.drop g).length=n - g:=by rw[List.length_drop];omega
 have hM2:(l.take g++[f]).length=g+1:=by rw[zZ,hE];rfl
 have hbA:=XR .i64 (f:Int) n ⟨by omega,by omega⟩
 have hbB:=jw .i64 ((f+1:Nat):Int) n ⟨by omega,by omega⟩
 have hbC:=XR .i64 (g:Int) (n - 1) ⟨by omega,by omega⟩
 have hbD:=jw .i64 (g:Int) (n - 1) ⟨by omega,by omega⟩
 have hbE:=XR .i64 (g:Int) n ⟨by omega,by omega⟩
 have hbF:=jw .i64 (g:Int) n ⟨by omega,by omega⟩
 rw[Int.toNat_natCast]at hbA hbB hbC hbD hbE hbF
 have hdB:(l.drop (f+1)).take (n - (f+1))=l.drop (f+1):=zV (by omega)
 have hdD:((l.take f++l.drop (f+1)).drop g).take (n - 1 - g)=(l.take f++l.drop (f+1)).drop g:=zV (by omega)
 have hdF:(l.drop g).take (n - g)=l.drop g:=zV (by omega)
 have apA:wy 8 0 f=true:=qk 8 0 f (by omega) (by omega)
 have apB:wy 8 f (n - (f+1))=true:=qk 8 f (n - (f+1)) (by omega) (by omega)
 have apC:wy 8 0 g=true:=qk 8 0 g (by omega) (by omega)
 have apD:wy 8 g 1=true:=qk 8 g 1 (by omega) (by omega)
 have apE:wy 8 (g+1) (n - 1 - g)=true:=qk 8 (g+1) (n - 1 - g) (by omega) (by omega)
 have apF:wy 8 0 n=true:=qk 8 0 n (by omega) (by omega)
 have apG:wy 8 n 1=true:=qk 8 n 1 (by omega) (by omega)
 have apH:wy 8 (g+1) (n - g)=true:=qk 8 (g+1) (n - g) (by omega) (by omega)
 have hsz:=zpG l (by omega)
 have hdv:(arr (l.map yZ)).val = .agg [.int .i64 6,.bool false,.bool false,.sl [],.int .i64 0,.str [],.sl [],.sl (trs (l.map yZ))]:=zfy _
 have hml:(l.map yZ).length=n:=by rw[List.length_map,hl]
 have hrem:zaw (arr (l.map yZ)) [dg f]=some (arr ((l.take f++l.drop (f+1)).map yZ)):=by
  rw[zqU _ f (by omega) (by omega),List.map_append,List.map_take,List.map_drop]
 have hget:wU (arr (l.map yZ)) [dg f]=some (yZ f):=by rw[znF _ f (by omega) (by omega),hgf]
 have hv : ∀ w:List Nat,(arr (w.map yZ)).v=w.map yZ:=fun _=>rfl
 rw[Qv];unfold Yr
 rcases zqi k hk with rfl | rfl | rfl | rfl
 ·have hOne:P0 xU [.v (.agg [.int .i64 6,.bool false,.bool false,.sl [],.int .i64 0,.str [],.sl [],.sl (trs (l.map yZ))]),.v (.agg [.int .i64 2,.sl [.str (dg f)],.sl [],.int .i64 0,.bool false,.bool false,.sl [],.int .i64 0,.str [],.sl [],.sl []])] []=some (.tup [(arr ((l.take f++l.drop (f+1)).map yZ)).val,.bool true],[]):=by
   have h:=zdm (arr (l.map yZ)) ⟨2,[dg f],[],Tree.zero⟩ (some (arr ((l.take f++l.drop (f+1)).map yZ))) (by
    rw[← hrem];exact znX _ ⟨2,[dg f],[],Tree.zero⟩ hsz rfl (by simp)
    )
   rw[hdv]at h;exact h
  obtain⟨o,ho,h0⟩:=Xu (l.take f++l.drop (f+1)) (by omega) hL10 (.int .i64 6) (.bool false) (.bool false) (.int .i64 0) (.str []) (.int .i64 2) (.int .i64 0) (.bool false) (.bool false) (.int .i64 0) (.str []) [] [] (trs (l.map yZ)) [.str (dg f)] [] [] [] [] _ 0 (Nat.zero_add _)
  rw[show((0:Nat):Int)=0 from rfl]at ho
  have e0:decide (((0:Nat):Int)=0)=true:=rfl
  simp only[zb,hp1,hp2,hp3,hp4,za,xo,hx2,h1,zl,yp,yM (i:=f) (by omega),yM (i:=g) (by omega),dsl f (by omega),dsl g (by omega),kA,y4,zh,yU,Vq,Qu,hl,hbA,hbB,za9,zaY,zU,Nat.sub_zero,hdB,za1,List.length_nil,hA,hB,apA,apB,List.nil_append,zcJ,hL,hbC,hbD,hC,hD,apC,qG,vH,zbF,List.length_cons,Nat.zero_add,apD,hM,apE,hdD,zgp,yV,zc,if_true,zF,if_false,e0,hOne,zo,zM,zN,zd,y0,zH,qj,hv,zg,zm,List.length_map,bne_self_eq_false,ho,h0,za8]
 ·have hOne:P0 xU [.v (.agg [.int .i64 6,.bool false,.bool false,.sl [],.int .i64 0,.str [],.sl [],.sl (trs (l.map yZ))]),.v (.agg [.int .i64 5,.sl [.str [45]],.sl [.str (dg f)],.int .i64 0,.bool false,.bool false,.sl [],.int .i64 0,.str [],.sl [],.sl []])] []=some (.tup [(arr ((l++[f]).map yZ)).val,.bool true],[]):=by
   have h:=zdm (arr (l.map yZ)) ⟨5,[[45]],[dg f],Tree.zero⟩ (some (arr ((l++[f]).map yZ))) (by
    have e:some (arr ((l++[f]).map yZ))=(wU (arr (l.map yZ)) [dg f]).bind fun v=>YK (arr (l.map yZ)) [[45]] v:=by
     rw[hget,zD,zph,List.map_append];rfl
    rw[e];exact zn7 _ ⟨5,[[45]],[dg f],Tree.zero⟩ hsz rfl (by simp) (by simp)
    )
   rw[hdv]at h;exact h
  obtain⟨o,ho,h0⟩:=Xu (l++[f]) (by rw[zZ];simp;omega) (fun x hx=>by rcases List.mem_append.1 hx with hx | hx;exact h10 x hx;rw[List.mem_singleton.1 hx];omega) (.int .i64 6) (.bool false) (.bool false) (.int .i64 0) (.str []) (.int .i64 5) (.int .i64 0) (.bool false) (.bool false) (.int .i64 0) (.str []) [] [] (trs (l.map yZ)) [.str [45]] [.str (dg f)] [] [] [] _ 0 (Nat.zero_add _)
  rw[show((0:Nat):Int)=0 from rfl]at ho
  have e0:decide (((1:Nat):Int)=0)=false:=rfl
  have e1:decide (((1:Nat):Int)=1)=true:=rfl
  simp only[zb,hp1,hp2,hp3,hp4,za,xo,hx2,h1,zl,yp,yM (i:=f) (by omega),yM (i:=g) (by omega),dsl f (by omega),dsl g (by omega),kA,y4,zh,yU,Vq,Qu,hl,hbA,hbB,za9,zaY,zU,Nat.sub_zero,hdB,za1,List.length_nil,hA,hB,apA,apB,List.nil_append,zcJ,hL,hbC,hbD,hC,hD,apC,qG,vH,zbF,List.length_cons,Nat.zero_add,apD,hM,apE,hdD,zgp,yV,zc,if_true,zF,if_false,e0,e1,apF,apG,hOne,zo,zM,zN,zd,y0,zH,qj,hv,zg,zm,List.length_map,bne_self_eq_false,ho,h0,za8]
 ·have hOne:P0 xU [.v (.agg [.int .i64 6,.bool false,.bool false,.sl [],.int .i64 0,.str [],.sl [],.sl (trs (l.map yZ))]),.v (.agg [.int .i64 1,.sl [.str (dg g)],.sl [],.int .i64 4,.bool false,.bool false,.sl [],.int .i64 0,.str (dg f),.sl [],.sl []])] []=some (.tup [(arr ((l.take g++[f]++l.drop g).map yZ)).val,.bool true],[]):=by
   have h:=zdm (arr (l.map yZ)) ⟨1,[dg g],[],yZ f⟩ (some (arr ((l.take g++[f]++l.drop g).map yZ))) (by
    have e:some (arr ((l.take g++[f]++l.drop g).map yZ))=VR (arr (l.map yZ)) ⟨1,[dg g],[],yZ f⟩:=by
     unfold VR
     rw[if_pos rfl]
     show _=YK (arr (l.map yZ)) [dg g] (yZ f)
     rw[zof _ g _ (by omega) (by omega),List.map_append,List.map_append,List.map_take,List.map_drop,List.append_assoc];rfl
    rw[e];exact zhR _ ⟨1,[dg g],[],yZ f⟩ hsz rfl (by simp)
    )
   rw[hdv]at h;exact h
  obtain⟨o,ho,h0⟩:=Xu (l.take g++[f]++l.drop g) (by rw[zZ,hM2,hF];omega) (fun x hx=>by rcases List.mem_append.1 hx with hx | hx;rcases List.mem_append.1 hx with hx | hx;exact h10 x (List.mem_of_mem_take hx);rw[List.mem_singleton.1 hx];omega;exact h10 x (List.mem_of_mem_drop hx)) (.int .i64 6) (.bool false) (.bool false) (.int .i64 0) (.str []) (.int .i64 1) (.int .i64 4) (.bool false) (.bool false) (.int .i64 0) (.str (dg f)) [] [] (trs (l.map yZ)) [.str (dg g)] [] [] [] [] _ 0 (Nat.zero_add _)
  rw[show((0:Nat):Int)=0 from rfl]at ho
  have e0:decide (((2:Nat):Int)=0)=false:=rfl
  have e1:decide (((2:Nat):Int)=1)=false:=rfl
  have e2:decide (((2:Nat):Int)=2)=true:=rfl
  simp only[zb,hp1,hp2,hp3,hp4,za,xo,hx2,h1,zl,yp,yM (i:=f) (by omega),yM (i:=g) (by omega),dsl f (by omega),dsl g (by omega),kA,y4,zh,yU,Vq,Qu,hl,hbA,hbB,za9,zaY,zU,Nat.sub_zero,hdB,za1,List.length_nil,hA,hB,apA,apB,List.nil_append,zcJ,hL,hbC,hbD,hC,hD,apC,qG,vH,zbF,List.length_cons,Nat.zero_add,apD,hM,apE,hdD,zgp,yV,zc,if_true,zF,if_false,e0,e1,e2,hbE,hbF,hE,hF,hM2,apH,hdF,hOne,zo,zM,zN,zd,y0,zH,qj,hv,zg,zm,List.length_map,bne_self_eq_false,ho,h0,za8]
 ·have hOne:P0 xU [.v (.agg [.int .i64 6,.bool false,.bool false,.sl [],.int .i64 0,.str [],.sl [],.sl (trs (l.map yZ))]),.v (.agg [.int .i64 4,.sl [.str (dg g)],.sl [.str (dg f)],.int .i64 0,.bool false,.bool false,.sl [],.int .i64 0,.str [],.sl [],.sl []])] []=some (.tup [(arr (((l.take f++l.drop (f+1)).take g++[f]++(l.take f++l.drop (f+1)).drop g).map yZ)).val,.bool true],[]):=by
   have h:=zdm (arr (l.map yZ)) ⟨4,[dg g],[dg f],Tree.zero⟩ (some (arr (((l.take f++l.drop (f+1)).take g++[f]++(l.take f++l.drop (f+1)).drop g).map yZ))) (by
    have e:some (arr (((l.take f++l.drop (f+1)).take g++[f]++(l.take f++l.drop (f+1)).drop g).map yZ))=ziU (arr (l.map yZ)) [dg f] [dg g]:=by
     unfold ziU
     rw[hget,zD]
     by_cases hfg:f=g
     ·rw[if_pos (by rw[hfg]),hsame hfg]
     ·have hne:dg f≠dg g:=fun e=>hfg (zqp (by omega) (by omega) e)
      have hst:Jz [dg f] [dg g]=false:=by simp[Jz,hne]
      rw[if_neg (by simpa using hne),if_neg (by rw[hst];simp),hrem,zD,zof _ g _ (by rw[List.length_map];omega) (by omega),← List.map_take,← List.map_drop,List.map_append,List.map_append,List.append_assoc];rfl
    rw[e];exact zoo _ ⟨4,[dg g],[dg f],Tree.zero⟩ hsz rfl (by simp) (by simp)
    )
   rw[hdv]at h;exact h
  obtain⟨o,ho,h0⟩:=Xu ((l.take f++l.drop (f+1)).take g++[f]++(l.take f++l.drop (f+1)).drop g) (by rw[zZ,hM,hD];omega) (fun x hx=>by rcases List.mem_append.1 hx with hx | hx;rcases List.mem_append.1 hx with hx | hx;exact hL10 x (List.mem_of_mem_take hx);rw[List.mem_singleton.1 hx];omega;exact hL10 x (List.mem_of_mem_drop hx)) (.int .i64 6) (.bool false) (.bool false) (.int .i64 0) (.str []) (.int .i64 4) (.int .i64 0) (.bool false) (.bool false) (.int .i64 0) (.str []) [] [] (trs (l.map yZ)) [.str (dg g)] [.str (dg f)] [] [] [] _ 0 (Nat.zero_add _)
  rw[show((0:Nat):Int)=0 from rfl]at ho
  have e0:decide (((3:Nat):Int)=0)=false:=rfl
  have e1:decide (((3:Nat):Int)=1)=false:=rfl
  have e2:decide (((3:Nat):Int)=2)=false:=rfl
  simp only[zb,hp1,hp2,hp3,hp4,za,xo,hx2,h1,zl,yp,yM (i:=f) (by omega),yM (i:=g) (by omega),dsl f (by omega),dsl g (by omega),kA,y4,zh,yU,Vq,Qu,hl,hbA,hbB,za9,zaY,zU,Nat.sub_zero,hdB,za1,List.length_nil,hA,hB,apA,apB,List.nil_append,zcJ,hL,hbC,hbD,hC,hD,apC,qG,vH,zbF,List.length_cons,Nat.zero_add,apD,hM,apE,hdD,zgp,yV,zc,if_true,zF,if_false,e0,e1,e2,hOne,zo,zM,zN,zd,y0,zH,qj,hv,zg,zm,List.length_map,bne_self_eq_false,ho,h0,za8]
theorem zbw{n0 n1 n2 n3:Nat}{xs ys zs ws:List V}(hx:Ty Go.Proofs.Tryd.prog n0 3 xs)(hy:Ty Go.Proofs.Tryd.prog n1 3 ys)(hz:Ty Go.Proofs.Tryd.prog n2 3 zs)(hw:Ty Go.Proofs.Tryd.prog n3 3 ws) :
  P0 xX ([mkV Go.Proofs.Tryd.prog 3 xs,mkV Go.Proofs.Tryd.prog 3 ys,mkV Go.Proofs.Tryd.prog 3 zs,mkV Go.Proofs.Tryd.prog 3 ws].map .v) []=some (.bool true,[]):=by
 obtain⟨a,_,ea⟩:=zfH Go.Proofs.Tryd.underlying3 hx
 obtain⟨b,_,eb⟩:=zfH Go.Proofs.Tryd.underlying3 hy
 obtain⟨c,_,ec⟩:=zfH Go.Proofs.Tryd.underlying3 hz
 obtain⟨d,_,ed⟩:=zfH Go.Proofs.Tryd.underlying3 hw
 rw[ea,eb,ec,ed]
 exact zjQ a b c d
end Go.Ev
