/- What functions compute, put together. -/
import Derived.Test.YtnefgdahdccldaaDoorKPv
import Derived.Test.YtnefgdahdccldaaDoorKSp
set_option linter.all false
open Option renaming map_eq_some_iff->zB,map_some->zC,bind_some->zD
open Bool renaming false_eq_true->zF,and_eq_true->zG,not_true->zH,not_false->zI,true_eq_false->zX
open List renaming getElem?_eq_getElem->zL,getElem?_cons_zero->zM,getElem?_cons_succ->zN,drop_eq_getElem_cons->zO,mem_cons_of_mem->zP,drop_eq_nil_of_le->zQ,drop_zero->zU,take_of_length_le->zV,length_append->zZ
open Nat renaming le_refl->zR,mul_le_mul_right->zW
open Int renaming natCast_nonneg->zY
namespace Go.Ev
abbrev y8:=And.intro @zn @wt
end Go.Ev
namespace Go.Ev
abbrev y1:=And.intro @zv @X3
end Go.Ev
namespace Go.Ev
abbrev qp:=And.intro @if_true.{1} (And.intro @zBx @z5)
end Go.Ev
namespace Go.Ev
abbrev y5:=And.intro @zn (And.intro @wt (And.intro @zf (And.intro @if_false.{1} @zF)))
end Go.Ev
namespace Go.Ev
section
attribute [local irreducible] P0
theorem zuC(l:List Nat)(n:Nat)(hn:n<=l.length)(hl:l.length<=1000000):zr (jC (.sl (zw l))) (vec [.int .i64 (n:Int)])=some (0,vec [.int .i64 (top l n:Nat)]):=by
 induction n with
 | zero=>apply zh;unfold jC;simp[top]
 | succ n ih=>
  have hx:l[n]?=some l[n]:=zL (by omega);have h1:((n+1:Nat):Int)-1=n:=by omega
  by_cases h0:l[n]=0
  ·rw[zp (a':=vec [.int .i64 (n:Int)])]
   ·rw[ih (by omega)];simp[top,hx,h0]
   ·unfold jC;have h2:(0:Int)<((n+1:Nat):Int):=by omega
    simp only[zv,Zn,zn,zf,zBx,h2,zBu,ZQ,h1,w64 (a:=(n:Int)) (by omega),wP,z8,zg _ n l.length (by omega),ji,hx,zC,xM,zq,h0];simp
  ·have ht:top l (n+1)=n+1:=by unfold top;rw[hx];split<;>simp_all
   rw[ht];apply zh;unfold jC;have h2:(0:Int)<((n+1:Nat):Int):=by omega
   simp only[zv,Zn,zn,zf,zBx,h2,zBu,ZQ,h1,w64 (a:=(n:Int)) (by omega),wP,z8,zg _ n l.length (by omega),ji,hx,zC,xM,zq];simp[h0]
theorem zsI(l:List Nat)(hl:l.length<=1000000):P0 qM [.v (.sl (zw l))] []=some (.sl (zw (norm l)),[]):=by rw[zkf];unfold zdx;have h:=zg8 l l.length;simp only[zb,zn,z8,zuC l l.length (zR _) hl,zv,wP,zbE _ _ _ ⟨zY _,Int.ofNat_le.2 h⟩,zCa,zg6,Z4,zU,Nat.sub_zero,zbm,List.nil_append,zBH];rw[xX _ _ _ (by simp;omega) (by simp;omega)];rfl
theorem zqU(l:List Nat)(d:Nat)(q2:Nat×Nat)(hq:q2.1=l.length)(hd:0<d)(hd2:d<B32)(hl:l.length<=1000000)(hu:U32 l)(n:Nat)(hn:n<=l.length) :
  zr (ky (.sl (zw l)) (.int .u32 (d:Int)) q2) (vec [.int .u64 ((small d (l.drop n)).2:Int),.int .i64 ((n:Int)-1),.sl (List.replicate n (.int .u32 0)++zw (small d (l.drop n)).1)])
   = some (0,vec [.int .u64 ((small d l).2:Int),.sl (zw (small d l).1)]):=by
 induction n with
 | zero=>apply zh;unfold ky;simp
 | succ n ih=>
  have hx:l[n]?=some l[n]:=zL (by omega);have hdr:l.drop n=l[n]::l.drop (n+1):=zO (by omega);have hb:l[n]<B32:=hu _ (zCg _);have hc:(small d (l.drop (n+1))).2<d:=JM d hd _;rw[<- ih (by omega)];apply zp;generalize hs:small d (l.drop (n+1))=sm at *;have hsm:small d (l.drop n)=((sm.2*B32+l[n])/d::sm.1,(sm.2*B32+l[n])%d):=by rw[hdr];simp only[small,hs]
  rw[hsm];have hlt:(sm.2*B32+l[n])/d<B32:=by
   rw[Nat.div_lt_iff_lt_mul hd];have:sm.2*B32+B32<=d*B32:=by rw[<- Nat.succ_mul];exact zW _ hc
   rw[Nat.mul_comm B32 d];omega
  have hlt2:sm.2*B32+l[n]<B32*B32:=by
   have:sm.2*B32+B32<=B32*B32:=by rw[<- Nat.succ_mul];exact zW _ (by omega)
   omega
  have h1:((n+1:Nat):Int)-1=n:=by omega
  have hp:(2:Int)^Nat.min (32:Int).toNat (IntKind.bits .u64)=(B32:Int):=by decide
  have hB:B32*B32=18446744073709551616:=by decide
  have hB2:B32=4294967296:=rfl;have hBi:(B32:Int)=4294967296:=rfl;unfold ky;have ha:(sm.2:Int)*(B32:Int)=((sm.2*B32:Nat):Int):=by simp
  have hdd:((sm.2*B32+l[n]:Nat):Int).tdiv (d:Int)=(((sm.2*B32+l[n])/d:Nat):Int):=by rw[Int.tdiv_eq_ediv_of_nonneg (zY _)];simp
  have hmm:((sm.2*B32+l[n]:Nat):Int).tmod (d:Int)=(((sm.2*B32+l[n])%d:Nat):Int):=by rw[Int.tmod_eq_emod_of_nonneg (zY _)];simp
  have hd0:(d:Int)≠0:=by omega
  have hpos:(0:Int)<=n:=zY n;simp only[y1,qY,h1,hpos,zBx,zn,zf,zBu,zwM _ _ _ _ (show(0:Int)<=32 by decide),hp,ha];rw[zmj (a:=((sm.2*B32:Nat):Int)) (by omega)];simp only[wP,zn,z8,zg _ n l.length (by omega),ji,hx,zC,xM,kq];rw[zmj (a:=(l[n]:Int)) (by omega),zmj (a:=(d:Int)) (by omega)];simp only[yX,zn,<- Int.natCast_add];rw[zmj (a:=((sm.2*B32+l[n]:Nat):Int)) (by omega)];simp only[zjb _ _ _ hd0,JQ _ _ _ hd0,zn,hdd,hmm,kq];have hq0:(0:Int)<=(((sm.2*B32+l[n])/d:Nat):Int):=zY _;have hq1:(((sm.2*B32+l[n])/d:Nat):Int)<=4294967295:=Int.ofNat_le.2 (show _<=4294967295 from Nat.le_of_lt_succ hlt);rw[zmj (a:=(((sm.2*B32+l[n])/d:Nat):Int)) ⟨hq0,Int.le_trans hq1 (by decide)⟩,zyq (a:=(((sm.2*B32+l[n])/d:Nat):Int)) ⟨hq0,hq1⟩];simp only[hq,zg _ n l.length (by omega),zn,Xo,z5,xM,ZQ,zt,zBE,zsz];rw[w64 (a:=(n:Int)-1) (by omega)];rfl
theorem zw9(l:List Nat)(d:Nat)(hd:0<d)(hd2:d<B32)(hl:l.length<=1000000)(hu:U32 l) :
  P0 vk [.v (.sl (zw l)),.v (.int .u32 (d:Int))] []=some (.tup [.sl (zw (norm (small d l).1)),.int .u32 ((small d l).2:Int)],[]):=by
 rw[zgW];unfold zas;have hlt:=JM d hd l;have hB2:B32=4294967296:=rfl;have h:=zqU l d (l.length,l.length) rfl hd hd2 hl hu l.length (zR _);simp only[List.drop_length,small,zw,List.map_nil,List.append_nil]at h;simp only[zb,zn,z8,zk2 4 l.length (by omega) (by omega)];rw[w64 (a:=(l.length:Int)-1) (by omega)];simp only[zw]at h ⊢;rw[show((0:Nat):Int)=0 from rfl]at h;rw[h];have e:List.map (fun(x:Nat)=>V.int .u32 (x:Int)) (small d l).1=zw (small d l).1:=rfl;simp only[y1,zn,e,zt,zU,Z4];rw[zV (by rw[Xw];omega),zsI _ (by rw[Xw];omega)];simp only[zn,kq];rw[zyq (a:=((small d l).2:Int)) (by omega)];rfl
end
section
attribute [local irreducible] P0
theorem ztn(m:Nat) : ∀ (l:List Nat) (k:Nat),U32 l->Nrm l->l.length<=1000000->xQ l<10^m->k+m<=1000000000 ->
  ∃ (l':List Nat) (k':Nat),zr qB (vec [.sl (zw l),.int .i64 (k:Int)])=some (0,vec [.sl (zw l'),.int .i64 (k':Int)])/\U32 l'/\Nrm l'/\l'.length<=l.length/\(l'=[]\/(small 10 l').2≠0)/\k'<=k+m:=by
 induction m with
 | zero=>intro l k hu hn hl hv hk;have:l=[]:=zlV hn (by simpa using hv);subst this;refine⟨[],k,?_,hu,hn,by simp,.inl rfl,by omega⟩;apply zh;unfold qB;simp[zw]
 | succ m ih=>
  intro l k hu hn hl hv hk;by_cases h0:l=[]
  ·subst h0;refine⟨[],k,?_,hu,hn,by simp,.inl rfl,by omega⟩;apply zh;unfold qB;simp[zw]
  ·have hlen:0<l.length:=by cases l<;>simp_all
   have hlen':(0:Int)<(l.length:Int):=by omega
   have hs:=zw9 l 10 (by decide) (by decide) hl hu;by_cases hr:(small 10 l).2=0
   ·obtain⟨hv1,hv2⟩:=zei 10 (by decide) l;obtain⟨l',k',h1,h2,h3,h4,h5,h6⟩:=ih (norm (small 10 l).1) (k+1) (zhJ (zlz 10 (by decide) l hu)) (zdc _) (by have:=znn (small 10 l).1;rw[Xw]at this;omega)
     (by rw[zdT,hv1,Nat.div_lt_iff_lt_mul (by decide)];rw[Nat.pow_succ]at hv;exact hv) (by omega)
    refine⟨l',k',?_,h2,h3,by have:=znn (small 10 l).1;rw[Xw]at this;omega,h5,by omega⟩;rw[<- h1];apply zp;unfold qB;have hw:=w64 (a:=(k:Int)+1) (by omega);have hs':P0 vk [.v (.sl (zw l)),.v (.int .u32 10)] []=_:=hs;simp only[y1,zb,zn,z8,gt_iff_lt,hlen',zBx,zBu,hs',zm,hr];simp[hw]
   ·refine⟨l,k,?_,hu,hn,zR _,.inr hr,by omega⟩;apply zh;unfold qB;have hs':P0 vk [.v (.sl (zw l)),.v (.int .u32 10)] []=_:=hs;simp only[y1,zb,zn,z8,gt_iff_lt,hlen',zBx,zBu,hs',zm];simp[hr]
theorem zxv(l:List Nat)(hu:U32 l)(hl:l.length<=100000) :
  ∃ (l':List Nat) (k':Nat),P0 j3 [.v (.sl (zw l))] []=some (.tup [.sl (zw l'),.int .i64 (k':Int)],[])/\U32 l'/\Nrm l'/\l'.length<=l.length/\(l'=[]\/(small 10 l').2≠0)/\k'<=10*l.length:=by
 have hle:=znn l;obtain⟨l',k',h1,h2,h3,h4,h5,h6⟩:=ztn (10*l.length) (norm l) 0 (zhJ hu) (zdc l) (by omega) (by rw[zdT];exact zr8 l hu) (by omega);refine⟨l',k',?_,h2,h3,by omega,h5,by omega⟩;rw[zjx];unfold zcA;simp only[zsI l (by omega),zn];rw[show((0:Nat):Int)=0 from rfl]at h1;rw[h1];rfl
theorem Nm.zero_ok:Nm.zero.ok := .inl ⟨rfl,rfl,rfl⟩
theorem zgQ:V.agg [.bool false,.sl [],.int .i64 0]=Nm.zero.val:=rfl
theorem zcQ(neg:Bool)(m:List Nat)(e:Int)(hu:U32 m)(hm:m.length<=90)(he : -1000000<=e/\e<=1000000) :
  ∃ (n:Nm) (b:Bool),P0 w8 [.v (.bool neg),.v (.sl (zw m)),.v (.int .i64 e)] []=some (.tup [n.val,.bool b],[])/\n.ok:=by
 obtain⟨l,k,h1,h2,h3,h4,h5,h6⟩:=zxv m hu (by omega);rw[zj9];unfold zcd;by_cases h0:l=[]
 ·subst h0;exact⟨Nm.zero,true,by apply yes;simp[h1,<- zgQ],Nm.zero_ok⟩
 ·have hlen:l.length≠0:=by cases l<;>simp_all
  by_cases hin : -1200<=e+k/\e+k<=1200
  ·refine⟨⟨neg,l,e+k⟩,true,?_,.inr ⟨h0,h2,by simp;omega,h3,hin.1,hin.2,?_⟩⟩
   ·have e1 : ¬ ((90:Int)<(l.length:Int))/\(l.length:Int)<=90:=by omega
    have e2 : ¬ (e < -1099511627776) /\ -1099511627776<=e:=by omega
    have e3 : ¬ (1099511627776<e)/\e<=1099511627776:=by omega
    have e4 : ¬ (1099511627776<(k:Int))/\(k:Int)<=1099511627776:=by omega
    have e5 : ¬ (e+k < -1200) /\ -1200<=e+k:=by omega
    have e6 : ¬ (1200<e+k)/\e+k<=1200:=by omega
    have e7:=w64 (a:=e+k) (by omega);apply yes;simp[h1,h0,e1,e2,e3,e4,e5,e6,e7,Nm.val]
   ·rcases h5 with h5 | h5
    ·exact(h0 h5).elim
    ·exact h5
  ·refine⟨Nm.zero,false,?_,Nm.zero_ok⟩;have e1 : ¬ ((90:Int)<(l.length:Int))/\(l.length:Int)<=90:=by omega
   have e2 : ¬ (e < -1099511627776) /\ -1099511627776<=e:=by omega
   have e3 : ¬ (1099511627776<e)/\e<=1099511627776:=by omega
   have e4 : ¬ (1099511627776<(k:Int))/\(k:Int)<=1099511627776:=by omega
   have e7:=w64 (a:=e+k) (by omega);by_cases e5:e+k < -1200
   ·apply yes;simp[h1,h0,e1,e2,e3,e4,e5,e7,<- zgQ]
   ·have e6:1200<e+k:=by omega
    apply yes;simp[h1,h0,e1,e2,e3,e4,e5,e6,e7,<- zgQ]
end
section
attribute [local irreducible] P0
theorem Wa(v:Int) : ∃ x:Nat,IntKind.u32.wrap v=(x:Int)/\x<B32:=by
 refine⟨(v%4294967296).toNat,?_,?_⟩
 ·rw[IntKind.wrap_u32];omega
 ·unfold B32;omega
theorem zxF(a:Nat):[V.int .u32 (a:Int)]=zw [a]:=rfl
theorem zsg(a b:Nat):[V.int .u32 (a:Int),V.int .u32 (b:Int)]=zw [a,b]:=rfl
theorem zxQ(a b c:Nat):[V.int .u32 (a:Int),V.int .u32 (b:Int),V.int .u32 (c:Int)]=zw [a,b,c]:=rfl
theorem zyN(v:Int) : ∃ n:Nm,P0 kG [.v (.int .i64 v)] []=some (n.val,[])/\n.ok:=by
 rw[zpM];unfold zg5;have key : ∀ (u:Int),∃ a b:Nat,IntKind.u32.wrap u=(a:Int)/\IntKind.u32.wrap (u.fdiv 4294967296)=(b:Int)/\a<B32/\b<B32:=fun u=>by obtain⟨a,h1,h2⟩:=Wa u;obtain⟨b,h3,h4⟩:=Wa (u.fdiv 4294967296);exact⟨a,b,h1,h3,h2,h4⟩
 have hp:(2:Int)^Nat.min 32 (IntKind.bits .u64)=4294967296:=by decide
 by_cases hv:v<0
 ·obtain⟨a,b,ha,hb,ha2,hb2⟩:=key (IntKind.u64.wrap (0-IntKind.u64.wrap v));obtain⟨n,ok,h1,h2⟩:=zcQ true [a,b] 0 (by intro x hx;simp at hx;rcases hx with rfl | rfl<;>assumption) (by simp) (by decide);refine⟨n,?_,h2⟩;have hv':decide (v<0)=true:=by simp[hv]
  have ha':IntKind.u32.wrap (IntKind.u64.wrap (-IntKind.u64.wrap v))=a:=by simpa using ha
  have hb':IntKind.u32.wrap ((IntKind.u64.wrap (-IntKind.u64.wrap v)).fdiv 4294967296)=b:=by simpa using hb
  apply yes;simp[hv,hv',zy4,ha',hb',hp,zsg,h1]
 ·obtain⟨a,b,ha,hb,ha2,hb2⟩:=key (IntKind.u64.wrap v);obtain⟨n,ok,h1,h2⟩:=zcQ false [a,b] 0 (by intro x hx;simp at hx;rcases hx with rfl | rfl<;>assumption) (by simp) (by decide);refine⟨n,?_,h2⟩;have hv':decide (v<0)=false:=by simp[hv]
  apply yes;simp[hv,hv',zy4,ha,hb,hp,zsg,h1]
theorem zti(v:Int)(hv:0<=v)(hv2:v<1073741824) : ∃ n:Nm,P0 qD [.v (.int .i64 v)] []=some (n.val,[])/\n.ok:=by
 rw[zf1];unfold J6;have e5:v.tmod 5=v%5:=Int.tmod_eq_emod_of_nonneg hv;have q5:v.tdiv 5=v/5:=Int.tdiv_eq_ediv_of_nonneg hv;have q10:v.tdiv 10=v/10:=Int.tdiv_eq_ediv_of_nonneg hv;have q7:v.tdiv 7=v/7:=Int.tdiv_eq_ediv_of_nonneg hv;have q3:v.tdiv 3=v/3:=Int.tdiv_eq_ediv_of_nonneg hv;have w5:=w64 (a:=v/5) (by omega);have w10:=w64 (a:=v/10) (by omega);have w7:=w64 (a:=v/7) (by omega);have w3:=w64 (a:=v/3) (by omega);by_cases c0:v%5=0
 ·obtain⟨n,h1,h2⟩:=zyN (IntKind.i64.wrap ((v/5).tmod 60-20));exact⟨n,by apply yes;simp[JQ,zjb,e5,q5,w5,c0,h1],h2⟩
 by_cases c1:v%5=1
 ·obtain⟨x,hx1,hx2⟩:=Wa ((v/10).tmod 2000);have t9:(v/7).tmod 9=(v/7)%9:=Int.tmod_eq_emod_of_nonneg (by omega);obtain⟨n,ok,h1,h2⟩:=zcQ (decide ((v/5).tmod 2=1)) [x] ((v/7)%9-5) (by intro y hy;simp at hy;rw[hy];exact hx2) (by simp) (by omega);have w9:=w64 (a:=(v/7)%9-5) (by omega);refine⟨n,?_,h2⟩;apply yes;simp[JQ,zjb,e5,q5,q10,q7,w5,w10,w7,c0,c1,hx1,t9,w9,zxF,h1]
 by_cases c2:v%5=2
 ·obtain⟨x,hx1,hx2⟩:=Wa v;obtain⟨y,hy1,hy2⟩:=Wa (v/3);obtain⟨z,hz1,hz2⟩:=Wa (v.tmod 7);obtain⟨n,ok,h1,h2⟩:=zcQ false [x,y,z] 0 (by intro w hw;simp at hw;rcases hw with rfl | rfl | rfl<;>assumption) (by simp) (by decide);refine⟨n,?_,h2⟩;apply yes;simp[JQ,zjb,e5,q3,w3,c0,c1,c2,hx1,hy1,hz1,zxQ,h1]
 by_cases c3:v%5=3
 ·obtain⟨x,hx1,hx2⟩:=Wa v;have t30:(v/5).tmod 30=(v/5)%30:=Int.tmod_eq_emod_of_nonneg (by omega);obtain⟨n,ok,h1,h2⟩:=zcQ (decide (v.tmod 2=1)) [5,x] (-((v/5)%30)) (by intro y hy;simp at hy;rcases hy with rfl | rfl<;>first | decide | exact hx2) (by simp) (by omega);have w9:=w64 (a := -((v/5)%30)) (by omega);have l2:[V.int .u32 5,V.int .u32 (x:Int)]=zw [5,x]:=rfl;refine⟨n,?_,h2⟩;apply yes;simp[JQ,zjb,e5,q5,w5,c0,c1,c2,c3,hx1,t30,w9,l2,h1]
 ·obtain⟨n,h1,h2⟩:=zyN v;exact⟨n,by apply yes;simp[JQ,e5,c0,c1,c2,c3,h1],h2⟩
instance:DecidableEq Nm:=fun a b=>by
 cases a;cases b;simp only[Nm.mk.injEq]
 infer_instance
theorem zwp{n:Nm}(h:n.ok):U32 n.m/\Nrm n.m/\n.m.length<=90:=by
 rcases h with⟨h1,_⟩ | ⟨_,h2,h3,h4,_⟩
 ·rw[h1];exact⟨fun x hx=>by simp at hx,by simp[Nrm],by simp⟩
 ·exact⟨h2,h4,h3⟩
end
section
theorem wW(s:Str):zaj (.str s)=some s.length:=rfl
theorem Xn(s:Str)(k:IntKind)(i:Nat)(b:UInt8)(h:s[i]?=some b):ZE (.str s) (.int k (i:Int))=some (.int .u8 (b.toNat:Int)):=by
 have hi:i<s.length:=by
  rcases zBD i s.length with h' | h'
  ·exact h'
  ·rw[zBQ h']at h;cases h
 unfold ZE;simp[zg k i s.length hi,h]
end
section
attribute [local irreducible] P0
end
section
attribute [local irreducible] P0
theorem yQ{i:Nat}(h:i<=1000000000):IntKind.i64.wrap ((i:Int)+1)=((i+1:Nat):Int):=w64 (a:=(i:Int)+1) (by omega)
theorem zrG(l:List Str)(s:Str)(hl:l.length<=1000000)(k:Nat) : ∀ i,i+k=l.length ->
  zr (xR l.length (.sl (strs l)) (.str s)) (vec [.int .i64 (i:Int)])=match pos s (l.drop i)with | some j=>some (1,vec [.int .i64 ((i+j:Nat):Int)]) | none=>some (0,vec []):=by
 induction k with
 | zero=>
  intro i hi;have e:i=l.length:=by omega
  subst e;rw[List.drop_length];apply zh;unfold xR;simp only[y5,zv,zl,Int.lt_irrefl,zBy]
 | succ k ih=>
  intro i hi;have hlt:i<l.length:=by omega
  have c1:(i:Int)<(l.length:Int):=by omega
  have hx:l[i]?=some l[i]:=zL hlt;rw[zO hlt];simp only[pos];by_cases he:l[i]=s
  ·rw[zBu he];apply zh;unfold xR;simp only[y8,zv,zl,c1,zBx,zf,zBv,z7,zd,zg _ i l.length hlt,yx,hx,zC,yo,vm,he,zBL,zBF]
  ·rw[zBt he];have hne:(s==l[i])=false:=by simpa using fun e=>he e.symm
   rw[zp (a':=vec [.int .i64 ((i+1:Nat):Int)])]
   ·rw[ih (i+1) (by omega)];cases pos s (l.drop (i+1))with
    | none=>rfl
    | some j=>simp only[zC];rw[show i+1+j=i+(j+1) by omega]
   ·unfold xR;simp only[y5,zv,zl,c1,zBx,zBv,z7,zd,zg _ i l.length hlt,yx,hx,zC,yo,vm,hne,yX,yQ (i:=i) (by omega)]
theorem zjd(l:List Str)(s:Str)(hl:l.length<=1000000):P0 yT [.v (.sl (strs l)),.v (.str s)] []=some (.int .i64 (match pos s l with | some i=>(i:Int) | none => -1),[]):=by
 rw[V1];unfold ZS;have h:=zrG l s hl l.length 0 (by omega);rw[zU,show((0:Nat):Int)=0 from rfl]at h;simp only[y8,zb,zd,h];cases pos s l with
 | none=>rfl
 | some i=>simp only[zn,zBE];rfl
theorem zlp(k:List Str)(v:List Tree):names (k.zip v)=k.take (min k.length v.length):=by
 induction k generalizing v with
 | nil=>simp[names]
 | cons x r ih=>cases v with
  | nil=>simp[names]
  | cons y s=>have:=ih s;simp only[names]at this ⊢;simp[this,Nat.succ_min_succ]
theorem zk3(k:List Str)(v:List Tree):zx (k.zip v)=v.take (min k.length v.length):=by
 induction k generalizing v with
 | nil=>simp[zx]
 | cons x r ih=>cases v with
  | nil=>simp[zx]
  | cons y s=>have:=ih s;simp only[zx]at this ⊢;simp[this,Nat.succ_min_succ]
theorem zrQ(k k':IntKind)(i n:Nat)(h:i<=n):ztk none (some (.int k (i:Int))) (some (.int k' (i:Int))) n=some (0,i):=by simp[ztk,zdU,h]
theorem zrA(t:Tree):P0 jE [.v t.val] []=some (.tup [.sl (strs (names (al t))),.sl (trs (zx (al t)))],[]):=by
 rw[zo0];unfold zir;by_cases hk:t.kind=7
 ·have hal:al t=t.k.zip t.v:=zBu hk;have hm:zpl (.int .i64 ((t.k.length:Nat):Int)) [.int .i64 ((t.v.length:Nat):Int)]=some (.int .i64 ((min t.k.length t.v.length:Nat):Int)):=by simp only[zpl,zBv];congr 2;split<;>omega
  simp only[y5,za,z5,xE,jK,hk,zBx,zH,qG,xI,zb,zd,zi,hm,z7,yW,zrQ _ _ _ _ (Nat.min_le_left t.k.length t.v.length),zrQ _ _ _ _ (Nat.min_le_right t.k.length t.v.length),zU,Nat.sub_zero,Ye,X6,hal,zlp,zk3]
 ·simp only[y8,za,z5,xE,jK,hk,zBy,zI,zf,zBv,Y0 hk];rfl
theorem zz9{n:Str}{l:AL}:(pos n (names l)).bind (fun i=>(zx l)[i]?)=lk n l:=by
 induction l with
 | nil=>rfl
 | cons p r ih=>
  obtain⟨k,v⟩:=p;show(if k=n then some 0 else(pos n (names r)).map (· + 1)).bind _=if k=n then some v else lk n r
  split
  ·rfl
  ·rw[<- ih];cases pos n (names r)with
   | none=>rfl
   | some i=>simp[zx]
theorem zhD{n:Str}{l:AL}:pos n (names l)=none↔lk n l=none:=by
 induction l with
 | nil=>simp[names,pos,lk]
 | cons p r ih=>
  obtain⟨k,v⟩:=p;show(if k=n then some 0 else(pos n (names r)).map (· + 1))=none↔(if k=n then some v else lk n r)=none;split
  ·simp
  ·rw[<- ih];simp
def zp7(n:Str)(l:AL):V:=match lk n l with
 | some x => .tup [x.val,.bool true]
 | none => .tup [Tree.zero.val,.bool false]
theorem ztd(t:Tree)(n:Str)(hl:(al t).length<=1000000):P0 jd [.v t.val,.v (.str n)] []=some (zp7 n (al t),[]):=by
 rw[zhz];unfold zap;have hlen:(names (al t)).length=(al t).length:=je _;have hlen2:(zx (al t)).length=(al t).length:=v7 _;simp only[y8,za,z5,zrA,zm,zM,zN,zjd _ _ (by omega:(names (al t)).length<=1000000)];unfold zp7;have h:=zz9 (n:=n) (l:=al t);cases hp:pos n (names (al t))with
 | none=>
  rw[hp]at h;simp only[zBX]at h;rw[<- h];have c1 : ¬ (0:Int) <= -1:=by decide
  simp only[y5,qY,c1,zBy];rfl
 | some i=>have hi:=zp5 hp;rw[hp]at h;simp only[zD]at h;have hx:(zx (al t))[i]?=some (zx (al t))[i]:=zL (by omega);rw[hx]at h;rw[<- h];have c1:(0:Int)<=(i:Int):=zY i;simp only[y8,qp,qY,c1,zf,yW,zi,zg _ i (zx (al t)).length (by omega),wC,hx,zC,za]
theorem znm(t:Tree)(n:Str)(hk:t.kind=7)(hkl:t.k.length<=1000000)(hl:(al t).length<=1000000)(k:Nat) : ∀ i,i+k=(al t).length ->
  zr (wm t.val (.str n)) (vec [.int .i64 (i:Int),.int .i64 0,.bool false,.bool false,.sl [],.int .i64 0,.str [],.sl [],.sl []]) =
   match lk n ((al t).drop i)with | some x=>some (1,vec [.bool true,x.val]) | none=>some (0,vec [Tree.zero.val]):=by
 have hal:al t=t.k.zip t.v:=zBu hk;have hll:(al t).length=min t.k.length t.v.length:=by rw[hal,List.length_zip]
 induction k with
 | zero=>
  intro i hi;rw[zQ (by omega)];apply zh;unfold wm;by_cases h1:i<t.k.length
  ·have c1:(i:Int)<(t.k.length:Int):=by omega
   have c2 : ¬ (i:Int)<(t.v.length:Int):=by omega
   simp only[y5,qG,xI,zb,zd,zi,zv,zl,c1,c2,zBx,zBy,zBv];rfl
  ·have c1 : ¬ (i:Int)<(t.k.length:Int):=by omega
   simp only[y5,qG,zb,zd,zv,zl,c1,zBy];rfl
 | succ k ih=>
  intro i hi;have h1:i<t.k.length:=by omega
  have h2:i<t.v.length:=by omega
  have c1:(i:Int)<(t.k.length:Int):=by omega
  have c2:(i:Int)<(t.v.length:Int):=by omega
  have hx:t.k[i]?=some t.k[i]:=zL h1;have hy:t.v[i]?=some t.v[i]:=zL h2;have hi':i<(al t).length:=by omega
  have hz:(al t)[i]=(t.k[i],t.v[i]):=by simp[hal]
  rw[zO hi',hz];simp only[lk];by_cases he:t.k[i]=n
  ·rw[zBu he];have heb:(t.k[i]==n)=true:=by simpa using he
   apply zh;unfold wm;simp only[y8,qp,xE,qG,xI,hk,zb,zd,zi,zv,zl,c1,c2,zf,zq,z7,zg _ i t.k.length h1,yx,hx,zC,yo,vm,heb,yW,zg _ i t.v.length h2,wC,hy,za]
  ·rw[zBt he];have heb:(t.k[i]==n)=false:=by simpa using he
   rw[<- ih (i+1) (by omega)];apply zp;unfold wm;simp only[y1,y5,xE,qG,xI,hk,zb,zd,zi,zl,c1,c2,zBx,zBv,zq,z7,zg _ i t.k.length h1,yx,hx,zC,yo,vm,heb,yX,yQ (i:=i) (by omega)]
theorem zhT(t:Tree)(n:Str)(hkl:t.k.length<=1000000)(hl:(al t).length<=1000000):P0 vD [.v t.val,.v (.str n)] []=some (zp7 n (al t),[]):=by
 rw[zf3];unfold JA zp7;by_cases hk:t.kind=7
 ·have h:=znm t n hk hkl hl (al t).length 0 (by omega);rw[zU,show((0:Nat):Int)=0 from rfl]at h;simp only[wt,za,z5,h];cases lk n (al t)with
  | none=>simp only[zn];rfl
  | some x=>simp only[zn];rfl
 ·rw[Y0 hk];have h:zr (wm t.val (.str n)) (vec [.int .i64 0,.int .i64 0,.bool false,.bool false,.sl [],.int .i64 0,.str [],.sl [],.sl []])=some (0,vec [Tree.zero.val]):=by
   apply zh;unfold wm;by_cases h1:0<t.k.length
   ·have c1:(0:Int)<(t.k.length:Int):=by omega
    by_cases h2:0<t.v.length
    ·have c2:(0:Int)<(t.v.length:Int):=by omega
     simp only[y5,xE,qG,xI,zb,zd,zi,zv,zl,c1,c2,zBx,zBv,zq,hk,zBy];rfl
    ·have c2 : ¬ (0:Int)<(t.v.length:Int):=by omega
     simp only[y5,qG,xI,zb,zd,zi,zv,zl,c1,c2,zBx,zBy,zBv];rfl
   ·have c1 : ¬ (0:Int)<(t.k.length:Int):=by omega
    simp only[y5,qG,zb,zd,zv,zl,c1,zBy];rfl
  simp only[y8,za,z5,h,lk];rfl
end
section
attribute [local irreducible] P0
theorem zzW(a b:Str):(!(Op.bytesLess a b||a==b))=lt b a:=by
 by_cases h:a=b
 ·subst h;rw[lt_irrefl];simp
 ·have hb:(a==b)=false:=by simpa using h
  rw[hb,Bool.or_false];cases h1:Op.bytesLess a b with
  | true=>rw[zdl h1];rfl
  | false=>rw[zdC h h1];rfl
def Jk(n:Str):List Str->Option Nat
 | []=>none
 | x::r=>if lt n x=true then some 0 else(Jk n r).map (· + 1)
theorem zxr{s:Str}{l:List Str}{i:Nat}(h:Jk s l=some i):i<l.length:=by
 induction l generalizing i with
 | nil=>simp[Jk]at h
 | cons x r ih=>
  simp only[Jk]at h;split at h
  ·injection h with h;subst h;simp
  ·rw[zB]at h;obtain⟨j,hj,rfl⟩:=h;have:=ih hj;simp;omega
theorem zy7(a b:Str):P0 vd [.v (.str a),.p 0 0] [(true,1,.str b)]=some (.bool (lt b a),[.str b]):=by rw[zjt];unfold zc9;simp only[y8,zsu,zzW]
theorem zld:Nat.blt vd wX=true:=rfl
theorem zos(l:List Str)(s:Str)(hl:l.length<=1000000)(k:Nat) : ∀ i,i+k=l.length ->
  zr (xp l.length (.sl (strs l)) vd (.str s)) (vec [.int .i64 (i:Int)])=match Jk s (l.drop i)with | some j=>some (1,vec [.int .i64 ((i+j:Nat):Int)]) | none=>some (0,vec []):=by
 induction k with
 | zero=>
  intro i hi;have e:i=l.length:=by omega
  subst e;rw[List.drop_length];apply zh;unfold xp;simp only[y5,zv,zl,Int.lt_irrefl,zBy]
 | succ k ih=>
  intro i hi;have hlt:i<l.length:=by omega
  have c1:(i:Int)<(l.length:Int):=by omega
  have hx:l[i]?=some l[i]:=zL hlt;rw[zO hlt];simp only[Jk];by_cases he:lt s l[i]=true
  ·rw[zBu he];apply zh;unfold xp;simp only[y8,qp,zv,zl,c1,zf,z7,zd,zg _ i l.length hlt,yx,hx,zC,yo,zld,zy7,he,zBF]
  ·rw[zBt he];have he:lt s l[i]=false:=by simpa using he
   rw[zp (a':=vec [.int .i64 ((i+1:Nat):Int)])]
   ·rw[ih (i+1) (by omega)];cases Jk s (l.drop (i+1))with
    | none=>rfl
    | some j=>simp only[zC];rw[show i+1+j=i+(j+1) by omega]
   ·unfold xp;simp only[qp,y5,zv,zl,c1,z7,zd,zg _ i l.length hlt,yx,hx,zC,yo,zld,zy7,he,yX,yQ (i:=i) (by omega)]
theorem zun(l:List Str)(s:Str)(hl:l.length<=1000000):P0 yt [.v (.sl (strs l)),.fn vd [.p 0 0]] [(false,1,.str s)]=some (.int .i64 (match Jk s l with | some i=>(i:Int) | none => -1),[.str s]):=by
 rw[X9];unfold j8;have h:=zos l s hl l.length 0 (by omega);rw[zU,show((0:Nat):Int)=0 from rfl]at h;simp only[y8,zb,zd,h];cases Jk s l with
 | none=>rfl
 | some i=>simp only[zn,zBE];rfl
theorem zsn(l:List Str)(i:Nat)(n:Str)(hi:i<=l.length)(hl:l.length<=1000000):P0 vh [.u,.v (.sl (strs l)),.v (.int .i64 (i:Int)),.v (.sl [.str n])] []=some (.sl (strs (l.take i++n::l.drop i)),[]):=by
 rw[Wh];have hk:zeU 16 (strs l).length [V.str n].length (i:Int)=true:=by simp only[zeU,zd,List.length_singleton,zG,zCb];omega
 have h1:yi 1 [V.str n]=true:=rfl;simp only[XZ,zii,zaG,YK,KO,h1,hk,Bool.and_self,z5,zn,zCa,Ye,K7];simp[strs]
theorem zwt(l:List Tree)(i:Nat)(x:Tree)(hi:i<=l.length)(hl:l.length<=1000000):P0 qN [.u,.v (.sl (trs l)),.v (.int .i64 (i:Int)),.v (.sl [x.val])] []=some (.sl (trs (l.take i++x::l.drop i)),[]):=by
 rw[Jp];have hk:zeU 120 (trs l).length [x.val].length (i:Int)=true:=by simp only[zeU,zi,List.length_singleton,zG,zCb];omega
 have h1:yi 8 [x.val]=true:=by simp[yi,za]
 simp only[XZ,zii,zaG,YK,zhR,h1,hk,Bool.and_self,z5,zn,zCa,X6,VH];simp[trs]
theorem Zi(l:AL):(obj l).val = .agg [.int .i64 7,.bool false,.bool false,.sl [],.int .i64 0,.str [],.sl (strs (names l)),.sl (trs (zx l))]:=by rw[Tree.val_eq];rfl
theorem znJ{α:Type}(l:List α)(z:α):((wG (List.replicate l.length z) 0 (l.take (Nat.min l.length l.length))).drop 0).take l.length=l:=by have:Nat.min l.length l.length=l.length:=Nat.min_self _;rw[this,zV (zR _),zU];simp[wG]
theorem ztV{n:Str}{v:Tree}{l:AL}{i:Nat}(hs:QF l)(h:pos n (names l)=some i):names (vV n v l)=names l/\zx (vV n v l)=(zx l).set i v:=by
 induction l generalizing i with
 | nil=>simp[names,pos]at h
 | cons p r ih=>
  obtain⟨k,w⟩:=p;obtain⟨h1,h2⟩:=VN.1 hs;have h:(if k=n then some 0 else(pos n (names r)).map (· + 1))=some i:=h;simp only[vV];by_cases e:k=n
  ·rw[zBu e]at h ⊢;injection h with h;subst h;exact⟨by rw[e];rfl,rfl⟩
  ·rw[zBt e]at h ⊢;rw[zB]at h;obtain⟨j,hj,rfl⟩:=h;have hm:n∈names r:=by apply Classical.byContradiction;intro hc;rw[zhD.2 (J5.2 hc)]at hj;contradiction
   have:lt n k=false:=zdl (h1 n hm);rw[this];obtain⟨h3,h4⟩:=ih h2 hj;exact⟨by show k::names (vV n v r)=k::names r;rw[h3],by show w::zx (vV n v r)=(w::zx r).set (j+1) v;rw[h4];rfl⟩
theorem zyw{n:Str}{v:Tree}{l:AL}(h:pos n (names l)=none):names (vV n v l)=(names l).take ((Jk n (names l)).getD l.length)++n::(names l).drop ((Jk n (names l)).getD l.length) /\
  zx (vV n v l)=(zx l).take ((Jk n (names l)).getD l.length)++v::(zx l).drop ((Jk n (names l)).getD l.length):=by
 induction l with
 | nil=>exact⟨rfl,rfl⟩
 | cons p r ih=>
  obtain⟨k,w⟩:=p;have h:(if k=n then some 0 else(pos n (names r)).map (· + 1))=none:=h;split at h
  ·contradiction
  ·next e=>
   have h:pos n (names r)=none:=by simpa using h
   obtain⟨h3,h4⟩:=ih h;have e1:names ((k,w)::r)=k::names r:=rfl;have e2:zx ((k,w)::r)=w::zx r:=rfl;simp only[vV,zBt e,e1,e2,Jk];by_cases hlt:lt n k=true
   ·simp only[zBu hlt];exact⟨rfl,rfl⟩
   ·simp only[zBt hlt];have e3:((Jk n (names r)).map (· + 1)).getD (r.length+1)=(Jk n (names r)).getD r.length+1:=by cases Jk n (names r)<;>rfl
    simp only[zBG,e3,List.take_succ_cons,List.drop_succ_cons,List.cons_append];exact⟨by show k::names (vV n v r)=_;rw[h3],by show w::zx (vV n v r)=_;rw[h4]⟩
theorem zw2(t:Tree)(n:Str)(v:Tree)(hs:QF (al t))(hl:(al t).length<=1000000):P0 kP [.v t.val,.v (.str n),.v v.val] []=some ((obj (vV n v (al t))).val,[]):=by
 rw[zol];unfold zh0;have hlen:(names (al t)).length=(al t).length:=je _;have hlen2:(zx (al t)).length=(al t).length:=v7 _;have m1:=zk2 16 (names (al t)).length (by omega) (by omega);have m2:=zk2 120 (zx (al t)).length (by omega) (by omega);have e1:=znJ (strs (names (al t))) (.str []);have e2:=fun z=>znJ (trs (zx (al t))) z
 rw[zd]at e1;simp only[zi]at e2;simp only[y8,za,z5,qi,yo,zrA,zm,zM,zN,zb,zd,zi,m1,m2,VQ,YL,e1,zjd _ _ (by omega:(names (al t)).length<=1000000)];cases hp:pos n (names (al t))with
 | some i=>
  have hi:=zp5 hp;obtain⟨h1,h2⟩:=ztV (v:=v) hs hp;have c1:(0:Int)<=(i:Int):=zY i;have e3 : ∀ z,(((wG (List.replicate (zx (al t)).length z) 0 ((trs (zx (al t))).take (Nat.min (zx (al t)).length (zx (al t)).length))).set (0+i) v.val).drop 0).take (zx (al t)).length=trs ((zx (al t)).set i v):=by
   intro z;have:=e2 z;rw[zU]at this ⊢;have hln:(wG (List.replicate (zx (al t)).length z) 0 ((trs (zx (al t))).take (Nat.min (zx (al t)).length (zx (al t)).length))).length=(zx (al t)).length:=by have h8:Nat.min (zx (al t)).length (zx (al t)).length=(zx (al t)).length:=Nat.min_self _;rw[h8];simp[wG,zi]
   rw[zV (by omega)]at this;rw[this,zV (by rw[List.length_set,zi];omega),zBE,zl1]
  simp only[y8,qp,qY,c1,zf,zg _ i (zx (al t)).length (by omega),za,zd,zi,e1,e3,Zi,h1,h2]
 | none=>
  obtain⟨h1,h2⟩:=zyw (v:=v) hp;have c1 : ¬ (0:Int) <= -1:=by decide
  simp only[y5,qY,c1,zBy,zd,e1,zun _ _ (by omega:(names (al t)).length<=1000000),zM];cases hg:Jk n (names (al t))with
  | some p=>
   have hpl:=zxr hg;have c2 : ¬ ((p:Int)<0):=by omega
   rw[hg]at h1 h2;simp only[Option.getD_some]at h1 h2;simp only[y5,zl,c2,zBy,qi,z5,yo,Nat.beq_refl,zv,zd,zi,e1,e2,zsn _ _ _ (by omega:p<=(names (al t)).length) (by omega),za,zwt _ _ _ (by omega:p<=(zx (al t)).length) (by omega),Qh,vE,Zi,h1,h2]
  | none=>
   have c2:((-1:Int)<0):=by decide
   rw[hg]at h1 h2;simp only[Option.getD_none]at h1 h2;rw[<- hlen]at h1 h2;have i1:=zsn (names (al t)) (names (al t)).length n (zR _) (by omega);have i2:=zwt (zx (al t)) (names (al t)).length v (by omega) (by omega);simp only[y8,qp,zl,c2,zf,qi,yo,Nat.beq_refl,zv,zd,zi,e1,e2,i1,za,i2,Qh,vE,Zi,h1,h2]
end
section
attribute [local irreducible] P0
def Wd(n:Str)(v:Tree)(has:Bool):Bool->AL->Bool×AL
 | d,[]=>(d,[])
 | d,(k,w)::r=>if d=false/\k=n then((Wd n v has true r).1,(n,v)::(Wd n v has true r).2)
  else if d=false/\has=false/\lt n k=true then((Wd n v has true r).1,(n,v)::(k,w)::(Wd n v has true r).2)
  else((Wd n v has d r).1,(k,w)::(Wd n v has d r).2)
theorem zkZ(n:Str)(v:Tree)(has:Bool)(l:AL):Wd n v has true l=(true,l):=by
 induction l with
 | nil=>rfl
 | cons p r ih=>obtain⟨k,w⟩:=p;simp[Wd,ih]
theorem zyc{n:Str}{v:Tree}{l:AL}(hs:QF l):(Wd n v (lk n l).isSome false l).2++(if(Wd n v (lk n l).isSome false l).1=true then[]else[(n,v)])=vV n v l:=by
 cases hh:(lk n l).isSome with
 | true=>
  have hm:n∈names l:=Classical.byContradiction fun hc=>by rw[J5.2 hc]at hh;contradiction
  clear hh;induction l with
  | nil=>simp[names]at hm
  | cons p r ih=>
   obtain⟨k,w⟩:=p;obtain⟨h1,h2⟩:=VN.1 hs;simp only[Wd,vV,zkZ];by_cases e:k=n
   ·simp[e]
   ·have hm2:n∈names r:=by
     rcases List.mem_cons.1 (show n∈k::names r from hm)with h | h
     ·exact(e h.symm).elim
     ·exact h
    have:lt n k=false:=zdl (h1 n hm2);have ih:=ih h2 hm2;simp only[e,this,and_false,zBw,zF,zX,false_and];rw[<- ih];rfl
 | false=>
  have hm:n ∉ names l:=fun hc=>by
   have:lk n l≠none:=fun e=>J5.1 e hc
   cases hx:lk n l with
   | none=>exact this hx
   | some x=>rw[hx]at hh;contradiction
  clear hh;induction l with
  | nil=>simp[Wd,vV]
  | cons p r ih=>
   obtain⟨k,w⟩:=p;obtain⟨h1,h2⟩:=VN.1 hs;have hm : ¬ (n=k\/n∈names r):=fun hc=>hm (List.mem_cons.2 hc)
   have e:k≠n:=fun e=>hm (.inl e.symm)
   simp only[Wd,vV,zkZ,e,and_false,zBw,true_and];by_cases hlt:lt n k=true
   ·simp[hlt]
   ·simp only[hlt,zBw,zF];rw[<- ih h2 (fun hc=>hm (.inr hc))];rfl
theorem zeh(s:Str):yi 1 [V.str s]=true:=rfl
theorem zbF(t:Tree):yi 8 [t.val]=true:=by simp[yi,za]
theorem zeR(l:List Str)(s:Str):strs l++[V.str s]=strs (l++[s]):=by simp[strs]
theorem ziD(l:List Tree)(t:Tree):trs l++[t.val]=trs (l++[t]):=by simp[trs]
theorem zqM(x:V):[x].length=1:=rfl
theorem ztl(t:Tree)(n:Str)(v:Tree)(has:Bool)(hk:t.kind=7)(hkl:t.k.length<=1000000)(hl:(al t).length<=1000000)(k:Nat) : ∀ (i:Nat) (d:Bool) (ks:List Str) (vs:List Tree),i+k=(al t).length->ks.length<=2*i->vs.length<=2*i ->
  zr (vp t.val (.str n) v.val (.bool has)) (vec [.bool d,.int .i64 (i:Int),.int .i64 7,.bool false,.bool false,.sl [],.int .i64 0,.str [],.sl (strs ks),.sl (trs vs)]) =
   some (0,vec [.bool (Wd n v has d ((al t).drop i)).1,.int .i64 7,.bool false,.bool false,.sl [],.int .i64 0,.str [],.sl (strs (ks++names (Wd n v has d ((al t).drop i)).2)),.sl (trs (vs++zx (Wd n v has d ((al t).drop i)).2))]):=by
 have hal:al t=t.k.zip t.v:=zBu hk;have hll:(al t).length=min t.k.length t.v.length:=by rw[hal,List.length_zip]
 induction k with
 | zero=>
  intro i d ks vs hi hks hvs;rw[zQ (by omega)];apply zh;unfold vp;simp only[Wd,names,zx,List.map_nil,List.append_nil];by_cases h1:i<t.k.length
  ·have c1:(i:Int)<(t.k.length:Int):=by omega
   have c2 : ¬ (i:Int)<(t.v.length:Int):=by omega
   simp only[y1,y5,qG,xI,zb,zd,zi,zl,c1,c2,zBx,zBy,zBv,zt]
  ·have c1 : ¬ (i:Int)<(t.k.length:Int):=by omega
   simp only[y1,y5,qG,zb,zd,zl,c1,zBy,zt]
 | succ k ih=>
  intro i d ks vs hi hks hvs;have h1:i<t.k.length:=by omega
  have h2:i<t.v.length:=by omega
  have c1:(i:Int)<(t.k.length:Int):=by omega
  have c2:(i:Int)<(t.v.length:Int):=by omega
  have hx:t.k[i]?=some t.k[i]:=zL h1;have hy:t.v[i]?=some t.v[i]:=zL h2;have hi':i<(al t).length:=by omega
  have hz:(al t)[i]=(t.k[i],t.v[i]):=by simp[hal]
  rw[zO hi',hz];generalize hkk:t.k[i]=kk at *;generalize hww:t.v[i]=ww at *;have a1:=fun m=>xX 16 ks.length m
  have a2:=fun m=>xX 120 vs.length m
  have w:=yQ (i:=i) (by omega);simp only[Wd];by_cases q1:d=false/\kk=n
  ·rw[zBu q1];obtain⟨rfl,rfl⟩:=q1;have:=ih (i+1) true (ks++[kk]) (vs++[v]) (by omega) (by simp;omega) (by simp;omega);simp only[names,zx,List.map_cons,zBN,List.singleton_append]at this ⊢;rw[<- this];apply zp;unfold vp;simp only[y8,y1,qp,xE,qG,xI,hk,zb,zd,zi,zl,c1,c2,zf,zq,yu,zI,z7,zg _ i t.k.length h1,yx,hx,zC,yo,vm,zBL,qi,zeh,zt,zqM,xX 16 ks.length 1 (by omega) (by omega),za,zbF,xX 120 vs.length 1 (by omega) (by omega),yX,w,zeR,ziD]
  ·rw[zBt q1];have hb:(if d=false then(kk==n)else false)=false:=by
    cases d with
    | true=>rfl
    | false=>simpa using fun e=>q1 ⟨rfl,e⟩
   have e27:((if(!d)=true then(zc .eql (.str kk) (.str n)).bind fun x25=>some x25 else some (.bool false):Option V))=some (.bool false):=by
    cases d with
    | true=>rfl
    | false=>
     have:(kk==n)=false:=by simpa using fun e=>q1 ⟨rfl,e⟩
     simp only[y8,zI,zBv,vm,this]
   by_cases q2:d=false/\has=false/\lt n kk=true
   ·rw[zBu q2];obtain⟨rfl,rfl,hlt⟩:=q2;have hne:(kk==n)=false:=by simpa using fun e=>q1 ⟨rfl,e⟩
    have hlt2:Op.bytesLess kk n=false:=zdl hlt;have:=ih (i+1) true (ks++[n]++[kk]) (vs++[v]++[ww]) (by omega) (by simp;omega) (by simp;omega);simp only[names,zx,List.map_cons,zBN,List.cons_append,List.nil_append]at this ⊢;rw[<- this];apply zp;unfold vp;simp only[y1,qp,y5,xE,qG,xI,hk,zb,zd,zi,zl,c1,c2,zq,yu,zI,z7,yW,zg _ i t.k.length h1,zg _ i t.v.length h2,yx,wC,hx,hy,zC,yo,vm,hne,zsu,hlt2,Bool.or_false,zI,qi,zeh,zt,zqM,xX 16 ks.length 1 (by omega) (by omega),za,zbF,xX 120 vs.length 1 (by omega) (by omega),yX,w,zeR,ziD,zd,zi,zZ,List.length_singleton,xX 16 (ks.length+1) 1 (by omega) (by omega),xX 120 (vs.length+1) 1 (by omega) (by omega),zBN,List.cons_append,List.nil_append]
   ·rw[zBt q2];have:=ih (i+1) d (ks++[kk]) (vs++[ww]) (by omega) (by simp;omega) (by simp;omega);simp only[names,zx,List.map_cons,zBN,List.singleton_append]at this ⊢;rw[<- this];apply zp;unfold vp;cases d with
    | true=>simp only[y1,qp,y5,xE,qG,xI,hk,zb,zd,zi,zl,c1,c2,zq,yu,zH,z7,yW,zg _ i t.k.length h1,zg _ i t.v.length h2,yx,wC,hx,hy,zC,yo,qi,zeh,zt,zqM,xX 16 ks.length 1 (by omega) (by omega),za,zbF,xX 120 vs.length 1 (by omega) (by omega),yX,w,zeR,ziD]
    | false=>
     have hne:(kk==n)=false:=by simpa using fun e=>q1 ⟨rfl,e⟩
     cases has with
     | true=>simp only[y1,qp,y5,xE,qG,xI,hk,zb,zd,zi,zl,c1,c2,zq,yu,zH,zI,z7,yW,zg _ i t.k.length h1,zg _ i t.v.length h2,yx,wC,hx,hy,zC,yo,vm,hne,qi,zeh,zt,zqM,xX 16 ks.length 1 (by omega) (by omega),za,zbF,xX 120 vs.length 1 (by omega) (by omega),yX,w,zeR,ziD]
     | false=>
      have hlt:lt n kk=false:=by
       cases hc:lt n kk with
       | false=>rfl
       | true=>exact(q2 ⟨rfl,rfl,hc⟩).elim
      have hlt2:Op.bytesLess kk n=true:=zdC (fun e=>q1 ⟨rfl,e.symm⟩) hlt;simp only[y1,qp,y5,xE,qG,xI,hk,zb,zd,zi,zl,c1,c2,zq,yu,zH,zI,z7,yW,zg _ i t.k.length h1,zg _ i t.v.length h2,yx,wC,hx,hy,zC,yo,vm,hne,zsu,hlt2,Bool.true_or,qi,zeh,zt,zqM,xX 16 ks.length 1 (by omega) (by omega),za,zbF,xX 120 vs.length 1 (by omega) (by omega),yX,w,zeR,ziD]
theorem zya(t:Tree)(n:Str)(v:Tree)(hs:QF (al t))(hkl:t.k.length<=1000000)(hl:(al t).length<=1000000):P0 kR [.v t.val,.v (.str n),.v v.val] []=some ((obj (vV n v (al t))).val,[]):=by
 rw[zlR];unfold zfq;have hloop:zr (vp t.val (.str n) v.val (.bool (lk n (al t)).isSome)) (vec [.bool false,.int .i64 0,.int .i64 7,.bool false,.bool false,.sl [],.int .i64 0,.str [],.sl [],.sl []]) =
   some (0,vec [.bool (Wd n v (lk n (al t)).isSome false (al t)).1,.int .i64 7,.bool false,.bool false,.sl [],.int .i64 0,.str [],.sl (strs (names (Wd n v (lk n (al t)).isSome false (al t)).2)),.sl (trs (zx (Wd n v (lk n (al t)).isSome false (al t)).2))]):=by
  by_cases hk:t.kind=7
  ·have h:=ztl t n v (lk n (al t)).isSome hk hkl hl (al t).length 0 false [] [] (by omega) (by simp) (by simp);rw[zU,show((0:Nat):Int)=0 from rfl]at h;simp only[List.nil_append]at h;exact h
  ·rw[Y0 hk];apply zh;unfold vp;by_cases h1:0<t.k.length
   ·have c1:(0:Int)<(t.k.length:Int):=by omega
    by_cases h2:0<t.v.length
    ·have c2:(0:Int)<(t.v.length:Int):=by omega
     simp only[y1,y5,xE,qG,xI,zb,zd,zi,zl,c1,c2,zBx,zBv,zq,hk,zBy,zt];rfl
    ·have c2 : ¬ (0:Int)<(t.v.length:Int):=by omega
     simp only[y1,y5,qG,xI,zb,zd,zi,zl,c1,c2,zBx,zBy,zBv,zt];rfl
   ·have c1 : ¬ (0:Int)<(t.k.length:Int):=by omega
    simp only[y1,y5,qG,zb,zd,zl,c1,zBy,zt];rfl
 have hm : ∃ x:Tree,zp7 n (al t) = .tup [x.val,.bool (lk n (al t)).isSome]:=by
  unfold zp7;cases lk n (al t)with
  | none=>exact⟨_,rfl⟩
  | some x=>exact⟨x,rfl⟩
 obtain⟨x,hm⟩:=hm;have he:=zyc (v:=v) hs (n:=n);generalize hg:Wd n v (lk n (al t)).isSome false (al t)=g at *;obtain⟨d,out⟩:=g;have hlo:out.length<=2000000:=by
  have:out.length<=(vV n v (al t)).length:=by rw[<- he];simp
  have:=zsy n v (al t);omega
 have n1:(names out).length=out.length:=je _;have n2:(zx out).length=out.length:=v7 _;simp only[y8,za,z5,zhT t n hkl hl,hm,zm,zM,zN,hloop,zv,yu,zf];cases d with
 | true=>simp only[zBv,List.append_nil]at he;simp only[y1,wt,zH,zF,zBw,zt,Zi,<- he]
 | false=>
  have he:out++[(n,v)]=vV n v (al t):=he;have e1:names (vV n v (al t))=names out++[n]:=by rw[<- he];simp[names]
  have e2:zx (vV n v (al t))=zx out++[v]:=by rw[<- he];simp[zx]
  simp only[y8,y1,zI,zBv,qi,z5,yo,zeh,zt,zd,zi,zqM,xX 16 (names out).length 1 (by omega) (by omega),za,zbF,xX 120 (zx out).length 1 (by omega) (by omega),zeR,ziD,Zi,e1,e2]
theorem zuQ(n:Nat)(h:n<=100000000):P0 qe [.g,.v (.sl []),.v (.int .i64 (n:Int))] []=some (.sl [],[]):=by
 rw[VP];have hk:zbq 16 (n:Int)=true:=by simp only[zbq,zG,zCb,zCa];omega
 simp only[XZ,zii,zaG,Ko,hk,z5,zn]
theorem zsi(n:Nat)(h:n<=100000000):P0 j2 [.g,.v (.sl []),.v (.int .i64 (n:Int))] []=some (.sl [],[]):=by
 rw[zah];have hk:zbq 120 (n:Int)=true:=by simp only[zbq,zG,zCb,zCa];omega
 simp only[XZ,zii,zaG,Ko,hk,z5,zn]
theorem zvS(a b:List V):yi 1 [V.sl a,V.sl b]=true:=rfl
theorem YE(a b:List V):yN 1 (.sl [V.sl a,V.sl b])=some [.sl a,.sl b]:=by unfold yN;simp only[zvS]
theorem zme:slV (.sl [])=some []:=rfl
theorem zqB(a b:List Str)(ha:a.length<=1000000)(hb:b.length<=1000000):P0 xx [.v (.sl [.sl (strs a),.sl (strs b)])] []=some (.sl (strs (a++b)),[]):=by
 rw[VE];unfold Zl;have w1:IntKind.i64.wrap (0+(a.length:Int))=(a.length:Int):=w64 (a:=0+(a.length:Int)) (by omega) |>.trans (by omega);have w2:IntKind.i64.wrap ((a.length:Int)+(b.length:Int))=((a.length+b.length:Nat):Int):=w64 (a:=(a.length:Int)+(b.length:Int)) (by omega) |>.trans (by omega);have w3:IntKind.i64.wrap (0+1)=1:=by decide
 have w4:IntKind.i64.wrap (1+1)=2:=by decide
 have c0 : ¬ (a.length:Int)<0:=by omega
 have c1 : ¬ ((a.length+b.length:Nat):Int)<0:=by omega
 have d0:(0:Int)<((2:Nat):Int):=by decide
 have d1:(1:Int)<((2:Nat):Int):=by decide
 have d2 : ¬ (2:Int)<((2:Nat):Int):=by decide
 have i0:=zfO .i64 2 (by decide);have i1:y3 (.int .i64 1) 2=some 1:=zg .i64 1 2 (by decide);have l1:zr (xJ 2 (.sl [.sl (strs a),.sl (strs b)])) (vec [.int .i64 0,.int .i64 0])=some (0,vec [.int .i64 ((a.length+b.length:Nat):Int)]):=by
  rw[zp (a':=vec [.int .i64 (a.length:Int),.int .i64 1])]
  ·rw[zp (a':=vec [.int .i64 ((a.length+b.length:Nat):Int),.int .i64 2])]
   ·apply zh;unfold xJ;simp only[y1,y5,zl,d2,zBy]
   ·unfold xJ;simp only[y1,y5,zl,d1,zBx,zBv,YE,zBG,zBH,zBE,Nat.reduceAdd,i1,zN,zM,vE,zb,zd,yX,w2,c1,zBy,w4]
  ·unfold xJ;simp only[y1,y5,zl,d0,zBx,zBv,YE,zBG,zBH,zBE,Nat.reduceAdd,i0,zM,vE,zb,zd,yX,w1,c0,zBy,w3]
 have l2:zr (xG 2 (.sl [.sl (strs a),.sl (strs b)])) (vec [.sl [],.int .i64 0])=some (0,vec [.sl (strs (a++b))]):=by
  rw[zp (a':=vec [.sl (strs a),.int .i64 1])]
  ·rw[zp (a':=vec [.sl (strs (a++b)),.int .i64 2])]
   ·apply zh;unfold xG;simp only[y1,y5,zl,d2,zBy,zt]
   ·unfold xG;simp only[y8,y1,qp,zl,d1,zf,YE,zBG,zBH,zBE,Nat.reduceAdd,i1,zN,zM,vE,VQ,zt,zd,xX 16 a.length b.length (by omega) (by omega),yX,w4,Ju]
  ·unfold xG;simp only[y8,y1,qp,zl,d0,zf,YE,zBG,zBH,zBE,Nat.reduceAdd,i0,zM,vE,VQ,zt,zd,xX 16 0 a.length (by omega) (by omega),yX,w3,List.nil_append]
 simp only[y8,zb,zBG,zBH,zBE,Nat.reduceAdd,l1,zBv,zv,zuQ _ (by omega:a.length+b.length<=100000000),zme,l2,zt]
theorem zkF(a b:List Tree)(ha:a.length<=1000000)(hb:b.length<=1000000):P0 y9 [.v (.sl [.sl (trs a),.sl (trs b)])] []=some (.sl (trs (a++b)),[]):=by
 rw[YZ];unfold kN;have w1:IntKind.i64.wrap (0+(a.length:Int))=(a.length:Int):=w64 (a:=0+(a.length:Int)) (by omega) |>.trans (by omega);have w2:IntKind.i64.wrap ((a.length:Int)+(b.length:Int))=((a.length+b.length:Nat):Int):=w64 (a:=(a.length:Int)+(b.length:Int)) (by omega) |>.trans (by omega);have w3:IntKind.i64.wrap (0+1)=1:=by decide
 have w4:IntKind.i64.wrap (1+1)=2:=by decide
 have c0 : ¬ (a.length:Int)<0:=by omega
 have c1 : ¬ ((a.length+b.length:Nat):Int)<0:=by omega
 have d0:(0:Int)<((2:Nat):Int):=by decide
 have d1:(1:Int)<((2:Nat):Int):=by decide
 have d2 : ¬ (2:Int)<((2:Nat):Int):=by decide
 have i0:=zfO .i64 2 (by decide);have i1:y3 (.int .i64 1) 2=some 1:=zg .i64 1 2 (by decide);have l1:zr (yA 2 (.sl [.sl (trs a),.sl (trs b)])) (vec [.int .i64 0,.int .i64 0])=some (0,vec [.int .i64 ((a.length+b.length:Nat):Int)]):=by
  rw[zp (a':=vec [.int .i64 (a.length:Int),.int .i64 1])]
  ·rw[zp (a':=vec [.int .i64 ((a.length+b.length:Nat):Int),.int .i64 2])]
   ·apply zh;unfold yA;simp only[y1,y5,zl,d2,zBy]
   ·unfold yA;simp only[y1,y5,zl,d1,zBx,zBv,YE,zBG,zBH,zBE,Nat.reduceAdd,i1,zN,zM,vE,zb,zi,yX,w2,c1,zBy,w4]
  ·unfold yA;simp only[y1,y5,zl,d0,zBx,zBv,YE,zBG,zBH,zBE,Nat.reduceAdd,i0,zM,vE,zb,zi,yX,w1,c0,zBy,w3]
 have l2:zr (yz 2 (.sl [.sl (trs a),.sl (trs b)])) (vec [.sl [],.int .i64 0])=some (0,vec [.sl (trs (a++b))]):=by
  rw[zp (a':=vec [.sl (trs a),.int .i64 1])]
  ·rw[zp (a':=vec [.sl (trs (a++b)),.int .i64 2])]
   ·apply zh;unfold yz;simp only[y1,y5,zl,d2,zBy,zt]
   ·unfold yz;simp only[y8,y1,qp,zl,d1,zf,YE,zBG,zBH,zBE,Nat.reduceAdd,i1,zN,zM,vE,YL,zt,zi,xX 120 a.length b.length (by omega) (by omega),yX,w4,zgo]
  ·unfold yz;simp only[y8,y1,qp,zl,d0,zf,YE,zBG,zBH,zBE,Nat.reduceAdd,i0,zM,vE,YL,zt,zi,xX 120 0 a.length (by omega) (by omega),yX,w3,List.nil_append]
 simp only[y8,zb,zBG,zBH,zBE,Nat.reduceAdd,l1,zBv,zv,zsi _ (by omega:a.length+b.length<=100000000),zme,l2,zt]
theorem zyl{n:Str}{l:AL}{i:Nat}(h:pos n (names l)=some i):names (Vl n l)=(names l).take i++(names l).drop (i+1)/\zx (Vl n l)=(zx l).take i++(zx l).drop (i+1):=by
 induction l generalizing i with
 | nil=>simp[names,pos]at h
 | cons p r ih=>
  obtain⟨k,w⟩:=p;have h:(if k=n then some 0 else(pos n (names r)).map (· + 1))=some i:=h;simp only[Vl];by_cases e:k=n
  ·rw[zBu e]at h ⊢;injection h with h;subst h;exact⟨rfl,rfl⟩
  ·rw[zBt e]at h ⊢;rw[zB]at h;obtain⟨j,hj,rfl⟩:=h;obtain⟨h3,h4⟩:=ih hj;exact⟨by show k::names (Vl n r)=k::_;rw[h3];rfl,by show w::zx (Vl n r)=w::_;rw[h4];rfl⟩
theorem zw0(t:Tree)(n:Str)(hl:(al t).length<=1000000):P0 j4 [.v t.val,.v (.str n)] []=some ((match lk n (al t)with | some _=>(obj (Vl n (al t))).val | none=>t.val),[]):=by
 rw[zju];unfold zcB;have hlen:(names (al t)).length=(al t).length:=je _;have hlen2:(zx (al t)).length=(al t).length:=v7 _;simp only[y8,za,z5,zrA,zm,zM,zN,zjd _ _ (by omega:(names (al t)).length<=1000000)];cases hp:pos n (names (al t))with
 | none=>
  rw[zhD.1 hp];have c1:(-1:Int)<0:=by decide
  simp only[y8,qp,zl,c1,zf,za]
 | some i=>
  have hi:=zp5 hp;have hne:lk n (al t)≠none:=fun e=>by rw[zhD.2 e]at hp;contradiction
  obtain⟨x,hx⟩ : ∃ x,lk n (al t)=some x:=by
   cases h:lk n (al t)with
   | none=>exact(hne h).elim
   | some x=>exact⟨x,rfl⟩
  obtain⟨h1,h2⟩:=zyl hp;have c1 : ¬ (i:Int)<0:=by omega
  have w:=yQ (i:=i) (by omega);have b1:=zbE .i64 (i:Int) (names (al t)).length ⟨zY i,by omega⟩;have b2:=XQ .i64 ((i+1:Nat):Int) (names (al t)).length ⟨zY _,by omega⟩;have b3:=zbE .i64 (i:Int) (zx (al t)).length ⟨zY i,by omega⟩;have b4:=XQ .i64 ((i+1:Nat):Int) (zx (al t)).length ⟨zY _,by omega⟩;simp only[zCa]at b1 b2 b3 b4;have k1:((names (al t)).drop (i+1)).take ((names (al t)).length-(i+1))=(names (al t)).drop (i+1):=zV (by simp);have k2:((zx (al t)).drop (i+1)).take ((zx (al t)).length-(i+1))=(zx (al t)).drop (i+1):=zV (by simp);have cc1:=zqB ((names (al t)).take i) ((names (al t)).drop (i+1)) (by simp;omega) (by simp;omega);have cc2:=zkF ((zx (al t)).take i) ((zx (al t)).drop (i+1)) (by simp;omega) (by simp;omega);simp only[y5,zl,c1,zBy,z7,yW,zd,zi,b1,b2,b3,b4,yX,w,zU,Nat.sub_zero,K7,Ye,VH,X6,k1,k2,cc1,cc2,Qh,z5,vE,hx,Zi,h1,h2]
end
section
attribute [local irreducible] P0
theorem ye:null.val = .agg [.int .i64 1,.bool false,.bool false,.sl [],.int .i64 0,.str [],.sl [],.sl []]:=by rw[Tree.val_eq];rfl
theorem OkT.al_srt{t:Tree}(h:OkT t):QF (al t):=by have:=h.srt;cases this with | mk _ h _=>exact h
end
section
attribute [local irreducible] P0
theorem ztT(f:Nat)(hf:Nat.blt f wX=true)(g:Tree->Bool)(l:List Tree)(hg : ∀ x,x∈l->P0 f [.v x.val] []=some (.bool (g x),[]))(hl:l.length<=1000000)(k:Nat) : ∀ i,i+k=l.length ->
  ∃ j v,zr (xS l.length (.sl (trs l)) f) (vec [.int .i64 (i:Int)])=some (j,v)/\((l.drop i).any g=true->j=1 /\ ∃ m:Nat,v=vec [.int .i64 (m:Int)])/\((l.drop i).any g=false->j=0):=by
 induction k with
 | zero=>
  intro i hi;refine⟨0,vec [],zh ?_,?_,fun _=>rfl⟩
  ·unfold xS;have e:i=l.length:=by omega
   subst e;simp only[y5,zv,zl,Int.lt_irrefl,zBy]
  ·rw[zQ (by omega)];intro h;rw[List.any_nil]at h;contradiction
 | succ k ih=>
  intro i hi;have hlt:i<l.length:=by omega
  have c1:(i:Int)<(l.length:Int):=by omega
  have hx:l[i]?=some l[i]:=zL hlt;have hgx:=hg l[i] (zCg _);rw[zO hlt];cases hb:g l[i]with
  | true=>refine⟨1,vec [.int .i64 (i:Int)],zh ?_,fun _=>⟨rfl,i,rfl⟩,fun h=>by simp only[List.any_cons,hb,Bool.true_or]at h;contradiction⟩;unfold xS;rw[hb]at hgx;simp only[y8,qp,zv,zl,c1,zf,yW,zi,zg _ i l.length hlt,wC,hx,zC,hf,hgx]
  | false=>obtain⟨j,v,h1,h2,h3⟩:=ih (i+1) (by omega);refine⟨j,v,?_,fun h=>h2 (by simpa only[List.any_cons,hb,Bool.false_or]using h),fun h=>h3 (by simpa only[List.any_cons,hb,Bool.false_or]using h)⟩;rw[<- h1];apply zp;unfold xS;rw[hb]at hgx;simp only[qp,y5,zv,zl,c1,yW,zi,zg _ i l.length hlt,wC,hx,zC,hf,hgx,yX,yQ (i:=i) (by omega)]
theorem zwU(f:Nat)(hf:Nat.blt f wX=true)(g:Tree->Bool)(l:List Tree)(hg : ∀ x,x∈l->P0 f [.v x.val] []=some (.bool (g x),[]))(hl:l.length<=1000000):P0 xi [.v (.sl (trs l)),.fn f []] []=some (.bool (l.any g),[]):=by
 obtain⟨j,v,h1,h2,h3⟩:=ztT f hf g l hg hl l.length 0 (by omega);rw[zU]at h2 h3;rw[show((0:Nat):Int)=0 from rfl]at h1;rw[Wj];unfold ko;rw[QV];unfold ZF;simp only[y8,zb,zi,h1];cases hb:l.any g with
 | true=>obtain⟨rfl,m,rfl⟩:=h2 hb;have c:(0:Int)<=(m:Int):=zY m;simp only[y8,zBM,zBw,zv,qY,c,zBx]
 | false=>
  have:=h3 hb;subst this;have c : ¬ (0:Int) <= -1:=by decide
  simp only[y8,zBv,qY,c,zBy]
theorem OkT.kind{t:Tree}(h:OkT t):t.kind=1\/t.kind=2\/t.kind=3\/t.kind=4\/t.kind=5\/t.kind=6\/t.kind=7:=by cases h<;>simp[Tree.kind,Ev.null,Ev.obj]
theorem zlP(t:Tree):Wi t.val 2 3=t.n.val:=by rw[t.val_eq];rfl
theorem OkT.num_ok{t:Tree}(h:OkT t):t.n.ok:=by cases h<;>first | exact Nm.zero_ok | assumption
theorem OkT.shape{t:Tree}(h:OkT t) :
  (t.kind=1->t=Ev.null)/\(t.kind=2->t = .mk 2 t.b .zero [] [] [])/\(t.kind=3->t = .mk 3 false t.n [] [] [])/\(t.kind=4->t = .mk 4 false .zero t.s [] [])/\(t.kind=5->t = .mk 5 false .zero t.s [] []) /\
  (t.kind=6->t = .mk 6 false .zero [] [] t.v)/\(t.kind=7->t = .mk 7 false .zero [] t.k t.v):=by
 cases h<;>simp[Tree.kind,Ev.null,Ev.obj,Tree.b,Tree.n,Tree.s,Tree.v,Tree.k]
theorem OkT.lens{t:Tree}(h:OkT t):t.k.length<=300/\t.v.length<=300/\(t.kind≠7->t.k=[])/\(t.kind≠6->t.kind≠7->t.v=[])/\(t.kind=7->t.k.length=t.v.length):=by
 cases h with
 | arr v hl hv=>exact⟨by simp[Tree.k],hl,fun _=>rfl,fun h=>absurd rfl h,fun h=>by simp[Tree.kind]at h⟩
 | obj l hs hl hn hv=>exact⟨by show(names l).length<=300;rw[je];exact hl,by show(zx l).length<=300;rw[v7];exact hl,fun h=>absurd rfl h,fun _ h=>absurd rfl h,fun _=>by show(names l).length=(zx l).length;rw[je,v7]⟩
 | _=>refine⟨by simp[Tree.k,Ev.null],by simp[Tree.v,Ev.null],fun _=>rfl,fun _ _=>rfl,fun h=>by simp[Tree.kind,Ev.null]at h⟩
theorem OkT.sub{t:Tree}(h:OkT t) : ∀ x,x∈t.v->OkT x:=by
 cases h with
 | arr v hl hv=>exact hv
 | obj l hs hl hn hv=>intro x hx;obtain⟨q,hq,rfl⟩:=List.mem_map.1 (show x∈zx l from hx);exact hv q hq
 | _=>intro x hx;simp[Tree.v,Ev.null]at hx
theorem Tree.ind{Q:Tree->Prop}(h : ∀ t,(∀ x,x∈t.v->Q x)->Q t)(t:Tree):Q t:=by
 have key : ∀ n,∀ t,xT t<=n->Q t:=by
  intro n;induction n with
  | zero=>intro t ht;rw[wV]at ht;omega
  | succ n ih=>
   intro t ht;refine h t (fun x hx=>ih x ?_);have:xT x<=nodesL t.v:=by
    have : ∀ l:List Tree,x∈l->xT x<=nodesL l:=by
     intro l;induction l with
     | nil=>intro h;simp at h
     | cons y r ih2=>
      intro h;simp only[nodesL];rcases List.mem_cons.1 h with rfl | h
      ·omega
      ·have:=ih2 h;omega
    exact this _ hx
   rw[wV]at ht;omega
 exact key _ t (zR _)
end
section
attribute [local irreducible] P0
theorem zzX{l:List Str}(h:Srt l) : ∀ i j (hj:j<l.length) (hi:i<j),lt (l[i]'(by omega)) l[j]=true:=by
 induction l with
 | nil=>intro i j hj;simp at hj
 | cons x r ih=>
  intro i j hj hi;cases j with
  | zero=>omega
  | succ j=>
   cases i with
   | zero=>exact h.1 _ (zCg (by simpa using hj))
   | succ i=>exact ih h.2 i j (by simpa using hj) (by omega)
end
section
attribute [local irreducible] P0
theorem zsY(a b:Nat)(hb:0<b)(ha:a<=1000000000000):zc .quo (.int .i64 (a:Int)) (.int .i64 (b:Int))=some (.int .i64 ((a/b:Nat):Int)):=by
 have h0:(b:Int)≠0:=by omega
 have h1:a/b<=a:=Nat.div_le_self a b;rw[zjb _ _ _ h0,Int.tdiv_eq_ediv_of_nonneg (zY _),show((a:Int)/(b:Int))=((a/b:Nat):Int)from(Int.natCast_ediv a b).symm,w64 (a:=((a/b:Nat):Int)) (by generalize a/b=q at h1;omega)]
theorem zf9(a b:Nat)(hb:0<b):zc .rem (.int .i64 (a:Int)) (.int .i64 (b:Int))=some (.int .i64 ((a%b:Nat):Int)):=by
 have h0:(b:Int)≠0:=by omega
 rw[JQ _ _ _ h0,Int.tmod_eq_emod_of_nonneg (zY _),show((a:Int)%(b:Int))=((a%b:Nat):Int)from(Int.natCast_emod a b).symm]
theorem zrK(a:Int)(n:Nat)(hn:0<n)(hn2:n<=2000000000) : ∃ r:Nat,P0 xF [.v (.int .i64 a),.v (.int .i64 (n:Int))] []=some (.int .i64 (r:Int),[])/\r<n/\(0<=a->(r:Int)=a%(n:Int)):=by
 rw[ziN];unfold zay;have h0:(n:Int)≠0:=by omega
 have hp:(0:Int)<(n:Int):=by omega
 by_cases ha:0<=a
 ·have e:=Int.tmod_eq_emod_of_nonneg (b:=(n:Int)) ha;have b1:=Int.emod_nonneg a h0;have b2:=Int.emod_lt_of_pos a hp;have c : ¬ (a%(n:Int)<0):=by omega
  refine⟨(a%(n:Int)).toNat,?_,by omega,fun _=>by omega⟩;simp only[y5,JQ _ _ _ h0,zl,e,c,zBy];rw[show(((a%(n:Int)).toNat:Nat):Int)=a%(n:Int) by omega]
 ·have e:a.tmod (n:Int) = -((-a)%(n:Int)):=by rw[<- Int.tmod_eq_emod_of_nonneg (a := -a) (b:=(n:Int)) (by omega),Int.neg_tmod];omega
  have b1:=Int.emod_nonneg (-a) h0;have b2:=Int.emod_lt_of_pos (-a) hp;by_cases hz:(-a)%(n:Int)=0
  ·refine⟨0,?_,hn,fun h=>absurd h ha⟩;simp only[y5,JQ _ _ _ h0,zl,e,hz,Int.neg_zero,Int.lt_irrefl,zBy];rfl
  ·have c : -((-a)%(n:Int))<0:=by omega
   refine⟨((n:Int)-(-a)%(n:Int)).toNat,?_,by omega,fun h=>absurd h ha⟩;simp only[y8,JQ _ _ _ h0,zl,e,c,zBx,zf,zBv,yX,w64 (a := -((-a)%(n:Int))+(n:Int)) (by omega)];rw[show((((n:Int)-(-a)%(n:Int)).toNat:Nat):Int) = -((-a)%(n:Int))+(n:Int) by omega]
def nms:List Str:=[[97],[98],[99],[100,100],[101],[],[120,47,121],[122,126]]
theorem zqv(l:List V):slV (.sl l)=some l:=rfl
theorem zz4:P0 jf [.g] []=some (.sl (strs nms),[]):=by rw[ziv];rfl
theorem zl6 : ∀ x,x∈nms->(dec8 x).isSome=true/\x.length<=2000:=by decide
inductive NmT:Tree->Prop
 | mk (t:Tree) (hk : ∀ s,s∈t.k->s∈nms) (hv : ∀ x,x∈t.v->NmT x):NmT t
def Md8(d:Nat)(t:Tree):Prop:=OkT t/\Bnd 3 d t/\NmT t
def zgX(d:Nat):Prop := ∀ l:List Int,∃ (t:Tree) (l':List Int),P0 vg [.v (.sl (ints l)),.v (.int .i64 (d:Int))] []=some (.tup [t.val,.sl (ints l')],[])/\Md8 (d+1) t
theorem zgT(p:List V)(v d:Nat)(hv:v<=1073741824)(hd:d<1000)(hm:zgX d)(k:Nat) : ∀ (i:Nat) (l:List Int) (vs:List Tree),i+k=v/12%4->vs.length=i->(∀ x,x∈vs->Md8 (d+1) x) ->
  ∃ (l':List Int) (vs':List Tree),zr (Zp (.int .i64 (v:Int),p) (.int .i64 ((d+1:Nat):Int))) (vec [.sl (ints l),.int .i64 (i:Int),.int .i64 0,.bool false,.bool false,.sl [],.int .i64 0,.str [],.sl [],.sl [],.int .i64 6,.bool false,.bool false,.sl [],.int .i64 0,.str [],.sl [],.sl (trs vs)]) =
   some (0,vec [.sl (ints l'),.int .i64 0,.bool false,.bool false,.sl [],.int .i64 0,.str [],.sl [],.sl [],.int .i64 6,.bool false,.bool false,.sl [],.int .i64 0,.str [],.sl [],.sl (trs vs')])/\vs'.length<=3 /\ ∀ x,x∈vs'->Md8 (d+1) x:=by
 have q12:=zsY v 12 (by omega) (by omega);have r4:=zf9 (v/12) 4 (by omega);have hlt:v/12%4<4:=zBZ _ (by omega);induction k with
 | zero=>
  intro i l vs hi hvs hx;refine⟨l,vs,zh ?_,by omega,hx⟩;unfold Zp;have c1 : ¬ (i:Int)<((v/12%4:Nat):Int):=by omega
  simp only[y1,y5,show zc .quo (.int .i64 (v:Int)) (.int .i64 12)=_ from q12,show zc .rem (.int .i64 ((v/12:Nat):Int)) (.int .i64 4)=_ from r4,zl,c1,zBy,zt]
 | succ k ih=>
  intro i l vs hi hvs hx;have c1:(i:Int)<((v/12%4:Nat):Int):=by omega
  obtain⟨t,l1,ht,htm⟩:=hm l;obtain⟨l',vs',h1,h2,h3⟩:=ih (i+1) l1 (vs++[t]) (by omega) (by simp[hvs]) (by
   intro x hxx;rcases List.mem_append.1 hxx with hxx | hxx
   ·exact hx x hxx
   ·rw[List.mem_singleton.1 hxx];exact htm)
  refine⟨l',vs',?_,h2,h3⟩;rw[<- h1];apply zp;unfold Zp;have hs:IntKind.i64.wrap (((d+1:Nat):Int)-1)=(d:Int):=by rw[w64 (a:=((d+1:Nat):Int)-1) (by omega)];omega
  simp only[y8,y1,qp,show zc .quo (.int .i64 (v:Int)) (.int .i64 12)=_ from q12,show zc .rem (.int .i64 ((v/12:Nat):Int)) (.int .i64 4)=_ from r4,zl,c1,zf,ZQ,hs,ht,zm,zM,zN,za,zbF,zt,zi,zqM,xX 120 vs.length 1 (by omega) (by omega),yX,yQ (i:=i) (by omega),ziD]
theorem zjh(p:List V)(v d:Nat)(hv:v<=1073741824)(hd:d<1000)(hm:zgX d)(k:Nat) : ∀ (i:Nat) (l:List Int) (u:AL),i+k=v/12%4->u.length<=i->QF u->(∀ x,x∈names u->x∈nms)->(∀ q,q∈u->Md8 (d+1) q.2) ->
  ∃ (l':List Int) (u':AL),zr (Zz (.int .i64 (v:Int),p) (.int .i64 ((d+1:Nat):Int))) (vec [.sl (ints l),.int .i64 (i:Int),.int .i64 0,.bool false,.bool false,.sl [],.int .i64 0,.str [],.sl [],.sl [],.int .i64 7,.bool false,.bool false,.sl [],.int .i64 0,.str [],.sl (strs (names u)),.sl (trs (zx u))]) =
   some (0,vec [.sl (ints l'),.int .i64 0,.bool false,.bool false,.sl [],.int .i64 0,.str [],.sl [],.sl [],(obj u').val])/\u'.length<=3/\QF u'/\(∀ x,x∈names u'->x∈nms) /\ ∀ q,q∈u'->Md8 (d+1) q.2:=by
 have q12:=zsY v 12 (by omega) (by omega);have r4:=zf9 (v/12) 4 (by omega);have q48:=zsY v 48 (by omega) (by omega);have hlt:v/12%4<4:=zBZ _ (by omega);induction k with
 | zero=>
  intro i l u hi hu hs hn hx;refine⟨l,u,zh ?_,by omega,hs,hn,hx⟩;unfold Zz;have c1 : ¬ (i:Int)<((v/12%4:Nat):Int):=by omega
  simp only[y1,y5,show zc .quo (.int .i64 (v:Int)) (.int .i64 12)=_ from q12,show zc .rem (.int .i64 ((v/12:Nat):Int)) (.int .i64 4)=_ from r4,zl,c1,zBy,zt,Zi]
 | succ k ih=>
  intro i l u hi hu hs hn hx;have c1:(i:Int)<((v/12%4:Nat):Int):=by omega
  obtain⟨t,l1,ht,htm⟩:=hm l;have hj:(v/48+3*i)%8<8:=zBZ _ (by omega);have hg:nms[(v/48+3*i)%8]?=some (nms[(v/48+3*i)%8]'hj):=zL hj;have hmem:nms[(v/48+3*i)%8]'hj∈nms:=zCg _;generalize hw:nms[(v/48+3*i)%8]'hj=w at hg hmem;obtain⟨l',u',h1,h2,h3,h4,h5⟩:=ih (i+1) l1 (vV w t u) (by omega) (by have:=zsy w t u;omega) (zm8 hs) (by
   intro x hxx;rcases zaD w t u x hxx with rfl | hxx
   ·exact hmem
   ·exact hn x hxx) (by
   intro q hq;rcases zmp hq with rfl | hq
   ·exact htm
   ·exact hx q hq)
  refine⟨l',u',?_,h2,h3,h4,h5⟩;rw[<- h1];apply zp;unfold Zz;have hsb:IntKind.i64.wrap (((d+1:Nat):Int)-1)=(d:Int):=by rw[w64 (a:=((d+1:Nat):Int)-1) (by omega)];omega
  have m3:IntKind.i64.wrap (3*(i:Int))=((3*i:Nat):Int):=by rw[w64 (a:=3*(i:Int)) (by omega)];omega
  have a3:IntKind.i64.wrap (((v/48:Nat):Int)+((3*i:Nat):Int))=((v/48+3*i:Nat):Int):=by rw[w64 (a:=((v/48:Nat):Int)+((3*i:Nat):Int)) (by omega)];omega
  have r8:=zf9 (v/48+3*i) 8 (by omega);have hset:=zya (obj u) w t (by rw[zbv];exact hs) (by show(names u).length<=_;rw[je];omega) (by rw[zbv];omega);rw[zbv,Zi u]at hset;simp only[y8,y1,qp,show zc .quo (.int .i64 (v:Int)) (.int .i64 12)=_ from q12,show zc .rem (.int .i64 ((v/12:Nat):Int)) (.int .i64 4)=_ from r4,show zc .quo (.int .i64 (v:Int)) (.int .i64 48)=_ from q48,zl,c1,zf,ZQ,hsb,ht,zm,zM,zN,za,zz4,zqv,zsx,m3,yX,a3,show zc .rem (.int .i64 ((v/48+3*i:Nat):Int)) (.int .i64 8)=_ from r8,KO,zd,zg _ ((v/48+3*i)%8) nms.length hj,yx,hg,zC,yo,hset,yQ (i:=i) (by omega)];simp only[Zi,Zt,zM,zN,zn,zt];rfl
end
section
attribute [local irreducible] P0
theorem xa(kind:Int)(b:Bool)(n:Nm)(s:Str)(k:List Str)(v:List Tree):(Tree.mk kind b n s k v).val = .agg [.int .i64 kind,.bool b,.bool n.neg,.sl (zw n.m),.int .i64 n.e,.str s,.sl (strs k),.sl (trs v)]:=by rw[Tree.val_eq];rfl
theorem zxB(i:Nat)(h:i<9) : ∃ x s,zjE false 9 1 (.agg [(.int .i64 0),(.int .i64 1),(.int .i64 2),(.int .i64 3),(.int .i64 4),(.int .i64 5),(.int .i64 6),(.int .i64 8),(.int .i64 9)]) (.int .i64 (i:Int))=some x/\zm2 (.str [97,98,99,34,92,10,195,169,122]) none (some x)=some (.str s)/\(dec8 s).isSome=true/\s.length<=2000:=by
 match i,h with
 | 0,_=>exact⟨_,_,rfl,rfl,rfl,by decide⟩
 | 1,_=>exact⟨_,_,rfl,rfl,rfl,by decide⟩
 | 2,_=>exact⟨_,_,rfl,rfl,rfl,by decide⟩
 | 3,_=>exact⟨_,_,rfl,rfl,rfl,by decide⟩
 | 4,_=>exact⟨_,_,rfl,rfl,rfl,by decide⟩
 | 5,_=>exact⟨_,_,rfl,rfl,rfl,by decide⟩
 | 6,_=>exact⟨_,_,rfl,rfl,rfl,by decide⟩
 | 7,_=>exact⟨_,_,rfl,rfl,rfl,by decide⟩
 | 8,_=>exact⟨_,_,rfl,rfl,rfl,by decide⟩
theorem bytes_at(i:Nat)(h:i<5) : ∃ s,zm2 (.str [0,255,97,98]) none (some (.int .i64 (i:Int)))=some (.str s)/\s.length<=2000:=by
 match i,h with
 | 0,_=>exact⟨_,rfl,by decide⟩
 | 1,_=>exact⟨_,rfl,by decide⟩
 | 2,_=>exact⟨_,rfl,by decide⟩
 | 3,_=>exact⟨_,rfl,by decide⟩
 | 4,_=>exact⟨_,rfl,by decide⟩
theorem zwr(d:Nat){t:Tree}(h:t.v=[]):Bnd 3 (d+1) t := .mk d t (by rw[h];simp) (fun x hx=>by rw[h]at hx;simp at hx)
theorem zr6{t:Tree}(ho:OkT t)(hv:t.v=[]):NmT t:=by
 refine .mk t (fun s hs => ?_) (fun x hx=>by rw[hv]at hx;simp at hx);have h1:=ho.lens;have:t.k=[]:=by
  by_cases hk:t.kind=7
  ·have:=h1.2.2.2.2 hk;rw[hv]at this;exact List.length_eq_zero_iff.1 this
  ·exact h1.2.2.1 hk
 rw[this]at hs;simp at hs
theorem zeG(d:Nat)(hd:d<1000)(hm : ∀ e,d=e+1->zgX e)(l:List Int) : ∃ (t:Tree) (l':List Int),P0 vg [.v (.sl (ints l)),.v (.int .i64 (d:Int))] []=some (.tup [t.val,.sl (ints l')],[])/\Md8 (d+1) t/\(∀ r,l=45::r->0<d->t.kind=7):=by
 rw[zjJ];unfold zcI;cases l with
 | nil=>exact⟨Ev.null,[],by rw[ye];rfl,⟨.null,Bnd.null 3 d,zr6 .null rfl⟩,fun r h=>by simp at h⟩
 | cons a r=>
  obtain⟨v,hp1,hv,hv2⟩:=zrK a 1073741824 (by omega) (by omega);have hp1:P0 xF [.v (.int .i64 a),.v (.int .i64 1073741824)] []=some (.int .i64 (v:Int),[]):=hp1;have hlen:(((((r.length+1:Nat):Int))==0)=true)=False:=by
   have : ¬ (((r.length+1:Nat):Int)=0):=by omega
   simp[this];omega
  have hpos:0<r.length+1:=by omega
  have hb1:Wk (some (.int .i64 1)) none (r.length+1)=some (1,r.length+1):=XQ _ 1 _ (by omega);have hdrop:((ints (a::r)).drop 1).take (r.length+1-1)=ints r:=by rw[zk8];show(ints r).take (r.length+1-1)=ints r;exact zV (by rw[wE];omega)
  have q12:=zsY v 12 (by omega) (by omega);have r12:=zf9 v 12 (by omega);have r2:=zf9 (v/12) 2 (by omega);have r9:=zf9 (v/12) 9 (by omega);have r5:=zf9 (v/12) 5 (by omega);obtain⟨n,hn1,hn2⟩:=zti ((v/12:Nat):Int) (by omega) (by omega);obtain⟨tx,ts,ht1,ht2,ht3,ht4⟩:=zxB (v/12%9) (by omega);obtain⟨bs,hby1,hby2⟩:=bytes_at (v/12%5) (by omega);have w64k : ∀ x:Int,-1000<=x->x<=1000->IntKind.i64.wrap x=x:=fun x h1 h2=>w64 (by omega)
  have hk45 : ∀ r',a::r=45::r'->v%12=9:=fun r' h=>by have:a=45:=(List.cons_eq_cons.1 h).1;subst this;have:=hv2 (by omega);omega
  obtain⟨K,hKv,hK⟩ : ∃ K:Int,((v%12:Nat):Int)=K/\(K=0\/K=1\/K=2\/K=3\/K=4\/K=5\/K=6\/K=7\/K=8\/K=9\/K=10\/K=11):=⟨_,rfl,by omega⟩
  have r12':zc .rem (.int .i64 (v:Int)) (.int .i64 12)=some (.int .i64 K):=hKv▸r12;have hm':decide ((d:Int)<=0)=false -> ∃ e,d=e+1/\zgX e:=fun h=>by
   have : ¬ (d:Int)<=0:=by simpa using h
   exact⟨d-1,by omega,hm _ (by omega)⟩
  have dz:decide ((d:Int)<=0)=true->d=0:=fun h=>by have:=of_decide_eq_true h;omega
  have leaf : ∀ t:Tree,OkT t->t.v=[]->(K<=5\/d=0)->Md8 (d+1) t/\(∀ r',a::r=45::r'->0<d->t.kind=7):=fun t ho hv hk=>⟨⟨ho,zwr d hv,zr6 ho hv⟩,fun r' h h0=>by have:=hk45 r' h;omega⟩
  cases hd0:decide ((d:Int)<=0)<;>rcases hK with rfl | rfl | rfl | rfl | rfl | rfl | rfl | rfl | rfl | rfl | rfl | rfl <;>
   simp only[y1,qp,y5,zb,wE,zBG,hlen,qC,zfO _ _ hpos,kj,zM,zC,xM,hp1,hb1,hdrop,r12',Vt,qY,hd0,zBy,Int.reduceLE,Int.reduceSub,Int.reduceEq,ZQ,w64k,zq,show zc .quo (.int .i64 (v:Int)) (.int .i64 12)=_ from q12,show zc .rem (.int .i64 ((v/12:Nat):Int)) (.int .i64 2)=_ from r2,show zc .rem (.int .i64 ((v/12:Nat):Int)) (.int .i64 9)=_ from r9,show zc .rem (.int .i64 ((v/12:Nat):Int)) (.int .i64 5)=_ from r5,zpg,qi,zoq,yo,hn1,zbN,KE,K8,K3,ht1,ht2,hby1,zBM,zt]
  ·exact⟨Ev.null,r,by first | (simp only[xa,ye];done) | (simp only[xa,ye];rfl),leaf _ (.null) rfl (.inl (by decide))⟩
  ·exact⟨.mk 2 (decide (((v/12%2:Nat):Int)=1)) .zero [] [] [],r,by first | (simp only[xa,ye];done) | (simp only[xa,ye];rfl),leaf _ (.bool _) rfl (.inl (by decide))⟩
  ·exact⟨.mk 3 false n [] [] [],r,by first | (simp only[xa,ye];done) | (simp only[xa,ye];rfl),leaf _ (.num n hn2) rfl (.inl (by decide))⟩
  ·exact⟨.mk 3 false n [] [] [],r,by first | (simp only[xa,ye];done) | (simp only[xa,ye];rfl),leaf _ (.num n hn2) rfl (.inl (by decide))⟩
  ·exact⟨.mk 4 false .zero ts [] [],r,by first | (simp only[xa,ye];done) | (simp only[xa,ye];rfl),leaf _ (.text ts ht3 ht4) rfl (.inl (by decide))⟩
  ·exact⟨.mk 5 false .zero bs [] [],r,by first | (simp only[xa,ye];done) | (simp only[xa,ye];rfl),leaf _ (.bytes bs hby2) rfl (.inl (by decide))⟩
  ·obtain⟨e,rfl,hme⟩:=hm' hd0;obtain⟨la,vs,la1,la2,la3⟩:=zgT [] v e (by omega) (by omega) hme (v/12%4) 0 r [] (by omega) rfl (fun x hx=>by simp at hx);simp only[show((0:Nat):Int)=0 from rfl,show trs []=[]from rfl]at la1;refine⟨.mk 6 false .zero [] [] vs,la,?_,⟨.arr vs (by omega) (fun x hx=>(la3 x hx).1),.mk _ _ la2 (fun x hx=>(la3 x hx).2.1),.mk _ (fun s hs=>by simp[Tree.k]at hs) (fun x hx=>(la3 x hx).2.2)⟩,fun r' h h0=>by have:=hk45 r' h;omega⟩;simp only[y8,y1,la1,zt,zBM,zBw,xa];rfl
  ·obtain⟨e,rfl,hme⟩:=hm' hd0;obtain⟨la,vs,la1,la2,la3⟩:=zgT [] v e (by omega) (by omega) hme (v/12%4) 0 r [] (by omega) rfl (fun x hx=>by simp at hx);simp only[show((0:Nat):Int)=0 from rfl,show trs []=[]from rfl]at la1;refine⟨.mk 6 false .zero [] [] vs,la,?_,⟨.arr vs (by omega) (fun x hx=>(la3 x hx).1),.mk _ _ la2 (fun x hx=>(la3 x hx).2.1),.mk _ (fun s hs=>by simp[Tree.k]at hs) (fun x hx=>(la3 x hx).2.2)⟩,fun r' h h0=>by have:=hk45 r' h;omega⟩;simp only[y8,y1,la1,zt,zBM,zBw,xa];rfl
  ·obtain⟨e,rfl,hme⟩:=hm' hd0;obtain⟨la,vs,la1,la2,la3⟩:=zgT [] v e (by omega) (by omega) hme (v/12%4) 0 r [] (by omega) rfl (fun x hx=>by simp at hx);simp only[show((0:Nat):Int)=0 from rfl,show trs []=[]from rfl]at la1;refine⟨.mk 6 false .zero [] [] vs,la,?_,⟨.arr vs (by omega) (fun x hx=>(la3 x hx).1),.mk _ _ la2 (fun x hx=>(la3 x hx).2.1),.mk _ (fun s hs=>by simp[Tree.k]at hs) (fun x hx=>(la3 x hx).2.2)⟩,fun r' h h0=>by have:=hk45 r' h;omega⟩;simp only[y8,y1,la1,zt,zBM,zBw,xa];rfl
  ·obtain⟨e,rfl,hme⟩:=hm' hd0;obtain⟨lo,u,lo1,lo2,lo3,lo4,lo5⟩:=zjh [] v e (by omega) (by omega) hme (v/12%4) 0 r [] (by omega) (by simp) trivial (fun x hx=>by simp[names]at hx) (fun x hx=>by simp at hx);simp only[show((0:Nat):Int)=0 from rfl,show strs (names [])=[]from rfl,show trs (zx [])=[]from rfl]at lo1;refine⟨obj u,lo,?_,⟨.obj u lo3 (by omega) (fun x hx=>zl6 x (lo4 x hx)) (fun q hq=>(lo5 q hq).1),.mk _ _ (by rw[zwl,v7];exact lo2) (fun x hx=>by obtain⟨q,hq,rfl⟩:=List.mem_map.1 (show x∈zx u from hx);exact(lo5 q hq).2.1),.mk _ (fun s hs=>lo4 s hs) (fun x hx=>by obtain⟨q,hq,rfl⟩:=List.mem_map.1 (show x∈zx u from hx);exact(lo5 q hq).2.2)⟩,fun r' h h0=>rfl⟩;simp only[y8,y1,lo1,zt,zBv,za,z5]
  ·obtain⟨e,rfl,hme⟩:=hm' hd0;obtain⟨lo,u,lo1,lo2,lo3,lo4,lo5⟩:=zjh [] v e (by omega) (by omega) hme (v/12%4) 0 r [] (by omega) (by simp) trivial (fun x hx=>by simp[names]at hx) (fun x hx=>by simp at hx);simp only[show((0:Nat):Int)=0 from rfl,show strs (names [])=[]from rfl,show trs (zx [])=[]from rfl]at lo1;refine⟨obj u,lo,?_,⟨.obj u lo3 (by omega) (fun x hx=>zl6 x (lo4 x hx)) (fun q hq=>(lo5 q hq).1),.mk _ _ (by rw[zwl,v7];exact lo2) (fun x hx=>by obtain⟨q,hq,rfl⟩:=List.mem_map.1 (show x∈zx u from hx);exact(lo5 q hq).2.1),.mk _ (fun s hs=>lo4 s hs) (fun x hx=>by obtain⟨q,hq,rfl⟩:=List.mem_map.1 (show x∈zx u from hx);exact(lo5 q hq).2.2)⟩,fun r' h h0=>rfl⟩;simp only[y8,y1,lo1,zt,zBv,za,z5]
  ·obtain⟨e,rfl,hme⟩:=hm' hd0;obtain⟨lo,u,lo1,lo2,lo3,lo4,lo5⟩:=zjh [] v e (by omega) (by omega) hme (v/12%4) 0 r [] (by omega) (by simp) trivial (fun x hx=>by simp[names]at hx) (fun x hx=>by simp at hx);simp only[show((0:Nat):Int)=0 from rfl,show strs (names [])=[]from rfl,show trs (zx [])=[]from rfl]at lo1;refine⟨obj u,lo,?_,⟨.obj u lo3 (by omega) (fun x hx=>zl6 x (lo4 x hx)) (fun q hq=>(lo5 q hq).1),.mk _ _ (by rw[zwl,v7];exact lo2) (fun x hx=>by obtain⟨q,hq,rfl⟩:=List.mem_map.1 (show x∈zx u from hx);exact(lo5 q hq).2.1),.mk _ (fun s hs=>lo4 s hs) (fun x hx=>by obtain⟨q,hq,rfl⟩:=List.mem_map.1 (show x∈zx u from hx);exact(lo5 q hq).2.2)⟩,fun r' h h0=>rfl⟩;simp only[y8,y1,lo1,zt,zBv,za,z5]
  ·exact⟨Ev.null,r,by first | (simp only[xa,ye];done) | (simp only[xa,ye];rfl),leaf _ (.null) rfl (.inl (by decide))⟩
  ·exact⟨.mk 2 (decide (((v/12%2:Nat):Int)=1)) .zero [] [] [],r,by first | (simp only[xa,ye];done) | (simp only[xa,ye];rfl),leaf _ (.bool _) rfl (.inl (by decide))⟩
  ·exact⟨.mk 3 false n [] [] [],r,by first | (simp only[xa,ye];done) | (simp only[xa,ye];rfl),leaf _ (.num n hn2) rfl (.inl (by decide))⟩
  ·exact⟨.mk 3 false n [] [] [],r,by first | (simp only[xa,ye];done) | (simp only[xa,ye];rfl),leaf _ (.num n hn2) rfl (.inl (by decide))⟩
  ·exact⟨.mk 4 false .zero ts [] [],r,by first | (simp only[xa,ye];done) | (simp only[xa,ye];rfl),leaf _ (.text ts ht3 ht4) rfl (.inl (by decide))⟩
  ·exact⟨.mk 5 false .zero bs [] [],r,by first | (simp only[xa,ye];done) | (simp only[xa,ye];rfl),leaf _ (.bytes bs hby2) rfl (.inl (by decide))⟩
  ·exact⟨Ev.null,r,by first | (simp only[xa,ye];done) | (simp only[xa,ye];rfl),leaf _ (.null) rfl (.inr (dz hd0))⟩
  ·exact⟨.mk 2 (decide (((v/12%2:Nat):Int)=1)) .zero [] [] [],r,by first | (simp only[xa,ye];done) | (simp only[xa,ye];rfl),leaf _ (.bool _) rfl (.inr (dz hd0))⟩
  ·exact⟨.mk 3 false n [] [] [],r,by first | (simp only[xa,ye];done) | (simp only[xa,ye];rfl),leaf _ (.num n hn2) rfl (.inr (dz hd0))⟩
  ·exact⟨.mk 3 false n [] [] [],r,by first | (simp only[xa,ye];done) | (simp only[xa,ye];rfl),leaf _ (.num n hn2) rfl (.inr (dz hd0))⟩
  ·exact⟨.mk 4 false .zero ts [] [],r,by first | (simp only[xa,ye];done) | (simp only[xa,ye];rfl),leaf _ (.text ts ht3 ht4) rfl (.inr (dz hd0))⟩
  ·exact⟨.mk 5 false .zero bs [] [],r,by first | (simp only[xa,ye];done) | (simp only[xa,ye];rfl),leaf _ (.bytes bs hby2) rfl (.inr (dz hd0))⟩
theorem zwR : ∀ d,d<1000->zgX d
 | 0,hd=>fun l=>by obtain⟨t,l',h1,h2,_⟩:=zeG 0 hd (fun e h=>by omega) l;exact⟨t,l',h1,h2⟩
 | d+1,hd=>fun l=>by
  have ih:=zwR d (by omega);obtain⟨t,l',h1,h2,_⟩:=zeG (d+1) hd (fun e h=>by
    have:e=d:=by omega
    subst this;exact ih) l
  exact⟨t,l',h1,h2⟩
theorem zxf(d:Nat)(hd:d<1000)(l:List Int) : ∃ t:Tree,P0 qQ [.v (.sl (ints l)),.v (.int .i64 (d:Int))] []=some (t.val,[])/\OkT t/\Bnd 3 (d+1) t/\(∀ r,l=45::r->0<d->t.kind=7)/\NmT t:=by obtain⟨t,l',h1,h2,h3⟩:=zeG d hd (fun e h=>zwR e (by omega)) l;refine⟨t,?_,h2.1,h2.2.1,h3,h2.2.2⟩;rw[zjA];unfold zb0;simp only[y8,h1,zm,zM,zN,za,z5]
end
section
attribute [local irreducible] P0
theorem zsH{P:Program}{n:Nat}{t e:TypeId}{xs:List V}(hu:P.underlying t=some (.slice e))(he:P.underlying e=some (.int .i64))(h:Ty P n t xs) : ∃ l:List Int,mkV P t xs = .sl (ints l):=by
 cases n with
 | zero=>exact h.elim
 | succ n=>
  unfold Ty at h;rw[hu]at h;obtain⟨ys,_,hy,rfl⟩:=h;have : ∀ ys:List (List V),(∀ x∈ys,Ty P n e x) -> ∃ l:List Int,ys.map (mkV P e)=ints l:=by
   intro ys;induction ys with
   | nil=>intro _;exact⟨[],rfl⟩
   | cons y r ih=>intro hy;obtain⟨l,hl⟩:=ih (fun x hx=>hy x (zP _ hx));obtain⟨z,_,hz⟩:=zvs he (hy y zBY);exact⟨z::l,by rw[List.map_cons,hl,hz];rfl⟩
  obtain⟨l,hl⟩:=this ys hy;refine⟨l,?_⟩;rw[hl];unfold mkV Z8;rw[hu];rfl
end
end Go.Ev
