/- What functions compute, put together. -/
import Derived.Test.YtnefgdahdccldaaGreatDoorKPv
import Derived.Test.YtnefgdahdccldaaGreatDoorKSp
set_option linter.all false
open Option renaming map_eq_some_iff->zB,map_some->zC,bind_some->zD
open Bool renaming false_eq_true->zF,and_eq_true->zG,not_true->zH,not_false->zI,true_eq_false->zX
open List renaming getElem?_eq_getElem->zL,getElem?_cons_zero->zM,getElem?_cons_succ->zN,drop_eq_getElem_cons->zO,drop_eq_nil_of_le->zQ,drop_zero->zU,take_of_length_le->zV,length_append->zZ
open Nat renaming le_refl->zR,mul_le_mul_right->zW
open Int renaming natCast_nonneg->zY
namespace Go.Ev
abbrev xW:=And.intro @zm @wB
end Go.Ev
namespace Go.Ev
abbrev yX:=And.intro @z5 @v8
end Go.Ev
namespace Go.Ev
abbrev VJ:=And.intro @if_true.{1} (And.intro @zCn (And.intro @zp @zj))
end Go.Ev
namespace Go.Ev
abbrev xn:=And.intro @zm (And.intro @wB (And.intro @ze (And.intro @if_false.{1} @zF)))
end Go.Ev
namespace Go.Ev
section
attribute [local irreducible] P0
theorem zvN(l:List Nat)(n:Nat)(hn:n<=l.length)(hl:l.length<=1000000):zq (jF (.sl (zu l))) (vec [.int .i64 (n:Int)])=some (0,vec [.int .i64 (top l n:Nat)]):=by
 induction n with
 | zero=>apply zg;unfold jF;simp[top]
 | succ n ih=>
  have hx:l[n]?=some l[n]:=zL (by omega);have h1:((n+1:Nat):Int)-1=n:=by omega
  by_cases h0:l[n]=0
  ·rw[zn (a':=vec [.int .i64 (n:Int)])]
   ·rw[ih (by omega)];simp[top,hx,h0]
   ·unfold jF;have h2:(0:Int)<((n+1:Nat):Int):=by omega
    simp only[z5,Zy,zm,ze,zCn,h2,zCk,ZF,h1,w64 (a:=(n:Int)) (by omega),wS,yj,zf _ n l.length (by omega),ji,hx,zC,xO,zv,h0];simp
  ·have ht:top l (n+1)=n+1:=by unfold top;rw[hx];split<;>simp_all
   rw[ht];apply zg;unfold jF;have h2:(0:Int)<((n+1:Nat):Int):=by omega
   simp only[z5,Zy,zm,ze,zCn,h2,zCk,ZF,h1,w64 (a:=(n:Int)) (by omega),wS,yj,zf _ n l.length (by omega),ji,hx,zC,xO,zv];simp[h0]
theorem ztN(l:List Nat)(hl:l.length<=1000000):P0 qM [.v (.sl (zu l))] []=some (.sl (zu (norm l)),[]):=by rw[zla];unfold zd6;have h:=zhL l l.length;simp only[zb,zm,yj,zvN l l.length (zR _) hl,z5,wS,KC _ _ _ ⟨zY _,Int.ofNat_le.2 h⟩,zCQ,zhJ,Yd,zU,Nat.sub_zero,zbR,List.nil_append,zCx];rw[wv _ _ _ (by simp;omega) (by simp;omega)];rfl
theorem zts(l:List Nat)(i:Nat)(hl:l.length<=1000000)(hu:U32 l):P0 wY [.v (.sl (zu l)),.v (.int .i64 (i:Int))] []=some (.int .u64 ((l[i]?.getD 0:Nat):Int),[]):=by
 rw[zk4];unfold zcK;by_cases h:i<l.length
 ·have hx:l[i]?=some l[i]:=zL h;have hb:l[i]<B32:=hu _ (zCW h);unfold B32 at hb;apply yes;simp[h,zf,zkw (a:=(l[i]:Int)) (by omega)]
 ·apply yes;simp[h]
theorem zrX(l:List Nat)(d:Nat)(q2:Nat×Nat)(hq:q2.1=l.length)(hd:0<d)(hd2:d<B32)(hl:l.length<=1000000)(hu:U32 l)(n:Nat)(hn:n<=l.length) :
  zq (kH (.sl (zu l)) (.int .u32 (d:Int)) q2) (vec [.int .u64 ((small d (l.drop n)).2:Int),.int .i64 ((n:Int)-1),.sl (List.replicate n (.int .u32 0)++zu (small d (l.drop n)).1)])
   = some (0,vec [.int .u64 ((small d l).2:Int),.sl (zu (small d l).1)]):=by
 induction n with
 | zero=>apply zg;unfold kH;simp
 | succ n ih=>
  have hx:l[n]?=some l[n]:=zL (by omega);have hdr:l.drop n=l[n]::l.drop (n+1):=zO (by omega);have hb:l[n]<B32:=hu _ (zCW _);have hc:(small d (l.drop (n+1))).2<d:=Kj d hd _;rw[<- ih (by omega)];apply zn;generalize hs:small d (l.drop (n+1))=sm at *;have hsm:small d (l.drop n)=((sm.2*B32+l[n])/d::sm.1,(sm.2*B32+l[n])%d):=by rw[hdr];simp only[small,hs]
  rw[hsm];have hlt:(sm.2*B32+l[n])/d<B32:=by
   rw[Nat.div_lt_iff_lt_mul hd];have:sm.2*B32+B32<=d*B32:=by rw[<- Nat.succ_mul];exact zW _ hc
   rw[Nat.mul_comm B32 d];omega
  have hlt2:sm.2*B32+l[n]<B32*B32:=by
   have:sm.2*B32+B32<=B32*B32:=by rw[<- Nat.succ_mul];exact zW _ (by omega)
   omega
  have h1:((n+1:Nat):Int)-1=n:=by omega
  have hp:(2:Int)^Nat.min (32:Int).toNat (IntKind.bits .u64)=(B32:Int):=by decide
  have hB:B32*B32=18446744073709551616:=by decide
  have hB2:B32=4294967296:=rfl;have hBi:(B32:Int)=4294967296:=rfl;unfold kH;have ha:(sm.2:Int)*(B32:Int)=((sm.2*B32:Nat):Int):=by simp
  have hdd:((sm.2*B32+l[n]:Nat):Int).tdiv (d:Int)=(((sm.2*B32+l[n])/d:Nat):Int):=by rw[Int.tdiv_eq_ediv_of_nonneg (zY _)];simp
  have hmm:((sm.2*B32+l[n]:Nat):Int).tmod (d:Int)=(((sm.2*B32+l[n])%d:Nat):Int):=by rw[Int.tmod_eq_emod_of_nonneg (zY _)];simp
  have hd0:(d:Int)≠0:=by omega
  have hpos:(0:Int)<=n:=zY n;simp only[z5,zr,jI,h1,hpos,zCn,zm,ze,zCk,zxY _ _ _ _ (show(0:Int)<=32 by decide),hp,ha];rw[zkw (a:=((sm.2*B32:Nat):Int)) (by omega)];simp only[wS,zm,yj,zf _ n l.length (by omega),ji,hx,zC,xO,kA];rw[zkw (a:=(l[n]:Int)) (by omega),zkw (a:=(d:Int)) (by omega)];simp only[yU,zm,<- Int.natCast_add];rw[zkw (a:=((sm.2*B32+l[n]:Nat):Int)) (by omega)];simp only[zjZ _ _ _ hd0,Kn _ _ _ hd0,zm,hdd,hmm,kA];have hq0:(0:Int)<=(((sm.2*B32+l[n])/d:Nat):Int):=zY _;have hq1:(((sm.2*B32+l[n])/d:Nat):Int)<=4294967295:=Int.ofNat_le.2 (show _<=4294967295 from Nat.le_of_lt_succ hlt);rw[zkw (a:=(((sm.2*B32+l[n])/d:Nat):Int)) ⟨hq0,Int.le_trans hq1 (by decide)⟩,zzt (a:=(((sm.2*B32+l[n])/d:Nat):Int)) ⟨hq0,hq1⟩];simp only[hq,zf _ n l.length (by omega),zm,XG,zp,xO,ZF,zt,zCu,ztD];rw[w64 (a:=(n:Int)-1) (by omega)];rfl
theorem zq6(l:List Nat)(d:Nat)(hd:0<d)(hd2:d<B32)(hl:l.length<=1000000)(hu:U32 l) :
  P0 xF [.v (.sl (zu l)),.v (.int .u32 (d:Int))] []=some (.tup [.sl (zu (norm (small d l).1)),.int .u32 ((small d l).2:Int)],[]):=by
 rw[zhA];unfold zaT;have hlt:=Kj d hd l;have hB2:B32=4294967296:=rfl;have h:=zrX l d (l.length,l.length) rfl hd hd2 hl hu l.length (zR _);simp only[List.drop_length,small,zu,List.map_nil,List.append_nil]at h;simp only[zb,zm,yj,zlY 4 l.length (by omega) (by omega)];rw[w64 (a:=(l.length:Int)-1) (by omega)];simp only[zu]at h ⊢;rw[show((0:Nat):Int)=0 from rfl]at h;rw[h];have e:List.map (fun(x:Nat)=>V.int .u32 (x:Int)) (small d l).1=zu (small d l).1:=rfl;simp only[zm,z5,zr,e,zt,zU,Yd];rw[zV (by rw[XP];omega),ztN _ (by rw[XP];omega)];simp only[zm,kA];rw[zzt (a:=((small d l).2:Int)) (by omega)];rfl
end
section
attribute [local irreducible] P0
theorem zuy(m:Nat) : ∀ (l:List Nat) (k:Nat),U32 l->Nrm l->l.length<=1000000->xC l<10^m->k+m<=1000000000 ->
  ∃ (l':List Nat) (k':Nat),zq qE (vec [.sl (zu l),.int .i64 (k:Int)])=some (0,vec [.sl (zu l'),.int .i64 (k':Int)])/\U32 l'/\Nrm l'/\l'.length<=l.length/\(l'=[]\/(small 10 l').2≠0)/\k'<=k+m:=by
 induction m with
 | zero=>intro l k hu hn hl hv hk;have:l=[]:=zmT hn (by simpa using hv);subst this;refine⟨[],k,?_,hu,hn,by simp,.inl rfl,by omega⟩;apply zg;unfold qE;simp[zu]
 | succ m ih=>
  intro l k hu hn hl hv hk;by_cases h0:l=[]
  ·subst h0;refine⟨[],k,?_,hu,hn,by simp,.inl rfl,by omega⟩;apply zg;unfold qE;simp[zu]
  ·have hlen:0<l.length:=by cases l<;>simp_all
   have hlen':(0:Int)<(l.length:Int):=by omega
   have hs:=zq6 l 10 (by decide) (by decide) hl hu;by_cases hr:(small 10 l).2=0
   ·obtain⟨hv1,hv2⟩:=zak 10 (by decide) l;obtain⟨l',k',h1,h2,h3,h4,h5,h6⟩:=ih (norm (small 10 l).1) (k+1) (zis (zfm 10 (by decide) l hu)) (zdI _) (by have:=zoq (small 10 l).1;rw[XP]at this;omega)
     (by rw[zer,hv1,Nat.div_lt_iff_lt_mul (by decide)];rw[Nat.pow_succ]at hv;exact hv) (by omega)
    refine⟨l',k',?_,h2,h3,by have:=zoq (small 10 l).1;rw[XP]at this;omega,h5,by omega⟩;rw[<- h1];apply zn;unfold qE;have hw:=w64 (a:=(k:Int)+1) (by omega);have hs':P0 xF [.v (.sl (zu l)),.v (.int .u32 10)] []=_:=hs;simp only[z5,zr,zb,zm,yj,gt_iff_lt,hlen',zCn,zCk,hs',zl,hr];simp[hw]
   ·refine⟨l,k,?_,hu,hn,zR _,.inr hr,by omega⟩;apply zg;unfold qE;have hs':P0 xF [.v (.sl (zu l)),.v (.int .u32 10)] []=_:=hs;simp only[z5,zr,zb,zm,yj,gt_iff_lt,hlen',zCn,zCk,hs',zl];simp[hr]
theorem zyI(l:List Nat)(hu:U32 l)(hl:l.length<=100000) :
  ∃ (l':List Nat) (k':Nat),P0 ka [.v (.sl (zu l))] []=some (.tup [.sl (zu l'),.int .i64 (k':Int)],[])/\U32 l'/\Nrm l'/\l'.length<=l.length/\(l'=[]\/(small 10 l').2≠0)/\k'<=10*l.length:=by
 have hle:=zoq l;obtain⟨l',k',h1,h2,h3,h4,h5,h6⟩:=zuy (10*l.length) (norm l) 0 (zis hu) (zdI l) (by omega) (by rw[zer];exact zs8 l hu) (by omega);refine⟨l',k',?_,h2,h3,by omega,h5,by omega⟩;rw[zkm];unfold zc3;simp only[ztN l (by omega),zm];rw[show((0:Nat):Int)=0 from rfl]at h1;rw[h1];rfl
theorem Nm.zero_ok:Nm.zero.ok := .inl ⟨rfl,rfl,rfl⟩
theorem zhv:V.agg [.bool false,.sl [],.int .i64 0]=Nm.zero.val:=rfl
theorem zdk(neg:Bool)(m:List Nat)(e:Int)(hu:U32 m)(hm:m.length<=90)(he : -1000000<=e/\e<=1000000) :
  ∃ (n:Nm) (b:Bool),P0 w6 [.v (.bool neg),.v (.sl (zu m)),.v (.int .i64 e)] []=some (.tup [n.val,.bool b],[])/\n.ok:=by
 obtain⟨l,k,h1,h2,h3,h4,h5,h6⟩:=zyI m hu (by omega);rw[zk3];unfold zcC;by_cases h0:l=[]
 ·subst h0;exact⟨Nm.zero,true,by apply yes;simp[h1,<- zhv],Nm.zero_ok⟩
 ·have hlen:l.length≠0:=by cases l<;>simp_all
  by_cases hin : -1200<=e+k/\e+k<=1200
  ·refine⟨⟨neg,l,e+k⟩,true,?_,.inr ⟨h0,h2,by simp;omega,h3,hin.1,hin.2,?_⟩⟩
   ·have e1 : ¬ ((90:Int)<(l.length:Int))/\(l.length:Int)<=90:=by omega
    have e2 : ¬ (e < -1099511627776) /\ -1099511627776<=e:=by omega
    have e3 : ¬ (1099511627776<e)/\e<=1099511627776:=by omega
    have e4 : ¬ (1099511627776<(k:Int))/\(k:Int)<=1099511627776:=by omega
    have e5 : ¬ (e+k < -1200) /\ -1200<=e+k:=by omega
    have e6 : ¬ (1200<e+k)/\e+k<=1200:=by omega
    have e7:=w64 (a:=e+k) (by omega);apply yes;simp[h1,h0,e1,e2,e3,e4,e5,e6,e7,Nm.val]
   ·rcases h5 with h5 | h5
    ·exact(h0 h5).elim
    ·exact h5
  ·refine⟨Nm.zero,false,?_,Nm.zero_ok⟩;have e1 : ¬ ((90:Int)<(l.length:Int))/\(l.length:Int)<=90:=by omega
   have e2 : ¬ (e < -1099511627776) /\ -1099511627776<=e:=by omega
   have e3 : ¬ (1099511627776<e)/\e<=1099511627776:=by omega
   have e4 : ¬ (1099511627776<(k:Int))/\(k:Int)<=1099511627776:=by omega
   have e7:=w64 (a:=e+k) (by omega);by_cases e5:e+k < -1200
   ·apply yes;simp[h1,h0,e1,e2,e3,e4,e5,e7,<- zhv]
   ·have e6:1200<e+k:=by omega
    apply yes;simp[h1,h0,e1,e2,e3,e4,e5,e6,e7,<- zhv]
end
section
attribute [local irreducible] P0
theorem WC(v:Int) : ∃ x:Nat,IntKind.u32.wrap v=(x:Int)/\x<B32:=by
 refine⟨(v%4294967296).toNat,?_,?_⟩
 ·rw[IntKind.wrap_u32];omega
 ·unfold B32;omega
theorem zyQ(a:Nat):[V.int .u32 (a:Int)]=zu [a]:=rfl
theorem zth(a b:Nat):[V.int .u32 (a:Int),V.int .u32 (b:Int)]=zu [a,b]:=rfl
theorem zy3(a b c:Nat):[V.int .u32 (a:Int),V.int .u32 (b:Int),V.int .u32 (c:Int)]=zu [a,b,c]:=rfl
theorem zzO(v:Int) : ∃ n:Nm,P0 kO [.v (.int .i64 v)] []=some (n.val,[])/\n.ok:=by
 rw[zqS];unfold zhI;have key : ∀ (u:Int),∃ a b:Nat,IntKind.u32.wrap u=(a:Int)/\IntKind.u32.wrap (u.fdiv 4294967296)=(b:Int)/\a<B32/\b<B32:=fun u=>by obtain⟨a,h1,h2⟩:=WC u;obtain⟨b,h3,h4⟩:=WC (u.fdiv 4294967296);exact⟨a,b,h1,h3,h2,h4⟩
 have hp:(2:Int)^Nat.min 32 (IntKind.bits .u64)=4294967296:=by decide
 by_cases hv:v<0
 ·obtain⟨a,b,ha,hb,ha2,hb2⟩:=key (IntKind.u64.wrap (0-IntKind.u64.wrap v));obtain⟨n,ok,h1,h2⟩:=zdk true [a,b] 0 (by intro x hx;simp at hx;rcases hx with rfl | rfl<;>assumption) (by simp) (by decide);refine⟨n,?_,h2⟩;have hv':decide (v<0)=true:=by simp[hv]
  have ha':IntKind.u32.wrap (IntKind.u64.wrap (-IntKind.u64.wrap v))=a:=by simpa using ha
  have hb':IntKind.u32.wrap ((IntKind.u64.wrap (-IntKind.u64.wrap v)).fdiv 4294967296)=b:=by simpa using hb
  apply yes;simp[hv,hv',zz0,ha',hb',hp,zth,h1]
 ·obtain⟨a,b,ha,hb,ha2,hb2⟩:=key (IntKind.u64.wrap v);obtain⟨n,ok,h1,h2⟩:=zdk false [a,b] 0 (by intro x hx;simp at hx;rcases hx with rfl | rfl<;>assumption) (by simp) (by decide);refine⟨n,?_,h2⟩;have hv':decide (v<0)=false:=by simp[hv]
  apply yes;simp[hv,hv',zz0,ha,hb,hp,zth,h1]
theorem zut(v:Int)(hv:0<=v)(hv2:v<1073741824) : ∃ n:Nm,P0 qG [.v (.int .i64 v)] []=some (n.val,[])/\n.ok:=by
 rw[zgB];unfold KE;have e5:v.tmod 5=v%5:=Int.tmod_eq_emod_of_nonneg hv;have q5:v.tdiv 5=v/5:=Int.tdiv_eq_ediv_of_nonneg hv;have q10:v.tdiv 10=v/10:=Int.tdiv_eq_ediv_of_nonneg hv;have q7:v.tdiv 7=v/7:=Int.tdiv_eq_ediv_of_nonneg hv;have q3:v.tdiv 3=v/3:=Int.tdiv_eq_ediv_of_nonneg hv;have w5:=w64 (a:=v/5) (by omega);have w10:=w64 (a:=v/10) (by omega);have w7:=w64 (a:=v/7) (by omega);have w3:=w64 (a:=v/3) (by omega);by_cases c0:v%5=0
 ·obtain⟨n,h1,h2⟩:=zzO (IntKind.i64.wrap ((v/5).tmod 60-20));exact⟨n,by apply yes;simp[Kn,zjZ,e5,q5,w5,c0,h1],h2⟩
 by_cases c1:v%5=1
 ·obtain⟨x,hx1,hx2⟩:=WC ((v/10).tmod 2000);have t9:(v/7).tmod 9=(v/7)%9:=Int.tmod_eq_emod_of_nonneg (by omega);obtain⟨n,ok,h1,h2⟩:=zdk (decide ((v/5).tmod 2=1)) [x] ((v/7)%9-5) (by intro y hy;simp at hy;rw[hy];exact hx2) (by simp) (by omega);have w9:=w64 (a:=(v/7)%9-5) (by omega);refine⟨n,?_,h2⟩;apply yes;simp[Kn,zjZ,e5,q5,q10,q7,w5,w10,w7,c0,c1,hx1,t9,w9,zyQ,h1]
 by_cases c2:v%5=2
 ·obtain⟨x,hx1,hx2⟩:=WC v;obtain⟨y,hy1,hy2⟩:=WC (v/3);obtain⟨z,hz1,hz2⟩:=WC (v.tmod 7);obtain⟨n,ok,h1,h2⟩:=zdk false [x,y,z] 0 (by intro w hw;simp at hw;rcases hw with rfl | rfl | rfl<;>assumption) (by simp) (by decide);refine⟨n,?_,h2⟩;apply yes;simp[Kn,zjZ,e5,q3,w3,c0,c1,c2,hx1,hy1,hz1,zy3,h1]
 by_cases c3:v%5=3
 ·obtain⟨x,hx1,hx2⟩:=WC v;have t30:(v/5).tmod 30=(v/5)%30:=Int.tmod_eq_emod_of_nonneg (by omega);obtain⟨n,ok,h1,h2⟩:=zdk (decide (v.tmod 2=1)) [5,x] (-((v/5)%30)) (by intro y hy;simp at hy;rcases hy with rfl | rfl<;>first | decide | exact hx2) (by simp) (by omega);have w9:=w64 (a := -((v/5)%30)) (by omega);have l2:[V.int .u32 5,V.int .u32 (x:Int)]=zu [5,x]:=rfl;refine⟨n,?_,h2⟩;apply yes;simp[Kn,zjZ,e5,q5,w5,c0,c1,c2,c3,hx1,t30,w9,l2,h1]
 ·obtain⟨n,h1,h2⟩:=zzO v;exact⟨n,by apply yes;simp[Kn,e5,c0,c1,c2,c3,h1],h2⟩
def cmpL(a b:List Nat):Nat->Int
 | 0=>0
 | n+1=>if a[n]?.getD 0<b[n]?.getD 0 then -1 else if b[n]?.getD 0<a[n]?.getD 0 then 1 else cmpL a b n
theorem zws(a b:List Nat)(ha:a.length<=1000000)(hb:b.length<=1000000)(hua:U32 a)(hub:U32 b)(n:Nat)(hn:n<=1000000) :
  ∃ j xs,zq (jl (.sl (zu a)) (.sl (zu b))) (vec [.int .i64 ((n:Int)-1)])=some (j,xs)/\(if j=0 then V.int .i64 0 else xs 0) = .int .i64 (cmpL a b n):=by
 induction n with
 | zero=>refine⟨0,vec [],?_,rfl⟩;apply zg;unfold jl;apply yes;simp
 | succ n ih=>
  obtain⟨j,xs,h1,h2⟩:=ih (by omega);have e1:((n+1:Nat):Int)-1=n:=by omega
  have e2:(0:Int)<=n:=by omega
  rw[e1];have l1:=zts a n ha hua;have l2:=zts b n hb hub;have w:=w64 (a:=(n:Int)-1) (by omega);simp only[cmpL];by_cases c1:a[n]?.getD 0<b[n]?.getD 0
  ·refine⟨1,vec [.int .i64 (-1)],?_,by simp[c1]⟩;apply zg;unfold jl;apply yes;simp[l1,l2,e2,c1]
  by_cases c2:b[n]?.getD 0<a[n]?.getD 0
  ·refine⟨1,vec [.int .i64 1],?_,by simp[c1,c2]⟩;apply zg;unfold jl;apply yes;simp[l1,l2,e2,c1,c2]
  ·refine⟨j,xs,?_,by rw[h2,zCj c1,zCj c2]⟩;rw[<- h1];apply zn;unfold jl;apply yes;simp[l1,l2,e2,c1,c2,w]
theorem zAi(a b:List Nat)(ha:a.length<=1000000)(hb:b.length<=1000000)(hua:U32 a)(hub:U32 b) :
  P0 Zi [.v (.sl (zu a)),.v (.sl (zu b))] []=some (.int .i64 (cmpL a b (max a.length b.length)),[]):=by
 rw[znq];unfold zfK;obtain⟨j,xs,h1,h2⟩:=zws a b ha hb hua hub (max a.length b.length) (by omega);have e:zjP (.int .i64 (a.length:Int)) [.int .i64 (b.length:Int)]=some (.int .i64 ((max a.length b.length:Nat):Int)):=by simp only[zjP,zCk];congr 2;split<;>omega
 have w:=w64 (a:=((max a.length b.length:Nat):Int)-1) (by omega);simp only[zb,zm,yj,e,ZF,w,h1];rw[<- h2];by_cases hj:j=0<;>simp[hj]
theorem zvQ(a b:List Nat)(n:Nat):cmpL a b n=0 ↔ ∀ i,i<n->a[i]?.getD 0=b[i]?.getD 0:=by
 induction n with
 | zero=>simp[cmpL]
 | succ n ih=>
  simp only[cmpL];by_cases c1:a[n]?.getD 0<b[n]?.getD 0
  ·rw[zCk c1];constructor
   ·intro h;exact absurd h (by decide)
   ·intro h;have:=h n (by omega);omega
  by_cases c2:b[n]?.getD 0<a[n]?.getD 0
  ·rw[zCj c1,zCk c2];constructor
   ·intro h;exact absurd h (by decide)
   ·intro h;have:=h n (by omega);omega
  ·rw[zCj c1,zCj c2,ih];constructor
   ·intro h i hi;rcases zCt i n with h' | h'
    ·exact h i h'
    ·have:i=n:=by omega
     subst this;omega
   ·intro h i hi;exact h i (by omega)
instance:DecidableEq Nm:=fun a b=>by
 cases a;cases b;simp only[Nm.mk.injEq]
 infer_instance
theorem zxy{n:Nm}(h:n.ok):U32 n.m/\Nrm n.m/\n.m.length<=90:=by
 rcases h with⟨h1,_⟩ | ⟨_,h2,h3,h4,_⟩
 ·rw[h1];exact⟨fun x hx=>by simp at hx,by simp[Nrm],by simp⟩
 ·exact⟨h2,h4,h3⟩
end
section
theorem vr(s:Str):zaK (.str s)=some s.length:=rfl
theorem XF(s:Str)(k:IntKind)(i:Nat)(b:UInt8)(h:s[i]?=some b):ZQ (.str s) (.int k (i:Int))=some (.int .u8 (b.toNat:Int)):=by
 have hi:i<s.length:=by
  rcases zCt i s.length with h' | h'
  ·exact h'
  ·rw[zCG h']at h;cases h
 unfold ZQ;simp[zf k i s.length hi,h]
end
section
attribute [local irreducible] P0
end
section
attribute [local irreducible] P0
theorem yI{i:Nat}(h:i<=1000000000):IntKind.i64.wrap ((i:Int)+1)=((i+1:Nat):Int):=w64 (a:=(i:Int)+1) (by omega)
theorem zsL(l:List Str)(s:Str)(hl:l.length<=1000000)(k:Nat) : ∀ i,i+k=l.length ->
  zq (xR l.length (.sl (strs l)) (.str s)) (vec [.int .i64 (i:Int)])=match pos s (l.drop i)with | some j=>some (1,vec [.int .i64 ((i+j:Nat):Int)]) | none=>some (0,vec []):=by
 induction k with
 | zero=>
  intro i hi;have e:i=l.length:=by omega
  subst e;rw[List.drop_length];apply zg;unfold xR;simp only[yX,xn,Int.lt_irrefl,zCo]
 | succ k ih=>
  intro i hi;have hlt:i<l.length:=by omega
  have c1:(i:Int)<(l.length:Int):=by omega
  have hx:l[i]?=some l[i]:=zL hlt;rw[zO hlt];simp only[pos];by_cases he:l[i]=s
  ·rw[zCk he];apply zg;unfold xR;simp only[xW,yX,c1,zCn,ze,zCl,zy,zd,zf _ i l.length hlt,yk,hx,zC,yd,qf,he,zCB,zCv]
  ·rw[zCj he];have hne:(s==l[i])=false:=by simpa using fun e=>he e.symm
   rw[zn (a':=vec [.int .i64 ((i+1:Nat):Int)])]
   ·rw[ih (i+1) (by omega)];cases pos s (l.drop (i+1))with
    | none=>rfl
    | some j=>simp only[zC];rw[show i+1+j=i+(j+1) by omega]
   ·unfold xR;simp only[yX,xn,c1,zCn,zCl,zy,zd,zf _ i l.length hlt,yk,hx,zC,yd,qf,hne,yU,yI (i:=i) (by omega)]
theorem zj1(l:List Str)(s:Str)(hl:l.length<=1000000):P0 yS [.v (.sl (strs l)),.v (.str s)] []=some (.int .i64 (match pos s l with | some i=>(i:Int) | none => -1),[]):=by
 rw[Qx];unfold Z2;have h:=zsL l s hl l.length 0 (by omega);rw[zU,show((0:Nat):Int)=0 from rfl]at h;simp only[xW,zb,zd,h];cases pos s l with
 | none=>rfl
 | some i=>simp only[zm,zCu];rfl
theorem zvE(k:List Str)(v:List Tree):names (k.zip v)=k.take (min k.length v.length):=by
 induction k generalizing v with
 | nil=>simp[names]
 | cons x r ih=>cases v with
  | nil=>simp[names]
  | cons y s=>have:=ih s;simp only[names]at this ⊢;simp[this,Nat.succ_min_succ]
theorem zvh(k:List Str)(v:List Tree):zz (k.zip v)=v.take (min k.length v.length):=by
 induction k generalizing v with
 | nil=>simp[zz]
 | cons x r ih=>cases v with
  | nil=>simp[zz]
  | cons y s=>have:=ih s;simp only[zz]at this ⊢;simp[this,Nat.succ_min_succ]
theorem zsT(k k':IntKind)(i n:Nat)(h:i<=n):zuv none (some (.int k (i:Int))) (some (.int k' (i:Int))) n=some (0,i):=by simp[zuv,zet,h]
theorem zsG(t:Tree):P0 jH [.v t.val] []=some (.tup [.sl (strs (names (al t))),.sl (trs (zz (al t)))],[]):=by
 rw[zp3];unfold zjd;by_cases hk:t.kind=7
 ·have hal:al t=t.k.zip t.v:=zCk hk;have hm:zqr (.int .i64 ((t.k.length:Nat):Int)) [.int .i64 ((t.v.length:Nat):Int)]=some (.int .i64 ((min t.k.length t.v.length:Nat):Int)):=by simp only[zqr,zCl];congr 2;split<;>omega
  simp only[xn,zj,zp,xk,vQ,hk,zCn,zH,qp,xw,zb,zd,zh,hm,zy,yP,zsT _ _ _ _ (Nat.min_le_left t.k.length t.v.length),zsT _ _ _ _ (Nat.min_le_right t.k.length t.v.length),zU,Nat.sub_zero,j5,Wx,hal,zvE,zvh]
 ·simp only[xW,zj,zp,xk,vQ,hk,zCo,zI,ze,zCl,Wm hk];rfl
theorem zA2{n:Str}{l:AL}:(pos n (names l)).bind (fun i=>(zz l)[i]?)=lk n l:=by
 induction l with
 | nil=>rfl
 | cons p r ih=>
  obtain⟨k,v⟩:=p;show(if k=n then some 0 else(pos n (names r)).map (· + 1)).bind _=if k=n then some v else lk n r
  split
  ·rfl
  ·rw[<- ih];cases pos n (names r)with
   | none=>rfl
   | some i=>simp[zz]
theorem zil{n:Str}{l:AL}:pos n (names l)=none↔lk n l=none:=by
 induction l with
 | nil=>simp[names,pos,lk]
 | cons p r ih=>
  obtain⟨k,v⟩:=p;show(if k=n then some 0 else(pos n (names r)).map (· + 1))=none↔(if k=n then some v else lk n r)=none;split
  ·simp
  ·rw[<- ih];simp
def zrd(n:Str)(l:AL):V:=match lk n l with
 | some x => .tup [x.val,.bool true]
 | none => .tup [Tree.zero.val,.bool false]
theorem zuk(t:Tree)(n:Str)(hl:(al t).length<=1000000):P0 jb [.v t.val,.v (.str n)] []=some (zrd n (al t),[]):=by
 rw[zif];unfold zaQ;have hlen:(names (al t)).length=(al t).length:=jc _;have hlen2:(zz (al t)).length=(al t).length:=wz _;simp only[xW,zj,zp,zsG,zl,zM,zN,zj1 _ _ (by omega:(names (al t)).length<=1000000)];unfold zrd;have h:=zA2 (n:=n) (l:=al t);cases hp:pos n (names (al t))with
 | none=>
  rw[hp]at h;simp only[zCN]at h;rw[<- h];have c1 : ¬ (0:Int) <= -1:=by decide
  simp only[xn,jI,c1,zCo];rfl
 | some i=>have hi:=zrb hp;rw[hp]at h;simp only[zD]at h;have hx:(zz (al t))[i]?=some (zz (al t))[i]:=zL (by omega);rw[hx]at h;rw[<- h];have c1:(0:Int)<=(i:Int):=zY i;simp only[xW,VJ,jI,c1,ze,yP,zh,zf _ i (zz (al t)).length (by omega),wh,hx,zC]
theorem zop(t:Tree)(n:Str)(hk:t.kind=7)(hkl:t.k.length<=1000000)(hl:(al t).length<=1000000)(k:Nat) : ∀ i,i+k=(al t).length ->
  zq (wq t.val (.str n)) (vec [.int .i64 (i:Int),.int .i64 0,.bool false,.bool false,.sl [],.int .i64 0,.str [],.sl [],.sl []]) =
   match lk n ((al t).drop i)with | some x=>some (1,vec [.bool true,x.val]) | none=>some (0,vec [Tree.zero.val]):=by
 have hal:al t=t.k.zip t.v:=zCk hk;have hll:(al t).length=min t.k.length t.v.length:=by rw[hal,List.length_zip]
 induction k with
 | zero=>
  intro i hi;rw[zQ (by omega)];apply zg;unfold wq;by_cases h1:i<t.k.length
  ·have c1:(i:Int)<(t.k.length:Int):=by omega
   have c2 : ¬ (i:Int)<(t.v.length:Int):=by omega
   simp only[yX,xn,qp,xw,zb,zd,zh,c1,c2,zCn,zCo,zCl];rfl
  ·have c1 : ¬ (i:Int)<(t.k.length:Int):=by omega
   simp only[yX,xn,qp,zb,zd,c1,zCo];rfl
 | succ k ih=>
  intro i hi;have h1:i<t.k.length:=by omega
  have h2:i<t.v.length:=by omega
  have c1:(i:Int)<(t.k.length:Int):=by omega
  have c2:(i:Int)<(t.v.length:Int):=by omega
  have hx:t.k[i]?=some t.k[i]:=zL h1;have hy:t.v[i]?=some t.v[i]:=zL h2;have hi':i<(al t).length:=by omega
  have hz:(al t)[i]=(t.k[i],t.v[i]):=by simp[hal]
  rw[zO hi',hz];simp only[lk];by_cases he:t.k[i]=n
  ·rw[zCk he];have heb:(t.k[i]==n)=true:=by simpa using he
   apply zg;unfold wq;simp only[xW,yX,VJ,xk,qp,xw,hk,zb,zd,zh,c1,c2,ze,zv,zy,zf _ i t.k.length h1,yk,hx,zC,yd,qf,heb,yP,zf _ i t.v.length h2,wh,hy]
  ·rw[zCj he];have heb:(t.k[i]==n)=false:=by simpa using he
   rw[<- ih (i+1) (by omega)];apply zn;unfold wq;simp only[yX,xn,xk,qp,xw,hk,zb,zd,zh,zr,c1,c2,zCn,zCl,zv,zy,zf _ i t.k.length h1,yk,hx,zC,yd,qf,heb,yU,yI (i:=i) (by omega)]
theorem ziE(t:Tree)(n:Str)(hkl:t.k.length<=1000000)(hl:(al t).length<=1000000):P0 vB [.v t.val,.v (.str n)] []=some (zrd n (al t),[]):=by
 rw[zgD];unfold J7 zrd;by_cases hk:t.kind=7
 ·have h:=zop t n hk hkl hl (al t).length 0 (by omega);rw[zU,show((0:Nat):Int)=0 from rfl]at h;simp only[wB,zj,zp,h];cases lk n (al t)with
  | none=>simp only[zm];rfl
  | some x=>simp only[zm];rfl
 ·rw[Wm hk];have h:zq (wq t.val (.str n)) (vec [.int .i64 0,.int .i64 0,.bool false,.bool false,.sl [],.int .i64 0,.str [],.sl [],.sl []])=some (0,vec [Tree.zero.val]):=by
   apply zg;unfold wq;by_cases h1:0<t.k.length
   ·have c1:(0:Int)<(t.k.length:Int):=by omega
    by_cases h2:0<t.v.length
    ·have c2:(0:Int)<(t.v.length:Int):=by omega
     simp only[yX,xn,xk,qp,xw,zb,zd,zh,c1,c2,zCn,zCl,zv,hk,zCo];rfl
    ·have c2 : ¬ (0:Int)<(t.v.length:Int):=by omega
     simp only[yX,xn,qp,xw,zb,zd,zh,c1,c2,zCn,zCo,zCl];rfl
   ·have c1 : ¬ (0:Int)<(t.k.length:Int):=by omega
    simp only[yX,xn,qp,zb,zd,c1,zCo];rfl
  simp only[xW,zj,zp,h,lk];rfl
end
section
attribute [local irreducible] P0
theorem zAQ(a b:Str):(!(Op.bytesLess a b||a==b))=lt b a:=by
 by_cases h:a=b
 ·subst h;rw[lt_irrefl];simp
 ·have hb:(a==b)=false:=by simpa using h
  rw[hb,Bool.or_false];cases h1:Op.bytesLess a b with
  | true=>rw[KN h1];rfl
  | false=>rw[zec h h1];rfl
def JS(n:Str):List Str->Option Nat
 | []=>none
 | x::r=>if lt n x=true then some 0 else(JS n r).map (· + 1)
theorem zyC{s:Str}{l:List Str}{i:Nat}(h:JS s l=some i):i<l.length:=by
 induction l generalizing i with
 | nil=>simp[JS]at h
 | cons x r ih=>
  simp only[JS]at h;split at h
  ·injection h with h;subst h;simp
  ·rw[zB]at h;obtain⟨j,hj,rfl⟩:=h;have:=ih hj;simp;omega
theorem zz3(a b:Str):P0 va [.v (.str a),.p 0 0] [(true,1,.str b)]=some (.bool (lt b a),[.str b]):=by rw[zkh];unfold zdF;simp only[xW,ztx,zAQ]
theorem zma:Nat.blt va vo=true:=rfl
theorem zpv(l:List Str)(s:Str)(hl:l.length<=1000000)(k:Nat) : ∀ i,i+k=l.length ->
  zq (xe l.length (.sl (strs l)) va (.str s)) (vec [.int .i64 (i:Int)])=match JS s (l.drop i)with | some j=>some (1,vec [.int .i64 ((i+j:Nat):Int)]) | none=>some (0,vec []):=by
 induction k with
 | zero=>
  intro i hi;have e:i=l.length:=by omega
  subst e;rw[List.drop_length];apply zg;unfold xe;simp only[yX,xn,Int.lt_irrefl,zCo]
 | succ k ih=>
  intro i hi;have hlt:i<l.length:=by omega
  have c1:(i:Int)<(l.length:Int):=by omega
  have hx:l[i]?=some l[i]:=zL hlt;rw[zO hlt];simp only[JS];by_cases he:lt s l[i]=true
  ·rw[zCk he];apply zg;unfold xe;simp only[xW,yX,c1,zCn,ze,zCl,zy,zd,zf _ i l.length hlt,yk,hx,zC,yd,zma,zp,zz3,he,zCv]
  ·rw[zCj he];have he:lt s l[i]=false:=by simpa using he
   rw[zn (a':=vec [.int .i64 ((i+1:Nat):Int)])]
   ·rw[ih (i+1) (by omega)];cases JS s (l.drop (i+1))with
    | none=>rfl
    | some j=>simp only[zC];rw[show i+1+j=i+(j+1) by omega]
   ·unfold xe;simp only[yX,xn,c1,zCn,zCl,zy,zd,zf _ i l.length hlt,yk,hx,zC,yd,zma,zp,zz3,he,yU,yI (i:=i) (by omega)]
theorem zvz(l:List Str)(s:Str)(hl:l.length<=1000000):P0 yq [.v (.sl (strs l)),.fn va [.p 0 0]] [(false,1,.str s)]=some (.int .i64 (match JS s l with | some i=>(i:Int) | none => -1),[.str s]):=by
 rw[WA];unfold kj;have h:=zpv l s hl l.length 0 (by omega);rw[zU,show((0:Nat):Int)=0 from rfl]at h;simp only[xW,zb,zd,h];cases JS s l with
 | none=>rfl
 | some i=>simp only[zm,zCu];rfl
theorem zto(l:List Str)(i:Nat)(n:Str)(hi:i<=l.length)(hl:l.length<=1000000):P0 vg [.u,.v (.sl (strs l)),.v (.int .i64 (i:Int)),.v (.sl [.str n])] []=some (.sl (strs (l.take i++n::l.drop i)),[]):=by
 rw[WH];have hk:zfo 16 (strs l).length [V.str n].length (i:Int)=true:=by simp only[zfo,zd,List.length_singleton,zG,zCR];omega
 have h1:yn 1 [V.str n]=true:=rfl;simp only[Wp,zi5,za7,YU,zag,h1,hk,Bool.and_self,zp,zm,zCQ,j5,zaz];simp[strs]
theorem zxD(l:List Tree)(i:Nat)(x:Tree)(hi:i<=l.length)(hl:l.length<=1000000):P0 qN [.u,.v (.sl (trs l)),.v (.int .i64 (i:Int)),.v (.sl [x.val])] []=some (.sl (trs (l.take i++x::l.drop i)),[]):=by
 rw[JW];have hk:zfo 120 (trs l).length [x.val].length (i:Int)=true:=by simp only[zfo,zh,List.length_singleton,zG,zCR];omega
 have h1:yn 8 [x.val]=true:=by simp[yn,zj]
 simp only[Wp,zi5,za7,YU,ziC,h1,hk,Bool.and_self,zp,zm,zCQ,Wx,Qb];simp[trs]
theorem Zt(l:AL):(obj l).val = .agg [.int .i64 7,.bool false,.bool false,.sl [],.int .i64 0,.str [],.sl (strs (names l)),.sl (trs (zz l))]:=by rw[Tree.val_eq];rfl
theorem zoN{α:Type}(l:List α)(z:α):((wJ (List.replicate l.length z) 0 (l.take (Nat.min l.length l.length))).drop 0).take l.length=l:=by have:Nat.min l.length l.length=l.length:=Nat.min_self _;rw[this,zV (zR _),zU];simp[wJ]
theorem zu6{n:Str}{v:Tree}{l:AL}{i:Nat}(hs:Y8 l)(h:pos n (names l)=some i):names (we n v l)=names l/\zz (we n v l)=(zz l).set i v:=by
 induction l generalizing i with
 | nil=>simp[names,pos]at h
 | cons p r ih=>
  obtain⟨k,w⟩:=p;obtain⟨h1,h2⟩:=kD.1 hs;have h:(if k=n then some 0 else(pos n (names r)).map (· + 1))=some i:=h;simp only[we];by_cases e:k=n
  ·rw[zCk e]at h ⊢;injection h with h;subst h;exact⟨by rw[e];rfl,rfl⟩
  ·rw[zCj e]at h ⊢;rw[zB]at h;obtain⟨j,hj,rfl⟩:=h;have hm:n∈names r:=by apply Classical.byContradiction;intro hc;rw[zil.2 (YV.2 hc)]at hj;contradiction
   have:lt n k=false:=KN (h1 n hm);rw[this];obtain⟨h3,h4⟩:=ih h2 hj;exact⟨by show k::names (we n v r)=k::names r;rw[h3],by show w::zz (we n v r)=(w::zz r).set (j+1) v;rw[h4];rfl⟩
theorem zzA{n:Str}{v:Tree}{l:AL}(h:pos n (names l)=none):names (we n v l)=(names l).take ((JS n (names l)).getD l.length)++n::(names l).drop ((JS n (names l)).getD l.length) /\
  zz (we n v l)=(zz l).take ((JS n (names l)).getD l.length)++v::(zz l).drop ((JS n (names l)).getD l.length):=by
 induction l with
 | nil=>exact⟨rfl,rfl⟩
 | cons p r ih=>
  obtain⟨k,w⟩:=p;have h:(if k=n then some 0 else(pos n (names r)).map (· + 1))=none:=h;split at h
  ·contradiction
  ·next e=>
   have h:pos n (names r)=none:=by simpa using h
   obtain⟨h3,h4⟩:=ih h;have e1:names ((k,w)::r)=k::names r:=rfl;have e2:zz ((k,w)::r)=w::zz r:=rfl;simp only[we,zCj e,e1,e2,JS];by_cases hlt:lt n k=true
   ·simp only[zCk hlt];exact⟨rfl,rfl⟩
   ·simp only[zCj hlt];have e3:((JS n (names r)).map (· + 1)).getD (r.length+1)=(JS n (names r)).getD r.length+1:=by cases JS n (names r)<;>rfl
    simp only[zCw,e3,List.take_succ_cons,List.drop_succ_cons,List.cons_append];exact⟨by show k::names (we n v r)=_;rw[h3],by show w::zz (we n v r)=_;rw[h4]⟩
theorem zyh(t:Tree)(n:Str)(v:Tree)(hs:Y8 (al t))(hl:(al t).length<=1000000):P0 kX [.v t.val,.v (.str n),.v v.val] []=some ((obj (we n v (al t))).val,[]):=by
 rw[zpo];unfold ziK;have hlen:(names (al t)).length=(al t).length:=jc _;have hlen2:(zz (al t)).length=(al t).length:=wz _;have m1:=zlY 16 (names (al t)).length (by omega) (by omega);have m2:=zlY 120 (zz (al t)).length (by omega) (by omega);have e1:=zoN (strs (names (al t))) (.str []);have e2:=fun z=>zoN (trs (zz (al t))) z
 rw[zd]at e1;simp only[zh]at e2;simp only[xW,zj,zp,qj,yd,zsG,zl,zM,zN,zb,zd,zh,m1,m2,Qk,YW,e1,zj1 _ _ (by omega:(names (al t)).length<=1000000)];cases hp:pos n (names (al t))with
 | some i=>
  have hi:=zrb hp;obtain⟨h1,h2⟩:=zu6 (v:=v) hs hp;have c1:(0:Int)<=(i:Int):=zY i;have e3 : ∀ z,(((wJ (List.replicate (zz (al t)).length z) 0 ((trs (zz (al t))).take (Nat.min (zz (al t)).length (zz (al t)).length))).set (0+i) v.val).drop 0).take (zz (al t)).length=trs ((zz (al t)).set i v):=by
   intro z;have:=e2 z;rw[zU]at this ⊢;have hln:(wJ (List.replicate (zz (al t)).length z) 0 ((trs (zz (al t))).take (Nat.min (zz (al t)).length (zz (al t)).length))).length=(zz (al t)).length:=by have h8:Nat.min (zz (al t)).length (zz (al t)).length=(zz (al t)).length:=Nat.min_self _;rw[h8];simp[wJ,zh]
   rw[zV (by omega)]at this;rw[this,zV (by rw[List.length_set,zh];omega),zCu,zmZ]
  simp only[xW,VJ,jI,c1,ze,zf _ i (zz (al t)).length (by omega),zd,zh,e1,e3,Zt,h1,h2]
 | none=>
  obtain⟨h1,h2⟩:=zzA (v:=v) hp;have c1 : ¬ (0:Int) <= -1:=by decide
  simp only[xn,jI,c1,zCo,zd,e1,zvz _ _ (by omega:(names (al t)).length<=1000000),zM];cases hg:JS n (names (al t))with
  | some p=>
   have hpl:=zyC hg;have c2 : ¬ ((p:Int)<0):=by omega
   rw[hg]at h1 h2;simp only[Option.getD_some]at h1 h2;simp only[yX,xn,c2,zCo,qj,zp,yd,Nat.beq_refl,zd,zh,e1,e2,zto _ _ _ (by omega:p<=(names (al t)).length) (by omega),zj,zxD _ _ _ (by omega:p<=(zz (al t)).length) (by omega),Yb,wy,Zt,h1,h2]
  | none=>
   have c2:((-1:Int)<0):=by decide
   rw[hg]at h1 h2;simp only[Option.getD_none]at h1 h2;rw[<- hlen]at h1 h2;have i1:=zto (names (al t)) (names (al t)).length n (zR _) (by omega);have i2:=zxD (zz (al t)) (names (al t)).length v (by omega) (by omega);simp only[xW,yX,VJ,c2,ze,qj,yd,Nat.beq_refl,zd,zh,e1,e2,i1,i2,Yb,wy,Zt,h1,h2]
end
section
attribute [local irreducible] P0
def WF(n:Str)(v:Tree)(has:Bool):Bool->AL->Bool×AL
 | d,[]=>(d,[])
 | d,(k,w)::r=>if d=false/\k=n then((WF n v has true r).1,(n,v)::(WF n v has true r).2)
  else if d=false/\has=false/\lt n k=true then((WF n v has true r).1,(n,v)::(k,w)::(WF n v has true r).2)
  else((WF n v has d r).1,(k,w)::(WF n v has d r).2)
theorem zlT(n:Str)(v:Tree)(has:Bool)(l:AL):WF n v has true l=(true,l):=by
 induction l with
 | nil=>rfl
 | cons p r ih=>obtain⟨k,w⟩:=p;simp[WF,ih]
theorem zzj{n:Str}{v:Tree}{l:AL}(hs:Y8 l):(WF n v (lk n l).isSome false l).2++(if(WF n v (lk n l).isSome false l).1=true then[]else[(n,v)])=we n v l:=by
 cases hh:(lk n l).isSome with
 | true=>
  have hm:n∈names l:=Classical.byContradiction fun hc=>by rw[YV.2 hc]at hh;contradiction
  clear hh;induction l with
  | nil=>simp[names]at hm
  | cons p r ih=>
   obtain⟨k,w⟩:=p;obtain⟨h1,h2⟩:=kD.1 hs;simp only[WF,we,zlT];by_cases e:k=n
   ·simp[e]
   ·have hm2:n∈names r:=by
     rcases List.mem_cons.1 (show n∈k::names r from hm)with h | h
     ·exact(e h.symm).elim
     ·exact h
    have:lt n k=false:=KN (h1 n hm2);have ih:=ih h2 hm2;simp only[e,this,and_false,zCm,zF,zX,false_and];rw[<- ih];rfl
 | false=>
  have hm:n ∉ names l:=fun hc=>by
   have:lk n l≠none:=fun e=>YV.1 e hc
   cases hx:lk n l with
   | none=>exact this hx
   | some x=>rw[hx]at hh;contradiction
  clear hh;induction l with
  | nil=>simp[WF,we]
  | cons p r ih=>
   obtain⟨k,w⟩:=p;obtain⟨h1,h2⟩:=kD.1 hs;have hm : ¬ (n=k\/n∈names r):=fun hc=>hm (List.mem_cons.2 hc)
   have e:k≠n:=fun e=>hm (.inl e.symm)
   simp only[WF,we,zlT,e,and_false,zCm,true_and];by_cases hlt:lt n k=true
   ·simp[hlt]
   ·simp only[hlt,zCm,zF];rw[<- ih h2 (fun hc=>hm (.inr hc))];rfl
theorem zeM(s:Str):yn 1 [V.str s]=true:=rfl
theorem zb9(t:Tree):yn 8 [t.val]=true:=by simp[yn,zj]
theorem zfl(l:List Str)(s:Str):strs l++[V.str s]=strs (l++[s]):=by simp[strs]
theorem zjp(l:List Tree)(t:Tree):trs l++[t.val]=trs (l++[t]):=by simp[trs]
theorem zrP(x:V):[x].length=1:=rfl
theorem zuw(t:Tree)(n:Str)(v:Tree)(has:Bool)(hk:t.kind=7)(hkl:t.k.length<=1000000)(hl:(al t).length<=1000000)(k:Nat) : ∀ (i:Nat) (d:Bool) (ks:List Str) (vs:List Tree),i+k=(al t).length->ks.length<=2*i->vs.length<=2*i ->
  zq (vm t.val (.str n) v.val (.bool has)) (vec [.bool d,.int .i64 (i:Int),.int .i64 7,.bool false,.bool false,.sl [],.int .i64 0,.str [],.sl (strs ks),.sl (trs vs)]) =
   some (0,vec [.bool (WF n v has d ((al t).drop i)).1,.int .i64 7,.bool false,.bool false,.sl [],.int .i64 0,.str [],.sl (strs (ks++names (WF n v has d ((al t).drop i)).2)),.sl (trs (vs++zz (WF n v has d ((al t).drop i)).2))]):=by
 have hal:al t=t.k.zip t.v:=zCk hk;have hll:(al t).length=min t.k.length t.v.length:=by rw[hal,List.length_zip]
 induction k with
 | zero=>
  intro i d ks vs hi hks hvs;rw[zQ (by omega)];apply zg;unfold vm;simp only[WF,names,zz,List.map_nil,List.append_nil];by_cases h1:i<t.k.length
  ·have c1:(i:Int)<(t.k.length:Int):=by omega
   have c2 : ¬ (i:Int)<(t.v.length:Int):=by omega
   simp only[yX,xn,qp,xw,zb,zd,zh,zr,c1,c2,zCn,zCo,zCl,zt]
  ·have c1 : ¬ (i:Int)<(t.k.length:Int):=by omega
   simp only[yX,xn,qp,zb,zd,zr,c1,zCo,zt]
 | succ k ih=>
  intro i d ks vs hi hks hvs;have h1:i<t.k.length:=by omega
  have h2:i<t.v.length:=by omega
  have c1:(i:Int)<(t.k.length:Int):=by omega
  have c2:(i:Int)<(t.v.length:Int):=by omega
  have hx:t.k[i]?=some t.k[i]:=zL h1;have hy:t.v[i]?=some t.v[i]:=zL h2;have hi':i<(al t).length:=by omega
  have hz:(al t)[i]=(t.k[i],t.v[i]):=by simp[hal]
  rw[zO hi',hz];generalize hkk:t.k[i]=kk at *;generalize hww:t.v[i]=ww at *;have a1:=fun m=>wv 16 ks.length m
  have a2:=fun m=>wv 120 vs.length m
  have w:=yI (i:=i) (by omega);simp only[WF];by_cases q1:d=false/\kk=n
  ·rw[zCk q1];obtain⟨rfl,rfl⟩:=q1;have:=ih (i+1) true (ks++[kk]) (vs++[v]) (by omega) (by simp;omega) (by simp;omega);simp only[names,zz,List.map_cons,zCD,List.singleton_append]at this ⊢;rw[<- this];apply zn;unfold vm;simp only[xW,yX,VJ,xk,qp,xw,hk,zb,zd,zh,zr,c1,c2,ze,zv,yE,zI,zy,zf _ i t.k.length h1,yk,hx,zC,yd,qf,zCB,qj,zeM,zt,zrP,wv 16 ks.length 1 (by omega) (by omega),zb9,wv 120 vs.length 1 (by omega) (by omega),yU,w,zfl,zjp]
  ·rw[zCj q1];have hb:(if d=false then(kk==n)else false)=false:=by
    cases d with
    | true=>rfl
    | false=>simpa using fun e=>q1 ⟨rfl,e⟩
   have e27:((if(!d)=true then(za .eql (.str kk) (.str n)).bind fun x25=>some x25 else some (.bool false):Option V))=some (.bool false):=by
    cases d with
    | true=>rfl
    | false=>
     have:(kk==n)=false:=by simpa using fun e=>q1 ⟨rfl,e⟩
     simp only[xW,zI,zCl,qf,this]
   by_cases q2:d=false/\has=false/\lt n kk=true
   ·rw[zCk q2];obtain⟨rfl,rfl,hlt⟩:=q2;have hne:(kk==n)=false:=by simpa using fun e=>q1 ⟨rfl,e⟩
    have hlt2:Op.bytesLess kk n=false:=KN hlt;have:=ih (i+1) true (ks++[n]++[kk]) (vs++[v]++[ww]) (by omega) (by simp;omega) (by simp;omega);simp only[names,zz,List.map_cons,zCD,List.cons_append,List.nil_append]at this ⊢;rw[<- this];apply zn;unfold vm;simp only[yX,VJ,xn,xk,qp,xw,hk,zb,zd,zh,zr,c1,c2,zv,yE,zI,zy,yP,zf _ i t.k.length h1,zf _ i t.v.length h2,yk,wh,hx,hy,zC,yd,qf,hne,ztx,hlt2,Bool.or_false,zI,qj,zeM,zt,zrP,wv 16 ks.length 1 (by omega) (by omega),zb9,wv 120 vs.length 1 (by omega) (by omega),yU,w,zfl,zjp,zd,zh,zZ,List.length_singleton,wv 16 (ks.length+1) 1 (by omega) (by omega),wv 120 (vs.length+1) 1 (by omega) (by omega),zCD,List.cons_append,List.nil_append]
   ·rw[zCj q2];have:=ih (i+1) d (ks++[kk]) (vs++[ww]) (by omega) (by simp;omega) (by simp;omega);simp only[names,zz,List.map_cons,zCD,List.singleton_append]at this ⊢;rw[<- this];apply zn;unfold vm;cases d with
    | true=>simp only[yX,VJ,xn,xk,qp,xw,hk,zb,zd,zh,zr,c1,c2,zv,yE,zH,zy,yP,zf _ i t.k.length h1,zf _ i t.v.length h2,yk,wh,hx,hy,zC,yd,qj,zeM,zt,zrP,wv 16 ks.length 1 (by omega) (by omega),zb9,wv 120 vs.length 1 (by omega) (by omega),yU,w,zfl,zjp]
    | false=>
     have hne:(kk==n)=false:=by simpa using fun e=>q1 ⟨rfl,e⟩
     cases has with
     | true=>simp only[yX,VJ,xn,xk,qp,xw,hk,zb,zd,zh,zr,c1,c2,zv,yE,zH,zI,zy,yP,zf _ i t.k.length h1,zf _ i t.v.length h2,yk,wh,hx,hy,zC,yd,qf,hne,qj,zeM,zt,zrP,wv 16 ks.length 1 (by omega) (by omega),zb9,wv 120 vs.length 1 (by omega) (by omega),yU,w,zfl,zjp]
     | false=>
      have hlt:lt n kk=false:=by
       cases hc:lt n kk with
       | false=>rfl
       | true=>exact(q2 ⟨rfl,rfl,hc⟩).elim
      have hlt2:Op.bytesLess kk n=true:=zec (fun e=>q1 ⟨rfl,e.symm⟩) hlt;simp only[yX,VJ,xn,xk,qp,xw,hk,zb,zd,zh,zr,c1,c2,zv,yE,zH,zI,zy,yP,zf _ i t.k.length h1,zf _ i t.v.length h2,yk,wh,hx,hy,zC,yd,qf,hne,ztx,hlt2,Bool.true_or,qj,zeM,zt,zrP,wv 16 ks.length 1 (by omega) (by omega),zb9,wv 120 vs.length 1 (by omega) (by omega),yU,w,zfl,zjp]
theorem zzh(t:Tree)(n:Str)(v:Tree)(hs:Y8 (al t))(hkl:t.k.length<=1000000)(hl:(al t).length<=1000000):P0 kZ [.v t.val,.v (.str n),.v v.val] []=some ((obj (we n v (al t))).val,[]):=by
 rw[zmN];unfold zfW;have hloop:zq (vm t.val (.str n) v.val (.bool (lk n (al t)).isSome)) (vec [.bool false,.int .i64 0,.int .i64 7,.bool false,.bool false,.sl [],.int .i64 0,.str [],.sl [],.sl []]) =
   some (0,vec [.bool (WF n v (lk n (al t)).isSome false (al t)).1,.int .i64 7,.bool false,.bool false,.sl [],.int .i64 0,.str [],.sl (strs (names (WF n v (lk n (al t)).isSome false (al t)).2)),.sl (trs (zz (WF n v (lk n (al t)).isSome false (al t)).2))]):=by
  by_cases hk:t.kind=7
  ·have h:=zuw t n v (lk n (al t)).isSome hk hkl hl (al t).length 0 false [] [] (by omega) (by simp) (by simp);rw[zU,show((0:Nat):Int)=0 from rfl]at h;simp only[List.nil_append]at h;exact h
  ·rw[Wm hk];apply zg;unfold vm;by_cases h1:0<t.k.length
   ·have c1:(0:Int)<(t.k.length:Int):=by omega
    by_cases h2:0<t.v.length
    ·have c2:(0:Int)<(t.v.length:Int):=by omega
     simp only[yX,xn,xk,qp,xw,zb,zd,zh,zr,c1,c2,zCn,zCl,zv,hk,zCo,zt];rfl
    ·have c2 : ¬ (0:Int)<(t.v.length:Int):=by omega
     simp only[yX,xn,qp,xw,zb,zd,zh,zr,c1,c2,zCn,zCo,zCl,zt];rfl
   ·have c1 : ¬ (0:Int)<(t.k.length:Int):=by omega
    simp only[yX,xn,qp,zb,zd,zr,c1,zCo,zt];rfl
 have hm : ∃ x:Tree,zrd n (al t) = .tup [x.val,.bool (lk n (al t)).isSome]:=by
  unfold zrd;cases lk n (al t)with
  | none=>exact⟨_,rfl⟩
  | some x=>exact⟨x,rfl⟩
 obtain⟨x,hm⟩:=hm;have he:=zzj (v:=v) hs (n:=n);generalize hg:WF n v (lk n (al t)).isSome false (al t)=g at *;obtain⟨d,out⟩:=g;have hlo:out.length<=2000000:=by
  have:out.length<=(we n v (al t)).length:=by rw[<- he];simp
  have:=ztC n v (al t);omega
 have n1:(names out).length=out.length:=jc _;have n2:(zz out).length=out.length:=wz _;simp only[xW,zj,zp,ziE t n hkl hl,hm,zl,zM,zN,hloop,z5,yE,ze];cases d with
 | true=>simp only[zCl,List.append_nil]at he;simp only[wB,zH,zF,zCm,zr,z5,zt,Zt,<- he]
 | false=>
  have he:out++[(n,v)]=we n v (al t):=he;have e1:names (we n v (al t))=names out++[n]:=by rw[<- he];simp[names]
  have e2:zz (we n v (al t))=zz out++[v]:=by rw[<- he];simp[zz]
  simp only[xW,zI,zCl,qj,zp,yd,zeM,zr,z5,zt,zd,zh,zrP,wv 16 (names out).length 1 (by omega) (by omega),zj,zb9,wv 120 (zz out).length 1 (by omega) (by omega),zfl,zjp,Zt,e1,e2]
theorem zv2(n:Nat)(h:n<=100000000):P0 qd [.g,.v (.sl []),.v (.int .i64 (n:Int))] []=some (.sl [],[]):=by
 rw[Qj];have hk:zbW 16 (n:Int)=true:=by simp only[zbW,zG,zCR,zCQ];omega
 simp only[Wp,zi5,za7,KU,hk,zp,zm]
theorem ztj(n:Nat)(h:n<=100000000):P0 j9 [.g,.v (.sl []),.v (.int .i64 (n:Int))] []=some (.sl [],[]):=by
 rw[zaH];have hk:zbW 120 (n:Int)=true:=by simp only[zbW,zG,zCR,zCQ];omega
 simp only[Wp,zi5,za7,KU,hk,zp,zm]
theorem zw2(a b:List V):yn 1 [V.sl a,V.sl b]=true:=rfl
theorem YP(a b:List V):yu 1 (.sl [V.sl a,V.sl b])=some [.sl a,.sl b]:=by unfold yu;simp only[zw2]
theorem znb:slV (.sl [])=some []:=rfl
theorem zrG(a b:List Str)(ha:a.length<=1000000)(hb:b.length<=1000000):P0 xq [.v (.sl [.sl (strs a),.sl (strs b)])] []=some (.sl (strs (a++b)),[]):=by
 rw[V8];unfold Zw;have w1:IntKind.i64.wrap (0+(a.length:Int))=(a.length:Int):=w64 (a:=0+(a.length:Int)) (by omega) |>.trans (by omega);have w2:IntKind.i64.wrap ((a.length:Int)+(b.length:Int))=((a.length+b.length:Nat):Int):=w64 (a:=(a.length:Int)+(b.length:Int)) (by omega) |>.trans (by omega);have w3:IntKind.i64.wrap (0+1)=1:=by decide
 have w4:IntKind.i64.wrap (1+1)=2:=by decide
 have c0 : ¬ (a.length:Int)<0:=by omega
 have c1 : ¬ ((a.length+b.length:Nat):Int)<0:=by omega
 have d0:(0:Int)<((2:Nat):Int):=by decide
 have d1:(1:Int)<((2:Nat):Int):=by decide
 have d2 : ¬ (2:Int)<((2:Nat):Int):=by decide
 have i0:=zgl .i64 2 (by decide);have i1:yQ (.int .i64 1) 2=some 1:=zf .i64 1 2 (by decide);have l1:zq (xK 2 (.sl [.sl (strs a),.sl (strs b)])) (vec [.int .i64 0,.int .i64 0])=some (0,vec [.int .i64 ((a.length+b.length:Nat):Int)]):=by
  rw[zn (a':=vec [.int .i64 (a.length:Int),.int .i64 1])]
  ·rw[zn (a':=vec [.int .i64 ((a.length+b.length:Nat):Int),.int .i64 2])]
   ·apply zg;unfold xK;simp only[yX,xn,zr,d2,zCo]
   ·unfold xK;simp only[yX,xn,zr,d1,zCn,zCl,YP,zCw,zCx,zCu,Nat.reduceAdd,i1,zN,zM,wy,zb,zd,yU,w2,c1,zCo,w4]
  ·unfold xK;simp only[yX,xn,zr,d0,zCn,zCl,YP,zCw,zCx,zCu,Nat.reduceAdd,i0,zM,wy,zb,zd,yU,w1,c0,zCo,w3]
 have l2:zq (xI 2 (.sl [.sl (strs a),.sl (strs b)])) (vec [.sl [],.int .i64 0])=some (0,vec [.sl (strs (a++b))]):=by
  rw[zn (a':=vec [.sl (strs a),.int .i64 1])]
  ·rw[zn (a':=vec [.sl (strs (a++b)),.int .i64 2])]
   ·apply zg;unfold xI;simp only[yX,xn,zr,d2,zCo,zt]
   ·unfold xI;simp only[xW,yX,zr,d1,zCn,ze,zCl,YP,zCw,zCx,zCu,Nat.reduceAdd,i1,zN,zM,wy,Qk,zt,zd,wv 16 a.length b.length (by omega) (by omega),zp,yU,w4,zhn]
  ·unfold xI;simp only[xW,yX,zr,d0,zCn,ze,zCl,YP,zCw,zCx,zCu,Nat.reduceAdd,i0,zM,wy,Qk,zt,zd,wv 16 0 a.length (by omega) (by omega),zp,yU,w3,List.nil_append]
 simp only[xW,zb,zCw,zCx,zCu,Nat.reduceAdd,l1,zCl,z5,zv2 _ (by omega:a.length+b.length<=100000000),znb,l2,zt]
theorem zlz(a b:List Tree)(ha:a.length<=1000000)(hb:b.length<=1000000):P0 yZ [.v (.sl [.sl (trs a),.sl (trs b)])] []=some (.sl (trs (a++b)),[]):=by
 rw[Xf];unfold kU;have w1:IntKind.i64.wrap (0+(a.length:Int))=(a.length:Int):=w64 (a:=0+(a.length:Int)) (by omega) |>.trans (by omega);have w2:IntKind.i64.wrap ((a.length:Int)+(b.length:Int))=((a.length+b.length:Nat):Int):=w64 (a:=(a.length:Int)+(b.length:Int)) (by omega) |>.trans (by omega);have w3:IntKind.i64.wrap (0+1)=1:=by decide
 have w4:IntKind.i64.wrap (1+1)=2:=by decide
 have c0 : ¬ (a.length:Int)<0:=by omega
 have c1 : ¬ ((a.length+b.length:Nat):Int)<0:=by omega
 have d0:(0:Int)<((2:Nat):Int):=by decide
 have d1:(1:Int)<((2:Nat):Int):=by decide
 have d2 : ¬ (2:Int)<((2:Nat):Int):=by decide
 have i0:=zgl .i64 2 (by decide);have i1:yQ (.int .i64 1) 2=some 1:=zf .i64 1 2 (by decide);have l1:zq (yx 2 (.sl [.sl (trs a),.sl (trs b)])) (vec [.int .i64 0,.int .i64 0])=some (0,vec [.int .i64 ((a.length+b.length:Nat):Int)]):=by
  rw[zn (a':=vec [.int .i64 (a.length:Int),.int .i64 1])]
  ·rw[zn (a':=vec [.int .i64 ((a.length+b.length:Nat):Int),.int .i64 2])]
   ·apply zg;unfold yx;simp only[yX,xn,zr,d2,zCo]
   ·unfold yx;simp only[yX,xn,zr,d1,zCn,zCl,YP,zCw,zCx,zCu,Nat.reduceAdd,i1,zN,zM,wy,zb,zh,yU,w2,c1,zCo,w4]
  ·unfold yx;simp only[yX,xn,zr,d0,zCn,zCl,YP,zCw,zCx,zCu,Nat.reduceAdd,i0,zM,wy,zb,zh,yU,w1,c0,zCo,w3]
 have l2:zq (yw 2 (.sl [.sl (trs a),.sl (trs b)])) (vec [.sl [],.int .i64 0])=some (0,vec [.sl (trs (a++b))]):=by
  rw[zn (a':=vec [.sl (trs a),.int .i64 1])]
  ·rw[zn (a':=vec [.sl (trs (a++b)),.int .i64 2])]
   ·apply zg;unfold yw;simp only[yX,xn,zr,d2,zCo,zt]
   ·unfold yw;simp only[xW,yX,zr,d1,zCn,ze,zCl,YP,zCw,zCx,zCu,Nat.reduceAdd,i1,zN,zM,wy,YW,zt,zh,wv 120 a.length b.length (by omega) (by omega),zp,yU,w4,zg2]
  ·unfold yw;simp only[xW,yX,zr,d0,zCn,ze,zCl,YP,zCw,zCx,zCu,Nat.reduceAdd,i0,zM,wy,YW,zt,zh,wv 120 0 a.length (by omega) (by omega),zp,yU,w3,List.nil_append]
 simp only[xW,zb,zCw,zCx,zCu,Nat.reduceAdd,l1,zCl,z5,ztj _ (by omega:a.length+b.length<=100000000),znb,l2,zt]
theorem zzq{n:Str}{l:AL}{i:Nat}(h:pos n (names l)=some i):names (Xe n l)=(names l).take i++(names l).drop (i+1)/\zz (Xe n l)=(zz l).take i++(zz l).drop (i+1):=by
 induction l generalizing i with
 | nil=>simp[names,pos]at h
 | cons p r ih=>
  obtain⟨k,w⟩:=p;have h:(if k=n then some 0 else(pos n (names r)).map (· + 1))=some i:=h;simp only[Xe];by_cases e:k=n
  ·rw[zCk e]at h ⊢;injection h with h;subst h;exact⟨rfl,rfl⟩
  ·rw[zCj e]at h ⊢;rw[zB]at h;obtain⟨j,hj,rfl⟩:=h;obtain⟨h3,h4⟩:=ih hj;exact⟨by show k::names (Xe n r)=k::_;rw[h3];rfl,by show w::zz (Xe n r)=w::_;rw[h4];rfl⟩
theorem zyf(t:Tree)(n:Str)(hl:(al t).length<=1000000):P0 kb [.v t.val,.v (.str n)] []=some ((match lk n (al t)with | some _=>(obj (Xe n (al t))).val | none=>t.val),[]):=by
 rw[zki];unfold zc4;have hlen:(names (al t)).length=(al t).length:=jc _;have hlen2:(zz (al t)).length=(al t).length:=wz _;simp only[xW,zj,zp,zsG,zl,zM,zN,zj1 _ _ (by omega:(names (al t)).length<=1000000)];cases hp:pos n (names (al t))with
 | none=>
  rw[zil.1 hp];have c1:(-1:Int)<0:=by decide
  simp only[xW,VJ,v8,c1,ze]
 | some i=>
  have hi:=zrb hp;have hne:lk n (al t)≠none:=fun e=>by rw[zil.2 e]at hp;contradiction
  obtain⟨x,hx⟩ : ∃ x,lk n (al t)=some x:=by
   cases h:lk n (al t)with
   | none=>exact(hne h).elim
   | some x=>exact⟨x,rfl⟩
  obtain⟨h1,h2⟩:=zzq hp;have c1 : ¬ (i:Int)<0:=by omega
  have w:=yI (i:=i) (by omega);have b1:=KC .i64 (i:Int) (names (al t)).length ⟨zY i,by omega⟩;have b2:=Wc .i64 ((i+1:Nat):Int) (names (al t)).length ⟨zY _,by omega⟩;have b3:=KC .i64 (i:Int) (zz (al t)).length ⟨zY i,by omega⟩;have b4:=Wc .i64 ((i+1:Nat):Int) (zz (al t)).length ⟨zY _,by omega⟩;simp only[zCQ]at b1 b2 b3 b4;have k1:((names (al t)).drop (i+1)).take ((names (al t)).length-(i+1))=(names (al t)).drop (i+1):=zV (by simp);have k2:((zz (al t)).drop (i+1)).take ((zz (al t)).length-(i+1))=(zz (al t)).drop (i+1):=zV (by simp);have cc1:=zrG ((names (al t)).take i) ((names (al t)).drop (i+1)) (by simp;omega) (by simp;omega);have cc2:=zlz ((zz (al t)).take i) ((zz (al t)).drop (i+1)) (by simp;omega) (by simp;omega);simp only[xn,v8,c1,zCo,zy,yP,zd,zh,b1,b2,b3,b4,yU,w,zU,Nat.sub_zero,zaz,j5,Qb,Wx,k1,k2,cc1,cc2,Yb,zp,wy,hx,Zt,h1,h2]
end
section
attribute [local irreducible] P0
theorem yc:null.val = .agg [.int .i64 1,.bool false,.bool false,.sl [],.int .i64 0,.str [],.sl [],.sl []]:=by rw[Tree.val_eq];rfl
theorem OkT.al_srt{t:Tree}(h:OkT t):Y8 (al t):=by have:=h.srt;cases this with | mk _ h _=>exact h
end
section
attribute [local irreducible] P0
theorem zu4(f:Nat)(hf:Nat.blt f vo=true)(g:Tree->Bool)(l:List Tree)(hg : ∀ x,x∈l->P0 f [.v x.val] []=some (.bool (g x),[]))(hl:l.length<=1000000)(k:Nat) : ∀ i,i+k=l.length ->
  ∃ j v,zq (xS l.length (.sl (trs l)) f) (vec [.int .i64 (i:Int)])=some (j,v)/\((l.drop i).any g=true->j=1 /\ ∃ m:Nat,v=vec [.int .i64 (m:Int)])/\((l.drop i).any g=false->j=0):=by
 induction k with
 | zero=>
  intro i hi;refine⟨0,vec [],zg ?_,?_,fun _=>rfl⟩
  ·unfold xS;have e:i=l.length:=by omega
   subst e;simp only[yX,xn,Int.lt_irrefl,zCo]
  ·rw[zQ (by omega)];intro h;rw[List.any_nil]at h;contradiction
 | succ k ih=>
  intro i hi;have hlt:i<l.length:=by omega
  have c1:(i:Int)<(l.length:Int):=by omega
  have hx:l[i]?=some l[i]:=zL hlt;have hgx:=hg l[i] (zCW _);rw[zO hlt];cases hb:g l[i]with
  | true=>refine⟨1,vec [.int .i64 (i:Int)],zg ?_,fun _=>⟨rfl,i,rfl⟩,fun h=>by simp only[List.any_cons,hb,Bool.true_or]at h;contradiction⟩;unfold xS;rw[hb]at hgx;simp only[xW,yX,c1,zCn,ze,zCl,yP,zh,zf _ i l.length hlt,wh,hx,zC,hf,zp,hgx]
  | false=>obtain⟨j,v,h1,h2,h3⟩:=ih (i+1) (by omega);refine⟨j,v,?_,fun h=>h2 (by simpa only[List.any_cons,hb,Bool.false_or]using h),fun h=>h3 (by simpa only[List.any_cons,hb,Bool.false_or]using h)⟩;rw[<- h1];apply zn;unfold xS;rw[hb]at hgx;simp only[yX,xn,c1,zCn,zCl,yP,zh,zf _ i l.length hlt,wh,hx,zC,hf,zp,hgx,yU,yI (i:=i) (by omega)]
theorem zx7(f:Nat)(hf:Nat.blt f vo=true)(g:Tree->Bool)(l:List Tree)(hg : ∀ x,x∈l->P0 f [.v x.val] []=some (.bool (g x),[]))(hl:l.length<=1000000):P0 xb [.v (.sl (trs l)),.fn f []] []=some (.bool (l.any g),[]):=by
 obtain⟨j,v,h1,h2,h3⟩:=zu4 f hf g l hg hl l.length 0 (by omega);rw[zU]at h2 h3;rw[show((0:Nat):Int)=0 from rfl]at h1;rw[WI];unfold ky;rw[Jt];unfold ZR;simp only[xW,zb,zh,h1];cases hb:l.any g with
 | true=>obtain⟨rfl,m,rfl⟩:=h2 hb;have c:(0:Int)<=(m:Int):=zY m;simp only[xW,zCC,zCm,z5,jI,c,zCn]
 | false=>
  have:=h3 hb;subst this;have c : ¬ (0:Int) <= -1:=by decide
  simp only[xW,zCl,jI,c,zCo]
theorem OkT.kind{t:Tree}(h:OkT t):t.kind=1\/t.kind=2\/t.kind=3\/t.kind=4\/t.kind=5\/t.kind=6\/t.kind=7:=by cases h<;>simp[Tree.kind,Ev.null,Ev.obj]
theorem zgX(t:Tree):XD t.val 2 3=t.n.val:=by rw[t.val_eq];rfl
theorem OkT.num_ok{t:Tree}(h:OkT t):t.n.ok:=by cases h<;>first | exact Nm.zero_ok | assumption
theorem OkT.shape{t:Tree}(h:OkT t) :
  (t.kind=1->t=Ev.null)/\(t.kind=2->t = .mk 2 t.b .zero [] [] [])/\(t.kind=3->t = .mk 3 false t.n [] [] [])/\(t.kind=4->t = .mk 4 false .zero t.s [] [])/\(t.kind=5->t = .mk 5 false .zero t.s [] []) /\
  (t.kind=6->t = .mk 6 false .zero [] [] t.v)/\(t.kind=7->t = .mk 7 false .zero [] t.k t.v):=by
 cases h<;>simp[Tree.kind,Ev.null,Ev.obj,Tree.b,Tree.n,Tree.s,Tree.v,Tree.k]
theorem OkT.lens{t:Tree}(h:OkT t):t.k.length<=300/\t.v.length<=300/\(t.kind≠7->t.k=[])/\(t.kind≠6->t.kind≠7->t.v=[])/\(t.kind=7->t.k.length=t.v.length):=by
 cases h with
 | arr v hl hv=>exact⟨by simp[Tree.k],hl,fun _=>rfl,fun h=>absurd rfl h,fun h=>by simp[Tree.kind]at h⟩
 | obj l hs hl hn hv=>exact⟨by show(names l).length<=300;rw[jc];exact hl,by show(zz l).length<=300;rw[wz];exact hl,fun h=>absurd rfl h,fun _ h=>absurd rfl h,fun _=>by show(names l).length=(zz l).length;rw[jc,wz]⟩
 | _=>refine⟨by simp[Tree.k,Ev.null],by simp[Tree.v,Ev.null],fun _=>rfl,fun _ _=>rfl,fun h=>by simp[Tree.kind,Ev.null]at h⟩
theorem OkT.sub{t:Tree}(h:OkT t) : ∀ x,x∈t.v->OkT x:=by
 cases h with
 | arr v hl hv=>exact hv
 | obj l hs hl hn hv=>intro x hx;obtain⟨q,hq,rfl⟩:=List.mem_map.1 (show x∈zz l from hx);exact hv q hq
 | _=>intro x hx;simp[Tree.v,Ev.null]at hx
theorem Tree.ind{Q:Tree->Prop}(h : ∀ t,(∀ x,x∈t.v->Q x)->Q t)(t:Tree):Q t:=by
 have key : ∀ n,∀ t,vk t<=n->Q t:=by
  intro n;induction n with
  | zero=>intro t ht;rw[qb]at ht;omega
  | succ n ih=>
   intro t ht;refine h t (fun x hx=>ih x ?_);have:vk x<=nodesL t.v:=by
    have : ∀ l:List Tree,x∈l->vk x<=nodesL l:=by
     intro l;induction l with
     | nil=>intro h;simp at h
     | cons y r ih2=>
      intro h;simp only[nodesL];rcases List.mem_cons.1 h with rfl | h
      ·omega
      ·have:=ih2 h;omega
    exact this _ hx
   rw[qb]at ht;omega
 exact key _ t (zR _)
end
end Go.Ev
