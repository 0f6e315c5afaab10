/- What functions compute, put together. -/
import Derived.Test.YtnefgdahdccldaaGreatDoorKSA
import Derived.Test.YtnefgdahdccldaaGreatDoorKSp
import Derived.Lib.DecodeN
import Derived.Test.YtnefgdahdccldaaGreatDoorKPv
set_option linter.all false
open Option renaming map_some->zC
open Bool renaming false_eq_true->zF,and_eq_true->zG,not_true->zH,not_false->zI,true_eq_false->zX
open List renaming getElem?_eq_getElem->zL,getElem?_cons_zero->zM,getElem?_cons_succ->zN,drop_eq_getElem_cons->zO,mem_cons_of_mem->zP,drop_eq_nil_of_le->zQ,drop_zero->zU,take_of_length_le->zV
open Nat renaming le_refl->zR,mul_le_mul_right->zW
open Int renaming natCast_nonneg->zY
namespace Go.Ev
abbrev wo:=And.intro @zm @wB
end Go.Ev
namespace Go.Ev
abbrev Y1:=And.intro @z5 @v8
end Go.Ev
namespace Go.Ev
abbrev Yk:=And.intro @if_true.{1} (And.intro @zCn (And.intro @zp @zj))
end Go.Ev
namespace Go.Ev
abbrev xE:=And.intro @zm (And.intro @wB (And.intro @ze (And.intro @if_false.{1} @zF)))
end Go.Ev
namespace Go.Ev
section
attribute [local irreducible] P0
theorem zAR{l:List Str}(h:Srt l) : ∀ i j (hj:j<l.length) (hi:i<j),lt (l[i]'(by omega)) l[j]=true:=by
 induction l with
 | nil=>intro i j hj;simp at hj
 | cons x r ih=>
  intro i j hj hi;cases j with
  | zero=>omega
  | succ j=>
   cases i with
   | zero=>exact h.1 _ (zCW (by simpa using hj))
   | succ i=>exact ih h.2 i j (by simpa using hj) (by omega)
end
section
attribute [local irreducible] P0
theorem zt3(a b:Nat)(hb:0<b)(ha:a<=1000000000000):za .quo (.int .i64 (a:Int)) (.int .i64 (b:Int))=some (.int .i64 ((a/b:Nat):Int)):=by
 have h0:(b:Int)≠0:=by omega
 have h1:a/b<=a:=Nat.div_le_self a b;rw[zjZ _ _ _ h0,Int.tdiv_eq_ediv_of_nonneg (zY _),show((a:Int)/(b:Int))=((a/b:Nat):Int)from(Int.natCast_ediv a b).symm,w64 (a:=((a/b:Nat):Int)) (by generalize a/b=q at h1;omega)]
theorem zgJ(a b:Nat)(hb:0<b):za .rem (.int .i64 (a:Int)) (.int .i64 (b:Int))=some (.int .i64 ((a%b:Nat):Int)):=by
 have h0:(b:Int)≠0:=by omega
 rw[Kn _ _ _ h0,Int.tmod_eq_emod_of_nonneg (zY _),show((a:Int)%(b:Int))=((a%b:Nat):Int)from(Int.natCast_emod a b).symm]
theorem zyq(a:Int)(n:Nat)(hn:0<n)(hn2:n<=2000000000) : ∃ r:Nat,P0 wE [.v (.int .i64 a),.v (.int .i64 (n:Int))] []=some (.int .i64 (r:Int),[])/\r<n/\(0<=a->(r:Int)=a%(n:Int)):=by
 rw[zjA];unfold zaZ;have h0:(n:Int)≠0:=by omega
 have hp:(0:Int)<(n:Int):=by omega
 by_cases ha:0<=a
 ·have e:=Int.tmod_eq_emod_of_nonneg (b:=(n:Int)) ha;have b1:=Int.emod_nonneg a h0;have b2:=Int.emod_lt_of_pos a hp;have c : ¬ (a%(n:Int)<0):=by omega
  refine⟨(a%(n:Int)).toNat,?_,by omega,fun _=>by omega⟩;simp only[xE,Kn _ _ _ h0,v8,e,c,zCo];rw[show(((a%(n:Int)).toNat:Nat):Int)=a%(n:Int) by omega]
 ·have e:a.tmod (n:Int) = -((-a)%(n:Int)):=by rw[<- Int.tmod_eq_emod_of_nonneg (a := -a) (b:=(n:Int)) (by omega),Int.neg_tmod];omega
  have b1:=Int.emod_nonneg (-a) h0;have b2:=Int.emod_lt_of_pos (-a) hp;by_cases hz:(-a)%(n:Int)=0
  ·refine⟨0,?_,hn,fun h=>absurd h ha⟩;simp only[xE,Kn _ _ _ h0,v8,e,hz,Int.neg_zero,Int.lt_irrefl,zCo];rfl
  ·have c : -((-a)%(n:Int))<0:=by omega
   refine⟨((n:Int)-(-a)%(n:Int)).toNat,?_,by omega,fun h=>absurd h ha⟩;simp only[wo,Kn _ _ _ h0,v8,e,c,zCn,ze,zCl,yU,w64 (a := -((-a)%(n:Int))+(n:Int)) (by omega)];rw[show((((n:Int)-(-a)%(n:Int)).toNat:Nat):Int) = -((-a)%(n:Int))+(n:Int) by omega]
def nms:List Str:=[[97],[98],[99],[100,100],[101],[],[120,47,121],[122,126]]
theorem zAk(l:List V):slV (.sl l)=some l:=rfl
theorem zAX:P0 jd [.g] []=some (.sl (strs nms),[]):=by rw[zjh];rfl
theorem zyG : ∀ x,x∈nms->(dec8 x).isSome=true/\x.length<=2000:=by decide
def Md8(d:Nat)(t:Tree):Prop:=OkT t/\Bnd 3 d t
def zhB(d:Nat):Prop := ∀ l:List Int,∃ (t:Tree) (l':List Int),P0 vf [.v (.sl (ints l)),.v (.int .i64 (d:Int))] []=some (.tup [t.val,.sl (ints l')],[])/\Md8 (d+1) t
theorem zhy(p:List V)(v d:Nat)(hv:v<=1073741824)(hd:d<1000)(hm:zhB d)(k:Nat) : ∀ (i:Nat) (l:List Int) (vs:List Tree),i+k=v/12%4->vs.length=i->(∀ x,x∈vs->Md8 (d+1) x) ->
  ∃ (l':List Int) (vs':List Tree),zq (ZA (.int .i64 (v:Int),p) (.int .i64 ((d+1:Nat):Int))) (vec [.sl (ints l),.int .i64 (i:Int),.int .i64 0,.bool false,.bool false,.sl [],.int .i64 0,.str [],.sl [],.sl [],.int .i64 6,.bool false,.bool false,.sl [],.int .i64 0,.str [],.sl [],.sl (trs vs)]) =
   some (0,vec [.sl (ints l'),.int .i64 0,.bool false,.bool false,.sl [],.int .i64 0,.str [],.sl [],.sl [],.int .i64 6,.bool false,.bool false,.sl [],.int .i64 0,.str [],.sl [],.sl (trs vs')])/\vs'.length<=3 /\ ∀ x,x∈vs'->Md8 (d+1) x:=by
 have q12:=zt3 v 12 (by omega) (by omega);have r4:=zgJ (v/12) 4 (by omega);have hlt:v/12%4<4:=zCP _ (by omega);induction k with
 | zero=>
  intro i l vs hi hvs hx;refine⟨l,vs,zg ?_,by omega,hx⟩;unfold ZA;have c1 : ¬ (i:Int)<((v/12%4:Nat):Int):=by omega
  simp only[Y1,xE,show za .quo (.int .i64 (v:Int)) (.int .i64 12)=_ from q12,show za .rem (.int .i64 ((v/12:Nat):Int)) (.int .i64 4)=_ from r4,zr,c1,zCo,zt]
 | succ k ih=>
  intro i l vs hi hvs hx;have c1:(i:Int)<((v/12%4:Nat):Int):=by omega
  obtain⟨t,l1,ht,htm⟩:=hm l;obtain⟨l',vs',h1,h2,h3⟩:=ih (i+1) l1 (vs++[t]) (by omega) (by simp[hvs]) (by
   intro x hxx;rcases List.mem_append.1 hxx with hxx | hxx
   ·exact hx x hxx
   ·rw[List.mem_singleton.1 hxx];exact htm)
  refine⟨l',vs',?_,h2,h3⟩;rw[<- h1];apply zn;unfold ZA;have hs:IntKind.i64.wrap (((d+1:Nat):Int)-1)=(d:Int):=by rw[w64 (a:=((d+1:Nat):Int)-1) (by omega)];omega
  simp only[wo,Y1,Yk,show za .quo (.int .i64 (v:Int)) (.int .i64 12)=_ from q12,show za .rem (.int .i64 ((v/12:Nat):Int)) (.int .i64 4)=_ from r4,zr,c1,ze,ZF,hs,ht,zl,zM,zN,zb9,zt,zh,zrP,wv 120 vs.length 1 (by omega) (by omega),yU,yI (i:=i) (by omega),zjp]
theorem zj5(p:List V)(v d:Nat)(hv:v<=1073741824)(hd:d<1000)(hm:zhB d)(k:Nat) : ∀ (i:Nat) (l:List Int) (u:AL),i+k=v/12%4->u.length<=i->Y8 u->(∀ x,x∈names u->(dec8 x).isSome=true/\x.length<=2000)->(∀ q,q∈u->Md8 (d+1) q.2) ->
  ∃ (l':List Int) (u':AL),zq (ZK (.int .i64 (v:Int),p) (.int .i64 ((d+1:Nat):Int))) (vec [.sl (ints l),.int .i64 (i:Int),.int .i64 0,.bool false,.bool false,.sl [],.int .i64 0,.str [],.sl [],.sl [],.int .i64 7,.bool false,.bool false,.sl [],.int .i64 0,.str [],.sl (strs (names u)),.sl (trs (zz u))]) =
   some (0,vec [.sl (ints l'),.int .i64 0,.bool false,.bool false,.sl [],.int .i64 0,.str [],.sl [],.sl [],(obj u').val])/\u'.length<=3/\Y8 u'/\(∀ x,x∈names u'->(dec8 x).isSome=true/\x.length<=2000) /\ ∀ q,q∈u'->Md8 (d+1) q.2:=by
 have q12:=zt3 v 12 (by omega) (by omega);have r4:=zgJ (v/12) 4 (by omega);have q48:=zt3 v 48 (by omega) (by omega);have hlt:v/12%4<4:=zCP _ (by omega);induction k with
 | zero=>
  intro i l u hi hu hs hn hx;refine⟨l,u,zg ?_,by omega,hs,hn,hx⟩;unfold ZK;have c1 : ¬ (i:Int)<((v/12%4:Nat):Int):=by omega
  simp only[Y1,xE,show za .quo (.int .i64 (v:Int)) (.int .i64 12)=_ from q12,show za .rem (.int .i64 ((v/12:Nat):Int)) (.int .i64 4)=_ from r4,zr,c1,zCo,zt,Zt]
 | succ k ih=>
  intro i l u hi hu hs hn hx;have c1:(i:Int)<((v/12%4:Nat):Int):=by omega
  obtain⟨t,l1,ht,htm⟩:=hm l;have hj:(v/48+3*i)%8<8:=zCP _ (by omega);have hg:nms[(v/48+3*i)%8]?=some (nms[(v/48+3*i)%8]'hj):=zL hj;have hmem:nms[(v/48+3*i)%8]'hj∈nms:=zCW _;generalize hw:nms[(v/48+3*i)%8]'hj=w at hg hmem;obtain⟨l',u',h1,h2,h3,h4,h5⟩:=ih (i+1) l1 (we w t u) (by omega) (by have:=ztC w t u;omega) (Vg hs) (by
   intro x hxx;rcases za4 w t u x hxx with rfl | hxx
   ·exact zyG _ hmem
   ·exact hn x hxx) (by
   intro q hq;rcases znm hq with rfl | hq
   ·exact htm
   ·exact hx q hq)
  refine⟨l',u',?_,h2,h3,h4,h5⟩;rw[<- h1];apply zn;unfold ZK;have hsb:IntKind.i64.wrap (((d+1:Nat):Int)-1)=(d:Int):=by rw[w64 (a:=((d+1:Nat):Int)-1) (by omega)];omega
  have m3:IntKind.i64.wrap (3*(i:Int))=((3*i:Nat):Int):=by rw[w64 (a:=3*(i:Int)) (by omega)];omega
  have a3:IntKind.i64.wrap (((v/48:Nat):Int)+((3*i:Nat):Int))=((v/48+3*i:Nat):Int):=by rw[w64 (a:=((v/48:Nat):Int)+((3*i:Nat):Int)) (by omega)];omega
  have r8:=zgJ (v/48+3*i) 8 (by omega);have hset:=zzh (obj u) w t (by rw[Wh];exact hs) (by show(names u).length<=_;rw[jc];omega) (by rw[Wh];omega);rw[Wh,Zt u]at hset;simp only[wo,Y1,Yk,show za .quo (.int .i64 (v:Int)) (.int .i64 12)=_ from q12,show za .rem (.int .i64 ((v/12:Nat):Int)) (.int .i64 4)=_ from r4,show za .quo (.int .i64 (v:Int)) (.int .i64 48)=_ from q48,zr,c1,ze,ZF,hsb,ht,zl,zM,zN,zAX,zAk,ztA,m3,yU,a3,show za .rem (.int .i64 ((v/48+3*i:Nat):Int)) (.int .i64 8)=_ from r8,zag,zd,zf _ ((v/48+3*i)%8) nms.length hj,yk,hg,zC,yd,hset,yI (i:=i) (by omega)];simp only[Zt,ZE,zM,zN,zm,zt];rfl
end
section
attribute [local irreducible] P0
theorem y1(kind:Int)(b:Bool)(n:Nm)(s:Str)(k:List Str)(v:List Tree):(Tree.mk kind b n s k v).val = .agg [.int .i64 kind,.bool b,.bool n.neg,.sl (zu n.m),.int .i64 n.e,.str s,.sl (strs k),.sl (trs v)]:=by rw[Tree.val_eq];rfl
theorem zyN(i:Nat)(h:i<9) : ∃ x s,zoX false 9 1 (.agg [(.int .i64 0),(.int .i64 1),(.int .i64 2),(.int .i64 3),(.int .i64 4),(.int .i64 5),(.int .i64 6),(.int .i64 8),(.int .i64 9)]) (.int .i64 (i:Int))=some x/\zn6 (.str [97,98,99,34,92,10,195,169,122]) none (some x)=some (.str s)/\(dec8 s).isSome=true/\s.length<=2000:=by
 match i,h with
 | 0,_=>exact⟨_,_,rfl,rfl,rfl,by decide⟩
 | 1,_=>exact⟨_,_,rfl,rfl,rfl,by decide⟩
 | 2,_=>exact⟨_,_,rfl,rfl,rfl,by decide⟩
 | 3,_=>exact⟨_,_,rfl,rfl,rfl,by decide⟩
 | 4,_=>exact⟨_,_,rfl,rfl,rfl,by decide⟩
 | 5,_=>exact⟨_,_,rfl,rfl,rfl,by decide⟩
 | 6,_=>exact⟨_,_,rfl,rfl,rfl,by decide⟩
 | 7,_=>exact⟨_,_,rfl,rfl,rfl,by decide⟩
 | 8,_=>exact⟨_,_,rfl,rfl,rfl,by decide⟩
theorem bytes_at(i:Nat)(h:i<5) : ∃ s,zn6 (.str [0,255,97,98]) none (some (.int .i64 (i:Int)))=some (.str s)/\s.length<=2000:=by
 match i,h with
 | 0,_=>exact⟨_,rfl,by decide⟩
 | 1,_=>exact⟨_,rfl,by decide⟩
 | 2,_=>exact⟨_,rfl,by decide⟩
 | 3,_=>exact⟨_,rfl,by decide⟩
 | 4,_=>exact⟨_,rfl,by decide⟩
theorem zxB(d:Nat){t:Tree}(h:t.v=[]):Bnd 3 (d+1) t := .mk d t (by rw[h];simp) (fun x hx=>by rw[h]at hx;simp at hx)
theorem zfa(d:Nat)(hd:d<1000)(hm : ∀ e,d=e+1->zhB e)(l:List Int) : ∃ (t:Tree) (l':List Int),P0 vf [.v (.sl (ints l)),.v (.int .i64 (d:Int))] []=some (.tup [t.val,.sl (ints l')],[])/\Md8 (d+1) t/\(∀ r,l=45::r->0<d->t.kind=7):=by
 rw[zkA];unfold zdb;cases l with
 | nil=>exact⟨Ev.null,[],by rw[yc];rfl,⟨.null,Bnd.null 3 d⟩,fun r h=>by simp at h⟩
 | cons a r=>
  obtain⟨v,hp1,hv,hv2⟩:=zyq a 1073741824 (by omega) (by omega);have hp1:P0 wE [.v (.int .i64 a),.v (.int .i64 1073741824)] []=some (.int .i64 (v:Int),[]):=hp1;have hlen:(((((r.length+1:Nat):Int))==0)=true)=False:=by
   have : ¬ (((r.length+1:Nat):Int)=0):=by omega
   simp[this];omega
  have hpos:0<r.length+1:=by omega
  have hb1:WB (some (.int .i64 1)) none (r.length+1)=some (1,r.length+1):=Wc _ 1 _ (by omega);have hdrop:((ints (a::r)).drop 1).take (r.length+1-1)=ints r:=by rw[zl4];show(ints r).take (r.length+1-1)=ints r;exact zV (by rw[xv];omega)
  have q12:=zt3 v 12 (by omega) (by omega);have r12:=zgJ v 12 (by omega);have r2:=zgJ (v/12) 2 (by omega);have r9:=zgJ (v/12) 9 (by omega);have r5:=zgJ (v/12) 5 (by omega);obtain⟨n,hn1,hn2⟩:=zut ((v/12:Nat):Int) (by omega) (by omega);obtain⟨tx,ts,ht1,ht2,ht3,ht4⟩:=zyN (v/12%9) (by omega);obtain⟨bs,hby1,hby2⟩:=bytes_at (v/12%5) (by omega);have w64k : ∀ x:Int,-1000<=x->x<=1000->IntKind.i64.wrap x=x:=fun x h1 h2=>w64 (by omega)
  have hk45 : ∀ r',a::r=45::r'->v%12=9:=fun r' h=>by have:a=45:=(List.cons_eq_cons.1 h).1;subst this;have:=hv2 (by omega);omega
  obtain⟨K,hKv,hK⟩ : ∃ K:Int,((v%12:Nat):Int)=K/\(K=0\/K=1\/K=2\/K=3\/K=4\/K=5\/K=6\/K=7\/K=8\/K=9\/K=10\/K=11):=⟨_,rfl,by omega⟩
  have r12':za .rem (.int .i64 (v:Int)) (.int .i64 12)=some (.int .i64 K):=hKv▸r12;have hm':decide ((d:Int)<=0)=false -> ∃ e,d=e+1/\zhB e:=fun h=>by
   have : ¬ (d:Int)<=0:=by simpa using h
   exact⟨d-1,by omega,hm _ (by omega)⟩
  have dz:decide ((d:Int)<=0)=true->d=0:=fun h=>by have:=of_decide_eq_true h;omega
  have leaf : ∀ t:Tree,OkT t->t.v=[]->(K<=5\/d=0)->Md8 (d+1) t/\(∀ r',a::r=45::r'->0<d->t.kind=7):=fun t ho hv hk=>⟨⟨ho,zxB d hv⟩,fun r' h h0=>by have:=hk45 r' h;omega⟩
  cases hd0:decide ((d:Int)<=0)<;>rcases hK with rfl | rfl | rfl | rfl | rfl | rfl | rfl | rfl | rfl | rfl | rfl | rfl <;>
   simp only[xE,zb,xv,zCw,hlen,qF,zgl _ _ hpos,kv,zM,zC,xO,hp1,hb1,hdrop,r12',VY,jI,hd0,zCn,zCo,zCl,Int.reduceLE,Int.reduceSub,Int.reduceEq,ZF,w64k,z5,zr,zv,show za .quo (.int .i64 (v:Int)) (.int .i64 12)=_ from q12,show za .rem (.int .i64 ((v/12:Nat):Int)) (.int .i64 2)=_ from r2,show za .rem (.int .i64 ((v/12:Nat):Int)) (.int .i64 9)=_ from r9,show za .rem (.int .i64 ((v/12:Nat):Int)) (.int .i64 5)=_ from r5,zqm,qj,zp,zpt,yd,hn1,VO,Qv,Ju,Jj,ht1,ht2,hby1,zCC,zt]
  ·exact⟨Ev.null,r,by first | (simp only[y1,yc];done) | (simp only[y1,yc];rfl),leaf _ (.null) rfl (.inl (by decide))⟩
  ·exact⟨.mk 2 (decide (((v/12%2:Nat):Int)=1)) .zero [] [] [],r,by first | (simp only[y1,yc];done) | (simp only[y1,yc];rfl),leaf _ (.bool _) rfl (.inl (by decide))⟩
  ·exact⟨.mk 3 false n [] [] [],r,by first | (simp only[y1,yc];done) | (simp only[y1,yc];rfl),leaf _ (.num n hn2) rfl (.inl (by decide))⟩
  ·exact⟨.mk 3 false n [] [] [],r,by first | (simp only[y1,yc];done) | (simp only[y1,yc];rfl),leaf _ (.num n hn2) rfl (.inl (by decide))⟩
  ·exact⟨.mk 4 false .zero ts [] [],r,by first | (simp only[y1,yc];done) | (simp only[y1,yc];rfl),leaf _ (.text ts ht3 ht4) rfl (.inl (by decide))⟩
  ·exact⟨.mk 5 false .zero bs [] [],r,by first | (simp only[y1,yc];done) | (simp only[y1,yc];rfl),leaf _ (.bytes bs hby2) rfl (.inl (by decide))⟩
  ·obtain⟨e,rfl,hme⟩:=hm' hd0;obtain⟨la,vs,la1,la2,la3⟩:=zhy [] v e (by omega) (by omega) hme (v/12%4) 0 r [] (by omega) rfl (fun x hx=>by simp at hx);simp only[show((0:Nat):Int)=0 from rfl,show trs []=[]from rfl]at la1;refine⟨.mk 6 false .zero [] [] vs,la,?_,⟨.arr vs (by omega) (fun x hx=>(la3 x hx).1),.mk _ _ la2 (fun x hx=>(la3 x hx).2)⟩,fun r' h h0=>by have:=hk45 r' h;omega⟩;simp only[wo,la1,z5,zr,zt,zCC,zCm,y1];rfl
  ·obtain⟨e,rfl,hme⟩:=hm' hd0;obtain⟨la,vs,la1,la2,la3⟩:=zhy [] v e (by omega) (by omega) hme (v/12%4) 0 r [] (by omega) rfl (fun x hx=>by simp at hx);simp only[show((0:Nat):Int)=0 from rfl,show trs []=[]from rfl]at la1;refine⟨.mk 6 false .zero [] [] vs,la,?_,⟨.arr vs (by omega) (fun x hx=>(la3 x hx).1),.mk _ _ la2 (fun x hx=>(la3 x hx).2)⟩,fun r' h h0=>by have:=hk45 r' h;omega⟩;simp only[wo,la1,z5,zr,zt,zCC,zCm,y1];rfl
  ·obtain⟨e,rfl,hme⟩:=hm' hd0;obtain⟨la,vs,la1,la2,la3⟩:=zhy [] v e (by omega) (by omega) hme (v/12%4) 0 r [] (by omega) rfl (fun x hx=>by simp at hx);simp only[show((0:Nat):Int)=0 from rfl,show trs []=[]from rfl]at la1;refine⟨.mk 6 false .zero [] [] vs,la,?_,⟨.arr vs (by omega) (fun x hx=>(la3 x hx).1),.mk _ _ la2 (fun x hx=>(la3 x hx).2)⟩,fun r' h h0=>by have:=hk45 r' h;omega⟩;simp only[wo,la1,z5,zr,zt,zCC,zCm,y1];rfl
  ·obtain⟨e,rfl,hme⟩:=hm' hd0;obtain⟨lo,u,lo1,lo2,lo3,lo4,lo5⟩:=zj5 [] v e (by omega) (by omega) hme (v/12%4) 0 r [] (by omega) (by simp) trivial (fun x hx=>by simp[names]at hx) (fun x hx=>by simp at hx);simp only[show((0:Nat):Int)=0 from rfl,show strs (names [])=[]from rfl,show trs (zz [])=[]from rfl]at lo1;refine⟨obj u,lo,?_,⟨.obj u lo3 (by omega) lo4 (fun q hq=>(lo5 q hq).1),.mk _ _ (by rw[zl2,wz];exact lo2) (fun x hx=>by obtain⟨q,hq,rfl⟩:=List.mem_map.1 (show x∈zz u from hx);exact(lo5 q hq).2)⟩,fun r' h h0=>rfl⟩;simp only[wo,lo1,z5,zr,zt,zCl,zj,zp]
  ·obtain⟨e,rfl,hme⟩:=hm' hd0;obtain⟨lo,u,lo1,lo2,lo3,lo4,lo5⟩:=zj5 [] v e (by omega) (by omega) hme (v/12%4) 0 r [] (by omega) (by simp) trivial (fun x hx=>by simp[names]at hx) (fun x hx=>by simp at hx);simp only[show((0:Nat):Int)=0 from rfl,show strs (names [])=[]from rfl,show trs (zz [])=[]from rfl]at lo1;refine⟨obj u,lo,?_,⟨.obj u lo3 (by omega) lo4 (fun q hq=>(lo5 q hq).1),.mk _ _ (by rw[zl2,wz];exact lo2) (fun x hx=>by obtain⟨q,hq,rfl⟩:=List.mem_map.1 (show x∈zz u from hx);exact(lo5 q hq).2)⟩,fun r' h h0=>rfl⟩;simp only[wo,lo1,z5,zr,zt,zCl,zj,zp]
  ·obtain⟨e,rfl,hme⟩:=hm' hd0;obtain⟨lo,u,lo1,lo2,lo3,lo4,lo5⟩:=zj5 [] v e (by omega) (by omega) hme (v/12%4) 0 r [] (by omega) (by simp) trivial (fun x hx=>by simp[names]at hx) (fun x hx=>by simp at hx);simp only[show((0:Nat):Int)=0 from rfl,show strs (names [])=[]from rfl,show trs (zz [])=[]from rfl]at lo1;refine⟨obj u,lo,?_,⟨.obj u lo3 (by omega) lo4 (fun q hq=>(lo5 q hq).1),.mk _ _ (by rw[zl2,wz];exact lo2) (fun x hx=>by obtain⟨q,hq,rfl⟩:=List.mem_map.1 (show x∈zz u from hx);exact(lo5 q hq).2)⟩,fun r' h h0=>rfl⟩;simp only[wo,lo1,z5,zr,zt,zCl,zj,zp]
  ·exact⟨Ev.null,r,by first | (simp only[y1,yc];done) | (simp only[y1,yc];rfl),leaf _ (.null) rfl (.inl (by decide))⟩
  ·exact⟨.mk 2 (decide (((v/12%2:Nat):Int)=1)) .zero [] [] [],r,by first | (simp only[y1,yc];done) | (simp only[y1,yc];rfl),leaf _ (.bool _) rfl (.inl (by decide))⟩
  ·exact⟨.mk 3 false n [] [] [],r,by first | (simp only[y1,yc];done) | (simp only[y1,yc];rfl),leaf _ (.num n hn2) rfl (.inl (by decide))⟩
  ·exact⟨.mk 3 false n [] [] [],r,by first | (simp only[y1,yc];done) | (simp only[y1,yc];rfl),leaf _ (.num n hn2) rfl (.inl (by decide))⟩
  ·exact⟨.mk 4 false .zero ts [] [],r,by first | (simp only[y1,yc];done) | (simp only[y1,yc];rfl),leaf _ (.text ts ht3 ht4) rfl (.inl (by decide))⟩
  ·exact⟨.mk 5 false .zero bs [] [],r,by first | (simp only[y1,yc];done) | (simp only[y1,yc];rfl),leaf _ (.bytes bs hby2) rfl (.inl (by decide))⟩
  ·exact⟨Ev.null,r,by first | (simp only[y1,yc];done) | (simp only[y1,yc];rfl),leaf _ (.null) rfl (.inr (dz hd0))⟩
  ·exact⟨.mk 2 (decide (((v/12%2:Nat):Int)=1)) .zero [] [] [],r,by first | (simp only[y1,yc];done) | (simp only[y1,yc];rfl),leaf _ (.bool _) rfl (.inr (dz hd0))⟩
  ·exact⟨.mk 3 false n [] [] [],r,by first | (simp only[y1,yc];done) | (simp only[y1,yc];rfl),leaf _ (.num n hn2) rfl (.inr (dz hd0))⟩
  ·exact⟨.mk 3 false n [] [] [],r,by first | (simp only[y1,yc];done) | (simp only[y1,yc];rfl),leaf _ (.num n hn2) rfl (.inr (dz hd0))⟩
  ·exact⟨.mk 4 false .zero ts [] [],r,by first | (simp only[y1,yc];done) | (simp only[y1,yc];rfl),leaf _ (.text ts ht3 ht4) rfl (.inr (dz hd0))⟩
  ·exact⟨.mk 5 false .zero bs [] [],r,by first | (simp only[y1,yc];done) | (simp only[y1,yc];rfl),leaf _ (.bytes bs hby2) rfl (.inr (dz hd0))⟩
theorem zx4 : ∀ d,d<1000->zhB d
 | 0,hd=>fun l=>by obtain⟨t,l',h1,h2,_⟩:=zfa 0 hd (fun e h=>by omega) l;exact⟨t,l',h1,h2⟩
 | d+1,hd=>fun l=>by
  have ih:=zx4 d (by omega);obtain⟨t,l',h1,h2,_⟩:=zfa (d+1) hd (fun e h=>by
    have:e=d:=by omega
    subst this;exact ih) l
  exact⟨t,l',h1,h2⟩
theorem ztv(d:Nat)(hd:d<1000)(l:List Int) : ∃ t:Tree,P0 ve [.v (.sl (ints l)),.v (.int .i64 (d:Int))] []=some (t.val,[])/\OkT t/\Bnd 3 (d+1) t/\(∀ r,l=45::r->0<d->t.kind=7):=by obtain⟨t,l',h1,h2,h3⟩:=zfa d hd (fun e h=>zx4 e (by omega)) l;refine⟨t,?_,h2.1,h2.2,h3⟩;rw[zkp];unfold zcp;simp only[wo,h1,zl,zM,zN,zj,zp]
end
section
attribute [local irreducible] P0
theorem zom{P:Program}{n:Nat}{t e:TypeId}{xs:List V}(hu:P.underlying t=some (.slice e))(he:P.underlying e=some (.int .i64))(h:Ty P n t xs) : ∃ l:List Int,mkV P t xs = .sl (ints l):=by
 cases n with
 | zero=>exact h.elim
 | succ n=>
  unfold Ty at h;rw[hu]at h;obtain⟨ys,_,hy,rfl⟩:=h;have : ∀ ys:List (List V),(∀ x∈ys,Ty P n e x) -> ∃ l:List Int,ys.map (mkV P e)=ints l:=by
   intro ys;induction ys with
   | nil=>intro _;exact⟨[],rfl⟩
   | cons y r ih=>intro hy;obtain⟨l,hl⟩:=ih (fun x hx=>hy x (zP _ hx));obtain⟨z,_,hz⟩:=zAs he (hy y zCO);exact⟨z::l,by rw[List.map_cons,hl,hz];rfl⟩
  obtain⟨l,hl⟩:=this ys hy;refine⟨l,?_⟩;rw[hl];unfold mkV Yh;rw[hu];rfl
end
section
attribute [local irreducible] P0
open Go.Lib (decodeN firstT slowN)
def B(s:Str)(i:Nat):Nat:=(s[i]?.getD 0).toNat
def ud(s:Str)(i:Nat):Nat×Nat:=Utf8.decode ⟨s.toArray⟩ i
theorem zii(s:Str)(i:Nat):B s i<256:=(s[i]?.getD 0).toNat_lt
theorem zsV(s:Str)(i:Nat):((ByteArray.mk s.toArray).get! i).toNat=B s i:=by unfold B ByteArray.get!;congr 1;simp[Array.getElem!_eq_getD,Array.getD_eq_getD_getElem?];rfl
theorem zhH(s:Str)(i:Nat):ud s i=decodeN (s.length-i) (B s i) (B s (i+1)) (B s (i+2)) (B s (i+3)):=by unfold ud;rw[Go.Lib.decode_at,zsV,zsV,zsV,zsV];congr 1
theorem KO{α:Type}{f g:Nat->α}(h:(List.range 256).map f=(List.range 256).map g)(c:Nat)(hc:c<256):f c=g c:=by have h2:=congrArg (·[c]?) h;simp only[zCK,List.getElem?_range hc,zC]at h2;exact Option.some.inj h2
theorem zuD:(List.range 256).map (fun(b:Nat)=>(G_0.drop (b*1))[0]?)=(List.range 256).map (fun(b:Nat)=>some (V.int .u8 (firstT b:Nat))):=by kernel_rfl
theorem zrB:(List.range 256).map (fun(b:Nat)=>za .andNot (.int .i32 (b:Int)) (.int .i32 (-1)))=(List.range 256).map (fun(b:Nat)=>some (V.int .i32 0)):=by kernel_rfl
theorem zuL:(List.range 256).map (fun(b:Nat)=>za .and (.int .u8 (b:Int)) (.int .u8 31))=(List.range 256).map (fun(b:Nat)=>some (V.int .u8 ((b%32:Nat):Int))):=by kernel_rfl
theorem ztS:(List.range 256).map (fun(b:Nat)=>za .and (.int .u8 (b:Int)) (.int .u8 15))=(List.range 256).map (fun(b:Nat)=>some (V.int .u8 ((b%16:Nat):Int))):=by kernel_rfl
theorem zwh:(List.range 256).map (fun(b:Nat)=>za .and (.int .u8 (b:Int)) (.int .u8 7))=(List.range 256).map (fun(b:Nat)=>some (V.int .u8 ((b%8:Nat):Int))):=by kernel_rfl
theorem zeY:(List.range 256).map (fun(b:Nat)=>za .and (.int .u8 (b:Int)) (.int .u8 63))=(List.range 256).map (fun(b:Nat)=>some (V.int .u8 ((b%64:Nat):Int))):=by kernel_rfl
theorem zej(n:Nat)(h:n<2147483648):IntKind.i32.wrap (n:Int)=(n:Int):=IntWalk.i32_in (n:Int) (by omega)
theorem zlk(a k:Nat)(hk:k<32)(h:a*2^k<2147483648):za .shl (.int .i32 (a:Int)) (.int .u64 (k:Int))=some (.int .i32 ((a*2^k:Nat):Int)):=by
 rw[zxY _ _ _ _ (zY k),zCQ];have e:Nat.min k (IntKind.bits .i32)=k:=Nat.min_eq_left (by show k<=32;omega);have e2:(a:Int)*(2:Int)^k=((a*2^k:Nat):Int):=by simp
 rw[e,e2,zej _ h]
theorem zvu(q k c:Nat)(hc:c<2^k)(h:q*2^k+c<2147483648):za .or (.int .i32 ((q*2^k:Nat):Int)) (.int .i32 (c:Int))=some (.int .i32 ((q*2^k+c:Nat):Int)):=by
 have e1:(BitVec.ofInt 32 ((q*2^k:Nat):Int)).toNat=q*2^k:=by rw[BitVec.toNat_ofInt];omega
 have e2:(BitVec.ofInt 32 (c:Int)).toNat=c:=by rw[BitVec.toNat_ofInt];omega
 have h2:=Nat.two_pow_add_eq_or_of_lt hc q;rw[Nat.mul_comm]at h2;have hb:bits .or .i32 ((q*2^k:Nat):Int) (c:Int)=((q*2^k+c:Nat):Int):=by show IntKind.i32.wrap ((BitVec.ofInt 32 ((q*2^k:Nat):Int) ||| BitVec.ofInt 32 (c:Int)).toNat:Nat)=_;rw[BitVec.toNat_or,e1,e2,<- h2,zej _ h]
 simp only[za,JU,Xl,zCn,Bool.or_true,zCk,hb]
theorem zCi{s:Str}{i:Nat}(h:i<s.length) : ∃ b,s[i]?=some b/\b.toNat=B s i:=by refine⟨s[i],zL h,?_⟩;unfold B;rw[zL h];rfl
theorem zln(s:Str)(k:IntKind)(i:Nat)(h:i<s.length):ZQ (.str s) (.int k (i:Int))=some (.int .u8 (B s i:Int)):=by obtain⟨b,h1,h2⟩:=zCi h;rw[XF s k i b h1,h2]
theorem X0(s:Str)(sz lo hi i:Nat)(c4:Nat)(hn:1<=s.length)(hl:s.length<=1000000000)(h1:(G_0.drop (B s 0*1))[0]?=some (.int .u8 (c4:Int)))(h2:c4<240)(h3:za .and (.int .u8 (c4:Int)) (.int .u8 7)=some (.int .u8 (sz:Int)))(h4:za .shr (.int .u8 (c4:Int)) (.int .u64 4)=some (.int .u8 (i:Int)))(h5:i<16)
  (h6:(G_1.drop (i*2)).take 2=[.int .u8 (lo:Int),.int .u8 (hi:Int)]) (h7:Nat.ble 2 (G_1.drop (i*2)).length=true) (hz:2<=sz/\sz<=4) :
  P0 ye [.v (.str s)] []=some (.tup [.int .i32 ((slowN s.length (B s 0) (B s 1) (B s 2) (B s 3) sz lo hi).1:Int),.int .i64 ((slowN s.length (B s 0) (B s 1) (B s 2) (B s 3) sz lo hi).2:Int)],[]):=by
 rw[ja];unfold vd slowN;have dT : ∀ {p:Prop} [Decidable p],p->decide p=true:=fun h=>zCp h
 have dF : ∀ {p:Prop} [Decidable p],¬ p->decide p=false:=fun h=>zCq h
 have d1:decide (((s.length:Nat):Int)<1)=false:=dF (by omega);have d2:decide ((240:Int)<=(c4:Int))=false:=dF (by omega);have i0:ZQ (.str s) (.int .i64 0)=some (.int .u8 (B s 0:Int)):=zln s .i64 0 (by omega);have wsz:IntKind.i64.wrap (sz:Int)=(sz:Int):=w64 (by omega);have l0:=zii s 0;have l1:=zii s 1;have l2:=zii s 2;have l3:=zii s 3;have okA:okN 2 (V.agg [.int .u8 (lo:Int),.int .u8 (hi:Int)])=true:=rfl;by_cases g1:s.length<sz
 ·have e1:decide ((s.length:Int)<(sz:Int))=true:=dT (by omega);rw[zCk g1];simp only[xE,vr,d1,i0,zf _ (B s 0) 256 l0,h1,jI,d2,h3,kA,wsz,h4,zf _ i 16 h5,h7,zp,h6,okA,v8,e1,zCl];rfl
 have e1:decide ((s.length:Int)<(sz:Int))=false:=dF (by omega);rw[zCj g1];have i1:ZQ (.str s) (.int .i64 1)=some (.int .u8 (B s 1:Int)):=zln s .i64 1 (by omega);by_cases g2:B s 1<lo\/hi<B s 1
 ·rw[zCk g2];by_cases g3:B s 1<lo
  ·have e2:decide ((B s 1:Int)<(lo:Int))=true:=dT (by omega);simp only[xE,vr,d1,i0,zf _ (B s 0) 256 l0,h1,jI,d2,h3,kA,wsz,h4,zf _ i 16 h5,h7,zp,h6,okA,v8,e1,zCl,i1,ZE,zM,zN,e2,zX];rfl
  ·have e2:decide ((B s 1:Int)<(lo:Int))=false:=dF (by omega);have e3:decide ((hi:Int)<(B s 1:Int))=true:=dT (by omega);simp only[xE,vr,d1,i0,zf _ (B s 0) 256 l0,h1,jI,d2,h3,kA,wsz,h4,zf _ i 16 h5,h7,zp,h6,okA,v8,e1,zCl,i1,ZE,zM,zN,e2,e3];rfl
 rw[zCj g2];have e2:decide ((B s 1:Int)<(lo:Int))=false:=dF (by omega);have e3:decide ((hi:Int)<(B s 1:Int))=false:=dF (by omega);have m1:za .and (.int .u8 (B s 1:Int)) (.int .u8 63)=some (.int .u8 ((B s 1%64:Nat):Int)):=KO zeY (B s 1) l1;have m2:za .and (.int .u8 (B s 2:Int)) (.int .u8 63)=some (.int .u8 ((B s 2%64:Nat):Int)):=KO zeY (B s 2) l2;have m3:za .and (.int .u8 (B s 3:Int)) (.int .u8 63)=some (.int .u8 ((B s 3%64:Nat):Int)):=KO zeY (B s 3) l3;have k1:B s 1%64<64:=zCP _ (by decide);have k2:B s 2%64<64:=zCP _ (by decide);have k3:B s 3%64<64:=zCP _ (by decide);by_cases g4:sz<=2
 ·have e4:decide ((sz:Int)<=2)=true:=dT (by omega);have a0:za .and (.int .u8 (B s 0:Int)) (.int .u8 31)=some (.int .u8 ((B s 0%32:Nat):Int)):=KO zuL (B s 0) l0;have k0:B s 0%32<32:=zCP _ (by decide);have s0:za .shl (.int .i32 ((B s 0%32:Nat):Int)) (.int .u64 6)=some (.int .i32 ((B s 0%32*2^6:Nat):Int)):=zlk _ 6 (by decide) (by omega);have o0:=zvu (B s 0%32) 6 (B s 1%64) (by omega) (by omega);rw[zCk g4];simp only[xE,vr,d1,i0,zf _ (B s 0) 256 l0,h1,jI,d2,h3,kA,wsz,h4,zf _ i 16 h5,h7,zp,h6,okA,v8,e1,zCl,i1,ZE,zM,zN,e2,e3,VY,e4,a0,zej (B s 0%32) (by omega),s0,m1,zej (B s 1%64) (by omega),o0];rfl
 have e4:decide ((sz:Int)<=2)=false:=dF (by omega);have i2:ZQ (.str s) (.int .i64 2)=some (.int .u8 (B s 2:Int)):=zln s .i64 2 (by omega);rw[zCj g4];by_cases g5:B s 2<128\/191<B s 2
 ·rw[zCk g5];by_cases g6:B s 2<128
  ·have e5:decide ((B s 2:Int)<128)=true:=dT (by omega);simp only[xE,vr,d1,i0,zf _ (B s 0) 256 l0,h1,jI,d2,h3,kA,wsz,h4,zf _ i 16 h5,h7,zp,h6,okA,v8,e1,zCl,i1,ZE,zM,zN,e2,e3,VY,e4,i2,e5,zX];rfl
  ·have e5:decide ((B s 2:Int)<128)=false:=dF (by omega);have e6:decide ((191:Int)<(B s 2:Int))=true:=dT (by omega);simp only[xE,vr,d1,i0,zf _ (B s 0) 256 l0,h1,jI,d2,h3,kA,wsz,h4,zf _ i 16 h5,h7,zp,h6,okA,v8,e1,zCl,i1,ZE,zM,zN,e2,e3,VY,e4,i2,e5,e6];rfl
 rw[zCj g5];have e5:decide ((B s 2:Int)<128)=false:=dF (by omega);have e6:decide ((191:Int)<(B s 2:Int))=false:=dF (by omega);by_cases g7:sz<=3
 ·have e7:decide ((sz:Int)<=3)=true:=dT (by omega);have a0:za .and (.int .u8 (B s 0:Int)) (.int .u8 15)=some (.int .u8 ((B s 0%16:Nat):Int)):=KO ztS (B s 0) l0;have k0:B s 0%16<16:=zCP _ (by decide);have s0:za .shl (.int .i32 ((B s 0%16:Nat):Int)) (.int .u64 12)=some (.int .i32 ((B s 0%16*2^12:Nat):Int)):=zlk _ 12 (by decide) (by omega);have s1:za .shl (.int .i32 ((B s 1%64:Nat):Int)) (.int .u64 6)=some (.int .i32 ((B s 1%64*2^6:Nat):Int)):=zlk _ 6 (by decide) (by omega);have o0:=zvu (B s 0%16) 12 (B s 1%64*2^6) (by omega) (by omega);have o1:=zvu (B s 0%16*64+B s 1%64) 6 (B s 2%64) (by omega) (by omega);rw[show(B s 0%16*64+B s 1%64)*2^6=B s 0%16*2^12+B s 1%64*2^6 by omega]at o1;rw[zCk g7];simp only[xE,vr,d1,i0,zf _ (B s 0) 256 l0,h1,jI,d2,h3,kA,wsz,h4,zf _ i 16 h5,h7,zp,h6,okA,v8,e1,zCl,i1,ZE,zM,zN,e2,e3,VY,e4,i2,e5,e6,e7,a0,zej (B s 0%16) (by omega),s0,m1,zej (B s 1%64) (by omega),s1,o0,m2,zej (B s 2%64) (by omega),o1];rfl
 have e7:decide ((sz:Int)<=3)=false:=dF (by omega);have i3:ZQ (.str s) (.int .i64 3)=some (.int .u8 (B s 3:Int)):=zln s .i64 3 (by omega);rw[zCj g7];by_cases g8:B s 3<128\/191<B s 3
 ·rw[zCk g8];by_cases g9:B s 3<128
  ·have e8:decide ((B s 3:Int)<128)=true:=dT (by omega);simp only[xE,vr,d1,i0,zf _ (B s 0) 256 l0,h1,jI,d2,h3,kA,wsz,h4,zf _ i 16 h5,h7,zp,h6,okA,v8,e1,zCl,i1,ZE,zM,zN,e2,e3,VY,e4,i2,e5,e6,e7,i3,e8,zX];rfl
  ·have e8:decide ((B s 3:Int)<128)=false:=dF (by omega);have e9:decide ((191:Int)<(B s 3:Int))=true:=dT (by omega);simp only[xE,vr,d1,i0,zf _ (B s 0) 256 l0,h1,jI,d2,h3,kA,wsz,h4,zf _ i 16 h5,h7,zp,h6,okA,v8,e1,zCl,i1,ZE,zM,zN,e2,e3,VY,e4,i2,e5,e6,e7,i3,e8,e9];rfl
 rw[zCj g8];have e8:decide ((B s 3:Int)<128)=false:=dF (by omega);have e9:decide ((191:Int)<(B s 3:Int))=false:=dF (by omega);have a0:za .and (.int .u8 (B s 0:Int)) (.int .u8 7)=some (.int .u8 ((B s 0%8:Nat):Int)):=KO zwh (B s 0) l0;have k0:B s 0%8<8:=zCP _ (by decide);have s0:za .shl (.int .i32 ((B s 0%8:Nat):Int)) (.int .u64 18)=some (.int .i32 ((B s 0%8*2^18:Nat):Int)):=zlk _ 18 (by decide) (by omega);have s1:za .shl (.int .i32 ((B s 1%64:Nat):Int)) (.int .u64 12)=some (.int .i32 ((B s 1%64*2^12:Nat):Int)):=zlk _ 12 (by decide) (by omega);have s2:za .shl (.int .i32 ((B s 2%64:Nat):Int)) (.int .u64 6)=some (.int .i32 ((B s 2%64*2^6:Nat):Int)):=zlk _ 6 (by decide) (by omega);have o0:=zvu (B s 0%8) 18 (B s 1%64*2^12) (by omega) (by omega);have o1:=zvu (B s 0%8*64+B s 1%64) 12 (B s 2%64*2^6) (by omega) (by omega);have o2:=zvu (B s 0%8*4096+B s 1%64*64+B s 2%64) 6 (B s 3%64) (by omega) (by omega);rw[show(B s 0%8*64+B s 1%64)*2^12=B s 0%8*2^18+B s 1%64*2^12 by omega]at o1;rw[show(B s 0%8*4096+B s 1%64*64+B s 2%64)*2^6=B s 0%8*2^18+B s 1%64*2^12+B s 2%64*2^6 by omega]at o2;simp only[xE,vr,d1,i0,zf _ (B s 0) 256 l0,h1,jI,d2,h3,kA,wsz,h4,zf _ i 16 h5,h7,zp,h6,okA,v8,e1,zCl,i1,ZE,zM,zN,e2,e3,VY,e4,i2,e5,e6,e7,i3,e8,e9,a0,zej (B s 0%8) (by omega),s0,m1,zej (B s 1%64) (by omega),s1,o0,m2,zej (B s 2%64) (by omega),s2,o1,m3,zej (B s 3%64) (by omega),o2]
 rfl
theorem zwm(s:Str)(c4:Nat)(hn:1<=s.length)(h1:(G_0.drop (B s 0*1))[0]?=some (.int .u8 (c4:Int)))(h2:c4=241):P0 ye [.v (.str s)] []=some (.tup [.int .i32 65533,.int .i64 1],[]):=by
 subst h2;rw[ja];unfold vd;have d1:decide (((s.length:Nat):Int)<1)=false:=zCq (by omega);have d2:decide ((240:Int)<=((241:Nat):Int))=true:=by decide
 have i0:ZQ (.str s) (.int .i64 0)=some (.int .u8 (B s 0:Int)):=zln s .i64 0 (by omega);have l0:=zii s 0;have x8:za .shl (.int .i32 (IntKind.i32.wrap ((241:Nat):Int))) (.int .u64 31)=some (.int .i32 (-2147483648)):=by kernel_rfl
 have x9:za .shr (.int .i32 (-2147483648)) (.int .u64 31)=some (.int .i32 (-1)):=by kernel_rfl
 have x12:=KO zrB (B s 0) l0;have x13:za .and (.int .i32 65533) (.int .i32 (-1))=some (.int .i32 65533):=by kernel_rfl
 have x14:za .or (.int .i32 0) (.int .i32 65533)=some (.int .i32 65533):=by kernel_rfl
 simp only[xE,vr,d1,i0,zf _ (B s 0) 256 l0,h1,jI,d2,zCl,kA,x8,x9,zej (B s 0) (by omega),x12,x13,x14]
theorem zxG(s:Str)(hn:1<=s.length)(hl:s.length<=1000000000)(hb:128<=B s 0):P0 ye [.v (.str s)] []=some (.tup [.int .i32 ((ud s 0).1:Int),.int .i64 ((ud s 0).2:Int)],[]):=by
 have l0:=zii s 0;have l1:=zii s 1;have l2:=zii s 2;have l3:=zii s 3;have h1:(G_0.drop (B s 0*1))[0]?=some (.int .u8 ((firstT (B s 0):Nat):Int)):=KO zuD (B s 0) l0;rw[zhH,Nat.sub_zero,zCu,zCu,zCu];have bad:(B s 0<194\/245<=B s 0)->firstT (B s 0)=241/\decodeN s.length (B s 0) (B s 1) (B s 2) (B s 3)=(65533,1):=by
  intro h;constructor
  ·unfold firstT;repeat' split
   all_goals omega
  ·unfold decodeN
   repeat' split
   all_goals first | rfl | (exfalso;omega)
 by_cases g:B s 0<194\/245<=B s 0
 ·obtain⟨e1,e2⟩:=bad g;rw[zwm s _ hn h1 e1,e2];rfl
 by_cases g1:B s 0<224
 ·rw[<- Go.Lib.slow_C2 _ _ _ _ _ hn l1 l2 l3 (by omega)];exact X0 s 2 128 191 0 2 hn hl (by rw[h1];unfold firstT;rw[zCj (by omega),zCj (by omega),zCk (by omega)]) (by decide) (by kernel_rfl) (by kernel_rfl) (by decide) (by kernel_rfl) (by kernel_rfl) (by decide)
 by_cases g2:B s 0=224
 ·rw[<- Go.Lib.slow_E0 _ _ _ _ _ hn l1 l2 l3 g2];exact X0 s 3 160 191 1 19 hn hl (by rw[h1,g2];rfl) (by decide) (by kernel_rfl) (by kernel_rfl) (by decide) (by kernel_rfl) (by kernel_rfl) (by decide)
 by_cases g3:B s 0=237
 ·rw[<- Go.Lib.slow_ED _ _ _ _ _ hn l1 l2 l3 g3];exact X0 s 3 128 159 2 35 hn hl (by rw[h1,g3];rfl) (by decide) (by kernel_rfl) (by kernel_rfl) (by decide) (by kernel_rfl) (by kernel_rfl) (by decide)
 by_cases g4:B s 0<240
 ·rw[<- Go.Lib.slow_E1 _ _ _ _ _ hn l1 l2 l3 (by omega)];refine X0 s 3 128 191 0 3 hn hl ?_ (by decide) (by kernel_rfl) (by kernel_rfl) (by decide) (by kernel_rfl) (by kernel_rfl) (by decide);rw[h1];unfold firstT;rw[zCj (by omega),zCj (by omega),zCj (by omega),zCj (by omega)];by_cases g5:B s 0<237
  ·rw[zCk g5]
  ·rw[zCj g5,zCj g3,zCk g4]
 by_cases g5:B s 0=240
 ·rw[<- Go.Lib.slow_F0 _ _ _ _ _ hn l1 l2 l3 g5];exact X0 s 4 144 191 3 52 hn hl (by rw[h1,g5];rfl) (by decide) (by kernel_rfl) (by kernel_rfl) (by decide) (by kernel_rfl) (by kernel_rfl) (by decide)
 by_cases g6:B s 0<244
 ·rw[<- Go.Lib.slow_F1 _ _ _ _ _ hn l1 l2 l3 (by omega)];refine X0 s 4 128 191 0 4 hn hl ?_ (by decide) (by kernel_rfl) (by kernel_rfl) (by decide) (by kernel_rfl) (by kernel_rfl) (by decide);rw[h1];unfold firstT;rw[zCj (by omega),zCj (by omega),zCj (by omega),zCj (by omega),zCj (by omega),zCj (by omega),zCj (by omega),zCj (by omega),zCk g6]
 ·have g7:B s 0=244:=by omega
  rw[<- Go.Lib.slow_F4 _ _ _ _ _ hn l1 l2 l3 g7];exact X0 s 4 128 143 4 68 hn hl (by rw[h1,g7];rfl) (by decide) (by kernel_rfl) (by kernel_rfl) (by decide) (by kernel_rfl) (by kernel_rfl) (by decide)
theorem zyn(s:Str)(hn:1<=s.length)(hl:s.length<=1000000000):P0 xg [.v (.str s)] []=some (.tup [.int .i32 ((ud s 0).1:Int),.int .i64 ((ud s 0).2:Int)],[]):=by
 rw[Vm];unfold kY;have i0:ZQ (.str s) (.int .i64 0)=some (.int .u8 (B s 0:Int)):=zln s .i64 0 (by omega);have hne:(s==([]:Str))=false:=by
  cases s with
  | nil=>simp at hn
  | cons a r=>rfl
 have l0:=zii s 0;by_cases g:B s 0<128
 ·have d:decide ((B s 0:Int)<128)=true:=zCp (by omega);have e:ud s 0=(B s 0,1):=by rw[zhH];unfold decodeN;rw[zCk g]
  simp only[wo,zfu,hne,zI,ze,zCl,i0,v8,d,kA,zej (B s 0) (by omega),e];rfl
 ·have d:decide ((B s 0:Int)<128)=false:=zCq (by omega);simp only[xE,zfu,hne,zI,zCl,i0,v8,d,zxG s hn hl (by omega),zl,zM,zN]
end
section
attribute [local irreducible] P0
theorem zhh(l:List Nat)(n:Nat)(hn:n<=l.length)(hl:l.length<=1000000):zq (Zp (.sl (zu l))) (vec [.int .i64 (n:Int)])=some (0,vec [.int .i64 (top l n:Nat)]):=by
 induction n with
 | zero=>apply zg;unfold Zp;apply yes;simp[top]
 | succ n ih=>
  have hx:l[n]?=some l[n]:=zL (by omega);have h1:((n+1:Nat):Int)-1=n:=by omega
  have h2:(0:Int)<((n+1:Nat):Int):=by omega
  by_cases h0:l[n]=0
  ·rw[zn (a':=vec [.int .i64 (n:Int)])]
   ·rw[ih (by omega)];simp[top,hx,h0]
   ·unfold Zp;simp only[z5,Zy,zm,ze,zCn,h2,zCk,ZF,h1,w64 (a:=(n:Int)) (by omega),wS,yj,zf _ n l.length (by omega),ji,hx,zC,xO,zv,h0];simp
  ·have ht:top l (n+1)=n+1:=by unfold top;rw[hx];split<;>simp_all
   rw[ht];apply zg;unfold Zp;simp only[z5,Zy,zm,ze,zCn,h2,zCk,ZF,h1,w64 (a:=(n:Int)) (by omega),wS,yj,zf _ n l.length (by omega),ji,hx,zC,xO,zv];simp[h0]
theorem zo3(l:List Nat)(hl:l.length<=1000000)(hu:U32 l):P0 kW [.v (.sl (zu l))] []=some (.sl (zu (toL (xC l))),[]):=by
 rw[<- zix hu];rw[zpD];unfold zjS;have h:=zhL l l.length;by_cases h0:top l l.length=0
 ·have e:norm l=[]:=by rw[norm,h0];rfl
  simp only[zb,zm,yj,zhh l l.length (zR _) hl,z5,h0,zv,ze,e];simp[zu]
 ·have hm:=zlY 4 (top l l.length) (by omega) (by omega);have e1:Nat.min (zu l).length (top l l.length)=top l l.length:=by rw[yj];exact Nat.min_eq_right h
  simp only[zb,zm,yj,zhh l l.length (zR _) hl,z5,zv,ze];have e2 : ¬ ((top l l.length:Nat):Int)=0:=by omega
  have e3:Nat.min l.length (top l l.length)=top l l.length:=Nat.min_eq_right h;simp only[e2,zCo,zF,zCm,hm,zm,zbR,yj,e3,Yd];rw[zlh _ _ (by simp[yj];omega)];simp only[zU,Yd,List.take_take,Nat.min_self];rfl
theorem zAJ(c x:Nat)(hx:x<B32):c*B32 ||| x=c*B32+x:=by
 have h:=Nat.two_pow_add_eq_or_of_lt (i:=32) (b:=x) (by simpa[B32]using hx) c;have e:(2:Nat)^32=B32:=by decide
 rw[e,Nat.mul_comm]at h;exact h.symm
theorem zqc(l:List Nat)(d:Nat)(q2:Nat×Nat)(hq:q2.1=l.length)(hd:0<d)(hd2:d<B32)(hl:l.length<=1000000)(hu:U32 l)(n:Nat)(hn:n<=l.length) :
  zq (YG (.sl (zu l)) (.int .u32 (d:Int)) q2) (vec [.int .u64 ((small d (l.drop n)).2:Int),.int .i64 ((n:Int)-1),.sl (List.replicate n (.int .u32 0)++zu (small d (l.drop n)).1)])
   = some (0,vec [.int .u64 ((small d l).2:Int),.sl (zu (small d l).1)]):=by
 induction n with
 | zero=>apply zg;unfold YG;apply yes;simp
 | succ n ih=>
  have hx:l[n]?=some l[n]:=zL (by omega);have hdr:l.drop n=l[n]::l.drop (n+1):=zO (by omega);have hb:l[n]<B32:=hu _ (zCW _);have hc:(small d (l.drop (n+1))).2<d:=Kj d hd _;rw[<- ih (by omega)];apply zn;generalize hs:small d (l.drop (n+1))=sm at *;have hsm:small d (l.drop n)=((sm.2*B32+l[n])/d::sm.1,(sm.2*B32+l[n])%d):=by rw[hdr];simp only[small,hs]
  rw[hsm];have hlt:(sm.2*B32+l[n])/d<B32:=by
   rw[Nat.div_lt_iff_lt_mul hd];have:sm.2*B32+B32<=d*B32:=by rw[<- Nat.succ_mul];exact zW _ hc
   rw[Nat.mul_comm B32 d];omega
  have hlt2:sm.2*B32+l[n]<B32*B32:=by
   have:sm.2*B32+B32<=B32*B32:=by rw[<- Nat.succ_mul];exact zW _ (by omega)
   omega
  have h1:((n+1:Nat):Int)-1=n:=by omega
  have hp:(2:Int)^Nat.min (32:Int).toNat (IntKind.bits .u64)=(B32:Int):=by decide
  have hB:B32*B32=18446744073709551616:=by decide
  have hB2:B32=4294967296:=rfl;unfold YG;have ha:(sm.2:Int)*(B32:Int)=((sm.2*B32:Nat):Int):=by simp
  have hdd:((sm.2*B32+l[n]:Nat):Int).tdiv (d:Int)=(((sm.2*B32+l[n])/d:Nat):Int):=by rw[Int.tdiv_eq_ediv_of_nonneg (zY _)];simp
  have hmm:((sm.2*B32+l[n]:Nat):Int).tmod (d:Int)=(((sm.2*B32+l[n])%d:Nat):Int):=by rw[Int.tmod_eq_emod_of_nonneg (zY _)];simp
  have hd0:(d:Int)≠0:=by omega
  have hpos:(0:Int)<=n:=zY n;have hor:za .or (.int .u64 ((sm.2*B32:Nat):Int)) (.int .u64 (l[n]:Int))=some (.int .u64 ((sm.2*B32+l[n]:Nat):Int)):=by have:=u64_or_nat (sm.2*B32) l[n] (by omega) (by omega);rw[zAJ _ _ hb]at this;simp only[za,JU,Xl,zCn,Bool.or_true,zCk,this]
  simp only[z5,zr,jI,h1,hpos,zCn,zm,ze,zCk,zxY _ _ _ _ (show(0:Int)<=32 by decide),hp,ha];rw[zkw (a:=((sm.2*B32:Nat):Int)) (by omega)];simp only[wS,zm,yj,zf _ n l.length (by omega),ji,hx,zC,xO,kA];rw[zkw (a:=(l[n]:Int)) (by omega),zkw (a:=(d:Int)) (by omega)];have hq0:(0:Int)<=(((sm.2*B32+l[n])/d:Nat):Int):=zY _;have hq1:(((sm.2*B32+l[n])/d:Nat):Int)<=4294967295:=Int.ofNat_le.2 (show _<=4294967295 from Nat.le_of_lt_succ hlt);simp only[hor,zm,zjZ _ _ _ hd0,Kn _ _ _ hd0,hdd,hmm,kA];rw[zkw (a:=(((sm.2*B32+l[n])/d:Nat):Int)) ⟨hq0,Int.le_trans hq1 (by decide)⟩,zzt (a:=(((sm.2*B32+l[n])/d:Nat):Int)) ⟨hq0,hq1⟩];simp only[hq,zf _ n l.length (by omega),zm,XG,zp,xO,ZF,zt,zCu,ztD];rw[w64 (a:=(n:Int)-1) (by omega)];rfl
theorem ztX(l:List Nat)(d:Nat)(hd:0<d)(hd2:d<B32)(hl:l.length<=1000000)(hu:U32 l) :
  P0 jQ [.v (.sl (zu l)),.v (.int .u32 (d:Int))] []=some (.tup [.sl (zu (toL (xC l/d))),.int .u32 ((xC l%d:Nat):Int)],[]):=by
 rw[zm0];unfold zfR;have hlt:=Kj d hd l;have hB2:B32=4294967296:=rfl;obtain⟨hv1,hv2⟩:=zak d hd l;have h:=zqc l d (l.length,l.length) rfl hd hd2 hl hu l.length (zR _);simp only[List.drop_length,small,zu,List.map_nil,List.append_nil]at h;simp only[zb,zm,yj,zlY 4 l.length (by omega) (by omega)];rw[w64 (a:=(l.length:Int)-1) (by omega)];simp only[zu]at h ⊢;rw[show((0:Nat):Int)=0 from rfl]at h;rw[h];have e:List.map (fun(x:Nat)=>V.int .u32 (x:Int)) (small d l).1=zu (small d l).1:=rfl;simp only[zm,z5,zr,e,zt,zU,Yd];rw[zV (by rw[XP];omega),zo3 _ (by rw[XP];omega) (zfm d hd l hu),hv1];simp only[zm,kA];rw[zzt (a:=((small d l).2:Int)) (by omega),hv2];rfl
end
section
attribute [local irreducible] P0
theorem zrf(f:Nat) : ∀ (n k:Nat),n<10^f->(toL n).length<=1000000->k+f<=1000000000 ->
  zq jY (vec [.sl (zu (toL n)),.int .i64 (k:Int)])=some (0,vec [.sl (zu (toL (QG n).1)),.int .i64 ((k+(QG n).2:Nat):Int)]):=by
 induction f with
 | zero=>
  intro n k h _ _;have:n=0:=by simpa using h
  subst this;apply zg;unfold jY;apply yes;simp[zj0,zlI,zu]
 | succ f ih=>
  intro n k h hl hk;by_cases h0:n=0
  ·subst h0;apply zg;unfold jY;apply yes;simp[zj0,zlI,zu]
  have hne:toL n≠[]:=fun e=>h0 (zzE.1 e)
  have hlen:(0:Int)<((toL n).length:Int):=by have:0<(toL n).length:=List.length_pos_iff.2 hne;omega
  have hs:P0 jQ [.v (.sl (zu (toL n))),.v (.int .u32 10)] []=_:=ztX (toL n) 10 (by decide) (by decide) hl (zon n);rw[K1]at hs;by_cases h2:n%10=0
  ·have hl':(toL (n/10)).length<=(toL n).length:=by
    apply zs9
    calc n/10<=n:=Nat.div_le_self _ _
     _=xC (toL n):=(K1 n).symm
     _<_:=zpR _ (zon n)
   have:=ih (n/10) (k+1) (by rw[Nat.div_lt_iff_lt_mul (by decide)];rw[Nat.pow_succ]at h;exact h) (by omega) (by omega);rw[zmf h0 h2,show k+((QG (n/10)).2+1)=k+1+(QG (n/10)).2 by omega,<- this];apply zn;unfold jY;have w:=w64 (a:=(k:Int)+1) (by omega);apply yes;simp only[z5,zr,zb,zm,yj,gt_iff_lt,hlen,zCn,zCk,hs,zl,h2];simp[w]
  ·rw[zll (.inr h2)];apply zg;unfold jY;have h2' : ¬ ((n%10:Nat):Int)=0:=by omega
   apply yes;simp only[z5,zr,zb,zm,yj,gt_iff_lt,hlen,zCn,zCk,hs,zl];simp only[zM,zN,zm,vQ,h2',zCo,ze,zI,zCk];simp
theorem zwv(l:List Nat)(hu:U32 l)(hl:l.length<=100000) :
  P0 Yr [.v (.sl (zu l))] []=some (.tup [.sl (zu (toL (QG (xC l)).1)),.int .i64 ((QG (xC l)).2:Int)],[]):=by
 rw[zqz];unfold zi2;have hlt:=zs8 l hu;have h:=zrf (10*l.length) (xC l) 0 hlt (zCA (zs9 (zpR l hu)) (by omega)) (by omega);rw[show((0:Nat):Int)=0 from rfl,zCu]at h;simp only[zo3 l (by omega) hu,zm];rw[h];rfl
end
section
attribute [local irreducible] P0
def jr(s:Str):Nat->Nat->Bool
 | 0,_=>true
 | f+1,i=>if i<s.length then(if(ud s i).1=65533/\(ud s i).2=1 then false else jr s f (i+(ud s i).2))else true
def zoV(s:Str):Bool:=jr s (s.length+1) 0
theorem zAl(s:Str)(i:Nat):1<=(ud s i).2/\(ud s i).2<=4/\(ud s i).1<=1114111:=by
 have l0:=zii s i;rw[zhH];unfold Go.Lib.decodeN
 repeat' split
 all_goals simp only;omega
theorem zm9(s:Str)(i j:Nat):B (s.drop i) j=B s (i+j):=by unfold B;rw[zCI]
theorem zzv(s:Str)(i:Nat):ud (s.drop i) 0=ud s i:=by rw[zhH,zhH,zm9,zm9,zm9,zm9,zCz];rfl
theorem zlj(s:Str)(k:IntKind)(i:Nat)(h:i<=s.length):zn6 (.str s) (some (.int k (i:Int))) none=some (.str (s.drop i)):=by unfold zn6;simp only[Wc k (i:Int) s.length (by omega),zm,zCQ];rw[zV (by rw[zCz];omega)]
theorem zbG(k:IntKind)(n:Nat):Vn (.int k (n:Int))=n:=by simp[Vn]
theorem zbB(s:Str):zjc (.str s)=s:=rfl
theorem zqY(s:Str)(hl:s.length<=1000000000)(f:Nat) : ∀ i,s.length<i+f ->
  ∃ j v,zq (vl (.str s)) (vec [.str s,.int .i64 (i:Int)])=some (j,v)/\((jr s f i=true->j=0)/\(jr s f i=false->j=1/\v 0 = .bool false)):=by
 induction f with
 | zero=>intro i hi;refine⟨0,vec [],zg ?_,fun _=>rfl,fun h=>by simp[jr]at h⟩;unfold vl;simp only[wB,z5,zr,zbG,zbB];rw[zCj (by omega)]
 | succ f ih=>
  intro i hi;by_cases hlt:i<s.length
  ·obtain⟨p1,p2,p3⟩:=zAl s i;obtain⟨j,v,h1,h2,h3⟩:=ih (i+(ud s i).2) (by omega);have hgo:zq (vl (.str s)) (vec [.str s,.int .i64 ((i+(ud s i).2:Nat):Int)])=some (j,v):=h1;have e1:(Utf8.decode ⟨s.toArray⟩ i)=ud s i:=rfl;have hrr:=zyn (s.drop i) (by rw[zCz];omega) (by rw[zCz];omega);rw[zzv]at hrr;by_cases hb:(ud s i).1=65533
   ·have hb':((((ud s i).1:Nat):Int) != 65533)=false:=by rw[hb];rfl
    by_cases hn:(ud s i).2=1
    ·refine⟨1,vec [.bool false],zg ?_,fun h => ?_,fun _=>⟨rfl,rfl⟩⟩
     ·unfold vl;simp only[wB,z5,zr,zbG,zbB];rw[zCk hlt,e1,hb'];simp only[xE,z5,zr,zbG,zbB,zlj s .i64 i (by omega),hrr,zl,zM,zN,zv,hn,show decide (((1:Nat):Int)=1)=true by decide,zCl]
     ·rw[jr,zCk hlt,zCk ⟨hb,hn⟩]at h;contradiction
    ·refine⟨j,v,?_,fun h=>h2 ?_,fun h=>h3 ?_⟩
     ·rw[<- hgo];apply zn;unfold vl;have hn':decide ((((ud s i).2:Nat):Int)=1)=false:=zCq (by omega);simp only[wB,z5,zr,zbG,zbB];rw[zCk hlt,e1,hb'];simp only[xE,z5,zr,zbG,zbB,zlj s .i64 i (by omega),hrr,zl,zM,zN,zv,hn'];rfl
     ·rw[jr,zCk hlt,zCj (fun q=>hn q.2)]at h;exact h
     ·rw[jr,zCk hlt,zCj (fun q=>hn q.2)]at h;exact h
   ·have hb':((((ud s i).1:Nat):Int) != 65533)=true:=by rw[bne_iff_ne];omega
    refine⟨j,v,?_,fun h=>h2 ?_,fun h=>h3 ?_⟩
    ·rw[<- hgo];apply zn;unfold vl;simp only[wB,z5,zr,zbG,zbB];rw[zCk hlt,e1,hb',zCk rfl];rfl
    ·rw[jr,zCk hlt,zCj (fun q=>hb q.1)]at h;exact h
    ·rw[jr,zCk hlt,zCj (fun q=>hb q.1)]at h;exact h
  ·refine⟨0,vec [],zg ?_,fun _=>rfl,fun h=>by rw[jr,zCj hlt]at h;contradiction⟩;unfold vl;simp only[wB,z5,zr,zbG,zbB];rw[zCj hlt]
theorem zvK(s:Str):zfD (.str s)=some s:=rfl
theorem zlw(s:Str)(hl:s.length<=1000000000):P0 jJ [.v (.str s)] []=some (.bool (zoV s),[]):=by
 obtain⟨j,v,h1,h2,h3⟩:=zqY s hl (s.length+1) 0 (by omega);rw[zmA];unfold zf7;simp only[wo,zvK,h1];unfold zoV;cases h:jr s (s.length+1) 0 with
 | true=>rw[h2 h,zCk rfl]
 | false=>obtain⟨rfl,hv⟩:=h3 h;rw[zCj (by decide)];show some (v 0,[])=_;rw[hv]
theorem zwi(n:Nat) : ∀ (pre r:Str),r.length<=n->(dec8 r).isSome=true -> ∀ f,jr (pre++r) f pre.length=true:=by
 induction n with
 | zero=>
  intro pre r hr h f;have:r=[]:=by cases r with | nil=>rfl | cons _ _=>simp at hr
  subst this;cases f with
  | zero=>rfl
  | succ f=>rw[jr,zCj (by simp)]
 | succ n ih=>
  intro pre r hr h f;cases f with
  | zero=>rfl
  | succ f=>
   have asc : ∀ (b:UInt8) (t:Str),r=b::t->b.toNat<128->(dec8 t).isSome=true->jr (pre++r) (f+1) pre.length=true:=by
    intro b t hrt hb ht;have hB:B (pre++r) pre.length=b.toNat:=by unfold B;rw[hrt];simp
    have e:ud (pre++r) pre.length=(b.toNat,1):=by rw[zhH,hB];unfold Go.Lib.decodeN;rw[zCk hb]
    rw[jr,e];split
    ·rw[zCj (by simp only;omega)];have:=ih (pre++[b]) t (by rw[hrt]at hr;simpa using hr) ht f;rw[hrt];simpa using this
    ·rfl
   match r,hr,h,asc with
   | [],_,_,_=>rw[jr,zCj (by simp)]
   | [b],hr,h,asc=>
    have h':b.toNat<128:=by simp only[dec8]at h;split at h<;>first | assumption | simp at h
    exact asc b [] rfl h' rfl
   | b::c::t,hr,h,asc=>
    by_cases hbc:b=195/\c=169
    ·obtain⟨rfl,rfl⟩:=hbc;have ht:(dec8 t).isSome=true:=by simpa[dec8]using h
     have hB:B (pre++195::169::t) pre.length=195:=by unfold B;simp
     have hB1:B (pre++195::169::t) (pre.length+1)=169:=by unfold B;simp
     have e:ud (pre++195::169::t) pre.length=(233,2):=by rw[zhH,hB,hB1];unfold Go.Lib.decodeN;rw[zCj (by decide),zCk ⟨by decide,by simp,by decide⟩,zCk (by decide)]
     rw[jr,e];split
     ·rw[zCj (by decide)];have:=ih (pre++[195,169]) t (by simp at hr ⊢;omega) ht f;simpa using this
     ·rfl
    ·have h2:b.toNat<128/\(dec8 (c::t)).isSome=true:=by
      rw[dec8.eq_3 _ _ (by intro r' h1 h2;exact hbc (by simp_all))]at h;split at h
      ·next hb=>exact⟨hb,by simpa using h⟩
      ·simp at h
     exact asc b (c::t) rfl h2.1 h2.2
theorem ztG{s:Str}(h:(dec8 s).isSome=true):zoV s=true:=zwi s.length [] s (zR _) h (s.length+1)
def JD(s:Str):Bool:=decide (s.length<=2000)&&zoV s
theorem Kv(s:Str):P0 jL [.v (.str s)] []=some (.bool (JD s),[]):=by
 rw[zm6];unfold zf8 JD;by_cases h:s.length<=2000
 ·have d:decide (((s.length:Nat):Int)<=2000)=true:=zCp (by omega);simp only[wo,vr,d,zCl,zlw s (by omega),zCp h,Bool.true_and]
 ·have d:decide (((s.length:Nat):Int)<=2000)=false:=zCq (by omega);simp only[wo,vr,d,zF,zCm,zCq h,Bool.false_and]
end
section
attribute [local irreducible] P0
theorem zBM(n:Nat):(QG n).2=0↔n=0\/n%10≠0:=by
 constructor
 ·intro h;by_cases h0:n≠0/\n%10=0
  ·rw[zmf h0.1 h0.2]at h;simp at h
  ·omega
 ·intro h;rw[zll h]
def nokB(n:Nm):Bool:=if n.m=[]then(!n.neg&&decide (n.e=0))else decide (n.m.length<=90/\lat n.m (n.m.length-1)≠0 /\ -1200<=n.e/\n.e<=1200/\xC n.m%10≠0)
theorem zy6{l:List Nat}(h:l≠[])(h2:lat l (l.length-1)≠0):Nrm l/\xC l≠0:=by
 have hp:=List.length_pos_iff.2 h;have hn:Nrm l:=by unfold Nrm;intro h3;unfold lat at h2;rw[h3]at h2;exact h2 rfl
 exact⟨hn,fun h0=>h (zmT hn h0)⟩
theorem zhx(n:Nm)(hu:U32 n.m)(hl:n.m.length<=9223372036854775807):P0 jK [.v n.val] []=some (.bool (nokB n),[]):=by
 rw[znr];unfold zfq;unfold nokB;by_cases h0:n.m=[]
 ·rw[zCk h0];cases hn:n.neg<;>(apply yes;simp[h0,hn])
 ·have hp:=List.length_pos_iff.2 h0;rw[zCj h0];have e2:=w64 (a:=(n.m.length:Int)-1) (by omega);have e3:=zv7 .i64 ((n.m.length:Int)-1) n.m.length (by omega);have e4:((n.m.length:Int)-1).toNat=n.m.length-1:=by omega
  have e8:n.m.length-1<n.m.length:=by omega
  have e5:n.m[n.m.length-1]=lat n.m (n.m.length-1):=by unfold lat;rw[zL e8];rfl
  by_cases c1:n.m.length<=90
  ·have ht:=zwv n.m hu (by omega);have c1' : ¬ ((90:Int)<(n.m.length:Int))/\(n.m.length:Int)<=90:=by omega
   by_cases c2:lat n.m (n.m.length-1)=0
   ·apply yes;simp[h0,c1',e2,e3,e4,e8,e5,c2]
   ·by_cases c3:n.e < -1200
    ·have c3' : ¬ (-1200<=n.e):=by omega
     apply yes;simp[h0,c1',e2,e3,e4,e8,e5,c2,c3,c3']
    ·have c3' : ¬ (n.e < -1200) /\ -1200<=n.e:=by omega
     by_cases c4:1200<n.e
     ·have c4' : ¬ (n.e<=1200):=by omega
      apply yes;simp[h0,c1',e2,e3,e4,e8,e5,c2,c3',c4,c4']
     ·have c4' : ¬ (1200<n.e)/\n.e<=1200:=by omega
      have hv:=(zy6 h0 c2).2;have c5:(QG (xC n.m)).2=0 ↔ ¬ xC n.m%10=0:=by rw[zBM];omega
      apply yes;simp[h0,c1,c1',e2,e3,e4,e8,e5,c2,c3',c4',ht,c5]
  ·have c1':((90:Int)<(n.m.length:Int)) /\ ¬ (n.m.length:Int)<=90:=by omega
   apply yes;simp[h0,c1',c1]
theorem Nm.ok.nokB{n:Nm}(h:n.ok):nokB n=true:=by
 unfold Ev.nokB;rcases h with⟨h1,h2,h3⟩ | ⟨h1,h2,h3,h4,h5,h6,h7⟩
 ·rw[zCk h1,h2,h3];rfl
 ·rw[zCj h1,zCR];refine⟨h3,?_,h5,h6,by rw[<- (zak 10 (by decide) n.m).2];exact h7⟩;have hp:=List.length_pos_iff.2 h1;unfold lat;intro h0;rw[zL (by omega)]at h0;exact h4 (by rw[zL (by omega)];congr 1)
theorem zy5{i:Nat}(h:i<=9223372036854775806):IntKind.i64.wrap ((i:Int)+1)=((i+1:Nat):Int):=w64 (a:=(i:Int)+1) (by omega)
def zas(l:List Str)(i:Nat):Prop := ∀ k (h:k<l.length),i<=k->JD l[k]=true/\(∀ (h0:0<k),lt (l[k-1]'(by omega)) l[k]=true)
theorem zq0(l:List Str)(hl:l.length<=9223372036854775807)(m:Nat) : ∀ i,i+m=l.length ->
  (zas l i->zq (y8 l.length (.sl (strs l))) (vec [.int .i64 (i:Int)])=some (0,vec []))/\(¬ zas l i->zq (y8 l.length (.sl (strs l))) (vec [.int .i64 (i:Int)])=some (1,vec [.bool false])):=by
 induction m with
 | zero=>
  intro i hi;refine⟨fun _=>zg ?_,fun h=>absurd (fun k hk hik=>by omega) h⟩;unfold y8;have c1 : ¬ (i:Int)<(l.length:Int):=by omega
  simp only[Y1,xE,c1,zCo]
 | succ m ih=>
  intro i hi;have h1:i<l.length:=by omega
  have c1:(i:Int)<(l.length:Int):=by omega
  have hx:l[i]?=some l[i]:=zL h1;obtain⟨q1,q2⟩:=ih (i+1) (by omega);have split:zas l i↔(JD l[i]=true/\(∀ h0:0<i,lt (l[i-1]'(by omega)) l[i]=true))/\zas l (i+1):=by
   constructor
   ·intro h;exact⟨h i h1 (zR i),fun k hk hik=>h k hk (by omega)⟩
   ·rintro⟨ha,hb⟩ k hk hik;by_cases e:k=i
    ·subst e;exact ha
    ·exact hb k hk (by omega)
  by_cases ht:JD l[i]=true
  ·by_cases h0:0<i
   ·have c3:(0:Int)<(i:Int):=by omega
    have hm:IntKind.i64.wrap ((i:Int)-1)=((i-1:Nat):Int):=by rw[w64 (a:=(i:Int)-1) (by omega)];omega
    have hy:l[i-1]?=some l[i-1]:=zL (by omega);cases hlt:lt (l[i-1]'(by omega)) l[i]with
    | true=>
     have g1:Op.bytesLess (l[i-1]'(by omega)) l[i]=true:=hlt;have step:zq (y8 l.length (.sl (strs l))) (vec [.int .i64 (i:Int)])=zq (y8 l.length (.sl (strs l))) (vec [.int .i64 ((i+1:Nat):Int)]):=by apply zn;unfold y8;simp only[Y1,xE,c1,zCn,zCl,zy,zd,zf _ i l.length h1,yk,hx,zC,yd,Kv,ht,yE,zH,Zy,c3,ZF,hm,zf _ (i-1) l.length (by omega),hy,zxE,g1,yU,zy5 (i:=i) (by omega)]
     rw[step];exact⟨fun h=>q1 (split.1 h).2,fun h=>q2 (fun h2=>h (split.2 ⟨⟨ht,fun _=>hlt⟩,h2⟩))⟩
    | false=>
     have g1:Op.bytesLess (l[i-1]'(by omega)) l[i]=false:=hlt;refine⟨fun h => ?_,fun _=>zg ?_⟩
     ·have:=(split.1 h).1.2 h0;rw[hlt]at this;contradiction
     ·unfold y8;simp only[wo,Y1,c1,zCn,ze,zCl,zy,zd,zf _ i l.length h1,yk,hx,zC,yd,Kv,ht,yE,zH,Zy,c3,ZF,hm,zf _ (i-1) l.length (by omega),hy,zxE,g1,zI]
   ·have c3 : ¬ (0:Int)<(i:Int):=by omega
    have step:zq (y8 l.length (.sl (strs l))) (vec [.int .i64 (i:Int)])=zq (y8 l.length (.sl (strs l))) (vec [.int .i64 ((i+1:Nat):Int)]):=by apply zn;unfold y8;simp only[Y1,xE,c1,zCn,zCl,zy,zd,zf _ i l.length h1,yk,hx,zC,yd,Kv,ht,yE,zH,Zy,c3,zCo,yU,zy5 (i:=i) (by omega)]
    rw[step];exact⟨fun h=>q1 (split.1 h).2,fun h=>q2 (fun h2=>h (split.2 ⟨⟨ht,fun h=>absurd h h0⟩,h2⟩))⟩
  ·have ht':JD l[i]=false:=by simpa using ht
   refine⟨fun h=>absurd (split.1 h).1.1 ht,fun _=>zg ?_⟩;unfold y8;simp only[wo,Y1,c1,zCn,ze,zCl,zy,zd,zf _ i l.length h1,yk,hx,zC,yd,Kv,ht',yE,zI,zX,zCm]
def zur(l:List Str):Prop:=zas l 0/\l.length<=300
open Classical in
noncomputable def zgT(l:List Str):Bool:=decide (zur l)
theorem zdX(l:List Str):zgT l=true↔zur l:=by unfold zgT;exact @decide_eq_true_iff (zur l) (Classical.propDecidable _)
theorem zxJ{l:List Str}(h : ¬ zur l):zgT l=false:=by
 cases hb:zgT l with
 | false=>rfl
 | true=>exact absurd ((zdX l).1 hb) h
theorem zuo(l:List Str)(hl:l.length<=9223372036854775807):P0 jW [.v (.sl (strs l))] []=some (.bool (zgT l),[]):=by
 obtain⟨q1,q2⟩:=zq0 l hl l.length 0 (by omega);rw[show((0:Nat):Int)=0 from rfl]at q1 q2;rw[zkC];unfold zcw;by_cases h:zas l 0
 ·simp only[wo,zb,zd,q1 h,zCl];by_cases h3:l.length<=300
  ·rw[zCp (show((l.length:Nat):Int)<=300 by omega),(zdX l).2 ⟨h,h3⟩]
  ·rw[zCq (show ¬ ((l.length:Nat):Int)<=300 by omega),zxJ (fun q=>h3 q.2)]
 ·simp only[wo,zb,zd,q2 h,zCC,zCm,z5];rw[zxJ (fun q=>h q.1)]
end
section
attribute [local irreducible] P0
theorem zuq(T N S K I:Bool):(((if T=true then some (V.bool N)else some (.bool false):Option V)).bind fun x52=>(asBool x52).bind fun b53=>((if b53=true then some (V.bool S)else some (.bool false):Option V)).bind fun x54=>(asBool x54).bind fun b55=>((if b55=true then some (V.bool K)else some (.bool false):Option V)).bind fun x56=>(asBool x56).bind fun b57=>((if b57=true then some (V.bool I)else some (.bool false):Option V)).bind fun x58=>some (x58,([]:List V)))=some (.bool (T&&N&&S&&K&&I),[]):=by cases T<;>cases N<;>cases S<;>cases K<;>rfl
theorem zB7(N S K I:Bool):((asBool (V.bool N)).bind fun b53=>((if b53=true then some (V.bool S)else some (.bool false):Option V)).bind fun x54=>(asBool x54).bind fun b55=>((if b55=true then some (V.bool K)else some (.bool false):Option V)).bind fun x56=>(asBool x56).bind fun b57=>((if b57=true then some (V.bool I)else some (.bool false):Option V)).bind fun x58=>some (x58,([]:List V)))=some (.bool (true&&N&&S&&K&&I),[]):=by cases N<;>cases S<;>cases K<;>rfl
def WE(n:Nm):Bool := !n.neg&&decide (n.m=[])&&decide (n.e=0)
def k0(t:Tree):Bool:=((t.k.length:Nat):Int)==0
def v0(t:Tree):Bool:=((t.v.length:Nat):Int)==0
noncomputable def ownB(t:Tree):Bool:=
 if t.kind=1 then !t.b&&WE t.n&&decide (t.s=[])&&k0 t&&v0 t
 else if t.kind=2 then true&&WE t.n&&decide (t.s=[])&&k0 t&&v0 t
 else if t.kind=3 then !t.b&&nokB t.n&&decide (t.s=[])&&k0 t&&v0 t
 else if t.kind=4 then !t.b&&WE t.n&&JD t.s&&k0 t&&v0 t
 else if t.kind=5 then !t.b&&WE t.n&&decide (t.s.length<=2000)&&k0 t&&v0 t
 else if t.kind=7 then !t.b&&WE t.n&&decide (t.s=[])&&(zgT t.k&&decide (t.k.length=t.v.length))&&decide (t.v.length<=300)
 else if t.kind=6 then !t.b&&WE t.n&&decide (t.s=[])&&k0 t&&decide (t.v.length<=300)
 else false
def zAe(t:Tree):Prop:=U32 t.n.m/\t.n.m.length<=9223372036854775807/\t.k.length<=9223372036854775807
theorem zxR{α:Type}(l:List α):((((l.length:Nat):Int))==0)=decide (l=[]):=by
 cases l with
 | nil=>rfl
 | cons a r=>
  have : ¬ (((a::r).length:Nat):Int)=0:=by simp only[zCw];omega
  rw[zCq (by simp),beq_eq_false_iff_ne];exact this
theorem zmW(s:Str):(s==([]:Str))=decide (s=[]):=by cases s<;>rfl
theorem ztn(t:Tree)(h:zAe t):P0 kT [.v t.val] []=some (.bool (ownB t),[]):=by
 obtain⟨hu,hm,hk⟩:=h;rw[zqQ];unfold zhW;have e1:(((t.n.m.length:Nat):Int)==0)=decide (t.n.m=[]):=zxR _;have e2:(((t.k.length:Nat):Int)==0)=decide (t.k=[]):=zxR _;have e3:(((t.v.length:Nat):Int)==0)=decide (t.v=[]):=zxR _;have x8:(if(!t.n.neg)=true then(zc t.val 3).bind fun c6=>(z6 c6).bind fun n7=>some (.bool ((((n7:Nat):Int):Int)==0))else some (.bool false):Option V)=some (.bool (!t.n.neg&&decide (t.n.m=[]))):=by
  cases t.n.neg with
  | true=>rfl
  | false=>simp only[wo,zI,zCl,zkj,zb,yj,e1,Bool.true_and]
 have x12:(if(!t.n.neg&&decide (t.n.m=[]))=true then(zc t.val 4).bind fun c10=>(za .eql c10 (.int .i64 0)).bind fun x11=>some x11 else some (.bool false):Option V)=some (.bool (WE t.n)):=by
  unfold WE;cases (!t.n.neg&&decide (t.n.m=[]))with
  | false=>rfl
  | true=>simp only[wo,zCl,znC,zv,Bool.true_and]
 by_cases h1:t.kind=1
 ·rw[show ownB t=_ from zCk h1];simp only[wo,Yk,xk,Q4,zaJ,Wa,qp,xw,yE,ze,x8,x12,qf,zmW,zb,zd,zh,zv,h1,Int.reduceEq,z5];exact zuq (!t.b) (WE t.n) (decide (t.s=[])) (k0 t) (v0 t)
 by_cases h2:t.kind=2
 ·rw[show ownB t=_ from(zCj h1).trans (zCk h2)];simp only[Yk,xE,xk,Q4,zaJ,Wa,qp,xw,yE,x8,x12,qf,zmW,zb,zd,zh,zv,h2,Int.reduceEq,zCo,z5];exact zB7 (WE t.n) (decide (t.s=[])) (k0 t) (v0 t)
 by_cases h3:t.kind=3
 ·rw[show ownB t=_ from(zCj h1).trans ((zCj h2).trans (zCk h3))];simp only[Yk,xE,xk,Q4,zaJ,Wa,qp,xw,yE,x8,x12,qf,zmW,zb,zd,zh,zv,h3,Int.reduceEq,zCo,z5,zgX,zhx t.n hu hm];exact zuq (!t.b) (nokB t.n) (decide (t.s=[])) (k0 t) (v0 t)
 by_cases h4:t.kind=4
 ·rw[show ownB t=_ from(zCj h1).trans ((zCj h2).trans ((zCj h3).trans (zCk h4)))];simp only[Yk,xE,xk,Q4,zaJ,Wa,qp,xw,yE,x8,x12,qf,zmW,zb,zd,zh,zv,h4,Int.reduceEq,zCo,z5,Kv];exact zuq (!t.b) (WE t.n) (JD t.s) (k0 t) (v0 t)
 by_cases h5:t.kind=5
 ·rw[show ownB t=_ from(zCj h1).trans ((zCj h2).trans ((zCj h3).trans ((zCj h4).trans (zCk h5))))];have e5:decide (((t.s.length:Nat):Int)<=2000)=decide (t.s.length<=2000):=by
   by_cases q:t.s.length<=2000
   ·rw[zCp q,zCp (by omega)]
   ·rw[zCq q,zCq (by omega)]
  simp only[Yk,xE,xk,Q4,zaJ,Wa,qp,xw,yE,x8,x12,qf,zmW,zb,zd,zh,zv,h5,Int.reduceEq,zCo,z5,vr];rw[e5];exact zuq (!t.b) (WE t.n) (decide (t.s.length<=2000)) (k0 t) (v0 t)
 have e300:decide (((t.v.length:Nat):Int)<=300)=decide (t.v.length<=300):=by
  by_cases q:t.v.length<=300
  ·rw[zCp q,zCp (by omega)]
  ·rw[zCq q,zCq (by omega)]
 have z2:(2:Nat)=0↔False:=by decide
 have z1:(2-1:Nat)=0↔False:=by decide
 by_cases h7:t.kind=7
 ·rw[show ownB t=_ from(zCj h1).trans ((zCj h2).trans ((zCj h3).trans ((zCj h4).trans ((zCj h5).trans (zCk h7)))))];have x44:(if zgT t.k=true then(zc t.val 6).bind fun c40=>(z6 c40).bind fun n41=>(zc t.val 7).bind fun c42=>(z6 c42).bind fun n43=>some (.bool ((((n41:Nat):Int):Int)==((n43:Nat):Int)))else some (.bool false):Option V)=some (.bool (zgT t.k&&decide (t.k.length=t.v.length))):=by
   cases zgT t.k with
   | false=>rfl
   | true=>
    have:(((t.k.length:Nat):Int)==((t.v.length:Nat):Int))=decide (t.k.length=t.v.length):=by
     by_cases q:t.k.length=t.v.length
     ·rw[zCp q,q];simp
     ·rw[zCq q,beq_eq_false_iff_ne];omega
    simp only[wo,zCl,qp,xw,zb,zd,zh,this,Bool.true_and]
  simp only[Yk,xE,xk,Q4,zaJ,Wa,qp,xw,yE,x8,x12,qf,zmW,zb,zd,zh,zv,h7,Int.reduceEq,zCo,z5,zuo t.k hk,x44,z2,z1];rw[e300];exact zuq (!t.b) (WE t.n) (decide (t.s=[])) (zgT t.k&&decide (t.k.length=t.v.length)) (decide (t.v.length<=300))
 by_cases h6:t.kind=6
 ·rw[show ownB t=_ from(zCj h1).trans ((zCj h2).trans ((zCj h3).trans ((zCj h4).trans ((zCj h5).trans ((zCj h7).trans (zCk h6))))))];simp only[Yk,xE,xk,Q4,zaJ,Wa,qp,xw,yE,x8,x12,qf,zmW,zb,zd,zh,zv,h6,Int.reduceEq,zCo,z5,z2,z1];rw[e300];exact zuq (!t.b) (WE t.n) (decide (t.s=[])) (k0 t) (decide (t.v.length<=300))
 ·rw[show ownB t=false from(zCj h1).trans ((zCj h2).trans ((zCj h3).trans ((zCj h4).trans ((zCj h5).trans ((zCj h7).trans (zCj h6))))))];simp only[xE,zj,zp,xk,Q4,zaJ,Wa,qp,xw,yE,x8,x12,qf,zmW,zb,zd,zh,zv,h1,h2,h3,h4,h5,h6,h7,zCo,zCC,Nat.sub_self,zCl,z5]
end
section
attribute [local irreducible] P0
mutual
def depth:Tree->Nat
 | .mk _ _ _ _ _ v=>1+depthL v
def depthL:List Tree->Nat
 | []=>0
 | x::r=>max (depth x) (depthL r)
end
theorem Qc(t:Tree):depth t=1+depthL t.v:=by cases t;rw[depth];rfl
theorem zu0{l:List Tree}{x:Tree}(h:x∈l):depth x<=depthL l:=by
 induction l with
 | nil=>simp at h
 | cons y r ih=>
  rw[depthL];rcases List.mem_cons.1 h with rfl | h
  ·omega
  ·have:=ih h;omega
theorem zmw{l:List Tree}{x:Tree}(h:x∈l):vk x<=nodesL l:=by
 induction l with
 | nil=>simp at h
 | cons y r ih=>
  rw[nodesL];rcases List.mem_cons.1 h with rfl | h
  ·omega
  ·have:=ih h;omega
theorem zem(t:Tree):1<=vk t:=by rw[qb];omega
theorem zho(l:List Tree):l.length<=nodesL l:=by
 induction l with
 | nil=>simp
 | cons x r ih=>rw[nodesL,zCw];have:=zem x;omega
inductive OkG:Tree->Prop
 | mk (t:Tree) (h:ownB t=true) (hv : ∀ x,x∈t.v->OkG x):OkG t
theorem OkG.own{t:Tree}(h:OkG t):ownB t=true:=by cases h;assumption
theorem OkG.sub{t:Tree}(h:OkG t) : ∀ x,x∈t.v->OkG x:=by cases h;assumption
inductive TameT:Tree->Prop
 | mk (t:Tree) (h:zAe t) (hv : ∀ x,x∈t.v->TameT x):TameT t
theorem zs4{t:Tree}(h:ownB t=true):t.v.length<=300:=by
 have v0f:v0 t=true->t.v.length<=300:=fun q=>by unfold v0 at q;have:=eq_of_beq q;omega
 unfold ownB at h
 repeat' (split at h)
 all_goals first
  | contradiction
  | (simp only[zG,zCR]at h;first | exact h.2 | exact v0f h.2)
def Fits(t:Tree)(deep:Nat)(left:Int):Prop:=OkG t/\deep+depth t<=65/\(vk t:Int)<=left
def zo9(l:List Tree)(deep:Nat)(left:Int):Prop:=(∀ x,x∈l->OkG x/\deep+depth x<=65)/\(nodesL l:Int)<=left
theorem zsz(t:Tree)(deep:Nat)(hd:deep<=1000)(hl:t.v.length<=300)
  (hc : ∀ x,x∈t.v -> ∀ left:Int,0<=left->left<=2000 -> ∃ b left',P0 vi [.v x.val,.v (.int .i64 ((deep+1:Nat):Int)),.p 0 0] [(false,1,.int .i64 left)]=some (.bool b,[.int .i64 left'])/\(b=true↔Fits x (deep+1) left)/\(b=true->left'=left-vk x)) (m:Nat) : ∀ i (left:Int),i+m=t.v.length->0<=left->left<=2000 ->
  ∃ j v left',zq (qC t.v.length (.sl (trs t.v)) (.int .i64 (deep:Int))) (vec [.int .i64 (i:Int),.int .i64 left])=some (j,v)/\((zo9 (t.v.drop i) (deep+1) left/\j=0/\v=vec [.int .i64 left']/\left'=left-nodesL (t.v.drop i))\/(¬ zo9 (t.v.drop i) (deep+1) left/\j=1/\v=vec [.bool false,.int .i64 left'])):=by
 induction m with
 | zero=>
  intro i left hi h0 h1;have e:t.v.drop i=[]:=zQ (by omega);refine⟨0,vec [.int .i64 left],left,zg ?_,.inl ⟨?_,rfl,rfl,?_⟩⟩
  ·unfold qC;have c1 : ¬ (i:Int)<(t.v.length:Int):=by omega
   simp only[Y1,xE,zr,c1,zCo]
  ·rw[e];exact⟨fun x hx=>by simp at hx,by simp[nodesL];exact h0⟩
  ·rw[e];simp[nodesL]
 | succ m ih=>
  intro i left hi h0 h1;have hlt:i<t.v.length:=by omega
  have c1:(i:Int)<(t.v.length:Int):=by omega
  have hx:t.v[i]?=some t.v[i]:=zL hlt;obtain⟨b,l1,p1,p2,p3⟩:=hc _ (zCW hlt) left h0 h1;have hdr:=zO hlt;have wd:IntKind.i64.wrap ((deep:Int)+1)=((deep+1:Nat):Int):=zy5 (by omega);cases b with
  | true=>
   have hf:=p2.1 rfl;have hl1:=p3 rfl;have hnp:=zem t.v[i];obtain⟨f1,f2,f3⟩:=hf;obtain⟨j,v,l2,q1,q2⟩:=ih (i+1) l1 (by omega) (by omega) (by omega);refine⟨j,v,l2,?_,?_⟩
   ·rw[<- q1];apply zn;unfold qC;simp only[Y1,Yk,xE,zr,c1,yP,zh,zf _ i t.v.length hlt,wh,hx,zC,yU,wd,p1,zM,yE,zH,zy5 (i:=i) (by omega)]
   ·have key:zo9 (t.v.drop i) (deep+1) left↔zo9 (t.v.drop (i+1)) (deep+1) l1:=by
     rw[hdr];constructor
     ·rintro⟨a1,a2⟩;rw[nodesL]at a2;exact⟨fun x hx=>a1 x (zP _ hx),by omega⟩
     ·rintro⟨a1,a2⟩;refine⟨fun x hx => ?_,by rw[nodesL];omega⟩;rcases List.mem_cons.1 hx with rfl | hx
      ·exact⟨f1,f2⟩
      ·exact a1 x hx
    rcases q2 with⟨g1,g2,g3,g4⟩ | ⟨g1,g2,g3⟩
    ·exact .inl ⟨key.2 g1,g2,g3,by rw[hdr,nodesL];omega⟩
    ·exact .inr ⟨fun q=>g1 (key.1 q),g2,g3⟩
  | false=>
   refine⟨1,vec [.bool false,.int .i64 l1],l1,zg ?_,.inr ⟨fun q => ?_,rfl,rfl⟩⟩
   ·unfold qC;simp only[wo,Y1,Yk,zr,c1,ze,yP,zh,zf _ i t.v.length hlt,wh,hx,zC,yU,wd,p1,zM,yE,zI]
   ·rw[hdr]at q;obtain⟨a1,a2⟩:=q;rw[nodesL]at a2;have:=p2.2 ⟨(a1 _ zCO).1,(a1 _ zCO).2,by omega⟩;contradiction
theorem zvR(t:Tree)(ht:TameT t) : ∀ (deep:Nat) (left:Int),deep<=66->0<=left->left<=2000 -> ∃ b left',P0 vi [.v t.val,.v (.int .i64 (deep:Int)),.p 0 0] [(false,1,.int .i64 left)]=some (.bool b,[.int .i64 left'])/\(b=true↔Fits t deep left)/\(b=true->left'=left-vk t):=by
 induction ht with
 | mk t htm hv ih=>
  intro deep left hd h0 h1;rw[zk2];unfold zdi;have w1:IntKind.i64.wrap (left-1)=left-1:=w64 (by omega);have hn:=zem t;by_cases c1:left-1<0
  ·refine⟨false,left-1,?_,⟨fun h=>by contradiction,fun h => ?_⟩,fun h=>by contradiction⟩
   ·simp only[wo,Yk,ZF,w1,XG,xO,v8,c1,ze,zX,zCm]
   ·have:=h.2.2;omega
  by_cases c2:64<deep
  ·have c2':(64:Int)<(deep:Int):=by omega
   refine⟨false,left-1,?_,⟨fun h=>by contradiction,fun h => ?_⟩,fun h=>by contradiction⟩
   ·simp only[wo,Yk,ZF,w1,XG,xO,v8,c1,zCo,ze,Zy,c2',zX,zCm]
   ·have:=h.2.1;rw[Qc]at this;omega
  have c2' : ¬ (64:Int)<(deep:Int):=by omega
  cases ho:ownB t with
  | false=>
   refine⟨false,left-1,?_,⟨fun h=>by contradiction,fun h => ?_⟩,fun h=>by contradiction⟩
   ·simp only[wo,zj,zp,ZF,w1,XG,xO,v8,c1,zCo,ze,zCl,Zy,c2',ztn t htm,ho,yE,zI]
   ·have:=h.1.own;rw[ho]at this;contradiction
  | true=>
   have hl:=zs4 ho;obtain⟨j,v,l2,q1,q2⟩:=zsz t deep (by omega) hl (fun x hx left a b=>ih x hx (deep+1) left (by omega) a b) t.v.length 0 (left-1) (by omega) (by omega) (by omega);rw[show((0:Nat):Int)=0 from rfl]at q1;rw[zU]at q2;have key:zo9 t.v (deep+1) (left-1)↔Fits t deep left:=by
    constructor
    ·rintro⟨a1,a2⟩;refine⟨.mk t ho (fun x hx=>(a1 x hx).1),?_,by rw[qb];omega⟩;rw[Qc];have : ∀ l:List Tree,(∀ x,x∈l->deep+1+depth x<=65)->deep+1<=65->deep+(1+depthL l)<=65:=by
      intro l;induction l with
      | nil=>intro _ h;simp[depthL];omega
      | cons y r ihr=>intro h h2;have g1:=h y zCO;have g2:=ihr (fun x hx=>h x (zP _ hx)) h2;rw[depthL];omega
     exact this t.v (fun x hx=>(a1 x hx).2) (by omega)
    ·rintro⟨a1,a2,a3⟩;rw[qb]at a3;rw[Qc]at a2;exact⟨fun x hx=>⟨a1.sub x hx,by have:=zu0 hx;omega⟩,by omega⟩
   have main : ∀ {b:Bool} {l':Int},(if j=0 then some (V.bool true,[v 0])else some (v 0,[v 1]):Option (V×List V))=some (.bool b,[.int .i64 l'])->(tst (okN 8 t.val) ((za .sub (.int .i64 left) (.int .i64 1)).bind fun x1=>
     tst (okN 1 x1) ((zc x1 0).bind fun c2=>(za .lss c2 (.int .i64 0)).bind fun x3=>(asBool x3).bind fun b4=>((if b4=false then(za .gtr (.int .i64 (deep:Int)) (.int .i64 64)).bind fun x5=>some x5 else some (.bool true):Option V)).bind fun x6=>(asBool x6).bind fun b7=>
     ((if b7=false then(P0 kT [.v t.val] []).bind fun r8=>(unV .not r8.1).bind fun x9=>some x9 else some (.bool true):Option V)).bind fun x10=>(asBool x10).bind fun b11=>if b11=true then some ((.bool false),[c2])else(zc t.val 7).bind fun c12=>(z6 c12).bind fun n13=>
     (zq (qC n13 c12 (.int .i64 (deep:Int))) (vec [(.int .i64 0),c2])).bind fun o26=>if o26.1=0 then some ((.bool true),[(o26.2 0)])else some ((o26.2 0),[(o26.2 1)]))))=some (.bool b,[.int .i64 l']):=by
    intro b l' h;simp only[xE,zj,zp,ZF,w1,XG,xO,v8,c1,zCo,zCl,Zy,c2',ztn t htm,ho,yE,zH,xw,zb,zh,q1];exact h
   rcases q2 with⟨g1,g2,g3,g4⟩ | ⟨g1,g2,g3⟩
   ·refine⟨true,l2,main (by rw[g2,g3];rfl),⟨fun _=>key.1 g1,fun _=>rfl⟩,fun _=>by rw[g4,qb];omega⟩
   ·refine⟨false,l2,main (by rw[g2,g3];rfl),⟨fun h=>by contradiction,fun h=>absurd (key.2 h) g1⟩,fun h=>by contradiction⟩
theorem zvs(t:Tree)(ht:TameT t) : ∃ b,P0 wC [.v t.val] []=some (.bool b,[])/\(b=true↔OkG t/\depth t<=64/\vk t<=2000):=by obtain⟨b,l',h1,h2,h3⟩:=zvR t ht 1 2000 (by decide) (by decide) (by decide);have h1:P0 vi [.v t.val,.v (.int .i64 1),.p 0 0] [(false,1,.int .i64 2000)]=some (.bool b,[.int .i64 l']):=h1;refine⟨b,?_,h2.trans ⟨fun⟨a1,a2,a3⟩=>⟨a1,by omega,by omega⟩,fun⟨a1,a2,a3⟩=>⟨a1,by omega,by omega⟩⟩⟩;rw[zlb];unfold zdl;simp only[wo,zj,zp,h1,zM]
end
end Go.Ev
