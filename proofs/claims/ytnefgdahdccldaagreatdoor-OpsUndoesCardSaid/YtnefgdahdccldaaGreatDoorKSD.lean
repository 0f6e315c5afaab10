/- What functions compute, put together. -/
import Derived.Test.YtnefgdahdccldaaGreatDoorKSC
set_option linter.all false
open Option renaming bind_eq_some_iff->zA,map_some->zC,bind_some->zD
open Bool renaming false_eq_true->zF,not_true->zH,not_false->zI
open List renaming getElem?_eq_getElem->zL,getElem?_cons_zero->zM,getElem?_cons_succ->zN,drop_eq_getElem_cons->zO,mem_cons_of_mem->zP,drop_eq_nil_of_le->zQ,drop_zero->zU,take_of_length_le->zV,length_append->zZ
open Nat renaming le_refl->zR
namespace Go.Ev
abbrev xp:=And.intro @zm @wB
end Go.Ev
namespace Go.Ev
abbrev wU:=And.intro @z5 @v8
end Go.Ev
namespace Go.Ev
abbrev jq:=And.intro @if_true.{1} (And.intro @zCn (And.intro @zp @zj))
end Go.Ev
namespace Go.Ev
abbrev yr:=And.intro @zm (And.intro @wB (And.intro @ze (And.intro @if_false.{1} @zF)))
end Go.Ev
namespace Go.Ev
section
attribute [local irreducible] P0
end
section
attribute [local irreducible] P0
theorem LightT.sub{t:Tree}(h:LightT t) : ∀ x,x∈t.v->LightT x:=by cases h;assumption
end
section
attribute [local irreducible] P0
inductive zuH:Tree->Prop
 | mk (t:Tree) (h1:U32 t.n.m) (h2:t.n.m.length<=1000) (h3:t.k.length<=1000000) (h4:t.v.length<=1000000) (hv : ∀ x,x∈t.v->zuH x):zuH t
theorem zqn(l:List Nat)(hl:l.length<=1000000)(m:Nat) : ∀ i,i+m=l.length ->
  zq (qw (.sl (zu l)) (.sl (zu l))) (vec [.int .i64 (i:Int)])=some (0,vec []):=by
 induction m with
 | zero=>
  intro i hi;apply zg;unfold qw;have c1 : ¬ (i:Int)<(l.length:Int):=by omega
  simp only[wU,yr,zb,yj,c1,zCo]
 | succ m ih=>
  intro i hi;have h1:i<l.length:=by omega
  have c1:(i:Int)<(l.length:Int):=by omega
  have hx:l[i]?=some l[i]:=zL h1;rw[<- ih (i+1) (by omega)];apply zn;unfold qw;simp only[wU,yr,zb,yj,c1,zCn,zCl,wS,zf _ i l.length h1,ji,hx,zC,xO,vQ,zH,yU,yI (i:=i) (by omega)]
theorem zuG(l:List Nat)(hl:l.length<=1000000):P0 wL [.v (.sl (zu l)),.v (.sl (zu l))] []=some (.bool true,[]):=by rw[zb1];unfold Vh;have h:=zqn l hl l.length 0 (by omega);rw[show((0:Nat):Int)=0 from rfl]at h;simp only[xp,zb,yj,bne_self_eq_false,zF,zCm,h,zCl]
theorem zsJ(l:List Str)(hl:l.length<=1000000)(m:Nat) : ∀ i,i+m=l.length ->
  zq (vC (.sl (strs l)) (.sl (strs l))) (vec [.int .i64 (i:Int)])=some (0,vec []):=by
 induction m with
 | zero=>
  intro i hi;apply zg;unfold vC;have c1 : ¬ (i:Int)<(l.length:Int):=by omega
  simp only[wU,yr,zb,zd,c1,zCo]
 | succ m ih=>
  intro i hi;have h1:i<l.length:=by omega
  have c1:(i:Int)<(l.length:Int):=by omega
  have hx:l[i]?=some l[i]:=zL h1;rw[<- ih (i+1) (by omega)];apply zn;unfold vC;simp only[wU,yr,zb,zd,c1,zCn,zCl,zy,zf _ i l.length h1,yk,hx,zC,yd,zfu,zCB,zH,yU,yI (i:=i) (by omega)]
theorem zwM(l:List Str)(hl:l.length<=1000000):P0 xY [.v (.sl (strs l)),.v (.sl (strs l))] []=some (.bool true,[]):=by rw[KR];unfold Xg;have h:=zsJ l hl l.length 0 (by omega);rw[show((0:Nat):Int)=0 from rfl]at h;simp only[xp,zb,zd,bne_self_eq_false,zF,zCm,h,zCl]
theorem zyA(n:Nm)(hl:n.m.length<=1000000):P0 vY [.v n.val,.v n.val] []=some (.bool true,[]):=by rw[zeg];unfold JB;simp only[xp,VO,zp,Qv,Ju,Jj,ze,zCB,zCl,zv,zCn,zuG n.m hl]
theorem zrh(t:Tree)(hl:t.v.length<=1000000)(hs : ∀ x,x∈t.v->P0 xu [.v x.val,.v x.val] []=some (.bool true,[]))(m:Nat) : ∀ i,i+m=t.v.length ->
  zq (qO t.val t.val) (vec [.int .i64 (i:Int)])=some (0,vec []):=by
 induction m with
 | zero=>
  intro i hi;apply zg;unfold qO;have c1 : ¬ (i:Int)<(t.v.length:Int):=by omega
  simp only[wU,yr,xw,zb,zh,c1,zCo]
 | succ m ih=>
  intro i hi;have h1:i<t.v.length:=by omega
  have c1:(i:Int)<(t.v.length:Int):=by omega
  have hx:t.v[i]?=some t.v[i]:=zL h1;rw[<- ih (i+1) (by omega)];apply zn;unfold qO;simp only[wU,yr,xw,zb,zh,c1,zCn,zCl,yP,zf _ i t.v.length h1,wh,hx,zC,hs _ (zCW h1),yE,zH,yU,yI (i:=i) (by omega)]
theorem zwo : ∀ t,zuH t->P0 xu [.v t.val,.v t.val] []=some (.bool true,[]):=by
 intro t;induction t using Tree.ind with
 | h t ih=>
 intro h;cases h with
 | mk _ h1 h2 h3 h4 hv=>
 have hloop:=zrh t h4 (fun x hx=>ih x hx (hv x hx)) t.v.length 0 (by omega);rw[show((0:Nat):Int)=0 from rfl]at hloop;rw[zcV];unfold V4;simp only[jq,yr,xk,Q4,Wa,qp,xw,vQ,zfu,zH,zCB,zgX,zyA t.n (by omega),yE,zwM t.k (by omega),zb,bne_self_eq_false,hloop]
theorem zyE(n:Nm)(hu:U32 n.m)(hl:n.m.length<=1000000):P0 kV [.v n.val] []=some ((if nokB n=true then n else Nm.zero).val,[]):=by
 rw[zp5];unfold ziB;cases h:nokB n with
 | true=>simp only[xp,VO,zp,zjy n hu (by omega),h,ze,zCl]
 | false=>simp only[yr,VO,zp,zjy n hu (by omega),h];rfl
theorem zuV(n:Nm)(hu:U32 n.m)(hl:n.m.length<=1000000):P0 j2 [.v n.val,.v n.val] []=some (.bool true,[]):=by
 rw[zkN];unfold zdK;rw[zyE n hu hl];generalize hq:(if nokB n=true then n else Nm.zero)=q;have hq1:U32 q.m/\q.m.length<=1000000:=by
  rw[<- hq];split
  ·exact⟨hu,hl⟩
  ·exact⟨fun x hx=>by simp[Nm.zero]at hx,by simp[Nm.zero]⟩
 have hc:=zAi q.m q.m hq1.2 hq1.2 hq1.1 hq1.1;rw[(zvQ q.m q.m _).2 (fun i _=>rfl)]at hc;simp only[xp,VO,zp,Qv,Ju,Jj,ze,zCB,zCl,zv,zCn,hc]
theorem zqe(t:Tree)(hl:t.k.length<=1000000)(m:Nat) : ∀ i,i+m=t.k.length ->
  zq (jR t.val t.val) (vec [.int .i64 (i:Int)])=some (0,vec []):=by
 induction m with
 | zero=>
  intro i hi;apply zg;unfold jR;have c1 : ¬ (i:Int)<(t.k.length:Int):=by omega
  simp only[wU,yr,qp,zb,zd,c1,zCo]
 | succ m ih=>
  intro i hi;have h1:i<t.k.length:=by omega
  have c1:(i:Int)<(t.k.length:Int):=by omega
  have hx:t.k[i]?=some t.k[i]:=zL h1;by_cases hk:t.kind=7
  ·rw[<- ih (i+1) (by omega)];apply zn;unfold jR;simp only[wU,yr,xk,qp,zb,zd,c1,zCn,zCl,zv,hk,zy,zf _ i t.k.length h1,yk,hx,zC,yd,zfu,zCB,zH,yU,yI (i:=i) (by omega)]
  ·apply zg;unfold jR;simp only[wU,yr,xk,qp,zb,zd,c1,zCn,zCl,zv,hk,zCo]
theorem zpL(t:Tree)(hl:t.v.length<=1000000)(hs : ∀ x,x∈t.v->P0 xN [.v x.val,.v x.val] []=some (.bool true,[]))(m:Nat) : ∀ i,i+m=t.v.length ->
  zq (Zn t.val t.val) (vec [.int .i64 (i:Int)])=some (0,vec []):=by
 induction m with
 | zero=>
  intro i hi;apply zg;unfold Zn;have c1 : ¬ (i:Int)<(t.v.length:Int):=by omega
  simp only[wU,yr,xw,zb,zh,c1,zCo]
 | succ m ih=>
  intro i hi;have h1:i<t.v.length:=by omega
  have c1:(i:Int)<(t.v.length:Int):=by omega
  have hx:t.v[i]?=some t.v[i]:=zL h1;rw[<- ih (i+1) (by omega)];apply zn;unfold Zn;simp only[wU,yr,xw,zb,zh,c1,zCn,zCl,yP,zf _ i t.v.length h1,wh,hx,zC,hs _ (zCW h1),yE,zH,yU,yI (i:=i) (by omega)]
theorem zhO : ∀ t,zuH t->P0 xN [.v t.val,.v t.val] []=some (.bool true,[]):=by
 intro t;induction t using Tree.ind with
 | h t ih=>
 intro h;cases h with
 | mk _ h1 h2 h3 h4 hv=>
 have e1:=zqe t h3 t.k.length 0 (by omega);have e2:=zpL t h4 (fun x hx=>ih x hx (hv x hx)) t.v.length 0 (by omega);rw[show((0:Nat):Int)=0 from rfl]at e1 e2;rw[zkQ];unfold zdj;by_cases k2:t.kind=2
 ·simp only[jq,yr,xk,Q4,vQ,zv,k2,zH,zCB]
 by_cases k3:t.kind=3
 ·simp only[jq,yr,xk,vQ,zv,k3,Int.reduceEq,zCo,zH,zgX,zuV t.n h1 (by omega)]
 by_cases k4:t.kind=4
 ·simp only[jq,yr,xk,Wa,vQ,zv,k4,Int.reduceEq,zCo,zH,z5,qf,zCB]
 by_cases k5:t.kind=5
 ·simp only[jq,yr,xk,Wa,vQ,zv,k5,Int.reduceEq,zCo,zH,z5,qf,zCB]
 by_cases k6:t.kind=6
 ·simp only[jq,yr,xk,xw,vQ,zv,k6,Int.reduceEq,zCo,zH,z5,zb,bne_self_eq_false,e1,e2]
 by_cases k7:t.kind=7
 ·simp only[jq,yr,xk,qp,xw,vQ,zv,k7,Int.reduceEq,zCo,zH,z5,zb,bne_self_eq_false,e1,e2]
 ·simp only[yr,zj,zp,xk,vQ,zv,k2,k3,k4,k5,k6,k7,zCo,zCn,zH,z5]
end
section
attribute [local irreducible] P0
inductive OrdT:Tree->Prop
 | mk (t:Tree) (h:t.kind=7->t=obj (al t)) (hs:Y8 (al t)) (h1:U32 t.n.m) (h2:t.n.m.length<=1000) (h3:t.k.length<=t.v.length) (hv : ∀ x,x∈t.v->OrdT x):OrdT t
theorem OrdT.null:OrdT Ev.null := .mk _ (fun h=>by simp[Ev.null,Tree.kind]at h) (by rw[Wm (by simp[Ev.null,Tree.kind])];trivial) (fun x hx=>by simp[Ev.null,Tree.n,Nm.zero]at hx) (by simp[Ev.null,Tree.n,Nm.zero]) (zR _) (fun x hx=>by simp[Ev.null,Tree.v]at hx)
theorem zde{l:AL}(hs:Y8 l)(hv : ∀ q,q∈l->OrdT q.2):OrdT (obj l):=
 .mk _ (fun _=>by rw[Wh]) (by rw[Wh];exact hs) (fun x hx=>by simp[obj,Tree.n,Nm.zero]at hx) (by simp[obj,Tree.n,Nm.zero]) (by show(names l).length<=(zz l).length;rw[jc,wz];exact zR _) (fun x hx=>by obtain⟨q,hq,rfl⟩:=List.mem_map.1 (show x∈zz l from hx);exact hv q hq)
theorem OrdT.al_ord{t:Tree}(h:OrdT t) : ∀ q,q∈al t->OrdT q.2:=by
 intro q hq;cases h with
 | mk _ h hs h1 h2 h3 hv=>
  by_cases hk:t.kind=7
  ·refine hv _ ?_;have:t.v=zz (al t):=by have:=congrArg Tree.v (h hk);exact this
   rw[this];exact List.mem_map.2 ⟨q,hq,rfl⟩
  ·rw[Wm hk]at hq;simp at hq
theorem OrdT.al_srt{t:Tree}(h:OrdT t):Y8 (al t):=by cases h;assumption
def wA(u:AL):Nat:=weightL (zz u)
theorem QD(k:Str)(v:Tree)(r:AL):wA ((k,v)::r)=yb v+wA r:=by show weightL (v::zz r)=_;rw[weightL];rfl
theorem zAp(n:Str)(u:AL):wA (Xe n u)<=wA u:=by
 induction u with
 | nil=>exact zR _
 | cons p r ih=>
  obtain⟨k,w⟩:=p;simp only[Xe];split
  ·rw[QD];omega
  ·rw[QD,QD];omega
def wO:Option Tree->Nat
 | some x=>yb x
 | none=>0
theorem zwR{n:Str}{v:Tree}{u:AL}(hs:Y8 u):wA (we n v u)+wO (lk n u)=wA u+yb v:=by
 induction u with
 | nil=>simp only[we,lk,wO,QD];omega
 | cons p r ih=>
  obtain⟨k,w⟩:=p;obtain⟨h1,h2⟩:=kD.1 hs;by_cases hk:k=n
  ·simp only[we,lk,zCk hk,wO,QD];omega
  ·by_cases hlt:lt n k=true
   ·have hno:lk n r=none:=YV.2 (fun hm=>by have:=lt_trans hlt (h1 n hm);rw[lt_irrefl]at this;contradiction);simp only[we,lk,zCj hk,zCk hlt,hno,wO,QD];omega
   ·have:=ih h2;simp only[we,lk,zCj hk,zCj hlt,QD];omega
theorem Yv(l:AL):yb (obj l)=1+wA l:=by
 rw[wu];have:w1 (obj l)=1:=by unfold w1;simp[obj,Tree.kind]
 rw[this];rfl
theorem ztE : ∀ t,OrdT t->yb t<=1000000->zuH t:=by
 intro t;induction t using Tree.ind with
 | h t ih=>
 intro h hw;rw[wu]at hw;have hl:=Vi t.v;cases h with
 | mk _ h hs h1 h2 h3 hv=>exact .mk t h1 h2 (by omega) (by omega) (fun x hx=>ih x hx (hv x hx) (by have:=Je hx;omega))
end
section
attribute [local irreducible] P0
end
section
attribute [local irreducible] P0
theorem OrdT.sub{t:Tree}(h:OrdT t) : ∀ x,x∈t.v->OrdT x:=by cases h;assumption
theorem zjw{t x:Tree}(h:x∈t.v):yb x<yb t:=by have h1:=Je h;have h2:=wu t;have h3:=zbx t;omega
theorem zrW(t:Tree):t.v.length<yb t:=by have h1:=Vi t.v;have h2:=wu t;have h3:=zbx t;omega
theorem OrdT.klen{t:Tree}(h:OrdT t):t.k.length<=t.v.length:=by cases h;assumption
theorem XV{t x:Tree}{s:Str}(h:child t s=some x):x∈t.v:=by
 unfold child at h;split at h
 ·rw[zA]at h;obtain⟨i,_,h⟩:=h;exact List.mem_of_getElem? h
 ·exact zCd (zwB h)
theorem zpn(s:Str)(l:AL):zrd s l=Ya (lk s l):=rfl
theorem Jf{t:Tree}{s:Str}{i:Nat}(h:ql s ((t.v.length:Int)-1)=some i):i<t.v.length:=by have:=zmP h;omega
theorem zdd{n:Nat}(h:n<=1000000):IntKind.i64.wrap ((n:Int)-1)=(n:Int)-1:=w64 (by omega)
theorem zpg(t:Tree)(s:Str)(hw:t.v.length<=1000000):P0 vt [.v t.val,.v (.str s)] []=some (Ya (child t s),[]):=by
 rw[zgp];unfold Kb;have ha:=zhw t;by_cases hk:t.kind=6
 ·have hc:child t s=(ql s ((t.v.length:Int)-1)).bind fun i=>t.v[i]?:=zCk hk
  rw[hc];have hi:=zg1 s ((t.v.length:Int)-1);simp only[yr,zj,zp,xk,vQ,hk,zCn,zH,xw,zb,zh,zdd hw,hi];cases hx:ql s ((t.v.length:Int)-1)with
  | none=>simp only[xp,zaY,zl,zM,zN,yE,zI,ze,zCl];rfl
  | some i=>have hlt:=Jf hx;have hg:t.v[i]?=some t.v[i]:=zL hlt;simp only[yr,zaY,zl,zM,zN,yE,zH,xw,yP,zh,zf _ i t.v.length hlt,wh,hg,zC,zj,zp,zD];rfl
 ·have hc:child t s=lk s (al t):=zCj hk;rw[hc];have hm:=zuk t s (by omega);rw[zpn]at hm;simp only[xp,zj,zp,xk,vQ,hk,zCo,zI,ze,zCl,hm];cases lk s (al t)with
  | none=>simp only[xp,Ya,zl,zM,zN,zj,zp]
  | some x=>simp only[xp,Ya,zl,zM,zN,zj,zp]
theorem zu8(t:Tree)(s:Str)(hw:t.v.length<=1000000)(hkl:t.k.length<=1000000):P0 jf [.v t.val,.v (.str s)] []=some (Ya (child t s),[]):=by
 rw[zhN];unfold zbq;have ha:=zhw t;have hm:=ziE t s hkl (by omega);rw[zpn]at hm;have z1:(1:Nat)=0↔False:=by decide
 by_cases hk:t.kind=6
 ·have hc:child t s=(ql s ((t.v.length:Int)-1)).bind fun i=>t.v[i]?:=zCk hk
  rw[hc];have hi:=zyw s ((t.v.length:Int)-1);have hal:al t=[]:=Wm (by omega);rw[hal]at hm;cases hx:ql s ((t.v.length:Int)-1)with
  | none=>rw[hx]at hi;simp only[jq,yr,xk,zv,hk,xw,zb,zh,zdd hw,hi,zaY,zl,zM,zN,hm,lk,Ya];rfl
  | some i=>rw[hx]at hi;have hlt:=Jf hx;have hg:t.v[i]?=some t.v[i]:=zL hlt;simp only[xp,jq,xk,zv,hk,ze,xw,zb,zh,zdd hw,hi,zaY,zl,zM,zN,yP,zf _ i t.v.length hlt,wh,hg,zC,z1,zCm,z5,zr,zD];rfl
 ·have hc:child t s=lk s (al t):=zCj hk;rw[hc];simp only[yr,zj,zp,xk,zv,hk,zCo,zCl,hm];cases lk s (al t)with
  | none=>simp only[xp,Ya,zl,zM,zN,zj,zp]
  | some x=>simp only[xp,Ya,zl,zM,zN,zj,zp]
structure Sz(t:Tree):Prop where
 ord:OrdT t
 w:yb t<=900000
theorem Sz.sub{t x:Tree}(h:Sz t)(hx:x∈t.v):Sz x:=⟨h.ord.sub x hx,by have:=zjw hx;have:=h.w;omega⟩
theorem Sz.v{t:Tree}(h:Sz t):t.v.length<=1000000:=by have:=zrW t;have:=h.w;omega
theorem Sz.k{t:Tree}(h:Sz t):t.k.length<=1000000:=zCA h.ord.klen h.v
theorem Sz.child{t x:Tree}{s:Str}(h:Sz t)(hx:child t s=some x):Sz x:=h.sub (XV hx)
theorem zd2:V.agg [.int .i64 0,.bool false,.bool false,.sl [],.int .i64 0,.str [],.sl [],.sl []]=Tree.zero.val:=by rw[Tree.val_eq];rfl
abbrev zs:List V:=[.int .i64 0,.bool false,.bool false,.sl [],.int .i64 0,.str [],.sl [],.sl []]
theorem zuE(l:List Str)(hl:l.length<=1000000)(k:Nat) : ∀ (i:Nat) (x:Tree),Sz x->i+k=l.length ->
  ∃ y:V,zq (qU l.length (.sl (strs l))) (vec (.int .i64 (i:Int)::x.val::zs))=match xr x (l.drop i)with | some z=>some (0,vec [z.val,.agg zs]) | none=>some (1,vec (.bool false::y::zs)):=by
 induction k with
 | zero=>
  intro i x hx hi;rw[zQ (by omega)];refine⟨x.val,zg ?_⟩;unfold qU;have c1 : ¬ (i:Int)<(l.length:Int):=by omega
  simp only[wU,yr,zr,c1,zCo]
 | succ k ih=>
  intro i x hx hi;have hlt:i<l.length:=by omega
  have c1:(i:Int)<(l.length:Int):=by omega
  have hg:l[i]?=some l[i]:=zL hlt;rw[zO hlt];have hst:=zpg x l[i] hx.v;cases hc:child x l[i]with
  | none=>rw[hc]at hst;refine⟨x.val,?_⟩;simp only[xr,hc,zCN];apply zg;unfold qU;simp only[xp,wU,jq,zr,c1,ze,zy,zd,zf _ i l.length hlt,yk,hg,zC,yd,hst,Ya,zl,zM,zN,yE,zI]
  | some y=>rw[hc]at hst;obtain⟨z,hz⟩:=ih (i+1) y (hx.child hc) (by omega);refine⟨z,?_⟩;simp only[xr,hc,zD];rw[<- hz];apply zn;unfold qU;simp only[wU,jq,yr,zr,c1,zy,zd,zf _ i l.length hlt,yk,hg,zC,yd,hst,Ya,zl,zM,zN,yE,zH,yU,yI (i:=i) (by omega)]
theorem zyJ(t:Tree)(p:List Str)(h:Sz t)(hp:p.length<=1000000):P0 jg [.v t.val,.v (.sl (strs p))] []=some (Ya (xr t p),[]):=by
 rw[zi1];unfold zbk;obtain⟨y,hy⟩:=zuE p hp p.length 0 t h (by omega);rw[zU,show((0:Nat):Int)=0 from rfl]at hy;have z1:(1:Nat)=0↔False:=by decide
 cases hg:xr t p with
 | none=>rw[hg]at hy;simp only[xp,zj,zp,zb,zd,hy,z1,zCm,z5,zr,zd2,Ya]
 | some x=>rw[hg]at hy;simp only[xp,zj,zp,zb,zd,hy,zCl,z5,zr,Ya]
theorem zva(l:List Str)(hl:l.length<=1000000)(k:Nat) : ∀ (i:Nat) (x:Tree),Sz x->i+k=l.length ->
  ∃ y:V,zq (kB (.sl (strs l))) (vec (.int .i64 (i:Int)::x.val::zs))=match xr x (l.drop i)with | some z=>some (0,vec [z.val,.agg zs]) | none=>some (1,vec (.bool false::y::zs)):=by
 induction k with
 | zero=>
  intro i x hx hi;rw[zQ (by omega)];refine⟨x.val,zg ?_⟩;unfold kB;have c1 : ¬ (i:Int)<(l.length:Int):=by omega
  simp only[wU,yr,zb,zd,zr,c1,zCo]
 | succ k ih=>
  intro i x hx hi;have hlt:i<l.length:=by omega
  have c1:(i:Int)<(l.length:Int):=by omega
  have hg:l[i]?=some l[i]:=zL hlt;rw[zO hlt];have hst:=zu8 x l[i] hx.v hx.k;cases hc:child x l[i]with
  | none=>rw[hc]at hst;refine⟨x.val,?_⟩;simp only[xr,hc,zCN];apply zg;unfold kB;simp only[xp,wU,jq,zb,zr,c1,ze,zy,zd,zf _ i l.length hlt,yk,hg,zC,yd,hst,Ya,zl,zM,zN,yE,zI]
  | some y=>rw[hc]at hst;obtain⟨z,hz⟩:=ih (i+1) y (hx.child hc) (by omega);refine⟨z,?_⟩;simp only[xr,hc,zD];rw[<- hz];apply zn;unfold kB;simp only[wU,jq,yr,zb,zr,c1,zy,zd,zf _ i l.length hlt,yk,hg,zC,yd,hst,Ya,zl,zM,zN,yE,zH,yU,yI (i:=i) (by omega)]
theorem znF(t:Tree)(p:List Str)(h:Sz t)(hp:p.length<=1000000):P0 xT [.v t.val,.v (.sl (strs p))] []=some (Ya (xr t p),[]):=by
 rw[znW];unfold zfs;obtain⟨y,hy⟩:=zva p hp p.length 0 t h (by omega);rw[zU,show((0:Nat):Int)=0 from rfl]at hy;have z1:(1:Nat)=0↔False:=by decide
 cases hg:xr t p with
 | none=>rw[hg]at hy;simp only[xp,zj,zp,hy,z1,zCm,z5,zr,zd2,Ya]
 | some x=>rw[hg]at hy;simp only[xp,zj,zp,hy,zCl,z5,zr,Ya]
theorem zyx(p:List Str) : ∀ (t v:Tree),Sz t->p.length<=1000000->P0 qu [.v t.val,.v (.sl (strs p)),.v v.val] []=some (Ya (Zm t p v),[]):=by
 induction p with
 | nil=>intro t v h _;rw[K7];unfold VC;have e:(((0:Nat):Int)==0)=true:=rfl;simp only[xp,zj,zp,zb,zd,zCx,e,zCl];rfl
 | cons s r ih=>
  intro t v h hp;have hp:r.length+1<=1000000:=hp;rw[K7];unfold VC;have e0:(((((s::r).length:Nat):Int))==0)=false:=by rw[zxR];simp
  have h0:0<(s::r).length:=by simp
  have hst:=zpg t s h.v;have hb:=Wc .i64 1 (s::r).length ⟨by decide,by simp only[zCw];omega⟩;have et:((strs (s::r)).drop (1:Int).toNat).take ((s::r).length-(1:Int).toNat)=strs r:=by rw[zaz,j5];show strs ((r).take ((s::r).length-1))=strs r;rw[zV (by simp)]
  cases hc:child t s with
  | none=>rw[hc]at hst;simp only[Zm,hc,zCN];simp only[yr,zj,zp,zb,zd,e0,zy,zgl _ _ h0,yk,zM,zC,yd,hst,Ya,zl,zN,z5,yE,zI,zCl,zd2]
  | some x=>
   rw[hc]at hst;have hx:=h.child hc;have hi:=ih x v hx (by omega);simp only[Zm,hc,zD];cases hq:Zm x r v with
   | none=>rw[hq]at hi;simp only[yr,zj,zp,zb,zd,e0,zy,zgl _ _ h0,yk,zM,zC,yd,hst,Ya,zl,zN,zCl,hb,et,hi,z5,yE,zI,zd2,Option.map_none]
   | some y=>
    rw[hq]at hi;by_cases hk:t.kind=7
    ·have hset:=zyh t s y h.ord.al_srt (zCA (zhw t) h.v);simp only[jq,yr,zb,zd,e0,zy,zgl _ _ h0,yk,zM,zC,yd,hst,Ya,zl,zN,hb,et,hi,z5,zr,yE,zH,xk,zv,hk,hset,V6]
    ·have hk6:t.kind=6:=by
      refine Classical.byContradiction fun h6 => ?_
      unfold child at hc;rw[zCj h6,Wm hk]at hc;simp[lk]at hc
     have hix : ∃ i,ql s ((t.v.length:Int)-1)=some i:=by unfold child at hc;rw[zCk hk6,zA]at hc;obtain⟨i,hi,_⟩:=hc;exact⟨i,hi⟩
     obtain⟨i,hix⟩:=hix;have hlt:=Jf hix;have hpi:=zg1 s ((t.v.length:Int)-1);rw[hix]at hpi;have hm:=zlY 120 t.v.length (by have:=h.v;omega) (by have:=h.v;omega);have hsl : ∀ z:V,(((wJ (List.replicate t.v.length z) 0 ((trs t.v).take (Nat.min t.v.length t.v.length))).set (0+i) y.val).drop 0).take t.v.length=trs (t.v.set i y):=by
      intro z;have h1:wJ (List.replicate t.v.length z) 0 ((trs t.v).take (Nat.min t.v.length t.v.length))=trs t.v:=by
       rw[zlh]
       ·rw[zV];rw[zh];simp
       ·rw[zCy,zh,zCL];simp
      rw[h1,zCu,zU,zmZ,zV];rw[zh,List.length_set];exact zR _
     have hpc:V6 t s y=znu t (t.v.set i y):=by unfold V6;rw[zCj hk,hix];rfl
     have hval:(znu t (t.v.set i y)).val = .agg [.int .i64 t.kind,.bool t.b,.bool t.n.neg,.sl (zu t.n.m),.int .i64 t.n.e,.str t.s,.sl (strs t.k),.sl (trs (t.v.set i y))]:=by rw[Tree.val_eq];rfl
     simp only[yr,zj,zp,zb,zd,e0,zy,zgl _ _ h0,yk,zM,zC,yd,hst,Ya,zl,zN,zCl,hb,et,hi,z5,zr,yE,zH,xk,zv,hk,zCo,xw,zh,zdd h.v,hpi,zaY,hm,YW,zf _ i t.v.length hlt,Q4,zaJ,zkj,znC,Wa,qp,hsl,hpc,hval]
theorem zsq(a b:List Str)(ha:a.length<=1000000):P0 wm [.v (.sl (strs a)),.v (.sl (strs b))] []=some (.bool (decide (a.length<=b.length)&&decide (a=b.take a.length)),[]):=by
 rw[zdR];unfold Qn;have d:decide (((((a.length:Nat):Int)):Int)<=((b.length:Nat):Int))=decide (a.length<=b.length):=by
  by_cases h:a.length<=b.length
  ·rw[zCp h,zCp (by omega)]
  ·rw[zCq h,zCq (by omega)]
 by_cases h:a.length<=b.length
 ·have hb:=KC .i64 (a.length:Int) b.length ⟨by omega,by omega⟩;rw[zCQ]at hb;have he:=seq_ok a (b.take a.length) ha;simp only[xp,zb,zd,d,zCp h,zCl,zy,hb,zU,Nat.sub_zero,j5,he,Bool.true_and]
 ·simp only[xp,zb,zd,d,zCq h,zF,zCm,Bool.false_and]
end
section
attribute [local irreducible] P0
def arr(l:List Tree):Tree := .mk 6 false .zero [] [] l
theorem znY{l:List Tree}(h : ∀ x,x∈l->OrdT x):OrdT (arr l):=
 .mk _ (fun h=>by simp[arr,Tree.kind]at h) (by rw[Wm (by simp[arr,Tree.kind])];trivial) (fun x hx=>by simp[arr,Tree.n,Nm.zero]at hx) (by simp[arr,Tree.n,Nm.zero]) (Nat.zero_le _) h
theorem zjl(l:List Tree):yb (arr l)=1+weightL l:=by
 rw[wu];have:w1 (arr l)=1:=by unfold w1;simp[arr,Tree.kind]
 rw[this];rfl
theorem J0(a b:List Tree):weightL (a++b)=weightL a+weightL b:=by
 induction a with
 | nil=>simp[weightL]
 | cons x r ih=>simp only[List.cons_append,weightL,ih];omega
theorem zow{l:List Tree}{i:Nat}{x y:Tree}(h:l[i]?=some x):weightL (l.set i y)+yb x=weightL l+yb y:=by
 induction l generalizing i with
 | nil=>simp at h
 | cons z r ih=>
  cases i with
  | zero=>simp only[zM,zCr]at h;subst h;simp only[List.set_cons_zero,weightL];omega
  | succ i=>simp only[zN]at h;have:=ih h;simp only[List.set_cons_succ,weightL];omega
theorem Vx(l:List Tree)(i:Nat):weightL (l.take i)+weightL (l.drop i)=weightL l:=by rw[<- J0,List.take_append_drop]
theorem Wt{t x:Tree}{s:Str}(h:child t s=some x):t.kind=6\/t.kind=7:=by
 refine Classical.byContradiction fun hn => ?_
 unfold child at h;rw[zCj (fun e=>hn (.inl e)),Wm (fun e=>hn (.inr e))]at h;simp[lk]at h
theorem VT{t x:Tree}{s:Str}(hk:t.kind=6)(h:child t s=some x) : ∃ i,ql s ((t.v.length:Int)-1)=some i/\t.v[i]?=some x/\i<t.v.length:=by unfold child at h;rw[zCk hk,zA]at h;obtain⟨i,h1,h2⟩:=h;exact⟨i,h1,h2,Jf h1⟩
theorem zi3{t x:Tree}{s:Str}(hk:t.kind=7)(h:child t s=some x):lk s (al t)=some x:=by unfold child at h;rw[zCj (by omega)]at h;exact h
theorem OrdT.obj{t:Tree}(h:OrdT t)(hk:t.kind=7):t=Ev.obj (al t):=by cases h with | mk _ h _ _ _ _ _=>exact h hk
theorem zxq{t x y:Tree}{s:Str}(hc:child t s=some x)(h:OrdT t)(hy:OrdT y):OrdT (V6 t s y)/\yb (V6 t s y)+yb x=yb t+yb y:=by
 by_cases hk:t.kind=7
 ·have hp:V6 t s y=obj (we s y (al t)):=zCk hk;rw[hp];refine⟨zde (Vg h.al_srt) (fun q hq => ?_),?_⟩
  ·rcases znm hq with rfl | hq
   ·exact hy
   ·exact h.al_ord q hq
  ·have e:=h.obj hk;have w:=zwR (n:=s) (v:=y) h.al_srt;rw[zi3 hk hc]at w;have hw:yb t=1+wA (al t):=by rw[<- Yv,<- e]
   rw[Yv,hw];simp only[wO]at w;omega
 ·have hk6:t.kind=6:=(Wt hc).resolve_right hk;obtain⟨i,h1,h2,h3⟩:=VT hk6 hc;have hp:V6 t s y=znu t (t.v.set i y):=by unfold V6;rw[zCj hk,h1];rfl
  rw[hp];constructor
  ·cases h with
   | mk _ g hs g1 g2 g3 hv=>
    refine .mk _ (fun e=>absurd e hk) (by rw[Wm (show ¬ (znu t (t.v.set i y)).kind=7 from hk)];trivial) g1 g2 (by show t.k.length<=(t.v.set i y).length;rw[List.length_set];exact g3) (fun z hz => ?_);rcases List.mem_or_eq_of_mem_set hz with hz | rfl
    ·exact hv z hz
    ·exact hy
  ·have:=zow (y:=y) h2;have e1:w1 (znu t (t.v.set i y))=w1 t:=rfl;rw[wu,wu t,e1];show w1 t+weightL (t.v.set i y)+_=_;omega
theorem zd3(p:List Str) : ∀ {t y:Tree},OrdT t->OrdT y -> ∀ {old:Tree},xr t p=some old -> ∃ u,Zm t p y=some u/\OrdT u/\yb u+yb old=yb t+yb y:=by
 induction p with
 | nil=>intro t y ht hy old h;injection h with h;subst h;exact⟨y,rfl,hy,by omega⟩
 | cons s r ih=>intro t y ht hy old h;simp only[xr,zA]at h;obtain⟨x,hc,h⟩:=h;obtain⟨u,h1,h2,h3⟩:=ih (ht.sub _ (XV hc)) hy h;obtain⟨h4,h5⟩:=zxq hc ht h2;refine⟨V6 t s u,?_,h4,by omega⟩;simp only[Zm,hc,zD,h1,zC]
theorem Qp(p:List Str) : ∀ {t x:Tree},xr t p=some x->OrdT t->OrdT x/\yb x<=yb t:=by
 induction p with
 | nil=>intro t x h ht;injection h with h;subst h;exact⟨ht,zR _⟩
 | cons s r ih=>intro t x h ht;simp only[xr,zA]at h;obtain⟨y,hc,h⟩:=h;obtain⟨h1,h2⟩:=ih h (ht.sub _ (XV hc));have:=zjw (XV hc);exact⟨h1,by omega⟩
theorem Sz.get{t x:Tree}{p:List Str}(h:Sz t)(hx:xr t p=some x):Sz x:=by obtain⟨h1,h2⟩:=Qp p hx h.ord;exact⟨h1,by have:=h.w;omega⟩
def yN(p:List Str):Str:=p.getLastD []
theorem zmJ{p:List Str}(h:p≠[]):p.dropLast++[yN p]=p:=by unfold yN;rw[List.getLastD_eq_getLast?,List.getLast?_eq_some_getLast h];exact List.dropLast_concat_getLast h
def We(s:Str)(n:Nat):Option Nat:=if s=[45]then some n else ql s n
def Xz(t:Tree)(p:List Str)(v:Tree):Option Tree:=
 if p=[]then some v else(xr t p.dropLast).bind fun x=>
  if x.kind=7 then Zm t p.dropLast (obj (we (yN p) v (al x)))
  else if x.kind=6 then(We (yN p) x.v.length).bind fun i=>Zm t p.dropLast (arr (x.v.take i++v::x.v.drop i))
  else none
def zgq(x:Tree)(s:Str):Tree:=if x.kind=7 then obj (Xe s (al x))else arr (x.v.take ((ql s ((x.v.length:Int)-1)).getD 0)++x.v.drop ((ql s ((x.v.length:Int)-1)).getD 0+1))
def zbN(t:Tree)(p:List Str):Option Tree:=
 if p=[]then none else(xr t p).bind fun _=>(xr t p.dropLast).bind fun x=>Zm t p.dropLast (zgq x (yN p))
def znB(a b:List Str):Bool:=decide (a.length<=b.length)&&decide (a=b.take a.length)
def zqL(t:Tree)(a b:List Str):Option Tree:=(xr t a).bind fun v=>if a=b then some t else if a=[]\/znB a b=true then none else(zbN t a).bind fun x=>Xz x b v
structure OpR where
 op:Int
 path:List Str
 from':List Str
 value:Tree
def OpR.val(o:OpR):V := .agg [.int .i64 o.op,.sl (strs o.path),.sl (strs o.from'),.int .i64 o.value.kind,.bool o.value.b,.bool o.value.n.neg,.sl (zu o.value.n.m),.int .i64 o.value.n.e,.str o.value.s,.sl (strs o.value.k),.sl (trs o.value.v)]
noncomputable def vj(t:Tree)(o:OpR):Option Tree:=
 if o.op=1 then Xz t o.path o.value
 else if o.op=2 then zbN t o.path
 else if o.op=3 then Zm t o.path o.value
 else if o.op=4 then zqL t o.from' o.path
 else if o.op=5 then(xr t o.from').bind fun v=>Xz t o.path v
 else if o.op=6 then(xr t o.path).bind fun x=>(open Classical in if x=o.value then some t else none)
 else none
theorem zhm{t y:Tree}{p:List Str}(hp:p≠[])(h:xr t p=some y) : ∃ x,xr t p.dropLast=some x/\child x (yN p)=some y:=by rw[<- zmJ hp,zj2,zA]at h;obtain⟨x,h1,h2⟩:=h;refine⟨x,h1,?_⟩;simp only[xr,zA]at h2;obtain⟨z,h2,h3⟩:=h2;injection h3 with h3;subst h3;exact h2
theorem zv0{x y:Tree}{s:Str}(hc:child x s=some y)(h:OrdT x):OrdT (zgq x s)/\yb (zgq x s)<=yb x:=by
 by_cases hk:x.kind=7
 ·have hp:zgq x s=obj (Xe s (al x)):=zCk hk;rw[hp];refine⟨zde (ztB h.al_srt) (fun q hq=>h.al_ord q (zzb hq)),?_⟩;have e:=h.obj hk;have hw:yb x=1+wA (al x):=by rw[<- Yv,<- e]
  rw[Yv,hw];have:=zAp s (al x);omega
 ·have hk6:x.kind=6:=(Wt hc).resolve_right hk;obtain⟨i,h1,h2,h3⟩:=VT hk6 hc;have hp:zgq x s=arr (x.v.take i++x.v.drop (i+1)):=by unfold zgq;rw[zCj hk,h1];rfl
  rw[hp];refine⟨znY (fun z hz => ?_),?_⟩
  ·rcases List.mem_append.1 hz with hz | hz
   ·exact h.sub z (List.mem_of_mem_take hz)
   ·exact h.sub z (List.mem_of_mem_drop hz)
  ·rw[zjl,J0,wu x];have e1:=Vx x.v i;have e2:=Vx (x.v.drop i) 1;rw[List.drop_drop]at e2;have:=zbx x;omega
theorem zxP{t u:Tree}{p:List Str}(ht:OrdT t)(h:zbN t p=some u):OrdT u/\yb u<=yb t:=by
 unfold zbN at h;split at h
 ·contradiction
 ·next hp=>
  rw[zA]at h;obtain⟨y,hy,h⟩:=h;obtain⟨x,h1,h2⟩:=zhm hp hy;rw[h1,zD]at h;obtain⟨h3,h4⟩:=zv0 h2 (Qp _ h1 ht).1;obtain⟨u',h5,h6,h7⟩:=zd3 _ ht h3 h1;rw[h5]at h;injection h with h;subst h;exact⟨h6,by omega⟩
end
section
attribute [local irreducible] P0
def qJ:V := .tup [.bool false,.iface zgm (.agg [])]
def wj(o:Option Tree):V:=match o with
 | some x => .tup [.bool true,x.val]
 | none=>qJ
theorem wZ(b:Bool):P0 z7 [.v (.bool b)] []=some (if b=true then .tup [.bool true,.tup []]else qJ,[]):=by
 rw[zoM];unfold ziw;cases b with
 | true=>simp only[yr,yE,zH,zCl]
 | false=>simp only[yr,yE,zI,zCl,za6];rfl
theorem zav(t:Tree)(p:List Str)(h:Sz t)(hp:p.length<=1000000):P0 qB [.v t.val,.v (.sl (strs p))] []=some (wj (xr t p),[]):=by
 rw[zrT];unfold zlW;have hg:=zyJ t p h hp;cases hx:xr t p with
 | none=>rw[hx]at hg;simp only[yr,zj,zp,hg,Ya,zl,zM,zN,wZ,qJ,wj]
 | some x=>rw[hx]at hg;simp only[xp,zj,zp,hg,Ya,zl,zM,zN,wZ,zCl,ze,wj]
theorem zcv(t:Tree)(p:List Str)(v:Tree)(h:Sz t)(hp:p.length<=1000000):P0 Ze [.v t.val,.v (.sl (strs p)),.v v.val] []=some (wj (Zm t p v),[]):=by
 rw[zr4];unfold zlM;have hg:=zyx p t v h hp;cases hx:Zm t p v with
 | none=>rw[hx]at hg;simp only[yr,zj,zp,hg,Ya,zl,zM,zN,wZ,qJ,wj]
 | some x=>rw[hx]at hg;simp only[xp,zj,zp,hg,Ya,zl,zM,zN,wZ,zCl,ze,wj]
theorem zqN(p:List Str)(h:p≠[])(hp:p.length<=1000000):P0 jT [.v (.sl (strs p))] []=some (.tup [.sl (strs p.dropLast),.str (yN p)],[]):=by
 rw[zmz];unfold zfT;have hl:0<p.length:=List.length_pos_iff.2 h;have w:IntKind.i64.wrap (((p.length:Nat):Int)-1)=((p.length-1:Nat):Int):=(w64 (a:=(p.length:Int)-1) (by omega)).trans (by omega);have hb:=KC .i64 ((p.length-1:Nat):Int) p.length ⟨by omega,by omega⟩;rw[zCQ]at hb;have hlast:p[p.length-1]?=some (yN p):=by
  unfold yN;rw[List.getLastD_eq_getLast?,List.getLast?_eq_getElem?];cases hx:p[p.length-1]? with
  | none=>rw[List.getElem?_eq_none_iff]at hx;omega
  | some x=>rfl
 simp only[xp,zb,zd,zy,w,hb,zf _ (p.length-1) p.length (by omega),yk,hlast,zC,yd,zU,Nat.sub_zero,j5,List.dropLast_eq_take]
theorem zxw(a b c:List V):yn 1 [V.sl a,V.sl b,V.sl c]=true:=rfl
theorem V7(a b c:List V):yu 1 (.sl [V.sl a,V.sl b,V.sl c])=some [.sl a,.sl b,.sl c]:=by unfold yu;simp only[zxw]
theorem zrD(a b c:List Tree)(ha:a.length<=1000000)(hb:b.length<=1000000)(hc:c.length<=1000000):P0 yZ [.v (.sl [.sl (trs a),.sl (trs b),.sl (trs c)])] []=some (.sl (trs (a++b++c)),[]):=by
 rw[Xf];unfold kU;have w1:IntKind.i64.wrap (0+(a.length:Int))=(a.length:Int):=w64 (a:=0+(a.length:Int)) (by omega) |>.trans (by omega);have w2:IntKind.i64.wrap ((a.length:Int)+(b.length:Int))=((a.length+b.length:Nat):Int):=w64 (a:=(a.length:Int)+(b.length:Int)) (by omega) |>.trans (by omega);have w2':IntKind.i64.wrap (((a.length+b.length:Nat):Int)+(c.length:Int))=((a.length+b.length+c.length:Nat):Int):=w64 (a:=((a.length+b.length:Nat):Int)+(c.length:Int)) (by omega) |>.trans (by omega);have w3:IntKind.i64.wrap (0+1)=1:=by decide
 have w4:IntKind.i64.wrap (1+1)=2:=by decide
 have w5:IntKind.i64.wrap (2+1)=3:=by decide
 have c0 : ¬ (a.length:Int)<0:=by omega
 have c1 : ¬ ((a.length+b.length:Nat):Int)<0:=by omega
 have c2 : ¬ ((a.length+b.length+c.length:Nat):Int)<0:=by omega
 have d0:(0:Int)<((3:Nat):Int):=by decide
 have d1:(1:Int)<((3:Nat):Int):=by decide
 have d2:(2:Int)<((3:Nat):Int):=by decide
 have d3 : ¬ (3:Int)<((3:Nat):Int):=by decide
 have i0:=zgl .i64 3 (by decide);have i1:yQ (.int .i64 1) 3=some 1:=zf .i64 1 3 (by decide);have i2:yQ (.int .i64 2) 3=some 2:=zf .i64 2 3 (by decide);have l1:zq (yx 3 (.sl [.sl (trs a),.sl (trs b),.sl (trs c)])) (vec [.int .i64 0,.int .i64 0])=some (0,vec [.int .i64 ((a.length+b.length+c.length:Nat):Int)]):=by
  rw[zn (a':=vec [.int .i64 (a.length:Int),.int .i64 1])]
  ·rw[zn (a':=vec [.int .i64 ((a.length+b.length:Nat):Int),.int .i64 2])]
   ·rw[zn (a':=vec [.int .i64 ((a.length+b.length+c.length:Nat):Int),.int .i64 3])]
    ·apply zg;unfold yx;simp only[wU,yr,zr,d3,zCo]
    ·unfold yx;simp only[wU,yr,zr,d2,zCn,zCl,V7,zCw,zCx,zCu,Nat.reduceAdd,i2,zN,zM,wy,zb,zh,yU,w2',c2,zCo,w5]
   ·unfold yx;simp only[wU,yr,zr,d1,zCn,zCl,V7,zCw,zCx,zCu,Nat.reduceAdd,i1,zN,zM,wy,zb,zh,yU,w2,c1,zCo,w4]
  ·unfold yx;simp only[wU,yr,zr,d0,zCn,zCl,V7,zCw,zCx,zCu,Nat.reduceAdd,i0,zM,wy,zb,zh,yU,w1,c0,zCo,w3]
 have l2:zq (yw 3 (.sl [.sl (trs a),.sl (trs b),.sl (trs c)])) (vec [.sl [],.int .i64 0])=some (0,vec [.sl (trs (a++b++c))]):=by
  rw[zn (a':=vec [.sl (trs a),.int .i64 1])]
  ·rw[zn (a':=vec [.sl (trs (a++b)),.int .i64 2])]
   ·rw[zn (a':=vec [.sl (trs (a++b++c)),.int .i64 3])]
    ·apply zg;unfold yw;simp only[wU,yr,zr,d3,zCo,zt]
    ·unfold yw;simp only[xp,wU,zr,d2,zCn,ze,zCl,V7,zCw,zCx,zCu,Nat.reduceAdd,i2,zN,zM,wy,YW,zt,zh,zZ,wv 120 (a.length+b.length) c.length (by omega) (by omega),zp,yU,w5,zg2]
   ·unfold yw;simp only[xp,wU,zr,d1,zCn,ze,zCl,V7,zCw,zCx,zCu,Nat.reduceAdd,i1,zN,zM,wy,YW,zt,zh,wv 120 a.length b.length (by omega) (by omega),zp,yU,w4,zg2]
  ·unfold yw;simp only[xp,wU,zr,d0,zCn,ze,zCl,V7,zCw,zCx,zCu,Nat.reduceAdd,i0,zM,wy,YW,zt,zh,wv 120 0 a.length (by omega) (by omega),zp,yU,w3,List.nil_append]
 simp only[xp,zb,zCw,zCx,zCu,Nat.reduceAdd,l1,zCl,z5,ztj _ (by omega:a.length+b.length+c.length<=100000000),znb,l2,zt]
theorem zta(l:List Tree):(arr l).val = .agg [.int .i64 6,.bool false,.bool false,.sl [],.int .i64 0,.str [],.sl [],.sl (trs l)]:=by rw[Tree.val_eq];rfl
theorem zBr(s:Str):(s==([45]:Str))=decide (s=[45]):=by
 by_cases h:s=[45]
 ·rw[zCp h,h];rfl
 ·rw[zCq h,beq_eq_false_iff_ne];exact h
theorem zw8{s:Str}{n i:Nat}(h:ql s (n:Int)=some i):i<=n:=by have:=zmP h;omega
theorem zuI{s:Str}{n i:Nat}(h:We s n=some i):i<=n:=by
 unfold We at h;split at h
 ·injection h with h;omega
 ·exact zw8 h
theorem zof(t:Tree)(p:List Str)(v:Tree)(h:Sz t)(hp:p.length<=1000000):P0 XR [.v t.val,.v (.sl (strs p)),.v v.val] []=some (wj (Xz t p v),[]):=by
 rw[zrZ];unfold zmv;unfold Xz;by_cases hn:p=[]
 ·subst hn;have e:(((0:Nat):Int)==0)=true:=rfl;simp only[xp,zj,zp,zb,zd,zCx,e,zCl,wj]
 rw[zCj hn];have e0:(((((p.length:Nat):Int))==0))=false:=by rw[zxR];exact zCq hn
 have hup:p.dropLast.length<=1000000:=by rw[List.length_dropLast];omega
 have hs:=zqN p hn hp;have hg:=zav t p.dropLast h hup;cases hx:xr t p.dropLast with
 | none=>rw[hx]at hg;simp only[yr,zj,zp,zb,zd,e0,hs,zl,zM,zN,hg,wj,qJ,zCN]
 | some x=>
  rw[hx]at hg;have hsz:=h.get hx;simp only[zD];by_cases hk:x.kind=7
  ·rw[zCk hk];have hset:=zyh x (yN p) v hsz.ord.al_srt (zCA (zhw x) hsz.v);have hput:=zcv t p.dropLast (obj (we (yN p) v (al x))) h hup;cases hq:Zm t p.dropLast (obj (we (yN p) v (al x)))with
   | none=>rw[hq]at hput;simp only[jq,yr,zb,zd,e0,hs,zl,zM,zN,hg,wj,xk,zv,hk,hset,hput,qJ]
   | some y=>rw[hq]at hput;simp only[jq,yr,zb,zd,e0,hs,zl,zM,zN,hg,wj,xk,zv,hk,hset,hput]
  rw[zCj hk];by_cases hk6:x.kind=6
  ·rw[zCk hk6];have hi:=zg1 (yN p) (x.v.length:Int);have hcut:(((za .eql (.str (yN p)) (.str [45])).bind fun x25=>
     (asBool x25).bind fun b26=>
     if b26=true then
     (zc x.val 7).bind fun c27=>
     (z6 c27).bind fun n28=>
     some (0,(vec [(.int .i64 ((n28:Nat):Int)),(.bool true)]))
     else
     some (0,(vec [.int .i64 ((((ql (yN p) x.v.length).getD 0:Nat)):Int),.bool (ql (yN p) x.v.length).isSome])):Option (Nat×(Nat->V))))=some (0,vec [.int .i64 ((((We (yN p) x.v.length).getD 0:Nat)):Int),.bool (We (yN p) x.v.length).isSome]):=by
    by_cases hd:yN p=[45]
    ·have:We (yN p) x.v.length=some x.v.length:=zCk hd;rw[this];simp only[xp,qf,zBr,zCp hd,ze,zCl,xw,zb,zh,Option.getD_some,zCJ]
    ·have:We (yN p) x.v.length=ql (yN p) x.v.length:=zCj hd;rw[this];simp only[yr,qf,zBr,zCq hd]
   have hi2:zaY (ql (yN p) (x.v.length:Int)) = .tup [.int .i64 ((((ql (yN p) x.v.length).getD 0:Nat)):Int),.bool (ql (yN p) x.v.length).isSome]:=by cases ql (yN p) (x.v.length:Int)<;>rfl
   rw[hi2]at hi;have k7 : ¬ ((6:Int)=7):=by decide
   cases hq:We (yN p) x.v.length with
   | none=>rw[hq]at hcut;simp only[jq,yr,zb,zd,e0,hs,zl,zM,zN,hg,wj,xk,zv,hk6,k7,zCo,xw,zh,hi,zCN];simp only[xp,xw,zb,zh]at hcut;simp only[yr,hcut,z5,zr,Option.isSome_none,wZ,qJ,zl,zM,zN]
   | some i=>
    rw[hq]at hcut;have hle:=zuI hq;have hb1:=KC .i64 (i:Int) x.v.length ⟨by omega,by omega⟩;have hb2:=Wc .i64 (i:Int) x.v.length ⟨by omega,by omega⟩;rw[zCQ]at hb1 hb2;have hxl:=hsz.v;have hcc:=zrD (x.v.take i) [v] (x.v.drop i) (by rw[zCy];omega) (by simp) (by rw[zCz];omega);have e1:trs [v]=[v.val]:=rfl;rw[e1]at hcc;have hdt:(x.v.drop i).take (x.v.length-i)=x.v.drop i:=by rw[zV];rw[zCz];exact zR _
    have happ:x.v.take i++[v]++x.v.drop i=x.v.take i++v::x.v.drop i:=by simp
    rw[happ]at hcc;have hput:=zcv t p.dropLast (arr (x.v.take i++v::x.v.drop i)) h hup;rw[zta]at hput;simp only[jq,yr,zb,zd,e0,hs,zl,zM,zN,hg,wj,xk,zv,hk6,k7,zCo,xw,zh,hi,zD];simp only[xp,xw,zb,zh]at hcut;simp only[xp,hcut,z5,zr,zCJ,Option.getD_some,wZ,zCl,zl,zM,zN,ze,xw,zj,yP,zh,hb1,hb2,zU,Nat.sub_zero,Wx,Qb,hdt,hcc,Yb,zp,wy,hput];cases Zm t p.dropLast (arr (x.v.take i++v::x.v.drop i))with
    | none=>simp only[yr,wj,qJ,zl,zM,zN]
    | some y=>simp only[xp,wj,zl,zM,zN,ze,zCl,zj,zp]
  ·rw[zCj hk6];simp only[yr,zj,zp,zb,zd,e0,hs,zl,zM,zN,hg,wj,zCl,xk,zv,hk,hk6,zCo,za6];rfl
end
section
attribute [local irreducible] P0
mutual
def zpF:Tree->Bool
 | .mk _ _ _ _ _ v=>decide (v.length<=300)&&fewL v
def fewL:List Tree->Bool
 | []=>true
 | x::r=>zpF x&&fewL r
end
theorem zz9(t:Tree):zpF t=(decide (t.v.length<=300)&&fewL t.v):=by cases t;rw[zpF];rfl
theorem zxM(l:List Tree):fewL l = !(l.any fun x => !zpF x):=by
 induction l with
 | nil=>rfl
 | cons x r ih=>rw[fewL,ih];cases hb:zpF x<;>simp[hb]
def zrM(t:Tree)(w:Int):Bool:=decide ((yb t:Int)<=w)&&decide ((vk t:Int)<=2000)&&decide ((depth t:Int)<=64)&&zpF t
theorem zny : ∀ t:Tree,vk t<=yb t:=by
 intro t;induction t using Tree.ind with
 | h t ih=>
  rw[qb,wu];have hp:=zbx t;have : ∀ l:List Tree,(∀ x,x∈l->vk x<=yb x)->nodesL l<=weightL l:=by
   intro l;induction l with
   | nil=>intro _;simp[nodesL]
   | cons y r ihr=>intro h;have h1:=h y zCO;have h2:=ihr (fun x hx=>h x (zP _ hx));rw[weightL,nodesL];omega
  have:=this t.v ih;omega
end
end Go.Ev
