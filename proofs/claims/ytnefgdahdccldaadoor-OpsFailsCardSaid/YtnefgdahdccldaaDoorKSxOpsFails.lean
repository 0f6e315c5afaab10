/- OpsFails: what does not go. -/
import Derived.Test.YtnefgdahdccldaaDoorRows
import Derived.Test.YtnefgdahdccldaaDoorKSA
import Derived.Test.YtnefgdahdccldaaDoorKSD
set_option linter.all false
open Option renaming bind_eq_some_iff->zA,bind_some->zD
open Bool renaming false_eq_true->zF,not_true->zH,not_false->zI
open List renaming getElem?_cons_zero->zM,getElem?_cons_succ->zN,length_append->zZ
open Nat renaming le_refl->zR
namespace Go.Ev
abbrev zvH:=And.intro @zn @wt
end Go.Ev
namespace Go.Ev
abbrev zmL:=And.intro @zv @X3
end Go.Ev
namespace Go.Ev
abbrev zqJ:=And.intro @if_true.{1} (And.intro @zBx @z5)
end Go.Ev
namespace Go.Ev
abbrev zrI:=And.intro @zn (And.intro @wt (And.intro @zf (And.intro @if_false.{1} @zF)))
end Go.Ev
namespace Go.Ev
attribute [local irreducible] P0
theorem u60(n:Nat):decide (((n:Nat):Int)>60)=decide (60<n):=by
 by_cases h:60<n
 ·rw[zBz h,zBz (show((n:Nat):Int)>60 by omega)]
 ·rw[zBA h,zBA (show ¬ ((n:Nat):Int)>60 by omega)]
theorem zoy:zxT Tree.zero := .mk _ (fun x hx=>by simp[Tree.zero,Tree.n,Nm.zero]at hx) (by simp[Tree.zero,Tree.n,Nm.zero]) (by simp[Tree.zero,Tree.k]) (by simp[Tree.zero,Tree.v]) (fun x hx=>by simp[Tree.zero,Tree.v]at hx)
theorem zkw:P0 yY [.v Tree.zero.val,.v (.agg [.int .i64 0,.bool false,.bool false,.sl [],.int .i64 0,.str [],.sl [],.sl []])] []=some (.bool true,[]):=by rw[<- KJ];exact znR Tree.zero zoy
theorem ztR:TameT Tree.zero := .mk _ ⟨fun x hx=>by simp[Tree.zero,Tree.n,Nm.zero]at hx,by simp[Tree.zero,Tree.n,Nm.zero],by simp[Tree.zero,Tree.k]⟩ (fun x hx=>by simp[Tree.zero,Tree.v]at hx)
theorem zqF(t:Tree)(o:OpR)(w:Int)(hc:P0 xo [.v t.val] []=some (.bool true,[]))(hg:P0 qa [.v o.val] []=some (.bool true,[]))(h1:P0 jm [.v t.val,.v o.val] []=some (.tup [Tree.zero.val,.bool false],[])) :
  P0 vn [.v t.val,.v (.sl [o.val]),.v (.int .i64 w)] []=some (.tup [Tree.zero.val,.int .i64 0,.int .i64 5],[]):=by
 have hk:=zeI [o] (by simp) (fun x hx=>by rw[List.mem_singleton.1 hx];exact hg);have hl:zr (wv 1 (.sl (zbM [o])) (.int .i64 w)) (vec [.int .i64 0,t.val,.int .i64 0,.bool false,.bool false,.sl [],.int .i64 0,.str [],.sl [],.sl []]) =
   some (1,vec [.int .i64 0,.int .i64 5,t.val,.int .i64 0,.bool false,.bool false,.sl [],.int .i64 0,.str [],.sl [],.sl []]):=by
  apply zh;unfold wv;have c1:(0:Int)<((1:Nat):Int):=by decide
  have hx:(zbM [o])[0]?=some o.val:=rfl;have hix:=zg .i64 0 1 (by decide);have hix:y3 (.int .i64 0) 1=some 0:=hix;have hol:(zbM [o]).length=1:=rfl;simp only[zvH,zmL,zqJ,zl,c1,zf,JG,hol,hix,hx,yP,h1,zm,zM,zN,za,yu,zI]
 have hk:P0 jM [.v (.sl [o.val])] []=some (.bool true,[]):=hk;have hl:zr (wv 1 (.sl [o.val]) (.int .i64 w)) (vec [.int .i64 0,t.val,.int .i64 0,.bool false,.bool false,.sl [],.int .i64 0,.str [],.sl [],.sl []]) =
   some (1,vec [.int .i64 0,.int .i64 5,t.val,.int .i64 0,.bool false,.bool false,.sl [],.int .i64 0,.str [],.sl [],.sl []]):=hl
 rw[zcp];unfold Kh;simp only[zmL,zrI,za,z5,hc,yu,zH,zBv,hk,zb,zBG,zBH,zBE,hl,zBM,KJ]
def zqu:Str:=[110,111,119,104,101,114,101]
def zrN:Str:=[97,116,32,97,108,108]
theorem zqW{x:Tree}(ho:OkT x)(hn:NmT x):child x zqu=none:=by
 unfold child;by_cases hk:x.kind=6
 ·rw[zBu hk];have h:zgj zqu=none:=by decide
  unfold qH;rw[h];rfl
 ·rw[zBt hk];by_cases h7:x.kind=7
  ·rw[J5];obtain⟨_,h1,_⟩:=zx1 ho.okG h7;rw[h1];intro hm;cases hn with
   | mk _ hk _=>exact absurd (hk _ hm) (by decide)
  ·rw[Y0 h7];rfl
theorem zyn(p:List Str) : ∀ {t x:Tree},NmT t->xy t p=some x->NmT x:=by
 induction p with
 | nil=>intro t x ht h;injection h with h;subst h;exact ht
 | cons s r ih=>
  intro t x ht h;simp only[xy,zA]at h;obtain⟨y,hc,h⟩:=h;cases ht with
  | mk _ _ hv=>exact ih (hv _ (Yk hc)) h
theorem znM{t:Tree}(ho:OkT t)(hn:NmT t)(p:List Str)(r:List Str):xy t (p++zqu::r)=none:=by
 rw[zpU];cases h:xy t p with
 | none=>rfl
 | some x=>rw[zD];simp only[xy,zqW (zgB _ ho h) (zyn _ hn h),zBX]
theorem zwg{s:Str}(h:Tok s):s.length<=1000000000/\zpu s=true:=by refine⟨by have:=h.2;omega,?_⟩;unfold zpu;rw[zm3 h.1,zBz h.2];rfl
theorem zne{p:List Str}(hl:p.length<=63)(h : ∀ s,s∈p->Tok s):YI p=true:=by unfold YI;rw[zBz hl,Bool.true_and,List.all_eq_true];exact fun s hs=>(zwg (h s hs)).2
def zuV(t:Tree)(o:V):Prop:=P0 jm [.v t.val,.v o] []=some (.tup [Tree.zero.val,.bool false],[])/\P0 vn [.v t.val,.v (.sl [o]),.v (.int .i64 100000)] []=some (.tup [Tree.zero.val,.int .i64 0,.int .i64 5],[])
theorem Zu(t:Tree)(o:OpR)(c:Bool)(h:Sz t)(hc:P0 xo [.v t.val] []=some (.bool true,[]))(ho:1<=o.op/\o.op<=6)(hp : ∀ s,s∈o.path->Tok s)(hf : ∀ s,s∈o.from'->Tok s)(hpl:o.path.length<=63)(hfl:o.from'.length<=63)
  (hv:P0 xo [.v o.value.val] []=some (.bool c,[])) (hb:opB o c=true) (hs:o.op=6->OkT o.value /\ ∀ x,xy t o.path=some x->OkT x) (hd:vl t o=none):zuV t o.val:=by
 have h1:=zvI t o _ (zxR t o h ho (by omega) (by omega) (fun h6 x hx=>by obtain⟨h7,h8⟩:=hs h6;exact zuN _ (h8 x hx).okG (h8 x hx).tame _ h7.okG h7.tame));rw[hd]at h1;have h2:=zye o c hv (fun s hs=>(zwg (hp s hs)).1) (fun s hs=>(zwg (hf s hs)).1);rw[hb]at h2;exact⟨h1,zqF t o 100000 hc h2 h1⟩
theorem zyZ(o:OpR):ze o.val 3=some (.int .i64 o.value.kind):=rfl
theorem zyD(o:OpR):ze o.val 4=some (.bool o.value.b):=rfl
theorem zyH(o:OpR):ze o.val 5=some (.bool o.value.n.neg):=rfl
theorem zyY(o:OpR):ze o.val 6=some (.sl (zw o.value.n.m)):=rfl
theorem zy3(o:OpR):ze o.val 7=some (.int .i64 o.value.n.e):=rfl
theorem zy0(o:OpR):ze o.val 8=some (.str o.value.s):=rfl
theorem zyE(o:OpR):ze o.val 9=some (.sl (strs o.value.k)):=rfl
theorem zvw(o:OpR):ze o.val 10=some (.sl (trs o.value.v)):=rfl
theorem zxm(p:List Str) : ∀ {t x:Tree},xy t p=some x->xT x<=xT t/\depth x<=depth t:=by
 induction p with
 | nil=>intro t x h;injection h with h;subst h;exact⟨zR _,zR _⟩
 | cons s r ih=>intro t x h;simp only[xy,zA]at h;obtain⟨y,hc,h⟩:=h;obtain⟨h1,h2⟩:=ih h;have hm:=Yk hc;have h3:=zeT hm;have h4:=zkT hm;have h5:=wV t;have h6:=Zv t;omega
def inn:Str:=[105,110]
def nn(p:List Str):List Str:=p++[zqu,zrN]
theorem zAK(p:List Str):strs p++[V.str [110,111,119,104,101,114,101],V.str [97,116,32,97,108,108]]=strs (nn p):=by unfold nn;rw[<- Ju];rfl
theorem zyP(p:List Str):strs p++[V.str [105,110]]=strs (p++[inn]):=by rw[<- Ju];rfl
def fo(t:Tree)(p:List Str)(v:Tree):Nat->OpR
 | 0=>⟨2,[],[],.zero⟩
 | 1=>⟨2,nn p,[],.zero⟩
 | 2=>⟨3,nn p,[],t⟩
 | 3=>⟨1,nn p,[],t⟩
 | 4=>⟨5,p,nn p,.zero⟩
 | 5=>⟨4,p,nn p,.zero⟩
 | 6=>⟨4,p++[inn],p,.zero⟩
 | _=>⟨6,p,[],arr [v,v]⟩
theorem zAG(t:Tree)(p:List Str)(v:Tree)(k:Nat)(h:k<8):zjE true 8 11 (.agg [(.int .i64 2),(.sl []),(.sl []),(.int .i64 0),(.bool false),(.bool false),(.sl []),(.int .i64 0),(.str []),(.sl []),(.sl []),(.int .i64 2),(.sl (strs (nn p))),(.sl []),(.int .i64 0),(.bool false),(.bool false),(.sl []),(.int .i64 0),(.str []),(.sl []),(.sl []),(.int .i64 3),(.sl (strs (nn p))),(.sl []),(.int .i64 t.kind),(.bool t.b),(.bool t.n.neg),(.sl (zw t.n.m)),(.int .i64 t.n.e),(.str t.s),(.sl (strs t.k)),(.sl (trs t.v)),(.int .i64 1),(.sl (strs (nn p))),(.sl []),(.int .i64 t.kind),(.bool t.b),(.bool t.n.neg),(.sl (zw t.n.m)),(.int .i64 t.n.e),(.str t.s),(.sl (strs t.k)),(.sl (trs t.v)),(.int .i64 5),(.sl (strs p)),(.sl (strs (nn p))),(.int .i64 0),(.bool false),(.bool false),(.sl []),(.int .i64 0),(.str []),(.sl []),(.sl []),(.int .i64 4),(.sl (strs p)),(.sl (strs (nn p))),(.int .i64 0),(.bool false),(.bool false),(.sl []),(.int .i64 0),(.str []),(.sl []),(.sl []),(.int .i64 4),(.sl (strs (p++[inn]))),(.sl (strs p)),(.int .i64 0),(.bool false),(.bool false),(.sl []),(.int .i64 0),(.str []),(.sl []),(.sl []),(.int .i64 6),(.sl (strs p)),(.sl []),(.int .i64 6),(.bool false),(.bool false),(.sl []),(.int .i64 0),(.str []),(.sl []),(.sl [v.val,v.val])]) (.int .i64 (k:Int))=some (fo t p v k).val:=by
 have:k=0\/k=1\/k=2\/k=3\/k=4\/k=5\/k=6\/k=7:=by omega
 rcases this with rfl | rfl | rfl | rfl | rfl | rfl | rfl | rfl<;>rfl
theorem zAr(t:Tree)(p:List Str)(v:Tree)(k:Nat)(h:k<8):(fo t p v k).op=6↔k=7:=by
 have:k=0\/k=1\/k=2\/k=3\/k=4\/k=5\/k=6\/k=7:=by omega
 rcases this with rfl | rfl | rfl | rfl | rfl | rfl | rfl | rfl<;>simp[fo]
theorem zdD{p:List Str}(h : ∀ s,s∈p->Tok s) : ∀ s,s∈nn p->Tok s:=by
 intro s hs;rcases List.mem_append.1 hs with hs | hs
 ·exact h s hs
 ·rcases List.mem_cons.1 hs with rfl | hs
  ·exact⟨by decide,by decide⟩
  ·rw[List.mem_singleton.1 hs];exact⟨by decide,by decide⟩
theorem zv8{p:List Str}(h : ∀ s,s∈p->Tok s) : ∀ s,s∈p++[inn]->Tok s:=by
 intro s hs;rcases List.mem_append.1 hs with hs | hs
 ·exact h s hs
 ·rw[List.mem_singleton.1 hs];exact⟨by decide,by decide⟩
theorem zyu(p:List Str):(nn p).dropLast=p++[zqu]:=by unfold nn;rw[show p++[zqu,zrN]=(p++[zqu])++[zrN] by simp,List.dropLast_concat]
theorem zzA(t:Tree)(p f:List Str)(v:Tree):vl t ⟨1,p,f,v⟩=QC t p v:=zBu rfl
theorem zuW(t:Tree)(p f:List Str)(v:Tree):vl t ⟨2,p,f,v⟩=zdZ t p:=by unfold vl;rw[zBt (show ¬ ((2:Int)=1) by decide),zBu rfl]
theorem zzf(t:Tree)(p f:List Str)(v:Tree):vl t ⟨3,p,f,v⟩=Y6 t p v:=by unfold vl;rw[zBt (show ¬ ((3:Int)=1) by decide),zBt (show ¬ ((3:Int)=2) by decide),zBu rfl]
theorem zvj(t:Tree)(p f:List Str)(v:Tree):vl t ⟨4,p,f,v⟩=znd t f p:=by unfold vl;rw[zBt (show ¬ ((4:Int)=1) by decide),zBt (show ¬ ((4:Int)=2) by decide),zBt (show ¬ ((4:Int)=3) by decide),zBu rfl]
theorem zze(t:Tree)(p f:List Str)(v:Tree):vl t ⟨5,p,f,v⟩=(xy t f).bind fun v=>QC t p v:=by unfold vl;rw[zBt (show ¬ ((5:Int)=1) by decide),zBt (show ¬ ((5:Int)=2) by decide),zBt (show ¬ ((5:Int)=3) by decide),zBt (show ¬ ((5:Int)=4) by decide),zBu rfl]
theorem zvd(t:Tree)(p f:List Str)(v:Tree)(h : ∀ x,xy t p=some x->x≠v):vl t ⟨6,p,f,v⟩=none:=by
 unfold vl;rw[zBt (show ¬ ((6:Int)=1) by decide),zBt (show ¬ ((6:Int)=2) by decide),zBt (show ¬ ((6:Int)=3) by decide),zBt (show ¬ ((6:Int)=4) by decide),zBt (show ¬ ((6:Int)=5) by decide),zBu rfl];show(xy t p).bind _=_;cases hg:xy t p with
 | none=>rfl
 | some x=>rw[zD,zBt (h x hg)]
theorem lo1:(1:Int)<=1/\(1:Int)<=6:=by decide
theorem lo2:(1:Int)<=2/\(2:Int)<=6:=by decide
theorem lo3:(1:Int)<=3/\(3:Int)<=6:=by decide
theorem lo4:(1:Int)<=4/\(4:Int)<=6:=by decide
theorem lo5:(1:Int)<=5/\(5:Int)<=6:=by decide
theorem lo6:(1:Int)<=6/\(6:Int)<=6:=by decide
theorem zvl(t:Tree)(hto:OkT t)(hn:NmT t)(hb:Bnd 3 5 t)(p:List Str)(hp:p.length<=4)(hs : ∀ s,s∈p->Tok s)(v:Tree)(k:Nat)(hk:k<8)(h7:k=7->xy t p=some v):zuV t (fo t p v k).val:=by
 have nt:xT t<=121:=zBK (zex hb) (by decide);have dt:=zkA hb;have szt:Sz t:=⟨zlE hto,by have:=zrB hb hto;omega⟩
 have hc:=VD hto (by omega) (by omega);obtain⟨cz,hcz,_⟩:=zlg Tree.zero ztR;have gn:xy t (nn p)=none:=znM hto hn p [zrN];have gd:xy t (nn p).dropLast=none:=by rw[zyu];exact znM hto hn p []
 have nl:(nn p).length<=63:=by unfold nn;rw[zZ];simp;omega
 have il:(p++[inn]).length<=63:=by rw[zZ];simp;omega
 have n0:([]:List Str).length<=63:=Nat.zero_le _;have s0 : ∀ s:Str,s∈([]:List Str)->Tok s:=fun s h=>by simp at h
 have pp:=zne (p:=p) (by omega) hs;have pn:=zne nl (zdD hs);have pi:=zne il (zv8 hs);have p0:YI []=true:=rfl;have z0:znz Tree.zero=true:=rfl;have ne:nn p≠[]:=by unfold nn;simp
 have:k=0\/k=1\/k=2\/k=3\/k=4\/k=5\/k=6\/k=7:=by omega
 rcases this with rfl | rfl | rfl | rfl | rfl | rfl | rfl | rfl
 ·exact Zu t ⟨2,[],[],.zero⟩ cz szt hc (lo2) s0 s0 n0 n0 hcz (by simp[opB,p0,z0]) (fun h=>by simp at h) (by rw[zuW];unfold zdZ;rw[zBu rfl])
 ·exact Zu t ⟨2,nn p,[],.zero⟩ cz szt hc (lo2) (zdD hs) s0 nl n0 hcz (by simp[opB,pn,z0]) (fun h=>by simp at h) (by rw[zuW];unfold zdZ;rw[zBt ne,gn,zBX])
 ·exact Zu t ⟨3,nn p,[],t⟩ true szt hc (lo3) (zdD hs) s0 nl n0 hc (by simp[opB,pn]) (fun h=>by simp at h) (by
   rw[zzf];have:=ztp (t:=t) (p:=nn p) (v:=t);rw[gn]at this;cases h:Y6 t (nn p) t with
   | none=>rfl
   | some x=>rw[h]at this;simp at this)
 ·exact Zu t ⟨1,nn p,[],t⟩ true szt hc (lo1) (zdD hs) s0 nl n0 hc (by simp[opB,pn]) (fun h=>by simp at h) (by rw[zzA];unfold QC;rw[zBt ne,gd,zBX])
 ·exact Zu t ⟨5,p,nn p,.zero⟩ cz szt hc (lo5) hs (zdD hs) (show p.length<=63 by omega) nl hcz (by simp[opB,pp,pn,z0]) (fun h=>by simp at h) (by rw[zze,gn,zBX])
 ·exact Zu t ⟨4,p,nn p,.zero⟩ cz szt hc (lo4) hs (zdD hs) (show p.length<=63 by omega) nl hcz (by simp[opB,pp,pn,z0]) (fun h=>by simp at h) (by rw[zvj];unfold znd;rw[gn,zBX])
 ·exact Zu t ⟨4,p++[inn],p,.zero⟩ cz szt hc (lo4) (zv8 hs) hs il (show p.length<=63 by omega) hcz (by simp[opB,pp,pi,z0]) (fun h=>by simp at h) (by
   rw[zvj];unfold znd;cases hg:xy t p with
   | none=>rfl
   | some x=>rw[zD,zBt (by simp),zBu (.inr (by simp[zgq]))])
 ·have hg:=h7 rfl;obtain⟨h1,h2⟩:=zxm p hg;have hv:=zgB p hto hg;have ha:OkT (arr [v,v]) := .arr _ (by simp) (fun x hx=>by
   have:x=v:=by simpa using hx
   rw[this];exact hv)
  have en:xT (arr [v,v])=1+(xT v+(xT v+0)):=by rw[wV];rfl
  have ed:depth (arr [v,v])<=64:=by rw[Zv];show 1+max (depth v) (max (depth v) 0)<=64;omega
  have el:xT (arr [v,v])<=2000:=by omega
  exact Zu t ⟨6,p,[],arr [v,v]⟩ true szt hc (lo6) hs s0 (show p.length<=63 by omega) n0 (VD ha ed el) (by simp[opB,pp]) (fun _=>⟨ha,fun x hx=>zgB p hto hx⟩) (zvd _ _ _ _ (fun x hx e=>by rw[hg]at hx;injection hx with hx;have h3:=congrArg xT (hx.trans e);have:=KI v;omega))
theorem zqQ(t:Tree)(hto:OkT t)(hb:Bnd 3 5 t)(p:List Str)(hp:p.length<=4)(hs : ∀ s,s∈p->Tok s)(hg:xy t p=none):zuV t (OpR.val ⟨6,p,[],Ev.null⟩):=by
 have nt:xT t<=121:=zBK (zex hb) (by decide);have dt:=zkA hb;have szt:Sz t:=⟨zlE hto,by have:=zrB hb hto;omega⟩
 have hc:=VD hto (by omega) (by omega);have pp:=zne (p:=p) (by omega) hs;exact Zu t ⟨6,p,[],Ev.null⟩ true szt hc (lo6) hs (fun s h=>by simp at h) (show p.length<=63 by omega) (Nat.zero_le _) (VD (t:=Ev.null) .null (by decide) (by decide)) (by simp[opB,pp]) (fun _=>⟨.null,fun x hx=>zgB p hto hx⟩) (zvd _ _ _ _ (fun x hx e=>by rw[hg]at hx;contradiction))
theorem zrZ:P0 yY [.v Tree.zero.val,.v Tree.zero.val] []=some (.bool true,[]):=znR Tree.zero zoy
theorem zz2(o:OpR):V.agg [.int .i64 o.op,.sl (strs o.path),.sl (strs o.from'),.int .i64 o.value.kind,.bool o.value.b,.bool o.value.n.neg,.sl (zw o.value.n.m),.int .i64 o.value.n.e,.str o.value.s,.sl (strs o.value.k),.sl (trs o.value.v)]=o.val:=rfl
theorem zuB(l w:List Int)(h:Int):P0 vt [.v (.sl (ints l)),.v (.sl (ints w)),.v (.int .i64 h)] []=some (.bool true,[]):=by
 rw[zcE];unfold Vs;by_cases hl:60<l.length
 ·simp only[zvH,zb,wE,u60,hl,zBx,zBv,zms]
 obtain⟨t,ht,hto,htb,_,hnm⟩:=zxf 4 (by decide) l;have ht:P0 qQ [.v (.sl (ints l)),.v (.int .i64 4)] []=some (t.val,[]):=ht;obtain⟨p,hp,hp4,hs⟩:=zzM t hto w;obtain⟨k,hk1,hk,_⟩:=zrK h 8 (by decide) (by decide);have hk1:P0 xF [.v (.int .i64 h),.v (.int .i64 8)] []=some (.int .i64 (k:Int),[]):=hk1;have hpl:p.length<=1000000:=by omega
 have szt:Sz t:=⟨zlE hto,by have:=zrB htb hto;have:=zex htb;have e:nb 3 (4+1)=121:=rfl;omega⟩
 have hg:=zx0 t p szt hpl;have hstr:=zu3 p hpl;have ap2:wZ 16 p.length 2=true:=xX 16 p.length 2 (by omega) (by omega);have ap1:wZ 16 p.length 1=true:=xX 16 p.length 1 (by omega) (by omega);have sz2:yi 1 [V.str [110,111,119,104,101,114,101],V.str [97,116,32,97,108,108]]=true:=rfl;have sz1:yi 1 [V.str [105,110]]=true:=rfl
 -- the value that is looked for, and whether it is there
 obtain⟨v,c,hgv,hgc,hgn⟩ : ∃ (v:Tree) (c:Bool),P0 jO [.v t.val,.v (.sl (strs p))] []=some (.tup [v.val,.bool c],[])/\(c=true->xy t p=some v)/\(c=false->xy t p=none):=by
  cases e:xy t p with
  | none=>rw[e]at hg;exact⟨Tree.zero,false,hg,fun h=>by simp at h,fun _=>rfl⟩
  | some v=>rw[e]at hg;exact⟨v,true,hg,fun _=>rfl,fun h=>by simp at h⟩
 have hix:=zAG t p v k hk;have hop:=zAr t p v k hk;by_cases hc:k=7/\c=false
 ·obtain⟨rfl,rfl⟩:=hc;obtain⟨o1,o2⟩:=zqQ t hto htb p hp4 hs (hgn rfl);have e6:(fo t p v 7).op=6:=rfl;have ep:(fo t p v 7).path=p:=rfl;have ef:(fo t p v 7).from'=[]:=rfl;have en:V.agg [.int .i64 6,.sl (strs p),.sl (strs []),.int .i64 1,.bool false,.bool false,.sl [],.int .i64 0,.str [],.sl [],.sl []]=OpR.val ⟨6,p,[],Ev.null⟩:=rfl;generalize fo t p v 7=o at *;simp only[zmL,zqJ,zrI,zb,wE,u60,hl,zBy,ht,za,hp,hgv,zm,zM,zN,hstr,zqv,sz2,sz1,zd,zBG,zBH,zBE,Nat.reduceAdd,ap2,ap1,Qh,vE,xE,Va,Jo,zgU,zjT,We,qG,xI,hk1,zAK,zyP,hix,yP,wr,wq,vP,zyZ,zyD,zyH,zyY,zy3,zy0,zyE,zvw,ep,ef,e6,zq,yu,zI,en,o1,o2,zrZ,zkw,zms]
 ·have hf:=zvl t hto hnm htb p hp4 hs v k hk (fun h7=>hgc (by
   cases c with
   | true=>rfl
   | false=>exact absurd ⟨h7,rfl⟩ hc))
  generalize fo t p v k=o at *;obtain⟨o1,o2⟩:=hf;have hno:(if decide (o.op=6)=true then(unV .not (V.bool c)).bind fun x=>some x else some (.bool false))=some (.bool false):=by
   by_cases h6:o.op=6
   ·have h7:=hop.1 h6;cases c with
    | true=>rw[zBu (by simpa using h6)];rfl
    | false=>exact absurd ⟨h7,rfl⟩ hc
   ·rw[zBt (by simpa using h6)]
  simp only[zmL,zqJ,zrI,zb,wE,u60,hl,zBy,ht,za,hp,hgv,zm,zM,zN,hstr,zqv,sz2,sz1,zd,zBG,zBH,zBE,Nat.reduceAdd,ap2,ap1,Qh,vE,xE,Va,Jo,zgU,zjT,We,qG,xI,hk1,zAK,zyP,hix,yP,wr,wq,vP,zyZ,zyD,zyH,zyY,zy3,zy0,zyE,zvw,zq,yu,hno,zz2,o1,o2,zrZ,zkw,zms,zI]
theorem zkg{n0 n1 n2:Nat}{xs ys zs:List V}(hx:Ty Go.Proofs.Tryd.prog n0 30 xs)(hy:Ty Go.Proofs.Tryd.prog n1 30 ys)(hz:Ty Go.Proofs.Tryd.prog n2 3 zs) :
  P0 vt ([mkV Go.Proofs.Tryd.prog 30 xs,mkV Go.Proofs.Tryd.prog 30 ys,mkV Go.Proofs.Tryd.prog 3 zs].map .v) []=some (.bool true,[]):=by
 obtain⟨l,el⟩:=zsH Go.Proofs.Tryd.underlying30 Go.Proofs.Tryd.underlying3 hx;obtain⟨w,ew⟩:=zsH Go.Proofs.Tryd.underlying30 Go.Proofs.Tryd.underlying3 hy;obtain⟨h,_,eh⟩:=zvs Go.Proofs.Tryd.underlying3 hz;rw[el,ew,eh];exact zuB l w h
end Go.Ev
