/- What functions compute, put together. -/
import Derived.Test.YtnefgdahdccldaaDoorKSB
import Derived.Test.YtnefgdahdccldaaDoorKSp
import Derived.Test.YtnefgdahdccldaaDoorKSA
set_option linter.all false
open Option renaming bind_eq_some_iff→zA,map_some→zC,bind_some→zD
open Bool renaming false_eq_true→zF,not_true→zH,not_false→zI,true_eq_false→zX
open List renaming getElem?_eq_getElem→zL,getElem?_cons_zero→zM,getElem?_cons_succ→zN,drop_eq_getElem_cons→zO,mem_cons_of_mem→zP,drop_eq_nil_of_le→zQ,drop_zero→zU,take_of_length_le→zV,length_append→zZ
open Nat renaming le_refl→zR
section
namespace Go.Ev
attribute [local irreducible] P0
section
variable {P:Program} {tt ti tb tn ts tk tv tl te:TypeId} {fs fn:Array Field}
end
end Go.Ev
end
section
namespace Go.Ev
attribute [local irreducible] P0
theorem zhy(a b:Nat):decide ((a:Int)<(b:Int))=decide (a<b):=by
 by_cases h:a<b
 ·rw[decide_eq_true h,decide_eq_true (by omega)]
 ·rw[decide_eq_false h,decide_eq_false (by omega)]
theorem zqY{b:UInt8}(h:48≤b.toNat):IntKind.u8.wrap ((b.toNat:Int) - 48)=((b.toNat - 48:Nat):Int):=by
 have hb:b.toNat<256:=b.toNat_lt
 rw[IntWalk.u8_in ((b.toNat:Int) - 48) (by omega)];omega
theorem zf4{a:Int}(n:Nat)(h:a=n)(hn:n≤1000000000):IntKind.i64.wrap a=(n:Int):=by
 subst h;exact w64 (by omega)
theorem zlC(s:Str)(hl:s.length≤4)(k:Nat) : ∀ (i n:Nat),i+k=s.length→n<10 ^ i →
  yk (y8 s.length (.str s)) (vec [.int .i64 (n:Int),.int .i64 (i:Int)])=match dig n (s.drop i)with | some m=>some (0,vec [.int .i64 (m:Int)]) | none=>some (1,vec [.int .i64 0,.bool false]):=by
 induction k with
 | zero=>
  intro i n hi hn
  rw[zQ (by omega)]
  simp only[dig]
  apply zr
  unfold y8
  have c1 : ¬ (i:Int)<(s.length:Int):=by omega
  simp only[zb,zl,yp,zw,c1,decide_false,za,zc,zF,if_false]
 | succ k ih=>
  intro i n hi hn
  have hlt:i<s.length:=by omega
  have c1:(i:Int)<(s.length:Int):=by omega
  have hx:s[i]?=some s[i]:=zL hlt
  have hn2:n≤10000:=Nat.le_trans (Nat.le_of_lt hn) (Nat.le_trans (Nat.pow_le_pow_right (by decide) (show i≤4 by omega)) (by decide))
  rw[zO hlt]
  have hb:s[i].toNat<256:=s[i].toNat_lt
  by_cases h1:s[i].toNat<48
  ·simp only[dig,h1,true_or,if_true]
   apply zr
   unfold y8
   have d:((s[i].toNat:Nat):Int)<48:=by omega
   simp only[zb,zl,yp,zw,c1,decide_true,za,zc,if_true,JJ s .i64 i _ hx,d,zX,if_false]
  have d : ¬ ((s[i].toNat:Nat):Int)<48:=by omega
  by_cases h2:57<s[i].toNat
  ·simp only[dig,h2,or_true,if_true]
   apply zr
   unfold y8
   have e:(57:Int)<((s[i].toNat:Nat):Int):=by omega
   simp only[zb,zl,yp,zw,YS,c1,decide_true,decide_false,za,zc,if_true,JJ s .i64 i _ hx,d,e]
  ·have e : ¬ (57:Int)<((s[i].toNat:Nat):Int):=by omega
   have hd:dig n (s[i]::s.drop (i+1))=dig (10 * n+(s[i].toNat - 48)) (s.drop (i+1)):=by
    simp only[dig,h1,h2,or_self,if_false]
   rw[hd,← ih (i+1) (10 * n+(s[i].toNat - 48)) (by omega) (by rw[Nat.pow_succ];omega)]
   apply zy
   unfold y8
   have w1:IntKind.i64.wrap (10 * (n:Int))=((10 * n:Nat):Int):=zf4 _ (by omega) (by omega)
   have w2:IntKind.i64.wrap (((s[i].toNat - 48:Nat):Int))=((s[i].toNat - 48:Nat):Int):=zf4 _ rfl (by omega)
   have w3:IntKind.i64.wrap (((10 * n:Nat):Int)+((s[i].toNat - 48:Nat):Int))=((10 * n+(s[i].toNat - 48):Nat):Int):=zf4 _ (by omega) (by omega)
   simp only[zb,zl,yp,zw,YS,c1,decide_true,decide_false,za,zc,if_true,JJ s .i64 i _ hx,d,e,zF,if_false,zp1,W3,kD,xo,zqY (b:=s[i]) (by omega),w1,w2,w3,yM (i:=i) (by omega)]
/-- what an index yields -/
def zeO(o:Option Nat):V:=match o with
 | some n => .tup [.int .i64 (n:Int),.bool true]
 | none => .tup [.int .i64 0,.bool false]
theorem zaW(s:Str)(most:Int):P0 ye [.v (.str s),.v (.int .i64 most)] []=some (zeO (qh s most),[]):=by
 rw[Kv];unfold X8
 have e0:(s == ([]:Str))=decide (s=[]):=zfq s
 cases s with
 | nil=>simp only[zb,jU,e0,decide_true,za,zc,zX,if_false,if_true];rfl
 | cons b r=>
 have hne:decide ((b::r)=([]:Str))=false:=decide_eq_false (by simp)
 have hx:(b::r)[0]?=some b:=rfl
 have hx0:Zx (.str (b::r)) (.int .i64 0)=some (.int .u8 (b.toNat:Int)):=JJ (b::r) .i64 0 b hx
 have d4:decide (((((b::r).length:Nat):Int)) > 4)=decide (4<(b::r).length):=zhy 4 _
 have d1:decide (((((b::r).length:Nat):Int)) > 1)=decide (1<(b::r).length):=zhy 1 _
 by_cases h4:4<(b::r).length
 ·have hN:qh (b::r) most=none:=by unfold qh ziC;rw[if_pos (.inr (.inl h4))];rfl
  rw[hN]
  simp only[zb,jU,e0,hne,za,zc,qK,d4,decide_eq_true h4,zX,if_false,if_true];rfl
 have e48:decide ((b.toNat:Int)=48)=decide (b=48):=by
  by_cases hb:b=48
  ·subst hb;rfl
  ·rw[decide_eq_false hb,decide_eq_false]
   intro h
   exact hb (UInt8.toNat_inj.1 (by show b.toNat=48;omega))
 by_cases hz:b=48∧1<(b::r).length
 ·have hN:qh (b::r) most=none:=by unfold qh ziC;rw[if_pos (.inr (.inr hz))];rfl
  rw[hN]
  simp only[zb,jU,e0,hne,za,zc,qK,d4,d1,decide_eq_false h4,if_true,hx0,yV,e48,decide_eq_true hz.1,decide_eq_true hz.2,zX,if_false];rfl
 have hN:ziC (b::r)=dig 0 (b::r):=by
  unfold ziC
  rw[if_neg]
  rintro(h | h | h)
  ·simp at h
  ·exact h4 h
  ·exact hz h
 have hl:=zlC (b::r) (by omega) (b::r).length 0 0 (by omega) (by decide)
 rw[zU,← hN]at hl
 have hl:yk (y8 (b::r).length (.str (b::r))) (vec [.int .i64 0,.int .i64 0])=_:=hl
 have fin : ∀ (X:Bool),X=false→((asBool (.bool X)).bind fun b12=>if b12=true then some ((V.tup [(.int .i64 0),(.bool false)]),[])else
   (zaH (.str (b::r))).bind fun n13=>
   (yk (y8 n13 (.str (b::r))) (vec [(.int .i64 0),(.int .i64 0)])).bind fun o30=>
   if o30.1=0 then
   (ze .gtr (o30.2 0) (.int .i64 most)).bind fun x31=>
   (asBool x31).bind fun b32=>
   if b32=true then
   some ((.tup [(.int .i64 0),(.bool false)]),[])
   else
   some ((.tup [(o30.2 0),(.bool true)]),[])
   else
   some ((.tup [(o30.2 0),(o30.2 1)]),[]))=some (zeO (qh (b::r) most),([]:List V)):=by
  intro X hX
  subst hX
  simp only[zb,zc,za,zF,if_false,qK,hl]
  unfold qh
  cases ziC (b::r)with
  | none=>simp only[zb,za,Nat.one_ne_zero,if_false,zl,yp];rfl
  | some m=>
   by_cases hm:(m:Int)≤most
   ·have c : ¬ most<(m:Int):=by omega
    simp only[zb,za,if_true,zl,YS,c,decide_false,zc,zF,if_false,zD,hm];rfl
   ·have c:most<(m:Int):=by omega
    simp only[zb,za,if_true,zl,YS,c,decide_true,zc,zD,hm,if_false];rfl
 by_cases hb:b=48
 ·have h1 : ¬ 1<(b::r).length:=fun h=>hz ⟨hb,h⟩
  simp only[zb,jU,e0,hne,za,zc,qK,d4,d1,decide_eq_false h4,if_true,hx0,yV,e48,decide_eq_true hb,decide_eq_false h1]
  exact fin false rfl
 ·simp only[zb,jU,e0,hne,za,zc,qK,d4,decide_eq_false h4,if_true,hx0,yV,e48,decide_eq_false hb,zF,if_false]
  exact fin false rfl
end Go.Ev
end
section
namespace Go.Ev
attribute [local irreducible] P0
open Go.Lib (decodeN)
/-- a code point, or none -/
def rv(s:Str)(i:Nat):Int:=if(ud s i).1=65533∧(ud s i).2=1 then -1 else((ud s i).1:Nat)
end Go.Ev
end
section
namespace Go.Ev
attribute [local irreducible] P0
def r32(l:List Int):List V:=l.map (.int .i32)
end Go.Ev
end
section
namespace Go.Ev
attribute [local irreducible] P0
inductive LightT:Tree→Prop
 | mk (t:Tree) (h1:t.n.m.length≤95) (h2:t.s.length≤2100) (h3:t.k.length≤40) (h4:t.v.length≤40) (h5 : ∀ x,x∈t.k→x.length≤2100) (hv : ∀ x,x∈t.v→LightT x):LightT t
end Go.Ev
end
section
namespace Go.Ev
attribute [local irreducible] P0
end Go.Ev
end
section
namespace Go.Ev
attribute [local irreducible] P0
end Go.Ev
end
section
namespace Go.Ev
attribute [local irreducible] P0
end Go.Ev
end
section
namespace Go.Ev
attribute [local irreducible] P0
theorem LightT.sub{t:Tree}(h:LightT t) : ∀ x,x∈t.v→LightT x:=by cases h;assumption
end Go.Ev
end
section
namespace Go.Ev
attribute [local irreducible] P0
inductive zr6:Tree→Prop
 | mk (t:Tree) (h1:U32 t.n.m) (h2:t.n.m.length≤1000) (h3:t.k.length≤1000000) (h4:t.v.length≤1000000) (hv : ∀ x,x∈t.v→zr6 x):zr6 t
end Go.Ev
end
section
namespace Go.Ev
attribute [local irreducible] P0
/-- in order, and of sizes that go together -/
inductive OrdT:Tree→Prop
 | mk (t:Tree) (h:t.kind=7→t=obj (al t)) (hs:Qo (al t)) (h1:U32 t.n.m) (h2:t.n.m.length≤1000) (h3:t.k.length≤t.v.length) (hv : ∀ x,x∈t.v→OrdT x):OrdT t
theorem OrdT.null:OrdT Ev.null := .mk _ (fun h=>by simp[Ev.null,Tree.kind]at h) (by rw[X9 (by simp[Ev.null,Tree.kind])];trivial) (fun x hx=>by simp[Ev.null,Tree.n,Nm.zero]at hx) (by simp[Ev.null,Tree.n,Nm.zero]) (zR _) (fun x hx=>by simp[Ev.null,Tree.v]at hx)
theorem zaS{l:AL}(hs:Qo l)(hv : ∀ q,q∈l→OrdT q.2):OrdT (obj l):=
 .mk _ (fun _=>by rw[zf1]) (by rw[zf1];exact hs) (fun x hx=>by simp[obj,Tree.n,Nm.zero]at hx) (by simp[obj,Tree.n,Nm.zero]) (by show(names l).length≤(yn l).length;rw[jg,jf];exact zR _) (fun x hx=>by
  obtain⟨q,hq,rfl⟩:=List.mem_map.1 (show x∈yn l from hx)
  exact hv q hq)
theorem OrdT.al_ord{t:Tree}(h:OrdT t) : ∀ q,q∈al t→OrdT q.2:=by
 intro q hq
 cases h with
 | mk _ h hs h1 h2 h3 hv=>
  by_cases hk:t.kind=7
  ·refine hv _ ?_
   have:t.v=yn (al t):=by
    have:=congrArg Tree.v (h hk)
    exact this
   rw[this]
   exact List.mem_map.2 ⟨q,hq,rfl⟩
  ·rw[X9 hk]at hq;simp at hq
theorem OrdT.al_srt{t:Tree}(h:OrdT t):Qo (al t):=by cases h;assumption
/-- weights of lists of pairs -/
def wA(u:AL):Nat:=weightL (yn u)
theorem X2(k:Str)(v:Tree)(r:AL):wA ((k,v)::r)=yj v+wA r:=by
 show weightL (v::yn r)=_
 rw[weightL];rfl
theorem zqM(n:Str)(u:AL):wA (YB n u)≤wA u:=by
 induction u with
 | nil=>exact zR _
 | cons p r ih=>
  obtain⟨k,w⟩:=p
  simp only[YB]
  split
  ·rw[X2];omega
  ·rw[X2,X2];omega
def wO:Option Tree→Nat
 | some x=>yj x
 | none=>0
theorem znZ{n:Str}{v:Tree}{u:AL}(hs:Qo u):wA (qU n v u)+wO (lk n u)=wA u+yj v:=by
 induction u with
 | nil=>simp only[qU,lk,wO,X2];omega
 | cons p r ih=>
  obtain⟨k,w⟩:=p
  obtain⟨h1,h2⟩:=JD.1 hs
  by_cases hk:k=n
  ·simp only[qU,lk,if_pos hk,wO,X2];omega
  ·by_cases hlt:lt n k=true
   ·have hno:lk n r=none:=zgM.2 (fun hm=>by
     have:=lt_trans hlt (h1 n hm)
     rw[lt_irrefl]at this;contradiction)
    simp only[qU,lk,if_neg hk,if_pos hlt,hno,wO,X2];omega
   ·have:=ih h2
    simp only[qU,lk,if_neg hk,if_neg hlt,X2];omega
theorem j3(l:AL):yj (obj l)=1+wA l:=by
 rw[xZ]
 have:w1 (obj l)=1:=by unfold w1;simp[obj,Tree.kind]
 rw[this];rfl
end Go.Ev
end
section
namespace Go.Ev
attribute [local irreducible] P0
end Go.Ev
end
section
namespace Go.Ev
attribute [local irreducible] P0
theorem OrdT.sub{t:Tree}(h:OrdT t) : ∀ x,x∈t.v→OrdT x:=by cases h;assumption
theorem zbT{t x:Tree}(h:x∈t.v):yj x<yj t:=by
 have h1:=QA h
 have h2:=xZ t
 have h3:=Qa t
 omega
theorem ziB(t:Tree):t.v.length<yj t:=by
 have h1:=WL t.v
 have h2:=xZ t
 have h3:=Qa t
 omega
theorem OrdT.klen{t:Tree}(h:OrdT t):t.k.length≤t.v.length:=by cases h;assumption
theorem Vp{t x:Tree}{s:Str}(h:child t s=some x):x∈t.v:=by
 unfold child at h
 split at h
 ·rw[zA]at h
  obtain⟨i,_,h⟩:=h
  exact List.mem_of_getElem? h
 ·exact zsx (znP h)
theorem zm4(s:Str)(l:AL):zqO s l=Wg (lk s l):=rfl
theorem Qi{t:Tree}{s:Str}{i:Nat}(h:qh s ((t.v.length:Int) - 1)=some i):i<t.v.length:=by
 have:=zke h;omega
theorem zgE{n:Nat}(h:n≤1000000):IntKind.i64.wrap ((n:Int) - 1)=(n:Int) - 1:=w64 (by omega)
theorem zib(t:Tree)(s:Str)(hw:t.v.length≤1000000):P0 xC [.v t.val,.v (.str s)] []=some (Wg (child t s),[]):=by
 rw[zaC];unfold Wo
 have ha:=zgj t
 by_cases hk:t.kind=6
 ·have hc:child t s=(qh s ((t.v.length:Int) - 1)).bind fun i=>t.v[i]?:=if_pos hk
  rw[hc]
  have hi:=zaW s ((t.v.length:Int) - 1)
  simp only[zb,zd,zh,jv,za,zeJ,hk,decide_true,zH,zc,zF,if_false,qj,zg,zm,zgE hw,hi]
  cases hx:qh s ((t.v.length:Int) - 1)with
  | none=>simp only[zb,zeO,zo,zM,zN,za,y0,zI,zc,if_true];rfl
  | some i=>
   have hlt:=Qi hx
   have hg:t.v[i]?=some t.v[i]:=zL hlt
   simp only[zb,zeO,zo,zM,zN,za,y0,zH,zc,zF,if_false,qj,xQ,zm,zp _ i t.v.length hlt,jy,hg,zC,zd,zh,zD];rfl
 ·have hc:child t s=lk s (al t):=if_neg hk
  rw[hc]
  have hm:=zlc t s (by omega)
  rw[zm4]at hm
  simp only[zb,zd,zh,jv,za,zeJ,hk,decide_false,zI,zc,if_true,hm]
  cases lk s (al t)with
  | none=>simp only[zb,Wg,zo,zM,zN,za,zd,zh]
  | some x=>simp only[zb,Wg,zo,zM,zN,za,zd,zh]
/-- a value of which all parts are few enough -/
structure Sz(t:Tree):Prop where
 ord:OrdT t
 w:yj t≤900000
theorem Sz.sub{t x:Tree}(h:Sz t)(hx:x∈t.v):Sz x:=⟨h.ord.sub x hx,by have:=zbT hx;have:=h.w;omega⟩
theorem Sz.v{t:Tree}(h:Sz t):t.v.length≤1000000:=by have:=ziB t;have:=h.w;omega
theorem Sz.k{t:Tree}(h:Sz t):t.k.length≤1000000:=Nat.le_trans h.ord.klen h.v
theorem Sz.child{t x:Tree}{s:Str}(h:Sz t)(hx:child t s=some x):Sz x:=h.sub (Vp hx)
theorem zcb:V.agg [.int .i64 0,.bool false,.bool false,.sl [],.int .i64 0,.str [],.sl [],.sl []]=Tree.zero.val:=by rw[Tree.val_eq];rfl
abbrev zs:List V:=[.int .i64 0,.bool false,.bool false,.sl [],.int .i64 0,.str [],.sl [],.sl []]
theorem zk3(l:List Str)(hl:l.length≤1000000)(k:Nat) : ∀ (i:Nat) (x:Tree),Sz x→i+k=l.length →
  ∃ y:V,yk (vT l.length (.sl (strs l))) (vec (.int .i64 (i:Int)::x.val::zs))=match wU x (l.drop i)with | some z=>some (0,vec [z.val,.agg zs]) | none=>some (1,vec (.bool false::y::zs)):=by
 induction k with
 | zero=>
  intro i x hx hi
  rw[zQ (by omega)]
  refine⟨x.val,zr ?_⟩
  unfold vT
  have c1 : ¬ (i:Int)<(l.length:Int):=by omega
  simp only[zb,zl,yp,zw,c1,decide_false,za,zc,zF,if_false]
 | succ k ih=>
  intro i x hx hi
  have hlt:i<l.length:=by omega
  have c1:(i:Int)<(l.length:Int):=by omega
  have hg:l[i]?=some l[i]:=zL hlt
  rw[zO hlt]
  have hst:=zib x l[i] hx.v
  cases hc:child x l[i]with
  | none=>
   rw[hc]at hst
   refine⟨x.val,?_⟩
   simp only[wU,hc,Option.bind_none]
   apply zr
   unfold vT
   simp only[zb,zl,yp,zw,c1,decide_true,za,zc,if_true,yI,zf,zp _ i l.length hlt,xB,hg,zC,y4,hst,Wg,zo,zM,zN,zd,zh,y0,zI]
  | some y=>
   rw[hc]at hst
   obtain⟨z,hz⟩:=ih (i+1) y (hx.child hc) (by omega)
   refine⟨z,?_⟩
   simp only[wU,hc,zD]
   rw[← hz]
   apply zy
   unfold vT
   simp only[zb,zl,yp,zw,c1,decide_true,za,zc,if_true,yI,zf,zp _ i l.length hlt,xB,hg,zC,y4,hst,Wg,zo,zM,zN,zd,zh,y0,zH,zF,if_false,xo,yM (i:=i) (by omega)]
theorem zpl(t:Tree)(p:List Str)(h:Sz t)(hp:p.length≤1000000):P0 wo [.v t.val,.v (.sl (strs p))] []=some (Wg (wU t p),[]):=by
 rw[zbj];unfold VQ
 obtain⟨y,hy⟩:=zk3 p hp p.length 0 t h (by omega)
 rw[zU,show((0:Nat):Int)=0 from rfl]at hy
 have z1:(1:Nat)=0↔False:=by decide
 cases hg:wU t p with
 | none=>
  rw[hg]at hy
  simp only[zb,zd,zh,zg,zf,za,hy,z1,if_false,zl,yp,zcb,Wg]
 | some x=>
  rw[hg]at hy
  simp only[zb,zd,zh,zg,zf,za,hy,if_true,zl,yp,Wg]
theorem zo2(p:List Str) : ∀ (t v:Tree),Sz t→p.length≤1000000→P0 xy [.v t.val,.v (.sl (strs p)),.v v.val] []=some (Wg (Wk t p v),[]):=by
 induction p with
 | nil=>
  intro t v h _
  rw[W7];unfold YH
  have e:(((0:Nat):Int) == 0)=true:=rfl
  simp only[zb,zd,zh,zg,zf,za,List.length_nil,e,if_true];rfl
 | cons s r ih=>
  intro t v h hp
  have hp:r.length+1≤1000000:=hp
  rw[W7];unfold YH
  have e0:(((((s::r).length:Nat):Int)) == 0)=false:=by rw[zn6];simp
  have h0:0<(s::r).length:=by simp
  have hst:=zib t s h.v
  have hb:=jw .i64 1 (s::r).length ⟨by decide,by simp only[List.length_cons];omega⟩
  have et:((strs (s::r)).drop (1:Int).toNat).take ((s::r).length - (1:Int).toNat)=strs r:=by
   rw[Vn,j5]
   show strs ((r).take ((s::r).length - 1))=strs r
   rw[zV (by simp)]
  cases hc:child t s with
  | none=>
   rw[hc]at hst
   simp only[Wk,hc,Option.bind_none]
   simp only[zb,zd,zh,zg,zf,za,e0,zF,if_false,yI,zcv _ _ h0,xB,zM,zC,y4,hst,Wg,zo,zN,zc,zl,y0,zI,if_true,zcb]
  | some x=>
   rw[hc]at hst
   have hx:=h.child hc
   have hi:=ih x v hx (by omega)
   simp only[Wk,hc,zD]
   cases hq:Wk x r v with
   | none=>
    rw[hq]at hi
    simp only[zb,zd,zh,zg,zf,za,e0,zF,if_false,yI,zcv _ _ h0,xB,zM,zC,y4,hst,Wg,zo,zN,zc,if_true,hb,et,hi,zl,y0,zI,zcb,Option.map_none]
   | some y=>
    rw[hq]at hi
    by_cases hk:t.kind=7
    ·have hset:=zm1 t s y h.ord.al_srt (Nat.le_trans (zgj t) h.v)
     simp only[zb,zd,zh,zg,zf,za,e0,zF,if_false,yI,zcv _ _ h0,xB,zM,zC,y4,hst,Wg,zo,zN,zc,if_true,hb,et,hi,zl,yp,y0,zH,jv,yV,hk,decide_true,hset,zdH]
    ·have hk6:t.kind=6:=by
      refine Classical.byContradiction fun h6 => ?_
      unfold child at hc
      rw[if_neg h6,X9 hk]at hc
      simp[lk]at hc
     have hix : ∃ i,qh s ((t.v.length:Int) - 1)=some i:=by
      unfold child at hc
      rw[if_pos hk6,zA]at hc
      obtain⟨i,hi,_⟩:=hc
      exact⟨i,hi⟩
     obtain⟨i,hix⟩:=hix
     have hlt:=Qi hix
     have hpi:=zaW s ((t.v.length:Int) - 1)
     rw[hix]at hpi
     have hm:=zgV 120 t.v.length (by have:=h.v;omega) (by have:=h.v;omega)
     have hsl : ∀ z:V,(((xR (List.replicate t.v.length z) 0 ((trs t.v).take (Nat.min t.v.length t.v.length))).set (0+i) y.val).drop 0).take t.v.length=trs (t.v.set i y):=by
      intro z
      have h1:xR (List.replicate t.v.length z) 0 ((trs t.v).take (Nat.min t.v.length t.v.length))=trs t.v:=by
       rw[zfa]
       ·rw[zV];rw[zm];simp
       ·rw[List.length_take,zm,List.length_replicate];simp
      rw[h1,Nat.zero_add,zU,zfT,zV]
      rw[zm,List.length_set];exact zR _
     have hpc:zdH t s y=zlv t (t.v.set i y):=by unfold zdH;rw[if_neg hk,hix];rfl
     have hval:(zlv t (t.v.set i y)).val = .agg [.int .i64 t.kind,.bool t.b,.bool t.n.neg,.sl (yK t.n.m),.int .i64 t.n.e,.str t.s,.sl (strs t.k),.sl (trs (t.v.set i y))]:=by rw[Tree.val_eq];rfl
     simp only[zb,zd,zh,zg,zf,za,e0,zF,if_false,yI,zcv _ _ h0,xB,zM,zC,y4,hst,Wg,zo,zN,zc,if_true,hb,et,hi,zl,yp,y0,zH,jv,yV,hk,decide_false,qj,zm,zgE h.v,hpi,zeO,hm,kN,zp _ i t.v.length hlt,zdv,zdz,zpU,zqo,Kh,zav,hsl,hpc,hval]
theorem zjw(a b:List Str)(ha:a.length≤1000000):P0 y3 [.v (.sl (strs a)),.v (.sl (strs b))] []=some (.bool (decide (a.length≤b.length) && decide (a=b.take a.length)),[]):=by
 rw[QW];unfold YT
 have d:decide (((((a.length:Nat):Int)):Int)≤((b.length:Nat):Int))=decide (a.length≤b.length):=by
  by_cases h:a.length≤b.length
  ·rw[decide_eq_true h,decide_eq_true (by omega)]
  ·rw[decide_eq_false h,decide_eq_false (by omega)]
 by_cases h:a.length≤b.length
 ·have hb:=XR .i64 (a.length:Int) b.length ⟨by omega,by omega⟩
  rw[Int.toNat_natCast]at hb
  have he:=seq_ok a (b.take a.length) ha
  simp only[zb,zg,zf,za,d,decide_eq_true h,if_true,yI,hb,zU,Nat.sub_zero,j5,he,Bool.true_and]
 ·simp only[zb,zg,zf,za,d,decide_eq_false h,zF,if_false,Bool.false_and]
end Go.Ev
end
section
namespace Go.Ev
attribute [local irreducible] P0
def arr(l:List Tree):Tree := .mk 6 false .zero [] [] l
theorem za0{l:List Tree}(h : ∀ x,x∈l→OrdT x):OrdT (arr l):=
 .mk _ (fun h=>by simp[arr,Tree.kind]at h) (by rw[X9 (by simp[arr,Tree.kind])];trivial) (fun x hx=>by simp[arr,Tree.n,Nm.zero]at hx) (by simp[arr,Tree.n,Nm.zero]) (Nat.zero_le _) h
theorem Qc(l:List Tree):yj (arr l)=1+weightL l:=by
 rw[xZ]
 have:w1 (arr l)=1:=by unfold w1;simp[arr,Tree.kind]
 rw[this];rfl
theorem WP(a b:List Tree):weightL (a++b)=weightL a+weightL b:=by
 induction a with
 | nil=>simp[weightL]
 | cons x r ih=>simp only[List.cons_append,weightL,ih];omega
theorem zhH{l:List Tree}{i:Nat}{x y:Tree}(h:l[i]?=some x):weightL (l.set i y)+yj x=weightL l+yj y:=by
 induction l generalizing i with
 | nil=>simp at h
 | cons z r ih=>
  cases i with
  | zero=>simp only[zM,Option.some.injEq]at h;subst h;simp only[List.set_cons_zero,weightL];omega
  | succ i=>simp only[zN]at h;have:=ih h;simp only[List.set_cons_succ,weightL];omega
theorem YC(l:List Tree)(i:Nat):weightL (l.take i)+weightL (l.drop i)=weightL l:=by rw[← WP,List.take_append_drop]
theorem QD{t x:Tree}{s:Str}(h:child t s=some x):t.kind=6∨t.kind=7:=by
 refine Classical.byContradiction fun hn => ?_
 unfold child at h
 rw[if_neg (fun e=>hn (.inl e)),X9 (fun e=>hn (.inr e))]at h
 simp[lk]at h
theorem Ko{t x:Tree}{s:Str}(hk:t.kind=6)(h:child t s=some x) : ∃ i,qh s ((t.v.length:Int) - 1)=some i∧t.v[i]?=some x∧i<t.v.length:=by
 unfold child at h
 rw[if_pos hk,zA]at h
 obtain⟨i,h1,h2⟩:=h
 exact⟨i,h1,h2,Qi h1⟩
theorem zir{t x:Tree}{s:Str}(hk:t.kind=7)(h:child t s=some x):lk s (al t)=some x:=by
 unfold child at h
 rw[if_neg (by omega)]at h;exact h
theorem OrdT.obj{t:Tree}(h:OrdT t)(hk:t.kind=7):t=Ev.obj (al t):=by cases h with | mk _ h _ _ _ _ _=>exact h hk
theorem zne{t x y:Tree}{s:Str}(hc:child t s=some x)(h:OrdT t)(hy:OrdT y):OrdT (zdH t s y)∧yj (zdH t s y)+yj x=yj t+yj y:=by
 by_cases hk:t.kind=7
 ·have hp:zdH t s y=obj (qU s y (al t)):=if_pos hk
  rw[hp]
  refine⟨zaS (zkg h.al_srt) (fun q hq => ?_),?_⟩
  ·rcases zku hq with rfl | hq
   ·exact hy
   ·exact h.al_ord q hq
  ·have e:=h.obj hk
   have w:=znZ (n:=s) (v:=y) h.al_srt
   rw[zir hk hc]at w
   have hw:yj t=1+wA (al t):=by rw[← j3,← e]
   rw[j3,hw]
   simp only[wO]at w;omega
 ·have hk6:t.kind=6:=(QD hc).resolve_right hk
  obtain⟨i,h1,h2,h3⟩:=Ko hk6 hc
  have hp:zdH t s y=zlv t (t.v.set i y):=by unfold zdH;rw[if_neg hk,h1];rfl
  rw[hp]
  constructor
  ·cases h with
   | mk _ g hs g1 g2 g3 hv=>
    refine .mk _ (fun e=>absurd e hk) (by rw[X9 (show ¬ (zlv t (t.v.set i y)).kind=7 from hk)];trivial) g1 g2 (by show t.k.length≤(t.v.set i y).length;rw[List.length_set];exact g3) (fun z hz => ?_)
    rcases List.mem_or_eq_of_mem_set hz with hz | rfl
    ·exact hv z hz
    ·exact hy
  ·have:=zhH (y:=y) h2
   have e1:w1 (zlv t (t.v.set i y))=w1 t:=rfl
   rw[xZ,xZ t,e1]
   show w1 t+weightL (t.v.set i y)+_=_
   omega
theorem zcs(p:List Str) : ∀ {t y:Tree},OrdT t→OrdT y → ∀ {old:Tree},wU t p=some old → ∃ u,Wk t p y=some u∧OrdT u∧yj u+yj old=yj t+yj y:=by
 induction p with
 | nil=>
  intro t y ht hy old h
  injection h with h;subst h
  exact⟨y,rfl,hy,by omega⟩
 | cons s r ih=>
  intro t y ht hy old h
  simp only[wU,zA]at h
  obtain⟨x,hc,h⟩:=h
  obtain⟨u,h1,h2,h3⟩:=ih (ht.sub _ (Vp hc)) hy h
  obtain⟨h4,h5⟩:=zne hc ht h2
  refine⟨zdH t s u,?_,h4,by omega⟩
  simp only[Wk,hc,zD,h1,zC]
theorem zdn(p:List Str) : ∀ {t x:Tree},wU t p=some x→OrdT t→OrdT x∧yj x≤yj t:=by
 induction p with
 | nil=>intro t x h ht;injection h with h;subst h;exact⟨ht,zR _⟩
 | cons s r ih=>
  intro t x h ht
  simp only[wU,zA]at h
  obtain⟨y,hc,h⟩:=h
  obtain⟨h1,h2⟩:=ih h (ht.sub _ (Vp hc))
  have:=zbT (Vp hc)
  exact⟨h1,by omega⟩
theorem Sz.get{t x:Tree}{p:List Str}(h:Sz t)(hx:wU t p=some x):Sz x:=by
 obtain⟨h1,h2⟩:=zdn p hx h.ord
 exact⟨h1,by have:=h.w;omega⟩
def xq(p:List Str):Str:=p.getLastD []
theorem zpd{p:List Str}(h:p≠[]):p.dropLast++[xq p]=p:=by
 unfold xq
 rw[List.getLastD_eq_getLast?,List.getLast?_eq_some_getLast h]
 exact List.dropLast_concat_getLast h
/-- the place that a last token says, of so many and one more -/
def YN(s:Str)(n:Nat):Option Nat:=if s=[45]then some n else qh s n
def YK(t:Tree)(p:List Str)(v:Tree):Option Tree:=
 if p=[]then some v else(wU t p.dropLast).bind fun x=>
  if x.kind=7 then Wk t p.dropLast (obj (qU (xq p) v (al x)))
  else if x.kind=6 then(YN (xq p) x.v.length).bind fun i=>Wk t p.dropLast (arr (x.v.take i++v::x.v.drop i))
  else none
def zdh(x:Tree)(s:Str):Tree:=if x.kind=7 then obj (YB s (al x))else arr (x.v.take ((qh s ((x.v.length:Int) - 1)).getD 0)++x.v.drop ((qh s ((x.v.length:Int) - 1)).getD 0+1))
def zaw(t:Tree)(p:List Str):Option Tree:=
 if p=[]then none else(wU t p).bind fun _=>(wU t p.dropLast).bind fun x=>Wk t p.dropLast (zdh x (xq p))
def Jz(a b:List Str):Bool:=decide (a.length≤b.length) && decide (a=b.take a.length)
def ziU(t:Tree)(a b:List Str):Option Tree:=(wU t a).bind fun v=>if a=b then some t else if a=[]∨Jz a b=true then none else(zaw t a).bind fun x=>YK x b v
structure OpR where
 op:Int
 path:List Str
 from':List Str
 value:Tree
def OpR.val(o:OpR):V := .agg [.int .i64 o.op,.sl (strs o.path),.sl (strs o.from'),.int .i64 o.value.kind,.bool o.value.b,.bool o.value.n.neg,.sl (yK o.value.n.m),.int .i64 o.value.n.e,.str o.value.s,.sl (strs o.value.k),.sl (trs o.value.v)]
noncomputable def VR(t:Tree)(o:OpR):Option Tree:=
 if o.op=1 then YK t o.path o.value
 else if o.op=2 then zaw t o.path
 else if o.op=3 then Wk t o.path o.value
 else if o.op=4 then ziU t o.from' o.path
 else if o.op=5 then(wU t o.from').bind fun v=>YK t o.path v
 else if o.op=6 then(wU t o.path).bind fun x=>(open Classical in if x=o.value then some t else none)
 else none
/-- what is there one token further -/
theorem zh2{t y:Tree}{p:List Str}(hp:p≠[])(h:wU t p=some y) : ∃ x,wU t p.dropLast=some x∧child x (xq p)=some y:=by
 rw[← zpd hp,zon,zA]at h
 obtain⟨x,h1,h2⟩:=h
 refine⟨x,h1,?_⟩
 simp only[wU,zA]at h2
 obtain⟨z,h2,h3⟩:=h2
 injection h3 with h3;subst h3;exact h2
theorem zoc{x y:Tree}{s:Str}(hc:child x s=some y)(h:OrdT x):OrdT (zdh x s)∧yj (zdh x s)≤yj x:=by
 by_cases hk:x.kind=7
 ·have hp:zdh x s=obj (YB s (al x)):=if_pos hk
  rw[hp]
  refine⟨zaS (zpr h.al_srt) (fun q hq=>h.al_ord q (zpw hq)),?_⟩
  have e:=h.obj hk
  have hw:yj x=1+wA (al x):=by rw[← j3,← e]
  rw[j3,hw]
  have:=zqM s (al x)
  omega
 ·have hk6:x.kind=6:=(QD hc).resolve_right hk
  obtain⟨i,h1,h2,h3⟩:=Ko hk6 hc
  have hp:zdh x s=arr (x.v.take i++x.v.drop (i+1)):=by unfold zdh;rw[if_neg hk,h1];rfl
  rw[hp]
  refine⟨za0 (fun z hz => ?_),?_⟩
  ·rcases List.mem_append.1 hz with hz | hz
   ·exact h.sub z (List.mem_of_mem_take hz)
   ·exact h.sub z (List.mem_of_mem_drop hz)
  ·rw[Qc,WP,xZ x]
   have e1:=YC x.v i
   have e2:=YC (x.v.drop i) 1
   rw[List.drop_drop]at e2
   have:=Qa x
   omega
theorem zmZ{t u:Tree}{p:List Str}(ht:OrdT t)(h:zaw t p=some u):OrdT u∧yj u≤yj t:=by
 unfold zaw at h
 split at h
 ·contradiction
 ·next hp=>
  rw[zA]at h
  obtain⟨y,hy,h⟩:=h
  obtain⟨x,h1,h2⟩:=zh2 hp hy
  rw[h1,zD]at h
  obtain⟨h3,h4⟩:=zoc h2 (zdn _ h1 ht).1
  obtain⟨u',h5,h6,h7⟩:=zcs _ ht h3 h1
  rw[h5]at h;injection h with h;subst h
  exact⟨h6,by omega⟩
end Go.Ev
end
section
namespace Go.Ev
attribute [local irreducible] P0
def ql:V := .tup [.bool false,.iface K6 (.agg [])]
/-- what comes of it, or the panic -/
def wt(o:Option Tree):V:=match o with
 | some x => .tup [.bool true,x.val]
 | none=>ql
theorem vf(b:Bool):P0 zt [.v (.bool b)] []=some (if b=true then .tup [.bool true,.tup []]else ql,[]):=by
 rw[zgD];unfold zb8
 cases b with
 | true=>simp only[zb,y0,zH,za,zc,zF,if_false,if_true]
 | false=>simp only[zb,y0,zI,za,zc,if_true,VS,zF,if_false];rfl
theorem Jd(t:Tree)(p:List Str)(h:Sz t)(hp:p.length≤1000000):P0 xr [.v t.val,.v (.sl (strs p))] []=some (wt (wU t p),[]):=by
 rw[ziV];unfold zey
 have hg:=zpl t p h hp
 cases hx:wU t p with
 | none=>
  rw[hx]at hg
  simp only[zb,zd,zh,hg,Wg,za,zo,zM,zN,vf,zF,if_false,ql,zc,wt]
 | some x=>
  rw[hx]at hg
  simp only[zb,zd,zh,hg,Wg,za,zo,zM,zN,vf,if_true,zc,wt]
theorem za2(t:Tree)(p:List Str)(v:Tree)(h:Sz t)(hp:p.length≤1000000):P0 wu [.v t.val,.v (.sl (strs p)),.v v.val] []=some (wt (Wk t p v),[]):=by
 rw[ziY];unfold zej
 have hg:=zo2 p t v h hp
 cases hx:Wk t p v with
 | none=>
  rw[hx]at hg
  simp only[zb,zd,zh,hg,Wg,za,zo,zM,zN,vf,zF,if_false,ql,zc,wt]
 | some x=>
  rw[hx]at hg
  simp only[zb,zd,zh,hg,Wg,za,zo,zM,zN,vf,if_true,zc,wt]
theorem zgR(p:List Str)(h:p≠[])(hp:p.length≤1000000):P0 xS [.v (.sl (strs p))] []=some (.tup [.sl (strs p.dropLast),.str (xq p)],[]):=by
 rw[zgk];unfold zag
 have hl:0<p.length:=List.length_pos_iff.2 h
 have w:IntKind.i64.wrap (((p.length:Nat):Int) - 1)=((p.length - 1:Nat):Int):=(w64 (a:=(p.length:Int) - 1) (by omega)).trans (by omega)
 have hb:=XR .i64 ((p.length - 1:Nat):Int) p.length ⟨by omega,by omega⟩
 rw[Int.toNat_natCast]at hb
 have hlast:p[p.length - 1]?=some (xq p):=by
  unfold xq
  rw[List.getLastD_eq_getLast?,List.getLast?_eq_getElem?]
  cases hx:p[p.length - 1]? with
  | none=>rw[List.getElem?_eq_none_iff]at hx;omega
  | some x=>rfl
 simp only[zb,zg,zf,za,yI,w,hb,zp _ (p.length - 1) p.length (by omega),xB,hlast,zC,y4,zU,Nat.sub_zero,j5,List.dropLast_eq_take]
theorem zm0(a b c:List V):yc 1 [V.sl a,V.sl b,V.sl c]=true:=rfl
theorem Y9(a b c:List V):xk 1 (.sl [V.sl a,V.sl b,V.sl c])=some [.sl a,.sl b,.sl c]:=by unfold xk;simp only[zm0]
theorem zi3(a b c:List Tree)(ha:a.length≤1000000)(hb:b.length≤1000000)(hc:c.length≤1000000):P0 z7 [.v (.sl [.sl (trs a),.sl (trs b),.sl (trs c)])] []=some (.sl (trs (a++b++c)),[]):=by
 rw[kV];unfold qZ
 have w1:IntKind.i64.wrap (0+(a.length:Int))=(a.length:Int):=w64 (a:=0+(a.length:Int)) (by omega) |>.trans (by omega)
 have w2:IntKind.i64.wrap ((a.length:Int)+(b.length:Int))=((a.length+b.length:Nat):Int):=w64 (a:=(a.length:Int)+(b.length:Int)) (by omega) |>.trans (by omega)
 have w2':IntKind.i64.wrap (((a.length+b.length:Nat):Int)+(c.length:Int))=((a.length+b.length+c.length:Nat):Int):=w64 (a:=((a.length+b.length:Nat):Int)+(c.length:Int)) (by omega) |>.trans (by omega)
 have w3:IntKind.i64.wrap (0+1)=1:=by decide
 have w4:IntKind.i64.wrap (1+1)=2:=by decide
 have w5:IntKind.i64.wrap (2+1)=3:=by decide
 have c0 : ¬ (a.length:Int)<0:=by omega
 have c1 : ¬ ((a.length+b.length:Nat):Int)<0:=by omega
 have c2 : ¬ ((a.length+b.length+c.length:Nat):Int)<0:=by omega
 have d0:(0:Int)<((3:Nat):Int):=by decide
 have d1:(1:Int)<((3:Nat):Int):=by decide
 have d2:(2:Int)<((3:Nat):Int):=by decide
 have d3 : ¬ (3:Int)<((3:Nat):Int):=by decide
 have i0:=zcv .i64 3 (by decide)
 have i1:xP (.int .i64 1) 3=some 1:=zp .i64 1 3 (by decide)
 have i2:xP (.int .i64 2) 3=some 2:=zp .i64 2 3 (by decide)
 have l1:yk (yu 3 (.sl [.sl (trs a),.sl (trs b),.sl (trs c)])) (vec [.int .i64 0,.int .i64 0])=some (0,vec [.int .i64 ((a.length+b.length+c.length:Nat):Int)]):=by
  rw[zy (a':=vec [.int .i64 (a.length:Int),.int .i64 1])]
  ·rw[zy (a':=vec [.int .i64 ((a.length+b.length:Nat):Int),.int .i64 2])]
   ·rw[zy (a':=vec [.int .i64 ((a.length+b.length+c.length:Nat):Int),.int .i64 3])]
    ·apply zr
     unfold yu
     simp only[zb,zl,yp,zw,d3,decide_false,za,zc,zF,if_false]
    ·unfold yu
     simp only[zb,zl,yp,zw,d2,decide_true,za,zc,if_true,Y9,List.length_cons,List.length_nil,Nat.zero_add,Nat.reduceAdd,i2,zN,zM,vn,zg,zm,xo,w2',c2,decide_false,zF,if_false,w5]
   ·unfold yu
    simp only[zb,zl,yp,zw,d1,decide_true,za,zc,if_true,Y9,List.length_cons,List.length_nil,Nat.zero_add,Nat.reduceAdd,i1,zN,zM,vn,zg,zm,xo,w2,c1,decide_false,zF,if_false,w4]
  ·unfold yu
   simp only[zb,zl,yp,zw,d0,decide_true,za,zc,if_true,Y9,List.length_cons,List.length_nil,Nat.zero_add,Nat.reduceAdd,i0,zM,vn,zg,zm,xo,w1,c0,decide_false,zF,if_false,w3]
 have l2:yk (yw 3 (.sl [.sl (trs a),.sl (trs b),.sl (trs c)])) (vec [.sl [],.int .i64 0])=some (0,vec [.sl (trs (a++b++c))]):=by
  rw[zy (a':=vec [.sl (trs a),.int .i64 1])]
  ·rw[zy (a':=vec [.sl (trs (a++b)),.int .i64 2])]
   ·rw[zy (a':=vec [.sl (trs (a++b++c)),.int .i64 3])]
    ·apply zr
     unfold yw
     simp only[zb,zl,yp,zw,d3,decide_false,za,zc,zF,if_false,yU]
    ·unfold yw
     simp only[zb,zl,yp,zw,d2,decide_true,za,zc,if_true,Y9,List.length_cons,List.length_nil,Nat.zero_add,Nat.reduceAdd,i2,zN,zM,vn,kN,yU,zm,zZ,qk 120 (a.length+b.length) c.length (by omega) (by omega),zh,xo,w5,Je]
   ·unfold yw
    simp only[zb,zl,yp,zw,d1,decide_true,za,zc,if_true,Y9,List.length_cons,List.length_nil,Nat.zero_add,Nat.reduceAdd,i1,zN,zM,vn,kN,yU,zm,qk 120 a.length b.length (by omega) (by omega),zh,xo,w4,Je]
  ·unfold yw
   simp only[zb,zl,yp,zw,d0,decide_true,za,zc,if_true,Y9,List.length_cons,List.length_nil,Nat.zero_add,Nat.reduceAdd,i0,zM,vn,kN,yU,zm,qk 120 0 a.length (by omega) (by omega),zh,xo,w3,List.nil_append]
 simp only[zb,zg,za,List.length_cons,List.length_nil,Nat.zero_add,Nat.reduceAdd,l1,if_true,zl,zkn _ (by omega:a.length+b.length+c.length≤100000000),zfC,l2,yU]
theorem zfy(l:List Tree):(arr l).val = .agg [.int .i64 6,.bool false,.bool false,.sl [],.int .i64 0,.str [],.sl [],.sl (trs l)]:=by rw[Tree.val_eq];rfl
theorem zru(s:Str):(s == ([45]:Str))=decide (s=[45]):=by
 by_cases h:s=[45]
 ·rw[decide_eq_true h,h];rfl
 ·rw[decide_eq_false h,beq_eq_false_iff_ne];exact h
theorem znf{s:Str}{n i:Nat}(h:qh s (n:Int)=some i):i≤n:=by have:=zke h;omega
theorem zmh{s:Str}{n i:Nat}(h:YN s n=some i):i≤n:=by
 unfold YN at h
 split at h
 ·injection h with h;omega
 ·exact znf h
theorem zgb(t:Tree)(p:List Str)(v:Tree)(h:Sz t)(hp:p.length≤1000000):P0 qD [.v t.val,.v (.sl (strs p)),.v v.val] []=some (wt (YK t p v),[]):=by
 rw[ziz];unfold ze4
 unfold YK
 by_cases hn:p=[]
 ·subst hn
  have e:(((0:Nat):Int) == 0)=true:=rfl
  simp only[zb,zd,zh,zg,zf,za,List.length_nil,e,if_true,wt]
 rw[if_neg hn]
 have e0:(((((p.length:Nat):Int)) == 0))=false:=by rw[zn6];exact decide_eq_false hn
 have hup:p.dropLast.length≤1000000:=by rw[List.length_dropLast];omega
 have hs:=zgR p hn hp
 have hg:=Jd t p.dropLast h hup
 cases hx:wU t p.dropLast with
 | none=>
  rw[hx]at hg
  simp only[zb,zd,zh,zg,zf,za,e0,zF,if_false,hs,zo,zM,zN,hg,wt,ql,zc,Option.bind_none]
 | some x=>
  rw[hx]at hg
  have hsz:=h.get hx
  simp only[zD]
  by_cases hk:x.kind=7
  ·rw[if_pos hk]
   have hset:=zm1 x (xq p) v hsz.ord.al_srt (Nat.le_trans (zgj x) hsz.v)
   have hput:=za2 t p.dropLast (obj (qU (xq p) v (al x))) h hup
   cases hq:Wk t p.dropLast (obj (qU (xq p) v (al x)))with
   | none=>
    rw[hq]at hput
    simp only[zb,zd,zh,zg,zf,za,e0,zF,if_false,hs,zo,zM,zN,hg,wt,zc,if_true,jv,yV,hk,decide_true,hset,hput,ql]
   | some y=>
    rw[hq]at hput
    simp only[zb,zd,zh,zg,zf,za,e0,zF,if_false,hs,zo,zM,zN,hg,wt,zc,if_true,jv,yV,hk,decide_true,hset,hput]
  rw[if_neg hk]
  by_cases hk6:x.kind=6
  ·rw[if_pos hk6]
   have hi:=zaW (xq p) (x.v.length:Int)
   have hcut:(((ze .eql (.str (xq p)) (.str [45])).bind fun x25=>
     (asBool x25).bind fun b26=>
     if b26=true then
     (zn x.val 7).bind fun c27=>
     (yX c27).bind fun n28=>
     some (0,(vec [(.int .i64 ((n28:Nat):Int)),(.bool true)]))
     else
     some (0,(vec [.int .i64 ((((qh (xq p) x.v.length).getD 0:Nat)):Int),.bool (qh (xq p) x.v.length).isSome])):Option (Nat×(Nat→V))))=some (0,vec [.int .i64 ((((YN (xq p) x.v.length).getD 0:Nat)):Int),.bool (YN (xq p) x.v.length).isSome]):=by
    by_cases hd:xq p=[45]
    ·have:YN (xq p) x.v.length=some x.v.length:=if_pos hd
     rw[this]
     simp only[zb,jU,zru,decide_eq_true hd,za,zc,if_true,qj,zg,zm,Option.getD_some,Option.isSome_some]
    ·have:YN (xq p) x.v.length=qh (xq p) x.v.length:=if_neg hd
     rw[this]
     simp only[zb,jU,zru,decide_eq_false hd,za,zc,zF,if_false]
   have hi2:zeO (qh (xq p) (x.v.length:Int)) = .tup [.int .i64 ((((qh (xq p) x.v.length).getD 0:Nat)):Int),.bool (qh (xq p) x.v.length).isSome]:=by
    cases qh (xq p) (x.v.length:Int)<;>rfl
   rw[hi2]at hi
   have k7 : ¬ ((6:Int)=7):=by decide
   cases hq:YN (xq p) x.v.length with
   | none=>
    rw[hq]at hcut
    simp only[zb,zd,zh,zg,zf,za,e0,zF,if_false,hs,zo,zM,zN,hg,wt,zc,if_true,jv,yV,hk6,k7,decide_false,decide_true,qj,zm,hi,Option.bind_none]
    simp only[qj,za,zb,zg,zm]at hcut
    simp only[zb,hcut,za,zl,yp,Option.isSome_none,vf,zF,if_false,ql,zo,zM,zN,zc]
   | some i=>
    rw[hq]at hcut
    have hle:=zmh hq
    have hb1:=XR .i64 (i:Int) x.v.length ⟨by omega,by omega⟩
    have hb2:=jw .i64 (i:Int) x.v.length ⟨by omega,by omega⟩
    rw[Int.toNat_natCast]at hb1 hb2
    have hxl:=hsz.v
    have hcc:=zi3 (x.v.take i) [v] (x.v.drop i) (by rw[List.length_take];omega) (by simp) (by rw[List.length_drop];omega)
    have e1:trs [v]=[v.val]:=rfl
    rw[e1]at hcc
    have hdt:(x.v.drop i).take (x.v.length - i)=x.v.drop i:=by rw[zV];rw[List.length_drop];exact zR _
    have happ:x.v.take i++[v]++x.v.drop i=x.v.take i++v::x.v.drop i:=by simp
    rw[happ]at hcc
    have hput:=za2 t p.dropLast (arr (x.v.take i++v::x.v.drop i)) h hup
    rw[zfy]at hput
    simp only[zb,zd,zh,zg,zf,za,e0,zF,if_false,hs,zo,zM,zN,hg,wt,zc,if_true,jv,yV,hk6,k7,decide_false,decide_true,qj,zm,hi,zD]
    simp only[qj,za,zb,zg,zm]at hcut
    simp only[zb,hcut,za,zl,yp,Option.isSome_some,Option.getD_some,vf,if_true,zo,zM,zN,zc,qj,zd,xQ,zm,hb1,hb2,zU,Nat.sub_zero,Zw,Xf,hdt,hcc,Qr,zh,vn,hput]
    cases Wk t p.dropLast (arr (x.v.take i++v::x.v.drop i))with
    | none=>simp only[zb,wt,ql,zo,zM,zN,za,zc,zF,if_false]
    | some y=>simp only[zb,wt,zo,zM,zN,za,zc,if_true,zd,zh]
  ·rw[if_neg hk6]
   simp only[zb,zd,zh,zg,zf,za,e0,zF,if_false,hs,zo,zM,zN,hg,wt,zc,if_true,jv,yV,hk,hk6,decide_false,VS];rfl
end Go.Ev
end
section
namespace Go.Ev
attribute [local irreducible] P0
mutual
def zif:Tree→Bool
 | .mk _ _ _ _ _ v=>decide (v.length≤300) && fewL v
def fewL:List Tree→Bool
 | []=>true
 | x::r=>zif x && fewL r
end
theorem zre(t:Tree):zif t=(decide (t.v.length≤300) && fewL t.v):=by cases t;rw[zif];rfl
theorem zoe(l:List Tree):fewL l = !(l.any fun x => !zif x):=by
 induction l with
 | nil=>rfl
 | cons x r ih=>rw[fewL,ih];cases hb:zif x<;>simp[hb]
/-- within limits -/
def ziX(t:Tree)(w:Int):Bool:=decide ((yj t:Int)≤w) && decide ((vo t:Int)≤2000) && decide ((depth t:Int)≤64) && zif t
theorem zfZ : ∀ t:Tree,vo t≤yj t:=by
 intro t
 induction t using Tree.ind with
 | h t ih=>
  rw[vW,xZ]
  have hp:=Qa t
  have : ∀ l:List Tree,(∀ x,x∈l→vo x≤yj x)→nodesL l≤weightL l:=by
   intro l
   induction l with
   | nil=>intro _;simp[nodesL]
   | cons y r ihr=>
    intro h
    have h1:=h y List.mem_cons_self
    have h2:=ihr (fun x hx=>h x (zP _ hx))
    rw[weightL,nodesL];omega
  have:=this t.v ih
  omega
end Go.Ev
end
