/- What functions compute, put together. -/
import Derived.Test.YtnefgdahdccldaaGreatDoorKSB
import Derived.Test.YtnefgdahdccldaaGreatDoorKSp
import Derived.Test.YtnefgdahdccldaaGreatDoorKSA
set_option linter.all false
open Option renaming map_some->zC,bind_some->zD
open Bool renaming false_eq_true->zF,and_eq_true->zG,not_true->zH,not_false->zI,true_eq_false->zX
open List renaming getElem?_eq_getElem->zL,drop_eq_getElem_cons->zO,mem_cons_of_mem->zP,drop_eq_nil_of_le->zQ,drop_zero->zU
namespace Go.Ev
abbrev xf:=And.intro @zm @wB
end Go.Ev
namespace Go.Ev
abbrev qq:=And.intro @z5 @v8
end Go.Ev
namespace Go.Ev
abbrev ku:=And.intro @if_true.{1} (And.intro @zCn (And.intro @zp @zj))
end Go.Ev
namespace Go.Ev
abbrev xQ:=And.intro @zm (And.intro @wB (And.intro @ze (And.intro @if_false.{1} @zF)))
end Go.Ev
namespace Go.Ev
section
attribute [local irreducible] P0
def w1(t:Tree):Nat:=1+(if t.kind=3 then t.n.m.length else if t.kind=4 then t.s.length else if t.kind=5 then t.s.length else 0)
mutual
def yb:Tree->Nat
 | .mk kind b n s k v=>w1 (.mk kind b n s k v)+weightL v
def weightL:List Tree->Nat
 | []=>0
 | x::r=>yb x+weightL r
end
theorem wu(t:Tree):yb t=w1 t+weightL t.v:=by cases t;rw[yb];rfl
theorem zbx(t:Tree):1<=w1 t:=by unfold w1;omega
theorem zmX(l:List Tree)(i:Nat)(h:i<l.length):weightL (l.drop i)=yb l[i]+weightL (l.drop (i+1)):=by rw[zO h,weightL]
theorem Je{l:List Tree}{x:Tree}(h:x∈l):yb x<=weightL l:=by
 induction l with
 | nil=>simp at h
 | cons y r ih=>
  rw[weightL];rcases List.mem_cons.1 h with rfl | h
  ·omega
  ·have:=ih h;omega
theorem Vi(l:List Tree):l.length<=weightL l:=by
 induction l with
 | nil=>simp
 | cons x r ih=>rw[weightL,zCw,wu];have:=zbx x;omega
theorem zqq(t:Tree)(hl:t.v.length<=1000000000)(hw : ∀ x,x∈t.v->P0 vn [.v x.val] []=some (.int .i64 (yb x:Nat),[]))(m:Nat) : ∀ (i a:Nat),i+m=t.v.length->a+weightL (t.v.drop i)<=1000000000 ->
  zq (kK t.v.length (.sl (trs t.v))) (vec [.int .i64 (a:Int),.int .i64 (i:Int)])=some (0,vec [.int .i64 ((a+weightL (t.v.drop i):Nat):Int)]):=by
 induction m with
 | zero=>
  intro i a hi ha;apply zg;unfold kK;have c1 : ¬ (i:Int)<(t.v.length:Int):=by omega
  have e:t.v.drop i=[]:=zQ (by omega);simp only[qq,xQ,zr,c1,zCo,e,weightL,zCv]
 | succ m ih=>
  intro i a hi ha;have hlt:i<t.v.length:=by omega
  have c1:(i:Int)<(t.v.length:Int):=by omega
  have hx:t.v[i]?=some t.v[i]:=zL hlt;rw[zmX _ _ hlt]at ha ⊢;have wa:IntKind.i64.wrap ((a:Int)+((yb t.v[i]:Nat):Int))=((a+yb t.v[i]:Nat):Int):=w64 (a:=(a:Int)+((yb t.v[i]:Nat):Int)) (by omega);rw[<- Nat.add_assoc,<- ih (i+1) (a+yb t.v[i]) (by omega) (by omega)];apply zn;unfold kK;simp only[xf,qq,ku,zr,c1,ze,yP,zh,zf _ i t.v.length hlt,wh,hx,zC,hw _ (zCW hlt),yU,wa,yI (i:=i) (by omega)]
theorem QC : ∀ t:Tree,yb t<=1000000000->P0 vn [.v t.val] []=some (.int .i64 (yb t:Nat),[]):=by
 intro t;induction t using Tree.ind with
 | h t ih=>
  intro hw;rw[wu]at hw;have hlen:=Vi t.v;have hp:=zbx t;have hloop:=zqq t (by omega) (fun x hx=>ih x hx (by have:=Je hx;omega)) t.v.length 0 (w1 t) (by omega) (by rw[zU];omega);rw[zU,show((0:Nat):Int)=0 from rfl,<- wu]at hloop;rw[zjV];unfold zaW;by_cases h3:t.kind=3
  ·have e:w1 t=1+t.n.m.length:=by unfold w1;rw[zCk h3]
   have wn:IntKind.i64.wrap (1+((t.n.m.length:Nat):Int))=((w1 t:Nat):Int):=by rw[w64 (a:=1+((t.n.m.length:Nat):Int)) (by omega)];omega
   simp only[xf,ku,xk,zv,h3,ze,zkj,zb,yj,wn,xw,zh,z5,hloop]
  by_cases h45:t.kind=4\/t.kind=5
  ·have e:w1 t=1+t.s.length:=by unfold w1;rw[zCj h3];rcases h45 with h | h<;>simp[h]
   have wn:IntKind.i64.wrap (1+((t.s.length:Nat):Int))=((w1 t:Nat):Int):=by rw[w64 (a:=1+((t.s.length:Nat):Int)) (by omega)];omega
   rcases h45 with h | h
   ·simp only[ku,xQ,xk,zv,h,Int.reduceEq,zCo,z5,Wa,vr,wn,xw,zb,zh,hloop]
   ·simp only[ku,xQ,xk,zv,h,Int.reduceEq,zCo,z5,Wa,vr,wn,xw,zb,zh,hloop]
  ·have e:w1 t=1:=by unfold w1;rw[zCj h3,zCj (fun h=>h45 (.inl h)),zCj (fun h=>h45 (.inr h))]
   have h4 : ¬ t.kind=4:=fun h=>h45 (.inl h)
   have h5 : ¬ t.kind=5:=fun h=>h45 (.inr h)
   rw[e,show((1:Nat):Int)=1 from rfl]at hloop;simp only[xQ,zj,zp,xk,zv,h3,h4,h5,zCo,z5,xw,zb,zh,hloop]
theorem zrm(t:Tree)(hl:t.v.length<=1000000000)(hw : ∀ x,x∈t.v->P0 qg [.v x.val] []=some (.int .i64 (vk x:Nat),[]))(m:Nat) : ∀ (i a:Nat),i+m=t.v.length->a+nodesL (t.v.drop i)<=1000000000 ->
  zq (ZN t.v.length (.sl (trs t.v))) (vec [.int .i64 (a:Int),.int .i64 (i:Int)])=some (0,vec [.int .i64 ((a+nodesL (t.v.drop i):Nat):Int)]):=by
 induction m with
 | zero=>
  intro i a hi ha;apply zg;unfold ZN;have c1 : ¬ (i:Int)<(t.v.length:Int):=by omega
  have e:t.v.drop i=[]:=zQ (by omega);simp only[qq,xQ,zr,c1,zCo,e,nodesL,zCv]
 | succ m ih=>
  intro i a hi ha;have hlt:i<t.v.length:=by omega
  have c1:(i:Int)<(t.v.length:Int):=by omega
  have hx:t.v[i]?=some t.v[i]:=zL hlt;have hd:nodesL (t.v.drop i)=vk t.v[i]+nodesL (t.v.drop (i+1)):=by rw[zO hlt,nodesL]
  rw[hd]at ha ⊢;have wa:IntKind.i64.wrap ((a:Int)+((vk t.v[i]:Nat):Int))=((a+vk t.v[i]:Nat):Int):=w64 (a:=(a:Int)+((vk t.v[i]:Nat):Int)) (by omega);rw[<- Nat.add_assoc,<- ih (i+1) (a+vk t.v[i]) (by omega) (by omega)];apply zn;unfold ZN;simp only[xf,qq,ku,zr,c1,ze,yP,zh,zf _ i t.v.length hlt,wh,hx,zC,hw _ (zCW hlt),yU,wa,yI (i:=i) (by omega)]
theorem zeR : ∀ t:Tree,vk t<=1000000000->P0 qg [.v t.val] []=some (.int .i64 (vk t:Nat),[]):=by
 intro t;induction t using Tree.ind with
 | h t ih=>intro hw;rw[qb]at hw;have hlen:=zho t.v;have hloop:=zrm t (by omega) (fun x hx=>ih x hx (by have:=zmw hx;omega)) t.v.length 0 1 (by omega) (by rw[zU];omega);rw[zU,show((0:Nat):Int)=0 from rfl,show((1:Nat):Int)=1 from rfl,<- qb]at hloop;rw[zkl];unfold zdO;simp only[xf,zj,zp,xw,zb,zh,hloop,z5]
theorem zAC(a b:Nat):zjP (.int .i64 (a:Int)) [.int .i64 (b:Int)]=some (.int .i64 ((max a b:Nat):Int)):=by simp only[zjP,zCk];congr 2;split<;>omega
theorem zrI(t:Tree)(hl:t.v.length<=1000000000)(hw : ∀ x,x∈t.v->P0 v7 [.v x.val] []=some (.int .i64 (depth x:Nat),[]))(m:Nat) : ∀ (i a:Nat),i+m=t.v.length ->
  zq (Zu t.v.length (.sl (trs t.v))) (vec [.int .i64 (a:Int),.int .i64 (i:Int)])=some (0,vec [.int .i64 ((max a (depthL (t.v.drop i)):Nat):Int)]):=by
 induction m with
 | zero=>
  intro i a hi;apply zg;unfold Zu;have c1 : ¬ (i:Int)<(t.v.length:Int):=by omega
  have e:t.v.drop i=[]:=zQ (by omega);simp only[qq,xQ,zr,c1,zCo,e,depthL,Nat.max_zero]
 | succ m ih=>
  intro i a hi;have hlt:i<t.v.length:=by omega
  have c1:(i:Int)<(t.v.length:Int):=by omega
  have hx:t.v[i]?=some t.v[i]:=zL hlt;have hd:depthL (t.v.drop i)=max (depth t.v[i]) (depthL (t.v.drop (i+1))):=by rw[zO hlt,depthL]
  rw[hd,<- Nat.max_assoc,<- ih (i+1) (max a (depth t.v[i])) (by omega)];apply zn;unfold Zu;simp only[xf,qq,ku,zr,c1,ze,yP,zh,zf _ i t.v.length hlt,wh,hx,zC,hw _ (zCW hlt),zAC,yU,yI (i:=i) (by omega)]
theorem zph : ∀ t:Tree,depth t<=vk t:=by
 intro t;induction t using Tree.ind with
 | h t ih=>
  rw[Qc,qb];have : ∀ l:List Tree,(∀ x,x∈l->depth x<=vk x)->depthL l<=nodesL l:=by
   intro l;induction l with
   | nil=>intro _;simp[depthL]
   | cons y r ihr=>intro h;have h1:=h y zCO;have h2:=ihr (fun x hx=>h x (zP _ hx));rw[depthL,nodesL];omega
  have:=this t.v ih;omega
theorem zmk : ∀ t:Tree,vk t<=1000000000->P0 v7 [.v t.val] []=some (.int .i64 (depth t:Nat),[]):=by
 intro t;induction t using Tree.ind with
 | h t ih=>
  intro hw;have hdn:=zph t;rw[qb]at hw;have hlen:=zho t.v;have hloop:=zrI t (by omega) (fun x hx=>ih x hx (by have:=zmw hx;omega)) t.v.length 0 0 (by omega);rw[zU,show((0:Nat):Int)=0 from rfl,Nat.zero_max]at hloop;rw[Qc,qb]at hdn;have wd:IntKind.i64.wrap (1+((depthL t.v:Nat):Int))=((depth t:Nat):Int):=by rw[w64 (a:=1+((depthL t.v:Nat):Int)) (by omega),Qc];omega
  rw[zkL];unfold zdL;simp only[xf,zj,zp,xw,zb,zh,hloop,z5,yU,wd]
end
section
attribute [local irreducible] P0
theorem zek{t:Tree}(h:t.k=[]):k0 t=true:=by unfold k0;rw[h];rfl
theorem zjW{t:Tree}(h:t.v=[]):v0 t=true:=by unfold v0;rw[h];rfl
theorem ztw{s:Str}(h:(dec8 s).isSome=true)(hl:s.length<=2000):JD s=true:=by unfold JD;rw[zCp hl,ztG h];rfl
theorem zAu{l:List Str}(hs:Srt l)(hn : ∀ x,x∈l->(dec8 x).isSome=true/\x.length<=2000)(hl:l.length<=300):zur l:=
 ⟨fun k hk _=>⟨ztw (hn _ (zCW hk)).1 (hn _ (zCW hk)).2,fun h0=>zAR hs (k-1) k hk (by omega)⟩,hl⟩
theorem zzM{t:Tree}(h:t.kind=1):ownB t=(!t.b&&WE t.n&&decide (t.s=[])&&k0 t&&v0 t):=zCk h
theorem zzS{t:Tree}(h:t.kind=2):ownB t=(true&&WE t.n&&decide (t.s=[])&&k0 t&&v0 t):=(zCj (by omega)).trans (zCk h)
theorem zzL{t:Tree}(h:t.kind=3):ownB t=(!t.b&&nokB t.n&&decide (t.s=[])&&k0 t&&v0 t):=(zCj (by omega)).trans ((zCj (by omega)).trans (zCk h))
theorem zzN{t:Tree}(h:t.kind=4):ownB t=(!t.b&&WE t.n&&JD t.s&&k0 t&&v0 t):=(zCj (by omega)).trans ((zCj (by omega)).trans ((zCj (by omega)).trans (zCk h)))
theorem zzY{t:Tree}(h:t.kind=5):ownB t=(!t.b&&WE t.n&&decide (t.s.length<=2000)&&k0 t&&v0 t):=(zCj (by omega)).trans ((zCj (by omega)).trans ((zCj (by omega)).trans ((zCj (by omega)).trans (zCk h))))
theorem zzP{t:Tree}(h:t.kind=7):ownB t=(!t.b&&WE t.n&&decide (t.s=[])&&(zgT t.k&&decide (t.k.length=t.v.length))&&decide (t.v.length<=300)):=(zCj (by omega)).trans ((zCj (by omega)).trans ((zCj (by omega)).trans ((zCj (by omega)).trans ((zCj (by omega)).trans (zCk h)))))
theorem zzQ{t:Tree}(h:t.kind=6):ownB t=(!t.b&&WE t.n&&decide (t.s=[])&&k0 t&&decide (t.v.length<=300)):=(zCj (by omega)).trans ((zCj (by omega)).trans ((zCj (by omega)).trans ((zCj (by omega)).trans ((zCj (by omega)).trans ((zCj (by omega)).trans (zCk h))))))
theorem OkT.ownB{t:Tree}(h:OkT t):ownB t=true:=by
 cases h with
 | null=>rw[zzM rfl,zek rfl,zjW rfl];rfl
 | bool b=>rw[zzS rfl,zek rfl,zjW rfl];rfl
 | num n hn=>rw[zzL rfl,zek rfl,zjW rfl,show nokB (Tree.mk 3 false n [] [] []).n=true from hn.nokB];rfl
 | text s hs hl=>rw[zzN rfl,zek rfl,zjW rfl,show JD (Tree.mk 4 false .zero s [] []).s=true from ztw hs hl];rfl
 | bytes s hl=>rw[zzY rfl,zek rfl,zjW rfl,zCp (show(Tree.mk 5 false .zero s [] []).s.length<=2000 from hl)];rfl
 | arr v hl hv=>rw[zzQ rfl,zek rfl,zCp (show(Tree.mk 6 false .zero [] [] v).v.length<=300 from hl)];rfl
 | obj l hs hl hn hv=>have e1:zgT (Ev.obj l).k=true:=(zdX _).2 (zAu (l:=names l) hs hn (by rw[jc];exact hl));have e2:decide ((Ev.obj l).k.length=(Ev.obj l).v.length)=true:=zCp (by show(names l).length=(zz l).length;rw[jc,wz]);have e3:decide ((Ev.obj l).v.length<=300)=true:=zCp (by show(zz l).length<=300;rw[wz];exact hl);rw[zzP rfl,e1,e2,e3];rfl
theorem OkT.okG{t:Tree}:OkT t->OkG t:=by
 induction t using Tree.ind with
 | h t ih=>exact fun h => .mk t h.ownB (fun x hx=>ih x hx (h.sub x hx))
theorem OkT.tame{t:Tree}:OkT t->TameT t:=by
 induction t using Tree.ind with
 | h t ih=>exact fun h => .mk t ⟨(zxy h.num_ok).1,by have:=(zxy h.num_ok).2.2;omega,by have:=h.lens.1;omega⟩ (fun x hx=>ih x hx (h.sub x hx))
theorem zpB{t:Tree}(h:OkT t)(hd:depth t<=64)(hn:vk t<=2000):P0 wC [.v t.val] []=some (.bool true,[]):=by obtain⟨b,h1,h2⟩:=zvs t h.tame;rw[h1,h2.2 ⟨h.okG,hd,hn⟩]
end
section
attribute [local irreducible] P0
theorem zah(a b:Nat):(((a:Nat):Int) != ((b:Nat):Int)) = !decide (a=b):=by
 by_cases h:a=b
 ·subst h;simp
 ·have : ¬ ((a:Int)=(b:Int)):=by omega
  simp[h,bne,this]
theorem zv8(a b:List Str)(hl:a.length=b.length)(hb:a.length<=1000000)(k:Nat) : ∀ i,i+k=a.length ->
  (a.drop i=b.drop i->zq (yD a.length (.sl (strs a)) (.sl (strs b))) (vec [.int .i64 (i:Int)])=some (0,vec []))/\(a.drop i≠b.drop i->zq (yD a.length (.sl (strs a)) (.sl (strs b))) (vec [.int .i64 (i:Int)])=some (1,vec [.bool false])):=by
 induction k with
 | zero=>
  intro i hi;have e1:a.drop i=[]:=zQ (by omega);have e2:b.drop i=[]:=zQ (by omega);refine⟨fun _=>zg ?_,fun h=>absurd (e1.trans e2.symm) h⟩;unfold yD;have c1 : ¬ (i:Int)<(a.length:Int):=by omega
  simp only[qq,xQ,c1,zCo]
 | succ k ih=>
  intro i hi;have h1:i<a.length:=by omega
  have h2:i<b.length:=by omega
  have c1:(i:Int)<(a.length:Int):=by omega
  have hx:a[i]?=some a[i]:=zL h1;have hy:b[i]?=some b[i]:=zL h2;have hd:a.drop i=b.drop i↔a[i]=b[i]/\a.drop (i+1)=b.drop (i+1):=by rw[zO h1,zO h2];exact List.cons_eq_cons
  by_cases he:a[i]=b[i]
  ·have heb:(b[i]==b[i])=true:=by simp
   have step:zq (yD a.length (.sl (strs a)) (.sl (strs b))) (vec [.int .i64 (i:Int)])=zq (yD a.length (.sl (strs a)) (.sl (strs b))) (vec [.int .i64 ((i+1:Nat):Int)]):=by apply zn;unfold yD;simp only[qq,xQ,c1,zCn,zCl,zy,zd,zf _ i a.length h1,zf _ i b.length h2,yk,hx,hy,zC,yd,zfu,he,heb,zH,yU,yI (i:=i) (by omega)]
   rw[step];obtain⟨q1,q2⟩:=ih (i+1) (by omega);exact⟨fun h=>q1 (hd.1 h).2,fun h=>q2 (fun e=>h (hd.2 ⟨he,e⟩))⟩
  ·refine⟨fun h=>absurd (hd.1 h).1 he,fun _=>zg ?_⟩;have heb:(a[i]==b[i])=false:=by simpa using he
   unfold yD;simp only[xf,qq,c1,zCn,ze,zCl,zy,zd,zf _ i a.length h1,zf _ i b.length h2,yk,hx,hy,zC,yd,zfu,heb,zI]
theorem seq_ok(a b:List Str)(hb:a.length<=1000000):P0 yT [.v (.sl (strs a)),.v (.sl (strs b))] []=some (.bool (decide (a=b)),[]):=by
 rw[Jr];unfold ZU;by_cases hl:a.length=b.length
 ·have h:=zv8 a b hl hb a.length 0 (by omega);rw[zU,zU,show((0:Nat):Int)=0 from rfl]at h;have hn:(((a.length:Nat):Int) != ((b.length:Nat):Int))=false:=by rw[zah,zCp hl];rfl
  by_cases he:a=b
  ·simp only[xf,zb,zd,hn,zF,zCm,h.1 he,zCl,zCp he]
  ·simp only[xf,zb,zd,hn,zF,zCm,h.2 he,zCC,z5,zCq he]
 ·have he:a≠b:=fun e=>hl (by rw[e])
  have hn:(((a.length:Nat):Int) != ((b.length:Nat):Int))=true:=by rw[zah,zCq hl];rfl
  simp only[xf,zb,zd,hn,zCl,zCq he]
theorem zyj(a b:List Nat)(hl:a.length=b.length)(hb:a.length<=1000000)(k:Nat) : ∀ i,i+k=a.length ->
  (a.drop i=b.drop i->zq (yC a.length (.sl (zu a)) (.sl (zu b))) (vec [.int .i64 (i:Int)])=some (0,vec []))/\(a.drop i≠b.drop i->zq (yC a.length (.sl (zu a)) (.sl (zu b))) (vec [.int .i64 (i:Int)])=some (1,vec [.bool false])):=by
 induction k with
 | zero=>
  intro i hi;have e1:a.drop i=[]:=zQ (by omega);have e2:b.drop i=[]:=zQ (by omega);refine⟨fun _=>zg ?_,fun h=>absurd (e1.trans e2.symm) h⟩;unfold yC;have c1 : ¬ (i:Int)<(a.length:Int):=by omega
  simp only[qq,xQ,c1,zCo]
 | succ k ih=>
  intro i hi;have h1:i<a.length:=by omega
  have h2:i<b.length:=by omega
  have c1:(i:Int)<(a.length:Int):=by omega
  have hx:a[i]?=some a[i]:=zL h1;have hy:b[i]?=some b[i]:=zL h2;have hd:a.drop i=b.drop i↔a[i]=b[i]/\a.drop (i+1)=b.drop (i+1):=by rw[zO h1,zO h2];exact List.cons_eq_cons
  by_cases he:a[i]=b[i]
  ·have heb:decide ((a[i]:Int)=(b[i]:Int))=true:=zCp (by omega);have step:zq (yC a.length (.sl (zu a)) (.sl (zu b))) (vec [.int .i64 (i:Int)])=zq (yC a.length (.sl (zu a)) (.sl (zu b))) (vec [.int .i64 ((i+1:Nat):Int)]):=by apply zn;unfold yC;simp only[qq,xQ,c1,zCn,zCl,wS,yj,zf _ i a.length h1,zf _ i b.length h2,ji,hx,hy,zC,xO,vQ,heb,zH,yU,yI (i:=i) (by omega)]
   rw[step];obtain⟨q1,q2⟩:=ih (i+1) (by omega);exact⟨fun h=>q1 (hd.1 h).2,fun h=>q2 (fun e=>h (hd.2 ⟨he,e⟩))⟩
  ·refine⟨fun h=>absurd (hd.1 h).1 he,fun _=>zg ?_⟩;have heb:decide ((a[i]:Int)=(b[i]:Int))=false:=zCq (by omega);unfold yC;simp only[xf,qq,c1,zCn,ze,zCl,wS,yj,zf _ i a.length h1,zf _ i b.length h2,ji,hx,hy,zC,xO,vQ,heb,zI]
theorem zz7(a b:List Nat)(hb:a.length<=1000000):P0 xD [.v (.sl (zu a)),.v (.sl (zu b))] []=some (.bool (decide (a=b)),[]):=by
 rw[Ji];unfold Z0;by_cases hl:a.length=b.length
 ·have h:=zyj a b hl hb a.length 0 (by omega);rw[zU,zU,show((0:Nat):Int)=0 from rfl]at h;have hn:(((a.length:Nat):Int) != ((b.length:Nat):Int))=false:=by rw[zah,zCp hl];rfl
  by_cases he:a=b
  ·simp only[xf,zb,yj,hn,zF,zCm,h.1 he,zCl,zCp he]
  ·simp only[xf,zb,yj,hn,zF,zCm,h.2 he,zCC,z5,zCq he]
 ·have he:a≠b:=fun e=>hl (by rw[e])
  have hn:(((a.length:Nat):Int) != ((b.length:Nat):Int))=true:=by rw[zah,zCq hl];rfl
  simp only[xf,zb,yj,hn,zCl,zCq he]
theorem zpx{n:Nm}(h:nokB n=true):n.m.length<=90:=by
 unfold nokB at h;split at h
 ·next h0=>rw[h0];simp
 ·rw[zCR]at h;exact h.1
theorem ze4(n:Nm)(hu:U32 n.m)(h:nokB n=true):P0 X9 [.v n.val] []=some (n.val,[]):=by have hl:=zpx h;rw[zvl];unfold zoH;simp only[xQ,VO,zp,zhx n hu (by omega),h,yE,zH]
theorem zuN(a b:Nm)(ha:U32 a.m)(hb:U32 b.m)(h1:nokB a=true)(h2:nokB b=true):P0 Yi [.v a.val,.v b.val] []=some (.bool (decide (a=b)),[]):=by
 have hl:=zpx h1;rw[zpU];unfold zjG;have he:=zz7 a.m b.m (by omega);by_cases e1:a.neg=b.neg
 ·by_cases e2:a.e=b.e
  ·have d:decide (a.m=b.m)=decide (a=b):=by
    by_cases q:a.m=b.m
    ·rw[zCp q,zCp (show a=b by cases a;cases b;simp_all)]
    ·rw[zCq q,zCq (fun e=>q (by rw[e]))]
   simp only[xf,VO,zp,ze4 a ha h1,ze4 b hb h2,Qv,Ju,Jj,ze,e1,zCB,zCl,zv,e2,zCn,he,d]
  ·have d:decide (a=b)=false:=zCq (fun e=>e2 (by rw[e]));simp only[xQ,VO,zp,ze4 a ha h1,ze4 b hb h2,Qv,Ju,Jj,e1,zCB,zCl,zv,e2,zCo,d]
 ·have d:decide (a=b)=false:=zCq (fun e=>e1 (by rw[e]));have eb:(a.neg==b.neg)=false:=by rw[beq_eq_false_iff_ne];exact e1
  simp only[xQ,VO,zp,ze4 a ha h1,ze4 b hb h2,Qv,Ju,Jj,eb,d]
theorem zxT(a b:List Tree)(hl:a.length=b.length)(hb:a.length<=1000000)(f:Nat)(hf:Nat.blt f vo=true)(hs : ∀ i (h:i<a.length) (h2:i<b.length),∃ r,P0 f [.v a[i].val,.v b[i].val] []=some (.bool r,[])/\(r=true↔a[i]=b[i]))(k:Nat) : ∀ i,i+k=a.length ->
  (a.drop i=b.drop i->zq (yF a.length (.sl (trs a)) (.sl (trs b)) f) (vec [.int .i64 (i:Int)])=some (0,vec []))/\(a.drop i≠b.drop i->zq (yF a.length (.sl (trs a)) (.sl (trs b)) f) (vec [.int .i64 (i:Int)])=some (1,vec [.bool false])):=by
 induction k with
 | zero=>
  intro i hi;have e1:a.drop i=[]:=zQ (by omega);have e2:b.drop i=[]:=zQ (by omega);refine⟨fun _=>zg ?_,fun h=>absurd (e1.trans e2.symm) h⟩;unfold yF;have c1 : ¬ (i:Int)<(a.length:Int):=by omega
  simp only[qq,xQ,c1,zCo]
 | succ k ih=>
  intro i hi;have h1:i<a.length:=by omega
  have h2:i<b.length:=by omega
  have c1:(i:Int)<(a.length:Int):=by omega
  have hx:a[i]?=some a[i]:=zL h1;have hy:b[i]?=some b[i]:=zL h2;obtain⟨r,hr1,hr2⟩:=hs i h1 h2;have hd:a.drop i=b.drop i↔a[i]=b[i]/\a.drop (i+1)=b.drop (i+1):=by rw[zO h1,zO h2];exact List.cons_eq_cons
  cases r with
  | true=>
   have he:=hr2.1 rfl;have step:zq (yF a.length (.sl (trs a)) (.sl (trs b)) f) (vec [.int .i64 (i:Int)])=zq (yF a.length (.sl (trs a)) (.sl (trs b)) f) (vec [.int .i64 ((i+1:Nat):Int)]):=by apply zn;unfold yF;simp only[qq,ku,xQ,c1,yP,zh,zf _ i a.length h1,zf _ i b.length h2,wh,hx,hy,zC,hf,hr1,yE,zH,yU,yI (i:=i) (by omega)]
   rw[step];obtain⟨q1,q2⟩:=ih (i+1) (by omega);exact⟨fun h=>q1 (hd.1 h).2,fun h=>q2 (fun e=>h (hd.2 ⟨he,e⟩))⟩
  | false=>
   have he:a[i]≠b[i]:=fun e=>by have:=hr2.2 e;contradiction
   refine⟨fun h=>absurd (hd.1 h).1 he,fun _=>zg ?_⟩;unfold yF;simp only[xf,qq,ku,c1,ze,yP,zh,zf _ i a.length h1,zf _ i b.length h2,wh,hx,hy,zC,hf,hr1,yE,zI]
theorem zAw(a b:List Tree)(hb:a.length<=1000000)(f:Nat)(hf:Nat.blt f vo=true)(hs : ∀ i (h:i<a.length) (h2:i<b.length),∃ r,P0 f [.v a[i].val,.v b[i].val] []=some (.bool r,[])/\(r=true↔a[i]=b[i])) :
  ∃ r,P0 xd [.v (.sl (trs a)),.v (.sl (trs b)),.fn f []] []=some (.bool r,[])/\(r=true↔a=b):=by
 rw[Q1];unfold Z6;by_cases hl:a.length=b.length
 ·have h:=zxT a b hl hb f hf hs a.length 0 (by omega);rw[zU,zU,show((0:Nat):Int)=0 from rfl]at h;have hn:(((a.length:Nat):Int) != ((b.length:Nat):Int))=false:=by rw[zah,zCp hl];rfl
  by_cases he:a=b
  ·exact⟨true,by simp only[xf,zb,zh,hn,zF,zCm,h.1 he,zCl],fun _=>he,fun _=>rfl⟩
  ·exact⟨false,by simp only[xf,zb,zh,hn,zF,zCm,h.2 he,zCC,z5],fun q=>by contradiction,fun q=>absurd q he⟩
 ·have he:a≠b:=fun e=>hl (by rw[e])
  have hn:(((a.length:Nat):Int) != ((b.length:Nat):Int))=true:=by rw[zah,zCq hl];rfl
  exact⟨false,by simp only[xf,zb,zh,hn,zCl],fun q=>by contradiction,fun q=>absurd q he⟩
theorem zat{n:Nm}(h:WE n=true):n = .zero:=by unfold WE at h;simp only[zG,Bool.not_eq_true',zCR]at h;obtain⟨⟨h1,h2⟩,h3⟩:=h;cases n;simp_all [Nm.zero]
theorem zlD{t:Tree}(h:k0 t=true):t.k=[]:=by unfold k0 at h;have:=eq_of_beq h;exact List.eq_nil_of_length_eq_zero (by omega)
theorem zqp{t:Tree}(h:v0 t=true):t.v=[]:=by unfold v0 at h;have:=eq_of_beq h;exact List.eq_nil_of_length_eq_zero (by omega)
theorem Tree.eta(t:Tree):t = .mk t.kind t.b t.n t.s t.k t.v:=by cases t;rfl
theorem zwY{t:Tree}(h:ownB t=true):t.kind=1\/t.kind=2\/t.kind=3\/t.kind=4\/t.kind=5\/t.kind=6\/t.kind=7:=by
 unfold ownB at h
 repeat' (split at h)
 all_goals first
  | contradiction
  | omega
theorem zlg{t:Tree}(h:ownB t=true) :
  (t.kind=1->t = .mk 1 false .zero [] [] [])/\(t.kind=2->t = .mk 2 t.b .zero [] [] [])/\(t.kind=3->t = .mk 3 false t.n [] [] []/\nokB t.n=true)/\(t.kind=4->t = .mk 4 false .zero t.s [] [])/\(t.kind=5->t = .mk 5 false .zero t.s [] []) /\
  (t.kind=6->t = .mk 6 false .zero [] [] t.v)/\(t.kind=7->t = .mk 7 false .zero [] t.k t.v/\zur t.k/\t.k.length=t.v.length):=by
 refine⟨fun hk => ?_,fun hk => ?_,fun hk => ?_,fun hk => ?_,fun hk => ?_,fun hk => ?_,fun hk => ?_⟩
 ·rw[zzM hk]at h;simp only[zG,Bool.not_eq_true',zCR]at h;obtain⟨⟨⟨⟨h1,h2⟩,h3⟩,h4⟩,h5⟩:=h;have e:=t.eta;rw[hk,h1,zat h2,h3,zlD h4,zqp h5]at e;exact e
 ·rw[zzS hk]at h;simp only[zG,Bool.not_eq_true',zCR,Bool.true_and]at h;obtain⟨⟨⟨h2,h3⟩,h4⟩,h5⟩:=h;have e:=t.eta;rw[hk,zat h2,h3,zlD h4,zqp h5]at e;exact e
 ·rw[zzL hk]at h;simp only[zG,Bool.not_eq_true',zCR]at h;obtain⟨⟨⟨⟨h1,h2⟩,h3⟩,h4⟩,h5⟩:=h;have e:=t.eta;rw[hk,h1,h3,zlD h4,zqp h5]at e;exact⟨e,h2⟩
 ·rw[zzN hk]at h;simp only[zG,Bool.not_eq_true',zCR]at h;obtain⟨⟨⟨⟨h1,h2⟩,h3⟩,h4⟩,h5⟩:=h;have e:=t.eta;rw[hk,h1,zat h2,zlD h4,zqp h5]at e;exact e
 ·rw[zzY hk]at h;simp only[zG,Bool.not_eq_true',zCR]at h;obtain⟨⟨⟨⟨h1,h2⟩,h3⟩,h4⟩,h5⟩:=h;have e:=t.eta;rw[hk,h1,zat h2,zlD h4,zqp h5]at e;exact e
 ·rw[zzQ hk]at h;simp only[zG,Bool.not_eq_true',zCR]at h;obtain⟨⟨⟨⟨h1,h2⟩,h3⟩,h4⟩,h5⟩:=h;have e:=t.eta;rw[hk,h1,zat h2,h3,zlD h4]at e;exact e
 ·rw[zzP hk]at h;simp only[zG,Bool.not_eq_true',zCR]at h;obtain⟨⟨⟨⟨h1,h2⟩,h3⟩,h4,h4'⟩,h5⟩:=h;have e:=t.eta;rw[hk,h1,zat h2,h3]at e;exact⟨e,(zdX _).1 h4,h4'⟩
theorem TameT.tame{t:Tree}(h:TameT t):zAe t:=by cases h;assumption
theorem TameT.sub{t:Tree}(h:TameT t) : ∀ x,x∈t.v->TameT x:=by cases h;assumption
theorem zvZ : ∀ a,OkG a->TameT a -> ∀ b,OkG b->TameT b -> ∃ r,P0 wc [.v a.val,.v b.val] []=some (.bool r,[])/\(r=true↔a=b):=by
 intro a;induction a using Tree.ind with
 | h a ih=>
 intro ha ta b hb tb;rw[znd];unfold zfL;by_cases hk:a.kind=b.kind
 ·obtain⟨a1,a2,a3,a4,a5,a6,a7⟩:=zlg ha.own;obtain⟨b1,b2,b3,b4,b5,b6,b7⟩:=zlg hb.own;have hva:=zs4 ha.own;have z4:((4:Nat)=0)=False:=by decide
  have z41:((4-1:Nat)=0)=False:=by decide
  have z411:((4-1-1:Nat)=0)=False:=by decide
  have z4111:((4-1-1-1:Nat)=0)=False:=by decide
  have z3:((3:Nat)=0)=False:=by decide
  have z31:((3-1:Nat)=0)=False:=by decide
  have z311:((3-1-1:Nat)=0)=False:=by decide
  have z3111:((3-1-1-1:Nat)=0)=True:=by decide
  have z2:((2:Nat)=0)=False:=by decide
  have z21:((2-1:Nat)=0)=False:=by decide
  have z211:((2-1-1:Nat)=0)=True:=by decide
  have z11:((1-1:Nat)=0)=True:=by decide
  obtain⟨rv,hv1,hv2⟩:=zAw a.v b.v (by omega) wc rfl (fun i h1 h2=>ih _ (zCW h1) (ha.sub _ (zCW h1)) (ta.sub _ (zCW h1)) _ (hb.sub _ (zCW h2)) (tb.sub _ (zCW h2)));rcases zwY ha.own with h | h | h | h | h | h | h
  ·refine⟨true,?_,fun _ => ?_,fun _=>rfl⟩
   ·simp only[ku,xQ,xk,vQ,h,(hk▸h:b.kind=_),zH,zv,Int.reduceEq,zCo]
   ·rw[a1 h,b1 (hk▸h)]
  ·refine⟨a.b==b.b,?_,?_⟩
   ·simp only[ku,xQ,xk,Q4,vQ,h,(hk▸h:b.kind=_),zH,zv,Int.reduceEq,zCo,z4,z41,z411,z4111,z5]
   ·rw[beq_iff_eq];constructor
    ·intro e;rw[a2 h,b2 (hk▸h),e]
    ·intro e;rw[e]
  ·obtain⟨a3',an⟩:=a3 h;obtain⟨b3',bn⟩:=b3 (hk▸h);refine⟨decide (a.n=b.n),?_,?_⟩
   ·simp only[ku,xQ,xk,vQ,h,(hk▸h:b.kind=_),zH,zv,Int.reduceEq,zCo,zgX,zuN a.n b.n ta.tame.1 tb.tame.1 an bn,z4,z41,z411,z4111,z5]
   ·rw[zCR];constructor
    ·intro e;rw[a3',b3',e]
    ·intro e;rw[e]
  ·refine⟨a.s==b.s,?_,?_⟩
   ·simp only[ku,xQ,xk,Wa,vQ,h,(hk▸h:b.kind=_),zH,zv,Int.reduceEq,zCo,z3,z31,z311,z3111,qf]
   ·rw[beq_iff_eq];constructor
    ·intro e;rw[a4 h,b4 (hk▸h),e]
    ·intro e;rw[e]
  ·refine⟨a.s==b.s,?_,?_⟩
   ·simp only[ku,xQ,xk,Wa,vQ,h,(hk▸h:b.kind=_),zH,zv,Int.reduceEq,zCo,z3,z31,z311,z3111,qf]
   ·rw[beq_iff_eq];constructor
    ·intro e;rw[a5 h,b5 (hk▸h),e]
    ·intro e;rw[e]
  ·refine⟨rv,?_,?_⟩
   ·simp only[ku,xQ,xk,xw,vQ,h,(hk▸h:b.kind=_),zH,zv,Int.reduceEq,zCo,z2,z21,z211,hv1]
   ·rw[hv2];constructor
    ·intro e;rw[a6 h,b6 (hk▸h),e]
    ·intro e;rw[e]
  ·obtain⟨a7',an,al⟩:=a7 h;obtain⟨b7',bn,bl⟩:=b7 (hk▸h);have hks:=seq_ok a.k b.k (by have:=an.2;omega);by_cases q:a.k=b.k
   ·rw[zCp q]at hks;refine⟨rv,?_,?_⟩
    ·simp only[ku,xQ,xk,qp,xw,vQ,h,(hk▸h:b.kind=_),zH,zv,Int.reduceEq,zCo,zCC,z11,hks,hv1]
    ·rw[hv2];constructor
     ·intro e;rw[a7',b7',q,e]
     ·intro e;rw[e]
   ·rw[zCq q]at hks;refine⟨false,?_,fun e=>by contradiction,fun e=>absurd (by rw[e]) q⟩;simp only[ku,xQ,xk,qp,xw,vQ,h,(hk▸h:b.kind=_),zH,zv,Int.reduceEq,zCo,zCC,z11,hks]
 ·refine⟨false,?_,fun e=>by contradiction,fun e=>absurd (congrArg Tree.kind e) hk⟩;simp only[xf,zj,zp,xk,vQ,hk,zCo,zI,ze,zCl]
end
section
attribute [local irreducible] P0
section
variable {P:Program} {tt ti tb tn ts tk tv tl te:TypeId} {fs fn:Array Field}
end
end
section
attribute [local irreducible] P0
theorem zdz(a b:Nat):decide ((a:Int)<(b:Int))=decide (a<b):=by
 by_cases h:a<b
 ·rw[zCp h,zCp (by omega)]
 ·rw[zCq h,zCq (by omega)]
theorem zxa{b:UInt8}(h:48<=b.toNat):IntKind.u8.wrap ((b.toNat:Int)-48)=((b.toNat-48:Nat):Int):=by have hb:b.toNat<256:=b.toNat_lt;rw[IntWalk.u8_in ((b.toNat:Int)-48) (by omega)];omega
theorem zad{a:Int}(n:Nat)(h:a=n)(hn:n<=1000000000):IntKind.i64.wrap a=(n:Int):=by subst h;exact w64 (by omega)
theorem zvy(s:Str)(hl:s.length<=4)(k:Nat) : ∀ (i n:Nat),i+k=s.length->n<10^i ->
  zq (xA s.length (.str s)) (vec [.int .i64 (n:Int),.int .i64 (i:Int)])=match dig n (s.drop i)with | some m=>some (0,vec [.int .i64 (m:Int)]) | none=>some (1,vec [.int .i64 0,.bool false]):=by
 induction k with
 | zero=>
  intro i n hi hn;rw[zQ (by omega)];simp only[dig];apply zg;unfold xA;have c1 : ¬ (i:Int)<(s.length:Int):=by omega
  simp only[qq,xQ,zr,c1,zCo]
 | succ k ih=>
  intro i n hi hn;have hlt:i<s.length:=by omega
  have c1:(i:Int)<(s.length:Int):=by omega
  have hx:s[i]?=some s[i]:=zL hlt;have hn2:n<=10000:=zCA (Nat.le_of_lt hn) (zCA (Nat.pow_le_pow_right (by decide) (show i<=4 by omega)) (by decide));rw[zO hlt];have hb:s[i].toNat<256:=s[i].toNat_lt;by_cases h1:s[i].toNat<48
  ·simp only[dig,h1,true_or,zCl];apply zg;unfold xA;have d:((s[i].toNat:Nat):Int)<48:=by omega
   simp only[xf,qq,zr,c1,zCn,ze,zCl,XF s .i64 i _ hx,d,zX,zCm]
  have d : ¬ ((s[i].toNat:Nat):Int)<48:=by omega
  by_cases h2:57<s[i].toNat
  ·simp only[dig,h2,or_true,zCl];apply zg;unfold xA;have e:(57:Int)<((s[i].toNat:Nat):Int):=by omega
   simp only[xf,qq,zr,Zy,c1,zCn,zCo,ze,zCl,XF s .i64 i _ hx,d,e]
  ·have e : ¬ (57:Int)<((s[i].toNat:Nat):Int):=by omega
   have hd:dig n (s[i]::s.drop (i+1))=dig (10*n+(s[i].toNat-48)) (s.drop (i+1)):=by simp only[dig,h1,h2,or_self,zCm]
   rw[hd,<- ih (i+1) (10*n+(s[i].toNat-48)) (by omega) (by rw[Nat.pow_succ];omega)];apply zn;unfold xA;have w1:IntKind.i64.wrap (10*(n:Int))=((10*n:Nat):Int):=zad _ (by omega) (by omega);have w2:IntKind.i64.wrap (((s[i].toNat-48:Nat):Int))=((s[i].toNat-48:Nat):Int):=zad _ rfl (by omega);have w3:IntKind.i64.wrap (((10*n:Nat):Int)+((s[i].toNat-48:Nat):Int))=((10*n+(s[i].toNat-48):Nat):Int):=zad _ (by omega) (by omega);simp only[wB,z5,zr,v8,Zy,c1,zCn,zCo,zm,ze,zCl,XF s .i64 i _ hx,d,e,zF,zCm,ztA,ZF,kA,yU,zxa (b:=s[i]) (by omega),w1,w2,w3,yI (i:=i) (by omega)]
theorem zuP(s:Str)(hl:s.length<=4)(k:Nat) : ∀ (i n:Nat),i+k=s.length->n<10^i ->
  zq (xZ (.str s)) (vec [.int .i64 (n:Int),.int .i64 (i:Int)])=match dig n (s.drop i)with | some m=>some (0,vec [.int .i64 (m:Int)]) | none=>some (1,vec [.int .i64 0,.bool false]):=by
 induction k with
 | zero=>
  intro i n hi hn;rw[zQ (by omega)];simp only[dig];apply zg;unfold xZ;have c1 : ¬ (i:Int)<(s.length:Int):=by omega
  simp only[qq,xQ,vr,zr,c1,zCo]
 | succ k ih=>
  intro i n hi hn;have hlt:i<s.length:=by omega
  have c1:(i:Int)<(s.length:Int):=by omega
  have hx:s[i]?=some s[i]:=zL hlt;have hn2:n<=10000:=zCA (Nat.le_of_lt hn) (zCA (Nat.pow_le_pow_right (by decide) (show i<=4 by omega)) (by decide));rw[zO hlt];have hb:s[i].toNat<256:=s[i].toNat_lt;by_cases h1:s[i].toNat<48
  ·simp only[dig,h1,true_or,zCl];apply zg;unfold xZ;have d:((s[i].toNat:Nat):Int)<48:=by omega
   simp only[xf,qq,vr,zr,c1,zCn,ze,zCl,XF s .i64 i _ hx,d,zX,zCm]
  have d : ¬ ((s[i].toNat:Nat):Int)<48:=by omega
  by_cases h2:57<s[i].toNat
  ·simp only[dig,h2,or_true,zCl];apply zg;unfold xZ;have e:(57:Int)<((s[i].toNat:Nat):Int):=by omega
   simp only[xf,qq,vr,zr,Zy,c1,zCn,zCo,ze,zCl,XF s .i64 i _ hx,d,e]
  ·have e : ¬ (57:Int)<((s[i].toNat:Nat):Int):=by omega
   have hd:dig n (s[i]::s.drop (i+1))=dig (10*n+(s[i].toNat-48)) (s.drop (i+1)):=by simp only[dig,h1,h2,or_self,zCm]
   rw[hd,<- ih (i+1) (10*n+(s[i].toNat-48)) (by omega) (by rw[Nat.pow_succ];omega)];apply zn;unfold xZ;have w1:IntKind.i64.wrap (10*(n:Int))=((10*n:Nat):Int):=zad _ (by omega) (by omega);have w2:IntKind.i64.wrap (((s[i].toNat-48:Nat):Int))=((s[i].toNat-48:Nat):Int):=zad _ rfl (by omega);have w3:IntKind.i64.wrap (((10*n:Nat):Int)+((s[i].toNat-48:Nat):Int))=((10*n+(s[i].toNat-48):Nat):Int):=zad _ (by omega) (by omega);simp only[wB,vr,z5,zr,v8,Zy,c1,zCn,zCo,zm,ze,zCl,XF s .i64 i _ hx,d,e,zF,zCm,ztA,ZF,kA,yU,zxa (b:=s[i]) (by omega),w1,w2,w3,yI (i:=i) (by omega)]
def zaY(o:Option Nat):V:=match o with
 | some n => .tup [.int .i64 (n:Int),.bool true]
 | none => .tup [.int .i64 0,.bool false]
theorem zg1(s:Str)(most:Int):P0 xj [.v (.str s),.v (.int .i64 most)] []=some (zaY (ql s most),[]):=by
 rw[zeS];unfold Jz;have e0:(s==([]:Str))=decide (s=[]):=zmW s;cases s with
 | nil=>simp only[xf,qf,e0,zCn,ze,zX,zCm,zCl];rfl
 | cons b r=>
 have hne:decide ((b::r)=([]:Str))=false:=zCq (by simp);have hx:(b::r)[0]?=some b:=rfl;have hx0:ZQ (.str (b::r)) (.int .i64 0)=some (.int .u8 (b.toNat:Int)):=XF (b::r) .i64 0 b hx;have d4:decide (((((b::r).length:Nat):Int))>4)=decide (4<(b::r).length):=zdz 4 _;have d1:decide (((((b::r).length:Nat):Int))>1)=decide (1<(b::r).length):=zdz 1 _;by_cases h4:4<(b::r).length
 ·have hN:ql (b::r) most=none:=by unfold ql zgW;rw[zCk (.inr (.inl h4))];rfl
  rw[hN];simp only[xf,qf,e0,hne,ze,vr,d4,zCp h4,zX,zCm,zCl];rfl
 have e48:decide ((b.toNat:Int)=48)=decide (b=48):=by
  by_cases hb:b=48
  ·subst hb;rfl
  ·rw[zCq hb,zCq];intro h;exact hb (UInt8.toNat_inj.1 (by show b.toNat=48;omega))
 by_cases hz:b=48/\1<(b::r).length
 ·have hN:ql (b::r) most=none:=by unfold ql zgW;rw[zCk (.inr (.inr hz))];rfl
  rw[hN];simp only[xf,qf,e0,hne,ze,vr,d4,d1,zCq h4,zCl,hx0,zv,e48,zCp hz.1,zCp hz.2,zX,zCm];rfl
 have hN:zgW (b::r)=dig 0 (b::r):=by
  unfold zgW;rw[zCj];rintro(h | h | h)
  ·simp at h
  ·exact h4 h
  ·exact hz h
 have hl:=zvy (b::r) (by omega) (b::r).length 0 0 (by omega) (by decide);rw[zU,<- hN]at hl;have hl:zq (xA (b::r).length (.str (b::r))) (vec [.int .i64 0,.int .i64 0])=_:=hl;have fin : ∀ (X:Bool),X=false->((asBool (.bool X)).bind fun b12=>if b12=true then some ((V.tup [(.int .i64 0),(.bool false)]),[])else
   (zaK (.str (b::r))).bind fun n13=>
   (zq (xA n13 (.str (b::r))) (vec [(.int .i64 0),(.int .i64 0)])).bind fun o30=>
   if o30.1=0 then
   (za .gtr (o30.2 0) (.int .i64 most)).bind fun x31=>
   (asBool x31).bind fun b32=>
   if b32=true then
   some ((.tup [(.int .i64 0),(.bool false)]),[])
   else
   some ((.tup [(o30.2 0),(.bool true)]),[])
   else
   some ((.tup [(o30.2 0),(o30.2 1)]),[]))=some (zaY (ql (b::r) most),([]:List V)):=by
  intro X hX;subst hX;simp only[xQ,vr,hl];unfold ql;cases zgW (b::r)with
  | none=>simp only[xf,zCC,zCm,z5,zr];rfl
  | some m=>
   by_cases hm:(m:Int)<=most
   ·have c : ¬ most<(m:Int):=by omega
    simp only[xQ,zCl,z5,Zy,c,zCo,zD,hm];rfl
   ·have c:most<(m:Int):=by omega
    simp only[xf,zCl,z5,Zy,c,zCn,ze,zD,hm,zCm];rfl
 by_cases hb:b=48
 ·have h1 : ¬ 1<(b::r).length:=fun h=>hz ⟨hb,h⟩
  simp only[xf,qf,e0,hne,ze,vr,d4,d1,zCq h4,zCl,hx0,zv,e48,zCp hb,zCq h1];exact fin false rfl
 ·simp only[xQ,qf,e0,hne,vr,d4,zCq h4,zCl,hx0,zv,e48,zCq hb];exact fin false rfl
theorem zyw(s:Str)(most:Int):P0 jm [.v (.str s),.v (.int .i64 most)] []=some (zaY (ql s most),[]):=by
 rw[ziQ];unfold zbh;cases s with
 | nil=>simp only[xf,vr,ze];rfl
 | cons b r=>
 have hx:(b::r)[0]?=some b:=rfl;have hx0:ZQ (.str (b::r)) (.int .i64 0)=some (.int .u8 (b.toNat:Int)):=XF (b::r) .i64 0 b hx;have d0:decide (((((b::r).length:Nat):Int))<1)=false:=zCq (by simp only[zCw];omega);have d4:decide (((((b::r).length:Nat):Int))>4)=decide (4<(b::r).length):=zdz 4 _;have d1:decide (((((b::r).length:Nat):Int))>1)=decide (1<(b::r).length):=zdz 1 _;by_cases h4:4<(b::r).length
 ·have hN:ql (b::r) most=none:=by unfold ql zgW;rw[zCk (.inr (.inl h4))];rfl
  rw[hN];simp only[xf,vr,d0,zCl,ze,d4,zCp h4,zX,zCm];rfl
 have e48:decide ((b.toNat:Int)=48)=decide (b=48):=by
  by_cases hb:b=48
  ·subst hb;rfl
  ·rw[zCq hb,zCq];intro h;exact hb (UInt8.toNat_inj.1 (by show b.toNat=48;omega))
 by_cases hz:b=48/\1<(b::r).length
 ·have hN:ql (b::r) most=none:=by unfold ql zgW;rw[zCk (.inr (.inr hz))];rfl
  rw[hN];simp only[xf,ze,vr,d0,d4,d1,zCq h4,zCl,hx0,zv,e48,zCp hz.1,zCp hz.2];rfl
 have hN:zgW (b::r)=dig 0 (b::r):=by
  unfold zgW;rw[zCj];rintro(h | h | h)
  ·simp at h
  ·exact h4 h
  ·exact hz h
 have hl:=zuP (b::r) (by omega) (b::r).length 0 0 (by omega) (by decide);rw[zU,<- hN]at hl;have hl:zq (xZ (.str (b::r))) (vec [.int .i64 0,.int .i64 0])=_:=hl;have fin : ∀ (X:Bool),X=false->((asBool (.bool X)).bind fun b12=>if b12=true then some ((V.tup [(.int .i64 0),(.bool false)]),[])else
   (zq (xZ (.str (b::r))) (vec [(.int .i64 0),(.int .i64 0)])).bind fun o30=>
   if o30.1=0 then
   (za .gtr (o30.2 0) (.int .i64 most)).bind fun x31=>
   (asBool x31).bind fun b32=>
   if b32=true then
   some ((.tup [(.int .i64 0),(.bool false)]),[])
   else
   some ((.tup [(o30.2 0),(.bool true)]),[])
   else
   some ((.tup [(o30.2 0),(o30.2 1)]),[]))=some (zaY (ql (b::r) most),([]:List V)):=by
  intro X hX;subst hX;simp only[xQ,hl];unfold ql;cases zgW (b::r)with
  | none=>simp only[xf,zCC,zCm,z5,zr];rfl
  | some m=>
   by_cases hm:(m:Int)<=most
   ·have c : ¬ most<(m:Int):=by omega
    simp only[xQ,zCl,z5,Zy,c,zCo,zD,hm];rfl
   ·have c:most<(m:Int):=by omega
    simp only[xf,zCl,z5,Zy,c,zCn,ze,zD,hm,zCm];rfl
 by_cases hb:b=48
 ·have h1 : ¬ 1<(b::r).length:=fun h=>hz ⟨hb,h⟩
  simp only[xf,ze,vr,d0,d4,d1,zCq h4,zCl,hx0,zv,e48,zCp hb,zCq h1];exact fin false rfl
 ·simp only[xQ,vr,d0,d4,zCq h4,zCl,hx0,zv,e48,zCq hb];exact fin false rfl
end
section
attribute [local irreducible] P0
open Go.Lib (decodeN)
def rv(s:Str)(i:Nat):Int:=if(ud s i).1=65533/\(ud s i).2=1 then -1 else((ud s i).1:Nat)
end
section
attribute [local irreducible] P0
def r32(l:List Int):List V:=l.map (.int .i32)
end
section
attribute [local irreducible] P0
inductive LightT:Tree->Prop
 | mk (t:Tree) (h1:t.n.m.length<=95) (h2:t.s.length<=2100) (h3:t.k.length<=40) (h4:t.v.length<=40) (h5 : ∀ x,x∈t.k->x.length<=2100) (hv : ∀ x,x∈t.v->LightT x):LightT t
end
section
attribute [local irreducible] P0
theorem zt6(l:List Nat)(d:Nat)(hd:0<d)(hd2:d<B32)(hl:l.length<=1000000)(hu:U32 l) :
  P0 xF [.v (.sl (zu l)),.v (.int .u32 (d:Int))] []=some (.tup [.sl (zu (toL (xC l/d))),.int .u32 ((xC l%d:Nat):Int)],[]):=by
 obtain⟨h1,h2⟩:=zak d hd l;rw[zq6 l d hd hd2 hl hu,zix (zfm d hd l hu),h1,h2]
end
section
attribute [local irreducible] P0
theorem zjy(n:Nm)(hu:U32 n.m)(hl:n.m.length<=1000000000000000):P0 je [.v n.val] []=some (.bool (nokB n),[]):=by
 rw[zig];unfold zbl;unfold nokB;by_cases h0:n.m=[]
 ·rw[zCk h0];cases hn:n.neg<;>(apply yes;simp[h0,hn])
 ·have hp:=List.length_pos_iff.2 h0;rw[zCj h0];have e2:=w64 (a:=(n.m.length:Int)-1) (by omega);have e3:=zv7 .i64 ((n.m.length:Int)-1) n.m.length (by omega);have e4:((n.m.length:Int)-1).toNat=n.m.length-1:=by omega
  have e8:n.m.length-1<n.m.length:=by omega
  have e5:n.m[n.m.length-1]=lat n.m (n.m.length-1):=by unfold lat;rw[zL e8];rfl
  by_cases c1:n.m.length<=90
  ·have ht:P0 xF [.v (.sl (zu n.m)),.v (.int .u32 10)] []=_:=zt6 n.m 10 (by decide) (by decide) (by omega) hu;have c1' : ¬ ((90:Int)<(n.m.length:Int))/\(n.m.length:Int)<=90:=by omega
   by_cases c2:lat n.m (n.m.length-1)=0
   ·apply yes;simp[h0,c1',e2,e3,e4,e8,e5,c2]
   ·by_cases c3:n.e < -1200
    ·have c3' : ¬ (-1200<=n.e):=by omega
     apply yes;simp[h0,c1',e2,e3,e4,e8,e5,c2,c3,c3']
    ·have c3' : ¬ (n.e < -1200) /\ -1200<=n.e:=by omega
     by_cases c4:1200<n.e
     ·have c4' : ¬ (n.e<=1200):=by omega
      apply yes;simp[h0,c1',e2,e3,e4,e8,e5,c2,c3',c4,c4']
     ·have c4' : ¬ (1200<n.e)/\n.e<=1200:=by omega
      have c5:((xC n.m:Int)%10=0)↔(xC n.m%10=0):=by omega
      apply yes;simp[h0,c1,c1',e2,e3,e4,e8,e5,c2,c3',c4',ht,c5]
  ·have c1':((90:Int)<(n.m.length:Int)) /\ ¬ (n.m.length:Int)<=90:=by omega
   apply yes;simp[h0,c1',c1]
end
end Go.Ev
