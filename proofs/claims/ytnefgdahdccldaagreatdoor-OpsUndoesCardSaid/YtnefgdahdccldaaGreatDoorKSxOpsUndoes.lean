/- OpsUndoes: what is added and removed again, put and put back, moved to where it is. -/
import Derived.Test.YtnefgdahdccldaaGreatDoorRows
import Derived.Test.YtnefgdahdccldaaGreatDoorKSB
import Derived.Test.YtnefgdahdccldaaGreatDoorKSE
set_option linter.all false
open Option renaming map_some->zC,bind_some->zD
open Bool renaming false_eq_true->zF,not_true->zH,not_false->zI,true_eq_false->zX
open List renaming getElem?_cons_zero->zM,getElem?_cons_succ->zN,drop_zero->zU
namespace Go.Ev
abbrev zxh:=And.intro @zm @wB
end Go.Ev
namespace Go.Ev
abbrev zwb:=And.intro @if_true.{1} (And.intro @zCn (And.intro @zp @zj))
end Go.Ev
namespace Go.Ev
abbrev zeV:=And.intro @zm (And.intro @wB (And.intro @ze (And.intro @if_false.{1} @zF)))
end Go.Ev
namespace Go.Ev
attribute [local irreducible] P0
theorem u60(n:Nat):decide (((n:Nat):Int)>60)=decide (60<n):=by
 by_cases h:60<n
 ·rw[zCp h,zCp (show((n:Nat):Int)>60 by omega)]
 ·rw[zCq h,zCq (show ¬ ((n:Nat):Int)>60 by omega)]
theorem u20(n:Nat):decide (((n:Nat):Int)>20)=decide (20<n):=by
 by_cases h:20<n
 ·rw[zCp h,zCp (show((n:Nat):Int)>20 by omega)]
 ·rw[zCq h,zCq (show ¬ ((n:Nat):Int)>20 by omega)]
theorem zuX(t:Tree)(op:Int)(p f:List Str)(x:Tree)(r:Option Tree)(h:Sz t)(ho:1<=op/\op<=6)(hp:p.length<=1000000)(hf:f.length<=1000000)(hx:OkT x)(hg:op=6 -> ∀ y,xr t p=some y->OkT y)
  (hd:vj t ⟨op,p,f,x⟩=r) :
  P0 yz [.v t.val,.v (.agg [.int .i64 op,.sl (strs p),.sl (strs f),.int .i64 x.kind,.bool x.b,.bool x.n.neg,.sl (zu x.n.m),.int .i64 x.n.e,.str x.s,.sl (strs x.k),.sl (trs x.v)])] []=some (.tup [(r.getD Tree.zero).val,.bool r.isSome],[]):=by
 rw[<- hd];exact zrN t ⟨op,p,f,x⟩ _ (ztg t ⟨op,p,f,x⟩ h ho hp hf (fun h6 y hy=>zvZ _ (hg h6 y hy).okG (hg h6 y hy).tame _ hx.okG hx.tame))
theorem zyR(t:Tree)(op:Int)(p f:List Str)(r:Option Tree)(h:Sz t)(ho:1<=op/\op<=5)(hp:p.length<=1000000)(hf:f.length<=1000000)
  (hd:vj t ⟨op,p,f,Tree.zero⟩=r) :
  P0 yz [.v t.val,.v (.agg [.int .i64 op,.sl (strs p),.sl (strs f),.int .i64 0,.bool false,.bool false,.sl [],.int .i64 0,.str [],.sl [],.sl []])] []=some (.tup [(r.getD Tree.zero).val,.bool r.isSome],[]):=by
 rw[<- hd];exact zrN t ⟨op,p,f,Tree.zero⟩ _ (ztg t ⟨op,p,f,Tree.zero⟩ h ⟨ho.1,by have:=ho.2;show op<=6;omega⟩ hp hf (fun h6 y hy=>by have:=ho.2;have h6:op=6:=h6;omega))
theorem zxg:zuH Tree.zero := .mk _ (fun x hx=>by simp[Tree.zero,Tree.n,Nm.zero]at hx) (by simp[Tree.zero,Tree.n,Nm.zero]) (by simp[Tree.zero,Tree.k]) (by simp[Tree.zero,Tree.v]) (fun x hx=>by simp[Tree.zero,Tree.v]at hx)
theorem zum:P0 xu [.v Tree.zero.val,.v (.agg [.int .i64 0,.bool false,.bool false,.sl [],.int .i64 0,.str [],.sl [],.sl []])] []=some (.bool true,[]):=by rw[<- zes];exact zwo Tree.zero zxg
theorem zsm(l w v:List Int):P0 wM [.v (.sl (ints l)),.v (.sl (ints w)),.v (.sl (ints v))] []=some (.bool true,[]):=by
 rw[zb7];unfold W6;by_cases hl:60<l.length
 ·simp only[zxh,zb,xv,u60,hl,zCn,zX,zCm,ze,zCl,WW]
 by_cases hv:20<v.length
 ·simp only[zxh,zb,xv,u60,u20,hl,hv,zCn,zCo,ze,zCl,WW]
 obtain⟨t,ht,hto,htb,_⟩:=ztv 4 (by decide) l;obtain⟨x,hx,hxo,hxb,_⟩:=ztv 2 (by decide) v;have ht:P0 ve [.v (.sl (ints l)),.v (.int .i64 4)] []=some (t.val,[]):=ht;have hx:P0 ve [.v (.sl (ints v)),.v (.int .i64 2)] []=some (x.val,[]):=hx;obtain⟨p,hp,hp4,_⟩:=zAH t hto w;have hpl:p.length<=1000000:=by omega
 have n0:([]:List Str).length<=1000000:=Nat.zero_le _;have hto':=zsQ hto;have hxo':=zsQ hxo;have wt:yb t<=242121:=zCA (zye htb hto) (by have:=zl9 htb;have e:nb 3 (4+1)=121:=rfl;omega);have wx:yb x<=26013:=zCA (zye hxb hxo) (by have:=zl9 hxb;have e:nb 3 (2+1)=13:=rfl;omega);have szt:Sz t:=⟨hto',by omega⟩
 have hg:=znF t p szt hpl;have st:=zhO t (ztE t hto' (by omega));have sx:=zhO x (ztE x hxo' (by omega));by_cases hn:p=[]
 ·subst hn;have hp:P0 jP [.v t.val,.v (.sl (ints w))] []=some (.sl [],[]):=hp;have hg:P0 xT [.v t.val,.v (.sl [])] []=some (.tup [t.val,.bool true],[]):=hg;have g0 : ¬ ((((0:Nat):Int))>0):=by omega
  have g1:((((0:Nat):Int))==0)=true:=rfl;have o1:=zuX t 1 [] [] x (some x) szt ⟨by decide,by decide⟩ n0 n0 hxo (fun h=>by simp at h) rfl;have o1:P0 yz [.v t.val,.v (.agg [.int .i64 1,.sl [],.sl [],.int .i64 x.kind,.bool x.b,.bool x.n.neg,.sl (zu x.n.m),.int .i64 x.n.e,.str x.s,.sl (strs x.k),.sl (trs x.v)])] []=some (.tup [x.val,.bool true],[]):=o1;simp only[zeV,zb,xv,u60,u20,hl,hv,zCo,zCl,ht,hx,zj,zp,hp,hg,zl,zM,zN,zCx,g0,Yb,wy,xk,Q4,zaJ,zkj,znC,Wa,qp,xw,o1,yE,zH,g1,sx,WW]
 have hlp:0<p.length:=List.length_pos_iff.2 hn;have g0:((p.length:Nat):Int)>0:=by omega
 have g1:((((p.length:Nat):Int))==0)=false:=by rw[beq_eq_false_iff_ne];omega
 cases hgt:xr t p with
 | some old=>
  rw[hgt]at hg;have hg:P0 xT [.v t.val,.v (.sl (strs p))] []=some (.tup [old.val,.bool true],[]):=hg;have hoo:=zoj p hto hgt;obtain⟨u,hu,huo,huw⟩:=zd3 p hto' hxo' hgt;obtain⟨_,hback⟩:=zmc p hto' hgt hu;have szu:Sz u:=⟨huo,by omega⟩
  obtain⟨c,hc⟩:=zsv (v:=old) hto' hn hgt;have hcl:=zlV hto' hn hc;have o1:=zuX t 3 p [] x (some u) szt ⟨by decide,by decide⟩ hpl n0 hxo (fun h=>by simp at h) hu;have o1:P0 yz [.v t.val,.v (.agg [.int .i64 3,.sl (strs p),.sl [],.int .i64 x.kind,.bool x.b,.bool x.n.neg,.sl (zu x.n.m),.int .i64 x.n.e,.str x.s,.sl (strs x.k),.sl (trs x.v)])] []=some (.tup [u.val,.bool true],[]):=o1;have o2:=zuX u 3 p [] old (some t) szu ⟨by decide,by decide⟩ hpl n0 hoo (fun h=>by simp at h) hback;have o2:P0 yz [.v u.val,.v (.agg [.int .i64 3,.sl (strs p),.sl [],.int .i64 old.kind,.bool old.b,.bool old.n.neg,.sl (zu old.n.m),.int .i64 old.n.e,.str old.s,.sl (strs old.k),.sl (trs old.v)])] []=some (.tup [t.val,.bool true],[]):=o2;have d6:vj t ⟨6,p,[],old⟩=some t:=by unfold vj;rw[zCj (show ¬ ((6:Int)=1) by decide),zCj (show ¬ ((6:Int)=2) by decide),zCj (show ¬ ((6:Int)=3) by decide),zCj (show ¬ ((6:Int)=4) by decide),zCj (show ¬ ((6:Int)=5) by decide),zCk rfl];show(xr t p).bind _=_;rw[hgt,zD,zCk rfl]
  have o3:=zuX t 6 p [] old (some t) szt ⟨by decide,by decide⟩ hpl n0 hoo (fun _ y hy=>zoj p hto hy) d6;have o3:P0 yz [.v t.val,.v (.agg [.int .i64 6,.sl (strs p),.sl [],.int .i64 old.kind,.bool old.b,.bool old.n.neg,.sl (zu old.n.m),.int .i64 old.n.e,.str old.s,.sl (strs old.k),.sl (trs old.v)])] []=some (.tup [t.val,.bool true],[]):=o3;have d5:vj t ⟨5,p,p,Tree.zero⟩=some c:=by unfold vj;rw[zCj (show ¬ ((5:Int)=1) by decide),zCj (show ¬ ((5:Int)=2) by decide),zCj (show ¬ ((5:Int)=3) by decide),zCj (show ¬ ((5:Int)=4) by decide),zCk rfl];show(xr t p).bind (fun v=>Xz t p v)=_;rw[hgt,zD,hc]
  have o4:=zyR t 5 p p (some c) szt ⟨by decide,by decide⟩ hpl hpl d5;have o4:P0 yz [.v t.val,.v (.agg [.int .i64 5,.sl (strs p),.sl (strs p),.int .i64 0,.bool false,.bool false,.sl [],.int .i64 0,.str [],.sl [],.sl []])] []=some (.tup [c.val,.bool true],[]):=o4;have d4:vj t ⟨4,p,p,Tree.zero⟩=some t:=by unfold vj;rw[zCj (show ¬ ((4:Int)=1) by decide),zCj (show ¬ ((4:Int)=2) by decide),zCj (show ¬ ((4:Int)=3) by decide),zCk rfl];show zqL t p p=_;unfold zqL;rw[hgt,zD,zCk rfl]
  have o5:=zyR t 4 p p (some t) szt ⟨by decide,by decide⟩ hpl hpl d4;have o5:P0 yz [.v t.val,.v (.agg [.int .i64 4,.sl (strs p),.sl (strs p),.int .i64 0,.bool false,.bool false,.sl [],.int .i64 0,.str [],.sl [],.sl []])] []=some (.tup [t.val,.bool true],[]):=o5;have cl : ¬ ((c.v.length:Nat):Int)<(t.v.length:Int):=by omega
  simp only[zwb,zeV,zb,xv,u60,u20,hl,hv,zCo,ht,hx,hp,hg,zl,zM,zN,zd,g0,Yb,wy,xk,Q4,zaJ,zkj,znC,Wa,qp,xw,o1,o2,o3,o4,o5,yE,zH,st,zh,cl,WW]
 | none=>
  rw[hgt]at hg;have hg:P0 xT [.v t.val,.v (.sl (strs p))] []=some (.tup [Tree.zero.val,.bool false],[]):=hg;cases ha:Xz t p x with
  | none=>
   have o1:=zuX t 1 p [] x none szt ⟨by decide,by decide⟩ hpl n0 hxo (fun h=>by simp at h) ha;have o1:P0 yz [.v t.val,.v (.agg [.int .i64 1,.sl (strs p),.sl [],.int .i64 x.kind,.bool x.b,.bool x.n.neg,.sl (zu x.n.m),.int .i64 x.n.e,.str x.s,.sl (strs x.k),.sl (trs x.v)])] []=some (.tup [Tree.zero.val,.bool false],[]):=o1;have d2:vj t ⟨2,p,[],Tree.zero⟩=none:=by unfold vj;rw[zCj (show ¬ ((2:Int)=1) by decide),zCk rfl];show zbN t p=none;unfold zbN;rw[zCj hn,hgt,zCN]
   have o2:=zyR t 2 p [] none szt ⟨by decide,by decide⟩ hpl n0 d2;have o2:P0 yz [.v t.val,.v (.agg [.int .i64 2,.sl (strs p),.sl [],.int .i64 0,.bool false,.bool false,.sl [],.int .i64 0,.str [],.sl [],.sl []])] []=some (.tup [Tree.zero.val,.bool false],[]):=o2;simp only[zeV,zb,xv,u60,u20,hl,hv,zCo,zCl,ht,hx,zj,zp,hp,hg,zl,zM,zN,Yb,wy,xk,Q4,zaJ,zkj,znC,Wa,qp,xw,o1,o2,yE,zI,zum,WW]
  | some u=>
   have o1:=zuX t 1 p [] x (some u) szt ⟨by decide,by decide⟩ hpl n0 hxo (fun h=>by simp at h) ha;have o1:P0 yz [.v t.val,.v (.agg [.int .i64 1,.sl (strs p),.sl [],.int .i64 x.kind,.bool x.b,.bool x.n.neg,.sl (zu x.n.m),.int .i64 x.n.e,.str x.s,.sl (strs x.k),.sl (trs x.v)])] []=some (.tup [u.val,.bool true],[]):=o1;obtain⟨huo,huw⟩:=zqx hto' hxo' ha;have szu:Sz u:=⟨huo,by omega⟩
   have hul:=zlV hto' hn ha;obtain⟨y,hy,hcase⟩:=zuA hto' (fun z hz hk=>zAh (zoj _ hto hz) hk) hn hgt ha;have hstr:=zrS p hpl;have wl:IntKind.i64.wrap (((p.length:Nat):Int)-1)=((p.length-1:Nat):Int):=(w64 (a:=(p.length:Int)-1) (by omega)).trans (by omega);have hlast:p[p.length-1]?=some (yN p):=by
    unfold yN;rw[List.getLastD_eq_getLast?,List.getLast?_eq_getElem?];cases hx:p[p.length-1]? with
    | none=>rw[List.getElem?_eq_none_iff]at hx;omega
    | some x=>rfl
   have hix:=zf .i64 (p.length-1) p.length (by omega);have hb:=KC .i64 ((p.length-1:Nat):Int) p.length ⟨by omega,by omega⟩;rw[zCQ]at hb;have hgy:=znF t p.dropLast szt (by rw[List.length_dropLast];omega);rw[hy]at hgy;have hgy:P0 xT [.v t.val,.v (.sl (strs p.dropLast))] []=some (.tup [y.val,.bool true],[]):=hgy;rw[List.dropLast_eq_take]at hgy;rcases hcase with⟨hk6,hd⟩ | ⟨hnd,hgu,hru⟩
   ·have ge:((u.v.length:Nat):Int)≥(t.v.length:Int):=by omega
    have cs:za .eql (.str (yN p)) (.str [45])=some (.bool true):=by rw[hd];rfl
    simp only[zwb,zeV,zb,xv,u60,u20,hl,hv,zCo,ht,hx,hp,hg,zl,zM,zN,Yb,wy,xk,Q4,zaJ,zkj,znC,Wa,qp,xw,o1,yE,zH,zd,g1,hstr,zy,wl,hix,yk,hlast,zC,yd,cs,hb,zU,Nat.sub_zero,j5,hgy,zv,hk6,zh,ge,WW,z5,zCC]
   ·have hgu2:=znF u p szu hpl;rw[hgu]at hgu2;have hgu2:P0 xT [.v u.val,.v (.sl (strs p))] []=some (.tup [x.val,.bool true],[]):=hgu2;have d2:vj u ⟨2,p,[],Tree.zero⟩=some t:=by unfold vj;rw[zCj (show ¬ ((2:Int)=1) by decide),zCk rfl];exact hru
    have o2:=zyR u 2 p [] (some t) szu ⟨by decide,by decide⟩ hpl n0 d2;have o2:P0 yz [.v u.val,.v (.agg [.int .i64 2,.sl (strs p),.sl [],.int .i64 0,.bool false,.bool false,.sl [],.int .i64 0,.str [],.sl [],.sl []])] []=some (.tup [t.val,.bool true],[]):=o2;by_cases hd:yN p=[45]
    ·have cs:za .eql (.str (yN p)) (.str [45])=some (.bool true):=by rw[hd];rfl
     have hk6:=hnd hd;simp only[zeV,zb,xv,u60,u20,hl,hv,zCo,zCl,ht,hx,zj,zp,hp,hg,zl,zM,zN,Yb,wy,xk,Q4,zaJ,zkj,znC,Wa,qp,xw,o1,yE,zH,zd,g1,hstr,zy,wl,hix,yk,hlast,zC,yd,cs,hb,zU,Nat.sub_zero,j5,hgy,zv,hk6,WW,hgu2,o2,sx,st]
    ·have cs:za .eql (.str (yN p)) (.str [45])=some (.bool false):=by
      have e:(yN p==([45]:Str))=false:=by rw[beq_eq_false_iff_ne];exact hd
      show some (V.bool (yN p==([45]:Str)))=_;rw[e]
     simp only[zeV,zb,xv,u60,u20,hl,hv,zCo,zCl,ht,hx,zj,zp,hp,hg,zl,zM,zN,Yb,wy,xk,Q4,zaJ,zkj,znC,Wa,qp,xw,o1,yE,zH,zd,g1,hstr,zy,wl,hix,yk,hlast,zC,yd,cs,WW,hgu2,o2,sx,st]
theorem ziO{n0 n1 n2:Nat}{xs ys zs:List V}(hx:Ty Go.Proofs.Tryz.prog n0 50 xs)(hy:Ty Go.Proofs.Tryz.prog n1 50 ys)(hz:Ty Go.Proofs.Tryz.prog n2 50 zs) :
  P0 wM ([mkV Go.Proofs.Tryz.prog 50 xs,mkV Go.Proofs.Tryz.prog 50 ys,mkV Go.Proofs.Tryz.prog 50 zs].map .v) []=some (.bool true,[]):=by
 obtain⟨l,el⟩:=zom Go.Proofs.Tryz.underlying50 Go.Proofs.Tryz.underlying3 hx;obtain⟨w,ew⟩:=zom Go.Proofs.Tryz.underlying50 Go.Proofs.Tryz.underlying3 hy;obtain⟨v,ev⟩:=zom Go.Proofs.Tryz.underlying50 Go.Proofs.Tryz.underlying3 hz;rw[el,ew,ev];exact zsm l w v
end Go.Ev
