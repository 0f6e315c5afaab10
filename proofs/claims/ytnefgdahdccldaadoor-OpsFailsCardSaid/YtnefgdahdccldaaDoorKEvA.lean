/- The machines Ev and Pv, part 1: an abstract machine over the translated code, proved sound once. -/
import Derived.Calls
import Derived.Laws.Entries
import Derived.Laws.World
import Derived.Laws.AppendOwn
import Derived.Laws.Rows
import Derived.Laws.Sem
import Derived.Laws.CopyRow
import Derived.Laws.Tables
import Derived.Laws.Cells
import Derived.Laws.Slices
import Derived.Laws.Strings
import Derived.Great.FillDense
import Derived.Great.BuildSlice
import Derived.Deep.AppendSrc
set_option linter.all false
open Option renaming bind_eq_some_iff->zA,map_eq_some_iff->zB,map_some->zC
open Bool renaming false_eq_true->zF,and_eq_true->zG
open Nat renaming lt_of_lt_of_le->zK,le_refl->zR,mul_le_mul_right->zW
open List renaming getElem?_eq_getElem->zL,getElem?_cons_zero->zM,getElem?_cons_succ->zN,drop_eq_nil_of_le->zQ,take_of_length_le->zV,length_append->zZ
noncomputable section
namespace Go
abbrev zBt:=@if_neg
abbrev zBu:=@if_pos
abbrev zBv:=@if_true
abbrev zBw:=@if_false
abbrev zBx:=@decide_true
abbrev zBy:=@decide_false
abbrev zBz:=@decide_eq_true
abbrev zBA:=@decide_eq_false
abbrev zBB:=@Option.some.injEq
abbrev zBC:=@Prod.mk.injEq
abbrev zBD:=@Nat.lt_or_ge
abbrev zBE:=@Nat.zero_add
abbrev zBF:=@Nat.add_zero
abbrev zBG:=@List.length_cons
abbrev zBH:=@List.length_nil
abbrev zBI:=@List.length_take
abbrev zBJ:=@List.length_drop
abbrev zBK:=@Nat.le_trans
abbrev zBL:=@beq_self_eq_true
abbrev zBM:=@Nat.one_ne_zero
abbrev zBN:=@List.append_assoc
abbrev zBO:=@List.mem_append
abbrev zBP:=@List.getElem?_append_left
abbrev zBQ:=@List.getElem?_eq_none
abbrev zBR:=@List.getElem?_take
abbrev zBS:=@List.getElem?_drop
abbrev zBT:=@Option.isSome_some
abbrev zBU:=@List.getElem?_map
abbrev zBV:=@List.length_replicate
abbrev zBW:=@Nat.add_mul
abbrev zBX:=@Option.bind_none
abbrev zBY:=@List.mem_cons_self
abbrev zBZ:=@Nat.mod_lt
abbrev zCa:=@Int.toNat_natCast
abbrev zCb:=@decide_eq_true_eq
abbrev zCc:=@Bool.or_eq_true
abbrev zCd:=@List.getElem?_set_self
abbrev zCe:=@List.getElem?_set_ne
abbrev zCf:=@Nat.lt_succ_self
abbrev zCg:=@List.getElem_mem
abbrev zCh:=@Array.getElem?_toList
end Go
namespace Go.Ev
section
inductive Tg where
 | no | full | ln (g sz:Nat)
inductive D where
 | und
 | off
 | bool (b:Bool)
 | int (k:IntKind) (n:Int)
 | float (k:FloatKind) (b:Nat)
 | str (s:List UInt8)
 | nilp | nilf | nili
 | sl (g:Tg) (n:Nat) (xs:List D)
 | ref (k off n c sz:Nat)
 | ptr (k off:Nat)
 | el (xs:List D)
 | agg (xs:List D)
 | tup (xs:List D)
 | fn (f:Nat) (cap:List D)
 | iface (t:Nat) (d:D)
def D.cells:D->List D
 | .agg xs=>xs
 | d=>[d]
def D.oneCell:D->Bool
 | .agg _ | .tup _ | .und | .off=>false
 | _=>true
inductive Ob where
 | row (xs:List D) (fz:Bool)
 | iter (s:List UInt8) (pos:Nat)
 | bld (t e:Nat) (s:List UInt8)
abbrev Mem:=Nat->Option Ob
def upd{α:Type}(m:Nat->Option α)(k:Nat)(o:α):Nat->Option α:=fun j=>if j=k then some o else m j
mutual
def D.cl0:D->D
 | .sl _ n xs => .sl .no n (cl0L xs)
 | .ref _ _ _ _ _ => .und
 | .agg xs => .agg (cl0L xs)
 | .tup xs => .tup (cl0L xs)
 | .iface t d => .iface t d.cl0
 | d=>d
def cl0L:List D->List D
 | []=>[]
 | d::r=>d.cl0::cl0L r
end
mutual
def D.cl(m:Mem):D->D
 | .sl _ n xs => .sl .no n (clL m xs)
 | .ref k off n c sz=>match m k with
  | some (.row xs _)=>if n<=c/\off+n*sz<=xs.length then .sl .no n (cl0L ((xs.drop off).take (n*sz)))else .und
  | _ => .und
 | .agg xs => .agg (clL m xs)
 | .tup xs => .tup (clL m xs)
 | .iface t d => .iface t (d.cl m)
 | d=>d
def clL(m:Mem):List D->List D
 | []=>[]
 | d::r=>d.cl m::clL m r
end
mutual
def D.refs:D->List Nat
 | .sl _ _ xs=>refsL xs
 | .ref k _ _ _ _=>[k]
 | .agg xs=>refsL xs
 | .tup xs=>refsL xs
 | .iface _ d=>d.refs
 | _=>[]
def refsL:List D->List Nat
 | []=>[]
 | d::r=>d.refs++refsL r
end
mutual
def D.pure:D->Bool
 | .sl g _ xs=>(match g with | .ln _ _=>false | _=>true)&&pureL xs
 | .ref _ _ _ _ _ | .ptr _ _=>false
 | .el xs=>pureL xs
 | .agg xs=>pureL xs
 | .tup xs=>pureL xs
 | .fn _ c=>pureL c
 | .iface _ d=>d.pure
 | _=>true
def pureL:List D->Bool
 | []=>true
 | d::r=>d.pure&&pureL r
end
abbrev Tm:=List (Nat×D)
def get:Tm->Nat->Option D
 | [],_=>none
 | (i,d)::r,t=>if i=t then some d else get r t
def put:Tm->Nat->D->Tm
 | [],t,d=>[(t,d)]
 | (i,e)::r,t,d=>if i=t then(t,d)::r else if t<i then(t,d)::(i,e)::r else(i,e)::put r t d
def del:Tm->Nat->Tm
 | [],_=>[]
 | (i,e)::r,t=>if i=t then del r t else(i,e)::del r t
def has:List Nat->Nat->Bool
 | [],_=>false
 | i::r,t=>if i=t then true else has r t
def kept(l:List Nat):Tm->Tm
 | []=>[]
 | (i,e)::r=>if has l i then(i,e)::kept l r else kept l r
structure St where
 tm:Tm
 mem:Mem
 tip:Nat->Option Nat
 nx:Nat
 lo:Nat
 lw:Nat
inductive X where
 | s (t:Nat) | k (d:D) | g (n:Nat)
inductive O where
 | mv (x:X)
 | pick (c a b:X)
 | alloc (z:List D)
 | box (x:X)
 | build (z:List D) (ps:List (Nat×Nat×X))
 | lit (len:Nat) (z:List D) (ps:List (Nat×Nat×X))
 | load (ag:Bool) (sz:Nat) (a:X)
 | store (sz:Nat) (a v:X)
 | chk (x:X)
 | bin (op:BinOp) (x y:X)
 | beq (neg:Bool) (x y:X)
 | inil (neg:Bool) (x:X)
 | un (op:UnOp) (x:X)
 | cvi (k:IntKind) (x:X)
 | cms (x:X)
 | cbs (x:X)
 | csb (x:X)
 | ifc (t:Nat) (x:X)
 | mkf (f:Nat) (cap:List X)
 | mks (z:List D) (bytes:Nat) (n c:X)
 | slc (sz:Nat) (x:X) (l h m:Option X)
 | sls (x:X) (l h:Option X)
 | sla (n sz:Nat) (x:X) (l h m:Option X)
 | fad (off:Nat) (x:X)
 | fld (ag:Bool) (off sz:Nat) (x:X)
 | iad (sz:Nat) (x i:X)
 | iaa (n sz:Nat) (x i:X)
 | ixa (ag:Bool) (n sz:Nat) (x i:X)
 | ixs (x i:X)
 | ext (x:X) (i:Nat)
 | len (x:X)
 | lns (x:X)
 | cap (x:X)
 | app (sz bytes:Nat) (s x:X)
 | apz (z:List D) (bytes:Nat) (s x:X)
 | cpy (sz:Nat) (d s:X)
 | min (xs:List X)
 | max (xs:List X)
 | call (f:Nat) (xs:List X)
 | callv (f:X) (xs:List X)
 | pan (x:X)
 | rng (x:X)
 | nxt (x:X)
 | tas (t:Nat) (ok:Bool) (x:X)
 | nbl (t e:Nat)
 | apr (sz bytes:Nat) (x:X)
structure OpC where
 dst:Option Nat
 op:O
 gd:Option (Nat×Bool)
inductive C where
 | skip
 | reg (ops:List OpC) (keep:List Nat)
 | drw (a0 a1 b1 b:List OpC) (keep:List Nat)
 | seq (a b:C)
 | cond (c:X) (a b:C)
 | blk (id:Nat) (c:C)
 | loop (c:C)
 | exit (id:Nat)
 | ret
inductive R where
 | tmp (t:Nat) | cell (t:Nat) (ag:Bool) (sz:Nat)
structure Fn where
 np:Nat
 res:List R
 raw:Bool
 gv:Bool
 body:C
inductive Eff where
 | ws (t e:Nat) | wb (t e:Nat) | bs (t e:Nat)
inductive Told where
 | fn (g:List D->List D->Option D) | eff (e:Eff)
structure Env where
 fn:Nat->Option Fn
 gl:Nat->Option (List D)
 ext:Nat->Option Told
 dfr:Nat->Option (List X×Fn)
inductive Out where
 | ret (d:D) | pan (d:D)
inductive Ex where
 | nrm | ext (id:Nat) | ret | pan (d:D)
inductive Rs where
 | ok (st:St) | pan (d:D) (st:St)
def zo:Nat:=1000000
def wX:Nat:=500000
def kW(f:Nat)(d:D):D:=if zo<=f then .tup [.bool true,d]else d
abbrev Cf:=Nat->List D->St->Option (Out×St)
def ev(E:Env)(tm:Tm):X->Option D
 | .s t=>get tm t
 | .k d=>some d
 | .g n=>(E.gl n).map .el
def evL(E:Env)(tm:Tm):List X->Option (List D)
 | []=>some []
 | x::r=>(ev E tm x).bind fun d=>(evL E tm r).bind fun l=>some (d::l)
def evO(E:Env)(tm:Tm):Option X->Option (Option D)
 | none=>some none
 | some x=>(ev E tm x).map some
def evP(E:Env)(tm:Tm):List (Nat×Nat×X)->Option (List (Nat×Nat×D))
 | []=>some []
 | (o,n,x)::r=>(ev E tm x).bind fun d=>(evP E tm r).bind fun l=>some ((o,n,d)::l)
def yd:List D->Bool
 | []=>true
 | d::r=>d.oneCell&&yd r
def qE(xs:List D)(o:Nat)(ys:List D):List D:=xs.take o++ys++xs.drop (o+ys.length)
def zdq(cells:List D):List (Nat×Nat×D)->Option (List D)
 | []=>some cells
 | (o,n,d)::r=>if d.cells.length=n/\o+n<=cells.length/\yd d.cells=true then zdq (qE cells o d.cells) r else none
def intD:BinOp->IntKind->Int->Int->Option D
 | .add,k,a,b=>some (.int k (k.wrap (a+b)))
 | .sub,k,a,b=>some (.int k (k.wrap (a-b)))
 | .mul,k,a,b=>some (.int k (k.wrap (a*b)))
 | .quo,k,a,b=>if b=0 then none else some (.int k (k.wrap (a.tdiv b)))
 | .rem,k,a,b=>if b=0 then none else some (.int k (a.tmod b))
 | .and,k,a,b=>some (.int k (bits .and k a b))
 | .or,k,a,b=>some (.int k (bits .or k a b))
 | .xor,k,a,b=>some (.int k (bits .xor k a b))
 | .andNot,k,a,b=>some (.int k (bits .andNot k a b))
 | .eql,_,a,b=>some (.bool (a==b))
 | .neq,_,a,b=>some (.bool (a != b))
 | .lss,_,a,b=>some (.bool (decide (a<b)))
 | .leq,_,a,b=>some (.bool (decide (a<=b)))
 | .gtr,_,a,b=>some (.bool (decide (a>b)))
 | .geq,_,a,b=>some (.bool (decide (a≥b)))
 | .shl,k,a,b=>if b<0 then none else some (.int k (k.wrap (a*2^Nat.min b.toNat k.bits)))
 | .shr,k,a,b=>if b<0 then none else some (.int k (a.fdiv (2^Nat.min b.toNat k.bits)))
def zvV:BinOp->List UInt8->List UInt8->Option D
 | .add,a,b=>if a.length+b.length<=9223372036854775807 then some (.str (a++b))else none
 | .eql,a,b=>some (.bool (a==b))
 | .neq,a,b=>some (.bool (!(a==b)))
 | .lss,a,b=>some (.bool (Op.bytesLess a b))
 | .leq,a,b=>some (.bool (Op.bytesLess a b||a==b))
 | .gtr,a,b=>some (.bool !(Op.bytesLess a b||a==b))
 | .geq,a,b=>some (.bool !(Op.bytesLess a b))
 | _,_,_=>none
def zzS(k:FloatKind):BinOp->Nat->Nat->Option Bool
 | .eql,a,b=>some (k.format.order a b==some .eq)
 | .neq,a,b=>some (k.format.order a b != some .eq)
 | .lss,a,b=>some (k.format.order a b==some .lt)
 | .leq,a,b=>some (k.format.order a b==some .lt||k.format.order a b==some .eq)
 | .gtr,a,b=>some (k.format.order a b==some .gt)
 | .geq,a,b=>some (k.format.order a b==some .gt||k.format.order a b==some .eq)
 | _,_,_=>none
def Y7:BinOp->Bool
 | .shl | .shr=>true
 | _=>false
def zue(op:BinOp):D->D->Option D
 | .int k a,.int k' b=>if Y7 op||decide (k=k')then intD op k a b else none
 | .str a,.str b=>zvV op a b
 | .float k a,.float k' b=>if k=k' then(zzS k op a b).map .bool else none
 | _,_=>none
def unD:UnOp->D->Option D
 | .neg,.int k n=>some (.int k (k.wrap (0-n)))
 | .xor,.int k n=>intD .xor k (if k.signed then -1 else k.max) n
 | .not,.bool b=>some (.bool !b)
 | _,_=>none
def Zh:List D->Option (List UInt8)
 | []=>some []
 | .int .u8 n::r=>(Zh r).bind fun l=>some (UInt8.ofNat n.toNat::l)
 | _=>none
def ofBytes(l:List UInt8):List D:=l.map fun b => .int .u8 b.toNat
def J4:Nat:=1000000000000000000
def bnd(d:Option D)(dflt:Nat):Option Nat:=
 match d with
 | none=>some dflt
 | some (.int _ i)=>if 0<=i then some i.toNat else none
 | some _=>none
def zeN(sz:Nat)(x:D)(l h m:Option D):Option D:=
 match x with
 | .sl g n xs=>
  (bnd l 0).bind fun l'=>(bnd h n).bind fun h'=>
  match m with
  | none=>
   if l'<=h'/\h'<=n then
    some (if l'=0/\h'=n then .sl g n xs
     else .sl (match g with | .full=>if h'=n then .full else .no | _ => .no) (h'-l') ((xs.drop (l'*sz)).take ((h'-l')*sz)))
   else none
  | some _=>(bnd m n).bind fun m'=>if h.isSome/\l'<=h'/\h'<=m'/\m'<=n then some (.sl (if h'=m' then .full else .no) (h'-l') ((xs.drop (l'*sz)).take ((h'-l')*sz)))else none
 | .ref k off n c s=>
  (bnd l 0).bind fun l'=>(bnd h n).bind fun h'=>(bnd m c).bind fun m'=>if(m.isNone\/h.isSome)/\s=sz/\l'<=h'/\h'<=m'/\m'<=c/\c<J4 then some (if m'=l' then .sl .full 0 []else .ref k (off+l'*sz) (h'-l') (m'-l') sz)else none
 | _=>none
def zqG(x:D)(l h:Option D):Option D:=
 match x with
 | .str s=>(bnd l 0).bind fun l'=>(bnd h s.length).bind fun h'=>if l'<=h'/\h'<=s.length then some (.str ((s.drop l').take (h'-l')))else none
 | _=>none
def zp8(cap sz:Nat)(x:D)(l h m:Option D):Option D:=
 match x with
 | .ptr k off=>
  (bnd l 0).bind fun l'=>(bnd h cap).bind fun h'=>(bnd m cap).bind fun m'=>if(m.isNone\/h.isSome)/\l'<=h'/\h'<=m'/\m'<=cap then some (if m'=l' then .sl .full 0 []else .ref k (off+l'*sz) (h'-l') (m'-l') sz)else none
 | _=>none
def St.touch(st:St)(k:Nat):St:={ st with lw:=if k<st.lw then k else st.lw }
def St.setOb(st:St)(k:Nat)(o:Ob):St:={ st.touch k with mem:=upd st.mem k o }
def St.newOb(st:St)(o:Ob):St:={ st with mem:=upd st.mem st.nx o,nx:=st.nx+1 }
def St.put(st:St)(dst:Option Nat)(d:D):St:=match dst with | none=>st | some t=>{ st with tm:=Ev.put st.tm t d }
def St.del(st:St)(dst:Option Nat):St:=match dst with | none=>st | some t=>{ st with tm:=Ev.del st.tm t }
def vL(st:St)(a:D)(n:Nat):Option (List D):=
 match a with
 | .ptr k off=>match st.mem k with
  | some (.row xs _)=>if off+n<=xs.length then some ((xs.drop off).take n)else none
  | _=>none
 | .el xs=>if n<=xs.length then some (xs.take n)else none
 | _=>none
def vB(st:St)(ag:Bool)(sz:Nat)(a:D):Option D:=
 if ag then(vL st a sz).map .agg else match vL st a 1 with | some [d]=>some d | _=>none
def storeD(st:St)(k off:Nat)(ys:List D):Option St:=
 match st.mem k with
 | some (.row xs false)=>if off+ys.length<=xs.length/\yd ys then some (st.setOb k (.row (qE xs off ys) false))else none
 | _=>none
def elems(st:St)(sz:Nat):D->Option (Nat×List D)
 | .sl _ n xs=>if xs.length=n*sz then some (n,xs)else none
 | .ref k off n _ s=>match st.mem k with
  | some (.row xs _)=>if s=sz/\off+n*sz<=xs.length then some (n,(xs.drop off).take (n*sz))else none
  | _=>none
 | .str s=>if sz=1 then some (s.length,ofBytes s)else none
 | _=>none
def rep(n:Nat)(z:List D):List D:=(List.replicate n z).flatten
def appD(sz bytes:Nat)(s:D)(m:Nat)(ys:List D)(st:St):Option (D×St):=
 match s with
 | .sl g n xs=>
  if xs.length=n*sz/\(n+m)*bytes<=140737488355328/\n+m<=140737488355328/\0<sz then
   match g with
   | .no=>none
   | .full=>some (.sl (.ln st.nx sz) (n+m) (xs++ys),{ st with tip:=upd st.tip st.nx (n+m),nx:=st.nx+1 })
   | .ln g s'=>if s'=sz/\st.tip g=some n then some (.sl (.ln g sz) (n+m) (xs++ys),{ st.touch g with tip:=upd st.tip g (n+m) })else none
  else none
 | .ref k off n c s'=>
  match st.mem k with
  | some (.row xs fz)=>
   if s'=sz/\off+c*sz<=xs.length/\n<=c/\c<J4/\(n+m)*bytes<=140737488355328/\n+m<=140737488355328/\0<sz then
    if n+m<=c then(if fz then none else(storeD st k (off+n*sz) ys).map fun st'=>(.ref k off (n+m) c sz,st'))
    else some (.sl (.ln st.nx sz) (n+m) ((xs.drop off).take (n*sz)++ys),{ st with tip:=upd st.tip st.nx (n+m),nx:=st.nx+1 })
   else none
  | _=>none
 | _=>none
def zl8:D->List D->Option D
 | .int k x,[]=>some (.int k x)
 | .int k x,.int k' y::r=>if k=k' then zl8 (.int k (if y<x then y else x)) r else none
 | _,_=>none
def zmS:D->List D->Option D
 | .int k x,[]=>some (.int k x)
 | .int k x,.int k' y::r=>if k=k' then zmS (.int k (if x<y then y else x)) r else none
 | _,_=>none
def idx(i:D)(n:Nat):Option Nat:=
 match i with
 | .int _ i=>if 0<=i/\i<n then some i.toNat else none
 | _=>none
def opD(E:Env)(st:St):O->Option (Option D×St)
 | .mv x=>(ev E st.tm x).map fun d=>(some d,st)
 | .pick c a b=>match ev E st.tm c with
  | some (.bool true)=>(ev E st.tm a).map fun d=>(some d,st)
  | some (.bool false)=>(ev E st.tm b).map fun d=>(some d,st)
  | _=>none
 | .alloc z=>some (some (.ptr st.nx 0),st.newOb (.row z false))
 | .box x=>(ev E st.tm x).bind fun d=>if yd d.cells then some (some (.ptr st.nx 0),st.newOb (.row d.cells false))else none
 | .build z ps=>(evP E st.tm ps).bind fun l=>(zdq z l).map fun cs=>(some (.agg cs),st)
 | .lit n z ps=>(evP E st.tm ps).bind fun l=>(zdq (rep n z) l).bind fun cs=>if yd cs then some (some (.sl .full n cs),st)else none
 | .load ag sz a=>(ev E st.tm a).bind fun d=>(vB st ag sz d).map fun v=>(some v,st)
 | .store sz a v=>(ev E st.tm a).bind fun d=>(ev E st.tm v).bind fun x=>match d with
  | .ptr k off=>if x.cells.length=sz then(storeD st k off x.cells).map fun st'=>(none,st')else none
  | _=>none
 | .chk x=>(ev E st.tm x).bind fun d=>match d with
  | .ptr _ _ | .el _ | .fn _ _=>some (some d,st)
  | _=>none
 | .bin op x y=>(ev E st.tm x).bind fun a=>(ev E st.tm y).bind fun b=>(zue op a b).map fun d=>(some d,st)
 | .beq neg x y=>match ev E st.tm x,ev E st.tm y with
  | some (.bool a),some (.bool b)=>some (some (.bool (if neg then !(a==b)else a==b)),st)
  | _,_=>none
 | .inil neg x=>match ev E st.tm x with
  | some .nili=>some (some (.bool (!neg)),st)
  | some (.iface _ _)=>some (some (.bool neg),st)
  | _=>none
 | .un op x=>(ev E st.tm x).bind fun a=>(unD op a).map fun d=>(some d,st)
 | .cvi k x=>match ev E st.tm x with
  | some (.int _ n)=>some (some (.int k (k.wrap n)),st)
  | _=>none
 | .cms x=>match ev E st.tm x with
  | some (.str s)=>some (some (.str s),st)
  | _=>none
 | .cbs x=>(ev E st.tm x).bind fun d=>match d with
  | .sl _ _ _ | .ref _ _ _ _ _=>(elems st 1 d).bind fun p=>(Zh p.2).map fun s=>(some (.str s),st)
  | _=>none
 | .csb x=>match ev E st.tm x with
  | some (.str s)=>some (some (.sl .no s.length (ofBytes s)),st)
  | _=>none
 | .ifc t x=>(ev E st.tm x).map fun d=>(some (.iface t d),st)
 | .mkf f cap=>(evL E st.tm cap).map fun l=>(some (.fn f l),st)
 | .mks z bytes n c=>match ev E st.tm n,ev E st.tm c with
  | some (.int .i64 n),some (.int .i64 c)=>
   if 0<=n/\n<=c/\c*bytes<=140737488355328/\c<=140737488355328/\yd z/\0<z.length then
    some (some (.ref st.nx 0 n.toNat c.toNat z.length),st.newOb (.row (rep c.toNat z) false))
   else none
  | _,_=>none
 | .slc sz x l h m=>(ev E st.tm x).bind fun d=>(evO E st.tm l).bind fun l=>(evO E st.tm h).bind fun h=>(evO E st.tm m).bind fun m=>(zeN sz d l h m).map fun v=>(some v,st)
 | .sls x l h=>(ev E st.tm x).bind fun d=>(evO E st.tm l).bind fun l=>(evO E st.tm h).bind fun h=>(zqG d l h).map fun v=>(some v,st)
 | .sla n sz x l h m=>(ev E st.tm x).bind fun d=>(evO E st.tm l).bind fun l=>(evO E st.tm h).bind fun h=>(evO E st.tm m).bind fun m=>(zp8 n sz d l h m).map fun v=>(some v,st)
 | .fad off x=>(ev E st.tm x).bind fun d=>match d with
  | .ptr k o=>some (some (.ptr k (o+off)),st)
  | .el xs=>some (some (.el (xs.drop off)),st)
  | _=>none
 | .fld ag off sz x=>(ev E st.tm x).bind fun d=>match d with
  | .agg xs=>if ag then(if off+sz<=xs.length then some (some (.agg ((xs.drop off).take sz)),st)else none)else(xs[off]?).map fun v=>(some v,st)
  | _=>none
 | .iad sz x i=>(ev E st.tm x).bind fun d=>(ev E st.tm i).bind fun j=>match d with
  | .sl _ n xs=>(idx j n).bind fun i=>if(i+1)*sz<=xs.length then some (some (.el (xs.drop (i*sz))),st)else none
  | .ref k off n _ s=>(idx j n).bind fun i=>if s=sz then some (some (.ptr k (off+i*sz)),st)else none
  | _=>none
 | .iaa n sz x i=>(ev E st.tm x).bind fun d=>(ev E st.tm i).bind fun j=>match d with
  | .ptr k off=>(idx j n).map fun i=>(some (.ptr k (off+i*sz)),st)
  | .el xs=>(idx j n).bind fun i=>some (some (.el (xs.drop (i*sz))),st)
  | _=>none
 | .ixa ag n sz x i=>(ev E st.tm x).bind fun d=>(ev E st.tm i).bind fun j=>match d with
  | .agg xs=>(idx j n).bind fun i=>if ag then(if(i+1)*sz<=xs.length then some (some (.agg ((xs.drop (i*sz)).take sz)),st)else none)else(xs[i*sz]?).map fun v=>(some v,st)
  | _=>none
 | .ixs x i=>(ev E st.tm x).bind fun d=>(ev E st.tm i).bind fun j=>match d with
  | .str s=>(idx j s.length).bind fun i=>(s[i]?).map fun b=>(some (.int .u8 b.toNat),st)
  | _=>none
 | .ext x i=>(ev E st.tm x).bind fun d=>match d with
  | .tup ds=>(ds[i]?).map fun v=>(some v,st)
  | _=>none
 | .len x=>(ev E st.tm x).bind fun d=>match d with
  | .sl _ n _=>some (some (.int .i64 n),st)
  | .ref _ _ n _ _=>some (some (.int .i64 n),st)
  | _=>none
 | .lns x=>match ev E st.tm x with
  | some (.str s)=>some (some (.int .i64 s.length),st)
  | _=>none
 | .cap x=>(ev E st.tm x).bind fun d=>match d with
  | .sl .full n _=>some (some (.int .i64 n),st)
  | .ref _ _ _ c _=>if c<J4 then some (some (.int .i64 c),st)else none
  | _=>none
 | .app sz bytes s x=>(ev E st.tm s).bind fun d=>(ev E st.tm x).bind fun y=>(elems st sz y).bind fun p=>if yd p.2 then(appD sz bytes d p.1 p.2 st).map fun r=>(some r.1,r.2)else none
 | .apz z bytes s x=>(ev E st.tm s).bind fun d=>match ev E st.tm x with
  | some (.int .i64 m)=>if 0<=m/\m<=140737488355328/\m.toNat*bytes<=140737488355328/\yd z=true then(appD z.length bytes d m.toNat (rep m.toNat z) st).map fun r=>(some r.1,r.2)else none
  | _=>none
 | .cpy sz d s=>(ev E st.tm d).bind fun a=>(ev E st.tm s).bind fun y=>(elems st sz y).bind fun p=>match a with
  | .ref k off n _ s'=>if s'=sz/\p.1*sz=p.2.length then(storeD st k off (p.2.take (Nat.min p.1 n*sz))).map fun st'=>(some (.int .i64 (Nat.min p.1 n:Nat)),st')else none
  | .sl .full 0 []=>some (some (.int .i64 0),st)
  | _=>none
 | .min xs=>(evL E st.tm xs).bind fun l=>match l with
  | x::r=>(zl8 x r).map fun d=>(some d,st)
  | []=>none
 | .max xs=>(evL E st.tm xs).bind fun l=>match l with
  | x::r=>(zmS x r).map fun d=>(some d,st)
  | []=>none
 | .rng x=>match ev E st.tm x with
  | some (.str s)=>some (some (.ptr st.nx 0),st.newOb (.iter s 0))
  | _=>none
 | .nxt x=>match ev E st.tm x with
  | some (.ptr k 0)=>match st.mem k with
   | some (.iter s pos)=>
    if pos<s.length then
     some (some (.tup [.bool true,.int .i64 pos,.int .i32 (Utf8.decode ⟨s.toArray⟩ pos).1]),st.setOb k (.iter s (pos+(Utf8.decode ⟨s.toArray⟩ pos).2)))
    else some (some (.tup [.bool false]),st)
   | _=>none
  | _=>none
 | .tas t ok x=>match ev E st.tm x with
  | some (.iface u d)=>if u=t then some (some (if ok then .tup [d,.bool true]else d),st)else none
  | _=>none
 | .nbl t e=>some (some (.ptr st.nx 0),st.newOb (.bld t e []))
 | .apr sz bytes x=>(ev E st.tm x).bind fun y=>(elems st sz y).bind fun p=>if yd p.2=true/\0<p.1/\0<sz/\p.2.length=p.1*sz/\p.1*bytes<=140737488355328/\p.1<=140737488355328 then some (some (.ref st.nx 0 p.1 J4 sz),st.newOb (.row p.2 false))else none
 | .call _ _ | .callv _ _ | .pan _=>none
inductive Rv where
 | val (r:Option D) (st:St) | pan (d:D) (st:St)
def St.set(st:St)(dst:Option Nat)(r:Option D):St:=match r with | some d=>st.put dst d | none=>st.del dst
def outV:Out×St->Rv
 | (.ret d,st') => .val (some d) st'
 | (.pan d,st') => .pan d st'
def opX(E:Env)(cf:Cf)(st:St):O->Option Rv
 | .call f xs=>(evL E st.tm xs).bind fun l=>(cf f l st).map outV
 | .callv g xs=>match ev E st.tm g with
  | some (.fn f c)=>if f<wX then(evL E st.tm xs).bind fun l=>(cf f (l++c) st).map outV else none
  | _=>none
 | .pan x=>match ev E st.tm x with
  | some (.iface t d)=>some (.pan (.iface t d) st)
  | _=>none
 | o=>(opD E st o).map fun p => .val p.1 p.2
def Rv.to(dst:Option Nat):Rv->Rs
 | .val r st => .ok (st.set dst r)
 | .pan d st => .pan d st
def opR(E:Env)(cf:Cf)(dst:Option Nat)(st:St)(o:O):Option Rs:=(opX E cf st o).map (Rv.to dst)
def yO(tm:Tm):Option (Nat×Bool)->Option Bool
 | none=>some true
 | some (t,b)=>match get tm t with
  | some (.bool c)=>some (c==b)
  | some .off=>some false
  | _=>none
def opC(E:Env)(cf:Cf)(o:OpC)(st:St):Option Rs:=
 match yO st.tm o.gd with
 | some true=>opR E cf o.dst st o.op
 | some false=>some (.ok (st.put o.dst .off))
 | none=>none
def runOps(E:Env)(cf:Cf):List OpC->St->Option Rs
 | [],st=>some (.ok st)
 | o::r,st=>match opC E cf o st with
  | some (.ok st')=>runOps E cf r st'
  | e=>e
def runStill(E:Env)(cf:Cf):List OpC->St->Option St
 | [],st=>some st
 | o::r,st=>match opC E cf o st with
  | some (.ok st')=>open Classical in if st'.mem=st.mem then runStill E cf r st' else none
  | _=>none
def O.kind:O->Nat
 | .load _ _ _ | .cbs _=>1
 | .call _ _ | .callv _ _ | .app _ _ _ _ | .apz _ _ _ _=>2
 | .alloc _ | .mks _ _ _ _=>3
 | .box _ | .store _ _ _ | .cpy _ _ _ | .rng _ | .nxt _ | .pan _ | .nbl _ _ | .apr _ _ _=>4
 | _=>0
def writes(Z:List OpC)(t:Nat):Bool:=Z.any fun z=>match z.dst with | some u=>Nat.beq u t | none=>false
def X7(Z:List OpC):Tm->Tm
 | []=>[]
 | (i,e)::r=>if writes Z i then X7 Z r else(i,e)::X7 Z r
def ZNow(E:Env)(z:OpC)(st:St):Prop:=
 (yO st.tm z.gd=some true /\ ∃ r,opD E st z.op=some (r,st) /\ ∀ t d,z.dst=some t->get st.tm t=some d->r=some d) \/
 (yO st.tm z.gd=some false /\ ∀ t d,z.dst=some t->get st.tm t=some d->d = .off)
def panLast(E:Env)(cf:Cf):List OpC->St->Option (D×St)
 | [],_=>none
 | o::r,st=>match opC E cf o st with
  | some (.ok st')=>open Classical in if st'.mem=st.mem then panLast E cf r st' else none
  | some (.pan d st')=>match r with | []=>some (d,st') | _::_=>none
  | none=>none
def runFl(E:Env)(cf:Cf)(Y Z:List OpC):List OpC->St->Option Rs
 | [],st=>some (.ok st)
 | o::r,st=>match opC E cf o st with
  | some (.ok st')=>open Classical in if ∀ z∈Z,ZNow E z st' then runFl E cf Y Z r st' else none
  | some (.pan d st')=>some (.pan d { st' with tm:=X7 Y st'.tm })
  | none=>none
def jy(l:List OpC):List OpC:=l.filter fun z=>Nat.beq z.op.kind 1
def runB(E:Env)(cf:Cf)(Y Z b1 b:List OpC)(st:St):Option Rs:=
 match runFl E cf Y Z b1 st with
 | some (.ok s3)=>runOps E cf b s3
 | r=>r
def runDrw(E:Env)(cf:Cf)(a0 a1 b1 b:List OpC)(st:St):Option Rs:=
 match runOps E cf a0 st with
 | some (.ok s1)=>match runStill E cf a1 s1 with
  | some s2=>runB E cf (a0++a1) (jy a1) b1 b s2
  | none=>(panLast E cf a1 s1).map fun q => .pan q.1 { q.2 with tm:=X7 (a0++a1) q.2.tm }
 | _=>none
def loopN(f:St->Option (Ex×St)):Nat->St->Option (Ex×St)
 | 0,_=>none
 | n+1,st=>match f st with
  | some (.nrm,st')=>loopN f n st'
  | r=>r
def exec(E:Env)(cf:Cf)(n:Nat):C->St->Option (Ex×St)
 | .skip,st=>some (.nrm,st)
 | .reg ops keep,st=>match runOps E cf ops st with
  | some (.ok st')=>some (.nrm,{ st' with tm:=kept keep st'.tm })
  | some (.pan d st')=>some (.pan d,st')
  | none=>none
 | .drw a0 a1 b1 b keep,st=>match runDrw E cf a0 a1 b1 b st with
  | some (.ok st')=>some (.nrm,{ st' with tm:=kept keep st'.tm })
  | some (.pan d st')=>some (.pan d,st')
  | none=>none
 | .seq a b,st=>match exec E cf n a st with
  | some (.nrm,st')=>exec E cf n b st'
  | r=>r
 | .cond c a b,st=>match ev E st.tm c with
  | some (.bool true)=>exec E cf n a st
  | some (.bool false)=>exec E cf n b st
  | _=>none
 | .blk id c,st=>match exec E cf n c st with
  | some (.ext i,st')=>if i=id then some (.nrm,st')else some (.ext i,st')
  | r=>r
 | .loop c,st=>loopN (exec E cf n c) n st
 | .exit id,st=>some (.ext id,st)
 | .ret,st=>some (.ret,st)
def frz(st:St):List Nat->St
 | []=>st
 | k::r=>match st.mem k with
  | some (.row xs _)=>frz (st.setOb k (.row xs true)) r
  | _=>frz st r
def params(i:Nat):List D->Tm
 | []=>[]
 | d::r=>(i,d)::params (i+1) r
def jI(st:St):List R->Option (List D)
 | []=>some []
 | .tmp t::r=>(get st.tm t).bind fun d=>(jI st r).bind fun l=>some (d::l)
 | .cell t ag sz::r=>(get st.tm t).bind fun a=>(vB st ag sz a).bind fun d=>(jI st r).bind fun l=>some (d::l)
def one:List D->D
 | [d]=>d
 | l => .tup l
def leave(fn:Fn)(st s:St)(d:D):D×St:=
 if fn.gv then
  match d with
  | .sl (.ln g sz) n xs=>
   if s.tip g=some n/\pureL (clL s.mem xs)=true /\ ¬ (frz s (refsL xs)).lw<s.lo/\s.lo<=g then(.sl (.ln st.nx sz) n (clL s.mem xs),{ st with tip:=upd st.tip st.nx n,nx:=st.nx+1 })
   else(.und,{ s with tm:=st.tm,lo:=st.lo,lw:=if s.lw<st.lw then s.lw else st.lw })
  | .sl .full n xs=>
   if pureL (clL s.mem xs)=true /\ ¬ (frz s (refsL xs)).lw<s.lo then(.sl .full n (clL s.mem xs),st)
   else(.und,{ s with tm:=st.tm,lo:=st.lo,lw:=if s.lw<st.lw then s.lw else st.lw })
  | _=>(.und,{ s with tm:=st.tm,lo:=st.lo,lw:=if s.lw<st.lw then s.lw else st.lw })
 else if fn.raw then(d,{ s with tm:=st.tm,lo:=st.lo,lw:=if s.lw<st.lw then s.lw else st.lw })
 else if(d.cl s.mem).pure&&decide (¬ (frz s d.refs).lw<s.lo)then(d.cl s.mem,st)
 else(d.cl s.mem,{ frz s d.refs with tm:=st.tm,lo:=st.lo,lw:=if(frz s d.refs).lw<st.lw then(frz s d.refs).lw else st.lw })
def enter(fn:Fn)(ds:List D)(st:St):St:=
 if fn.raw then { st with tm:=params 0 ds,lo:=st.nx,lw:=st.nx }
 else { frz st (refsL ds)with tm:=params 0 (clL st.mem ds),lo:=st.nx,lw:=st.nx }
def home(fn:Fn)(ds:List D)(st:St):St:=if fn.raw then st else frz st (refsL ds)
def told(st:St):D->D×St
 | .sl (.ln _ sz) n xs=>(.sl (.ln st.nx sz) n xs,{ st with tip:=upd st.tip st.nx n,nx:=st.nx+1 })
 | d=>(d,st)
def St.gone(st:St)(k:Nat):St:={ st.touch k with mem:=fun j=>if j=k then none else st.mem j }
def effD(e:Eff)(ds:List D)(st:St):Option (D×St):=
 match e,ds with
 | .ws t e,[.ptr k 0,.str s]=>match st.mem k with
  | some (.bld t' e' r)=>if t'=t/\e'=e/\r.length+s.length<=140737488355328 then some (.tup [.int .i64 s.length,.nili],st.setOb k (.bld t e (r++s)))else none
  | _=>none
 | .wb t e,[.ptr k 0,.int .u8 c]=>match st.mem k with
  | some (.bld t' e' r)=>if t'=t/\e'=e/\r.length+1<=140737488355328/\0<=c/\c<256 then some (.nili,st.setOb k (.bld t e (r++[UInt8.ofNat c.toNat])))else none
  | _=>none
 | .bs t e,[.ptr k 0]=>match st.mem k with
  | some (.bld t' e' r)=>if t'=t/\e'=e then some (.str r,st.gone k)else none
  | _=>none
 | _,_=>none
def dfrRun(E:Env)(cf:Cf)(n:Nat)(q:List X×Fn)(s:St)(r:D):Option St:=
 (evL E s.tm q.1).bind fun l=>match exec E cf n q.2.body (enter q.2 (l++[r]) s)with
  | some (.nrm,s2) | some (.ret,s2)=>some (leave q.2 (home q.2 (l++[r]) s) s2 (.tup [])).2
  | _=>none
def jB(f:Nat)(fn:Fn)(ds:List D)(st s:St):Option (Out×St):=
 (jI s fn.res).map fun l=>(.ret (leave fn (home fn ds st) s (kW f (one l))).1,(leave fn (home fn ds st) s (kW f (one l))).2)
def xK(E:Env)(cf:Cf)(n:Nat)(f:Nat)(fn:Fn)(ds:List D)(st:St):Option (Ex×St)->Option (Out×St)
 | some (.nrm,s) | some (.ret,s)=>match E.dfr f with
  | none=>jB f fn ds st s
  | some q=>(dfrRun E cf n q s .nili).bind (jB f fn ds st)
 | some (.pan d,s)=>match E.dfr f with
  | none=>some (.pan (leave fn (home fn ds st) s d).1,(leave fn (home fn ds st) s d).2)
  | some q=>(dfrRun E cf n q s d).bind (jB f fn ds st)
 | some (.ext i,s)=>if i=zo/\zo<=f then(get s.tm zo).map fun d=>(.ret (leave fn (home fn ds st) s (.tup [.bool false,d])).1,(leave fn (home fn ds st) s (.tup [.bool false,d])).2)else none
 | none=>none
def call(E:Env):Nat->Cf
 | 0,_,_,_=>none
 | n+1,f,ds,st=>match E.ext f with
  | some (.eff e)=>(effD e ds st).map fun q=>(.ret q.1,q.2)
  | some (.fn g)=>(g ds (clL st.mem ds)).map fun d=>(.ret (told (frz st (refsL ds)) d).1,(told (frz st (refsL ds)) d).2)
  | none=>(E.fn f).bind fun fn=>xK E (call E n) n f fn ds st (exec E (call E n) n fn.body (enter fn ds st))
end
section
structure Fr(st st':St):Prop where
 lo:st'.lo=st.lo
 nx:st.nx<=st'.nx
 lw:st'.lw<=st.lw
 mem : ∀ k,k<st.nx->k<st'.lw->st'.mem k=st.mem k
 tip : ∀ k,k<st.nx->k<st'.lw->st'.tip k=st.tip k
theorem Fr.refl(st:St):Fr st st:=⟨rfl,zR _,zR _,fun _ _ _=>rfl,fun _ _ _=>rfl⟩
theorem Fr.trans{a b c:St}(h:Fr a b)(k:Fr b c):Fr a c where
 lo:=k.lo.trans h.lo
 nx:=zBK h.nx k.nx
 lw:=zBK k.lw h.lw
 mem i hi hl:=(k.mem i (zK hi h.nx) hl).trans (h.mem i hi (zK hl k.lw))
 tip i hi hl:=(k.tip i (zK hi h.nx) hl).trans (h.tip i hi (zK hl k.lw))
theorem Fr.tm(st:St)(tm:Tm):Fr st { st with tm:=tm }:=⟨rfl,zR _,zR _,fun _ _ _=>rfl,fun _ _ _=>rfl⟩
theorem Fr.put(st:St)(t:Option Nat)(d:D):Fr st (st.put t d):=by
 cases t with
 | none=>exact .refl st
 | some t=>exact .tm st _
theorem Fr.del(st:St)(t:Option Nat):Fr st (st.del t):=by
 cases t with
 | none=>exact .refl st
 | some t=>exact .tm st _
theorem Fr.newOb(st:St)(o:Ob):Fr st (st.newOb o):=by refine⟨rfl,Nat.le_succ _,zR _,fun k hk _ => ?_,fun _ _ _=>rfl⟩;show upd st.mem st.nx o k=_;unfold upd;rw[zBt (by omega)]
theorem Vn(st:St)(k:Nat):(st.touch k).lw<=st.lw/\(st.touch k).lw<=k:=by show(if k<st.lw then k else st.lw)<=st.lw/\(if k<st.lw then k else st.lw)<=k;split<;>omega
theorem Fr.setOb(st:St)(k:Nat)(o:Ob):Fr st (st.setOb k o):=by refine⟨rfl,zR _,(Vn st k).1,fun j hj hl => ?_,fun _ _ _=>rfl⟩;have h2:=(Vn st k).2;have hl:j<(st.touch k).lw:=hl;show upd st.mem k o j=_;unfold upd;rw[zBt (by omega)]
theorem Fr.setTip(st:St)(g n:Nat):Fr st { st.touch g with tip:=upd st.tip g n }:=by refine⟨rfl,zR _,(Vn st g).1,fun j hj hl=>rfl,fun j hj hl => ?_⟩;have h2:=(Vn st g).2;have hl:j<(st.touch g).lw:=hl;show upd st.tip g n j=_;unfold upd;rw[zBt (by omega)]
theorem Fr.newTip(st:St)(n:Nat):Fr st { st with tip:=upd st.tip st.nx n,nx:=st.nx+1 }:=by refine⟨rfl,Nat.le_succ _,zR _,fun j hj hl=>rfl,fun j hj hl => ?_⟩;show upd st.tip st.nx n j=_;unfold upd;rw[zBt (by omega)]
theorem Fr.frz(st:St)(l:List Nat):Fr st (frz st l):=by
 induction l generalizing st with
 | nil=>exact .refl st
 | cons k r ih=>
  simp only[Ev.frz];split
  ·exact .trans (.setOb st k _) (ih _)
  ·exact ih _
theorem Fr.storeD{st st':St}{k off:Nat}{ys:List D}(h:storeD st k off ys=some st'):Fr st st':=by
 unfold Ev.storeD at h;split at h
 ·split at h
  ·injection h with h;subst h;exact .setOb _ _ _
  ·simp at h
 ·simp at h
theorem Fr.appD{sz bytes m:Nat}{s d:D}{ys:List D}{st st':St}(h:appD sz bytes s m ys st=some (d,st')):Fr st st':=by
 unfold Ev.appD at h;split at h
 ·split at h
  ·split at h
   ·simp at h
   ·injection h with h;injection h with h1 h;subst h;exact .newTip _ _
   ·split at h
    ·injection h with h;injection h with h1 h;subst h;exact .setTip _ _ _
    ·simp at h
  ·simp at h
 ·split at h
  ·split at h
   ·split at h
    ·split at h
     ·simp at h
     ·simp only[zB,zBC]at h;obtain⟨s2,h,_,rfl⟩:=h;exact .storeD h
    ·injection h with h;injection h with h1 h;subst h;exact .newTip _ _
   ·simp at h
  ·simp at h
 ·simp at h
structure Fq(st st':St):Prop extends Fr st st' where
 tm:st'.tm=st.tm
theorem Fq.refl(st:St):Fq st st:=⟨.refl st,rfl⟩
theorem Fq.newOb(st:St)(o:Ob):Fq st (st.newOb o):=⟨.newOb st o,rfl⟩
theorem Fq.setOb(st:St)(k:Nat)(o:Ob):Fq st (st.setOb k o):=⟨.setOb st k o,rfl⟩
theorem Fq.storeD{st st':St}{k off:Nat}{ys:List D}(h:storeD st k off ys=some st'):Fq st st':=by
 refine⟨.storeD h,?_⟩;unfold Ev.storeD at h;split at h
 ·split at h
  ·injection h with h;subst h;rfl
  ·simp at h
 ·simp at h
theorem Fq.appD{sz bytes m:Nat}{s d:D}{ys:List D}{st st':St}(h:appD sz bytes s m ys st=some (d,st')):Fq st st':=by
 refine⟨.appD h,?_⟩;unfold Ev.appD at h;split at h
 ·split at h
  ·split at h
   ·simp at h
   ·injection h with h;injection h with h1 h;subst h;rfl
   ·split at h
    ·injection h with h;injection h with h1 h;subst h;rfl
    ·simp at h
  ·simp at h
 ·split at h
  ·split at h
   ·split at h
    ·split at h
     ·simp at h
     ·simp only[zB,zBC]at h;obtain⟨s2,h,_,rfl⟩:=h;exact(Fq.storeD h).tm
    ·injection h with h;injection h with h1 h;subst h;rfl
   ·simp at h
  ·simp at h
 ·simp at h
theorem Fq.opD{E:Env}{st st':St}{o:O}{r:Option D}(h:opD E st o=some (r,st')):Fq st st':=by
 cases o;case alloc z=>simp only[Ev.opD,zBB,zBC]at h;obtain⟨_,rfl⟩:=h;exact .newOb _ _
 case nbl t e=>simp only[Ev.opD,zBB,zBC]at h;obtain⟨_,rfl⟩:=h;exact .newOb _ _
 case apr sz by' x=>
  simp only[Ev.opD,zA]at h;obtain⟨d,_,p,_,h⟩:=h;split at h
  ·simp only[zBB,zBC]at h;obtain⟨_,rfl⟩:=h;exact .newOb _ _
  ·simp at h
 case box x=>
  simp only[Ev.opD,zA]at h;obtain⟨d,_,h⟩:=h;split at h
  ·simp only[zBB,zBC]at h;obtain⟨_,rfl⟩:=h;exact .newOb _ _
  ·simp at h
 case store sz a v=>
  simp only[Ev.opD,zA]at h;obtain⟨d,_,x,_,h⟩:=h;split at h
  ·split at h
   ·simp only[zB,zBC]at h;obtain⟨s2,h,_,rfl⟩:=h;exact .storeD h
   ·simp at h
  ·simp at h
 case mks z bytes n c=>
  simp only[Ev.opD]at h;split at h
  ·split at h
   ·simp only[zBB,zBC]at h;obtain⟨_,rfl⟩:=h;exact .newOb _ _
   ·simp at h
  ·simp at h
 case app sz bytes s x=>
  simp only[Ev.opD,zA]at h;obtain⟨d,_,y,_,p,_,h⟩:=h;split at h
  ·simp only[zB,zBC]at h;obtain⟨q,h,_,rfl⟩:=h;exact .appD h
  ·simp at h
 case apz z bytes s x=>
  simp only[Ev.opD,zA]at h;obtain⟨d,_,h⟩:=h;split at h
  ·split at h
   ·simp only[zB,zBC]at h;obtain⟨q,h,_,rfl⟩:=h;exact .appD h
   ·simp at h
  ·simp at h
 case cpy sz d s=>
  simp only[Ev.opD,zA]at h;obtain⟨a,_,y,_,p,_,h⟩:=h;split at h
  ·split at h
   ·simp only[zB,zBC]at h;obtain⟨q,h,_,rfl⟩:=h;exact .storeD h
   ·simp at h
  ·simp only[zBB,zBC]at h;obtain⟨_,rfl⟩:=h;exact .refl _
  ·simp at h
 case rng x=>
  simp only[Ev.opD]at h;split at h
  ·simp only[zBB,zBC]at h;obtain⟨_,rfl⟩:=h;exact .newOb _ _
  ·simp at h
 case nxt x=>
  simp only[Ev.opD]at h;split at h
  ·split at h
   ·split at h
    ·simp only[zBB,zBC]at h;obtain⟨_,rfl⟩:=h;exact .setOb _ _ _
    ·simp only[zBB,zBC]at h;obtain⟨_,rfl⟩:=h;exact .refl _
   ·simp at h
  ·simp at h
 all_goals
  suffices hs:st'=st by subst hs;exact .refl _
  simp only[Ev.opD,zA,zB,reduceCtorEq]at h;try (repeat' split at h)
  all_goals (try simp only[zA,zB,zBC,zBB,reduceCtorEq]at h)
  all_goals (try (first | done | grind))
  all_goals (try obtain⟨_,_,h⟩:=h)
  all_goals (try obtain⟨_,_,h⟩:=h)
  all_goals (try (repeat' split at h))
  all_goals (try simp only[zA,zB,zBC,zBB,reduceCtorEq]at h)
  all_goals (try grind)
def wH(cf:Cf):Prop := ∀ f ds st o st',cf f ds st=some (o,st')->Fq st st'
def Rs.st:Rs->St
 | .ok st=>st
 | .pan _ st=>st
def Rv.st:Rv->St
 | .val _ st=>st
 | .pan _ st=>st
theorem zsh(p:Out×St):(outV p).st=p.2:=by obtain⟨o,st⟩:=p;cases o<;>rfl
theorem Fq.opX{E:Env}{cf:Cf}(hc:wH cf){st:St}{o:O}{r:Rv}(h:opX E cf st o=some r):Fq st r.st:=by
 have base:((Ev.opD E st o).map fun p=>Rv.val p.1 p.2)=some r->Fq st r.st:=by intro h;simp only[zB]at h;obtain⟨⟨d,st'⟩,he,rfl⟩:=h;exact .opD he
 cases o;case call f xs=>simp only[Ev.opX,zA,zB]at h;obtain⟨l,_,⟨q,st'⟩,he,rfl⟩:=h;rw[zsh];exact hc _ _ _ _ _ he
 case callv g xs=>
  simp only[Ev.opX]at h;split at h
  ·split at h<;>try contradiction
   simp only[zA,zB]at h;obtain⟨l,_,⟨q,st'⟩,he,rfl⟩:=h;rw[zsh];exact hc _ _ _ _ _ he
  ·simp at h
 case pan x=>
  simp only[Ev.opX]at h;split at h
  ·injection h with h;subst h;exact .refl _
  ·simp at h
 all_goals exact base h
theorem Fr.set(st:St)(dst:Option Nat)(r:Option D):Fr st (st.set dst r):=by
 cases r with
 | some d=>exact .put st dst d
 | none=>exact .del st dst
theorem Fr.opR{E:Env}{cf:Cf}(hc:wH cf){dst:Option Nat}{st:St}{o:O}{r:Rs}(h:opR E cf dst st o=some r):Fr st r.st:=by
 simp only[Ev.opR,zB]at h;obtain⟨q,hq,rfl⟩:=h;have:=(Fq.opX hc hq).toFr;cases q with
 | val r st'=>exact this.trans (.set st' dst r)
 | pan d st'=>exact this
theorem Fr.opC{E:Env}{cf:Cf}(hc:wH cf){o:OpC}{st:St}{r:Rs}(h:opC E cf o st=some r):Fr st r.st:=by
 unfold Ev.opC at h;split at h
 ·exact .opR hc h
 ·injection h with h;subst h;exact .put _ _ _
 ·simp at h
theorem Fr.runOps{E:Env}{cf:Cf}(hc:wH cf){l:List OpC}{st:St}{r:Rs}(h:runOps E cf l st=some r):Fr st r.st:=by
 induction l generalizing st with
 | nil=>injection h with h;subst h;exact .refl _
 | cons o l ih=>
  simp only[Ev.runOps]at h;split at h
  ·next st' he=>exact .trans (.opC hc he) (ih h)
  ·exact .opC hc h
theorem Fr.runStill{E:Env}{cf:Cf}(hc:wH cf){l:List OpC}{st st':St}(h:runStill E cf l st=some st'):Fr st st':=by
 induction l generalizing st with
 | nil=>injection h with h;subst h;exact .refl _
 | cons o l ih=>
  simp only[Ev.runStill]at h;split at h
  ·next s he=>
   split at h
   ·exact .trans (.opC hc he) (ih h)
   ·simp at h
  ·simp at h
theorem Fr.panLast{E:Env}{cf:Cf}(hc:wH cf){l:List OpC}{st:St}{q:D×St}(h:panLast E cf l st=some q):Fr st q.2:=by
 induction l generalizing st with
 | nil=>simp[Ev.panLast]at h
 | cons o l ih=>
  simp only[Ev.panLast]at h;split at h
  ·next s he=>
   split at h
   ·exact .trans (.opC hc he) (ih h)
   ·simp at h
  ·next d s he=>
   cases l with
   | nil=>injection h with h;subst h;exact .opC hc he
   | cons a b=>simp at h
  ·simp at h
theorem Fr.runFl{E:Env}{cf:Cf}(hc:wH cf){Y Z l:List OpC}{st:St}{r:Rs}(h:runFl E cf Y Z l st=some r):Fr st r.st:=by
 induction l generalizing st with
 | nil=>injection h with h;subst h;exact .refl _
 | cons o l ih=>
  simp only[Ev.runFl]at h;split at h
  ·next s he=>
   split at h
   ·exact .trans (.opC hc he) (ih h)
   ·simp at h
  ·next d s he=>
   injection h with h;subst h;exact .trans (.opC hc he) (.tm s _)
  ·simp at h
theorem Fr.runB{E:Env}{cf:Cf}(hc:wH cf){Y Z b1 b:List OpC}{st:St}{r:Rs}(h:runB E cf Y Z b1 b st=some r):Fr st r.st:=by
 unfold Ev.runB at h;split at h
 ·next s3 h3=>exact(show Fr st s3 from Fr.runFl hc h3).trans (Fr.runOps hc h)
 ·exact Fr.runFl hc h
theorem Fr.runDrw{E:Env}{cf:Cf}(hc:wH cf){a0 a1 b1 b:List OpC}{st:St}{r:Rs}(h:runDrw E cf a0 a1 b1 b st=some r):Fr st r.st:=by
 unfold Ev.runDrw at h;split at h
 ·next s1 h1=>
  have h1:=Fr.runOps hc h1;split at h
  ·next s2 h2=>
   exact(h1.trans (Fr.runStill hc h2)).trans (Fr.runB hc h)
  ·simp only[zB]at h;obtain⟨q,hq,rfl⟩:=h;exact h1.trans ((Fr.panLast hc hq).trans (.tm q.2 _))
 ·simp at h
theorem Fr.loopN{f:St->Option (Ex×St)}(hf : ∀ st e st',f st=some (e,st')->Fr st st'){n:Nat}{st st':St}{e:Ex}(h:loopN f n st=some (e,st')):Fr st st':=by
 induction n generalizing st with
 | zero=>simp[Ev.loopN]at h
 | succ n ih=>
  simp only[Ev.loopN]at h;split at h
  ·next s he=>exact .trans (hf _ _ _ he) (ih h)
  ·exact hf _ _ _ h
theorem Fr.exec{E:Env}{cf:Cf}(hc:wH cf){n:Nat}{c:C}{st st':St}{e:Ex}(h:exec E cf n c st=some (e,st')):Fr st st':=by
 induction c generalizing st st' e with
 | skip=>simp only[Ev.exec,zBB,zBC]at h;obtain⟨_,rfl⟩:=h;exact .refl _
 | reg ops keep=>
  simp only[Ev.exec]at h;split at h
  ·next s he=>
   simp only[zBB,zBC]at h;obtain⟨_,rfl⟩:=h;exact .trans (.runOps hc he) (.tm s _)
  ·next d s he=>
   simp only[zBB,zBC]at h;obtain⟨_,rfl⟩:=h;exact .runOps hc he
  ·simp at h
 | drw a0 a1 b1 b keep=>
  simp only[Ev.exec]at h;split at h
  ·next s he=>
   simp only[zBB,zBC]at h;obtain⟨_,rfl⟩:=h;exact .trans (.runDrw hc he) (.tm s _)
  ·next d s he=>
   simp only[zBB,zBC]at h;obtain⟨_,rfl⟩:=h;exact .runDrw hc he
  ·simp at h
 | seq a b iha ihb=>
  simp only[Ev.exec]at h;split at h
  ·next s he=>exact .trans (iha he) (ihb h)
  ·exact iha h
 | cond c a b iha ihb=>
  simp only[Ev.exec]at h;split at h
  ·exact iha h
  ·exact ihb h
  ·simp at h
 | blk id c ih=>
  simp only[Ev.exec]at h;split at h
  ·next i s he=>
   split at h <;>
   ·simp only[zBB,zBC]at h;obtain⟨_,rfl⟩:=h;exact ih he
  ·exact ih h
 | loop c ih=>simp only[Ev.exec]at h;exact Fr.loopN (fun _ _ _ h=>ih h) h
 | exit id=>simp only[Ev.exec,zBB,zBC]at h;obtain⟨_,rfl⟩:=h;exact .refl _
 | ret=>simp only[Ev.exec,zBB,zBC]at h;obtain⟨_,rfl⟩:=h;exact .refl _
theorem Fr.leave{fn:Fn}{st0 st s:St}{ds tm':_}(h0:Fr st0 st)(hn:st.nx=st0.nx)(he:Fr { st with tm:=tm',lo:=st0.nx,lw:=st0.nx } s)(d:D)(hds:ds=d):Fr st0 (leave fn st s ds).2:=by
 have hs:Fr st0 { s with tm:=st.tm,lo:=st.lo,lw:=if s.lw<st.lw then s.lw else st.lw }:=by
  refine⟨h0.lo,zBK h0.nx he.nx,?_,fun k hk hl => ?_,fun k hk hl => ?_⟩
  ·have:=h0.lw;show(if s.lw<st.lw then s.lw else st.lw)<=_;split<;>omega
  ·have hl:k<(if s.lw<st.lw then s.lw else st.lw):=hl;have h1:k<s.lw/\k<st.lw:=by split at hl<;>omega
   exact(he.mem k (by show k<st.nx;omega) h1.1).trans (h0.mem k hk h1.2)
  ·have hl:k<(if s.lw<st.lw then s.lw else st.lw):=hl;have h1:k<s.lw/\k<st.lw:=by split at hl<;>omega
   exact(he.tip k (by show k<st.nx;omega) h1.1).trans (h0.tip k hk h1.2)
 unfold Ev.leave;split
 ·split
  ·split
   ·exact h0.trans (.newTip st _)
   ·exact hs
  ·split
   ·exact h0
   ·exact hs
  ·exact hs
 ·split
  ·exact hs
  ·split
   ·exact h0
   ·have hz:=Fr.frz s ds.refs;refine⟨h0.lo,zBK h0.nx (zBK he.nx hz.nx),?_,fun k hk hl => ?_,fun k hk hl => ?_⟩
    ·have:=h0.lw;show(if(Ev.frz s ds.refs).lw<st.lw then(Ev.frz s ds.refs).lw else st.lw)<=_;split<;>omega
    ·have hl:k<(if(Ev.frz s ds.refs).lw<st.lw then(Ev.frz s ds.refs).lw else st.lw):=hl;have h1:k<(Ev.frz s ds.refs).lw/\k<st.lw:=by split at hl<;>omega
     have h2:=hz.lw;have h3:=he.nx;have h4:st.nx<=s.nx:=h3;exact(hz.mem k (by omega) h1.1).trans ((he.mem k (by show k<st.nx;omega) (by omega)).trans (h0.mem k hk h1.2))
    ·have hl:k<(if(Ev.frz s ds.refs).lw<st.lw then(Ev.frz s ds.refs).lw else st.lw):=hl;have h1:k<(Ev.frz s ds.refs).lw/\k<st.lw:=by split at hl<;>omega
     have h2:=hz.lw;have h4:st.nx<=s.nx:=he.nx;exact(hz.tip k (by omega) h1.1).trans ((he.tip k (by show k<st.nx;omega) (by omega)).trans (h0.tip k hk h1.2))
theorem W9(st:St)(l:List Nat):(frz st l).tm=st.tm:=by
 induction l generalizing st with
 | nil=>rfl
 | cons k r ih=>
  simp only[frz];split
  ·rw[ih];rfl
  ·exact ih _
theorem ziQ(fn:Fn)(st s:St)(d:D):(leave fn st s d).2.tm=st.tm:=by
 unfold leave;split
 ·split
  ·split<;>rfl
  ·split<;>rfl
  ·rfl
 ·split
  ·rfl
  ·split<;>rfl
theorem zmm(fn:Fn)(ds:List D)(st:St):(home fn ds st).tm=st.tm:=by
 unfold home;split
 ·rfl
 ·exact W9 _ _
theorem QN(st:St)(l:List Nat):(frz st l).nx=st.nx:=by
 induction l generalizing st with
 | nil=>rfl
 | cons k r ih=>
  simp only[frz];split
  ·rw[ih];rfl
  ·exact ih _
theorem Fr.home(fn:Fn)(ds:List D)(st:St):Fr st (home fn ds st)/\(home fn ds st).nx=st.nx:=by
 unfold Ev.home;split
 ·exact⟨.refl _,rfl⟩
 ·exact⟨.frz _ _,QN _ _⟩
theorem zpm(fn:Fn)(ds:List D)(st:St) : ∃ tm,enter fn ds st={ home fn ds st with tm:=tm,lo:=st.nx,lw:=st.nx }:=by
 unfold enter home;split
 ·exact⟨_,rfl⟩
 ·exact⟨_,rfl⟩
theorem Fr.told(st:St)(d:D):Fr st (Ev.told st d).2/\(Ev.told st d).2.tm=st.tm:=by
 unfold Ev.told;split
 ·refine⟨⟨rfl,Nat.le_succ _,zR _,fun _ _ _=>rfl,fun k hk _ => ?_⟩,rfl⟩;show upd _ _ _ k=_;unfold upd;rw[zBt (by omega)]
 ·exact⟨.refl st,rfl⟩
theorem Fr.gone(st:St)(k:Nat):Fr st (st.gone k):=by refine⟨rfl,zR _,(Vn st k).1,fun j hj hl => ?_,fun _ _ _=>rfl⟩;have h2:=(Vn st k).2;have hl:j<(st.touch k).lw:=hl;show(if j=k then none else st.mem j)=_;rw[zBt (by omega)]
theorem Fq.effD{e:Eff}{ds:List D}{st st':St}{d:D}(h:effD e ds st=some (d,st')):Fq st st':=by
 unfold Ev.effD at h
 repeat' split at h
 all_goals first
  | contradiction
  | (simp only[zBB,zBC]at h;obtain⟨_,rfl⟩:=h;exact .setOb _ _ _)
  | (simp only[zBB,zBC]at h;obtain⟨_,rfl⟩:=h;exact⟨.gone _ _,rfl⟩)
theorem Fq.dfrRun{E:Env}{cf:Cf}(hc:wH cf){n:Nat}{q:List X×Fn}{s s':St}{r:D}(h:dfrRun E cf n q s r=some s'):Fq s s':=by
 unfold Ev.dfrRun at h;rw[zA]at h;obtain⟨l,_,h⟩:=h;obtain⟨tm,ht⟩:=zpm q.2 (l++[r]) s;have hh:=Fr.home q.2 (l++[r]) s;rw[ht]at h;split at h
 ·next s2 he=>
  injection h with h;subst h;exact⟨Fr.leave hh.1 hh.2 (Fr.exec hc he) _ rfl,(ziQ _ _ _ _).trans (zmm _ _ _)⟩
 ·next s2 he=>
  injection h with h;subst h;exact⟨Fr.leave hh.1 hh.2 (Fr.exec hc he) _ rfl,(ziQ _ _ _ _).trans (zmm _ _ _)⟩
 ·contradiction
theorem Fq.call{E:Env}{n:Nat}:wH (call E n):=by
 induction n with
 | zero=>intro f ds st o st' h;simp[Ev.call]at h
 | succ n ih=>
  intro f ds st o st' h;simp only[Ev.call]at h;split at h
  ·simp only[zB,zBC]at h;obtain⟨⟨d,s⟩,hq,_,rfl⟩:=h;exact Fq.effD hq
  ·simp only[zB,zBC]at h;obtain⟨d,_,_,rfl⟩:=h;exact⟨(Fr.frz _ _).trans (Fr.told _ d).1,(Fr.told _ d).2.trans (W9 _ _)⟩
  simp only[zA]at h;obtain⟨fn,_,h⟩:=h;obtain⟨tm,ht⟩:=zpm fn ds st;have hh:=Fr.home fn ds st;rw[ht]at h;have fin : ∀ {s d},Fr { home fn ds st with tm:=tm,lo:=st.nx,lw:=st.nx } s->Fq st (leave fn (home fn ds st) s d).2:=fun hs=>⟨Fr.leave hh.1 hh.2 hs _ rfl,(ziQ _ _ _ _).trans (zmm _ _ _)⟩
  have res : ∀ {s},Fr { home fn ds st with tm:=tm,lo:=st.nx,lw:=st.nx } s->jB f fn ds st s=some (o,st')->Fq st st':=by intro s hs hr;simp only[jB,zB,zBC]at hr;obtain⟨l,_,_,rfl⟩:=hr;exact fin hs
  have dfr : ∀ {s q r},Fr { home fn ds st with tm:=tm,lo:=st.nx,lw:=st.nx } s->(Ev.dfrRun E (Ev.call E n) n q s r).bind (jB f fn ds st)=some (o,st')->Fq st st':=by intro s q r hs hr;rw[zA]at hr;obtain⟨s2,h2,h3⟩:=hr;exact res (hs.trans (Fq.dfrRun ih h2).toFr) h3
  cases he:exec E (Ev.call E n) n fn.body { home fn ds st with tm:=tm,lo:=st.nx,lw:=st.nx } with
  | none=>rw[he]at h;contradiction
  | some w=>
   rw[he]at h;obtain⟨e,s⟩:=w;have hs:=Fr.exec ih he;cases e with
   | nrm=>
    simp only[xK]at h;split at h
    ·exact res hs h
    ·exact dfr hs h
   | ret=>
    simp only[xK]at h;split at h
    ·exact res hs h
    ·exact dfr hs h
   | pan d=>
    simp only[xK]at h;split at h
    ·injection h with h;injection h with _ h;subst h;exact fin hs
    ·exact dfr hs h
   | ext i=>
    simp only[xK]at h;split at h
    ·simp only[zB,zBC]at h;obtain⟨d,_,_,rfl⟩:=h;exact fin hs
    ·contradiction
def zcg(cf cf':Cf):Prop := ∀ f ds st r,cf f ds st=some r->cf' f ds st=some r
theorem zvZ{E:Env}{cf cf':Cf}(hc:zcg cf cf'){st:St}{o:O}{r:Rv}(h:opX E cf st o=some r):opX E cf' st o=some r:=by
 cases o;case call f xs=>simp only[Ev.opX,zA,zB]at h ⊢;obtain⟨l,hl,q,hq,h⟩:=h;exact⟨l,hl,q,hc _ _ _ _ hq,h⟩
 case callv g xs=>
  simp only[Ev.opX]at h ⊢;split at h
  ·split at h<;>try contradiction
   next hlt=>rw[zBu hlt];simp only[zA,zB]at h ⊢;obtain⟨l,hl,q,hq,h⟩:=h;exact⟨l,hl,q,hc _ _ _ _ hq,h⟩
  ·simp at h
 all_goals exact h
theorem km{E:Env}{cf cf':Cf}(hc:zcg cf cf'){o:OpC}{st:St}{r:Rs}(h:opC E cf o st=some r):opC E cf' o st=some r:=by
 unfold opC at h ⊢;split at h
 ·simp only[Ev.opR,zB]at h ⊢;obtain⟨q,hq,h⟩:=h;exact⟨q,zvZ hc hq,h⟩
 ·exact h
 ·exact h
theorem qh{E:Env}{cf cf':Cf}(hc:zcg cf cf'){l:List OpC}{st:St}{r:Rs}(h:runOps E cf l st=some r):runOps E cf' l st=some r:=by
 induction l generalizing st with
 | nil=>exact h
 | cons o l ih=>
  simp only[runOps]at h ⊢;have ho : ∀ q,opC E cf o st=some q->opC E cf' o st=some q:=fun q hq=>km hc hq
  split at h
  ·next st' he=>rw[ho _ he];exact ih h
  ·next e he=>rw[ho _ h];cases r with
   | ok st'=>exact(he st' h).elim
   | pan d s=>rfl
theorem Yn{E:Env}{cf cf':Cf}(hc:zcg cf cf'){l:List OpC}{st st':St}(h:runStill E cf l st=some st'):runStill E cf' l st=some st':=by
 induction l generalizing st with
 | nil=>exact h
 | cons o l ih=>
  simp only[runStill]at h ⊢;split at h
  ·next s he=>
   rw[km hc he];split at h
   ·next hm=>simp only[hm,zBv];exact ih h
   ·simp at h
  ·simp at h
theorem WV{E:Env}{cf:Cf}{l:List OpC}{st:St}{q:D×St}(h:panLast E cf l st=some q):runStill E cf l st=none:=by
 induction l generalizing st with
 | nil=>simp[panLast]at h
 | cons o l ih=>
  simp only[panLast]at h;simp only[runStill];split at h
  ·next s he=>
   rw[he];split at h
   ·next hm=>simp only[hm,zBv];exact ih h
   ·simp at h
  ·next he=>rw[he]
  ·next he=>rw[he]
theorem Qb{E:Env}{cf cf':Cf}(hc:zcg cf cf'){l:List OpC}{st:St}{q:D×St}(h:panLast E cf l st=some q):panLast E cf' l st=some q:=by
 induction l generalizing st with
 | nil=>exact h
 | cons o l ih=>
  simp only[panLast]at h ⊢;split at h
  ·next s he=>
   rw[km hc he];split at h
   ·next hm=>simp only[hm,zBv];exact ih h
   ·simp at h
  ·next d s he=>
   rw[km hc he];exact h
  ·simp at h
theorem X5{E:Env}{cf cf':Cf}(hc:zcg cf cf'){Y Z l:List OpC}{st:St}{r:Rs}(h:runFl E cf Y Z l st=some r):runFl E cf' Y Z l st=some r:=by
 induction l generalizing st with
 | nil=>exact h
 | cons o l ih=>
  simp only[runFl]at h ⊢;split at h
  ·next s he=>
   rw[km hc he];split at h
   ·next hm=>simp only;rw[zBu hm];exact ih h
   ·simp at h
  ·next d s he=>
   rw[km hc he];exact h
  ·simp at h
theorem zsU{E:Env}{cf cf':Cf}(hc:zcg cf cf'){Y Z b1 b:List OpC}{st:St}{r:Rs}(h:runB E cf Y Z b1 b st=some r):runB E cf' Y Z b1 b st=some r:=by
 unfold runB at h ⊢;split at h
 ·next s3 h3=>rw[X5 hc h3];exact qh hc h
 ·next hne=>
  rw[X5 hc h];cases r with
  | ok s3=>exact(hne s3 h).elim
  | pan d s=>rfl
theorem zfh{E:Env}{cf cf':Cf}(hc:zcg cf cf'){a0 a1 b1 b:List OpC}{st:St}{r:Rs}(h:runDrw E cf a0 a1 b1 b st=some r):runDrw E cf' a0 a1 b1 b st=some r:=by
 unfold runDrw at h ⊢;split at h
 ·next s1 h1=>
  rw[qh hc h1];simp only;split at h
  ·next s2 h2=>
   rw[Yn hc h2];exact zsU hc h
  ·simp only[zB]at h;obtain⟨q,hq,rfl⟩:=h;have:=Qb hc hq;rw[WV this,this];rfl
 ·simp at h
theorem VZ{f f':St->Option (Ex×St)}(hf : ∀ st r,f st=some r->f' st=some r){n n':Nat}(hn:n<=n'){st:St}{r:Ex×St}(h:loopN f n st=some r):loopN f' n' st=some r:=by
 induction n generalizing st n' with
 | zero=>simp[loopN]at h
 | succ n ih=>
  cases n' with
  | zero=>omega
  | succ n'=>
   simp only[loopN]at h ⊢;split at h
   ·next s he=>rw[hf _ _ he];exact ih (by omega) h
   ·next hne=>
     rw[hf _ _ h];split
     ·next s he=>injection he with he;subst he;exact(hne s h).elim
     ·rfl
theorem kU{E:Env}{cf cf':Cf}(hc:zcg cf cf'){n n':Nat}(hn:n<=n'){c:C}{st:St}{r:Ex×St}(h:exec E cf n c st=some r):exec E cf' n' c st=some r:=by
 induction c generalizing st r with
 | skip=>exact h
 | reg ops keep=>
  simp only[Ev.exec]at h ⊢;split at h
  ·next s he=>rw[qh hc he];exact h
  ·next d s he=>rw[qh hc he];exact h
  ·simp at h
 | drw a0 a1 b1 b keep=>
  simp only[Ev.exec]at h ⊢;split at h
  ·next s he=>rw[zfh hc he];exact h
  ·next d s he=>rw[zfh hc he];exact h
  ·simp at h
 | seq a b iha ihb=>
  simp only[Ev.exec]at h ⊢;split at h
  ·next s he=>rw[iha he];exact ihb h
  ·next hne=>
    rw[iha h];split
    ·next s he=>injection he with he;subst he;exact(hne s h).elim
    ·rfl
 | cond c a b iha ihb=>
  simp only[Ev.exec]at h ⊢;split at h
  ·exact iha h
  ·exact ihb h
  ·simp at h
 | blk id c ih=>
  simp only[Ev.exec]at h ⊢;split at h
  ·next i s he=>rw[ih he];exact h
  ·next hne=>
    rw[ih h];split
    ·next i s he=>injection he with he;subst he;exact(hne i s h).elim
    ·rfl
 | loop c ih=>simp only[Ev.exec]at h ⊢;exact VZ (fun _ _ h=>ih h) hn h
 | exit id=>exact h
 | ret=>exact h
theorem zpF{E:Env}{cf cf':Cf}(hc:zcg cf cf'){n n':Nat}(hn:n<=n'){q:List X×Fn}{s s':St}{r:D}(h:dfrRun E cf n q s r=some s'):dfrRun E cf' n' q s r=some s':=by
 unfold dfrRun at h ⊢;rw[zA]at h ⊢;obtain⟨l,hl,h⟩:=h;refine⟨l,hl,?_⟩;cases he:exec E cf n q.2.body (enter q.2 (l++[r]) s)with
 | none=>rw[he]at h;contradiction
 | some w=>rw[kU hc hn he];rw[he]at h;exact h
theorem zuG{E:Env}{cf cf':Cf}(hc:zcg cf cf'){n n':Nat}(hn:n<=n'){f:Nat}{fn:Fn}{ds:List D}{st:St}{w:Option (Ex×St)}{r:Out×St}(h:xK E cf n f fn ds st w=some r):xK E cf' n' f fn ds st w=some r:=by
 have dfr : ∀ {s q d},(dfrRun E cf n q s d).bind (jB f fn ds st)=some r->(dfrRun E cf' n' q s d).bind (jB f fn ds st)=some r:=by intro s q d h;rw[zA]at h ⊢;obtain⟨s2,h2,h3⟩:=h;exact⟨s2,zpF hc hn h2,h3⟩
 match w with
 | none=>exact h
 | some (.ext i,s)=>exact h
 | some (.nrm,s)=>
  simp only[xK]at h ⊢;split at h
  ·exact h
  ·exact dfr h
 | some (.ret,s)=>
  simp only[xK]at h ⊢;split at h
  ·exact h
  ·exact dfr h
 | some (.pan d,s)=>
  simp only[xK]at h ⊢;split at h
  ·exact h
  ·exact dfr h
theorem zrF(E:Env)(n:Nat):zcg (call E n) (call E (n+1)):=by
 induction n with
 | zero=>intro f ds st r h;simp[call]at h
 | succ n ih=>
  intro f ds st r h;rw[call]at h ⊢;split at h
  ·exact h
  ·exact h
  simp only[zA]at h ⊢;obtain⟨fn,hf,h⟩:=h;refine⟨fn,hf,?_⟩;cases he:exec E (call E n) n fn.body (enter fn ds st)with
  | none=>rw[he]at h;contradiction
  | some q=>rw[kU ih (Nat.le_succ n) he];rw[he]at h;exact zuG ih (Nat.le_succ n) h
theorem xj(E:Env){n n':Nat}(h:n<=n'):zcg (call E n) (call E n'):=by
 induction h with
 | refl=>exact fun _ _ _ _ h=>h
 | step _ ih=>exact fun f ds st r h=>zrF E _ f ds st r (ih f ds st r h)
end
section
structure G where
 w:World
 φ:Nat->Nat
 μ:Nat->Option Nat
 hd:Nat->Nat->Option (Option Addr×Nat×Nat)
 ρ:Nat->Nat
 nx:Nat
def TgOk(S:G)(n:Nat)(A:Option Addr)(c:Nat):Tg->Prop
 | .no=>True
 | .full=>n=c
 | .ln g sz=>g<S.nx/\S.hd g n=some (A,c,sz)
def CapOk(n c c':Nat):Prop:=c'=c\/(J4<=c/\n<=c'/\n<J4)
theorem CapOk.eq{n c c':Nat}(h:CapOk n c c')(hc:c<J4):c'=c:=by
 rcases h with h | ⟨h,_⟩
 ·exact h
 ·omega
inductive Rep(S:G):D->Value->Prop
 | und (v:Value):Rep S .und v
 | off:Rep S .off undef
 | bool (b:Bool):Rep S (.bool b) (.bool b)
 | int (k:IntKind) (n:Int):Rep S (.int k n) (.int k n)
 | float (k:FloatKind) (b:Nat):Rep S (.float k b) (.float k b)
 | str (s:List UInt8):Rep S (.str s) (.string ⟨s.toArray⟩)
 | nilp:Rep S .nilp (.pointer none)
 | nilf:Rep S .nilf .nilFunc
 | nili:Rep S .nili .nilIface
 | sl (g:Tg) (n:Nat) (xs:List D) (A:Option Addr) (c b off:Nat) (us:Nat->Value) (hc:n<=c) (hA:xs=[]\/A=some ⟨b,off,none⟩)
   (hu : ∀ j,j<xs.length->S.w.cell? ⟨b,off+j,none⟩=some (us j)) (hr : ∀ (j:Nat) (d:D),xs[j]?=some d->Rep S d (us j))
   (hφ:xs=[]\/off+xs.length<=S.φ b) (hg:TgOk S n A c g):Rep S (.sl g n xs) (.slice A n c)
 | ref (k off n c sz b c':Nat) (hk:k<S.nx) (hb:S.μ k=some b) (hc:CapOk n c c'):Rep S (.ref k off n c sz) (.slice (some ⟨b,off,none⟩) n c')
 | ptr (k off b:Nat) (hk:k<S.nx) (hb:S.μ k=some b):Rep S (.ptr k off) (.pointer (some ⟨b,off,none⟩))
 | el (xs:List D) (b off:Nat) (us:Nat->Value) (hu : ∀ j,j<xs.length->S.w.cell? ⟨b,off+j,none⟩=some (us j))
   (hr : ∀ (j:Nat) (d:D),xs[j]?=some d->Rep S d (us j)) (hφ:xs=[]\/off+xs.length<=S.φ b):Rep S (.el xs) (.pointer (some ⟨b,off,none⟩))
 | agg (ds:List D) (vs:Array Value) (hs:vs.size=ds.length) (hr : ∀ (j:Nat) (d:D) (v:Value),ds[j]?=some d->vs[j]?=some v->Rep S d v):Rep S (.agg ds) (.agg vs)
 | tup (ds:List D) (vs:Array Value) (hs:vs.size=ds.length) (hr : ∀ (j:Nat) (d:D) (v:Value),ds[j]?=some d->vs[j]?=some v->Rep S d v):Rep S (.tup ds) (.tuple vs)
 | fn (f:Nat) (ds:List D) (vs:Array Value) (hs:vs.size=ds.length) (hr : ∀ (j:Nat) (d:D) (v:Value),ds[j]?=some d->vs[j]?=some v->Rep S d v):Rep S (.fn f ds) (.func (.func f) #[] vs)
 | iface (t:Nat) (d:D) (v:Value) (h:Rep S d v):Rep S (.iface t d) (.iface t v)
def like(r:Nat)(o o':Obj):Prop:=r=0->o'=o
structure Ext0(S S':G):Prop where
 os:S'.w.os=S.w.os
 tape:S'.w.tape=S.w.tape
 output:S'.w.output=S.w.output
 size:S.w.heap.size<=S'.w.heap.size
 cell : ∀ b o,o<S.φ b->S'.w.cell? ⟨b,o,none⟩=S.w.cell? ⟨b,o,none⟩
 phi : ∀ b,S.φ b<=S'.φ b
 mu : ∀ k b,k<S.nx->S.μ k=some b->S'.μ k=some b
 hd : ∀ g n x,g<S.nx->S.hd g n=some x->S'.hd g n=some x
 nx:S.nx<=S'.nx
 role : ∀ b,b<S.w.heap.size->S'.ρ b=S.ρ b
 free : ∀ b,b<S.w.heap.size->S.ρ b=0->S'.w.heap[b]?=S.w.heap[b]?/\S'.φ b=S.φ b
 shape : ∀ b o,S.w.heap[b]?=some o -> ∃ o',S'.w.heap[b]?=some o'/\like (S.ρ b) o o'
theorem like.refl(r:Nat)(o:Obj):like r o o:=fun _=>rfl
theorem like.trans{r:Nat}{a b c:Obj}(h:like r a b)(h':like r b c):like r a c:=by exact fun h0=>(h' h0).trans (h h0)
theorem Ext0.refl(S:G):Ext0 S S:=
 ⟨rfl,rfl,rfl,zR _,fun _ _ _=>rfl,fun _=>zR _,fun _ _ _ h=>h,fun _ _ _ _ h=>h,zR _,fun _ _=>rfl,fun _ _ _=>⟨rfl,rfl⟩,fun _ o h=>⟨o,h,like.refl _ o⟩⟩
theorem Ext0.trans{A B C:G}(h:Ext0 A B)(k:Ext0 B C):Ext0 A C where
 os:=k.os.trans h.os
 tape:=k.tape.trans h.tape
 output:=k.output.trans h.output
 size:=zBK h.size k.size
 cell b o ho:=(k.cell b o (zK ho (h.phi b))).trans (h.cell b o ho)
 phi b:=zBK (h.phi b) (k.phi b)
 mu i b hi hb:=k.mu i b (zK hi h.nx) (h.mu i b hi hb)
 hd g n x hg hx:=k.hd g n x (zK hg h.nx) (h.hd g n x hg hx)
 nx:=zBK h.nx k.nx
 role b hb:=(k.role b (zK hb h.size)).trans (h.role b hb)
 free b hb h0:=
  have ⟨h1,h2⟩:=h.free b hb h0;have ⟨h3,h4⟩:=k.free b (zK hb h.size) ((h.role b hb).trans h0)
  ⟨h3.trans h1,h4.trans h2⟩
 shape b o ho:=by
  obtain⟨o1,h1,l1⟩:=h.shape b o ho;obtain⟨o2,h2,l2⟩:=k.shape b o1 h1;have hb:b<A.w.heap.size:=by
   rcases zBD b A.w.heap.size with h | h
   ·exact h
   ·simp[Array.getElem?_eq_none h]at ho
  rw[h.role b hb]at l2;exact⟨o2,h2,l1.trans l2⟩
structure Ext(S S':G):Prop extends Ext0 S S' where
 mu1 : ∀ k,k<S.nx->S'.μ k=S.μ k
theorem Ext.refl(S:G):Ext S S:={ Ext0.refl S with mu1:=fun _ _=>rfl }
theorem Ext.trans{A B C:G}(h:Ext A B)(k:Ext B C):Ext A C:=
 { Ext0.trans h.toExt0 k.toExt0 with mu1:=fun i hi=>(k.mu1 i (zK hi h.nx)).trans (h.mu1 i hi) }
theorem TgOk.ext{S S':G}(h:Ext0 S S'){n:Nat}{A:Option Addr}{c:Nat}{g:Tg}(hg:TgOk S n A c g):TgOk S' n A c g:=by
 cases g with
 | no=>trivial
 | full=>exact hg
 | ln g sz=>exact⟨zK hg.1 h.nx,h.hd _ _ _ hg.1 hg.2⟩
theorem Rep.ext0{S S':G}(h:Ext0 S S'){d:D}{v:Value}(hr:Rep S d v):Rep S' d v:=by
 induction hr with
 | und v=>exact .und v
 | off=>exact .off
 | bool b=>exact .bool b
 | int k n=>exact .int k n
 | float k b=>exact .float k b
 | str s=>exact .str s
 | nilp=>exact .nilp
 | nilf=>exact .nilf
 | nili=>exact .nili
 | sl g n xs A c b off us hc hA hu _ hφ hg ih=>
  refine .sl g n xs A c b off us hc hA (fun j hj => ?_) ih (hφ.imp id fun hφ=>zBK hφ (h.phi b)) (hg.ext h);rw[h.cell b _ ?_]
  ·exact hu j hj
  ·rcases hφ with rfl | hφ
   ·simp at hj
   ·omega
 | ref k off n c sz b c' hk hb hc=>exact .ref k off n c sz b c' (zK hk h.nx) (h.mu k b hk hb) hc
 | ptr k off b hk hb=>exact .ptr k off b (zK hk h.nx) (h.mu k b hk hb)
 | el xs b off us hu _ hφ ih=>
  refine .el xs b off us (fun j hj => ?_) ih (hφ.imp id fun hφ=>zBK hφ (h.phi b));rw[h.cell b _ ?_]
  ·exact hu j hj
  ·rcases hφ with rfl | hφ
   ·simp at hj
   ·omega
 | agg ds vs hs _ ih=>exact .agg ds vs hs ih
 | tup ds vs hs _ ih=>exact .tup ds vs hs ih
 | fn f ds vs hs _ ih=>exact .fn f ds vs hs ih
 | iface t d v _ ih=>exact .iface t d v ih
theorem Rep.ext{S S':G}(h:Ext S S'){d:D}{v:Value}(hr:Rep S d v):Rep S' d v:=hr.ext0 h.toExt0
def RepL(S:G)(ds:List D)(vs:List Value):Prop:=vs.length=ds.length /\ ∀ (j:Nat) (d:D) (v:Value),ds[j]?=some d->vs[j]?=some v->Rep S d v
theorem RepL.ext0{S S':G}(h:Ext0 S S'){ds:List D}{vs:List Value}(hr:RepL S ds vs):RepL S' ds vs:=
 ⟨hr.1,fun j d v hd hv=>(hr.2 j d v hd hv).ext0 h⟩
theorem RepL.ext{S S':G}(h:Ext S S'){ds:List D}{vs:List Value}(hr:RepL S ds vs):RepL S' ds vs:=
 ⟨hr.1,fun j d v hd hv=>(hr.2 j d v hd hv).ext h⟩
theorem RepL.nil(S:G):RepL S [] []:=⟨rfl,fun j d v h=>by simp at h⟩
theorem RepL.cons{S:G}{d:D}{v:Value}{ds:List D}{vs:List Value}(h:Rep S d v)(hl:RepL S ds vs):RepL S (d::ds) (v::vs):=by
 refine⟨by simp[hl.1],fun j x u hx hu => ?_⟩;cases j with
 | zero=>simp at hx hu;subst hx hu;exact h
 | succ j=>simp at hx hu;exact hl.2 j x u hx hu
theorem RepL.app{S:G}{ds es:List D}{vs us:List Value}(h:RepL S ds vs)(k:RepL S es us):RepL S (ds++es) (vs++us):=by
 refine⟨by simp[h.1,k.1],fun j x u hx hu => ?_⟩;rw[List.getElem?_append]at hx hu;rw[h.1]at hu;split at hx
 ·rw[zBu (by assumption)]at hu;exact h.2 j x u hx hu
 ·rw[zBt (by assumption)]at hu;exact k.2 _ x u hx hu
theorem RepL.take{S:G}{ds:List D}{vs:List Value}(h:RepL S ds vs)(n:Nat):RepL S (ds.take n) (vs.take n):=by
 refine⟨by simp[h.1],fun j x u hx hu => ?_⟩;rw[zBR]at hx hu;split at hx
 ·rw[zBu (by assumption)]at hu;exact h.2 j x u hx hu
 ·simp at hx
theorem RepL.drop{S:G}{ds:List D}{vs:List Value}(h:RepL S ds vs)(n:Nat):RepL S (ds.drop n) (vs.drop n):=by refine⟨by simp[h.1],fun j x u hx hu => ?_⟩;rw[zBS]at hx hu;exact h.2 _ x u hx hu
theorem RepL.get{S:G}{ds:List D}{vs:List Value}(h:RepL S ds vs){j:Nat}{d:D}(hd:ds[j]?=some d) : ∃ v,vs[j]?=some v/\Rep S d v:=by
 have hj:j<vs.length:=by
  rw[h.1];rcases zBD j ds.length with hj | hj
  ·exact hj
  ·simp[zBQ hj]at hd
 exact⟨vs[j],by simp[hj],h.2 j d _ hd (by simp[hj])⟩
theorem RepL.preLen{S:G}{xs:List D}{l:List Value}(h:RepL S xs (l.take xs.length)):xs.length<=l.length:=by have:=h.1;rw[zBI]at this;omega
theorem RepL.pre{S:G}{xs:List D}{l:List Value}(h:RepL S xs l):RepL S xs (l.take xs.length):=by rw[<- h.1,List.take_length];exact h
theorem RepL.cutP{S:G}{xs:List D}{l:List Value}(h:RepL S xs (l.take xs.length))(off k:Nat)(hk:off+k<=xs.length):RepL S ((xs.drop off).take k) ((l.drop off).take k):=by
 have h2:=(h.drop off).take k;have e:((l.take xs.length).drop off).take k=(l.drop off).take k:=by rw[List.drop_take,List.take_take,Nat.min_eq_left (by omega)]
 rwa [e]at h2
theorem RepL.atP{S:G}{xs:List D}{l:List Value}(h:RepL S xs (l.take xs.length)){j:Nat}{d:D}{v:Value}(hd:xs[j]?=some d)(hv:l[j]?=some v):Rep S d v:=by
 refine h.2 j d v hd ?_;rw[zBR,zBu]
 ·exact hv
 ·rcases zBD j xs.length with hj | hj
  ·exact hj
  ·simp[zBQ hj]at hd
theorem Rep.oneCell{S:G}{d:D}{v:Value}(h:Rep S d v)(h1:d.oneCell=true):v.oneCell'=true:=by cases h<;>simp[D.oneCell,Value.oneCell']at *
theorem zi1(l:List D):yd l=true ↔ ∀ d∈l,d.oneCell=true:=by
 induction l with
 | nil=>simp[yd]
 | cons d r ih=>simp[yd,ih]
theorem RepL.oneCells{S:G}{ds:List D}{vs:List Value}(h:RepL S ds vs)(h1:yd ds=true) : ∀ v∈vs,v.oneCell'=true:=by intro v hv;obtain⟨j,hj,rfl⟩:=List.getElem_of_mem hv;have hd:j<ds.length:=h.1▸hj;exact(h.2 j ds[j] vs[j] (by simp[hd]) (by simp[hj])).oneCell ((zi1 ds).1 h1 _ (zCg hd))
theorem Rep.cells{S:G}{d:D}{v:Value}(h:Rep S d v)(hu:d ≠ .und):RepL S d.cells v.cells.toList:=by
 cases h with
 | und=>exact(hu rfl).elim
 | agg ds vs hs hr=>exact⟨by simpa[D.cells,Value.cells]using hs,fun j d v hd hv=>hr j d v (by simpa[D.cells]using hd) (by simpa[Value.cells]using hv)⟩
 | _=>all_goals first
  | exact RepL.cons (by constructor<;>assumption) (RepL.nil S)
  | exact RepL.cons (by assumption) (RepL.nil S)
def zvE(s:List UInt8):List Value:=s.map fun x => .int .u8 x.toNat
inductive RepOb(S:G)(b:Nat):Ob->Prop
 | row (xs:List D) (fz:Bool) (c:Array Value) (e:TypeId) (hb:S.w.heap[b]?=some (.cells c e (0,0))) (hr:RepL S xs (c.toList.take xs.length))
   (h0:fz=false->S.φ b=0) (h1:fz=true->xs.length<=S.φ b):RepOb S b (.row xs fz)
 | iter (s:List UInt8) (pos:Nat) (hb:S.w.heap[b]?=some (.stringIter ⟨s.toArray⟩ pos)):RepOb S b (.iter s pos)
 | bld (t e:Nat) (s:List UInt8) (p v:Value) (hb:S.w.heap[b]?=some (.cells #[p,v] t (0,0))) (hp:p = .pointer none\/p = .pointer (some ⟨b,0,none⟩)) (h0:S.φ b=0)
   (hown:S.w.ownsRow 0 e 1 v s.length (zvE s)) (hne:v.ownBlock≠some b) (hg : ∀ g,v.ownBlock=some g->S.ρ g=S.ρ b/\S.φ g=0):RepOb S b (.bld t e s)
def Safe(S:G)(g n:Nat)(A:Option Addr)(c sz:Nat):Prop:=
 n=c \/ ∃ b off cs e,A=some ⟨b,off,none⟩/\S.ρ b=g+1/\S.φ b=off+n*sz/\S.w.heap[b]?=some (.cells cs e (0,0))/\off+c*sz<=cs.size
structure Inv(S:G)(st:St):Prop where
 nx:st.nx=S.nx
 ob : ∀ k o,st.mem k=some o->k<S.nx /\ ∀ b,S.μ k=some b->S.ρ b=k+1/\RepOb S b o
 tip : ∀ g n,st.tip g=some n->g<S.nx/\(∀ n',n<n'->S.hd g n'=none) /\ ∃ A c sz,S.hd g n=some (A,c,sz)/\n<=c/\Safe S g n A c sz
 out : ∀ b,S.w.heap.size<=b->S.φ b=0/\S.ρ b=0
 dis : ∀ k o,st.mem k=some o->st.tip k=none
 own : ∀ b,S.ρ b<=S.nx
def FrameRep(S:G)(tm:Tm)(tmps:Array Value):Prop := ∀ t d,get tm t=some d -> ∃ v,tmps[t]?=some v/\Rep S d v
theorem FrameRep.ext{S S':G}(h:Ext S S'){tm:Tm}{a:Array Value}(hf:FrameRep S tm a):FrameRep S' tm a:=
 fun t d ht=>let ⟨v,hv,hr⟩:=hf t d ht;⟨v,hv,hr.ext h⟩
theorem get_put(tm:Tm)(t:Nat)(d:D)(u:Nat):get (put tm t d) u=if u=t then some d else get tm u:=by
 induction tm with
 | nil=>
  by_cases h:u=t
  ·subst h;simp[put,get]
  ·simp[put,get,h,Ne.symm h]
 | cons p r ih=>
  obtain⟨i,e⟩:=p;simp only[put];by_cases h:i=t
  ·rw[zBu h];by_cases h2:u=t
   ·rw[zBu h2];simp[get,h2]
   ·have h3 : ¬ t=u:=fun e=>h2 e.symm
    have h4 : ¬ i=u:=fun e=>h2 (e.symm.trans h)
    rw[zBt h2];simp[get,h3,h4]
  ·rw[zBt h];by_cases hl:t<i
   ·rw[zBu hl];by_cases h2:u=t
    ·rw[zBu h2];simp[get,h2]
    ·have h3 : ¬ t=u:=fun e=>h2 e.symm
     rw[zBt h2];simp[get,h3]
   ·rw[zBt hl];by_cases h2:u=t
    ·have h4 : ¬ i=u:=fun e=>h (e.trans h2)
     rw[zBu h2]at ih ⊢;simp only[get,h4,zBw,ih]
    ·rw[zBt h2]at ih ⊢;simp only[get,ih]
theorem Zx(tm:Tm)(t u:Nat):get (del tm t) u=if u=t then none else get tm u:=by
 induction tm with
 | nil=>simp[del,get]
 | cons p r ih=>
  obtain⟨i,e⟩:=p;simp only[del];by_cases h:i=t
  ·rw[zBu h,ih];by_cases h2:u=t
   ·simp[h2]
   ·have h4 : ¬ i=u:=fun e=>h2 (e.symm.trans h)
    rw[zBt h2,zBt h2];simp only[get,h4,zBw]
  ·rw[zBt h];by_cases h2:u=t
   ·have h4 : ¬ i=u:=fun e=>h (e.trans h2)
    rw[zBu h2]at ih ⊢;simp only[get,h4,zBw,ih]
   ·rw[zBt h2]at ih ⊢;simp only[get,ih]
theorem vy(l:List Nat)(tm:Tm)(u:Nat):get (kept l tm) u=if has l u then get tm u else none:=by
 induction tm with
 | nil=>simp[kept,get]
 | cons p r ih=>
  obtain⟨i,e⟩:=p;simp only[kept];by_cases hi:i=u
  ·subst hi;split
   ·simp[get]
   ·next h=>rw[ih];simp[h]
  ·split
   ·simp only[get,hi,zBw,ih]
   ·rw[ih];simp only[get,hi,zBw]
end
section
theorem lt_of_heap{w:World}{b:Nat}{o:Obj}(h:w.heap[b]?=some o):b<w.heap.size:=by
 rcases zBD b w.heap.size with h' | h'
 ·exact h'
 ·simp[Array.getElem?_eq_none h']at h
theorem zgN{w:World}{e:TypeId}{v:Value}{n:Nat}{xs:List Value}(h:w.ownsRow 0 e 1 v n xs){g:Nat}(hg:v.ownBlock=some g):g<w.heap.size:=by
 rcases h.2 with⟨rfl,_⟩ | ⟨g',cap,cur,rfl,_,h2,_⟩
 ·simp[Value.ownBlock]at hg
 ·simp only[Value.ownBlock,zBB]at hg;subst hg;exact lt_of_heap h2
theorem znj{w w':World}{e:TypeId}{v:Value}{n:Nat}{xs:List Value}(h:w.ownsRow 0 e 1 v n xs)(hg : ∀ g,v.ownBlock=some g->w'.heap[g]?=w.heap[g]?):w'.ownsRow 0 e 1 v n xs:=by
 refine⟨h.1,?_⟩;rcases h.2 with h2 | ⟨g,cap,cur,rfl,h1,h2,h3⟩
 ·exact .inl h2
 ·exact .inr ⟨g,cap,cur,rfl,h1,(hg g rfl).trans h2,h3⟩
theorem RepOb.ext{S S':G}(e:Ext S S'){b:Nat}{o:Ob}(h:RepOb S b o)(hb' : ∀ g,g<S.w.heap.size->S.ρ g=S.ρ b->S'.w.heap[g]?=S.w.heap[g]?/\S'.φ g=S.φ g)(hbl:b<S.w.heap.size):RepOb S' b o:=by
 obtain⟨hh,hp⟩:=hb' b hbl rfl;cases h with
 | bld t e' s p v hb hp' h0 hown hne hg=>refine .bld t e' s p v (hh.trans hb) hp' (hp.trans h0) (znj hown fun g hgg=>(hb' g (zgN hown hgg) (hg g hgg).1).1) hne (fun g hgg => ?_);have hl:=zgN hown hgg;exact⟨by rw[e.role g hl,e.role b hbl];exact(hg g hgg).1,((hb' g hl (hg g hgg).1).2).trans (hg g hgg).2⟩
 | row xs fz c t hb hr h0 h1=>exact .row xs fz c t (hh.trans hb) (hr.ext e) (fun h=>hp.trans (h0 h)) (fun h=>hp▸h1 h)
 | iter s pos hb=>exact .iter s pos (hh.trans hb)
theorem RepOb.lt{S:G}{b:Nat}{o:Ob}(h:RepOb S b o):b<S.w.heap.size:=by
 cases h with
 | row xs fz c t hb hr h0 h1=>exact lt_of_heap hb
 | iter s pos hb=>exact lt_of_heap hb
 | bld t e s p v hb hp h0 hown hne hg=>exact lt_of_heap hb
def zAJ(S:G)(g n:Nat):Prop:=g<S.nx/\(∀ n',n<n'->S.hd g n'=none) /\ ∃ A c sz,S.hd g n=some (A,c,sz)/\n<=c/\Safe S g n A c sz
theorem Inv.step{S S':G}{st st':St}(h:Inv S st)(e:Ext S S')(r0:Nat)(hnx:st'.nx=S'.nx)
  (hB : ∀ b,b<S.w.heap.size->S.ρ b≠r0+1->S'.w.heap[b]?=S.w.heap[b]?/\S'.φ b=S.φ b)
  (hmu : ∀ k b,k<S.nx->S'.μ k=some b->S.μ k=some b) (hhd : ∀ g,g<S.nx->g≠r0->S'.hd g=S.hd g)
  (hob : ∀ k o,st'.mem k=some o->(k<S.nx/\k≠r0/\st.mem k=some o)\/(k<S'.nx /\ ∀ b,S'.μ k=some b->S'.ρ b=k+1/\RepOb S' b o))
  (htip : ∀ g n,st'.tip g=some n->(g<S.nx/\g≠r0/\st.tip g=some n)\/zAJ S' g n)
  (hout : ∀ b,S'.w.heap.size<=b->S'.φ b=0/\S'.ρ b=0) (hdis : ∀ k o,st'.mem k=some o->st'.tip k=none)
  (hown : ∀ b,S.w.heap.size<=b->S'.ρ b<=S'.nx):Inv S' st' where
 nx:=hnx
 ob k o hk:=by
  rcases hob k o hk with⟨h1,h2,h3⟩ | h
  ·refine⟨zK h1 e.nx,fun b hb => ?_⟩;have hb':=hmu k b h1 hb;obtain⟨_,h4⟩:=h.ob k o h3;obtain⟨h5,h6⟩:=h4 b hb';have hlt:=h6.lt;exact⟨(e.role b hlt).trans h5,h6.ext e (fun g hg hr=>hB g hg (by rw[hr,h5];omega)) hlt⟩
  ·exact h
 tip g n hg:=by
  rcases htip g n hg with⟨h1,h2,h3⟩ | h
  ·obtain⟨_,h4,A,c,sz,h5,h6,h7⟩:=h.tip g n h3;refine⟨zK h1 e.nx,fun n' hn' => ?_,A,c,sz,?_,h6,?_⟩
   ·rw[hhd g h1 h2];exact h4 n' hn'
   ·rw[hhd g h1 h2];exact h5
   ·rcases h7 with h7 | ⟨b,off,cs,t,ha,hr,hp,hh,hs⟩
    ·exact .inl h7
    ·have hlt:=lt_of_heap hh;obtain⟨h8,h9⟩:=hB b hlt (by rw[hr];omega);exact .inr ⟨b,off,cs,t,ha,(e.role b hlt).trans hr,h9.trans hp,h8.trans hh,hs⟩
  ·exact h
 out:=hout
 dis:=hdis
 own b:=by
  rcases zBD b S.w.heap.size with hb | hb
  ·rw[e.role b hb];exact zBK (h.own b) e.nx
  ·exact hown b hb
theorem Qs{S:G}{st:St}(h:Inv S st)(n:Nat) : ∀ b,S.w.heap.size<=b->S.ρ b<=n:=fun b hb=>by rw[(h.out b hb).2];exact Nat.zero_le _
structure SameW(w w0:World):Prop where
 heap:w0.heap=w.heap
 os:w0.os=w.os
 tape:w0.tape=w.tape
 output:w0.output=w.output
theorem SameW.refl(w:World):SameW w w:=⟨rfl,rfl,rfl,rfl⟩
theorem SameW.drew(w:World):SameW w w.drew:=⟨rfl,rfl,rfl,rfl⟩
def G.new(S:G)(w0:World)(o:Obj)(f r:Nat)(μ:Nat->Option Nat)(hd:Nat->Nat->Option (Option Addr×Nat×Nat))(nx:Nat):G:=
 { w:=w0.alloc o,φ:=fun b=>if b=S.w.heap.size then f else S.φ b,μ:=μ,hd:=hd,ρ:=fun b=>if b=S.w.heap.size then r else S.ρ b,nx:=nx }
section
variable {S:G} {w0:World} {o:Obj} {f r:Nat} {μ:Nat->Option Nat} {hd:Nat->Nat->Option (Option Addr×Nat×Nat)} {nx:Nat}
theorem KQ{st:St}(h:Inv S st)(hr:r<=nx) : ∀ b,S.w.heap.size<=b->(S.new w0 o f r μ hd nx).ρ b<=(S.new w0 o f r μ hd nx).nx:=by
 intro b hb;show(if b=S.w.heap.size then r else S.ρ b)<=nx;split
 ·exact hr
 ·rw[(h.out b hb).2];exact Nat.zero_le _
theorem Xq(hw:SameW S.w w0){b:Nat}(hb:b<S.w.heap.size):(S.new w0 o f r μ hd nx).w.heap[b]?=S.w.heap[b]?:=by
 have hs:w0.heap.size=S.w.heap.size:=by rw[hw.heap]
 show(w0.heap.push o)[b]?=_;rw[Array.getElem?_push,zBt (by omega),hw.heap]
theorem Kx(hw:SameW S.w w0):(S.new w0 o f r μ hd nx).w.heap[S.w.heap.size]?=some o:=by
 have hs:w0.heap.size=S.w.heap.size:=by rw[hw.heap]
 show(w0.heap.push o)[S.w.heap.size]?=_;rw[<- hs];simp
theorem zpx(hw:SameW S.w w0):(S.new w0 o f r μ hd nx).w.heap.size=S.w.heap.size+1:=by
 have hs:w0.heap.size=S.w.heap.size:=by rw[hw.heap]
 show(w0.heap.push o).size=_;simp[hs]
theorem cell_of_heap{w w':World}{b o:Nat}(h:w'.heap[b]?=w.heap[b]?):w'.cell? ⟨b,o,none⟩=w.cell? ⟨b,o,none⟩:=by simp[World.cell?,h]
theorem Ext.new(hw:SameW S.w w0)(hout : ∀ b,S.w.heap.size<=b->S.φ b=0/\S.ρ b=0)(hmu : ∀ k,k<S.nx->μ k=S.μ k)
  (hhd : ∀ g n x,g<S.nx->S.hd g n=some x->hd g n=some x) (hnx:S.nx<=nx):Ext S (S.new w0 o f r μ hd nx) where
 os:=hw.os
 tape:=hw.tape
 output:=hw.output
 size:=by rw[zpx hw];omega
 cell b i hi:=by
  refine cell_of_heap (Xq hw ?_);rcases zBD b S.w.heap.size with h | h
  ·exact h
  ·have:=(hout b h).1;omega
 phi b:=by
  show S.φ b<=if b=S.w.heap.size then f else S.φ b
  split
  ·next h=>have:=(hout b (by omega)).1;omega
  ·exact zR _
 mu k b hk hb:=(hmu k hk).trans hb
 mu1:=hmu
 hd:=hhd
 nx:=hnx
 role b hb:=by show(if b=S.w.heap.size then r else S.ρ b)=_;rw[zBt (by omega)]
 free b hb _:=⟨Xq hw hb,by show(if b=S.w.heap.size then f else S.φ b)=_;rw[zBt (by omega)]⟩
 shape b o' ho:=⟨o',(Xq hw (lt_of_heap ho)).trans ho,like.refl _ _⟩
theorem KR(hw:SameW S.w w0)(hout : ∀ b,S.w.heap.size<=b->S.φ b=0/\S.ρ b=0) :
  ∀ b,(S.new w0 o f r μ hd nx).w.heap.size<=b->(S.new w0 o f r μ hd nx).φ b=0/\(S.new w0 o f r μ hd nx).ρ b=0:=by
 intro b hb;rw[zpx hw]at hb;show(if b=S.w.heap.size then f else S.φ b)=0/\(if b=S.w.heap.size then r else S.ρ b)=0;rw[zBt (by omega),zBt (by omega)];exact hout b (by omega)
theorem KM(hw:SameW S.w w0)(r0:Nat) : ∀ b,b<S.w.heap.size->S.ρ b≠r0+1->(S.new w0 o f r μ hd nx).w.heap[b]?=S.w.heap[b]?/\(S.new w0 o f r μ hd nx).φ b=S.φ b:=by intro b hb _;exact⟨Xq hw hb,by show(if b=S.w.heap.size then f else S.φ b)=_;rw[zBt (by omega)]⟩
end
theorem Ext.same{S:G}{w0:World}(hw:SameW S.w w0):Ext S { S with w:=w0 } where
 os:=hw.os
 tape:=hw.tape
 output:=hw.output
 size:=by show _<=w0.heap.size;rw[hw.heap];exact zR _
 cell b i _:=cell_of_heap (by show w0.heap[b]?=_;rw[hw.heap])
 phi _:=zR _
 mu _ _ _ h:=h
 mu1 _ _:=rfl
 hd _ _ _ _ h:=h
 nx:=zR _
 role _ _:=rfl
 free b _ _:=⟨by show w0.heap[b]?=_;rw[hw.heap],rfl⟩
 shape b o ho:=⟨o,by show w0.heap[b]?=_;rw[hw.heap];exact ho,like.refl _ _⟩
theorem Inv.same{S:G}{st:St}(h:Inv S st){w0:World}(hw:SameW S.w w0):Inv { S with w:=w0 } st:=
 h.step (Ext.same hw) S.nx h.nx (fun b _ _=>⟨by show w0.heap[b]?=_;rw[hw.heap],rfl⟩) (fun _ _ _ h=>h) (fun _ _ _=>rfl)
  (fun k o hk => .inl ⟨(h.ob k o hk).1,by have:=(h.ob k o hk).1;omega,hk⟩) (fun g n hg => .inl ⟨(h.tip g n hg).1,by have:=(h.tip g n hg).1;omega,hg⟩)
  (fun b hb=>h.out b (by have:w0.heap.size<=b:=hb;rw[hw.heap]at this;exact this)) h.dis (Qs h _)
theorem wh{α:Type}(m:Nat->Option α)(k:Nat)(o:α):upd m k o k=some o:=by simp[upd]
theorem upd_ne{α:Type}(m:Nat->Option α){k j:Nat}(o:α)(h:j≠k):upd m k o j=m j:=by simp[upd,h]
theorem zsV{S:G}{st:St}(h:Inv S st):st.tip st.nx=none:=by
 cases ht:st.tip st.nx with
 | none=>rfl
 | some n=>have:=(h.tip _ _ ht).1;have:=h.nx;omega
theorem zur{S:G}{st:St}(h:Inv S st):st.mem st.nx=none:=by
 cases ht:st.mem st.nx with
 | none=>rfl
 | some n=>have:=(h.ob _ _ ht).1;have:=h.nx;omega
theorem zgz{S:G}{st:St}(h:Inv S st)(o:Ob) : ∀ k o',(st.newOb o).mem k=some o'->(st.newOb o).tip k=none:=by
 intro k o' hk;show st.tip k=none;by_cases hk2:k=st.nx
 ·subst hk2;exact zsV h
 ·have:upd st.mem st.nx o k=some o':=hk;rw[upd_ne _ _ hk2]at this;exact h.dis k o' this
theorem zlL{S:G}{st:St}(h:Inv S st)(n:Nat) : ∀ k o',st.mem k=some o'->upd st.tip st.nx n k=none:=by
 intro k o' hk;by_cases hk2:k=st.nx
 ·subst hk2;rw[zur h]at hk;simp at hk
 ·rw[upd_ne _ _ hk2];exact h.dis k o' hk
theorem zpv{S:G}{st:St}(h:Inv S st){g n:Nat}(hg:st.tip g=some n)(n':Nat) : ∀ k o',st.mem k=some o'->upd st.tip g n' k=none:=by
 intro k o' hk;by_cases hk2:k=g
 ·subst hk2;rw[h.dis _ _ hk]at hg;simp at hg
 ·rw[upd_ne _ _ hk2];exact h.dis k o' hk
theorem zmD{S:G}{st:St}(h:Inv S st){k:Nat}{o1:Ob}(hk:st.mem k=some o1)(o:Ob) : ∀ j o',(st.setOb k o).mem j=some o'->(st.setOb k o).tip j=none:=by
 intro j o' hj;show st.tip j=none;by_cases hk2:j=k
 ·subst hk2;exact h.dis _ _ hk
 ·have:upd st.mem k o j=some o':=hj;rw[upd_ne _ _ hk2]at this;exact h.dis j o' this
theorem zgr{S:G}{st:St}(h:Inv S st)(xs:List D)(c:Array Value)(e:TypeId){w0:World}(hw:SameW S.w w0)(hr:RepL S xs (c.toList.take xs.length)) :
  ∃ S':G,S'.w=w0.alloc (.cells c e (0,0))/\Ext S S'/\Inv S' (st.newOb (.row xs false))/\S'.μ st.nx=some S.w.heap.size/\st.nx<S'.nx:=by
 have he:Ext S (S.new w0 (.cells c e (0,0)) 0 (S.nx+1) (fun k=>if k=S.nx then some S.w.heap.size else S.μ k) S.hd (S.nx+1)):=
  Ext.new hw h.out (fun k hk=>by show(if k=S.nx then some S.w.heap.size else S.μ k)=_;rw[zBt (by omega)]) (fun _ _ _ _ h=>h) (by omega)
 refine⟨_,rfl,he,?_,?_,?_⟩
 ·refine h.step he S.nx ?_ (KM hw S.nx) ?_ (fun _ _ _=>rfl) ?_ ?_ (KR hw h.out) ?_ (KQ h (zR _))
  ·show st.nx+1=S.nx+1;rw[h.nx]
  ·intro k b hk hb;have:(if k=S.nx then some S.w.heap.size else S.μ k)=some b:=hb;rw[zBt (by omega)]at this;exact this
  ·intro k o hk;by_cases hk2:k=st.nx
   ·subst hk2;have ho:o = .row xs false:=by have:(upd st.mem st.nx (.row xs false)) st.nx=some o:=hk;rw[wh]at this;injection this with this;exact this.symm
    subst ho;refine .inr ⟨by show st.nx<S.nx+1;rw[h.nx];omega,fun b hb => ?_⟩;have hb':b=S.w.heap.size:=by have:(if st.nx=S.nx then some S.w.heap.size else S.μ st.nx)=some b:=hb;rw[zBu h.nx]at this;injection this with this;exact this.symm
    subst hb';refine⟨by show(if S.w.heap.size=S.w.heap.size then S.nx+1 else S.ρ _)=_;rw[zBu rfl,h.nx],?_⟩;exact .row xs false c e (Kx hw) (hr.ext he) (fun _=>by show(if S.w.heap.size=S.w.heap.size then 0 else S.φ _)=0;rw[zBu rfl]) (fun h=>by simp at h)
   ·have hk':st.mem k=some o:=by have:(upd st.mem st.nx (.row xs false)) k=some o:=hk;rw[upd_ne _ _ hk2]at this;exact this
    have:=(h.ob k o hk').1;exact .inl ⟨this,by omega,hk'⟩
  ·intro g n hg;have hg':st.tip g=some n:=hg;have:=(h.tip g n hg').1;exact .inl ⟨this,by omega,hg'⟩
  ·exact zgz h (.row xs false)
 ·show(if st.nx=S.nx then some S.w.heap.size else S.μ st.nx)=_;rw[zBu h.nx]
 ·show st.nx<S.nx+1;rw[h.nx];omega
theorem znp{S:G}{st:St}(h:Inv S st)(o:Obj)(f:Nat){w0:World}(hw:SameW S.w w0) :
  ∃ S':G,S'.w=w0.alloc o/\Ext S S'/\Inv S' st/\S'.φ S.w.heap.size=f:=by
 have he:Ext S (S.new w0 o f 0 S.μ S.hd S.nx):=Ext.new hw h.out (fun _ _=>rfl) (fun _ _ _ _ h=>h) (zR _);refine⟨_,rfl,he,?_,by show(if S.w.heap.size=S.w.heap.size then f else S.φ _)=f;rw[zBu rfl]⟩;refine h.step he S.nx h.nx (KM hw S.nx) (fun _ _ _ h=>h) (fun _ _ _=>rfl) ?_ ?_ (KR hw h.out) h.dis (KQ h (Nat.zero_le _))
 ·intro k o hk;have:=(h.ob k o hk).1;exact .inl ⟨this,by omega,hk⟩
 ·intro g n hg;have:=(h.tip g n hg).1;exact .inl ⟨this,by omega,hg⟩
theorem zrg{S:G}{st:St}(h:Inv S st)(c:Array Value)(e:TypeId)(n cap sz:Nat){w0:World}(hw:SameW S.w w0)(hn:n<=cap)(hs:cap*sz<=c.size) :
  ∃ S':G,S'.w=w0.alloc (.cells c e (0,0))/\Ext S S'/\Inv S' { st with tip:=upd st.tip st.nx n,nx:=st.nx+1 }/\S'.φ S.w.heap.size=n*sz /\
   st.nx<S'.nx/\S'.hd st.nx n=some (some ⟨S.w.heap.size,0,none⟩,cap,sz):=by
 have he:Ext S (S.new w0 (.cells c e (0,0)) (n*sz) (S.nx+1) S.μ (fun g m=>if g=S.nx then(if m=n then some (some ⟨S.w.heap.size,0,none⟩,cap,sz)else none)else S.hd g m) (S.nx+1)):=
  Ext.new hw h.out (fun _ _=>rfl) (fun g m x hg hx=>by show(if g=S.nx then _ else _)=_;rw[zBt (by omega)];exact hx) (by omega)
 refine⟨_,rfl,he,?_,by show(if S.w.heap.size=S.w.heap.size then _ else S.φ _)=_;rw[zBu rfl],by show st.nx<S.nx+1;rw[h.nx];omega,?_⟩
 ·refine h.step he S.nx (by show st.nx+1=S.nx+1;rw[h.nx]) (KM hw S.nx) (fun _ _ _ h=>h) (fun g hg hne=>by funext m;show(if g=S.nx then _ else _)=_;rw[zBt hne]) ?_ ?_ (KR hw h.out) (zlL h n) (KQ h (zR _))
  ·intro k o hk;have hk':st.mem k=some o:=hk;have:=(h.ob k o hk').1;exact .inl ⟨this,by omega,hk'⟩
  ·intro g m hg;have hg1:upd st.tip st.nx n g=some m:=hg;by_cases h2:g=st.nx
   ·subst h2;rw[wh]at hg1;injection hg1 with hg1;subst hg1;refine .inr ⟨by show st.nx<S.nx+1;rw[h.nx];omega,fun n' hn' => ?_,some ⟨S.w.heap.size,0,none⟩,cap,sz,?_,hn,.inr ⟨S.w.heap.size,0,c,e,rfl,?_,?_,Kx hw,by omega⟩⟩
    ·show(if st.nx=S.nx then(if n'=n then _ else none)else _)=none;rw[zBu h.nx,zBt (by omega)]
    ·show(if st.nx=S.nx then(if n=n then _ else none)else _)=_;rw[zBu h.nx,zBu rfl]
    ·show(if S.w.heap.size=S.w.heap.size then S.nx+1 else S.ρ _)=_;rw[zBu rfl,h.nx]
    ·show(if S.w.heap.size=S.w.heap.size then _ else S.φ _)=_;rw[zBu rfl];omega
   ·rw[upd_ne _ _ h2]at hg1;have:=(h.tip g m hg1).1;exact .inl ⟨this,by omega,hg1⟩
 ·show(if st.nx=S.nx then(if n=n then _ else none)else _)=_;rw[zBu h.nx,zBu rfl]
theorem zix{S:G}{st:St}(h:Inv S st)(n sz:Nat)(A:Option Addr) :
  ∃ S':G,S'.w=S.w/\Ext S S'/\Inv S' { st with tip:=upd st.tip st.nx n,nx:=st.nx+1 }/\st.nx<S'.nx/\S'.hd st.nx n=some (A,n,sz):=by
 have he:Ext S { S with hd:=fun g m=>if g=S.nx then(if m=n then some (A,n,sz)else none)else S.hd g m,nx:=S.nx+1 }:=
  { Ext.refl S with
   hd:=fun g m x hg hx=>by show(if g=S.nx then _ else _)=_;rw[zBt (by omega)];exact hx
   nx:=by show S.nx<=S.nx+1;omega }
 refine⟨{ S with hd:=fun g m=>if g=S.nx then(if m=n then some (A,n,sz)else none)else S.hd g m,nx:=S.nx+1 },rfl,he,?_,by show st.nx<S.nx+1;rw[h.nx];omega,?_⟩
 ·refine h.step he S.nx (by show st.nx+1=S.nx+1;rw[h.nx]) (fun _ _ _=>⟨rfl,rfl⟩) (fun _ _ _ h=>h) (fun g hg hne=>by funext m;show(if g=S.nx then _ else _)=_;rw[zBt hne]) ?_ ?_ h.out (zlL h n) (Qs h _)
  ·intro k o hk;have hk':st.mem k=some o:=hk;have:=(h.ob k o hk').1;exact .inl ⟨this,by omega,hk'⟩
  ·intro g m hg;have hg1:upd st.tip st.nx n g=some m:=hg;by_cases h2:g=st.nx
   ·subst h2;rw[wh]at hg1;injection hg1 with hg1;subst hg1;refine .inr ⟨by show st.nx<S.nx+1;rw[h.nx];omega,fun n' hn' => ?_,A,n,sz,?_,zR _,.inl rfl⟩
    ·show(if st.nx=S.nx then(if n'=n then _ else none)else _)=none;rw[zBu h.nx,zBt (by omega)]
    ·show(if st.nx=S.nx then(if n=n then _ else none)else _)=_;rw[zBu h.nx,zBu rfl]
   ·rw[upd_ne _ _ h2]at hg1;have:=(h.tip g m hg1).1;exact .inl ⟨this,by omega,hg1⟩
 ·show(if st.nx=S.nx then(if n=n then _ else none)else _)=_;rw[zBu h.nx,zBu rfl]
theorem Xv{w:World}{g:Nat}{cs cs':Array Value}{t:TypeId}(h:w.heap[g]?=some (.cells cs t (0,0))):(w.setRow g cs').heap[g]?=some (.cells cs' t (0,0)):=
 setRow_heap w g cs cs' t (0,0) h
theorem setRow_other(w:World)(g:Nat)(cs':Array Value){b:Nat}(h:b≠g):(w.setRow g cs').heap[b]?=w.heap[b]?:=by simp only[World.setRow,Array.getElem?_modify];rw[zBt (by omega)]
def G.setR(S:G)(g:Nat)(cs:Array Value)(φ:Nat->Nat)(hd:Nat->Nat->Option (Option Addr×Nat×Nat)):G:={ S with w:=S.w.setRow g cs,φ:=φ,hd:=hd }
theorem Ext.row{S:G}{g:Nat}{cs cs':Array Value}{t:TypeId}(hh:S.w.heap[g]?=some (.cells cs t (0,0)))(hs:cs'.size=cs.size)(hc : ∀ i,i<S.φ g->cs'[i]?=cs[i]?)
  (hρ:S.ρ g≠0) (φ:Nat->Nat) (hφ : ∀ b,S.φ b<=φ b) (hφ2 : ∀ b,b≠g->φ b=S.φ b) (hd:Nat->Nat->Option (Option Addr×Nat×Nat)) (hhd : ∀ g n x,g<S.nx->S.hd g n=some x->hd g n=some x) :
  Ext S (S.setR g cs' φ hd) where
 os:=rfl
 tape:=rfl
 output:=rfl
 size:=by show _<=(S.w.setRow g cs').heap.size;simp
 cell b i hi:=by
  by_cases hb:b=g
  ·subst hb;simp only[World.cell?,G.setR,Xv hh,hh];exact hc i hi
  ·exact cell_of_heap (setRow_other _ _ _ hb)
 phi:=hφ
 mu _ _ _ h:=h
 mu1 _ _:=rfl
 hd:=hhd
 nx:=zR _
 role _ _:=rfl
 free b _ h0:=by
  have hb:b≠g:=by rintro rfl;exact hρ h0
  exact⟨setRow_other _ _ _ hb,hφ2 b hb⟩
 shape b o ho:=by
  by_cases hb:b=g
  ·subst hb;rw[hh]at ho;injection ho with ho;subst ho;exact⟨_,Xv hh,fun h0=>absurd h0 hρ⟩
  ·exact⟨o,(setRow_other _ _ _ hb).trans ho,like.refl _ _⟩
theorem zgF{S:G}{st:St}(h:Inv S st){k b:Nat}{xs:List D}(hm:st.mem k=some (.row xs false))(hb:S.μ k=some b)(off:Nat)(ys:List D)(vs:List Value)
  (hl:off+ys.length<=xs.length) (hr:RepL S ys vs) :
  ∃ c e,S.w.heap[b]?=some (.cells c e (0,0))/\off+vs.length<=c.size /\ ∃ S':G,S'.w=S.w.setRow b (c.toList.take off++vs++c.toList.drop (off+vs.length)).toArray/\Ext S S' /\
   Inv S' (st.setOb k (.row (qE xs off ys) false)):=by
 obtain⟨hk,ho⟩:=h.ob k _ hm;obtain⟨hρ,ho⟩:=ho b hb;cases ho with
 | row _ _ c e hh hrc h0 h1=>
  have hcs:xs.length<=c.size:=by simpa using hrc.preLen
  have hvl:=hr.1;refine⟨c,e,hh,by omega,?_⟩;have he:Ext S (S.setR b (c.toList.take off++vs++c.toList.drop (off+vs.length)).toArray S.φ S.hd):=
   Ext.row hh (by simp;omega) (fun i hi=>by rw[h0 rfl]at hi;omega) (by rw[hρ];omega) S.φ (fun _=>zR _) (fun _ _=>rfl) S.hd (fun _ _ _ _ h=>h)
  refine⟨_,rfl,he,?_⟩;refine h.step he k h.nx ?_ (fun _ _ _ h=>h) (fun _ _ _=>rfl) ?_ ?_ (fun b hb=>h.out b (by simpa[G.setR]using hb)) (zmD h hm _) (Qs h _)
  ·intro b' hb' hne;refine⟨setRow_other _ _ _ ?_,rfl⟩;rintro rfl;exact hne hρ
  ·intro k' o' hk';by_cases e2:k'=k
   ·subst e2;have ho':o' = .row (qE xs off ys) false:=by have:upd st.mem k' (.row (qE xs off ys) false) k'=some o':=hk';rw[wh]at this;injection this with this;exact this.symm
    subst ho';refine .inr ⟨hk,fun b' hb' => ?_⟩;have hbb:b'=b:=by have hb2:S.μ k'=some b':=hb';rw[hb]at hb2;injection hb2 with hb2;exact hb2.symm
    subst hbb;refine⟨hρ,.row _ _ _ e (Xv hh) ?_ (fun _=>h0 rfl) (fun h=>by simp at h)⟩;have:=((hrc.take off).app hr).app (hrc.drop (off+ys.length));have this:=this.ext he;have hsl:(qE xs off ys).length=xs.length:=by unfold qE;simp;omega
    have e1:(c.toList.take xs.length).take off=c.toList.take off:=by rw[List.take_take,Nat.min_eq_left (by omega)]
    have e2:((c.toList.take off++vs++c.toList.drop (off+vs.length)).toArray.toList.take (qE xs off ys).length)=c.toList.take off++vs++(c.toList.take xs.length).drop (off+ys.length):=by
     rw[hsl,hvl,List.drop_take];have hl1:(c.toList.take off++vs).length=off+ys.length:=by simp;omega
     show(c.toList.take off++vs++c.toList.drop (off+ys.length)).take xs.length=_;rw[List.take_append,zV (by omega),hl1]
    rw[e2];rw[e1]at this;exact this
   ·have hk2:st.mem k'=some o':=by have:upd st.mem k (.row (qE xs off ys) false) k'=some o':=hk';rw[upd_ne _ _ e2]at this;exact this
    exact .inl ⟨(h.ob k' o' hk2).1,e2,hk2⟩
  ·intro g n hg;have hg':st.tip g=some n:=hg;obtain⟨hg1,hg2,A,c',sz,hg3,hg4,hg5⟩:=h.tip g n hg';by_cases e2:g=k
   ·subst e2;refine .inr ⟨hg1,hg2,A,c',sz,hg3,hg4,?_⟩;rcases hg5 with hg5 | ⟨b2,off2,cs2,t2,ha,hρ2,hφ2,hh2,hs2⟩
    ·exact .inl hg5
    ·by_cases e3:b2=b
     ·subst e3;rw[hh]at hh2;injection hh2 with hh2;injection hh2 with hc2 ht2;subst hc2 ht2;exact .inr ⟨b2,off2,_,e,ha,hρ2,hφ2,Xv hh,by simp;omega⟩
     ·exact .inr ⟨b2,off2,cs2,t2,ha,hρ2,hφ2,(setRow_other _ _ _ e3).trans hh2,hs2⟩
   ·exact .inl ⟨hg1,e2,hg'⟩
theorem zuc{S:G}{st:St}(h:Inv S st){g n m b off c sz:Nat}(ht:st.tip g=some n)(hhd:S.hd g n=some (some ⟨b,off,none⟩,c,sz))(hroom:n+m<=c)(hnc:n≠c)
  (vs:List Value) (hvl:vs.length=m*sz) :
  ∃ cs e,S.w.heap[b]?=some (.cells cs e (0,0))/\off+n*sz+vs.length<=cs.size /\ ∃ S':G,S'.w=S.w.setRow b (cs.toList.take (off+n*sz)++vs++cs.toList.drop (off+n*sz+vs.length)).toArray/\Ext S S' /\
   Inv S' { st.touch g with tip:=upd st.tip g (n+m) }/\S'.φ b=off+(n+m)*sz/\S'.hd g (n+m)=some (some ⟨b,off,none⟩,c,sz)/\S'.nx=S.nx:=by
 obtain⟨hg1,hg2,A,c',sz',hg3,hg4,hg5⟩:=h.tip g n ht;rw[hhd]at hg3;injection hg3 with hg3;simp only[zBC]at hg3;obtain⟨rfl,rfl,rfl⟩:=hg3;rcases hg5 with hg5 | ⟨b2,off2,cs,e,ha,hρ,hφ,hh,hs⟩
 ·exact(hnc hg5).elim
 ·injection ha with ha;injection ha with ha1 ha2;subst ha1 ha2;have hmul:(n+m)*sz<=c*sz:=zW _ hroom;have hadd:(n+m)*sz=n*sz+m*sz:=zBW _ _ _;refine⟨cs,e,hh,by omega,?_⟩;have he:Ext S (S.setR b (cs.toList.take (off+n*sz)++vs++cs.toList.drop (off+n*sz+vs.length)).toArray (fun b'=>if b'=b then off+(n+m)*sz else S.φ b')
    (fun g' m'=>if g'=g/\m'=n+m then some (some ⟨b,off,none⟩,c,sz)else S.hd g' m')):=by
   refine Ext.row hh (by simp;omega) (fun i hi => ?_) (by rw[hρ];omega) _ (fun b' => ?_) (fun b' hne=>by show(if b'=b then _ else _)=_;rw[zBt hne]) _ (fun g' m' x _ hx => ?_)
   ·rw[hφ]at hi;simp only[List.getElem?_toArray];rw[zBN,zBP (by simp;omega),zBR,zBu hi];simp
   ·show S.φ b'<=if b'=b then _ else _
    split
    ·next hb=>subst hb;omega
    ·exact zR _
   ·show(if g'=g/\m'=n+m then _ else _)=_;split
    ·next hgm=>
     obtain⟨rfl,rfl⟩:=hgm;by_cases hm0:m=0
     ·subst hm0;simp only[zBF]at hx;rw[hhd]at hx;exact hx
     ·rw[hg2 (n+m) (by omega)]at hx;simp at hx
    ·exact hx
  refine⟨_,rfl,he,?_,by show(if b=b then _ else _)=_;rw[zBu rfl],by show(if g=g/\n+m=n+m then _ else _)=_;rw[zBu ⟨rfl,rfl⟩],rfl⟩;refine h.step he g h.nx ?_ (fun _ _ _ h=>h) (fun g' _ hne=>by funext m';show(if g'=g/\m'=n+m then _ else _)=_;rw[zBt (fun h=>hne h.1)]) ?_ ?_ ?_ (zpv h ht _) (Qs h _)
  ·intro b' hb' hne;have hbb:b'≠b:=by rintro rfl;exact hne hρ
   exact⟨setRow_other _ _ _ hbb,by show(if b'=b then _ else _)=_;rw[zBt hbb]⟩
  ·intro k o hk;have hk':st.mem k=some o:=hk;by_cases e2:k=g
   ·subst e2;rw[h.dis _ _ hk']at ht;simp at ht
   ·exact .inl ⟨(h.ob k o hk').1,e2,hk'⟩
  ·intro g' n' hg';have hg1':upd st.tip g (n+m) g'=some n':=hg';by_cases e2:g'=g
   ·subst e2;rw[wh]at hg1';injection hg1' with hg1';subst hg1';refine .inr ⟨hg1,fun n' hn' => ?_,some ⟨b,off,none⟩,c,sz,?_,hroom,?_⟩
    ·show(if g'=g'/\n'=n+m then _ else _)=_;rw[zBt (by omega)];exact hg2 n' (by omega)
    ·show(if g'=g'/\n+m=n+m then _ else _)=_;rw[zBu ⟨rfl,rfl⟩]
    ·exact .inr ⟨b,off,_,e,rfl,hρ,by show(if b=b then _ else _)=_;rw[zBu rfl],Xv hh,by simp;omega⟩
   ·rw[upd_ne _ _ e2]at hg1';exact .inl ⟨(h.tip g' n' hg1').1,e2,hg1'⟩
  ·intro b' hb';have hb2:S.w.heap.size<=b':=by simpa[G.setR]using hb'
   have hbb:b'≠b:=by have:=lt_of_heap hh;omega
   show(if b'=b then _ else _)=0/\_;rw[zBt hbb];exact h.out b' hb2
theorem zud{S:G}{st:St}(h:Inv S st){k:Nat}{xs:List D}{fz:Bool}(hm:st.mem k=some (.row xs fz)) :
  ∃ S':G,S'.w=S.w/\Ext S S'/\Inv S' (st.setOb k (.row xs true))/\S'.μ=S.μ/\S'.hd=S.hd/\S'.nx=S.nx:=by
 have he:Ext S { S with φ:=fun b=>if S.μ k=some b then max (S.φ b) xs.length else S.φ b }:=
  { Ext.refl S with
   phi:=fun b=>by
    show S.φ b<=if S.μ k=some b then _ else _
    split
    ·exact Nat.le_max_left _ _
    ·exact zR _
   free:=fun b _ h0=>⟨rfl,by show(if S.μ k=some b then _ else _)=_;rw[zBt];intro hb2;have:=((h.ob k _ hm).2 b hb2).1;omega⟩ }
 refine⟨{ S with φ:=fun b=>if S.μ k=some b then max (S.φ b) xs.length else S.φ b },rfl,he,?_,rfl,rfl,rfl⟩;obtain⟨hk,ho⟩:=h.ob k _ hm;refine h.step he k h.nx ?_ (fun _ _ _ h=>h) (fun _ _ _=>rfl) ?_ ?_ ?_ (zmD h hm _) (Qs h _)
 ·intro b hb hne;refine⟨rfl,?_⟩;show(if S.μ k=some b then _ else _)=_;rw[zBt];intro hb2;exact hne (ho b hb2).1
 ·intro k' o' hk';by_cases e2:k'=k
  ·subst e2;have ho':o' = .row xs true:=by have:upd st.mem k' (.row xs true) k'=some o':=hk';rw[wh]at this;injection this with this;exact this.symm
   subst ho';refine .inr ⟨hk,fun b hb => ?_⟩;have hb2:S.μ k'=some b:=hb;obtain⟨hρ,hob⟩:=ho b hb2;refine⟨hρ,?_⟩;cases hob with
   | row _ _ c e hh hr h0 h1=>
    refine .row xs true c e hh (hr.ext he) (fun h=>by simp at h) (fun _ => ?_);show xs.length<=if S.μ k'=some b then _ else _
    rw[zBu hb2];exact Nat.le_max_right _ _
  ·have hk2:st.mem k'=some o':=by have:upd st.mem k (.row xs true) k'=some o':=hk';rw[upd_ne _ _ e2]at this;exact this
   exact .inl ⟨(h.ob k' o' hk2).1,e2,hk2⟩
 ·intro g n hg;have hg':st.tip g=some n:=hg;have hgk:g≠k:=by rintro rfl;rw[h.dis _ _ hm]at hg';simp at hg'
  exact .inl ⟨(h.tip g n hg').1,hgk,hg'⟩
 ·intro b hb;have hb':=h.out b hb;refine⟨?_,hb'.2⟩;show(if S.μ k=some b then _ else _)=0;rw[zBt]
  ·exact hb'.1
  ·intro hb2;have h2:=(ho b hb2).2.lt;have h3:S.w.heap.size<=b:=hb;omega
theorem zr5{S:G}{st:St}(h:Inv S st){k b:Nat}{s:List UInt8}{pos:Nat}(hm:st.mem k=some (.iter s pos))(hb:S.μ k=some b)(pos':Nat) :
  S.w.heap[b]?=some (.stringIter ⟨s.toArray⟩ pos) /\ ∃ S':G,S'.w={ S.w with heap:=S.w.heap.setIfInBounds b (.stringIter ⟨s.toArray⟩ pos') }/\Ext S S'/\Inv S' (st.setOb k (.iter s pos')):=by
 obtain⟨hk,ho⟩:=h.ob k _ hm;obtain⟨hρ,hob⟩:=ho b hb;cases hob with
 | iter _ _ hh=>
  refine⟨hh,?_⟩;have hlt:=lt_of_heap hh;have hother : ∀ b',b'≠b->(S.w.heap.setIfInBounds b (.stringIter ⟨s.toArray⟩ pos'))[b']?=S.w.heap[b']?:=by intro b' hne;rw[Array.getElem?_setIfInBounds];rw[zBt (fun h=>hne h.symm)]
  have he:Ext S { S with w:={ S.w with heap:=S.w.heap.setIfInBounds b (.stringIter ⟨s.toArray⟩ pos') } }:=
   { Ext.refl S with
    size:=by simp
    cell:=fun b' i hi=>by
     by_cases hbb:b'=b
     ·subst hbb;simp[World.cell?,hlt];have:=(Array.getElem?_eq_some_iff.1 hh).2;simp[this]
     ·exact cell_of_heap (hother b' hbb)
    free:=fun b' _ h0=>⟨hother b' (by rintro rfl;omega),rfl⟩
    shape:=fun b' o ho=>by
     by_cases hbb:b'=b
     ·subst hbb;rw[hh]at ho;injection ho with ho;subst ho;refine⟨.stringIter ⟨s.toArray⟩ pos',by simp[hlt],?_⟩;simp only[like];intro h0;omega
     ·exact⟨o,(hother b' hbb).trans ho,like.refl _ _⟩ }
  refine⟨_,rfl,he,?_⟩;refine h.step he k h.nx ?_ (fun _ _ _ h=>h) (fun _ _ _=>rfl) ?_ ?_ (fun b' hb'=>h.out b' (by simpa using hb')) (zmD h hm _) (Qs h _)
  ·intro b' hb' hne;refine⟨hother b' ?_,rfl⟩;rintro rfl;exact hne hρ
  ·intro k' o' hk';by_cases e2:k'=k
   ·subst e2;have ho':o' = .iter s pos':=by have:upd st.mem k' (.iter s pos') k'=some o':=hk';rw[wh]at this;injection this with this;exact this.symm
    subst ho';refine .inr ⟨hk,fun b' hb' => ?_⟩;have hb2:S.μ k'=some b':=hb';rw[hb]at hb2;injection hb2 with hb2;subst hb2;exact⟨hρ,.iter _ _ (by show(S.w.heap.setIfInBounds _ _)[_]?=_;simp[hlt])⟩
   ·have hk2:st.mem k'=some o':=by have:upd st.mem k (.iter s pos') k'=some o':=hk';rw[upd_ne _ _ e2]at this;exact this
    exact .inl ⟨(h.ob k' o' hk2).1,e2,hk2⟩
  ·intro g n hg;have hg':st.tip g=some n:=hg;have hgk:g≠k:=by rintro rfl;rw[h.dis _ _ hm]at hg';simp at hg'
   exact .inl ⟨(h.tip g n hg').1,hgk,hg'⟩
theorem zvK{S:G}{st:St}(h:Inv S st)(s:List UInt8) :
  ∃ S':G,S'.w=S.w.alloc (.stringIter ⟨s.toArray⟩ 0)/\Ext S S'/\Inv S' (st.newOb (.iter s 0))/\S'.μ st.nx=some S.w.heap.size/\st.nx<S'.nx:=by
 have hw:=SameW.refl S.w;have he:Ext S (S.new S.w (.stringIter ⟨s.toArray⟩ 0) 0 (S.nx+1) (fun k=>if k=S.nx then some S.w.heap.size else S.μ k) S.hd (S.nx+1)):=
  Ext.new hw h.out (fun k hk=>by show(if k=S.nx then some S.w.heap.size else S.μ k)=_;rw[zBt (by omega)]) (fun _ _ _ _ h=>h) (by omega)
 refine⟨_,rfl,he,?_,by show(if st.nx=S.nx then some S.w.heap.size else S.μ st.nx)=_;rw[zBu h.nx],by show st.nx<S.nx+1;rw[h.nx];omega⟩;refine h.step he S.nx (by show st.nx+1=S.nx+1;rw[h.nx]) (KM hw S.nx) ?_ (fun _ _ _=>rfl) ?_ ?_ (KR hw h.out) (zgz h _) (KQ h (zR _))
 ·intro k b hk hb;have:(if k=S.nx then some S.w.heap.size else S.μ k)=some b:=hb;rw[zBt (by omega)]at this;exact this
 ·intro k o hk;by_cases hk2:k=st.nx
  ·subst hk2;have ho:o = .iter s 0:=by have:(upd st.mem st.nx (.iter s 0)) st.nx=some o:=hk;rw[wh]at this;injection this with this;exact this.symm
   subst ho;refine .inr ⟨by show st.nx<S.nx+1;rw[h.nx];omega,fun b hb => ?_⟩;have hb':b=S.w.heap.size:=by have:(if st.nx=S.nx then some S.w.heap.size else S.μ st.nx)=some b:=hb;rw[zBu h.nx]at this;injection this with this;exact this.symm
   subst hb';exact⟨by show(if S.w.heap.size=S.w.heap.size then S.nx+1 else S.ρ _)=_;rw[zBu rfl,h.nx],.iter s 0 (Kx hw)⟩
  ·have hk':st.mem k=some o:=by have:(upd st.mem st.nx (.iter s 0)) k=some o:=hk;rw[upd_ne _ _ hk2]at this;exact this
   have:=(h.ob k o hk').1;exact .inl ⟨this,by omega,hk'⟩
 ·intro g n hg;have hg':st.tip g=some n:=hg;have:=(h.tip g n hg').1;exact .inl ⟨this,by omega,hg'⟩
theorem zyz{S:G}{st:St}(h:Inv S st)(t e:Nat) :
  ∃ S':G,S'.w=S.w.alloc (.cells #[.pointer none,.slice none 0 0] t (0,0))/\Ext S S'/\Inv S' (st.newOb (.bld t e []))/\S'.μ st.nx=some S.w.heap.size/\st.nx<S'.nx:=by
 have hw:=SameW.refl S.w;have he:Ext S (S.new S.w (.cells #[.pointer none,.slice none 0 0] t (0,0)) 0 (S.nx+1) (fun k=>if k=S.nx then some S.w.heap.size else S.μ k) S.hd (S.nx+1)):=
  Ext.new hw h.out (fun k hk=>by show(if k=S.nx then some S.w.heap.size else S.μ k)=_;rw[zBt (by omega)]) (fun _ _ _ _ h=>h) (by omega)
 refine⟨_,rfl,he,?_,by show(if st.nx=S.nx then some S.w.heap.size else S.μ st.nx)=_;rw[zBu h.nx],by show st.nx<S.nx+1;rw[h.nx];omega⟩;refine h.step he S.nx (by show st.nx+1=S.nx+1;rw[h.nx]) (KM hw S.nx) ?_ (fun _ _ _=>rfl) ?_ ?_ (KR hw h.out) (zgz h _) (KQ h (zR _))
 ·intro k b hk hb;have:(if k=S.nx then some S.w.heap.size else S.μ k)=some b:=hb;rw[zBt (by omega)]at this;exact this
 ·intro k o hk;by_cases hk2:k=st.nx
  ·subst hk2;have ho:o = .bld t e []:=by have:(upd st.mem st.nx (.bld t e [])) st.nx=some o:=hk;rw[wh]at this;injection this with this;exact this.symm
   subst ho;refine .inr ⟨by show st.nx<S.nx+1;rw[h.nx];omega,fun b hb => ?_⟩;have hb':b=S.w.heap.size:=by have:(if st.nx=S.nx then some S.w.heap.size else S.μ st.nx)=some b:=hb;rw[zBu h.nx]at this;injection this with this;exact this.symm
   subst hb';exact⟨by show(if S.w.heap.size=S.w.heap.size then S.nx+1 else S.ρ _)=_;rw[zBu rfl,h.nx],
    .bld t e [] _ _ (Kx hw) (.inl rfl) (by show(if S.w.heap.size=S.w.heap.size then 0 else S.φ _)=0;rw[zBu rfl]) (World.ownsRow_nil _ _ _ _) (by simp[Value.ownBlock]) (fun g hg=>by simp[Value.ownBlock]at hg)⟩
  ·have hk':st.mem k=some o:=by have:(upd st.mem st.nx (.bld t e [])) k=some o:=hk;rw[upd_ne _ _ hk2]at this;exact this
   have:=(h.ob k o hk').1;exact .inl ⟨this,by omega,hk'⟩
 ·intro g n hg;have hg':st.tip g=some n:=hg;have:=(h.tip g n hg').1;exact .inl ⟨this,by omega,hg'⟩
structure Turns(w w':World)(b:Nat)(v:Value):Prop where
 os:w'.os=w.os
 tape:w'.tape=w.tape
 output:w'.output=w.output
 size:w.heap.size<=w'.heap.size
 block : ∀ j,j<w.heap.size->j≠b->v.ownBlock≠some j->w'.heap[j]?=w.heap[j]?
def G.cut(S:G)(nx:Nat):G:={ S with nx:=nx,ρ:=fun b=>if S.ρ b<=nx then S.ρ b else 0 }
theorem Xu{xs:List D}(hp:pureL xs=true){j:Nat}{d:D}(hd:xs[j]?=some d):d.pure=true:=by
 induction xs generalizing j with
 | nil=>simp at hd
 | cons x r ih=>
  simp only[pureL,zG]at hp;cases j with
  | zero=>simp at hd;subst hd;exact hp.1
  | succ j=>simp at hd;exact ih hp.2 hd
theorem Rep.cut{S S':G}{d:D}{v:Value}(hp:d.pure=true)(h:Rep S' d v):Rep (S'.cut S.nx) d v:=by
 induction h with
 | und v=>exact .und v
 | off=>exact .off
 | bool b=>exact .bool b
 | int k n=>exact .int k n
 | float k b=>exact .float k b
 | str s=>exact .str s
 | nilp=>exact .nilp
 | nilf=>exact .nilf
 | nili=>exact .nili
 | sl g n xs A c b off us hc hA hu _ hφ hg ih=>
  have hp':pureL xs=true:=by cases g<;>simp_all [D.pure]
  refine .sl g n xs A c b off us hc hA hu (fun j d hd=>ih j d hd (Xu hp' hd)) hφ ?_;cases g with
  | no=>trivial
  | full=>exact hg
  | ln g sz=>simp[D.pure]at hp
 | ref k off n c sz b c' hk hb hc=>simp[D.pure]at hp
 | ptr k off b hk hb=>simp[D.pure]at hp
 | el xs b off us hu _ hφ ih=>
  have hp':pureL xs=true:=by simpa[D.pure]using hp
  exact .el xs b off us hu (fun j d hd=>ih j d hd (Xu hp' hd)) hφ
 | agg ds vs hs _ ih=>exact .agg ds vs hs (fun j d v hd hv=>ih j d v hd hv (Xu (by simpa[D.pure]using hp) hd))
 | tup ds vs hs _ ih=>exact .tup ds vs hs (fun j d v hd hv=>ih j d v hd hv (Xu (by simpa[D.pure]using hp) hd))
 | fn f ds vs hs _ ih=>exact .fn f ds vs hs (fun j d v hd hv=>ih j d v hd hv (Xu (by simpa[D.pure]using hp) hd))
 | iface t d v _ ih=>exact .iface t d v (ih (by simpa[D.pure]using hp))
theorem Ext.cut{S S':G}(e:Ext S S')(ho : ∀ b,S.ρ b<=S.nx):Ext S (S'.cut S.nx):=
 ⟨⟨e.os,e.tape,e.output,e.size,e.cell,e.phi,e.mu,e.hd,zR _,fun b hb=>by show(if S'.ρ b<=S.nx then S'.ρ b else 0)=_;rw[e.role b hb,zBu (ho b)],e.free,e.shape⟩,e.mu1⟩
theorem zeE{ds:List D}{vs:Array Value}(hs:vs.size=ds.length){j:Nat}{d:D}(hd:ds[j]?=some d) : ∃ u,vs[j]?=some u:=by
 have hj:j<ds.length:=by
  rcases zBD j ds.length with hj | hj
  ·exact hj
  ·simp[zBQ hj]at hd
 exact⟨vs[j],by simp[hs,hj]⟩
theorem Rep.back{S S':G}{d:D}{v u:Value}(h0:Rep S d u)(h:Rep S' d v):Rep (S'.cut S.nx) d v:=by
 induction h generalizing u with
 | und v=>exact .und v
 | off=>exact .off
 | bool b=>exact .bool b
 | int k n=>exact .int k n
 | float k b=>exact .float k b
 | str s=>exact .str s
 | nilp=>exact .nilp
 | nilf=>exact .nilf
 | nili=>exact .nili
 | sl g n xs A c b off us hc hA hu _ hφ hg ih=>
  cases h0 with
  | sl _ _ _ A0 c0 b0 off0 us0 _ _ _ hr0 _ hg0=>
   refine .sl g n xs A c b off us hc hA hu (fun j d hd=>ih j d hd (hr0 j d hd)) hφ ?_;cases g with
   | no=>trivial
   | full=>exact hg
   | ln g sz=>exact⟨hg0.1,hg.2⟩
 | ref k off n c sz b c' hk hb hc=>
  cases h0 with
  | ref _ _ _ _ _ b0 _ hk0 hb0 _=>exact .ref k off n c sz b c' hk0 hb hc
 | ptr k off b hk hb=>
  cases h0 with
  | ptr _ _ b0 hk0 hb0=>exact .ptr k off b hk0 hb
 | el xs b off us hu _ hφ ih=>
  cases h0 with
  | el _ b0 off0 us0 _ hr0 _=>exact .el xs b off us hu (fun j d hd=>ih j d hd (hr0 j d hd)) hφ
 | agg ds vs hs _ ih=>
  cases h0 with
  | agg _ vs0 hs0 hr0=>exact .agg ds vs hs (fun j d v hd hv=>by obtain⟨u,hu⟩:=zeE hs0 hd;exact ih j d v hd hv (hr0 j d u hd hu))
 | tup ds vs hs _ ih=>
  cases h0 with
  | tup _ vs0 hs0 hr0=>exact .tup ds vs hs (fun j d v hd hv=>by obtain⟨u,hu⟩:=zeE hs0 hd;exact ih j d v hd hv (hr0 j d u hd hu))
 | fn f ds vs hs _ ih=>
  cases h0 with
  | fn _ _ vs0 hs0 hr0=>exact .fn f ds vs hs (fun j d v hd hv=>by obtain⟨u,hu⟩:=zeE hs0 hd;exact ih j d v hd hv (hr0 j d u hd hu))
 | iface t d v _ ih=>
  cases h0 with
  | iface _ _ v0 h0=>exact .iface t d v (ih h0)
theorem RepOb.back{S S':G}{b b':Nat}{o:Ob}(h0:RepOb S b o)(h:RepOb S' b' o):RepOb (S'.cut S.nx) b' o:=by
 cases h with
 | row xs fz c t hb hr h1 h2=>
  cases h0 with
  | row _ _ c0 t0 hb0 hr0 _ _=>refine .row xs fz c t hb ⟨hr.1,fun j d v hd hv => ?_⟩ h1 h2;obtain⟨u,hu,hru⟩:=hr0.get hd;exact hru.back (hr.2 j d v hd hv)
 | iter s pos hb=>exact .iter s pos hb
 | bld t e s p v hb hp h0' hown hne hg=>
  refine .bld t e s p v hb hp h0' hown hne (fun g hgg=>⟨?_,(hg g hgg).2⟩);show(if S'.ρ g<=S.nx then S'.ρ g else 0)=(if S'.ρ b'<=S.nx then S'.ρ b' else 0)
  rw[(hg g hgg).1]
theorem Inv.back{S S':G}{st s:St}(h:Inv S st)(e:Ext S S')(k:Inv S' s)(hm : ∀ j,j<st.nx->s.mem j=st.mem j)(ht : ∀ j,j<st.nx->s.tip j=st.tip j) :
  Inv (S'.cut S.nx) st where
 nx:=h.nx
 ob j o hj:=by
  obtain⟨h1,h2⟩:=h.ob j o hj;refine⟨h1,fun b hb => ?_⟩;obtain⟨k1,k2⟩:=k.ob j o ((hm j (by rw[h.nx];exact h1)).trans hj);obtain⟨k3,k4⟩:=k2 b hb;refine⟨by show(if S'.ρ b<=S.nx then S'.ρ b else 0)=_;rw[k3,zBu (by omega)],?_⟩;have hb0:S.μ j=some b:=by rw[<- e.mu1 j h1];exact hb
  exact(h2 b hb0).2.back k4
 tip g n hg:=by obtain⟨h1,h2,A,c,sz,h3,h4,h5⟩:=h.tip g n hg;obtain⟨k1,k2,A',c',sz',k3,k4,k5⟩:=k.tip g n ((ht g (by rw[h.nx];exact h1)).trans hg);refine⟨h1,k2,A',c',sz',k3,k4,k5.imp id fun⟨b,off,cs,t,a1,a2,a3⟩=>⟨b,off,cs,t,a1,?_,a3⟩⟩;show(if S'.ρ b<=S.nx then S'.ρ b else 0)=_;rw[a2,zBu (by omega)]
 own b:=by show(if S'.ρ b<=S.nx then S'.ρ b else 0)<=S.nx;split<;>omega
 out b hb:=⟨(k.out b hb).1,by show(if S'.ρ b<=S.nx then S'.ρ b else 0)=0;rw[(k.out b hb).2];simp⟩
 dis:=h.dis
end
section
inductive K where
 | bool | int (k:IntKind) | float (k:FloatKind) | str | slice (e:Nat) | arr (n e:Nat) | strc (fs:List (Nat×Nat)) | ifc | ptr (e:Nat) | other
def kOf:TypeDesc->K
 | .bool => .bool
 | .int k => .int k
 | .float k => .float k
 | .string => .str
 | .slice e => .slice e
 | .array n e => .arr n e
 | .struct fs => .strc (fs.toList.map fun f=>(f.offset,f.type))
 | .interface _ => .ifc
 | .pointer e => .ptr e
 | _ => .other
def K.ag:K->Bool
 | .arr _ _ | .strc _=>true
 | _=>false
structure TI where
 k:K
 sz:Nat
 bytes:Nat
 z:List D
def ofV1:Value->Option D
 | .bool b=>some (.bool b)
 | .int k n=>some (.int k n)
 | .float k b=>some (.float k b)
 | .string s=>some (.str s.data.toList)
 | .pointer none=>some .nilp
 | .slice none 0 0=>some (.sl .full 0 [])
 | .nilFunc=>some .nilf
 | .nilIface=>some .nili
 | .func (.func f) a b=>if a.toList.isEmpty&&b.toList.isEmpty then some (.fn f [])else none
 | _=>none
def ofVL:List Value->Option (List D)
 | []=>some []
 | v::r=>(ofV1 v).bind fun d=>(ofVL r).bind fun l=>some (d::l)
def ofV:Value->Option D
 | .agg cs=>(ofVL cs.toList).map .agg
 | .iface t v=>(ofV1 v).map (.iface t)
 | v=>ofV1 v
def yR(P:Program)(t:TypeId):Option TI:=
 match P.underlying t,P.info? t with
 | some d,some i=>match i.zero with
  | some z=>if z.cells.size=i.size then(ofVL z.cells.toList).map fun l=>⟨kOf d,i.size,i.bytes,l⟩else none
  | none=>none
 | _,_=>none
abbrev Ti:=Nat->Option TI
def yS(P:Program)(ti:Ti):Prop := ∀ t i,ti t=some i->yR P t=some i
def trX:Operand->Option X
 | .tmp t=>some (.s t)
 | .const v=>(ofV v).map .k
 | .global g=>some (.g g)
 | .func f=>some (.k (.fn f []))
def trL:List Operand->Option (List X)
 | []=>some []
 | x::r=>(trX x).bind fun y=>(trL r).bind fun l=>some (y::l)
def zb6:Option Operand->Option (Option X)
 | none=>some none
 | some x=>(trX x).map some
def trF(ti:Ti):List (Nat×Nat)->Option (List (Nat×Nat))
 | []=>some []
 | f::r=>(ti f.2).bind fun t=>(trF ti r).bind fun l=>some ((f.1,t.sz)::l)
def trP(pl:List (Nat×Nat)):List (Nat×Operand)->Option (List (Nat×Nat×X))
 | []=>some []
 | (i,x)::r=>(pl[i]?).bind fun f=>(trX x).bind fun y=>(trP pl r).bind fun l=>some ((f.1,f.2,y)::l)
def trQ(sz:Nat):List (Nat×Operand)->Option (List (Nat×Nat×X))
 | []=>some []
 | (i,x)::r=>(trX x).bind fun y=>(trQ sz r).bind fun l=>some ((i*sz,sz,y)::l)
def zej:K->K->X->Option O
 | .int _,.int k,x=>some (.cvi k x)
 | .str,.str,x=>some (.cms x)
 | _,_,_=>none
def Z7(ti:Ti)(b:Builtin)(args:List Operand)(ts:List Nat):Option O:=
 match b,args,ts with
 | .len,[x],[t]=>(ti t).bind fun i=>match i.k with
  | .str=>(trX x).map .lns
  | .slice _=>(trX x).map .len
  | _=>none
 | .cap,[x],[t]=>(ti t).bind fun i=>match i.k with
  | .slice _=>(trX x).map .cap
  | _=>none
 | .append,[s,x],[t,u]=>(ti t).bind fun i=>(ti u).bind fun j=>match i.k with
  | .slice e=>(ti e).bind fun k=>if 0<k.sz then(trX s).bind fun s=>(trX x).bind fun x=>match j.k with
   | .slice _ | .str=>some (.app k.sz k.bytes s x)
   | .int _=>some (.apz k.z k.bytes s x)
   | _=>none
   else none
  | _=>none
 | .copy,[d,s],t::_=>(ti t).bind fun i=>match i.k with
  | .slice e=>(ti e).bind fun k=>if 0<k.sz then(trX d).bind fun d=>(trX s).bind fun s=>some (.cpy k.sz d s)else none
  | _=>none
 | .min,xs,_=>(trL xs).map .min
 | .max,xs,_=>(trL xs).map .max
 | _,_,_=>none
def zu8(ti:Ti)(i:TI):Option Nat:=
 match i.k,i.z with
 | .strc [(0,_),(1,q)],[.nilp,.sl .full 0 []]=>(ti q).bind fun j=>match j.k with
  | .slice e=>(ti e).bind fun u=>match u.k with | .int .u8=>some e | _=>none
  | _=>none
 | _,_=>none
theorem zs5{v:Value}(h:ofV1 v=some .nilp):v = .pointer none:=by unfold ofV1 at h;split at h<;>first | rfl | (simp at h;done) | (split at h<;>simp at h)
theorem zqS{v:Value}(h:ofV1 v=some (.sl .full 0 [])):v = .slice none 0 0:=by unfold ofV1 at h;split at h<;>first | rfl | (simp at h;done) | (split at h<;>simp at h)
theorem zua{cs:Array Value}(h:ofVL cs.toList=some [.nilp,.sl .full 0 []]):cs = #[.pointer none,.slice none 0 0]:=by
 obtain⟨l⟩:=cs
 match l,h with
 | [],h=>simp[ofVL]at h
 | [x],h=>simp only[ofVL,zA]at h;obtain⟨d,hd,l,hl,h⟩:=h;injection hl with hl;subst hl;simp at h
 | [x,y],h=>simp only[ofVL,zA]at h;obtain⟨d,hd,l,⟨d2,hd2,l2,hl2,hl⟩,h⟩:=h;injection hl2 with hl2;subst hl2;injection hl with hl;subst hl;simp only[zBB,List.cons.injEq,and_true]at h;obtain⟨rfl,rfl⟩:=h;rw[zs5 hd,zqS hd2]
 | _::_::_::_,h=>simp only[ofVL,zA]at h;obtain⟨d,hd,l,⟨d2,hd2,l2,⟨d3,_,l3,_,h3⟩,hl⟩,h⟩:=h;injection h3 with h3;subst h3;injection hl with hl;subst hl;simp at h
def trO(ti:Ti)(o:Oper):Option O:=
 match o.op with
 | .move x | .assign x=>(trX x).map .mv
 | .pick c a b=>(trX c).bind fun c=>(trX a).bind fun a=>(trX b).map fun b => .pick c a b
 | .alloc t=>(ti t).bind fun i=>match zu8 ti i with | some e=>some (.nbl t e) | none=>some (.alloc i.z)
 | .box _ x=>(trX x).map .box
 | .build t ps=>(ti t).bind fun i=>match i.k with
  | .strc fs=>(trF ti fs).bind fun pl=>(trP pl ps.toList).map (.build i.z)
  | .arr _ e=>(ti e).bind fun j=>(trQ j.sz ps.toList).map (.build i.z)
  | _=>none
 | .buildSlice t n ps=>(ti t).bind fun i=>match i.k with
  | .slice e=>(ti e).bind fun j=>if n*j.sz<=16777216/\0<j.sz then(trQ j.sz ps.toList).map (.lit n j.z)else none
  | _=>none
 | .load t a=>(ti t).bind fun i=>(trX a).map (.load i.k.ag i.sz)
 | .store t a v=>(ti t).bind fun i=>(trX a).bind fun a=>(trX v).map (.store i.sz a)
 | .nilCheck x=>(trX x).map .chk
 | .binOp op t x y _=>(ti t).bind fun i=>(trX x).bind fun x'=>(trX y).bind fun y'=>match i.k with
  | .int _ | .str | .float _=>some (.bin op x' y')
  | .bool=>match op with | .eql=>some (.beq false x' y') | .neq=>some (.beq true x' y') | _=>none
  | .ifc=>match op,y with
   | .eql,.const .nilIface=>some (.inil false x')
   | .neq,.const .nilIface=>some (.inil true x')
   | _,_=>none
  | _=>none
 | .unOp op _ x=>(trX x).map (.un op)
 | .convert s d x=>(ti s).bind fun i=>(ti d).bind fun j=>(trX x).bind fun x=>match i.k,j.k with
  | .slice e,.str=>(ti e).bind fun k=>match k.k with | .int .u8=>some (.cbs x) | _=>none
  | .str,.slice e=>(ti e).bind fun k=>match k.k with | .int .u8=>some (.csb x) | _=>none
  | a,b=>zej a b x
 | .makeInterface t x=>(ti t).bind fun i=>match i.k with | .ifc=>none | _=>(trX x).map (.ifc t)
 | .makeFunc (.func f) a cap=>if a.toList.isEmpty then(trL cap.toList).map (.mkf f)else none
 | .makeSlice t n c=>(ti t).bind fun i=>match i.k with
  | .slice e=>(ti e).bind fun j=>(trX n).bind fun n=>(trX c).map fun c => .mks j.z j.bytes n c
  | _=>none
 | .slice t x l h m=>(ti t).bind fun i=>(trX x).bind fun x=>(zb6 l).bind fun l=>(zb6 h).bind fun h=>(zb6 m).bind fun m=>match i.k with
  | .str=>match m with | none=>some (.sls x l h) | some _=>none
  | .slice e=>(ti e).bind fun j=>if 0<j.sz then some (.slc j.sz x l h m)else none
  | .arr n e=>(ti e).bind fun j=>if 0<j.sz then some (.sla n j.sz x l h m)else none
  | _=>none
 | .fieldAddr t x f=>(ti t).bind fun i=>match i.k with
  | .strc fs=>(fs[f]?).bind fun p=>(ti p.2).bind fun j=>if j.sz=0 then none else(trX x).map (.fad p.1)
  | _=>none
 | .field t x f=>(ti t).bind fun i=>match i.k with
  | .strc fs=>(fs[f]?).bind fun p=>(ti p.2).bind fun j=>(trX x).map (.fld j.k.ag p.1 j.sz)
  | _=>none
 | .indexAddr t x i=>(ti t).bind fun j=>match j.k with
  | .slice e=>(ti e).bind fun k=>if 0<k.sz then(trX x).bind fun x=>(trX i).map (.iad k.sz x)else none
  | .arr n e=>(ti e).bind fun k=>(trX x).bind fun x=>(trX i).map (.iaa n k.sz x)
  | _=>none
 | .index t x i=>(ti t).bind fun j=>match j.k with
  | .arr n e=>(ti e).bind fun k=>(trX x).bind fun x=>(trX i).map (.ixa k.k.ag n k.sz x)
  | .str=>(trX x).bind fun x=>(trX i).map (.ixs x)
  | _=>none
 | .extract x i=>(trX x).map fun x => .ext x i
 | .range t x=>(ti t).bind fun i=>match i.k with | .str=>(trX x).map .rng | _=>none
 | .next x true=>(trX x).map .nxt
 | .typeAssert x _ t ok=>(ti t).bind fun i=>match i.k with | .ifc=>none | _=>(trX x).map (.tas t ok)
 | .panic x=>(trX x).map .pan
 | .call c=>match c.callee with
  | .builtin b=>Z7 ti b c.args.toList c.argTypes.toList
  | .value (.func f)=>(trL c.args.toList).map (.call f)
  | .value (.tmp t)=>(trL c.args.toList).map (.callv (.s t))
  | _=>none
 | _=>none
def TrO(ti:Ti)(o:Oper)(p:O):Prop:=trO ti o=some p \/ ∃ sz by' x,trO ti o=some (.app sz by' (.k (.sl .full 0 [])) x)/\p = .apr sz by' x
def zy9(b:Bool):O->O
 | .app sz by' (.k (.sl .full 0 [])) x=>match b with | true => .apr sz by' x | false => .app sz by' (.k (.sl .full 0 [])) x
 | p=>p
theorem zsq{ti:Ti}{o:Oper}{p:O}(h:trO ti o=some p)(b:Bool):TrO ti o (zy9 b p):=by
 unfold zy9;split
 ·next sz by' x=>
  cases b with
  | true=>exact .inr ⟨sz,by',x,h,rfl⟩
  | false=>exact .inl h
 ·exact .inl h
theorem TrO.of{ti:Ti}{o:Oper}{p:O}(h:TrO ti o p)(hp:(match p with | .apr _ _ _=>false | _=>true)=true):trO ti o=some p:=by
 rcases h with h | ⟨sz,by',x,_,rfl⟩
 ·exact h
 ·simp at hp
theorem zxS{ti:Ti}{o:Oper}{sz by':Nat}{s x:X}(h:trO ti o=some (.app sz by' s x)) :
  ∃ (c:Call) (x0 y0:Operand) (t u:Nat) (i j:TI) (e:Nat) (k:TI),o.op = .call c/\c.callee = .builtin .append/\c.args.toList=[x0,y0]/\c.argTypes.toList=[t,u]/\ti t=some i/\ti u=some j/\i.k = .slice e/\ti e=some k/\0<k.sz /\
   ((∃ e',j.k = .slice e')\/j.k = .str)/\trX x0=some s/\trX y0=some x/\sz=k.sz/\by'=k.bytes:=by
 obtain⟨dst,op,type,pos,after,guard⟩:=o;cases op;case call c=>
  simp only[trO]at h;split at h
  ·next b hb=>
   unfold Z7 at h;split at h;case h_3 s0 x0 t u h1 h2=>
    simp only[zA]at h;obtain⟨i,hi1,j,hj1,h⟩:=h;split at h
    ·next e hk=>
     simp only[zA]at h;obtain⟨k,hk1,h⟩:=h;split at h
     ·next hs=>
      simp only[zA]at h;obtain⟨s',hs',x',hx',h⟩:=h;split at h
      ·next e' hj=>
       injection h with h;injection h with q1 q2 q3 q4;subst q1 q2 q3 q4;exact⟨c,s0,x0,t,u,i,j,e,k,rfl,hb,h1,h2,hi1,hj1,hk,hk1,hs,.inl ⟨e',hj⟩,hs',hx',rfl,rfl⟩
      ·next hj=>
       injection h with h;injection h with q1 q2 q3 q4;subst q1 q2 q3 q4;exact⟨c,s0,x0,t,u,i,j,e,k,rfl,hb,h1,h2,hi1,hj1,hk,hk1,hs,.inr hj,hs',hx',rfl,rfl⟩
      ·simp at h
      ·simp at h
     ·simp at h
    ·simp at h
   all_goals (repeat' (first | contradiction | (exfalso;simp only[zB,reduceCtorEq,and_false,exists_false,zBB]at h;done) | (rw[zA]at h;obtain⟨_,_,h⟩:=h) | (split at h)))
  ·(repeat' (first | contradiction | (exfalso;simp only[zB,reduceCtorEq,and_false,exists_false,zBB]at h;done) | (rw[zA]at h;obtain⟨_,_,h⟩:=h) | (split at h)))
  ·(repeat' (first | contradiction | (exfalso;simp only[zB,reduceCtorEq,and_false,exists_false,zBB]at h;done) | (rw[zA]at h;obtain⟨_,_,h⟩:=h) | (split at h)))
  ·simp at h
 all_goals (simp only[trO,zej]at h;(repeat' (first | contradiction | (exfalso;simp only[zB,reduceCtorEq,and_false,exists_false,zBB]at h;done) | (rw[zA]at h;obtain⟨_,_,h⟩:=h) | (split at h))))
section
variable {P:Program} {ti:Ti} (hti:yS P ti) {t:Nat} {i:TI} (h:ti t=some i)
theorem Yp(hti:yS P ti)(h:ti t=some i) : ∃ d inf z,P.underlying t=some d/\P.info? t=some inf/\inf.zero=some z/\kOf d=i.k/\inf.size=i.sz/\inf.bytes=i.bytes/\z.cells.size=i.sz/\ofVL z.cells.toList=some i.z:=by
 have:=hti t i h;unfold yR at this;split at this
 ·next d inf hd hi=>
  split at this
  ·next z hz=>
   split at this
   ·next hs=>
    simp only[zB]at this;obtain⟨l,hl,rfl⟩:=this;exact⟨d,inf,z,hd,hi,hz,rfl,rfl,rfl,hs,hl⟩
   ·simp at this
  ·simp at this
 ·simp at this
theorem zlO(hti:yS P ti)(h:ti t=some i) : ∃ inf,P.info? t=some inf/\inf.size=i.sz/\inf.bytes=i.bytes:=by obtain⟨d,inf,z,h1,h2,h3,h4,h5,h6,h7,h8⟩:=Yp hti h;exact⟨inf,h2,h5,h6⟩
theorem Zf(hti:yS P ti)(h:ti t=some i) : ∃ d,P.underlying t=some d/\kOf d=i.k:=by obtain⟨d,inf,z,h1,h2,h3,h4,h5,h6,h7,h8⟩:=Yp hti h;exact⟨d,h1,h4⟩
theorem qj(hti:yS P ti)(h:ti t=some i){e:Nat}(hk:i.k = .slice e):P.underlying t=some (.slice e):=by obtain⟨d,h1,h2⟩:=Zf hti h;rw[hk]at h2;cases d<;>simp_all [kOf]
theorem zlI(hti:yS P ti)(h:ti t=some i){n e:Nat}(hk:i.k = .arr n e):P.underlying t=some (.array n e):=by obtain⟨d,h1,h2⟩:=Zf hti h;rw[hk]at h2;cases d<;>simp_all [kOf]
theorem Ve(hti:yS P ti)(h:ti t=some i)(hk:i.k = .str):P.underlying t=some .string:=by obtain⟨d,h1,h2⟩:=Zf hti h;rw[hk]at h2;cases d<;>simp_all [kOf]
theorem zxC(hti:yS P ti)(h:ti t=some i)(hk:i.k = .bool):P.underlying t=some .bool:=by obtain⟨d,h1,h2⟩:=Zf hti h;rw[hk]at h2;cases d<;>simp_all [kOf]
theorem zzy(hti:yS P ti)(h:ti t=some i)(hk:i.k = .ifc) : ∃ ms,P.underlying t=some (.interface ms):=by obtain⟨d,h1,h2⟩:=Zf hti h;rw[hk]at h2;cases d<;>simp_all [kOf]
theorem zht(hti:yS P ti)(h:ti t=some i){k:IntKind}(hk:i.k = .int k):P.underlying t=some (.int k):=by obtain⟨d,h1,h2⟩:=Zf hti h;rw[hk]at h2;cases d<;>simp_all [kOf]
theorem znb(hti:yS P ti)(h:ti t=some i){fs:List (Nat×Nat)}(hk:i.k = .strc fs) : ∃ a:Array Field,P.underlying t=some (.struct a)/\a.toList.map (fun f=>(f.offset,f.type))=fs:=by obtain⟨d,h1,h2⟩:=Zf hti h;rw[hk]at h2;cases d<;>simp_all [kOf]
theorem zrV(hti:yS P ti)(h:ti t=some i)(w:World):(isAgg t).run P w = .ok i.k.ag w:=by obtain⟨d,h1,h2⟩:=Zf hti h;unfold isAgg;simp only[Sem.run_bind,run_underlying h1,Result.andThen_ok];rw[<- h2];cases d<;>simp[kOf,K.ag]
theorem qd(hti:yS P ti)(h:ti t=some i)(w:World):(sizeOf t).run P w = .ok i.sz w:=by obtain⟨inf,h1,h2,h3⟩:=zlO hti h;simp[sizeOf,typeInfo,h1,h2]
theorem zrO(hti:yS P ti)(h:ti t=some i)(w:World) : ∃ z,(zeroValue t).run P w = .ok z w/\z.cells.size=i.sz/\ofVL z.cells.toList=some i.z:=by obtain⟨d,inf,z,h1,h2,h3,h4,h5,h6,h7,h8⟩:=Yp hti h;exact⟨z,by simp[zeroValue,typeInfo,h2,h3],h7,h8⟩
end
theorem Rep.slNil(S:G)(g:Tg)(A:Option Addr)(n c:Nat)(h:n<=c)(hg:TgOk S n A c g):Rep S (.sl g n []) (.slice A n c):=
 .sl g n [] A c 0 0 (fun _=>undef) h (.inl rfl) (fun j hj=>by simp at hj) (fun j d hd=>by simp at hd) (.inl rfl) hg
theorem Rep.ofV1(S:G){v:Value}{d:D}(h:ofV1 v=some d):Rep S d v:=by
 cases v with
 | bool b=>injection h with h;subst h;exact .bool b
 | int k n=>injection h with h;subst h;exact .int k n
 | float k b=>injection h with h;subst h;exact .float k b
 | complex k a b=>simp[Ev.ofV1]at h
 | string s=>injection h with h;subst h;exact .str _
 | pointer a=>
  cases a with
  | none=>injection h with h;subst h;exact .nilp
  | some a=>simp[Ev.ofV1]at h
 | slice a n c=>
  cases a with
  | none=>
   cases n with
   | zero=>
    cases c with
    | zero=>injection h with h;subst h;exact Rep.slNil S .full none 0 0 (zR _) rfl
    | succ c=>simp[Ev.ofV1]at h
   | succ n=>simp[Ev.ofV1]at h
  | some a=>simp[Ev.ofV1]at h
 | map r=>simp[Ev.ofV1]at h
 | chan r=>simp[Ev.ofV1]at h
 | func f a b=>
  cases f with
  | func f=>
   simp only[Ev.ofV1]at h;split at h
   ·next hab=>
    injection h with h;subst h;simp only[zG,List.isEmpty_iff]at hab;have ha:a = #[]:=by have:=hab.1;simpa using this
    have hb:b = #[]:=by have:=hab.2;simpa using this
    subst ha hb;exact .fn f [] #[] rfl (fun j d v hd=>by simp at hd)
   ·simp at h
  | _=>simp[Ev.ofV1]at h
 | nilFunc=>injection h with h;subst h;exact .nilf
 | iface t v=>simp[Ev.ofV1]at h
 | nilIface=>injection h with h;subst h;exact .nili
 | agg cs=>simp[Ev.ofV1]at h
 | tuple vs=>simp[Ev.ofV1]at h
theorem RepL.ofVL(S:G){vs:List Value}{ds:List D}(h:ofVL vs=some ds):RepL S ds vs:=by
 induction vs generalizing ds with
 | nil=>simp[Ev.ofVL]at h;subst h;exact RepL.nil S
 | cons v r ih=>simp only[Ev.ofVL,zA]at h;obtain⟨d,hd,l,hl,h⟩:=h;injection h with h;subst h;exact RepL.cons (Rep.ofV1 S hd) (ih hl)
theorem Rep.ofV(S:G){v:Value}{d:D}(h:ofV v=some d):Rep S d v:=by
 cases v with
 | agg cs=>simp only[Ev.ofV,zB]at h;obtain⟨l,hl,rfl⟩:=h;have:=RepL.ofVL S hl;exact .agg l cs (by simpa using this.1) (fun j d v hd hv=>this.2 j d v hd (by simpa using hv))
 | iface t v=>simp only[Ev.ofV,zB]at h;obtain⟨d',hd,rfl⟩:=h;exact .iface t d' v (Rep.ofV1 S hd)
 | _=>exact Rep.ofV1 S h
def GlOk(S:G)(E:Env):Prop := ∀ g xs,E.gl g=some xs->Rep S (.el xs) (.pointer (some ⟨g,0,none⟩))
theorem GlOk.ext{S S':G}(h:Ext S S'){E:Env}(hg:GlOk S E):GlOk S' E:=fun g xs hx=>(hg g xs hx).ext h
section
variable {S:G} {E:Env} {tm:Tm} {a:Act} (hf:FrameRep S tm a.tmps) (hg:GlOk S E)
theorem Rep.ev(hf:FrameRep S tm a.tmps)(hg:GlOk S E){x:Operand}{y:X}{d:D}(ht:trX x=some y)(he:ev E tm y=some d):Rep S d (a.eval x):=by
 cases x with
 | tmp t=>
  injection ht with ht;subst ht;obtain⟨v,hv,hr⟩:=hf t d he;have:a.eval (.tmp t)=v:=by show a.tmps.getD t undef=v;simp[Array.getD_eq_getD_getElem?,hv]
  rw[this];exact hr
 | const v=>simp only[trX,zB]at ht;obtain⟨d',hd,rfl⟩:=ht;injection he with he;subst he;exact Rep.ofV S hd
 | global g=>injection ht with ht;subst ht;simp only[Ev.ev,zB]at he;obtain⟨xs,hx,rfl⟩:=he;exact hg g xs hx
 | func f=>injection ht with ht;subst ht;injection he with he;subst he;exact .fn f [] #[] rfl (fun j d v hd=>by simp at hd)
theorem RepL.evL(hf:FrameRep S tm a.tmps)(hg:GlOk S E){xs:List Operand}{ys:List X}{ds:List D}(ht:trL xs=some ys)(he:evL E tm ys=some ds):RepL S ds (xs.map a.eval):=by
 induction xs generalizing ys ds with
 | nil=>injection ht with ht;subst ht;injection he with he;subst he;exact RepL.nil S
 | cons x r ih=>simp only[trL,zA]at ht;obtain⟨y,hy,l,hl,ht⟩:=ht;injection ht with ht;subst ht;simp only[Ev.evL,zA]at he;obtain⟨d,hd,l',hl',he⟩:=he;injection he with he;subst he;exact RepL.cons (Rep.ev hf hg hy hd) (ih hl hl')
theorem Rep.evO(hf:FrameRep S tm a.tmps)(hg:GlOk S E){x:Option Operand}{y:Option X}{d:Option D}(ht:zb6 x=some y)(he:evO E tm y=some d) :
  (x=none/\d=none) \/ ∃ x' d',x=some x'/\d=some d'/\Rep S d' (a.eval x'):=by
 cases x with
 | none=>injection ht with ht;subst ht;injection he with he;subst he;exact .inl ⟨rfl,rfl⟩
 | some x=>simp only[zb6,zB]at ht;obtain⟨y',hy,rfl⟩:=ht;simp only[Ev.evO,zB]at he;obtain⟨d',hd,rfl⟩:=he;exact .inr ⟨x,d',rfl,rfl,Rep.ev hf hg hy hd⟩
end
def Yields(P:Program)(S:G)(a:Act)(o:Oper)(r:Option D)(st':St):Prop:=
 ∃ nx S',(execOp a.eval o).run P S.w = .ok nx S'.w/\Ext S S'/\Inv S' st'/\match r with | some d => ∃ v,nx = .value v/\Rep S' d v | none=>nx = .skip
theorem Yields.val{P:Program}{S:G}{a:Act}{o:Oper}{d:D}{st:St}{v:Value}(h:(execOp a.eval o).run P S.w = .ok (.value v) S.w)(hi:Inv S st)(hr:Rep S d v):Yields P S a o (some d) st:=
 ⟨_,S,h,Ext.refl S,hi,v,rfl,hr⟩
theorem Yields.mem{P:Program}{S S':G}{a:Act}{o:Oper}{d:D}{st:St}{v:Value}(h:(execOp a.eval o).run P S.w = .ok (.value v) S'.w)(he:Ext S S')(hi:Inv S' st)(hr:Rep S' d v):Yields P S a o (some d) st:=
 ⟨_,S',h,he,hi,v,rfl,hr⟩
theorem yn{P:Program}{w w':World}{s:Sem Value}{v:Value}(h:s.run P w = .ok v w'):(do pure (Next.value (<- s)):Sem Next).run P w = .ok (.value v) w':=by simp[h]
end
section
section
variable {P:Program} {E:Env} {ti:Ti} {st:St} {S:G} {a:Act} {o:Oper} (hti:yS P ti) (hi:Inv S st) (hf:FrameRep S st.tm a.tmps) (hg:GlOk S E)
theorem Rep.bool_inv{d:D}{v:Value}{b:Bool}(h:Rep S d v)(hd:d = .bool b):v = .bool b:=by subst hd;cases h;rfl
theorem Rep.int_inv{k:IntKind}{n:Int}{v:Value}(h:Rep S (.int k n) v):v = .int k n:=by cases h;rfl
theorem Rep.str_inv{s:List UInt8}{v:Value}(h:Rep S (.str s) v):v = .string ⟨s.toArray⟩:=by cases h;rfl
theorem Rep.float_inv{k:FloatKind}{n:Nat}{v:Value}(h:Rep S (.float k n) v):v = .float k n:=by cases h;rfl
theorem zAN(hi:Inv S st)(hf:FrameRep S st.tm a.tmps)(hg:GlOk S E)(x:Operand)(ho:o.op = .move x\/o.op = .assign x){y:X}(ht:trX x=some y){r:Option D}{st':St}(h:opD E st (.mv y)=some (r,st')):Yields P S a o r st':=by simp only[opD,zB,zBC]at h;obtain⟨d,hd,rfl,rfl⟩:=h;refine Yields.val ?_ hi (Rep.ev hf hg ht hd);rcases ho with ho | ho<;>simp[execOp,ho]
theorem zzv(hi:Inv S st)(hf:FrameRep S st.tm a.tmps)(hg:GlOk S E)(c x y:Operand)(ho:o.op = .pick c x y){c' x' y':X}(hc:trX c=some c')(hx:trX x=some x')(hy:trX y=some y'){r:Option D}{st':St}
  (h:opD E st (.pick c' x' y')=some (r,st')):Yields P S a o r st':=by
 simp only[opD]at h;split at h
 ·next hb=>
  simp only[zB,zBC]at h;obtain⟨d,hd,rfl,rfl⟩:=h;have h1:=(Rep.ev hf hg hc hb).bool_inv rfl;exact Yields.val (by simp[execOp,ho,h1,asBool]) hi (Rep.ev hf hg hx hd)
 ·next hb=>
  simp only[zB,zBC]at h;obtain⟨d,hd,rfl,rfl⟩:=h;have h1:=(Rep.ev hf hg hc hb).bool_inv rfl;exact Yields.val (by simp[execOp,ho,h1,asBool]) hi (Rep.ev hf hg hy hd)
 ·simp at h
theorem zBa(hi:Inv S st)(hf:FrameRep S st.tm a.tmps)(hg:GlOk S E)(x:Operand)(ho:o.op = .nilCheck x){y:X}(ht:trX x=some y){r:Option D}{st':St}(h:opD E st (.chk y)=some (r,st')):Yields P S a o r st':=by
 simp only[opD,zA]at h;obtain⟨d,hd,h⟩:=h;have hr:=Rep.ev hf hg ht hd;have key : ∀ v,a.eval x=v->(∀ z,z=v->(match v with | .pointer none=>False | .nilIface=>False | .nilFunc=>False | .func (.method _) _ _=>False | _=>True))->(execOp a.eval o).run P S.w = .ok (.value v) S.w:=by intro v hv hz;have hz:=hz v rfl;simp only[execOp,ho,hv];split<;>first | rfl | (simp at hz)
 generalize hv:a.eval x=v at hr;split at h<;>simp only[zBB,zBC,reduceCtorEq]at h;all_goals
  obtain⟨rfl,rfl⟩:=h;refine Yields.val (v:=v) (key v hv ?_) hi hr;cases hr<;>simp
theorem zAj(hi:Inv S st)(hf:FrameRep S st.tm a.tmps)(hg:GlOk S E)(t:Nat)(x:Operand)(ho:o.op = .makeInterface t x){i:TI}(hi0:ti t=some i)(hk:i.k ≠ .ifc){y:X}(ht:trX x=some y)(hti:yS P ti)
  {r:Option D} {st':St} (h:opD E st (.ifc t y)=some (r,st')):Yields P S a o r st':=by
 simp only[opD,zB,zBC]at h;obtain⟨d,hd,rfl,rfl⟩:=h;obtain⟨dd,h1,h2⟩:=Zf hti hi0;refine Yields.val (v := .iface t (a.eval x)) ?_ hi (.iface t d _ (Rep.ev hf hg ht hd));simp only[execOp,ho];refine yn ?_;simp only[Instr.makeInterface,Sem.run_bind,run_underlying h1,Result.andThen_ok];cases dd<;>simp_all [kOf]
theorem zAM(hi:Inv S st)(hf:FrameRep S st.tm a.tmps)(hg:GlOk S E)(f:Nat)(fst cap:Array Operand)(ho:o.op = .makeFunc (.func f) fst cap)(h0:fst.toList.isEmpty=true){ys:List X}(ht:trL cap.toList=some ys)
  {r:Option D} {st':St} (h:opD E st (.mkf f ys)=some (r,st')):Yields P S a o r st':=by
 simp only[opD,zB,zBC]at h;obtain⟨ds,hd,rfl,rfl⟩:=h;have hr:=RepL.evL hf hg ht hd;have h1:fst = #[]:=by simpa using h0
 subst h1;refine Yields.val (v := .func (.func f) #[] (cap.map a.eval)) ?_ hi (.fn f ds _ (by simpa using hr.1) (fun j d v hd hv=>hr.2 j d v hd (by simpa using hv)));simp[execOp,ho,Instr.makeFunc]
theorem zBl(hi:Inv S st)(hf:FrameRep S st.tm a.tmps)(hg:GlOk S E)(op:UnOp)(t:Nat)(x:Operand)(ho:o.op = .unOp op t x){y:X}(ht:trX x=some y){r:Option D}{st':St}(h:opD E st (.un op y)=some (r,st')):Yields P S a o r st':=by
 simp only[opD,zA,zB,zBC]at h;obtain⟨d,hd,e,he,rfl,rfl⟩:=h;have hr:=Rep.ev hf hg ht hd;cases op<;>cases d<;>simp only[unD,reduceCtorEq,zBB]at he
 ·subst he;have:=hr.int_inv;refine Yields.val ?_ hi (.int _ _);simp[execOp,ho,this,Op.unary,Op.intArith]
 ·have:=hr.int_inv;simp only[intD,zBB]at he;subst he;refine Yields.val ?_ hi (.int _ _);simp[execOp,ho,this,Op.unary,intBits_xor]
 ·subst he;have:=hr.bool_inv rfl;refine Yields.val ?_ hi (.bool _);simp[execOp,ho,this,Op.unary]
theorem zwQ{op:BinOp}{k k':IntKind}{x y:Int}{d:D}(hk:Y7 op=true\/k=k')(h:intD op k x y=some d)(t:Nat)(w:World) :
  ∃ v,Rep S d v/\(binOp op t (.int k x) (.int k' y)).run P w = .ok v w:=by
 cases op<;>simp only[Y7,zF,false_or]at hk<;>(try subst hk)<;>simp only[intD]at h;case shl=>
  split at h
  ·simp at h
  ·next hy=>
   injection h with h;subst h;exact⟨_,.int _ _,by simp[binOp,Op.shift,hy]⟩
 case shr=>
  split at h
  ·simp at h
  ·next hy=>
   injection h with h;subst h;exact⟨_,.int _ _,by simp[binOp,Op.shift,hy]⟩
 case quo=>
  split at h
  ·simp at h
  ·next hy=>
   injection h with h;subst h;exact⟨_,.int _ _,by simp[binOp,Op.intDiv,hy]⟩
 case rem=>
  split at h
  ·simp at h
  ·next hy=>
   injection h with h;subst h;exact⟨_,.int _ _,by simp[binOp,Op.intDiv,hy]⟩
 case and=>injection h with h;subst h;refine⟨_,.int _ _,?_⟩;rw[binOp_and];rfl
 case or=>injection h with h;subst h;refine⟨_,.int _ _,?_⟩;rw[binOp_or];rfl
 case xor=>injection h with h;subst h;refine⟨_,.int _ _,?_⟩;rw[binOp_xor];rfl
 case andNot=>injection h with h;subst h;refine⟨_,.int _ _,?_⟩;rw[binOp_andNot];rfl
 case add=>injection h with h;subst h;exact⟨_,.int _ _,by simp[binOp,Op.intArith]⟩
 case sub=>injection h with h;subst h;exact⟨_,.int _ _,by simp[binOp,Op.intArith]⟩
 case mul=>injection h with h;subst h;exact⟨_,.int _ _,by simp[binOp,Op.intArith]⟩
 all_goals
  injection h with h;subst h;exact⟨_,.bool _,by simp[binOp,Op.intCmp]⟩
theorem zmI(s:List UInt8):(⟨s.toArray⟩:ByteArray).toList=s:=by rw[ByteArray.toList_eq]
theorem zwq{op:BinOp}{x y:List UInt8}{d:D}(h:zvV op x y=some d)(t:Nat)(w:World) :
  ∃ v,Rep S d v/\(binOp op t (.string ⟨x.toArray⟩) (.string ⟨y.toArray⟩)).run P w = .ok v w:=by
 cases op<;>simp only[zvV,reduceCtorEq]at h;case add=>
  split at h
  ·next hl=>
   injection h with h;subst h;refine⟨_,.str _,?_⟩;have h1 : ¬ (((⟨x.toArray⟩:ByteArray).size+(⟨y.toArray⟩:ByteArray).size:Nat):Int)>IntKind.i64.max:=by simp only[ByteArray.size,List.size_toArray,IntKind.max_i64];omega
   simp only[binOp,Op.stringOp,zBt h1];show Result.ok _ _=_;congr 2
  ·simp at h
 all_goals
  injection h with h;subst h;exact⟨_,.bool _,by simp[binOp,Op.stringOp,zmI]⟩
theorem zu2(hi:Inv S st)(hf:FrameRep S st.tm a.tmps)(hg:GlOk S E)(op:BinOp)(t u:Nat)(x y:Operand)(ho:o.op = .binOp op t x y u){x' y':X}(hx:trX x=some x')(hy:trX y=some y'){r:Option D}{st':St}
  (h:opD E st (.bin op x' y')=some (r,st')):Yields P S a o r st':=by
 simp only[opD,zA,zB,zBC]at h;obtain⟨d,hd,e,he,z,hz,rfl,rfl⟩:=h;have h1:=Rep.ev hf hg hx hd;have h2:=Rep.ev hf hg hy he;have key : ∀ v w,(do eqGuard op t x y (a.eval x) (a.eval y);binOp op t (a.eval x) (a.eval y):Sem Value).run P S.w = .ok v w->(execOp a.eval o).run P S.w = .ok (.value v) w:=by intro v w h;simp only[execOp,ho];exact yn h
 unfold zue at hz;split at hz
 ·next k n k' m=>
  have e1:=h1.int_inv;have e2:=h2.int_inv;split at hz
  ·next hc=>
   simp only[zCc,zCb]at hc;obtain⟨v,hv,hr⟩:=zwQ (P:=P) (S:=S) hc hz t S.w;refine Yields.val (key v S.w ?_) hi hv;rw[e1,e2,eqGuard_at_int];exact hr
  ·simp at hz
 ·next s s'=>
  have e1:=h1.str_inv;have e2:=h2.str_inv;obtain⟨v,hv,hr⟩:=zwq (P:=P) (S:=S) hz t S.w;refine Yields.val (key v S.w ?_) hi hv;rw[e1,e2,eqGuard_at_string];exact hr
 ·next k a' k' b'=>
  split at hz<;>try contradiction
  next hk=>
   subst hk;rw[zB]at hz;obtain⟨c,hc,rfl⟩:=hz;have e1:=h1.float_inv;have e2:=h2.float_inv;refine Yields.val (key (.bool c) S.w ?_) hi (.bool c);rw[e1,e2,eqGuard_at_float];have hb:binOp op t (.float k a') (.float k b')=pure (.bool c):=by cases op<;>simp only[zzS,reduceCtorEq]at hc<;>(injection hc with hc;subst hc;simp[binOp,Op.floatCmp])
   simp only[hb];rfl
 ·simp at hz
theorem ze1{t:Nat}(hu:P.underlying t=some .bool)(b b':Bool)(w:World):(Op.equal t (.bool b) (.bool b')).run P w = .ok (b==b') w:=by
 have : ∀ n,(Op.equalIn (n+1) t (.bool b) (.bool b')).run P w = .ok (b==b') w:=by intro n;simp only[Op.equalIn,Sem.run_bind,run_underlying hu,Result.andThen_ok];rfl
 exact this 9999
theorem ze8{t:Nat}{ms:Array (String×TypeId)}(hu:P.underlying t=some (.interface ms))(w:World):(Op.equal t .nilIface .nilIface).run P w = .ok true w:=by
 have : ∀ n,(Op.equalIn (n+1) t .nilIface .nilIface).run P w = .ok true w:=by intro n;simp only[Op.equalIn,Sem.run_bind,run_underlying hu,Result.andThen_ok];rfl
 exact this 9999
theorem zcx{t:Nat}{ms:Array (String×TypeId)}(hu:P.underlying t=some (.interface ms))(u:Nat)(v:Value)(w:World):(Op.equal t (.iface u v) .nilIface).run P w = .ok false w:=by
 have : ∀ n,(Op.equalIn (n+1) t (.iface u v) .nilIface).run P w = .ok false w:=by intro n;simp only[Op.equalIn,Sem.run_bind,run_underlying hu,Result.andThen_ok];rfl
 exact this 9999
theorem zyX(hi:Inv S st)(hf:FrameRep S st.tm a.tmps)(hg:GlOk S E)(hti:yS P ti)(op:BinOp)(t u:Nat)(x y:Operand)(ho:o.op = .binOp op t x y u){i:TI}(ht:ti t=some i)(hk:i.k = .bool){x' y':X}(hx:trX x=some x')(hy:trX y=some y')
  (neg:Bool) (hop:op=if neg then .neq else .eql) {r:Option D} {st':St} (h:opD E st (.beq neg x' y')=some (r,st')):Yields P S a o r st':=by
 simp only[opD]at h;split at h
 ·next b b' hx' hy'=>
  simp only[zBB,zBC]at h;obtain⟨rfl,rfl⟩:=h;have e1:=(Rep.ev hf hg hx hx').bool_inv rfl;have e2:=(Rep.ev hf hg hy hy').bool_inv rfl;have hu:=zxC hti ht hk;refine Yields.val ?_ hi (.bool _);simp only[execOp,ho];refine yn ?_;rw[e1,e2,eqGuard_at_bool];subst hop;cases neg
  ·show((do pure (Value.bool (<- Op.equal t (.bool b) (.bool b'))):Sem Value)).run P S.w=_;simp[ze1 hu]
  ·show((do pure (Value.bool (!(<- Op.equal t (.bool b) (.bool b')))):Sem Value)).run P S.w=_;simp[ze1 hu]
 ·simp at h
theorem zvC(hi:Inv S st)(hf:FrameRep S st.tm a.tmps)(hg:GlOk S E)(hti:yS P ti)(op:BinOp)(t u:Nat)(x:Operand)(ho:o.op = .binOp op t x (.const .nilIface) u){i:TI}(ht:ti t=some i)(hk:i.k = .ifc){x':X}(hx:trX x=some x')
  (neg:Bool) (hop:op=if neg then .neq else .eql) {r:Option D} {st':St} (h:opD E st (.inil neg x')=some (r,st')):Yields P S a o r st':=by
 obtain⟨ms,hu⟩:=zzy hti ht hk;have ec:a.eval (.const .nilIface) = .nilIface:=rfl;simp only[opD]at h;split at h
 ·next hx'=>
  simp only[zBB,zBC]at h;obtain⟨rfl,rfl⟩:=h;have hr:=Rep.ev hf hg hx hx';have e1:a.eval x = .nilIface:=by generalize a.eval x=v at hr;cases hr;rfl
  refine Yields.val ?_ hi (.bool _);simp only[execOp,ho];refine yn ?_;rw[e1,ec,eqGuard_nil_constR];subst hop;cases neg
  ·show((do pure (Value.bool (<- Op.equal t .nilIface .nilIface)):Sem Value)).run P S.w=_;simp[ze8 hu]
  ·show((do pure (Value.bool (!(<- Op.equal t .nilIface .nilIface))):Sem Value)).run P S.w=_;simp[ze8 hu]
 ·next t' d' hx'=>
  simp only[zBB,zBC]at h;obtain⟨rfl,rfl⟩:=h;have hr:=Rep.ev hf hg hx hx';obtain⟨v,e1⟩ : ∃ v,a.eval x = .iface t' v:=by generalize a.eval x=u at hr;cases hr;exact⟨_,rfl⟩
  refine Yields.val ?_ hi (.bool _);simp only[execOp,ho];refine yn ?_;rw[e1,ec,eqGuard_at_iface];subst hop;cases neg
  ·show((do pure (Value.bool (<- Op.equal t (.iface t' v) .nilIface)):Sem Value)).run P S.w=_;simp[zcx hu]
  ·show((do pure (Value.bool (!(<- Op.equal t (.iface t' v) .nilIface))):Sem Value)).run P S.w=_;simp[zcx hu]
 ·simp at h
end
end
section
section
variable {P:Program} {E:Env} {ti:Ti} {st:St} {S:G} {a:Act} {o:Oper} (hti:yS P ti) (hi:Inv S st) (hf:FrameRep S st.tm a.tmps) (hg:GlOk S E)
theorem addr_add(b o n:Nat):Addr.add ⟨b,o,none⟩ n=⟨b,o+n,none⟩:=by unfold Addr.add;split<;>simp_all
theorem Yq(hi:Inv S st){d:D}{v:Value}{n:Nat}{ys:List D}(hr:Rep S d v)(h:vL st d n=some ys) :
  ∃ b off vs,v = .pointer (some ⟨b,off,none⟩)/\vs.length=n/\RepL S ys vs /\ ∀ j u,vs[j]?=some u->S.w.cell? ⟨b,off+j,none⟩=some u:=by
 unfold vL at h;split at h
 ·next k off=>
  cases hr with
  | ptr _ _ b hk hb=>
   split at h
   ·next xs fz hm=>
    split at h
    ·next hl=>
     injection h with h;subst h;obtain⟨_,ho⟩:=hi.ob k _ hm;obtain⟨_,ho⟩:=ho b hb;cases ho with
     | row _ _ c e hh hrc _ _=>
      refine⟨b,off,(c.toList.drop off).take n,rfl,?_,hrc.cutP off n hl,?_⟩
      ·have:=hrc.preLen;simp at this ⊢;omega
      ·intro j u hu;rw[zBR]at hu;split at hu
       ·rw[zBS]at hu;simp only[World.cell?,hh];simpa using hu
       ·simp at hu
    ·simp at h
   ·simp at h
 ·next xs=>
  split at h
  ·next hl=>
   injection h with h;subst h;cases hr with
   | el _ b off us hu hr _=>
    refine⟨b,off,(List.range n).map us,rfl,by simp,⟨by simp;omega,fun j d v hd hv => ?_⟩,fun j u hu' => ?_⟩
    ·rw[zBR]at hd;split at hd
     ·next hj=>
      have:=hr j d hd;rw[zBU,List.getElem?_range hj]at hv;injection hv with hv;subst hv;exact this
     ·simp at hd
    ·have hj:j<n:=by
      rcases zBD j n with hj | hj
      ·exact hj
      ·rw[zBQ (by simpa using hj)]at hu';simp at hu'
     rw[zBU,List.getElem?_range hj]at hu';injection hu' with hu';subst hu';exact hu j (by omega)
  ·simp at h
 ·simp at h
theorem zaA(hti:yS P ti)(hi:Inv S st){t:Nat}{i:TI}(ht:ti t=some i){d x:D}{v:Value}(hr:Rep S d v)(h:vB st i.k.ag i.sz d=some x) :
  ∃ u,Rep S x u/\(Instr.loadAt t v).run P S.w = .ok u S.w:=by
 unfold vB at h;split at h
 ·next hag=>
  simp only[zB]at h;obtain⟨ys,hy,rfl⟩:=h;obtain⟨b,off,vs,rfl,hl,hrl,hc⟩:=Yq hi hr hy;refine⟨.agg vs.toArray,.agg ys _ (by simpa using hrl.1) (fun j d v hd hv=>hrl.2 j d v hd (by simpa using hv)),?_⟩;have h1:=run_loadCells_list (P:=P) (w:=S.w) ⟨b,off,none⟩ vs (fun j u hu=>by rw[addr_add];exact hc j u hu);rw[hl]at h1;simp[Instr.loadAt,Instr.sureAddr,loadVar,zrV hti ht,hag,qd hti ht,h1]
 ·next hag=>
  split at h
  ·next d' hy=>
   injection h with h;subst h;obtain⟨b,off,vs,rfl,hl,hrl,hc⟩:=Yq hi hr hy
   match vs,hl with
   | [u],_=>have hru:Rep S d' u:=hrl.2 0 d' u rfl rfl;have h1:=hc 0 u rfl;refine⟨u,hru,?_⟩;have:S.w.cell? ⟨b,off,none⟩=some u:=h1;simp[Instr.loadAt,Instr.sureAddr,loadVar,zrV hti ht,hag,this]
  ·simp at h
theorem zz0(hti:yS P ti)(hi:Inv S st)(hf:FrameRep S st.tm a.tmps)(hg:GlOk S E)(t:Nat)(x:Operand)(ho:o.op = .load t x){i:TI}(ht:ti t=some i){y:X}(hx:trX x=some y){r:Option D}{st':St}
  (h:opD E st (.load i.k.ag i.sz y)=some (r,st')):Yields P S a o r st':=by
 simp only[opD,zA,zB,zBC]at h;obtain⟨d,hd,z,hz,rfl,rfl⟩:=h;obtain⟨u,hu,hrun⟩:=zaA hti hi ht (Rep.ev hf hg hx hd) hz;refine Yields.val ?_ hi hu;simp only[execOp,ho];exact yn hrun
theorem zxc(hti:yS P ti)(hi:Inv S st)(hf:FrameRep S st.tm a.tmps)(hg:GlOk S E)(t:Nat)(x y:Operand)(ho:o.op = .store t x y){i:TI}(ht:ti t=some i){x' y':X}(hx:trX x=some x')(hy:trX y=some y'){r:Option D}{st':St}
  (h:opD E st (.store i.sz x' y')=some (r,st')):Yields P S a o r st':=by
 simp only[opD,zA]at h;obtain⟨d,hd,e,he,h⟩:=h;have h1:=Rep.ev hf hg hx hd;have h2:=Rep.ev hf hg hy he;split at h
 ·next k off=>
  split at h
  ·next hl=>
   simp only[zB,zBC]at h;obtain⟨st2,hst,rfl,rfl⟩:=h;unfold storeD at hst;split at hst
   ·next xs hm=>
    split at hst
    ·next hc=>
     injection hst with hst;subst hst;obtain⟨hc1,hc2⟩:=hc;have hu:e ≠ .und:=by rintro rfl;simp[D.cells,yd,D.oneCell]at hc2
     have hcs:=h2.cells hu;have h1' : ∃ b,a.eval x = .pointer (some ⟨b,off,none⟩)/\S.μ k=some b:=by
      generalize a.eval x=v at h1;cases h1 with
      | ptr _ _ b hk hb=>exact⟨b,rfl,hb⟩
     obtain⟨b,hv,hb⟩:=h1';obtain⟨c,e',hh,hle,S',hw,hext,hinv⟩:=zgF hi hm hb off e.cells _ hc1 hcs;refine⟨.skip,S',?_,hext,hinv,rfl⟩;have hlen:(a.eval y).cells.size=i.sz:=by have:=hcs.1;simp at this;omega
     have h3:=run_storeCells_at (P:=P) b off e' (a.eval y).cells.toList 0 c S.w hh (by simpa using hle) (hcs.oneCells hc2);simp only[zBF]at h3;simp only[execOp,ho,Instr.storeAt,Instr.sureAddr,storeVar,hv,Sem.run_bind,Sem.run_pure,Result.andThen_ok,qd hti ht,hlen,ne_eq,not_true,zBw,Sem.run_ite];rw[h3,hw];rfl
    ·simp at hst
   ·simp at hst
  ·simp at h
 ·simp at h
theorem zyk(hti:yS P ti)(hi:Inv S st)(t:Nat)(ho:o.op = .alloc t){i:TI}(ht:ti t=some i){r:Option D}{st':St}(h:opD E st (.alloc i.z)=some (r,st')):Yields P S a o r st':=by simp only[opD,zBB,zBC]at h;obtain⟨rfl,rfl⟩:=h;obtain⟨z,hz,hzs,hzl⟩:=zrO hti ht S.w;have hr:=RepL.ofVL S hzl;obtain⟨S',hw,he,hinv,hm,hn⟩:=zgr hi i.z z.cells t (SameW.refl S.w) hr.pre;refine Yields.mem (S':=S') (v := .pointer (some ⟨S.w.heap.size,0,none⟩)) ?_ he hinv (.ptr st.nx 0 _ hn hm);simp only[execOp,ho];refine yn ?_;simp[Instr.alloc,hz,newVar,newRow,hw]
theorem zAk(hti:yS P ti)(hi:Inv S st)(t e:Nat)(ho:o.op = .alloc t){i:TI}(ht:ti t=some i)(hb:zu8 ti i=some e){r:Option D}{st':St}(h:opD E st (.nbl t e)=some (r,st')):Yields P S a o r st':=by
 simp only[opD,zBB,zBC]at h;obtain⟨rfl,rfl⟩:=h;obtain⟨z,hz,hzs,hzl⟩:=zrO hti ht S.w;have hiz:i.z=[.nilp,.sl .full 0 []]:=by
  unfold zu8 at hb;split at hb
  ·next h=>exact h
  ·simp at hb
 have hzc:z.cells = #[.pointer none,.slice none 0 0]:=by rw[hiz]at hzl;exact zua hzl
 obtain⟨S',hw,he,hinv,hm,hn⟩:=zyz hi t e;refine Yields.mem (S':=S') (v := .pointer (some ⟨S.w.heap.size,0,none⟩)) ?_ he hinv (.ptr st.nx 0 _ hn hm);simp only[execOp,ho];refine yn ?_;simp[Instr.alloc,hz,newVar,newRow,hw,hzc]
theorem zAf(hi:Inv S st)(hf:FrameRep S st.tm a.tmps)(hg:GlOk S E)(t:Nat)(x:Operand)(ho:o.op = .box t x){y:X}(hx:trX x=some y){r:Option D}{st':St}(h:opD E st (.box y)=some (r,st')):Yields P S a o r st':=by
 simp only[opD,zA]at h;obtain⟨d,hd,h⟩:=h;split at h
 ·next hc=>
  simp only[zBB,zBC]at h;obtain⟨rfl,rfl⟩:=h;have hu:d ≠ .und:=by rintro rfl;simp[D.cells,yd,D.oneCell]at hc
  have hr:=(Rep.ev hf hg hx hd).cells hu;obtain⟨S',hw,he,hinv,hm,hn⟩:=zgr hi d.cells (a.eval x).cells t (SameW.refl S.w) hr.pre;refine Yields.mem (S':=S') (v := .pointer (some ⟨S.w.heap.size,0,none⟩)) ?_ he hinv (.ptr st.nx 0 _ hn hm);simp only[execOp,ho];refine yn ?_;simp[Instr.box,newVar,newRow,hw]
 ·simp at h
theorem JW{xs:List D}{b off:Nat}{us:Nat->Value}(hu : ∀ j,j<xs.length->S.w.cell? ⟨b,off+j,none⟩=some (us j))
   (hr : ∀ (j:Nat) (d:D),xs[j]?=some d->Rep S d (us j)) (hφ:xs=[]\/off+xs.length<=S.φ b) (n:Nat):Rep S (.el (xs.drop n)) (.pointer (some ⟨b,off+n,none⟩)):=by
 refine .el _ b _ (fun j=>us (n+j)) (fun j hj => ?_) (fun j d hd => ?_) ?_
 ·simp at hj;have:=hu (n+j) (by omega);rw[<- Nat.add_assoc]at this;exact this
 ·rw[zBS]at hd;exact hr _ d hd
 ·rcases hφ with rfl | hφ
  ·left;simp
  ·by_cases hlen:xs.length<=n
   ·left;simp;omega
   ·right;simp;omega
theorem zA2(hti:yS P ti)(hi:Inv S st)(hf:FrameRep S st.tm a.tmps)(hg:GlOk S E)(t:Nat)(x:Operand)(f:Nat)(ho:o.op = .fieldAddr t x f){i:TI}(ht:ti t=some i){fs:List (Nat×Nat)}(hk:i.k = .strc fs){p:Nat×Nat}(hp:fs[f]?=some p)
  {j:TI} (hj:ti p.2=some j) (hj0:j.sz≠0) {y:X} (hx:trX x=some y) {r:Option D} {st':St} (h:opD E st (.fad p.1 y)=some (r,st')):Yields P S a o r st':=by
 simp only[opD,zA]at h;obtain⟨d,hd,h⟩:=h;have hr:=Rep.ev hf hg hx hd;obtain⟨fa,hu,hfa⟩:=znb hti ht hk;have hfield : ∃ fd:Field,fa[f]?=some fd/\fd.offset=p.1/\fd.type=p.2:=by rw[<- hfa]at hp;simp only[zBU,zB]at hp;obtain⟨fd,h1,h2⟩:=hp;refine⟨fd,by simpa using h1,?_,?_⟩<;>rw[<- h2]
 obtain⟨fd,hfd,ho1,ho2⟩:=hfield;have key : ∀ b off,a.eval x = .pointer (some ⟨b,off,none⟩)->(execOp a.eval o).run P S.w = .ok (.value (.pointer (some ⟨b,off+p.1,none⟩))) S.w:=by intro b off hv;simp only[execOp,ho];refine yn ?_;rw[<- ho2]at hj;simp[Instr.fieldAt,run_underlying hu,hfd,hv,Instr.sureAddr,fieldPlace,qd hti hj,hj0,addr_add,ho1]
 generalize hv:a.eval x=v at hr key;split at h
 ·next k off=>
  simp only[zBB,zBC]at h;obtain⟨rfl,rfl⟩:=h;cases hr with
  | ptr _ _ b hk hb=>exact Yields.val (key b off rfl) hi (.ptr _ _ b hk hb)
 ·next xs=>
  simp only[zBB,zBC]at h;obtain⟨rfl,rfl⟩:=h;cases hr with
  | el _ b off us hu hrr hφ=>exact Yields.val (key b off rfl) hi (JW hu hrr hφ p.1)
 ·simp at h
end
end
section
section
variable {P:Program} {E:Env} {ti:Ti} {st:St} {S:G} {a:Act} {o:Oper} (hti:yS P ti) (hi:Inv S st) (hf:FrameRep S st.tm a.tmps) (hg:GlOk S E)
theorem zvN{cells:Array Value}{off:Nat}{vs:Array Value}(h:off+vs.size<=cells.size) :
  (vs.zipIdx.foldl (fun cs (c,j)=>cs.setIfInBounds (off+j) c) cells).toList=cells.toList.take off++vs.toList++cells.toList.drop (off+vs.size):=by
 have h1:=Great.foldl_set off vs.toList 0 cells;have h2:(vs.zipIdx.foldl (fun cs (c,j)=>cs.setIfInBounds (off+j) c) cells)=((vs.toList.zipIdx 0).foldl (fun cs (x:Value×Nat)=>cs.setIfInBounds (off+x.2) x.1) cells):=by rw[<- Array.foldl_toList,Array.toList_zipIdx]
 rw[h2];apply List.ext_getElem?;intro k;have h3:=h1.2 k;simp only[zBF,Array.length_toList]at h3;rw[<- zCh]at h3;rw[h3,zBN,List.getElem?_append];simp only[zBI,Array.length_toList];by_cases hk:k<off
 ·rw[zBt (by omega),zBu (by omega),zBR,zBu hk];simp
 ·rw[zBt (by omega : ¬ k<min off cells.size),List.getElem?_append];have hm:min off cells.size=off:=by omega
  rw[hm];simp only[Array.length_toList];by_cases hk2:k<off+vs.size
  ·rw[zBu (by omega),zBu (by omega)]
  ·rw[zBt (by omega),zBt (by omega),zBS];have e:off+vs.size+(k-off-vs.size)=k:=by omega
   rw[e];simp
theorem zna{place:Nat->Option (Nat×Nat)}(hf:FrameRep S st.tm a.tmps)(hg:GlOk S E) :
  ∀ {ps:List (Nat×Operand)} {qs:List (Nat×Nat×X)} {ds:List (Nat×Nat×D)} {xs ys:List D} {cells:Array Value},
   (∀ (j i:Nat) (x:Operand) (o n:Nat) (y:X),ps[j]?=some (i,x)->qs[j]?=some (o,n,y)->place i=some (o,n)/\trX x=some y)->ps.length=qs.length->evP E st.tm qs=some ds->zdq xs ds=some ys->RepL S xs cells.toList ->
   ∃ cells',Instr.fill place cells (ps.map fun(i,x)=>(i,a.eval x))=some cells'/\RepL S ys cells'.toList
 | [],qs,ds,xs,ys,cells,_,hl,he,hd,hr=>by
  have:qs=[]:=by cases qs with | nil=>rfl | cons _ _=>simp at hl
  subst this;injection he with he;subst he;injection hd with hd;subst hd;exact⟨cells,rfl,hr⟩
 | (i,x)::ps,qs,ds,xs,ys,cells,hp,hl,he,hd,hr=>by
  cases qs with
  | nil=>simp at hl
  | cons q qs=>
   obtain⟨off,n,y⟩:=q;obtain⟨hp1,hp2⟩:=hp 0 i x off n y rfl rfl;simp only[evP,zA]at he;obtain⟨d,hd1,l,hl1,he⟩:=he;injection he with he;subst he;simp only[zdq]at hd;split at hd
   ·next hc=>
    obtain⟨hc1,hc2,hc3⟩:=hc;have hrv:=Rep.ev hf hg hp2 hd1;have hu:d ≠ .und:=by rintro rfl;simp[D.cells,yd,D.oneCell]at hc3
    have hcs:=hrv.cells hu;have hsz:(a.eval x).cells.size=n:=by have:=hcs.1;simp at this;omega
    have hcl:cells.size=xs.length:=by have:=hr.1;simpa using this
    have hf1:=zvN (cells:=cells) (off:=off) (vs:=(a.eval x).cells) (by omega);have hr2:RepL S (qE xs off d.cells) ((a.eval x).cells.zipIdx.foldl (fun cs (c,j)=>cs.setIfInBounds (off+j) c) cells).toList:=by rw[hf1,qE,hsz,hc1];exact((hr.take off).app hcs).app (hr.drop (off+n))
    obtain⟨cells',hf2,hr3⟩:=zna hf hg (fun j i x o n y h1 h2=>hp (j+1) i x o n y (by simpa using h1) (by simpa using h2)) (by simpa using hl) hl1 hd hr2;refine⟨cells',?_,hr3⟩;simp only[List.map_cons,Instr.fill,hp1];rw[zBt (by simp only[zCc,zCb];omega)];exact hf2
   ·simp at hd
theorem zvo{pl:List (Nat×Nat)} : ∀ {ps:List (Nat×Operand)} {qs:List (Nat×Nat×X)},trP pl ps=some qs->ps.length=qs.length /\
  ∀ (j i:Nat) (x:Operand) (o n:Nat) (y:X),ps[j]?=some (i,x)->qs[j]?=some (o,n,y)->pl[i]?=some (o,n)/\trX x=some y
 | [],qs,h=>by injection h with h;subst h;exact⟨rfl,fun j i x o n y h=>by simp at h⟩
 | (i,x)::ps,qs,h=>by
  simp only[trP,zA]at h;obtain⟨f,hf,y,hy,l,hl,h⟩:=h;injection h with h;subst h;obtain⟨h1,h2⟩:=zvo hl;refine⟨by simp[h1],fun j i' x' o n y' hp hq => ?_⟩;cases j with
  | zero=>simp at hp hq;obtain⟨rfl,rfl⟩:=hp;obtain⟨rfl,rfl,rfl⟩:=hq;exact⟨by simpa using hf,hy⟩
  | succ j=>exact h2 j i' x' o n y' (by simpa using hp) (by simpa using hq)
theorem zra{sz:Nat} : ∀ {ps:List (Nat×Operand)} {qs:List (Nat×Nat×X)},trQ sz ps=some qs->ps.length=qs.length /\
  ∀ (j i:Nat) (x:Operand) (o n:Nat) (y:X),ps[j]?=some (i,x)->qs[j]?=some (o,n,y)->(o=i*sz/\n=sz)/\trX x=some y
 | [],qs,h=>by injection h with h;subst h;exact⟨rfl,fun j i x o n y h=>by simp at h⟩
 | (i,x)::ps,qs,h=>by
  simp only[trQ,zA]at h;obtain⟨y,hy,l,hl,h⟩:=h;injection h with h;subst h;obtain⟨h1,h2⟩:=zra hl;refine⟨by simp[h1],fun j i' x' o n y' hp hq => ?_⟩;cases j with
  | zero=>simp at hp hq;obtain⟨rfl,rfl⟩:=hp;obtain⟨rfl,rfl,rfl⟩:=hq;exact⟨⟨rfl,rfl⟩,hy⟩
  | succ j=>exact h2 j i' x' o n y' (by simpa using hp) (by simpa using hq)
theorem zuZ(hti:yS P ti) : ∀ {fs:List Field} {pl:List (Nat×Nat)},trF ti (fs.map fun f=>(f.offset,f.type))=some pl ->
  fs.mapM (fun f=>(P.info? f.type).map fun i=>(f.offset,i.size))=some pl
 | [],pl,h=>by injection h with h;subst h;rfl
 | f::fs,pl,h=>by simp only[List.map_cons,trF,zA]at h;obtain⟨t,ht,l,hl,h⟩:=h;injection h with h;subst h;obtain⟨inf,h1,h2,h3⟩:=zlO hti ht;simp[List.mapM_cons,h1,zuZ hti hl,h2]
theorem zsw(hti:yS P ti)(hi:Inv S st)(hf:FrameRep S st.tm a.tmps)(hg:GlOk S E)(t:Nat)(ps:Array (Nat×Operand))(ho:o.op = .build t ps){i:TI}(ht:ti t=some i){qs:List (Nat×Nat×X)}
  (hq:(∃ fs pl,i.k = .strc fs/\trF ti fs=some pl/\trP pl ps.toList=some qs) \/ ∃ n e j,i.k = .arr n e/\ti e=some j/\trQ j.sz ps.toList=some qs)
  {r:Option D} {st':St} (h:opD E st (.build i.z qs)=some (r,st')):Yields P S a o r st':=by
 simp only[opD,zA,zB,zBC]at h;obtain⟨l,hl,cs,hcs,rfl,rfl⟩:=h;obtain⟨d,inf,z,h1,h2,h3,h4,h5,h6,h7,h8⟩:=Yp hti ht;have hz:=RepL.ofVL S h8;have key : ∀ cells,P.built t (ps.map fun(i,x)=>(i,a.eval x)).toList=some cells->RepL S cs cells.toList->Yields P S a o (some (.agg cs)) st:=by intro cells hb hr;refine Yields.val (v := .agg cells) ?_ hi (.agg cs cells (by simpa using hr.1) (fun j d v hd hv=>hr.2 j d v hd (by simpa using hv)));simp only[execOp,ho];exact yn (run_build S.w t _ cells hb)
 rcases hq with⟨fs,pl,hk,hpl,hq⟩ | ⟨n,e,j,hk,hj,hq⟩
 ·obtain⟨fa,hu,hfa⟩:=znb hti ht hk;rw[<- hfa]at hpl;have hm:=zuZ hti hpl;obtain⟨q1,q2⟩:=zvo hq;obtain⟨cells,hc1,hc2⟩:=zna (place:=(pl.toArray[·]?)) hf hg (fun j i x o n y e1 e2=>⟨by simpa using (q2 j i x o n y e1 e2).1,(q2 j i x o n y e1 e2).2⟩) q1 hl hcs hz;refine key cells ?_ hc2;unfold Program.built;simp only[h2,hu,h3,hm,Array.toList_map];exact hc1
 ·have hu:=zlI hti ht hk;obtain⟨ie,he1,he2,he3⟩:=zlO hti hj;obtain⟨q1,q2⟩:=zra hq;obtain⟨cells,hc1,hc2⟩:=zna (place:=fun i=>some (i*ie.size,ie.size)) hf hg (fun j i x o n y e1 e2=>by obtain⟨⟨r1,r2⟩,r3⟩:=q2 j i x o n y e1 e2;exact⟨by rw[he2,r1,r2],r3⟩) q1 hl hcs hz;refine key cells ?_ hc2;unfold Program.built;simp only[h2,hu,h3,he1,Array.toList_map];exact hc1
theorem zgH(n:Nat)(z:List D):(rep n z).length=n*z.length:=by
 unfold rep;induction n with
 | zero=>simp
 | succ n ih=>rw[List.replicate_succ,List.flatten_cons,zZ,ih,zBW];omega
theorem zyt(n:Nat)(z:List D)(j:Nat)(hj:j<n*z.length):(rep n z)[j]?=z[j%z.length]?:=by
 unfold rep;induction n generalizing j with
 | zero=>simp at hj
 | succ n ih=>
  rw[List.replicate_succ,List.flatten_cons,List.getElem?_append];by_cases h:j<z.length
  ·rw[zBu h,Nat.mod_eq_of_lt h]
  ·rw[zBt h,ih (j-z.length) (by rw[zBW]at hj;omega)];congr 1;have:j=(j-z.length)+z.length:=by omega
   conv=>rhs;rw[this]
   rw[Nat.add_mod_right]
theorem zd3{z:Array Value}{zs:List D}(h:RepL S zs z.toList)(n m:Nat)(hm:m=n*zs.length) :
  RepL S (rep n zs) ((Array.range m).map (z[· % z.size]!)).toList:=by
 have hl:z.size=zs.length:=by simpa using h.1
 refine⟨by simp[zgH,hm],fun j d v hd hv => ?_⟩;have hj:j<n*zs.length:=by
  rcases zBD j (n*zs.length)with hj | hj
  ·exact hj
  ·rw[zBQ (by rw[zgH];exact hj)]at hd;simp at hd
 rw[zyt n zs j hj]at hd;have hz:0<zs.length:=by
  rcases Nat.eq_zero_or_pos zs.length with h0 | h0
  ·rw[h0]at hj;simp at hj
  ·exact h0
 have hmod:j%zs.length<z.size:=by rw[hl];exact zBZ _ hz
 refine h.2 (j%zs.length) d v hd ?_;have hv2:((Array.range m).map (z[· % z.size]!))[j]?=some v:=by rw[zCh]at hv;exact hv
 rw[Array.getElem?_map]at hv2;have hr:(Array.range m)[j]?=some j:=by rw[Array.getElem?_range];simp;omega
 rw[hr]at hv2;simp only[zC,zBB]at hv2;rw[hl]at hv2;rw[Array.getElem!_eq_getD]at hv2;simp only[zCh];rw[Array.getD_eq_getD_getElem?,Array.getElem?_eq_getElem hmod]at hv2;rw[Array.getElem?_eq_getElem hmod,<- hv2];rfl
theorem zAF(hti:yS P ti)(hi:Inv S st)(hf:FrameRep S st.tm a.tmps)(hg:GlOk S E)(t n:Nat)(ps:Array (Nat×Operand))(ho:o.op = .buildSlice t n ps){i:TI}(ht:ti t=some i){e:Nat}(hk:i.k = .slice e){j:TI}(hj:ti e=some j)(hn:n*j.sz<=16777216)(hs:0<j.sz)
  {qs:List (Nat×Nat×X)} (hq:trQ j.sz ps.toList=some qs) {r:Option D} {st':St} (h:opD E st (.lit n j.z qs)=some (r,st')):Yields P S a o r st':=by
 simp only[opD,zA]at h;obtain⟨l,hl,cs,hcs,h⟩:=h;split at h
 ·next hone=>
  simp only[zBB,zBC]at h;obtain⟨rfl,rfl⟩:=h;have hu:=qj hti ht hk;obtain⟨d,inf,z,h1,h2,h3,h4,h5,h6,h7,h8⟩:=Yp hti hj;have hz:=RepL.ofVL S h8;have hzl:j.z.length=j.sz:=by have:=hz.1;simp at this;omega
  obtain⟨q1,q2⟩:=zra hq;have hz2:RepL S (rep n j.z) ((Array.range (n*inf.size)).map (z.cells[· % z.cells.size]!)).toList:=zd3 hz n _ (by rw[h5,hzl]);obtain⟨cells,hc1,hc2⟩:=zna (place:=fun i=>some (i*inf.size,inf.size)) hf hg (fun j i x o n y e1 e2=>by obtain⟨⟨r1,r2⟩,r3⟩:=q2 j i x o n y e1 e2;exact⟨by rw[h5,r1,r2],r3⟩) q1 hl hcs hz2;obtain⟨S',hw,he,hinv,hφ⟩:=znp hi (.cells cells e (0,0)) cells.size (SameW.refl S.w);have hheap:S'.w.heap[S.w.heap.size]?=some (.cells cells e (0,0)):=by rw[hw];exact heap_alloc_new _ _
  have hcl:cells.size=cs.length:=by simpa using hc2.1
  refine Yields.mem (S':=S') (v := .slice (some ⟨S.w.heap.size,0,none⟩) n n) ?_ he hinv ?_
  ·simp only[execOp,ho];refine yn ?_;by_cases hpos:n*inf.size=0
   ·have hn0:n=0:=by
     rcases Nat.mul_eq_zero.1 hpos with h | h
     ·exact h
     ·omega
    subst hn0;rw[hw];simp only[Instr.buildSlice,Sem.run_bind,run_underlying hu,Result.andThen_ok,sizeOf,typeInfo,run_program,h2,Sem.run_pure];simp only[Nat.zero_mul,Array.range_zero',Array.map_empty,Array.toList_map]at hc1 ⊢;simp[hc1,newRow]
   ·rw[hw];exact run_buildSlice S.w t e n _ cells inf z hu h2 h3 (by rw[h5];simp;omega) hpos (by simpa using hc1)
  ·refine .sl .full n cs _ n S.w.heap.size 0 (fun j=>(cells[j]?).getD undef) (zR _) (.inr rfl) (fun j hj => ?_) (fun j d hd => ?_) ?_ rfl
   ·have hj':j<cells.size:=by omega
    simp only[World.cell?,hheap,zBE];simp[hj']
   ·obtain⟨v,hv,hr⟩:=(hc2.ext he).get hd;have:cells[j]?=some v:=by simpa using hv
    rw[this];exact hr
   ·right;rw[hφ];omega
 ·simp at h
theorem zBb(hi:Inv S st)(hf:FrameRep S st.tm a.tmps)(hg:GlOk S E)(x:Operand)(n:Nat)(ho:o.op = .extract x n){y:X}(hx:trX x=some y){r:Option D}{st':St}(h:opD E st (.ext y n)=some (r,st')):Yields P S a o r st':=by
 simp only[opD,zA]at h;obtain⟨d,hd,h⟩:=h;have hr:=Rep.ev hf hg hx hd;split at h
 ·next ds=>
  simp only[zB,zBC]at h;obtain⟨z,hz,rfl,rfl⟩:=h;generalize hv:a.eval x=v at hr;cases hr with
  | tup _ vs hs hr=>
   have hn:n<vs.size:=by
    rw[hs];rcases zBD n ds.length with h | h
    ·exact h
    ·simp[zBQ h]at hz
   refine Yields.val (v:=vs[n]) ?_ hi (hr n z vs[n] hz (by simp[hn]));simp only[execOp,ho,hv];refine yn ?_;simp[Instr.extract,hn]
 ·simp at h
theorem zot(hti:yS P ti){t:Nat}{j:TI}(hj:ti t=some j){xs:List D}{vs:Array Value}(hs:vs.size=xs.length)(hr : ∀ (j:Nat) (d:D) (v:Value),xs[j]?=some d->vs[j]?=some v->Rep S d v)(off:Nat)
  {x:D} (h:(if j.k.ag then(if off+j.sz<=xs.length then some (.agg ((xs.drop off).take j.sz))else none)else xs[off]?)=some x) : ∃ u,Rep S x u/\(part t vs off).run P S.w = .ok u S.w:=by
 split at h
 ·next hag=>
  split at h
  ·next hl=>
   injection h with h;subst h;refine⟨.agg (vs.extract off (off+j.sz)),.agg _ _ (by simp;omega) (fun i d v hd hv => ?_),?_⟩
   ·rw[zBR]at hd;split at hd
    ·next hi=>
     rw[zBS]at hd;refine hr _ d v hd ?_;rw[Array.getElem?_extract]at hv;split at hv
     ·exact hv
     ·simp at hv
    ·simp at hd
   ·simp[part,zrV hti hj,hag,qd hti hj]
  ·simp at h
 ·next hag=>
  have hoff:off<vs.size:=by
   rw[hs];rcases zBD off xs.length with h' | h'
   ·exact h'
   ·simp[zBQ h']at h
  refine⟨vs[off],hr off x _ h (by simp[hoff]),?_⟩;simp[part,zrV hti hj,hag,hoff]
theorem zA0(hti:yS P ti)(hi:Inv S st)(hf:FrameRep S st.tm a.tmps)(hg:GlOk S E)(t:Nat)(x:Operand)(f:Nat)(ho:o.op = .field t x f){i:TI}(ht:ti t=some i){fs:List (Nat×Nat)}(hk:i.k = .strc fs){p:Nat×Nat}(hp:fs[f]?=some p)
  {j:TI} (hj:ti p.2=some j) {y:X} (hx:trX x=some y) {r:Option D} {st':St} (h:opD E st (.fld j.k.ag p.1 j.sz y)=some (r,st')):Yields P S a o r st':=by
 simp only[opD,zA]at h;obtain⟨d,hd,h⟩:=h;have hr:=Rep.ev hf hg hx hd;obtain⟨fa,hu,hfa⟩:=znb hti ht hk;have hfield : ∃ fd:Field,fa[f]?=some fd/\fd.offset=p.1/\fd.type=p.2:=by rw[<- hfa]at hp;simp only[zBU,zB]at hp;obtain⟨fd,h1,h2⟩:=hp;refine⟨fd,by simpa using h1,?_,?_⟩<;>rw[<- h2]
 obtain⟨fd,hfd,ho1,ho2⟩:=hfield;split at h
 ·next xs=>
  generalize hv:a.eval x=v at hr;cases hr with
  | agg _ vs hs hrr=>
   have h' : ∃ z,(if j.k.ag then(if p.1+j.sz<=xs.length then some (.agg ((xs.drop p.1).take j.sz))else none)else xs[p.1]?)=some z/\r=some z/\st'=st:=by
    split at h
    ·next hag=>
     split at h
     ·next hl=>
      simp only[zBB,zBC]at h;exact⟨_,by simp[hag,hl],h.1.symm,h.2.symm⟩
     ·simp at h
    ·next hag=>
     simp only[zB,zBC]at h;obtain⟨z,hz,rfl,rfl⟩:=h;exact⟨z,by simp[hag,hz],rfl,rfl⟩
   obtain⟨z,hz,rfl,rfl⟩:=h';obtain⟨u,hu1,hu2⟩:=zot hti hj hs hrr p.1 hz;refine Yields.val (v:=u) ?_ hi hu1;simp only[execOp,ho,hv];refine yn ?_;rw[<- ho1,<- ho2]at hu2;simp[Instr.field,run_underlying hu,hfd,asAgg,hu2]
 ·simp at h
theorem zd1{d:D}{n i:Nat}{v:Value}(hr:Rep S d v)(h:idx d n=some i) : ∃ k m,v = .int k m/\0<=m/\m<n/\m.toNat=i/\i<n:=by
 unfold idx at h;split at h
 ·next k m=>
  split at h
  ·next hc=>
   injection h with h;subst h;have:=hr.int_inv;exact⟨k,m,this,hc.1,hc.2,rfl,by omega⟩
  ·simp at h
 ·simp at h
theorem zA5(hti:yS P ti)(hi:Inv S st)(hf:FrameRep S st.tm a.tmps)(hg:GlOk S E)(t:Nat)(x y:Operand)(ho:o.op = .indexAddr t x y){i:TI}(ht:ti t=some i){e:Nat}(hk:i.k = .slice e){j:TI}(hj:ti e=some j)(hsz:0<j.sz){x' y':X}(hx:trX x=some x')(hy:trX y=some y')
  {r:Option D} {st':St} (h:opD E st (.iad j.sz x' y')=some (r,st')):Yields P S a o r st':=by
 simp only[opD,zA]at h;obtain⟨d,hd,z,hz,h⟩:=h;have h1:=Rep.ev hf hg hx hd;have h2:=Rep.ev hf hg hy hz;have hu:=qj hti ht hk;have key : ∀ b off n c k m,a.eval x = .slice (some ⟨b,off,none⟩) n c->a.eval y = .int k m->0<=m->m<n->(execOp a.eval o).run P S.w = .ok (.value (.pointer (some ⟨b,off+m.toNat*j.sz,none⟩))) S.w:=by intro b off n c k m hv1 hv2 hm1 hm2;simp only[execOp,ho];refine yn ?_;simp[Instr.indexAt,hv1,hv2,asIntOf,run_underlying hu,hm1,hm2,qd hti hj,addr_add]
 split at h
 ·next g n xs=>
  simp only[zA]at h;obtain⟨k,hk2,h⟩:=h;split at h
  ·next hl=>
   simp only[zBB,zBC]at h;obtain⟨rfl,rfl⟩:=h;obtain⟨kk,m,hv2,hm1,hm2,rfl,hm4⟩:=zd1 h2 hk2;generalize hv1:a.eval x=v at h1;cases h1 with
   | sl _ _ _ A c b off us hc hA hus hr hφ hgg=>
    by_cases hxs:xs=[]
    ·subst hxs;exfalso;have:(m.toNat+1)*j.sz=0:=by simpa using hl
     rcases Nat.mul_eq_zero.1 this with h | h<;>omega
    ·have hA:=hA.resolve_left hxs;subst hA;exact Yields.val (key b off n c kk m hv1 hv2 hm1 hm2) hi (JW hus hr hφ _)
  ·simp at h
 ·next k off n c s=>
  simp only[zA]at h;obtain⟨q,hk2,h⟩:=h;split at h
  ·next hs=>
   simp only[zBB,zBC]at h;obtain⟨rfl,rfl⟩:=h;obtain⟨kk,m,hv2,hm1,hm2,rfl,hm4⟩:=zd1 h2 hk2;generalize hv1:a.eval x=v at h1;cases h1 with
   | ref _ _ _ _ _ b c' hk hb hcc=>exact Yields.val (key b off n c' kk m hv1 hv2 hm1 hm2) hi (.ptr _ _ b hk hb)
  ·simp at h
 ·simp at h
theorem zAs(hti:yS P ti)(hi:Inv S st)(hf:FrameRep S st.tm a.tmps)(hg:GlOk S E)(t:Nat)(x y:Operand)(ho:o.op = .indexAddr t x y){i:TI}(ht:ti t=some i){n e:Nat}(hk:i.k = .arr n e){j:TI}(hj:ti e=some j){x' y':X}(hx:trX x=some x')(hy:trX y=some y')
  {r:Option D} {st':St} (h:opD E st (.iaa n j.sz x' y')=some (r,st')):Yields P S a o r st':=by
 simp only[opD,zA]at h;obtain⟨d,hd,z,hz,h⟩:=h;have h1:=Rep.ev hf hg hx hd;have h2:=Rep.ev hf hg hy hz;have hu:=zlI hti ht hk;have key : ∀ b off k m,a.eval x = .pointer (some ⟨b,off,none⟩)->a.eval y = .int k m->0<=m->m<n->(execOp a.eval o).run P S.w = .ok (.value (.pointer (some ⟨b,off+m.toNat*j.sz,none⟩))) S.w:=by intro b off k m hv1 hv2 hm1 hm2;simp only[execOp,ho];refine yn ?_;simp[Instr.indexAt,hv1,hv2,asIntOf,run_underlying hu,hm1,hm2,qd hti hj,addr_add,Instr.sureAddr]
 split at h
 ·next k off=>
  simp only[zB,zBC]at h;obtain⟨q,hk2,rfl,rfl⟩:=h;obtain⟨kk,m,hv2,hm1,hm2,rfl,hm4⟩:=zd1 h2 hk2;generalize hv1:a.eval x=v at h1;cases h1 with
  | ptr _ _ b hk hb=>exact Yields.val (key b off kk m hv1 hv2 hm1 hm2) hi (.ptr _ _ b hk hb)
 ·next xs=>
  simp only[zA]at h;obtain⟨q,hk2,h⟩:=h;simp only[zBB,zBC]at h;obtain⟨rfl,rfl⟩:=h;obtain⟨kk,m,hv2,hm1,hm2,rfl,hm4⟩:=zd1 h2 hk2;generalize hv1:a.eval x=v at h1;cases h1 with
  | el _ b off us hus hr hφ=>exact Yields.val (key b off kk m hv1 hv2 hm1 hm2) hi (JW hus hr hφ _)
 ·simp at h
theorem zAv(hti:yS P ti)(hi:Inv S st)(hf:FrameRep S st.tm a.tmps)(hg:GlOk S E)(t:Nat)(x y:Operand)(ho:o.op = .index t x y){i:TI}(ht:ti t=some i){n e:Nat}(hk:i.k = .arr n e){j:TI}(hj:ti e=some j){x' y':X}(hx:trX x=some x')(hy:trX y=some y')
  {r:Option D} {st':St} (h:opD E st (.ixa j.k.ag n j.sz x' y')=some (r,st')):Yields P S a o r st':=by
 simp only[opD,zA]at h;obtain⟨d,hd,z,hz,h⟩:=h;have h1:=Rep.ev hf hg hx hd;have h2:=Rep.ev hf hg hy hz;have hu:=zlI hti ht hk;split at h
 ·next xs=>
  simp only[zA]at h;obtain⟨q,hk2,h⟩:=h;obtain⟨kk,m,hv2,hm1,hm2,rfl,hm4⟩:=zd1 h2 hk2;generalize hv1:a.eval x=v at h1;cases h1 with
  | agg _ vs hs hrr=>
   have h' : ∃ z,(if j.k.ag then(if m.toNat*j.sz+j.sz<=xs.length then some (.agg ((xs.drop (m.toNat*j.sz)).take j.sz))else none)else xs[m.toNat*j.sz]?)=some z/\r=some z/\st'=st:=by
    split at h
    ·next hag=>
     split at h
     ·next hl=>
      simp only[zBB,zBC]at h;exact⟨_,by rw[zBW,Nat.one_mul]at hl;simp[hag,hl],h.1.symm,h.2.symm⟩
     ·simp at h
    ·next hag=>
     simp only[zB,zBC]at h;obtain⟨z,hz,rfl,rfl⟩:=h;exact⟨z,by simp[hag,hz],rfl,rfl⟩
   obtain⟨z2,hz2,rfl,rfl⟩:=h';obtain⟨u,hu1,hu2⟩:=zot hti hj hs hrr _ hz2;refine Yields.val (v:=u) ?_ hi hu1;simp only[execOp,ho,hv1,hv2];refine yn ?_;simp[Instr.index,asIntOf,run_underlying hu,hm1,hm2,qd hti hj,hu2]
 ·simp at h
theorem zAV(hti:yS P ti)(hi:Inv S st)(hf:FrameRep S st.tm a.tmps)(hg:GlOk S E)(t:Nat)(x y:Operand)(ho:o.op = .index t x y){i:TI}(ht:ti t=some i)(hk:i.k = .str){x' y':X}(hx:trX x=some x')(hy:trX y=some y')
  {r:Option D} {st':St} (h:opD E st (.ixs x' y')=some (r,st')):Yields P S a o r st':=by
 simp only[opD,zA]at h;obtain⟨d,hd,z,hz,h⟩:=h;have h1:=Rep.ev hf hg hx hd;have h2:=Rep.ev hf hg hy hz;have hu:=Ve hti ht hk;split at h
 ·next s=>
  simp only[zA,zB,zBC]at h;obtain⟨q,hk2,b,hb,rfl,rfl⟩:=h;obtain⟨kk,m,hv2,hm1,hm2,rfl,hm4⟩:=zd1 h2 hk2;have hv1:=h1.str_inv;refine Yields.val ?_ hi (.int .u8 b.toNat);simp only[execOp,ho,hv1,hv2];refine yn ?_;have hget:(⟨s.toArray⟩:ByteArray)[m.toNat]?=some b:=by have hlt:m.toNat<(⟨s.toArray⟩:ByteArray).size:=hm4;rw[getElem?_pos (⟨s.toArray⟩:ByteArray) m.toNat hlt];rw[zL hm4]at hb;injection hb with hb;rw[<- hb];rfl
  simp[Instr.index,asIntOf,run_underlying hu,hm1,hget]
 ·simp at h
theorem Q3(c:Call)(ho:o.op = .call c)(hb:c.callee = .builtin .len){v:Value}{w':World}(h:(Builtin.len_ c.argTypes o.type (c.args.map a.eval)).run P S.w = .ok v w') :
  (execOp a.eval o).run P S.w = .ok (.value v) w':=by
 simp[execOp,ho,resolve,hb,invoke,builtin,h]
theorem zf8(c:Call)(ho:o.op = .call c)(hb:c.callee = .builtin .cap){v:Value}{w':World}(h:(Builtin.cap_ c.argTypes o.type (c.args.map a.eval)).run P S.w = .ok v w') :
  (execOp a.eval o).run P S.w = .ok (.value v) w':=by
 simp[execOp,ho,resolve,hb,invoke,builtin,h]
theorem zgd(c:Call)(ho:o.op = .call c)(hb:c.callee = .builtin .min){v:Value}{w':World}(h:(Builtin.min_ c.argTypes o.type (c.args.map a.eval)).run P S.w = .ok v w') :
  (execOp a.eval o).run P S.w = .ok (.value v) w':=by
 simp[execOp,ho,resolve,hb,invoke,builtin,h]
theorem zgb(c:Call)(ho:o.op = .call c)(hb:c.callee = .builtin .max){v:Value}{w':World}(h:(Builtin.max_ c.argTypes o.type (c.args.map a.eval)).run P S.w = .ok v w') :
  (execOp a.eval o).run P S.w = .ok (.value v) w':=by
 simp[execOp,ho,resolve,hb,invoke,builtin,h]
theorem kH(c:Call)(ho:o.op = .call c)(hb:c.callee = .builtin .append){v:Value}{w':World}(h:(Builtin.append_ c.argTypes o.type (c.args.map a.eval)).run P S.w = .ok v w') :
  (execOp a.eval o).run P S.w = .ok (.value v) w':=by
 simp[execOp,ho,resolve,hb,invoke,builtin,h]
theorem VO(c:Call)(ho:o.op = .call c)(hb:c.callee = .builtin .copy){v:Value}{w':World}(h:(Builtin.copy_ c.argTypes o.type (c.args.map a.eval)).run P S.w = .ok v w') :
  (execOp a.eval o).run P S.w = .ok (.value v) w':=by
 simp[execOp,ho,resolve,hb,invoke,builtin,h]
theorem zAO(hti:yS P ti)(hi:Inv S st)(hf:FrameRep S st.tm a.tmps)(hg:GlOk S E)(c:Call)(ho:o.op = .call c)(hb:c.callee = .builtin .len){x:Operand}(hxs:c.args.toList=[x]){t:Nat}(hts:c.argTypes.toList=[t]){i:TI}(ht:ti t=some i)
  {e:Nat} (hk:i.k = .slice e) {y:X} (hx:trX x=some y) {r:Option D} {st':St} (h:opD E st (.len y)=some (r,st')):Yields P S a o r st':=by
 simp only[opD,zA]at h;obtain⟨d,hd,h⟩:=h;have h1:=Rep.ev hf hg hx hd;have hxs':c.args = #[x]:=by simpa using congrArg List.toArray hxs
 have hts':c.argTypes = #[t]:=by simpa using congrArg List.toArray hts
 have hu:=qj hti ht hk;have fin : ∀ n:Nat,(Builtin.len_ #[t] o.type #[a.eval x]).run P S.w = .ok (goInt n) S.w->Yields P S a o (some (.int .i64 n)) st:=by intro n hn;exact Yields.val (Q3 c ho hb (by rw[hxs',hts',show #[x].map a.eval = #[a.eval x]from by simp];exact hn)) hi (.int .i64 n)
 split at h<;>simp only[zBB,zBC,reduceCtorEq]at h
 ·next g n xs=>
  obtain⟨rfl,rfl⟩:=h;refine fin n ?_;generalize hv:a.eval x=v at h1;cases h1 with
  | sl _ _ _ A c' b off us hc hA hus hr hφ hgg=>simp[Builtin.len_,run_underlying hu]
 ·next k off n c' s=>
  obtain⟨rfl,rfl⟩:=h;refine fin n ?_;generalize hv:a.eval x=v at h1;cases h1 with
  | ref _ _ _ _ _ b _ hk2 hb2 _=>simp[Builtin.len_,run_underlying hu]
theorem zAt(hti:yS P ti)(hi:Inv S st)(hf:FrameRep S st.tm a.tmps)(hg:GlOk S E)(c:Call)(ho:o.op = .call c)(hb:c.callee = .builtin .len){x:Operand}(hxs:c.args.toList=[x]){t:Nat}(hts:c.argTypes.toList=[t]){i:TI}(ht:ti t=some i)
  (hk:i.k = .str) {y:X} (hx:trX x=some y) {r:Option D} {st':St} (h:opD E st (.lns y)=some (r,st')):Yields P S a o r st':=by
 simp only[opD]at h;split at h
 ·next s hd=>
  simp only[zBB,zBC]at h;obtain⟨rfl,rfl⟩:=h;have hv:=(Rep.ev hf hg hx hd).str_inv;have hxs':c.args = #[x]:=by simpa using congrArg List.toArray hxs
  have hts':c.argTypes = #[t]:=by simpa using congrArg List.toArray hts
  have hu:=Ve hti ht hk;refine Yields.val (Q3 c ho hb (v:=goInt s.length) ?_) hi (.int .i64 s.length);rw[hxs',hts'];simp[Builtin.len_,run_underlying hu,hv];rfl
 ·simp at h
theorem zAx(hti:yS P ti)(hi:Inv S st)(hf:FrameRep S st.tm a.tmps)(hg:GlOk S E)(c:Call)(ho:o.op = .call c)(hb:c.callee = .builtin .cap){x:Operand}(hxs:c.args.toList=[x]){t:Nat}(hts:c.argTypes.toList=[t]){i:TI}(ht:ti t=some i)
  {e:Nat} (hk:i.k = .slice e) {y:X} (hx:trX x=some y) {r:Option D} {st':St} (h:opD E st (.cap y)=some (r,st')):Yields P S a o r st':=by
 simp only[opD,zA]at h;obtain⟨d,hd,h⟩:=h;have h1:=Rep.ev hf hg hx hd;have hxs':c.args = #[x]:=by simpa using congrArg List.toArray hxs
 have hts':c.argTypes = #[t]:=by simpa using congrArg List.toArray hts
 have hu:=qj hti ht hk;have fin : ∀ n:Nat,(Builtin.cap_ #[t] o.type #[a.eval x]).run P S.w = .ok (goInt n) S.w->Yields P S a o (some (.int .i64 n)) st:=by intro n hn;exact Yields.val (zf8 c ho hb (by rw[hxs',hts',show #[x].map a.eval = #[a.eval x]from by simp];exact hn)) hi (.int .i64 n)
 split at h<;>(try simp only[zBB,zBC,reduceCtorEq]at h)
 ·next n xs=>
  obtain⟨rfl,rfl⟩:=h;refine fin n ?_;generalize hv:a.eval x=v at h1;cases h1 with
  | sl _ _ _ A c' b off us hc hA hus hr hφ hgg=>have:n=c':=hgg;subst this;simp[Builtin.cap_,run_underlying hu]
 ·next k off n c' s=>
  split at h
  ·next hlt=>
   simp only[zBB,zBC]at h;obtain⟨rfl,rfl⟩:=h;refine fin c' ?_;generalize hv:a.eval x=v at h1;cases h1 with
   | ref _ _ _ _ _ b cc hk2 hb2 hcc=>obtain rfl:=hcc.eq hlt;simp[Builtin.cap_,run_underlying hu]
  ·simp at h
theorem zAb(hti:yS P ti)(hi:Inv S st)(hf:FrameRep S st.tm a.tmps)(hg:GlOk S E)(s t:Nat)(x:Operand)(ho:o.op = .convert s t x){i j:TI}(hs:ti s=some i)(ht:ti t=some j){k k':IntKind}(hk:i.k = .int k)(hk':j.k = .int k'){y:X}(hx:trX x=some y)
  {r:Option D} {st':St} (h:opD E st (.cvi k' y)=some (r,st')):Yields P S a o r st':=by
 simp only[opD]at h;split at h
 ·next q n hd=>
  simp only[zBB,zBC]at h;obtain⟨rfl,rfl⟩:=h;have hv:=(Rep.ev hf hg hx hd).int_inv;have h1:=zht hti hs hk;have h2:=zht hti ht hk';refine Yields.val ?_ hi (.int k' _);simp only[execOp,ho,hv];refine yn ?_;simp[convert,run_underlying h1,run_underlying h2,Conv.intToInt]
 ·simp at h
theorem zBd(hi:Inv S st)(hf:FrameRep S st.tm a.tmps)(hg:GlOk S E)(hti:yS P ti)(s t:Nat)(x:Operand)(ho:o.op = .convert s t x){i j:TI}(hs:ti s=some i)(ht:ti t=some j)(hk:i.k = .str)(hk':j.k = .str){y:X}(hx:trX x=some y)
  {r:Option D} {st':St} (h:opD E st (.cms y)=some (r,st')):Yields P S a o r st':=by
 simp only[opD]at h;split at h
 ·next s' hd=>
  simp only[zBB,zBC]at h;obtain⟨rfl,rfl⟩:=h;have hv:=(Rep.ev hf hg hx hd).str_inv;have h1:=Ve hti hs hk;have h2:=Ve hti ht hk';refine Yields.val ?_ hi (.str s');simp only[execOp,ho,hv];refine yn ?_;simp[convert,run_underlying h1,run_underlying h2]
 ·simp at h
end
end
section
section
variable {P:Program} {E:Env} {ti:Ti} {st:St} {S:G} {a:Act} {o:Oper} (hti:yS P ti) (hi:Inv S st) (hf:FrameRep S st.tm a.tmps) (hg:GlOk S E)
theorem row_of(hi:Inv S st){k b:Nat}{xs:List D}{fz:Bool}(hm:st.mem k=some (.row xs fz))(hb:S.μ k=some b) :
  ∃ c e,S.w.heap[b]?=some (.cells c e (0,0))/\RepL S xs (c.toList.take xs.length):=by
 obtain⟨_,ho⟩:=hi.ob k _ hm;obtain⟨_,ho⟩:=ho b hb;cases ho with
 | row _ _ c e hh hrc _ _=>exact⟨c,e,hh,hrc⟩
theorem zfJ(s:List UInt8):RepL S (ofBytes s) (s.map fun b=>Value.int .u8 b.toNat):=by refine⟨by simp[ofBytes],fun j d v hd hv => ?_⟩;simp only[ofBytes,zBU,zB]at hd hv;obtain⟨x,hx,rfl⟩:=hd;obtain⟨y,hy,rfl⟩:=hv;rw[hx]at hy;injection hy with hy;subst hy;exact .int _ _
theorem J8(hi:Inv S st){d:D}{v:Value}{sz n:Nat}{ys:List D}(hs:0<sz)(hr:Rep S d v)(h:elems st sz d=some (n,ys)) :
  ys.length=n*sz/\(Builtin.lenOf v).run P S.w = .ok n S.w /\ ∀ m,m<=n -> ∃ us:List Value,(∀ w',w'.heap=S.w.heap->(Builtin.firstCells sz m v).run P w' = .ok us.toArray w')/\RepL S (ys.take (m*sz)) us:=by
 have hcw : ∀ {w':World} (x:Addr),w'.heap=S.w.heap->w'.cell? x=S.w.cell? x:=fun x h=>by simp[World.cell?,h]
 unfold elems at h;split at h
 ·next g n' xs=>
  split at h
  ·next hl=>
   simp only[zBB,zBC]at h;obtain⟨rfl,rfl⟩:=h;cases hr with
   | sl _ _ _ A c b off us hc hA hus hr hφ hgg=>
    refine⟨hl,by simp[Builtin.lenOf],fun m hm => ?_⟩;have hml:m*sz<=n'*sz:=zW _ hm;by_cases hx:xs=[]
    ·subst hx;have hn0:n'=0:=by
      have:n'*sz=0:=by simpa using hl.symm
      rcases Nat.mul_eq_zero.1 this with h | h
      ·exact h
      ·omega
     have hm0:m=0:=by omega
     subst hm0;refine⟨[],fun w' _ => ?_,by simpa using RepL.nil S⟩;cases A with
     | none=>simp[Builtin.firstCells]
     | some x=>simp[Builtin.firstCells,loadCells,loadCellsFrom]
    ·have hA:=hA.resolve_left hx;subst hA;refine⟨(List.range (m*sz)).map us,fun w' hw' => ?_,⟨by simp;omega,fun j d v hd hv => ?_⟩⟩
     ·have:=run_loadCells (P:=P) (w:=w') ⟨b,off,none⟩ (m*sz) us (fun j hj=>by rw[addr_add,hcw _ hw'];exact hus j (by omega));simpa[Builtin.firstCells]using this
     ·rw[zBR]at hd;split at hd
      ·next hj=>
       rw[zBU,List.getElem?_range hj]at hv;injection hv with hv;subst hv;exact hr j d hd
      ·simp at hd
  ·simp at h
 ·next k off n' c' s'=>
  split at h
  ·next xs fz hm=>
   split at h
   ·next hl=>
    simp only[zBB,zBC]at h;obtain⟨rfl,rfl⟩:=h;obtain⟨rfl,hl⟩:=hl;cases hr with
    | ref _ _ _ _ _ b _ hk hb _=>
     obtain⟨c,e,hh,hrc⟩:=row_of hi hm hb;have hcl:=hrc.preLen;simp only[Array.length_toList]at hcl;refine⟨by simp;omega,by simp[Builtin.lenOf],fun m hmn => ?_⟩;have hml:m*s'<=n'*s':=zW _ hmn;refine⟨((c.toList.drop off).take (n'*s')).take (m*s'),fun w' hw' => ?_,(hrc.cutP off (n'*s') (by omega)).take (m*s')⟩;have h1:=run_loadCells_list (P:=P) (w:=w') ⟨b,off,none⟩ (((c.toList.drop off).take (n'*s')).take (m*s')) (fun j u hu=>by
      rw[addr_add,hcw _ hw'];rw[zBR]at hu;split at hu
      ·rw[zBR]at hu;split at hu
       ·rw[zBS]at hu;simp only[World.cell?,hh];simpa using hu
       ·simp at hu
      ·simp at hu)
     have h2:(((c.toList.drop off).take (n'*s')).take (m*s')).length=m*s':=by simp;omega
     rw[h2]at h1;simpa[Builtin.firstCells]using h1
   ·simp at h
  ·simp at h
 ·next s=>
  split at h
  ·next hs1=>
   simp only[zBB,zBC]at h;obtain⟨rfl,rfl⟩:=h;subst hs1;have hv:=hr.str_inv;subst hv;refine⟨by simp[ofBytes],by simp[Builtin.lenOf];rfl,fun m hm=>⟨(s.take m).map fun b=>Value.int .u8 b.toNat,fun w' _ => ?_,?_⟩⟩
   ·simp only[Builtin.firstCells,Sem.run_pure];have:((⟨s.toArray⟩:ByteArray).extract 0 m).data=(s.take m).toArray:=by rw[ByteArray.data_extract];simp
    rw[this];congr 1;simp
   ·have:=(zfJ (S:=S) s).take m;simpa using this
  ·simp at h
 ·simp at h
theorem XF{l:Option D}{x:Option Operand}{dflt l':Nat}(h:(x=none/\l=none) \/ ∃ x' d',x=some x'/\l=some d'/\Rep S d' (a.eval x'))(hb:bnd l dflt=some l') :
  (x=none/\l'=dflt) \/ ∃ x' k m,x=some x'/\a.eval x' = .int k m/\0<=m/\m.toNat=l':=by
 rcases h with⟨rfl,rfl⟩ | ⟨x',d',rfl,rfl,hr⟩
 ·left;simp only[bnd,zBB]at hb;exact⟨rfl,hb.symm⟩
 ·right;unfold bnd at hb;split at hb
  ·next h=>simp at h
  ·next k m h=>
   injection h with h;subst h;split at hb
   ·next h0=>
    injection hb with hb;exact⟨x',k,m,rfl,hr.int_inv,h0,hb⟩
   ·simp at hb
  ·simp at hb
theorem qZ{isS:Bool}{len cap:Nat}{xl xh xm:Option Operand}{l h m:Nat}(hl:(xl=none/\l=0) \/ ∃ x' k q,xl=some x'/\a.eval x' = .int k q/\0<=q/\q.toNat=l)
  (hh:(xh=none/\h=len) \/ ∃ x' k q,xh=some x'/\a.eval x' = .int k q/\0<=q/\q.toNat=h) (hm:(xm=none/\m=cap) \/ ∃ x' k q,xm=some x'/\a.eval x' = .int k q/\0<=q/\q.toNat=m)
  (hmh:xm=none\/xh≠none) (h1:l<=h) (h2:h<=m) (h3:m<=cap) :
  (Instr.sliceBounds isS len cap (xl.map a.eval) (xh.map a.eval) (xm.map a.eval)).run P S.w = .ok (l,h,m) S.w:=by
 have rb : ∀ {x':Operand} {k:IntKind} {q:Int} (y:Nat) (code:BoundsCode),a.eval x' = .int k q->0<=q->q.toNat<=y->(Instr.sliceBound (a.eval x') y code).run P S.w = .ok q.toNat S.w:=by intro x' k q y code hv h0 hy;rw[hv];exact run_sliceBound S.w k q y code h0 (by omega)
 rcases hm with⟨rfl,rfl⟩ | ⟨x1,k1,q1,rfl,hv1,h01,rfl⟩<;>rcases hh with⟨rfl,rfl⟩ | ⟨x2,k2,q2,rfl,hv2,h02,rfl⟩<;>rcases hl with⟨rfl,rfl⟩ | ⟨x3,k3,q3,rfl,hv3,h03,rfl⟩
 ·simp[Instr.sliceBounds]
 ·simp[Instr.sliceBounds,rb _ _ hv3 h03 h1]
 ·simp[Instr.sliceBounds,rb _ _ hv2 h02 h2]
 ·simp[Instr.sliceBounds,rb _ _ hv2 h02 h2,rb _ _ hv3 h03 h1]
 ·simp at hmh
 ·simp at hmh
 ·simp[Instr.sliceBounds,rb _ _ hv1 h01 h3,rb _ _ hv2 h02 h2]
 ·simp[Instr.sliceBounds,rb _ _ hv1 h01 h3,rb _ _ hv2 h02 h2,rb _ _ hv3 h03 h1]
theorem zAA(hti:yS P ti)(hi:Inv S st)(hf:FrameRep S st.tm a.tmps)(hg:GlOk S E)(t:Nat)(x:Operand)(xl xh xm:Option Operand)(ho:o.op = .slice t x xl xh xm){i:TI}(ht:ti t=some i){e:Nat}(hk:i.k = .slice e){j:TI}(hj:ti e=some j)(hs:0<j.sz)
  {y:X} (hx:trX x=some y) {yl yh ym:Option X} (hl:zb6 xl=some yl) (hh:zb6 xh=some yh) (hm:zb6 xm=some ym) {r:Option D} {st':St}
  (h:opD E st (.slc j.sz y yl yh ym)=some (r,st')):Yields P S a o r st':=by
 simp only[opD,zA,zB,zBC]at h;obtain⟨d,hd,dl,hdl,dh,hdh,dm,hdm,v,hv,rfl,rfl⟩:=h;have h1:=Rep.ev hf hg hx hd;have el:=Rep.evO hf hg hl hdl;have eh:=Rep.evO hf hg hh hdh;have em:=Rep.evO hf hg hm hdm;have hu:=qj hti ht hk;have key : ∀ A n c l h m,a.eval x = .slice A n c->(Instr.sliceBounds true n c (xl.map a.eval) (xh.map a.eval) (xm.map a.eval)).run P S.w = .ok (l,h,m) S.w ->
   (execOp a.eval o).run P S.w = .ok (.value (.slice (if m=l then A else A.map (·.add (l*j.sz))) (h-l) (m-l))) S.w:=by
  intro A n c l h m hv hb;simp only[execOp,ho,hv];refine yn ?_;simp[Instr.sliceAt,run_underlying hu,Instr.slice,hb,qd hti hj]
 unfold zeN at hv;split at hv
 ·next g n xs=>
  simp only[zA]at hv;obtain⟨l',hl',h',hh',hv⟩:=hv;have bl:=XF el hl';have bh:=XF eh hh';generalize hvx:a.eval x=vx at h1;cases h1 with
  | sl _ _ _ A c b off us hc hA hus hr hφ hgg=>
   -- a cut of cells that stay
   have cut : ∀ (g':Tg) (m:Nat),l'<=h'->h'<=n->h'<=m->m<=c->TgOk S (h'-l') (if m=l' then A else A.map (·.add (l'*j.sz))) (m-l') g' ->
     Rep S (.sl g' (h'-l') ((xs.drop (l'*j.sz)).take ((h'-l')*j.sz))) (.slice (if m=l' then A else A.map (·.add (l'*j.sz))) (h'-l') (m-l')):=by
    intro g' m q1 q2 q3 q4 q5;by_cases hml:m=l'
    ·have h0:h'-l'=0:=by omega
     rw[h0,Nat.zero_mul,List.take_zero];rw[h0]at q5;exact Rep.slNil S g' _ 0 (m-l') (Nat.zero_le _) q5
    ·by_cases hx0:xs=[]
     ·subst hx0;rw[List.drop_nil,List.take_nil];exact Rep.slNil S g' _ _ _ (by omega) q5
     ·have hA:=hA.resolve_left hx0;have hφ:=hφ.resolve_left hx0;subst hA;rw[zBt hml]at q5 ⊢;simp only[zC,addr_add]at q5 ⊢;refine .sl g' _ _ _ _ b (off+l'*j.sz) (fun q=>us (l'*j.sz+q)) (by omega) (.inr rfl) (fun q hq => ?_) (fun q d hd => ?_) ?_ q5
      ·simp at hq;have:=hus (l'*j.sz+q) (by omega);rw[<- Nat.add_assoc]at this;exact this
      ·rw[zBR]at hd;split at hd
       ·rw[zBS]at hd;exact hr _ d hd
       ·simp at hd
      ·by_cases hlen:xs.length<=l'*j.sz
       ·left;rw[zQ hlen];simp
       ·right;simp;omega
   split at hv
   ·next=>
    rcases em with⟨rfl,_⟩ | ⟨_,_,_,h,_⟩
    ·split at hv
     ·next hc2=>
      injection hv with hv;have hb:=qZ (P:=P) (S:=S) (isS:=true) (len:=n) (cap:=c) (xm:=none) (m:=c) bl bh (.inl ⟨rfl,rfl⟩) (.inl rfl) hc2.1 (by omega) (zR _);refine Yields.val (key A n c l' h' c hvx hb) hi ?_;subst hv;split
      ·next h0=>
       obtain⟨rfl,rfl⟩:=h0;have e1:(if c=0 then A else A.map (·.add (0*j.sz)))=A:=by
        split
        ·rfl
        ·cases A<;>simp[Addr.add]
       rw[e1];exact .sl g _ xs A c b off us hc hA hus hr hφ hgg
      ·next h0=>
       refine cut _ c hc2.1 hc2.2 (by omega) (zR _) ?_;cases g with
       | no=>trivial
       | full=>
        have:n=c:=hgg;by_cases h3:h'=n
        ·simp only[h3,zBv];show n-l'=c-l';omega
        ·simp only[h3,zBw];trivial
       | ln g sz=>trivial
     ·simp at hv
    ·simp at h
   ·next dm'=>
    simp only[zA]at hv;obtain⟨m',hm',hv⟩:=hv;have bm:=XF em hm';split at hv
    ·next hc2=>
     injection hv with hv;subst hv;obtain⟨c1,c2,c3,c4⟩:=hc2;have hxm:xm≠none:=by
      rcases em with⟨_,h⟩ | ⟨_,_,h,_⟩
      ·simp at h
      ·rw[h];simp
     have hxh:xh≠none:=by
      rcases eh with⟨_,h⟩ | ⟨_,_,h,_⟩
      ·rw[h]at c1;simp at c1
      ·rw[h];simp
     have bm2:(xm=none/\m'=c) \/ ∃ x' k q,xm=some x'/\a.eval x' = .int k q/\0<=q/\q.toNat=m':=by
      rcases bm with⟨h,_⟩ | h
      ·exact(hxm h).elim
      ·exact .inr h
     have hb:=qZ (P:=P) (S:=S) (isS:=true) (len:=n) (cap:=c) bl bh bm2 (.inr hxh) c2 c3 (by omega);refine Yields.val (key A n c l' h' m' hvx hb) hi (cut _ m' c2 (by omega) c3 (by omega) ?_);by_cases h3:h'=m'
     ·simp only[h3,zBv];rfl
     ·simp only[h3,zBw];trivial
    ·simp at hv
 ·next k off n c s=>
  simp only[zA]at hv;obtain⟨l',hl',h',hh',m',hm',hv⟩:=hv;have bl:=XF el hl';have bh:=XF eh hh';have bm:=XF em hm';split at hv
  ·next hc2=>
   injection hv with hv;obtain⟨c1,rfl,c2,c3,c4,c5⟩:=hc2;generalize hvx:a.eval x=vx at h1;cases h1 with
   | ref _ _ _ _ _ b cc hk2 hb2 hcc=>
    obtain rfl:=hcc.eq c5;have hxh:xm=none\/xh≠none:=by
     rcases c1 with c1 | c1
     ·left;rcases em with⟨h,_⟩ | ⟨_,_,_,h,_⟩
      ·exact h
      ·rw[h]at c1;simp at c1
     ·right;rcases eh with⟨_,h⟩ | ⟨_,_,h,_⟩
      ·rw[h]at c1;simp at c1
      ·rw[h];simp
    have hb:=qZ (P:=P) (S:=S) (isS:=true) (len:=n) (cap:=cc) bl bh bm hxh c2 c3 c4;refine Yields.val (key _ n cc l' h' m' hvx hb) hi ?_;subst hv;split
    ·next h3=>
     have e1:h'-l'=0:=by omega
     have e2:m'-l'=0:=by omega
     rw[e1,e2];exact Rep.slNil S .full _ 0 0 (zR _) rfl
    ·next h3=>
     simp only[zC,addr_add];exact .ref k _ _ _ _ b _ hk2 hb2 (.inl rfl)
  ·simp at hv
 ·simp at hv
end
end
section
theorem zxe{S:G}{st:St}(h:Inv S st){g n m:Nat}(ht:st.tip g=some n)(hm:0<m)(c:Array Value)(e:TypeId)(cap sz:Nat){w0:World}(hw:SameW S.w w0)(hn:n+m<=cap)(hs:cap*sz<=c.size) :
  ∃ S':G,S'.w=w0.alloc (.cells c e (0,0))/\Ext S S'/\Inv S' { st.touch g with tip:=upd st.tip g (n+m) }/\S'.φ S.w.heap.size=(n+m)*sz /\
   g<S'.nx/\S'.hd g (n+m)=some (some ⟨S.w.heap.size,0,none⟩,cap,sz):=by
 obtain⟨hg1,hg2,_⟩:=h.tip g n ht;have he:Ext S (S.new w0 (.cells c e (0,0)) ((n+m)*sz) (g+1) S.μ (fun g' m'=>if g'=g/\m'=n+m then some (some ⟨S.w.heap.size,0,none⟩,cap,sz)else S.hd g' m') S.nx):=
  Ext.new hw h.out (fun _ _=>rfl) (fun g' m' x hg hx=>by
   show(if g'=g/\m'=n+m then _ else _)=_;rw[zBt]
   ·exact hx
   ·rintro⟨rfl,rfl⟩;rw[hg2 (n+m) (by omega)]at hx;simp at hx) (zR _)
 refine⟨_,rfl,he,?_,by show(if S.w.heap.size=S.w.heap.size then _ else S.φ _)=_;rw[zBu rfl],hg1,by show(if g=g/\n+m=n+m then _ else _)=_;rw[zBu ⟨rfl,rfl⟩]⟩;refine h.step he g h.nx (KM hw g) (fun _ _ _ h=>h) (fun g' hg' hne=>by funext m';show(if g'=g/\m'=n+m then _ else _)=_;rw[zBt (fun h=>hne h.1)]) ?_ ?_ (KR hw h.out) (zpv h ht _) (KQ h (by omega))
 ·intro k o hk;have hk':st.mem k=some o:=hk;have hkg:k≠g:=by rintro rfl;rw[h.dis _ _ hk']at ht;simp at ht
  exact .inl ⟨(h.ob k o hk').1,hkg,hk'⟩
 ·intro g' n' hg';have hg1':upd st.tip g (n+m) g'=some n':=hg';by_cases e2:g'=g
  ·subst e2;rw[wh]at hg1';injection hg1' with hg1';subst hg1';refine .inr ⟨hg1,fun n' hn' => ?_,some ⟨S.w.heap.size,0,none⟩,cap,sz,by show(if g'=g'/\n+m=n+m then _ else _)=_;rw[zBu ⟨rfl,rfl⟩],hn,?_⟩
   ·show(if g'=g'/\n'=n+m then _ else _)=_;rw[zBt (by omega)];exact hg2 n' (by omega)
   ·refine .inr ⟨S.w.heap.size,0,c,e,rfl,?_,?_,Kx hw,by omega⟩
    ·show(if S.w.heap.size=S.w.heap.size then g'+1 else S.ρ _)=_;rw[zBu rfl]
    ·show(if S.w.heap.size=S.w.heap.size then _ else S.φ _)=_;rw[zBu rfl];omega
  ·rw[upd_ne _ _ e2]at hg1';exact .inl ⟨(h.tip g' n' hg1').1,e2,hg1'⟩
theorem zwh{S:G}{st:St}(h:Inv S st){g n:Nat}(ht:st.tip g=some n):Inv S { st.touch g with tip:=upd st.tip g n }:=by
 have:upd st.tip g n=st.tip:=by
  funext j;by_cases hj:j=g
  ·subst hj;rw[wh,ht]
  ·rw[upd_ne _ _ hj]
 rw[this];exact⟨h.nx,h.ob,h.tip,h.out,h.dis,h.own⟩
section
variable {P:Program} {E:Env} {ti:Ti} {st:St} {S:G} {a:Act} {o:Oper} (hti:yS P ti) (hi:Inv S st) (hf:FrameRep S st.tm a.tmps) (hg:GlOk S E)
structure zzq(P:Program)(t tx ty:TypeId)(x:Value)(sz bytes:Nat)(m:Nat)(us:List Value)(w:World):Prop where
 len:us.length=m*sz
 one : ∀ u∈us,u.oneCell'=true
 room : ∀ (b off n c:Nat) (cs:Array Value) (e:TypeId),w.heap[b]?=some (.cells cs e (0,0))->n+m<=c->off+n*sz+us.length<=cs.size ->
  (Builtin.append_ #[t,tx] ty #[.slice (some ⟨b,off,none⟩) n c,x]).run P w = .ok (.slice (some ⟨b,off,none⟩) (n+m) c) (w.setRow b (cs.toList.take (off+n*sz)++us++cs.toList.drop (off+n*sz+us.length)).toArray)
 none_ : ∀ (A:Option Addr) (n c:Nat),m=0->n<=c->(Builtin.append_ #[t,tx] ty #[.slice A n c,x]).run P w = .ok (.slice A n c) w
 grow : ∀ (A:Option Addr) (n c:Nat) (os:List Value),c<n+m->(n+m)*bytes<=140737488355328->n+m<=140737488355328->(Builtin.firstCells sz n (.slice A n c)).run P w.drew = .ok os.toArray w.drew ->
  ∃ (cap:Nat) (zs:Array Value) (e:TypeId),n+m<=cap/\zs.size=(cap-(n+m))*sz/\(Builtin.append_ #[t,tx] ty #[.slice A n c,x]).run P w = .ok (.slice (some ⟨w.heap.size,0,none⟩) (n+m) cap) (w.drew.alloc (.cells ((os++us).toArray++zs) e (0,0)))
theorem ziV{S':G}{xs:List D}{cs:Array Value}{us zs:List Value}{b:Nat}{e:TypeId}(hh:S'.w.heap[b]?=some (.cells cs e (0,0)))(hc:cs.toList=us++zs)(hr:RepL S' xs us)(hφ:xs.length<=S'.φ b)
  (g:Tg) (n c:Nat) (hn:n<=c) (hg:TgOk S' n (some ⟨b,0,none⟩) c g):Rep S' (.sl g n xs) (.slice (some ⟨b,0,none⟩) n c):=by
 refine .sl g n xs _ c b 0 (fun j=>(cs[j]?).getD undef) hn (.inr rfl) (fun j hj => ?_) (fun j d hd => ?_) (.inr (by omega)) hg
 ·have hlen:cs.size=us.length+zs.length:=by have:=congrArg List.length hc;simpa using this
  have hj':j<cs.size:=by have:=hr.1;omega
  simp only[World.cell?,hh,zBE];simp[hj']
 ·obtain⟨v,hv,hrv⟩:=hr.get hd;have:cs[j]?=some v:=by
   rw[<- zCh,hc,zBP]
   ·exact hv
   ·rcases zBD j us.length with h | h
    ·exact h
    ·simp[zBQ h]at hv
  rw[this];exact hrv
theorem zbb{m sz:Nat}{us:List Value}(h:us.length=m*sz)(hm:m=0):us=[]:=by subst hm;simpa using h
theorem RepL.nil_inv{S:G}{ys:List D}(h:RepL S ys []):ys=[]:=by
 have:=h.1;cases ys with
 | nil=>rfl
 | cons _ _=>simp at this
theorem zzE{S':G}{b off n m c sz:Nat}{cs:Array Value}{e:TypeId}{xs ys:List D}{os us:List Value}{g:Tg}(hh:S.w.heap[b]?=some (.cells cs e (0,0)))
  (hw:S'.w=S.w.setRow b (cs.toList.take (off+n*sz)++us++cs.toList.drop (off+n*sz+us.length)).toArray) (hφ:S'.φ b=off+(n+m)*sz) (hosl:os.length=n*sz)
  (hos:(Builtin.firstCells sz n (.slice (some ⟨b,off,none⟩) n c)).run P S.w.drew = .ok os.toArray S.w.drew) (hosr:RepL S xs os) (hys:RepL S ys us) (hul:us.length=m*sz) (hle:off+n*sz+us.length<=cs.size) (he:Ext S S')
  (hxl:xs.length=n*sz) (hg:TgOk S' (n+m) (some ⟨b,off,none⟩) c g) (hnc:n+m<=c):Rep S' (.sl g (n+m) (xs++ys)) (.slice (some ⟨b,off,none⟩) (n+m) c):=by
 have hmul:(n+m)*sz=n*sz+m*sz:=zBW _ _ _;have hyl:ys.length=us.length:=hys.1.symm
 -- what was read is what lies there
 have hos2:os=(cs.toList.drop off).take (n*sz):=by
  have h1:=run_loadCells_list (P:=P) (w:=S.w.drew) ⟨b,off,none⟩ ((cs.toList.drop off).take (n*sz)) (fun j u hu=>by
   rw[addr_add];rw[zBR]at hu;split at hu
   ·rw[zBS]at hu;have hd:S.w.drew.heap[b]?=some (.cells cs e (0,0)):=hh;simp only[World.cell?,hd];simpa using hu
   ·simp at hu)
  have h2:((cs.toList.drop off).take (n*sz)).length=n*sz:=by simp;omega
  rw[h2]at h1;simp only[Builtin.firstCells]at hos;rw[h1]at hos;injection hos with hos;exact(congrArg Array.toList hos).symm
 have hrow:S'.w.heap[b]?=some (.cells (cs.toList.take (off+n*sz)++us++cs.toList.drop (off+n*sz+us.length)).toArray e (0,0)):=by rw[hw];exact Xv hh
 have hget : ∀ j,j<n*sz+us.length->(cs.toList.take (off+n*sz)++us++cs.toList.drop (off+n*sz+us.length))[off+j]?=(os++us)[j]?:=by
  intro j hj;rw[zBN,List.getElem?_append];have hl:(cs.toList.take (off+n*sz)).length=off+n*sz:=by simp;omega
  have hr:(os++us)[j]?=if j<n*sz then os[j]? else us[j-n*sz]?:=by rw[List.getElem?_append,hosl]
  rw[hl,hr];by_cases hjn:j<n*sz
  ·rw[zBu (by omega),zBu hjn,zBR,zBu (by omega),hos2,zBR,zBu hjn,zBS]
  ·rw[zBt (by omega),zBt hjn,zBP (by omega)];congr 1;omega
 refine .sl g _ _ _ c b off (fun j=>((os++us)[j]?).getD undef) hnc (.inr rfl) (fun j hj => ?_) (fun j d hd => ?_) (.inr ?_) hg
 ·have hj':j<n*sz+us.length:=by rw[zZ]at hj;omega
  have hj2:j<(os++us).length:=by rw[zZ];omega
  simp only[World.cell?,hrow,Option.isSome_none,zF,zBw,List.getElem?_toArray];rw[hget j hj',zL hj2];rfl
 ·obtain⟨v,hv,hrv⟩:=((hosr.app hys).ext he).get hd;rw[hv];exact hrv
 ·rw[hφ,zZ];omega
theorem zhb(hi:Inv S st){t tx ty:Nat}{x v:Value}{d d':D}{sz bytes m:Nat}{ys:List D}{us:List Value}{st':St}(hr:Rep S d v)(hS:zzq P t tx ty x sz bytes m us S.w)(hys:RepL S ys us)
  (h:appD sz bytes d m ys st=some (d',st')) :
  ∃ v' S',(Builtin.append_ #[t,tx] ty #[v,x]).run P S.w = .ok v' S'.w/\Ext S S'/\Inv S' st'/\Rep S' d' v':=by
 have hylen:ys.length=m*sz:=by have:=hys.1;have:=hS.len;omega
 unfold appD at h;split at h
 ·next g n xs=>
  split at h
  ·next hc=>
   obtain⟨hxl,hb1,hb2,hs0⟩:=hc;cases hr with
   | sl _ _ _ A c b off uf hnc hA hus hrr hφ hgg=>
    -- its cells, read
    have hold : ∃ os:List Value,(Builtin.firstCells sz n (.slice A n c)).run P S.w.drew = .ok os.toArray S.w.drew/\RepL S xs os:=by
     by_cases hx0:xs=[]
     ·subst hx0;have hn0:n=0:=by
       have:n*sz=0:=by simpa using hxl.symm
       rcases Nat.mul_eq_zero.1 this with h | h
       ·exact h
       ·omega
      subst hn0;refine⟨[],?_,RepL.nil S⟩;cases A with
      | none=>simp[Builtin.firstCells]
      | some x=>simp[Builtin.firstCells,loadCells,loadCellsFrom]
     ·have hA:=hA.resolve_left hx0;subst hA;refine⟨(List.range (n*sz)).map uf,?_,⟨by simp[hxl],fun j d v hd hv => ?_⟩⟩
      ·have:=run_loadCells (P:=P) (w:=S.w.drew) ⟨b,off,none⟩ (n*sz) uf (fun j hj=>by rw[addr_add];exact hus j (by omega));simpa[Builtin.firstCells]using this
      ·have hj:j<n*sz:=by
        rw[<- hxl];rcases zBD j xs.length with h | h
        ·exact h
        ·simp[zBQ h]at hd
       rw[zBU,List.getElem?_range hj]at hv;injection hv with hv;subst hv;exact hrr j d hd
    obtain⟨os,hos,hosr⟩:=hold;have hosl:os.length=n*sz:=by have:=hosr.1;omega
    -- a new row
    have grow:c<n+m -> ∃ (cap:Nat) (cs:Array Value) (zs:List Value) (e':TypeId),n+m<=cap/\cap*sz<=cs.size/\cs.toList=(os++us)++zs /\
      (Builtin.append_ #[t,tx] ty #[.slice A n c,x]).run P S.w = .ok (.slice (some ⟨S.w.heap.size,0,none⟩) (n+m) cap) (S.w.drew.alloc (.cells cs e' (0,0))):=by
     intro hlt;obtain⟨cap,zs,e',h1,h2,h3⟩:=hS.grow A n c os hlt hb1 hb2 hos;refine⟨cap,_,zs.toList,e',h1,?_,by simp,h3⟩;have h4:=hS.len;have h5:cap*sz=(n+m)*sz+(cap-(n+m))*sz:=by rw[<- zBW];congr 1;omega
     have h6:(n+m)*sz=n*sz+m*sz:=zBW _ _ _;simp;omega
    split at h
    ·simp at h
    ·next => -- full
     simp only[zBB,zBC]at h;obtain⟨rfl,rfl⟩:=h;have hncc:n=c:=hgg;by_cases hm:m=0
     ·obtain⟨S',hw,he,hinv,hnx,hhd⟩:=zix hi n sz A;have hus0:=zbb hS.len hm;subst hus0;have hys0:=hys.nil_inv;subst hys0;subst hm;refine⟨.slice A n c,S',?_,he,hinv,?_⟩
      ·rw[hw];exact hS.none_ A n c rfl hnc
      ·simp only[zBF,List.append_nil];have:Rep S' (.sl .full n xs) (.slice A n c):=(Rep.sl (S:=S) .full n xs A c b off uf hnc hA hus hrr hφ hgg).ext he;cases this with
       | sl _ _ _ _ _ b' off' uf' a1 a2 a3 a4 a5 a6=>exact .sl _ n xs A c b' off' uf' a1 a2 a3 a4 a5 ⟨hnx,by rw[hhd,hncc]⟩
     ·obtain⟨cap,cs,zs,e',h1,h2,h3,h4⟩:=grow (by omega);obtain⟨S',hw,he,hinv,hφ',hnx,hhd⟩:=zrg hi cs e' (n+m) cap sz (SameW.drew S.w) h1 h2;refine⟨_,S',by rw[hw];exact h4,he,hinv,?_⟩;refine ziV (us:=os++us) (zs:=zs) (cs:=cs) (e:=e') (by rw[hw];exact heap_alloc_new _ _) h3 ((hosr.app hys).ext he) ?_ _ _ _ h1 ⟨hnx,hhd⟩;rw[hφ',zZ,zBW];omega
    ·next g s' => -- a lineage
     split at h
     ·next hc2=>
      obtain⟨rfl,htip⟩:=hc2;simp only[zBB,zBC]at h;obtain⟨rfl,rfl⟩:=h;obtain⟨hgnx,hhd⟩:=hgg;by_cases hm:m=0
      ·have hus0:=zbb hS.len hm;subst hus0;have hys0:=hys.nil_inv;subst hys0;subst hm;refine⟨.slice A n c,S,hS.none_ A n c rfl hnc,Ext.refl S,zwh hi htip,?_⟩;simp only[zBF,List.append_nil];exact .sl _ n xs A c b off uf hnc hA hus hrr hφ ⟨hgnx,hhd⟩
      ·by_cases hroom:n+m<=c
       ·have hsafe:=(hi.tip g n htip).2.2;obtain⟨A',c',sz',e1,e2,e3⟩:=hsafe;rw[hhd]at e1;injection e1 with e1;simp only[zBC]at e1;obtain⟨rfl,rfl,rfl⟩:=e1;rcases e3 with e3 | ⟨b',off',cs,t2,ha,_⟩
        ·omega
        ·subst ha;obtain⟨cs,e',hh,hle,S',hw,he,hinv,hφ',hhd',hnx'⟩:=zuc hi htip hhd hroom (by omega) us hS.len;refine⟨_,S',by rw[hw];exact hS.room b' off' n c cs e' hh hroom hle,he,hinv,?_⟩;exact zzE hh hw hφ' hosl hos hosr hys hS.len hle he (by omega) ⟨by rw[hnx'];exact hgnx,hhd'⟩ hroom
       ·obtain⟨cap,cs,zs,e',h1,h2,h3,h4⟩:=grow (by omega);obtain⟨S',hw,he,hinv,hφ',hnx,hhd2⟩:=zxe hi htip (by omega) cs e' cap s' (SameW.drew S.w) h1 h2;refine⟨_,S',by rw[hw];exact h4,he,hinv,?_⟩;refine ziV (us:=os++us) (zs:=zs) (cs:=cs) (e:=e') (by rw[hw];exact heap_alloc_new _ _) h3 ((hosr.app hys).ext he) ?_ _ _ _ h1 ⟨hnx,hhd2⟩;rw[hφ',zZ,zBW];omega
     ·simp at h
  ·simp at h
 ·next k off n c s'=>
  split at h
  ·next xs fz hm=>
   split at h
   ·next hc=>
    obtain⟨rfl,hl,hnc,hcr,hb1,hb2,hs0⟩:=hc;cases hr with
    | ref _ _ _ _ _ b cc hk hb hcc=>
     obtain rfl:=(hcc.eq hcr).symm;split at h
     ·next hroom=>
      split at h
      ·simp at h
      ·next hfz=>
       simp only[zB,zBC]at h;obtain⟨st2,hst,rfl,rfl⟩:=h;unfold storeD at hst;rw[hm]at hst;cases fz with
       | true=>simp at hfz
       | false=>
        simp only at hst;split at hst
        ·next hc2=>
         injection hst with hst;subst hst;obtain⟨c',e',hh,hle,S',hw,he,hinv⟩:=zgF hi hm hb (off+n*s') ys us hc2.1 hys;refine⟨_,S',by rw[hw];exact hS.room b off n c c' e' hh hroom hle,he,hinv,?_⟩;exact .ref k off _ _ s' b _ (zK hk he.nx) (he.mu k b hk hb) (.inl rfl)
        ·simp at hst
     ·next hroom=>
      simp only[zBB,zBC]at h;obtain⟨rfl,rfl⟩:=h;obtain⟨cs0,e0,hh0,hrc⟩:=row_of hi hm hb;have hcl:=hrc.preLen;simp only[Array.length_toList]at hcl;have hnm:n*s'<=c*s':=zW _ hnc;have hosr:=hrc.cutP off (n*s') (by omega);have hosl:((cs0.toList.drop off).take (n*s')).length=n*s':=by simp;omega
      have hos:(Builtin.firstCells s' n (.slice (some ⟨b,off,none⟩) n c)).run P S.w.drew = .ok ((cs0.toList.drop off).take (n*s')).toArray S.w.drew:=by
       have h1:=run_loadCells_list (P:=P) (w:=S.w.drew) ⟨b,off,none⟩ ((cs0.toList.drop off).take (n*s')) (fun j u hu=>by
        rw[addr_add];rw[zBR]at hu;split at hu
        ·rw[zBS]at hu;have hd:S.w.drew.heap[b]?=some (.cells cs0 e0 (0,0)):=hh0;simp only[World.cell?,hd];simpa using hu
        ·simp at hu)
       rw[hosl]at h1;simpa[Builtin.firstCells]using h1
      obtain⟨cap,zs,e',h1,h2,h3⟩:=hS.grow _ n c _ (by omega) hb1 hb2 hos;have h4:=hS.len;have h5:cap*s'=(n+m)*s'+(cap-(n+m))*s':=by rw[<- zBW];congr 1;omega
      have h6:(n+m)*s'=n*s'+m*s':=zBW _ _ _;have h7:cap*s'<=((((cs0.toList.drop off).take (n*s'))++us).toArray++zs).size:=by simp only[Array.size_append,List.size_toArray,zZ,hosl];omega
      obtain⟨S',hw,he,hinv,hφ',hnx,hhd⟩:=zrg hi _ e' (n+m) cap s' (SameW.drew S.w) h1 h7;refine⟨_,S',by rw[hw];exact h3,he,hinv,?_⟩;refine ziV (us:=((cs0.toList.drop off).take (n*s'))++us) (zs:=zs.toList) (e:=e') (by rw[hw];exact heap_alloc_new _ _) (by simp) ((hosr.app hys).ext he) ?_ _ _ _ h1 ⟨hnx,hhd⟩;have:=hosr.1;rw[hφ',zZ];omega
   ·simp at h
  ·simp at h
 ·simp at h
end
end
section
section
variable {P:Program} {E:Env} {ti:Ti} {st:St} {S:G} {a:Act} {o:Oper} (hti:yS P ti) (hi:Inv S st) (hf:FrameRep S st.tm a.tmps) (hg:GlOk S E)
theorem zu9{t tx ty e:Nat}{k:TI}(hti:yS P ti)(hu:P.underlying t=some (.slice e))(hk:ti e=some k){x:Value}{m:Nat}{us:List Value}{w:World}(hs:Src P k.sz tx x m us w):zzq P t tx ty x k.sz k.bytes m us w:=by
 obtain⟨d,inf,z,h1,h2,h3,h4,h5,h6,h7,h8⟩:=Yp hti hk;have hx : ∀ (A:Option Addr) (n c:Nat),(∃ e',P.underlying tx=some (.slice e'))\/P.underlying tx=some .string:=fun _ _ _=>hs.kind
 refine⟨hs.newsLen,hs.one,?_,?_,?_⟩
 ·intro b off n c cs e' hh hroom hle;have h3:=run_storeCells_at (P:=P) b (off+n*k.sz) e' us 0 cs w hh (by simpa using hle) hs.one;simp only[zBF]at h3;rcases hs.kind with⟨e2,hk2⟩ | hk2<;>simp[Builtin.append_,run_underlying hu,run_underlying hk2,qd hti hk,hs.len,hroom,hs.cells,addr_add,h3]
 ·intro A n c hm hnc;have hus:us=[]:=zbb hs.newsLen hm;subst hus hm;have hcells:=hs.cells;have hl:=hs.len;cases A with
  | none=>rcases hs.kind with⟨e2,hk2⟩ | hk2<;>simp[Builtin.append_,run_underlying hu,run_underlying hk2,qd hti hk,hl,hnc,hcells]
  | some A=>rcases hs.kind with⟨e2,hk2⟩ | hk2<;>simp[Builtin.append_,run_underlying hu,run_underlying hk2,qd hti hk,hl,hnc,hcells,storeCells]
 ·intro A n c os hlt hb1 hb2 hos;have hfit:Builtin.nextslicecap (n+m) c*inf.bytes<=281474976710656:=growslice_fits hlt (by rw[h6];exact hb1);have hs':Src P inf.size tx x m us w:=by rw[h5];exact hs
  refine⟨grownCap w (n+m) c e,Builtin.zeroCells z.cells (grownCap w (n+m) c e-(n+m)),e,grownCap_ge _ _ _ _,by rw[size_zeroCells,h7],?_⟩;exact run_append_grow_src w t tx ty e inf z hu h2 h3 A n c os (by rw[h5];exact hos) x m us hs' hlt (by omega) hfit
theorem zsP{v:Value}{n:Nat}{w:World}(h:(Builtin.lenOf v).run P w = .ok n w)(w':World):(Builtin.lenOf v).run P w' = .ok n w':=by cases v<;>simp_all [Builtin.lenOf]
theorem zkW(hi:Inv S st){d:D}{v:Value}{sz m:Nat}{ys:List D}(hs:0<sz)(hr:Rep S d v)(h:elems st sz d=some (m,ys))(hone:yd ys=true){tx:Nat}
  (hk:(∃ e',P.underlying tx=some (.slice e'))\/P.underlying tx=some .string) : ∃ us,RepL S ys us/\Src P sz tx v m us S.w:=by
 obtain⟨h1,h2,h3⟩:=J8 (P:=P) hi hs hr h;obtain⟨us,h4,h5⟩:=h3 m (zR _);rw[<- h1,List.take_length]at h5;exact⟨us,h5,hk,zsP h2,h4 S.w rfl,h4 S.w.drew rfl,by have:=h5.1;omega,h5.oneCells hone⟩
theorem zy2(hti:yS P ti)(hi:Inv S st)(hf:FrameRep S st.tm a.tmps)(hg:GlOk S E)(c:Call)(ho:o.op = .call c)(hb:c.callee = .builtin .append){x y:Operand}(hxs:c.args.toList=[x,y]){t u:Nat}(hts:c.argTypes.toList=[t,u]){i j:TI}(ht:ti t=some i)(hu:ti u=some j)
  {e:Nat} (hk:i.k = .slice e) {k:TI} (he:ti e=some k) (hs:0<k.sz) (hjk:(∃ e',j.k = .slice e')\/j.k = .str) {x' y':X} (hx:trX x=some x') (hy:trX y=some y')
  {r:Option D} {st':St} (h:opD E st (.app k.sz k.bytes x' y')=some (r,st')):Yields P S a o r st':=by
 simp only[opD,zA]at h;obtain⟨d,hd,z,hz,⟨m,ys⟩,hp,h⟩:=h;split at h
 ·next hone=>
  simp only[zB,zBC]at h;obtain⟨⟨d',st2⟩,happ,rfl,rfl⟩:=h;have h1:=Rep.ev hf hg hx hd;have h2:=Rep.ev hf hg hy hz;have hxs':c.args = #[x,y]:=by simpa using congrArg List.toArray hxs
  have hts':c.argTypes = #[t,u]:=by simpa using congrArg List.toArray hts
  have hut:=qj hti ht hk;have huu:(∃ e',P.underlying u=some (.slice e'))\/P.underlying u=some .string:=by
   rcases hjk with⟨e',h⟩ | h
   ·exact .inl ⟨e',qj hti hu h⟩
   ·exact .inr (Ve hti hu h)
  obtain⟨us,hus,hsrc⟩:=zkW hi hs h2 hp hone huu;obtain⟨v',S',hrun,hext,hinv,hrep⟩:=zhb hi h1 (zu9 (ty:=o.type) hti hut he hsrc) hus happ;refine Yields.mem (kH c ho hb ?_) hext hinv hrep;rw[hxs',hts',show #[x,y].map a.eval = #[a.eval x,a.eval y]from by simp];exact hrun
 ·simp at h
theorem zAy(hti:yS P ti)(hi:Inv S st)(hf:FrameRep S st.tm a.tmps)(hg:GlOk S E)(c:Call)(ho:o.op = .call c)(hb:c.callee = .builtin .append){x y:Operand}(hxs:c.args.toList=[x,y]){t u:Nat}(hts:c.argTypes.toList=[t,u]){i j:TI}(ht:ti t=some i)(hu:ti u=some j)
  {e:Nat} (hk:i.k = .slice e) {k:TI} (he:ti e=some k) (hs:0<k.sz) (hjk:(∃ e',j.k = .slice e')\/j.k = .str) {y':X} (hx:trX x=some (.k (.sl .full 0 []))) (hy:trX y=some y')
  {r:Option D} {st':St} (h:opD E st (.apr k.sz k.bytes y')=some (r,st')):Yields P S a o r st':=by
 simp only[opD,zA]at h;obtain⟨z,hz,⟨m,ys⟩,hp,h⟩:=h;split at h
 ·next hcc=>
  obtain⟨hone,hm,hsz,hyl,hb1,hb2⟩:=hcc;simp only[zBB,zBC]at h;obtain⟨rfl,rfl⟩:=h;have h2:=Rep.ev hf hg hy hz;have hxs':c.args = #[x,y]:=by simpa using congrArg List.toArray hxs
  have hts':c.argTypes = #[t,u]:=by simpa using congrArg List.toArray hts
  have hut:=qj hti ht hk;have huu:(∃ e',P.underlying u=some (.slice e'))\/P.underlying u=some .string:=by
   rcases hjk with⟨e',h⟩ | h
   ·exact .inl ⟨e',qj hti hu h⟩
   ·exact .inr (Ve hti hu h)
  have h1:Rep S (.sl .full 0 []) (a.eval x):=Rep.ev hf hg hx (by rfl);generalize hvx:a.eval x=vx at h1;cases h1 with
  | sl _ _ _ A c' b off uf hnc hA hus' hrr hφ hgg=>
   have hc0:0=c':=hgg;subst hc0;obtain⟨us,hus,hsrc⟩:=zkW hi hs h2 hp hone huu;have hS:=zu9 (ty:=o.type) hti hut he hsrc;have hos:(Builtin.firstCells k.sz 0 (.slice A 0 0)).run P S.w.drew = .ok ([]:List Value).toArray S.w.drew:=by
    cases A with
    | none=>simp[Builtin.firstCells]
    | some x=>simp[Builtin.firstCells,loadCells,loadCellsFrom]
   obtain⟨cap,zs,e',h3,h4,h5⟩:=hS.grow A 0 0 [] (by omega) (by rw[zBE];exact hb1) (by rw[zBE];exact hb2) hos;rw[zBE]at h3 h5;have hus2:RepL S ys ((([]++us).toArray++zs).toList.take ys.length):=by
    have e1:(([]++us).toArray++zs).toList=us++zs.toList:=by simp
    rw[e1,<- hus.1,List.take_left];exact hus
   obtain⟨S',hw,he',hinv,hmu,hnx⟩:=zgr hi ys _ e' (SameW.drew S.w) hus2;refine Yields.mem (S':=S') (kH c ho hb ?_) he' hinv (.ref st.nx 0 m J4 k.sz _ cap hnx hmu (.inr ⟨zR _,h3,by unfold J4;omega⟩));rw[hxs',hts',show #[x,y].map a.eval = #[a.eval x,a.eval y]from by simp,hvx,hw];exact h5
 ·simp at h
theorem zs4{t tx ty e:Nat}{k:TI}(hti:yS P ti)(hu:P.underlying t=some (.slice e)){ik:IntKind}(hux:P.underlying tx=some (.int ik))(hk:ti e=some k)(hs:0<k.sz){q:Int}(hq0:0<=q)(hq1:q<=140737488355328)
  (hqb:q.toNat*k.bytes<=140737488355328) (hone:yd k.z=true) (w:World) :
  ∃ us,RepL S (rep q.toNat k.z) us/\zzq P t tx ty (.int .i64 q) k.sz k.bytes q.toNat us w:=by
 obtain⟨d,inf,z,h1,h2,h3,h4,h5,h6,h7,h8⟩:=Yp hti hk;have hz:=RepL.ofVL S h8;have hzl:k.z.length=k.sz:=by have:=hz.1;simp at this;omega
 have hzr:RepL S (rep q.toNat k.z) (Builtin.zeroCells z.cells q.toNat).toList:=zd3 hz q.toNat _ (by rw[h7,hzl]);have hul:(Builtin.zeroCells z.cells q.toNat).toList.length=q.toNat*k.sz:=by simp[size_zeroCells,h7]
 have hrone:yd (rep q.toNat k.z)=true:=by rw[zi1]at hone ⊢;intro d hd;unfold rep at hd;simp only[List.mem_flatten,List.mem_replicate]at hd;obtain⟨l,⟨_,rfl⟩,hd⟩:=hd;exact hone d hd
 have hw64:IntKind.i64.wrap q=q:=by
  have e1:(2:Int)^IntKind.i64.bits=18446744073709551616:=by decide
  have e2:(2:Int)^(IntKind.i64.bits-1)=9223372036854775808:=by decide
  simp only[IntKind.wrap,e1,e2];rw[zBt]
  ·omega
  ·simp only[zG,zCb];omega
 have hbl : ¬ 281474976710656<q*(inf.bytes:Int):=by
  rw[h6];have:q*(k.bytes:Int)=((q.toNat*k.bytes:Nat):Int):=by rw[Int.natCast_mul,Int.toNat_of_nonneg hq0]
  rw[this];omega
 have hq0' : ¬ q<0:=by omega
 -- what is put behind
 have happ : ∀ w':World,(if q.toNat*k.sz=0 then pure #[]else do pure (Builtin.zeroCells (<- zeroValue e).cells q.toNat):Sem (Array Value)).run P w' = .ok (Builtin.zeroCells z.cells q.toNat) w':=by
  intro w';split
  ·next hq=>
   have hq':q.toNat=0:=by rcases Nat.mul_eq_zero.1 hq with h | h<;>omega
   rw[hq'];simp[Builtin.zeroCells]
  ·simp[zeroValue,typeInfo,h2,h3]
 refine⟨_,hzr,hul,hzr.oneCells hrone,?_,?_,?_⟩
 ·intro b off n c cs e' hh hroom hle;have h3':=run_storeCells_at (P:=P) b (off+n*k.sz) e' (Builtin.zeroCells z.cells q.toNat).toList 0 cs w hh (by simpa using hle) (hzr.oneCells hrone);simp only[zBF]at h3';unfold Builtin.append_;simp only[List.getElem?_toArray,zM,zN,Sem.run_bind,run_underlying hu,run_underlying hux,qd hti hk,Result.andThen_ok];simp only[asInt,asIntOf,hw64,typeInfo,h2,hq0',hroom,addr_add,ne_eq,Sem.run_bind,Sem.run_pure,Sem.run_ite,run_program,Result.andThen_ok,zBw,zBv,Result.andThen_ite,not_true,not_false_eq_true,gt_iff_lt];simp[asInt,asIntOf,hw64,typeInfo,h2,hq0',hbl,hroom,addr_add];have hzv:(zeroValue e).run P w = .ok z w:=by simp[zeroValue,typeInfo,h2,h3]
  by_cases hq:q.toNat*k.sz=0
  ·have hq':q.toNat=0:=by rcases Nat.mul_eq_zero.1 hq with h | h<;>omega
   have e0:(Builtin.zeroCells z.cells q.toNat).toList=[]:=by rw[hq'];simp[Builtin.zeroCells]
   have e1:(Builtin.zeroCells z.cells q.toNat).size=0:=by rw[hq'];simp[Builtin.zeroCells]
   rw[zBu hq];rw[e0]at h3';rw[h3',e0,e1];simp
  ·rw[zBt hq,hzv];simp only[Result.andThen_ok];rw[h3'];simp
 ·intro A n c hm hnc;have e0:(Builtin.zeroCells z.cells q.toNat).toList=[]:=by rw[hm];simp[Builtin.zeroCells]
  unfold Builtin.append_;simp only[List.getElem?_toArray,zM,zN,Sem.run_bind,run_underlying hu,run_underlying hux,qd hti hk,Result.andThen_ok];cases A<;>simp[asInt,asIntOf,hw64,typeInfo,h2,hq0',hbl,hm,hnc,storeCells]
 ·intro A n c os hlt hb1 hb2 hos;have hfit:Builtin.nextslicecap (n+q.toNat) c*inf.bytes<=281474976710656:=growslice_fits hlt (by rw[h6];exact hb1);refine⟨grownCap w (n+q.toNat) c e,Builtin.zeroCells z.cells (grownCap w (n+q.toNat) c e-(n+q.toNat)),e,grownCap_ge _ _ _ _,by rw[size_zeroCells,h7],?_⟩;have hn : ¬ (n+q.toNat<=c):=by omega
  have hmx : ¬ 9223372036854775807<(n:Int)+max q 0:=by omega
  have hf2 : ¬ 281474976710656<Builtin.nextslicecap (n+q.toNat) c*inf.bytes:=by omega
  unfold Builtin.append_;simp only[List.getElem?_toArray,zM,zN,Sem.run_bind,run_underlying hu,run_underlying hux,qd hti hk,Result.andThen_ok];simp[asInt,asIntOf,hw64,typeInfo,h2,hq0',hbl,hn,hmx,hf2,Question.forced,hos,zeroValue,h3,newRow,grownCap];have e0 : ∀ l:List Value,(os++(Builtin.zeroCells z.cells q.toNat).toList).toArray=os.toArray++Builtin.zeroCells z.cells q.toNat:=by intro _;apply Array.ext';simp
  rw[e0 []];by_cases hq:q.toNat*k.sz=0
  ·have hq':q.toNat=0:=by rcases Nat.mul_eq_zero.1 hq with h | h<;>omega
   have e1:Builtin.zeroCells z.cells q.toNat = #[]:=by rw[hq'];simp[Builtin.zeroCells]
   rw[zBu hq,e1];simp
  ·rw[zBt hq,Array.append_assoc]
theorem zA3(hti:yS P ti)(hi:Inv S st)(hf:FrameRep S st.tm a.tmps)(hg:GlOk S E)(c:Call)(ho:o.op = .call c)(hb:c.callee = .builtin .append){x y:Operand}(hxs:c.args.toList=[x,y]){t u:Nat}(hts:c.argTypes.toList=[t,u]){i j:TI}(ht:ti t=some i)(hu:ti u=some j)
  {e:Nat} (hk:i.k = .slice e) {k:TI} (he:ti e=some k) (hs:0<k.sz) {ik:IntKind} (hjk:j.k = .int ik) {x' y':X} (hx:trX x=some x') (hy:trX y=some y')
  {r:Option D} {st':St} (h:opD E st (.apz k.z k.bytes x' y')=some (r,st')):Yields P S a o r st':=by
 simp only[opD,zA]at h;obtain⟨d,hd,h⟩:=h;split at h
 ·next q hz=>
  split at h
  ·next hc=>
   obtain⟨hq0,hq1,hqb,hone⟩:=hc;simp only[zB,zBC]at h;obtain⟨⟨d',st2⟩,happ,rfl,rfl⟩:=h;have h1:=Rep.ev hf hg hx hd;have h2:=(Rep.ev hf hg hy hz).int_inv;have hxs':c.args = #[x,y]:=by simpa using congrArg List.toArray hxs
   have hts':c.argTypes = #[t,u]:=by simpa using congrArg List.toArray hts
   have hut:=qj hti ht hk;have huu:=zht hti hu hjk;have hzl:k.z.length=k.sz:=by obtain⟨d,inf,z,h1,h2,h3,h4,h5,h6,h7,h8⟩:=Yp hti he;have:=(RepL.ofVL S h8).1;simp at this;omega
   rw[hzl]at happ;obtain⟨us,hus,hsrc⟩:=zs4 (ty:=o.type) hti hut huu he hs hq0 hq1 hqb hone S.w;obtain⟨v',S',hrun,hext,hinv,hrep⟩:=zhb hi h1 hsrc hus happ;refine Yields.mem (kH c ho hb ?_) hext hinv hrep;rw[hxs',hts',show #[x,y].map a.eval = #[a.eval x,a.eval y]from by simp,h2];exact hrun
  ·simp at h
 ·simp at h
theorem zA4(hti:yS P ti)(hi:Inv S st)(hf:FrameRep S st.tm a.tmps)(hg:GlOk S E)(c:Call)(ho:o.op = .call c)(hb:c.callee = .builtin .copy){x y:Operand}(hxs:c.args.toList=[x,y]){t:Nat}{ts:List Nat}(hts:c.argTypes.toList=t::ts){i:TI}(ht:ti t=some i)
  {e:Nat} (hk:i.k = .slice e) {k:TI} (he:ti e=some k) (hs:0<k.sz) {x' y':X} (hx:trX x=some x') (hy:trX y=some y')
  {r:Option D} {st':St} (h:opD E st (.cpy k.sz x' y')=some (r,st')):Yields P S a o r st':=by
 simp only[opD,zA]at h;obtain⟨d,hd,z,hz,⟨m,ys⟩,hp,h⟩:=h;have h1:=Rep.ev hf hg hx hd;have h2:=Rep.ev hf hg hy hz;have hxs':c.args = #[x,y]:=by simpa using congrArg List.toArray hxs
 obtain⟨w2,hts2⟩ : ∃ w2,c.argTypes=(t::w2).toArray:=⟨ts,by simpa using congrArg List.toArray hts⟩
 have hut:=qj hti ht hk;obtain⟨e1,e2,e3⟩:=J8 (P:=P) hi hs h2 hp;split at h
 ·next kk off n cc s'=>
  split at h
  ·next hc=>
   obtain⟨rfl,hml⟩:=hc;simp only[zB,zBC]at h;obtain⟨st2,hst,rfl,rfl⟩:=h;unfold storeD at hst;split at hst
   ·next xs hm=>
    split at hst
    ·next hc2=>
     injection hst with hst;subst hst;generalize hv:a.eval x=v at h1;cases h1 with
     | ref _ _ _ _ _ b _ hk2 hb2 _=>obtain⟨us,e4,e5⟩:=e3 (Nat.min m n) (Nat.min_le_left _ _);obtain⟨c',e',hh,hle,S',hw,hext,hinv⟩:=zgF hi hm hb2 off (ys.take (Nat.min m n*k.sz)) us hc2.1 e5;refine Yields.mem (v:=goInt (Nat.min m n:Nat)) (VO c ho hb ?_) hext hinv (.int .i64 _);rw[hxs',hts2,show #[x,y].map a.eval = #[a.eval x,a.eval y]from by simp,hv];have h3:=run_storeCells_at (P:=P) b off e' us 0 c' S.w hh (by simpa using hle) (e5.oneCells hc2.2);simp only[zBF]at h3;have e4':=e4 S.w rfl;simp[Builtin.copy_,run_underlying hut,e2,qd hti he,e4',h3,hw]
    ·simp at hst
   ·simp at hst
  ·simp at h
 ·simp only[zBB,zBC]at h;obtain⟨rfl,rfl⟩:=h;generalize hv:a.eval x=v at h1;cases h1 with
  | sl _ _ _ A c' b off us hc hA hus hr hφ hgg=>
   obtain⟨us,e4,e5⟩:=e3 0 (Nat.zero_le _);have hus0:us=[]:=by have:=e5.1;simp at this;exact this
   subst hus0;refine Yields.val (v:=goInt (0:Nat)) (VO c ho hb ?_) hi (.int .i64 0);rw[hxs',hts2,show #[x,y].map a.eval = #[a.eval x,a.eval y]from by simp,hv];have e4':=e4 S.w rfl;cases A<;>simp[Builtin.copy_,run_underlying hut,e2,qd hti he,e4',storeCells]
 ·simp at h
end
end
end Go.Ev
end
