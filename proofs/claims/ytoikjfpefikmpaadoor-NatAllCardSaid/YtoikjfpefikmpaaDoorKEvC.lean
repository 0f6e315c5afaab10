/- The machines Ev and Pv, part 3: an abstract machine over the translated code, proved sound once. -/
import Derived.Test.YtoikjfpefikmpaaDoorKEvB
set_option linter.all false
open Option renaming bind_eq_some_iff→zA,map_eq_some_iff→zB,map_some→zC,bind_some→zD
open Bool renaming false_eq_true→zF,and_eq_true→zG
open Nat renaming eq_of_beq_eq_true→zJ,lt_of_lt_of_le→zK,le_refl→zR,le_of_ble_eq_true→zT,mul_le_mul_right→zW
open List renaming getElem?_eq_getElem→zL,drop_eq_getElem_cons→zO,mem_cons_of_mem→zP,mem_cons→zS,drop_zero→zU,take_of_length_le→zV,length_append→zZ
section
namespace Go.Ev
/- drq: as drw; what may stand in any order writes no object: it is looked at operation by operation -/
/-- an operation; a value that is boxed, so many cells; operations under one guard and the choice behind them -/
inductive PO where
 | nil
 | one (o:OpC) (r:PO)
 | box (n dst:Nat) (x:X) (r:PO)
 | grp (c:Nat) (w:Bool) (ops:PO) (dst:Nat) (a b:X) (r:PO)
inductive PEx where
 | nrm | ext (id:Nat) | ret
/-- how a slot or a cell is kept: as a value; as a slice that may be appended to; an address; a slice into a row; untouched -/
inductive Kd where
 | v | own (sz:Nat) | ptr (k off:Nat) | ref (k sz:Nat) (z:Bool) | same
inductive RK where
 | same | dead | box (n:Nat) | cells (l:List Kd) | arr (fz:Fz) (sz:Nat) | iter | bld (t e:Nat)
structure Sh where
 slots:List (Nat×Kd)
 rows:List RK
inductive PC where
 | skip
 | reg (ops:PO) (keep:List Nat)
 | drw (a0 a1 b:PO) (keep:List Nat)
 | drq (a0 a1 b:PO) (keep:List Nat)
 | seq (a b:PC)
 | cond (c:X) (a b:PC)
 | blk (id:Nat) (c:PC)
 | loop (h:Sh) (xs:List (PEx×Sh)) (c:PC)
 | cut (h:Sh) (xs:List (PEx×Sh)) (c:PC)
 | exit (id:Nat)
 | ret
structure PFn where
 res:List R
 body:PC
def pickO(c:Nat)(w:Bool)(a b:X):O:=match w with | true => .pick (.s c) a b | false => .pick (.s c) b a
def regd(g:Option (Nat×Bool))(o:OpC):OpC:=match o.gd with | none=>⟨o.dst,o.op,g⟩ | some _=>o
def eraseG(g:Option (Nat×Bool)):PO→List OpC
 | .nil=>[]
 | .one o r=>regd g o::eraseG g r
 | .box _ dst x r=>⟨some dst,.box x,g⟩::eraseG g r
 | .grp c w ops dst a b r=>eraseG (some (c,w)) ops++⟨some dst,pickO c w a b,g⟩::eraseG g r
def eraseO(l:PO):List OpC:=eraseG none l
def erase:PC→C
 | .skip => .skip
 | .reg ops keep => .reg (eraseO ops) keep
 | .drw a0 a1 b keep => .drw (eraseO a0) (eraseO a1) (eraseO b) keep
 | .drq a0 a1 b keep => .drw (eraseO a0) (eraseO a1) (eraseO b) keep
 | .seq a b => .seq (erase a) (erase b)
 | .cond c a b => .cond c (erase a) (erase b)
 | .blk id c => .blk id (erase c)
 | .loop _ _ c => .loop (erase c)
 | .cut _ _ c=>erase c
 | .exit id => .exit id
 | .ret => .ret
def eqFz:Fz→Fz→Bool
 | .no,.no=>true
 | .may,.may=>true
 | .yes,.yes=>true
 | _,_=>false
def getF:PTm→Nat→Option (Bool×PD)
 | [],_=>none
 | (i,f,d)::r,t=>match Nat.beq i t with | true=>some (f,d) | false=>getF r t
def V.elems:V→List V
 | .sl xs=>xs
 | _=>[]
def natV:V→Nat
 | .int _ n=>n.toNat
 | _=>0
def txtV:V→List UInt8
 | .str s=>s
 | _=>[]
def vec(l:List V)(i:Nat):V:=l.getD i .nilp
def hasOwnL:List PS→Bool
 | []=>false
 | .own _ _ _::_=>true
 | _::r=>hasOwnL r
def PD.hasOwn:PD→Bool
 | .s q=>hasOwnL [q]
 | .agg ps=>hasOwnL ps
def RowC.hasOwn:RowC→Bool
 | .cells ps=>hasOwnL ps
 | _=>false
section
variable {ρ:Type}
/- what is kept, as values: ids are the lineages that are kept already -/
def encS(m:Nat)(kd:Kd)(q:PS)(ids:List Nat)(K:List V→List Nat→Option ρ):Option ρ:=
 match kd with
 | .v=>match q.pure with | some x=>K [x] ids | none=>none
 | .own sz=>match q with
  | .own id sz' xs=>match Nat.beq sz sz' && !hasB ids id with | true=>K [.sl xs] (id::ids) | false=>none
  | .full xs=>tst (szOk sz xs) (K [.sl xs] ids)
  | _=>none
 | .ptr k off=>match q with
  | .ptr k' off'=>match Nat.beq k k' && Nat.beq off off' && Nat.blt k m with | true=>K [] ids | false=>none
  | _=>none
 | .ref k sz z=>match q with
  | .ref k' sz' off n c z'=>match Nat.beq k k' && Nat.beq sz sz' && Nat.blt k m && (z == z')with | true=>K [.int .i64 off,.int .i64 n,.int .i64 c] ids | false=>none
  | _=>none
 | .same=>none
def encL(m:Nat):List Kd→List PS→List Nat→(List V→List Nat→Option ρ)→Option ρ
 | [],[],ids,K=>K [] ids
 | kd::r,q::s,ids,K=>encS m kd q ids fun l ids=>encL m r s ids fun l' ids=>K (l++l') ids
 | _,_,_,_=>none
/-- strict: what is untouched must be marked so -/
def encT(strict:Bool)(m:Nat)(p:PSt):List (Nat×Kd)→List Nat→(List V→List Nat→Option ρ)→Option ρ
 | [],ids,K=>K [] ids
 | (t,kd)::r,ids,K=>match getF p.tm t with
  | some (f,d)=>match kd with
   | .same=>match(!strict || f) && !d.hasOwn with
    | true=>encT strict m p r ids K
    | false=>none
   | kd=>match f with
    | true=>none
    | false=>match d with
     | .s q=>encS m kd q ids fun l ids=>encT strict m p r ids fun l' ids=>K (l++l') ids
     | .agg ps=>match kd with
      | .v=>match pureL' ps with | some x=>encT strict m p r ids fun l' ids=>K (.agg x::l') ids | none=>none
      | _=>none
  | none=>none
def encR(strict:Bool)(m:Nat):List RK→List Row→List Nat→(List V→List Nat→Option ρ)→Option ρ
 | [],[],ids,K=>K [] ids
 | [],_::_,ids,K=>match strict with | true=>K [] ids | false=>none
 | rk::r,⟨f,c⟩::s,ids,K=>match rk with
  | .same=>match(!strict || f) && !c.hasOwn with
   | true=>encR strict m r s ids K
   | false=>none
  | .dead=>match f with | true=>none | false=>encR strict m r s ids K
  | .box n=>match f with
   | true=>none
   | false=>match c with
    | .box n' x=>match Nat.beq n n' with | true=>encR strict m r s ids fun l ids=>K (x::l) ids | false=>none
    | .cells ps=>match Nat.beq n ps.length && Nat.blt 1 n with
     | true=>match pureL' ps with | some l=>encR strict m r s ids fun l' ids=>K (.agg l::l') ids | none=>none
     | false=>none
    | _=>none
  | .cells kds=>match f with
   | true=>none
   | false=>match c with
    | .cells ps=>encL m kds ps ids fun l ids=>encR strict m r s ids fun l' ids=>K (l++l') ids
    | .box n x=>cellsFrom x 0 n fun ps=>encL m kds ps ids fun l ids=>encR strict m r s ids fun l' ids=>K (l++l') ids
    | _=>none
  | .arr fz sz=>match f with
   | true=>none
   | false=>match c with
    | .arr fz' sz' xs=>match Nat.beq sz sz' && eqFz fz fz' with | true=>encR strict m r s ids fun l ids=>K (.sl xs::l) ids | false=>none
    | _=>none
  | .iter=>match f with
   | true=>none
   | false=>match c with
    | .iter x n=>encR strict m r s ids fun l ids=>K (.str x :: .int .i64 (n:Int)::l) ids
    | _=>none
  | .bld t e=>match f with
   | true=>none
   | false=>match c with
    | .bld t' e' x=>match Nat.beq t t' && Nat.beq e e' with | true=>encR strict m r s ids fun l ids=>K (.str x::l) ids | false=>none
    | _=>none
 | _::_,[],_,_=>none
def encK(strict:Bool)(sh:Sh)(p:PSt)(K:(Nat→V)→Option ρ):Option ρ:=
 encT strict sh.rows.length p sh.slots [] fun l ids=>encR strict sh.rows.length sh.rows p.rows ids fun l' _=>K (vec (l++l'))
end
/- and back: i: the next value, ni: the next lineage -/
def decS(kd:Kd)(v:Nat→V)(i ni:Nat):PS×Nat×Nat:=
 match kd with
 | .v=>(.v (v i),i+1,ni)
 | .own sz=>(.own ni sz (v i).elems,i+1,ni+1)
 | .ptr k off=>(.ptr k off,i,ni)
 | .ref k sz z=>(.ref k sz (natV (v i)) (natV (v (i+1))) (natV (v (i+2))) z,i+3,ni)
 | .same=>(.v .nilp,i,ni)
def decL(v:Nat→V)(i ni:Nat):List Kd→List PS×Nat×Nat
 | []=>([],i,ni)
 | kd::r=>((decS kd v i ni).1::(decL v (decS kd v i ni).2.1 (decS kd v i ni).2.2 r).1,(decL v (decS kd v i ni).2.1 (decS kd v i ni).2.2 r).2)
/-- head: what is untouched is marked so -/
def decT(head:Bool)(p:PSt)(v:Nat→V)(i ni:Nat):List (Nat×Kd)→Option (PTm×Nat×Nat)
 | []=>some ([],i,ni)
 | (t,.same)::r=>match getF p.tm t with
  | some (f,d)=>match decT head p v i ni r with | some (l,q)=>some ((t,head || f,d)::l,q) | none=>none
  | none=>none
 | (t,kd)::r=>match decT head p v (decS kd v i ni).2.1 (decS kd v i ni).2.2 r with | some (l,q)=>some ((t,false,.s (decS kd v i ni).1)::l,q) | none=>none
def decR(head:Bool)(v:Nat→V)(i ni:Nat):List RK→List Row→Option (List Row×Nat×Nat)
 | [],[]=>some ([],i,ni)
 | rk::r,⟨f,c⟩::s=>match rk with
  | .same=>match decR head v i ni r s with | some (l,q)=>some (⟨head || f,c⟩::l,q) | none=>none
  | .dead=>match decR head v i ni r s with | some (l,q)=>some (⟨false,.dead⟩::l,q) | none=>none
  | .box n=>match decR head v (i+1) ni r s with | some (l,q)=>some (⟨false,.box n (v i)⟩::l,q) | none=>none
  | .cells kds=>match decR head v (decL v i ni kds).2.1 (decL v i ni kds).2.2 r s with | some (l,q)=>some (⟨false,.cells (decL v i ni kds).1⟩::l,q) | none=>none
  | .arr fz sz=>match decR head v (i+1) ni r s with | some (l,q)=>some (⟨false,.arr fz sz (v i).elems⟩::l,q) | none=>none
  | .iter=>match decR head v (i+2) ni r s with | some (l,q)=>some (⟨false,.iter (txtV (v i)) (natV (v (i+1)))⟩::l,q) | none=>none
  | .bld t e=>match decR head v (i+1) ni r s with | some (l,q)=>some (⟨false,.bld t e (txtV (v i))⟩::l,q) | none=>none
 | _,_=>none
def dec(head:Bool)(sh:Sh)(p:PSt)(v:Nat→V):Option PSt:=
 match decT head p v 0 0 sh.slots with
 | some (tm,i,ni)=>match decR head v i ni sh.rows p.rows with
  | some (rows,_,ni)=>some ⟨tm,rows,ni,p.lim⟩
  | none=>none
 | none=>none
def loopM{α β:Type}(f:α→Option (α ⊕ β)):Nat→α→Option β
 | 0,_=>none
 | n+1,a=>match f a with
  | some (.inl a')=>loopM f n a'
  | some (.inr b)=>some b
  | none=>none
noncomputable def loopL{α β:Type}(f:α→Option (α ⊕ β))(a:α):Option β:=open Classical in
 if h : ∃ n b,loopM f n a=some b then some h.choose_spec.choose else none
def PS.sealOf:PS→PS
 | .own _ _ xs => .v (.sl xs)
 | q=>q
def sealL:List PS→List PS
 | []=>[]
 | q::r=>q.sealOf::sealL r
def PD.sealOf:PD→PD
 | .s q => .s q.sealOf
 | .agg ps => .agg (sealL ps)
def sealT:PTm→PTm
 | []=>[]
 | (i,f,d)::r=>(i,f,d.sealOf)::sealT r
def sealR:List Row→List Row
 | []=>[]
 | ⟨_,.cells ps⟩::r=>⟨true,.cells (sealL ps)⟩::sealR r
 | ⟨_,c⟩::r=>⟨true,c⟩::sealR r
def PSt.sealOf(p:PSt):PSt:=⟨sealT p.tm,sealR p.rows,p.ni,p.lim⟩
/-- slots that are written -/
def dstsP:PO→List Nat
 | .nil=>[]
 | .one o r=>(match o.dst with | some t=>[t] | none=>[])++dstsP r
 | .box _ dst _ r=>dst::dstsP r
 | .grp _ _ ops dst _ _ r=>dstsP ops++dst::dstsP r
/-- no slot that is held is written -/
def freshD(tm:PTm):List Nat→Bool
 | []=>true
 | t::r=>(match getF tm t with | some _=>false | none=>true) && freshD tm r
/-- groups within are guarded by what is done within -/
def nestO(W:List Nat):PO→Bool
 | .nil=>true
 | .one o r=>(match o.gd with | none=>true | some _=>false) && nestO ((match o.dst with | some t=>[t] | none=>[])++W) r
 | .box _ dst _ r=>nestO (dst::W) r
 | .grp c _ ops dst _ _ r=>hasB W c && nestO [] ops && nestO (dst::W) r
def setP(p:PSt)(dst:Option Nat)(r:Option PD):Option PSt:=
 match dst with
 | none=>some p
 | some t=>match r with
  | some d=>match putP p.tm t d with | some tm=>some { p with tm:=tm } | none=>none
  | none=>match delP p.tm t with | some tm=>some { p with tm:=tm } | none=>none
def still(md:Nat→Md):O→Bool
 | .call f _=>match md f with | .raw _=>false | _=>true
 | .alloc _ | .box _ | .store _ _ _ | .mks _ _ _ _ | .cpy _ _ _ | .nbl _ _ | .rng _ | .nxt _ | .pan _=>false
 | _=>true
def stillL(md:Nat→Md):PO→Bool
 | .nil=>true
 | .one o r=>still md o.op && stillL md r
 | .box _ _ _ _=>false
 | .grp _ _ ops _ _ _ r=>stillL md ops && stillL md r
/-- an operation that changes nothing but its slot -/
def quiet:O→Bool
 | .alloc _ | .box _ | .store _ _ _ | .mks _ _ _ _ | .app _ _ _ _ | .apz _ _ _ _ | .cpy _ _ _ | .nbl _ _ | .rng _ | .nxt _ | .pan _ | .call _ _ | .callv _ _=>false
 | _=>true
/-- values, or what goes over as such -/
def plainS:PS→Bool
 | .v _ | .own _ _ _ | .full _=>true
 | _=>false
def plainPS:List PS→Bool
 | []=>true
 | q::r=>plainS q && plainPS r
def plainL:List PD→Bool
 | []=>true
 | .s q::r=>plainS q && plainL r
 | .agg ps::r=>plainPS ps && plainL r
/-- it writes no object -/
def qOk(gl:Gl)(p:PSt):O→Bool
 | .app _ _ s _=>match evH gl p s with | some (.s q)=>(match q with | .own _ _ _=>true | .full _=>true | _=>false) | _=>false
 | .apz _ _ s _=>match evH gl p s with | some (.s q)=>(match q with | .own _ _ _=>true | .full _=>true | _=>false) | _=>false
 | .call f xs=>match gl.md f with | .pl=>(match evHL gl p xs with | some ds=>plainL ds | none=>false) | _=>false
 | o=>quiet o
/-- a row of so many cells that hold a value -/
def cellsK1{ρ:Type}(n:Nat)(d:PD)(K:RowC→Option ρ):Option ρ:=
 match Nat.blt 1 n with
 | true=>match d with
  | .s (.v x)=>tst (okN n x) (K (.box n x))
  | d=>cellsK n d fun cs=>K (.cells cs)
 | false=>cellsK n d fun cs=>K (.cells cs)
section
variable {ρ:Type} (gl:Gl) (pc:PcT)
def pone(o:OpC)(p:PSt)(K:PSt→Option ρ):Option ρ:=
 match o.gd with
 | none=>popK gl pc p o.op fun r p'=>match setP p' o.dst r with | some p''=>K p'' | none=>none
 | some (t,b)=>match evV gl p (.s t)with
  | some c=>(asBool c).bind fun c=>if c=b then(popK gl pc p o.op fun r p'=>match setP p' o.dst r with | some p''=>K p'' | none=>none)
   else(match setP p o.dst none with | some p''=>K p'' | none=>none)
  | none=>none
def prunK:{ρ:Type}→PO→PSt→(PSt→Option ρ)→Option ρ
 | _,.nil,p,K=>K p
 | _,.one o r,p,K=>pone gl pc o p fun p'=>prunK r p' K
 | _,.box n dst x r,p,K=>match evH gl p x with
  | some d=>cellsK1 n d (fun c=>match setP (p.newR c) (some dst) (some (.s (.ptr p.rows.length 0)))with | some p'=>prunK r p' K | none=>none)
  | none=>none
 | _,.grp c w ops dst a b r,p,K=>match evV gl p (.s c)with
  | some c=>match evH gl p b with
   | some b=>match b.pureV with
    | some b=>match freshD p.tm (dstsP ops) && nestO [] ops with
     | true=>(asBool c).bind fun c=>
      ((if c=w then prunK ops p.sealOf fun p'=>match evH gl p' a with | some d=>d.pureV | none=>none else some b):Option V).bind fun x=>
      match setP p (some dst) (some (.s (.v x)))with | some p'=>prunK r p' K | none=>none
     | false=>none
    | none=>none
   | none=>none
  | none=>none
def prunA:{ρ:Type}→PO→PSt→(PSt→Option ρ)→Option ρ
 | _,.nil,p,K=>K p
 | _,.one o r,p,K=>match o.gd with
  | none=>match qOk gl p o.op with
   | true=>pone gl pc o p fun p'=>prunA r p' K
   | false=>none
  | some _=>none
 | _,_,_,_=>none
def findX:List (PEx×Sh)→PEx→Nat→Option (Nat×Sh)
 | [],_,_=>none
 | (.nrm,sh)::r,x,j=>match x with | .nrm=>some (j,sh) | x=>findX r x (j+1)
 | (.ret,sh)::r,x,j=>match x with | .ret=>some (j,sh) | x=>findX r x (j+1)
 | (.ext i,sh)::r,x,j=>match x with
  | .ext i'=>match Nat.beq i i' with | true=>some (j,sh) | false=>findX r (.ext i') (j+1)
  | x=>findX r x (j+1)
def dspK(p:PSt)(v:Nat→V)(K:PEx→PSt→Option ρ):List (PEx×Sh)→Nat→Option ρ
 | [],_=>none
 | [(x,sh)],_=>match dec false sh p v with | some p'=>K x p' | none=>none
 | (x,sh)::r,j=>if j=0 then(match dec false sh p v with | some p'=>K x p' | none=>none)else dspK p v K r (j - 1)
noncomputable def pexecK:{ρ:Type}→PC→PSt→(PEx→PSt→Option ρ)→Option ρ
 | _,.skip,p,K=>K .nrm p
 | _,.reg ops keep,p,K=>prunK gl pc ops p fun p'=>K .nrm { p' with tm:=keptP keep p'.tm }
 | _,.drw a0 a1 b keep,p,K=>prunK gl pc a0 p fun p0=>match stillL gl.md a1 with
  | true=>prunK gl pc a1 { p0 with rows:=sealR p0.rows,lim:=p0.ni } fun p1=>prunK gl pc b { p1 with rows:=p0.rows,lim:=p0.lim } fun p'=>K .nrm { p' with tm:=keptP keep p'.tm }
  | false=>none
 | _,.drq a0 a1 b keep,p,K=>prunK gl pc a0 p fun p0=>prunA gl pc a1 p0 fun p1=>prunK gl pc b p1 fun p'=>K .nrm { p' with tm:=keptP keep p'.tm }
 | _,.seq a b,p,K=>pexecK a p fun x p'=>match x with | .nrm=>pexecK b p' K | .ext i=>K (.ext i) p' | .ret=>K .ret p'
 | _,.cond c a b,p,K=>match evV gl p c with
  | some c=>(asBool c).bind fun c=>if c=true then pexecK a p K else pexecK b p K
  | none=>none
 | _,.blk id c,p,K=>pexecK c p fun x p'=>match x with
  | .nrm=>K .nrm p'
  | .ext i=>match Nat.beq i id with | true=>K .nrm p' | false=>K (.ext i) p'
  | .ret=>K .ret p'
 | _,.loop h xs c,p,K=>encK false h p fun v0=>
  (loopL (fun v:Nat→V=>match dec true h p v with
   | some pv=>pexecK c pv fun x p'=>match x with
    | .nrm=>encK true h p' fun v'=>some (.inl v')
    | .ext i=>match findX xs (.ext i) 0 with | some (j,sh)=>encK true sh p' fun v'=>some (.inr (j,v')) | none=>none
    | .ret=>match findX xs .ret 0 with | some (j,sh)=>encK true sh p' fun v'=>some (.inr (j,v')) | none=>none
   | none=>none) v0).bind fun o:Nat×(Nat→V)=>dspK p o.2 K xs o.1
 | _,.cut h xs c,p,K=>encK false h p fun v0=>match dec true h p v0 with
  | some pv=>(pexecK c pv fun x p'=>match findX xs x 0 with | some (j,sh)=>encK true sh p' fun v'=>some (j,v') | none=>none).bind fun o:Nat×(Nat→V)=>dspK p o.2 K xs o.1
  | none=>none
 | _,.exit id,p,K=>K (.ext id) p
 | _,.ret,p,K=>K .ret p
end
def argD:PA→PD
 | .v x => .s (.v x)
 | .p j off => .s (.ptr j off)
 | .fn f cap => .s (.fn f cap)
 | .o sz xs => .s (.own 0 sz xs)
 | .g => .s (.v .nilp)
 | .u => .s (.v .nilp)
def argsT(i:Nat):List PA→PTm
 | []=>[]
 | a::r=>(i,false,argD a)::argsT (i+1) r
def parsR:List (Bool×Nat×V)→List Row
 | []=>[]
 | (ro,n,x)::r=>⟨ro,parC n x⟩::parsR r
def enterP(as:List PA)(pars:List (Bool×Nat×V)):PSt:=⟨argsT 0 as,parsR pars,1,0⟩
def resK{ρ:Type}(p:PSt):List R→(List V→Option ρ)→Option ρ
 | [],K=>K []
 | .tmp t::r,K=>match getP p.tm t with
  | some d=>match d.outV p with | some x=>resK p r fun l=>K (x::l) | none=>none
  | none=>none
 | .cell t ag sz::r,K=>match getP p.tm t with
  | some a=>loadK p ag sz a fun d=>match d.outV p with | some x=>resK p r fun l=>K (x::l) | none=>none
  | none=>none
def oneV:List V→V
 | [x]=>x
 | l => .tup l
def parsOut(p:PSt):Nat→List (Bool×Nat×V)→Option (List V)
 | _,[]=>some []
 | j,(_,n,_)::r=>match rowR p j with
  | some c=>match rowV c with
   | some (n',x)=>match Nat.beq n' n with
    | true=>match parsOut p (j+1) r with | some l=>some (x::l) | none=>none
    | false=>none
   | none=>none
  | none=>none
def finK(res:List R)(pars:List (Bool×Nat×V))(x:PEx)(p:PSt):Option (V×List V):=
 match x with
 | .ext _=>none
 | _=>match parsOut p 0 pars with
  | some ys=>resK p res fun l=>some (oneV l,ys)
  | none=>none
/-- the result may be appended to -/
def finG(sz:Nat)(res:List R)(x:PEx)(p:PSt):Option (V×List V):=
 match x with
 | .ext _=>none
 | _=>match res with
  | [.tmp t]=>match getP p.tm t with
   | some (.s (.own _ sz' xs))=>match Nat.beq sz sz' with | true=>some (.sl xs,[]) | false=>none
   | some (.s (.full xs))=>tst (szOk sz xs) (some (.sl xs,[]))
   | _=>none
  | _=>none
/-- the result is told as it is -/
def finW(res:List R)(x:PEx)(p:PSt):Option (V×List V):=
 match x with
 | .ext _=>none
 | _=>match res with
  | [.tmp t]=>match getP p.tm t with
   | some d=>match d.pureV with | some y=>some (y,[]) | none=>none
   | none=>none
  | _=>none
noncomputable def bodyK(gl:Gl)(pc:PcT)(fn:PFn)(md:Md)(as:List PA)(pars:List (Bool×Nat×V)):Option (V×List V):=
 match md with
 | .pl=>pexecK gl pc fn.body (enterP as pars) (finK fn.res pars)
 | .gv sz=>match as with
  | .g::as=>match pars with | []=>pexecK gl pc fn.body (enterP as []) (finG sz fn.res) | _=>none
  | _=>none
 | .raw sz=>match as with
  | .o sz' xs::as=>match pars with
   | []=>match Nat.beq sz sz' with | true=>pexecK gl pc fn.body (enterP (.o sz' xs::as) []) (finW fn.res) | false=>none
   | _=>none
  | _=>none
 | .ful=>none
 | .gvf _=>none
 | .eff _=>none
def valsA:List PA→Option (List V)
 | []=>some []
 | .v x::r=>match valsA r with | some l=>some (x::l) | none=>none
 | _=>none
def extK(g:List V→Option V)(as:List PA)(pars:List (Bool×Nat×V)):Option (V×List V):=
 match pars with
 | []=>match valsA as with | some xs=>(g xs).bind fun y=>some (y,[]) | none=>none
 | _=>none
def tellK(g:List V→Option V)(md:Md)(as:List PA)(pars:List (Bool×Nat×V)):Option (V×List V):=
 match md with
 | .pl=>extK g as pars
 | .gv _=>none
 | .gvf _=>match as with
  | .g::as=>(extK g as pars).bind fun q=>match q.1 with | .sl []=>some q | _=>none
  | _=>none
 | .ful=>match as with
  | .u::as=>extK g as pars
  | _=>none
 | .raw _=>none
 | .eff _=>none
noncomputable def pcN(gl:Gl)(tab:Nat→Option PFn):Nat→PcT
 | 0=>fun _ _ _=>none
 | n+1=>fun f as pars=>match tab f with
  | some fn=>bodyK gl (pcN gl tab n) fn (gl.md f) as pars
  | none=>match gl.tx f with
   | some g=>tellK g (gl.md f) as pars
   | none=>none
/-- a call -/
noncomputable def pcL(gl:Gl)(tab:Nat→Option PFn):PcT:=fun f as pars=>open Classical in
 if h : ∃ n r,pcN gl tab n f as pars=some r then some h.choose_spec.choose else none
end Go.Ev
end
section
namespace Go.Ev
theorem cells_cl0(d:D):cl0L d.cells=d.cl0.cells:=by cases d<;>simp[D.cells,D.cl0,cl0L]
theorem toD_cells(x:V):x.toD.cells=toDL x.parts:=by cases x<;>simp[V.toD,D.cells,V.parts,toDL]
theorem oneCell_cl0{d:D}(h:d.cl0.oneCell=true):d.oneCell=true:=by cases d<;>simp_all [D.cl0,D.oneCell]
theorem one_toD{x:V}(h:x.one=true):x.toD.oneCell=true:=by cases x<;>simp_all [V.one,V.toD,D.oneCell]
theorem allOne_of{ds:List D}{xs:List V}(h:cl0L ds=toDL xs)(hx:allOneV xs=true):allOne ds=true:=by
 induction ds generalizing xs with
 | nil=>rfl
 | cons d r ih=>
  cases xs with
  | nil=>simp[cl0L,toDL]at h
  | cons x s=>
   simp only[cl0L,toDL,List.cons.injEq]at h
   simp only[allOneV,zG]at hx
   simp only[allOne,zG]
   exact⟨oneCell_cl0 (by rw[h.1];exact one_toD hx.1),ih h.2 hx.2⟩
theorem toDL_len(xs:List V):(toDL xs).length=xs.length:=by induction xs<;>simp_all [toDL]
theorem toDL_get(xs:List V)(i:Nat):(toDL xs)[i]?=(xs[i]?).map V.toD:=by
 induction xs generalizing i with
 | nil=>simp[toDL]
 | cons x r ih=>cases i<;>simp_all [toDL]
theorem toDL_append(xs ys:List V):toDL (xs++ys)=toDL xs++toDL ys:=by induction xs<;>simp_all [toDL]
theorem toDL_take(xs:List V)(i:Nat):(toDL xs).take i=toDL (xs.take i):=by
 induction xs generalizing i with
 | nil=>simp[toDL]
 | cons x r ih=>cases i<;>simp_all [toDL]
theorem toDL_drop(xs:List V)(i:Nat):(toDL xs).drop i=toDL (xs.drop i):=by
 induction xs generalizing i with
 | nil=>simp[toDL]
 | cons x r ih=>cases i<;>simp_all [toDL]
theorem cl0L_append(xs ys:List D):cl0L (xs++ys)=cl0L xs++cl0L ys:=by induction xs<;>simp_all [cl0L]
theorem cl0L_take(xs:List D)(i:Nat):cl0L (xs.take i)=(cl0L xs).take i:=by
 induction xs generalizing i with
 | nil=>simp[cl0L]
 | cons x r ih=>cases i<;>simp_all [cl0L]
theorem cl0L_drop(xs:List D)(i:Nat):cl0L (xs.drop i)=(cl0L xs).drop i:=by
 induction xs generalizing i with
 | nil=>simp[cl0L]
 | cons x r ih=>cases i<;>simp_all [cl0L]
theorem flatD_append(xs ys:List V):flatD (xs++ys)=flatD xs++flatD ys:=by induction xs<;>simp_all [flatD]
theorem szOk_append(sz:Nat)(xs ys:List V):szOk sz (xs++ys)=(szOk sz xs && szOk sz ys):=by
 induction xs with
 | nil=>simp[szOk]
 | cons x r ih=>simp[szOk,ih,Bool.and_assoc]
theorem szOk_cons{sz:Nat}{x:V}{r:List V}:szOk sz (x::r)=true↔okN sz x=true∧szOk sz r=true:=by simp[szOk]
theorem szOk_take{sz:Nat}{xs:List V}(h:szOk sz xs=true)(i:Nat):szOk sz (xs.take i)=true:=by
 induction xs generalizing i with
 | nil=>simp[szOk]
 | cons x r ih=>cases i with
  | zero=>simp[szOk]
  | succ i=>rw[List.take_succ_cons];exact szOk_cons.2 ⟨(szOk_cons.1 h).1,ih (szOk_cons.1 h).2 i⟩
theorem szOk_drop{sz:Nat}{xs:List V}(h:szOk sz xs=true)(i:Nat):szOk sz (xs.drop i)=true:=by
 induction xs generalizing i with
 | nil=>simp[szOk]
 | cons x r ih=>cases i with
  | zero=>exact h
  | succ i=>rw[List.drop_succ_cons];exact ih (szOk_cons.1 h).2 i
theorem szOk_get{sz:Nat}{xs:List V}(h:szOk sz xs=true){i:Nat}{x:V}(hi:xs[i]?=some x):okN sz x=true:=by
 induction xs generalizing i with
 | nil=>simp at hi
 | cons y r ih=>cases i with
  | zero=>simp at hi;subst hi;exact(szOk_cons.1 h).1
  | succ i=>exact ih (szOk_cons.1 h).2 (by simpa using hi)
theorem szOk_set{sz:Nat}{xs:List V}(h:szOk sz xs=true){i:Nat}{x:V}(hx:okN sz x=true):szOk sz (xs.set i x)=true:=by
 induction xs generalizing i with
 | nil=>simp[szOk]
 | cons y r ih=>cases i with
  | zero=>exact szOk_cons.2 ⟨hx,(szOk_cons.1 h).2⟩
  | succ i=>exact szOk_cons.2 ⟨(szOk_cons.1 h).1,ih (szOk_cons.1 h).2⟩
theorem szOk_rep{sz n:Nat}{x:V}(hx:okN sz x=true):szOk sz (List.replicate n x)=true:=by
 induction n with
 | zero=>simp[szOk]
 | succ n ih=>rw[List.replicate_succ];exact szOk_cons.2 ⟨hx,ih⟩
theorem okN_len{n:Nat}{x:V}(h:okN n x=true):x.parts.length=n:=by
 simp only[okN,zG]at h;exact zJ h.1
theorem okN_one{n:Nat}{x:V}(h:okN n x=true):allOneV x.parts=true:=by simp only[okN,zG]at h;exact h.2
theorem okN_mk{n:Nat}{x:V}(h:x.parts.length=n)(k:allOneV x.parts=true):okN n x=true:=by
 simp only[okN,zG];exact⟨by rw[h];exact Nat.beq_refl n,k⟩
theorem flatD_len{sz:Nat}{xs:List V}(h:szOk sz xs=true):(flatD xs).length=xs.length * sz:=by
 induction xs with
 | nil=>simp[flatD]
 | cons x r ih=>
  simp only[flatD,zZ,List.length_cons]
  rw[ih (szOk_cons.1 h).2,toD_cells,toDL_len,okN_len (szOk_cons.1 h).1,Nat.add_mul,Nat.one_mul,Nat.add_comm]
theorem flatD_drop{sz:Nat}{xs:List V}(h:szOk sz xs=true)(i:Nat):(flatD xs).drop (i * sz)=flatD (xs.drop i):=by
 induction xs generalizing i with
 | nil=>simp[flatD]
 | cons x r ih=>cases i with
  | zero=>simp
  | succ i=>
   simp only[flatD,List.drop_succ_cons]
   have hl:(x.toD.cells).length=sz:=by rw[toD_cells,toDL_len,okN_len (szOk_cons.1 h).1]
   rw[show(i+1) * sz=sz+i * sz by rw[Nat.add_mul,Nat.one_mul,Nat.add_comm],← List.drop_drop]
   rw[← ih (szOk_cons.1 h).2,List.drop_left' hl]
theorem flatD_take{sz:Nat}{xs:List V}(h:szOk sz xs=true)(i:Nat):(flatD xs).take (i * sz)=flatD (xs.take i):=by
 induction xs generalizing i with
 | nil=>simp[flatD]
 | cons x r ih=>cases i with
  | zero=>simp[flatD]
  | succ i=>
   simp only[flatD,List.take_succ_cons]
   have hl:(x.toD.cells).length=sz:=by rw[toD_cells,toDL_len,okN_len (szOk_cons.1 h).1]
   rw[← ih (szOk_cons.1 h).2,show(i+1) * sz=sz+i * sz by rw[Nat.add_mul,Nat.one_mul,Nat.add_comm]]
   rw[List.take_append,hl,zV (by omega)]
   congr 2;omega
theorem flatD_at{xs:List V}{i:Nat}{x:V}(h:xs[i]?=some x):flatD (xs.drop i)=toDL x.parts++flatD (xs.drop (i+1)):=by
 have hi:i<xs.length:=by
  rcases Nat.lt_or_ge i xs.length with h' | h'
  ·exact h'
  ·rw[List.getElem?_eq_none h']at h;simp at h
 rw[zO hi]
 have:xs[i]=x:=by rw[zL hi]at h;injection h
 rw[this];simp[flatD,toD_cells]
theorem flatD_rep(n:Nat)(x:V):flatD (List.replicate n x)=rep n (toDL x.parts):=by
 induction n with
 | zero=>simp[flatD,rep]
 | succ n ih=>simp[List.replicate_succ,flatD,ih,rep,toD_cells]
theorem flatD_bytes(l:List UInt8):flatD (ofBytesV l)=ofBytes l:=by
 induction l with
 | nil=>rfl
 | cons b r ih=>simp_all [ofBytesV,ofBytes,flatD,V.toD,D.cells]
theorem szOk_bytes(l:List UInt8):szOk 1 (ofBytesV l)=true:=by
 induction l with
 | nil=>rfl
 | cons b r ih=>exact szOk_cons.2 ⟨rfl,ih⟩
/- nothing in a pure value is told in place -/
mutual
def D.noU:D→Bool
 | .und=>false
 | .sl _ _ xs=>noUL xs
 | .agg xs=>noUL xs
 | .tup xs=>noUL xs
 | .iface _ d=>d.noU
 | _=>true
def noUL:List D→Bool
 | []=>true
 | d::r=>d.noU && noUL r
end
mutual
theorem cl_of_noU(m:Mem) : ∀ d:D,d.cl0.noU=true→d.cl m=d.cl0∧d.refs=[]
 | .und,h=>by simp[D.cl0,D.noU]at h
 | .off,_=>⟨rfl,rfl⟩
 | .bool _,_=>⟨rfl,rfl⟩
 | .int _ _,_=>⟨rfl,rfl⟩
 | .float _ _,_=>⟨rfl,rfl⟩
 | .str _,_=>⟨rfl,rfl⟩
 | .nilp,_=>⟨rfl,rfl⟩
 | .nilf,_=>⟨rfl,rfl⟩
 | .nili,_=>⟨rfl,rfl⟩
 | .sl g n xs,h=>by
  have:=clL_of_noU m xs (by simpa[D.cl0,D.noU]using h)
  simp[D.cl,D.cl0,D.refs,this.1,this.2]
 | .ref _ _ _ _ _,h=>by simp[D.cl0,D.noU]at h
 | .ptr _ _,_=>⟨rfl,rfl⟩
 | .el _,_=>⟨rfl,rfl⟩
 | .agg xs,h=>by
  have:=clL_of_noU m xs (by simpa[D.cl0,D.noU]using h)
  simp[D.cl,D.cl0,D.refs,this.1,this.2]
 | .tup xs,h=>by
  have:=clL_of_noU m xs (by simpa[D.cl0,D.noU]using h)
  simp[D.cl,D.cl0,D.refs,this.1,this.2]
 | .fn _ _,_=>⟨rfl,rfl⟩
 | .iface t d,h=>by
  have:=cl_of_noU m d (by simpa[D.cl0,D.noU]using h)
  simp[D.cl,D.cl0,D.refs,this.1,this.2]
theorem clL_of_noU(m:Mem) : ∀ l:List D,noUL (cl0L l)=true→clL m l=cl0L l∧refsL l=[]
 | [],_=>⟨rfl,rfl⟩
 | d::r,h=>by
  simp only[cl0L,noUL,zG]at h
  have h1:=cl_of_noU m d h.1
  have h2:=clL_of_noU m r h.2
  simp[clL,cl0L,refsL,h1.1,h1.2,h2.1,h2.2]
end
theorem noUL_append(a b:List D):noUL (a++b)=(noUL a && noUL b):=by
 induction a with
 | nil=>simp[noUL]
 | cons x r ih=>simp[noUL,ih,Bool.and_assoc]
theorem noU_cells{d:D}(h:d.noU=true):noUL d.cells=true:=by cases d<;>simp_all [D.cells,D.noU,noUL]
mutual
theorem toD_noU : ∀ x:V,x.toD.noU=true
 | .bool _=>rfl
 | .int _ _=>rfl
 | .float _ _=>rfl
 | .str _=>rfl
 | .nilp=>rfl
 | .nilf=>rfl
 | .nili=>rfl
 | .sl xs=>by simp only[V.toD,D.noU];exact flatD_noU xs
 | .agg xs=>by simp only[V.toD,D.noU];exact toDL_noU xs
 | .tup xs=>by simp only[V.toD,D.noU];exact toDL_noU xs
 | .fn _ _=>rfl
 | .iface _ x=>by simp only[V.toD,D.noU];exact toD_noU x
theorem toDL_noU : ∀ l:List V,noUL (toDL l)=true
 | []=>rfl
 | x::r=>by simp only[toDL,noUL,toD_noU x,toDL_noU r,Bool.and_self]
theorem flatD_noU : ∀ l:List V,noUL (flatD l)=true
 | []=>rfl
 | x::r=>by simp only[flatD,noUL_append,noU_cells (toD_noU x),flatD_noU r,Bool.and_self]
end
theorem cl_of{x:V}{d:D}(h:d.cl0=x.toD)(m:Mem):d.cl m=x.toD∧d.refs=[]:=by
 have:=cl_of_noU m d (by rw[h];exact toD_noU x)
 exact⟨this.1.trans h,this.2⟩
theorem clL_flat{xs:List V}{ds:List D}(h:cl0L ds=flatD xs)(m:Mem):clL m ds=flatD xs∧refsL ds=[]:=by
 have:=clL_of_noU m ds (by rw[h];exact flatD_noU xs)
 exact⟨this.1.trans h,this.2⟩
theorem clL_toDL{xs:List V}{ds:List D}(h:cl0L ds=toDL xs)(m:Mem):clL m ds=toDL xs∧refsL ds=[]:=by
 have:=clL_of_noU m ds (by rw[h];exact toDL_noU xs)
 exact⟨this.1.trans h,this.2⟩
mutual
theorem toD_cl0 : ∀ x:V,x.toD.cl0=x.toD
 | .bool _=>rfl
 | .int _ _=>rfl
 | .float _ _=>rfl
 | .str _=>rfl
 | .nilp=>rfl
 | .nilf=>rfl
 | .nili=>rfl
 | .sl xs=>by simp only[V.toD,D.cl0,flatD_cl0]
 | .agg xs=>by simp only[V.toD,D.cl0,toDL_cl0]
 | .tup xs=>by simp only[V.toD,D.cl0,toDL_cl0]
 | .fn _ _=>rfl
 | .iface _ x=>by simp only[V.toD,D.cl0,toD_cl0]
theorem toDL_cl0 : ∀ l:List V,cl0L (toDL l)=toDL l
 | []=>rfl
 | x::r=>by simp only[toDL,cl0L,toD_cl0 x,toDL_cl0 r]
theorem flatD_cl0 : ∀ l:List V,cl0L (flatD l)=flatD l
 | []=>rfl
 | x::r=>by simp only[flatD,cl0L_append,cells_cl0,toD_cl0 x,flatD_cl0 r]
end
/- what handles stand for -/
def RC(ρ:Nat→Nat)(m:Nat):CP→D→Prop
 | .v x,d=>d.cl0=x.toD
 | .p k off,d=>k<m∧d = .ptr (ρ k) off
def RCL(ρ:Nat→Nat)(m:Nat):List CP→List D→Prop
 | [],[]=>True
 | q::r,d::s=>RC ρ m q d∧RCL ρ m r s
 | _,_=>False
def rkOf(rows:List Row)(k:Nat):Option (Nat×Nat):=match rows[k]? with | some ⟨_,.arr _ sz xs⟩=>some (sz,xs.length) | _=>none
/-- what a relation leans on: names of rows, lineages, the rows, the tips -/
structure Cx where
 ρ:Nat→Nat
 τ:Nat→Option Nat
 m:Nat
 rk:Nat→Option (Nat×Nat)
 tip:Nat→Option Nat
 ni:Nat
def RS(c:Cx):PS→D→Prop
 | .v x,d=>d.cl0=x.toD
 | .own id sz xs,d => ∃ g ds,d = .sl g xs.length ds∧cl0L ds=flatD xs∧szOk sz xs=true∧id<c.ni∧(g = .full ∨ ∃ l,g = .ln l sz∧c.τ id=some l∧c.tip l=some xs.length)
 | .full xs,d => ∃ ds,d = .sl .full xs.length ds∧cl0L ds=flatD xs
 | .ptr k off,d=>k<c.m∧d = .ptr (c.ρ k) off
 | .ptrA k sz i off,d=>k<c.m∧d = .ptr (c.ρ k) (i * sz+off) ∧ ∀ s n,c.rk k=some (s,n)→s=sz∧i<n
 | .ref k sz off n cp z,d=>k<c.m∧n≤cp∧(d = .ref (c.ρ k) (off * sz) n cp sz∧(z=false∨0<cp)∨cp=0∧d = .sl .full 0 []∧z=true) ∧ ∀ s l,c.rk k=some (s,l)→s=sz∧off+cp≤l
 | .el cs,d => ∃ ds,d = .el ds∧toDL cs <+: cl0L ds
 | .elx sz x off,d=>okN sz x=true ∧ ∃ ds,d = .el ds∧(toDL x.parts).drop off <+: cl0L ds
 | .fn f cap,d => ∃ ds,d = .fn f ds∧RCL c.ρ c.m cap ds
def RSL(c:Cx):List PS→List D→Prop
 | [],[]=>True
 | q::r,d::s=>RS c q d∧RSL c r s
 | _,_=>False
def RP(c:Cx):PD→D→Prop
 | .s q,d=>RS c q d
 | .agg ps,d => ∃ ds,d = .agg ds∧RSL c ps ds∧allOne ds=true
def RO(c:Cx):Option PD→Option D→Prop
 | none,none=>True
 | some d,some e=>RP c d e
 | _,_=>False
def Fz.ok:Fz→Bool→Prop
 | .no,b=>b=false
 | .may,_=>True
 | .yes,b=>b=true
def RW(c:Cx):RowC→Ob→Prop
 | .box n x,o => ∃ ds,o = .row ds false∧cl0L ds=toDL x.parts∧okN n x=true
 | .cells ps,o => ∃ ds,o = .row ds false∧RSL c ps ds∧allOne ds=true
 | .arr fz sz xs,o => ∃ ds b,o = .row ds b∧fz.ok b∧cl0L ds=flatD xs∧szOk sz xs=true
 | .iter s pos,o=>o = .iter s pos
 | .bld t e s,o=>o = .bld t e s
 | .dead,_=>True
def cxOf(ρ:Nat→Nat)(τ:Nat→Option Nat)(p:PSt)(st:St):Cx:=⟨ρ,τ,p.rows.length,rkOf p.rows,st.tip,p.ni⟩
structure Sim(ρ:Nat→Nat)(τ:Nat→Option Nat)(p:PSt)(st:St):Prop where
 tm : ∀ t f d,getF p.tm t=some (f,d) → ∃ e,get st.tm t=some e∧RP (cxOf ρ τ p st) d e
 nx : ∀ k,k<p.rows.length→ρ k<st.nx
 rows : ∀ k r,p.rows[k]?=some r → ∃ o,(r.c = .dead∨st.mem (ρ k)=some o)∧RW (cxOf ρ τ p st) r.c o
 inj : ∀ j k,j<p.rows.length→k<p.rows.length→ρ j=ρ k→j=k
 lin : ∀ i l,τ i=some l→i<p.ni∧l<st.nx
 linj : ∀ i j l,τ i=some l→τ j=some l→i=j
theorem RSL_len{c:Cx}{ps:List PS}{ds:List D}(h:RSL c ps ds):ps.length=ds.length:=by
 induction ps generalizing ds with
 | nil=>cases ds with | nil=>rfl | cons d s=>exact h.elim
 | cons q r ih=>cases ds with | nil=>exact h.elim | cons d s=>simp[ih h.2]
theorem RSL_get{c:Cx}{ps:List PS}{ds:List D}(h:RSL c ps ds){i:Nat}{q:PS}(hi:ps[i]?=some q) : ∃ d,ds[i]?=some d∧RS c q d:=by
 induction ps generalizing ds i with
 | nil=>simp at hi
 | cons p r ih=>cases ds with
  | nil=>exact h.elim
  | cons d s=>cases i with
   | zero=>simp at hi;subst hi;exact⟨d,by simp,h.1⟩
   | succ i=>simpa using ih h.2 (by simpa using hi)
theorem RSL_take{c:Cx}{ps:List PS}{ds:List D}(h:RSL c ps ds)(n:Nat):RSL c (ps.take n) (ds.take n):=by
 induction ps generalizing ds n with
 | nil=>cases ds with | nil=>simpa using h | cons d s=>exact h.elim
 | cons p r ih=>cases ds with
  | nil=>exact h.elim
  | cons d s=>cases n with
   | zero=>simp[RSL]
   | succ n=>exact⟨h.1,ih h.2 n⟩
theorem RSL_drop{c:Cx}{ps:List PS}{ds:List D}(h:RSL c ps ds)(n:Nat):RSL c (ps.drop n) (ds.drop n):=by
 induction ps generalizing ds n with
 | nil=>cases ds with | nil=>simpa using h | cons d s=>exact h.elim
 | cons p r ih=>cases ds with
  | nil=>exact h.elim
  | cons d s=>cases n with
   | zero=>exact h
   | succ n=>exact ih h.2 n
theorem RSL_append{c:Cx}{ps qs:List PS}{ds es:List D}(h:RSL c ps ds)(k:RSL c qs es):RSL c (ps++qs) (ds++es):=by
 induction ps generalizing ds with
 | nil=>cases ds with | nil=>simpa using k | cons d s=>exact h.elim
 | cons p r ih=>cases ds with
  | nil=>exact h.elim
  | cons d s=>exact⟨h.1,ih h.2⟩
theorem RSL_set{c:Cx}{ps qs:List PS}{ds es:List D}(h:RSL c ps ds)(k:RSL c qs es)(o:Nat):RSL c (setL ps o qs) (setAt ds o es):=by
 unfold setL setAt
 rw[RSL_len k]
 exact RSL_append (RSL_append (RSL_take h o) k) (RSL_drop h _)
theorem RSL_v{c:Cx}{xs:List V}{ds:List D}(h:cl0L ds=toDL xs):RSL c (xs.map PS.v) ds:=by
 induction xs generalizing ds with
 | nil=>cases ds with | nil=>trivial | cons d s=>simp[cl0L,toDL]at h
 | cons x r ih=>cases ds with
  | nil=>simp[cl0L,toDL]at h
  | cons d s=>simp only[cl0L,toDL,List.cons.injEq]at h;exact⟨h.1,ih h.2⟩
theorem allV_ok{c:Cx}{ps:List PS}{ds:List D}(h:RSL c ps ds){l:List V}(k:allV ps=some l):cl0L ds=toDL l:=by
 induction ps generalizing ds l with
 | nil=>cases ds with
  | nil=>simp[allV]at k;subst k;rfl
  | cons d s=>exact h.elim
 | cons p r ih=>cases ds with
  | nil=>exact h.elim
  | cons d s=>
   cases p<;>simp only[allV]at k<;>try contradiction
   split at k<;>simp at k
   rename_i l' hl
   subst k
   simp only[cl0L,toDL,ih h.2 hl]
   rw[show d.cl0=_ from h.1]
theorem mkAgg_ok{c:Cx}{ps:List PS}{ds:List D}(h:RSL c ps ds)(h1:allOne ds=true):RP c (mkAgg ps) (.agg ds):=by
 unfold mkAgg
 split
 ·next l hl=>show(D.agg ds).cl0=_;simp only[D.cl0,V.toD,allV_ok h hl]
 ·exact⟨ds,rfl,h,h1⟩
theorem PS.pure_ok{c:Cx}{q:PS}{d:D}(h:RS c q d){x:V}(k:q.pure=some x):d.cl0=x.toD:=by
 cases q
 case fn f cap=>
  simp only[PS.pure]at k
  split at k<;>try contradiction
  injection k with k;subst k
  obtain⟨ds,rfl,hd⟩:=h
  cases ds with
  | nil=>rfl
  | cons _ _=>exact hd.elim
 all_goals simp[PS.pure]at k
 all_goals subst k
 ·exact h
 ·obtain⟨g,ds,rfl,hd,_,_⟩:=h;simp[D.cl0,V.toD,hd]
 ·obtain⟨ds,rfl,hd⟩:=h;simp[D.cl0,V.toD,hd]
theorem pureL_ok{c:Cx}{ps:List PS}{ds:List D}(h:RSL c ps ds){l:List V}(k:pureL' ps=some l):cl0L ds=toDL l:=by
 induction ps generalizing ds l with
 | nil=>cases ds with
  | nil=>simp[pureL']at k;subst k;rfl
  | cons d s=>exact h.elim
 | cons p r ih=>cases ds with
  | nil=>exact h.elim
  | cons d s=>
   simp only[pureL']at k
   split at k<;>try contradiction
   split at k<;>try contradiction
   next x hx _ l' hl=>
    injection k with k;subst k
    simp only[cl0L,toDL,ih h.2 hl,PS.pure_ok h.1 hx]
theorem PD.pure_ok{c:Cx}{q:PD}{d:D}(h:RP c q d){x:V}(k:q.pureV=some x):d.cl0=x.toD:=by
 cases q with
 | s q=>exact PS.pure_ok h k
 | agg ps=>
  obtain⟨ds,rfl,hd,_⟩:=h
  simp only[PD.pureV]at k
  split at k<;>try contradiction
  next l hl=>injection k with k;subst k;simp only[D.cl0,V.toD,pureL_ok hd hl]
/- constants -/
mutual
theorem ofD_ok : ∀ (d:D) (x:V),ofD d=some x→d.cl0=x.toD
 | .und,x,h=>by simp[ofD]at h
 | .off,x,h=>by simp[ofD]at h
 | .bool _,x,h=>by simp[ofD]at h;subst h;rfl
 | .int _ _,x,h=>by simp[ofD]at h;subst h;rfl
 | .float _ _,x,h=>by simp[ofD]at h;subst h;rfl
 | .str _,x,h=>by simp[ofD]at h;subst h;rfl
 | .nilp,x,h=>by simp[ofD]at h;subst h;rfl
 | .nilf,x,h=>by simp[ofD]at h;subst h;rfl
 | .nili,x,h=>by simp[ofD]at h;subst h;rfl
 | .sl _ _ _,x,h=>by simp[ofD]at h
 | .ref _ _ _ _ _,x,h=>by simp[ofD]at h
 | .ptr _ _,x,h=>by simp[ofD]at h
 | .el _,x,h=>by simp[ofD]at h
 | .agg ds,x,h=>by
  simp only[ofD]at h
  split at h<;>try contradiction
  next l hl=>injection h with h;subst h;simp only[D.cl0,V.toD,ofDL_ok ds l hl]
 | .tup _,x,h=>by simp[ofD]at h
 | .fn f c,x,h=>by
  simp only[ofD]at h
  split at h<;>try contradiction
  injection h with h;subst h;rfl
 | .iface t d,x,h=>by
  simp only[ofD]at h
  split at h<;>try contradiction
  next y hy=>injection h with h;subst h;simp only[D.cl0,V.toD,ofD_ok d y hy]
theorem ofDL_ok : ∀ (l:List D) (xs:List V),ofDL l=some xs→cl0L l=toDL xs
 | [],xs,h=>by simp[ofDL]at h;subst h;rfl
 | d::r,xs,h=>by
  simp only[ofDL]at h
  split at h<;>try contradiction
  split at h<;>try contradiction
  next x hx _ l hl=>injection h with h;subst h;simp only[cl0L,toDL,ofD_ok d x hx,ofDL_ok r l hl]
end
theorem constS_ok{c:Cx}{d:D}{q:PS}(h:constS d=some q):RS c q d:=by
 unfold constS at h
 split at h
 ·injection h with h;subst h;exact⟨[],rfl,rfl⟩
 ·injection h with h;subst h;exact⟨[],rfl,trivial⟩
 ·split at h<;>try contradiction
  next x hx=>injection h with h;subst h;exact ofD_ok _ _ hx
theorem constL_ok{c:Cx}{ds:List D}{l:List PS}(h:constL ds=some l):RSL c l ds:=by
 induction ds generalizing l with
 | nil=>simp[constL]at h;subst h;trivial
 | cons d r ih=>
  simp only[constL]at h
  split at h<;>try contradiction
  split at h<;>try contradiction
  next x hx _ l' hl=>injection h with h;subst h;exact⟨constS_ok hx,ih hl⟩
theorem constS_one{d:D}{q:PS}(h:constS d=some q)(k:q.oneP=true):d.oneCell=true:=by
 unfold constS at h
 split at h
 ·rfl
 ·rfl
 ·split at h<;>try contradiction
  next x hx=>
   injection h with h;subst h
   exact oneCell_cl0 (by rw[ofD_ok _ _ hx];exact one_toD k)
theorem constL_one{ds:List D}{l:List PS}(h:constL ds=some l)(k:allP l=true):allOne ds=true:=by
 induction ds generalizing l with
 | nil=>rfl
 | cons d r ih=>
  simp only[constL]at h
  split at h<;>try contradiction
  split at h<;>try contradiction
  next x hx _ l' hl=>
   injection h with h;subst h
   simp only[allP,zG]at k
   simp only[allOne,zG]
   exact⟨constS_one hx k.1,ih hl k.2⟩
theorem constP_ok{c:Cx}{d:D}{q:PD}(h:constP d=some q):RP c q d:=by
 unfold constP at h
 split at h
 ·split at h<;>try contradiction
  split at h<;>try contradiction
  next l hl _ h1=>injection h with h;subst h;exact mkAgg_ok (constL_ok hl) (constL_one hl h1)
 ·split at h<;>try contradiction
  next q hq=>injection h with h;subst h;exact constS_ok hq
def GlR(E:Env)(gl:Gl):Prop := ∀ n cs,gl.g n=some cs → ∃ ds,E.gl n=some ds∧toDL cs <+: cl0L ds
theorem getF_getP(tm:PTm)(t:Nat):getP tm t=(getF tm t).map (·.2):=by
 induction tm with
 | nil=>rfl
 | cons e r ih=>
  obtain⟨i,f,d⟩:=e
  simp only[getP,getF]
  cases i.beq t
  ·exact ih
  ·rfl
theorem evH_ok{E:Env}{gl:Gl}(hg:GlR E gl){ρ τ p st}(hS:Sim ρ τ p st){x:X}{d:PD}(h:evH gl p x=some d) : ∃ e,ev E st.tm x=some e∧RP (cxOf ρ τ p st) d e:=by
 cases x with
 | s t=>
  simp only[evH,getF_getP,zB]at h
  obtain⟨⟨f,d'⟩,h1,rfl⟩:=h
  obtain⟨e,he,hr⟩:=hS.tm t f d' h1
  exact⟨e,he,hr⟩
 | k c=>exact⟨c,rfl,constP_ok h⟩
 | g n=>
  simp only[evH]at h
  split at h<;>try contradiction
  next cs hc=>
   injection h with h;subst h
   obtain⟨ds,h1,h2⟩:=hg n cs hc
   exact⟨.el ds,by simp[ev,h1],ds,rfl,h2⟩
theorem evV_ok{E:Env}{gl:Gl}(hg:GlR E gl){ρ τ p st}(hS:Sim ρ τ p st){x:X}{v:V}(h:evV gl p x=some v) : ∃ e,ev E st.tm x=some e∧e.cl0=v.toD:=by
 unfold evV at h
 split at h<;>try contradiction
 next y hy=>injection h with h;subst h;exact evH_ok hg hS hy
theorem evVL_ok{E:Env}{gl:Gl}(hg:GlR E gl){ρ τ p st}(hS:Sim ρ τ p st){xs:List X}{l:List V}(h:evVL gl p xs=some l) : ∃ es,evL E st.tm xs=some es∧cl0L es=toDL l:=by
 induction xs generalizing l with
 | nil=>simp[evVL]at h;subst h;exact⟨[],rfl,rfl⟩
 | cons x r ih=>
  simp only[evVL]at h
  split at h<;>try contradiction
  split at h<;>try contradiction
  next v hv _ l' hl=>
   injection h with h;subst h
   obtain⟨e,h1,h2⟩:=evV_ok hg hS hv
   obtain⟨es,h3,h4⟩:=ih hl
   exact⟨e::es,by simp[evL,h1,h3],by simp[cl0L,toDL,h2,h4]⟩
theorem evVO_ok{E:Env}{gl:Gl}(hg:GlR E gl){ρ τ p st}(hS:Sim ρ τ p st){x:Option X}{v:Option V}(h:evVO gl p x=some v) : ∃ e,evO E st.tm x=some e∧e.map D.cl0=v.map V.toD:=by
 cases x with
 | none=>simp[evVO]at h;subst h;exact⟨none,rfl,rfl⟩
 | some x=>
  simp only[evVO]at h
  split at h<;>try contradiction
  next d hd=>
   injection h with h;subst h
   obtain⟨e,h1,h2⟩:=evV_ok hg hS hd
   exact⟨some e,by simp[evO,h1],by simp[h2]⟩
def RPL(c:Cx):List PD→List D→Prop
 | [],[]=>True
 | q::r,d::s=>RP c q d∧RPL c r s
 | _,_=>False
theorem evHL_ok{E:Env}{gl:Gl}(hg:GlR E gl){ρ τ p st}(hS:Sim ρ τ p st){xs:List X}{l:List PD}(h:evHL gl p xs=some l) : ∃ es,evL E st.tm xs=some es∧RPL (cxOf ρ τ p st) l es:=by
 induction xs generalizing l with
 | nil=>simp[evHL]at h;subst h;exact⟨[],rfl,trivial⟩
 | cons x r ih=>
  simp only[evHL]at h
  split at h<;>try contradiction
  split at h<;>try contradiction
  next v hv _ l' hl=>
   injection h with h;subst h
   obtain⟨e,h1,h2⟩:=evH_ok hg hS hv
   obtain⟨es,h3,h4⟩:=ih hl
   exact⟨e::es,by simp[evL,h1,h3],h2,h4⟩
end Go.Ev
end
section
namespace Go.Ev
theorem cl0_bool{d:D}{b:Bool}(h:d.cl0 = .bool b):d = .bool b:=by cases d<;>simp_all [D.cl0]
theorem cl0_int{d:D}{k:IntKind}{n:Int}(h:d.cl0 = .int k n):d = .int k n:=by cases d<;>simp_all [D.cl0]
theorem cl0_float{d:D}{k:FloatKind}{b:Nat}(h:d.cl0 = .float k b):d = .float k b:=by cases d<;>simp_all [D.cl0]
theorem cl0_str{d:D}{s:List UInt8}(h:d.cl0 = .str s):d = .str s:=by cases d<;>simp_all [D.cl0]
theorem cl0_fn{d:D}{f:Nat}{l:List D}(h:d.cl0 = .fn f l):d = .fn f l:=by cases d<;>simp_all [D.cl0]
theorem cl0_sl{d:D}{g:Tg}{n:Nat}{l:List D}(h:d.cl0 = .sl g n l) : ∃ g' l',d = .sl g' n l'∧cl0L l'=l:=by
 cases d
 case sl g' n' l'=>simp only[D.cl0,D.sl.injEq]at h;exact⟨g',l',by rw[h.2.1],h.2.2⟩
 all_goals simp[D.cl0]at h
theorem cl0_agg{d:D}{l:List D}(h:d.cl0 = .agg l) : ∃ l',d = .agg l'∧cl0L l'=l:=by cases d<;>simp_all [D.cl0]
theorem cl0_tup{d:D}{l:List D}(h:d.cl0 = .tup l) : ∃ l',d = .tup l'∧cl0L l'=l:=by cases d<;>simp_all [D.cl0]
theorem cl0_get{ds:List D}{xs:List V}(h:cl0L ds=toDL xs){i:Nat}{x:V}(hi:xs[i]?=some x) : ∃ d,ds[i]?=some d∧d.cl0=x.toD:=by
 have h1:=congrArg (fun l:List D=>l[i]?) h
 simp only[cl0L_get,toDL_get,hi,zC]at h1
 cases hd:ds[i]? with
 | none=>rw[hd]at h1;simp at h1
 | some d=>rw[hd]at h1;exact⟨d,rfl,by simpa using h1⟩
theorem pre_get{ds:List D}{xs:List V}(h:toDL xs <+: cl0L ds){i:Nat}{x:V}(hi:xs[i]?=some x) : ∃ d,ds[i]?=some d∧d.cl0=x.toD:=by
 obtain⟨t,ht⟩:=h
 have hl:i<xs.length:=by
  rcases Nat.lt_or_ge i xs.length with h' | h'
  ·exact h'
  ·rw[List.getElem?_eq_none h']at hi;simp at hi
 have h1:(cl0L ds)[i]?=some x.toD:=by
  rw[← ht,List.getElem?_append_left (by rw[toDL_len];exact hl),toDL_get,hi];rfl
 rw[cl0L_get]at h1
 cases hd:ds[i]? with
 | none=>rw[hd]at h1;simp at h1
 | some d=>rw[hd]at h1;exact⟨d,rfl,by simpa using h1⟩
theorem pre_take{ds:List D}{xs:List V}(h:toDL xs <+: cl0L ds){n:Nat}(hn:n≤xs.length):n≤ds.length∧cl0L (ds.take n)=toDL (xs.take n):=by
 obtain⟨t,ht⟩:=h
 have hl:xs.length≤ds.length:=by
  have:=congrArg List.length ht
  simp[toDL_len,cl0L_len]at this;omega
 refine⟨by omega,?_⟩
 rw[cl0L_take,← ht,List.take_append_of_le_length (by rw[toDL_len];exact hn),toDL_take]
theorem pre_drop{ds:List D}{ys:List D}(h:ys <+: cl0L ds)(n:Nat):ys.drop n <+: cl0L (ds.drop n):=by
 obtain⟨t,ht⟩:=h
 rw[cl0L_drop,← ht,List.drop_append]
 exact List.prefix_append _ _
theorem intV_toD(op:BinOp)(k:IntKind)(a b:Int):intD op k a b=(intV op k a b).map V.toD:=by
 cases op<;>simp only[intV,intD,zC,V.toD]<;>split<;>rfl
theorem strV_toD(op:BinOp)(a b:List UInt8):strD op a b=(strV op a b).map V.toD:=by
 cases op<;>simp only[strV,strD,zC,Option.map_none,V.toD]
 split<;>rfl
theorem binV_ok{op:BinOp}{x y z:V}{a b:D}(ha:a.cl0=x.toD)(hb:b.cl0=y.toD)(h:binV op x y=some z):binD op a b=some z.toD:=by
 unfold binV at h
 split at h
 ·rw[cl0_int ha,cl0_int hb]
  simp only[binD]
  split at h
  ·next h1=>rw[if_pos h1,intV_toD,h];rfl
  ·contradiction
 ·rw[cl0_str ha,cl0_str hb];simp only[binD];rw[strV_toD,h];rfl
 ·rw[cl0_float ha,cl0_float hb]
  simp only[binD]
  split at h
  ·next h1=>
   rw[if_pos h1]
   rw[zB]at h
   obtain⟨c,hc,rfl⟩:=h
   rw[hc];rfl
  ·contradiction
 ·contradiction
theorem unV_ok{op:UnOp}{x z:V}{a:D}(ha:a.cl0=x.toD)(h:unV op x=some z):unD op a=some z.toD:=by
 unfold unV at h
 split at h<;>try contradiction
 all_goals injection h with h;subst h
 ·rw[cl0_int ha];rfl
 ·rw[cl0_int ha];rfl
 ·rw[cl0_bool ha];rfl
theorem asBool_ok{x:V}{b:Bool}{d:D}(h:asBool x=some b)(hd:d.cl0=x.toD):d = .bool b:=by
 unfold asBool at h;split at h<;>try contradiction
 injection h with h;subst h;exact cl0_bool hd
theorem asStr_ok{x:V}{s:List UInt8}{d:D}(h:asStr x=some s)(hd:d.cl0=x.toD):d = .str s:=by
 unfold asStr at h;split at h<;>try contradiction
 injection h with h;subst h;exact cl0_str hd
theorem asSl_ok{sz:Nat}{x:V}{xs:List V}{d:D}(h:asSl sz x=some xs)(hd:d.cl0=x.toD):(∃ g ds,d = .sl g xs.length ds∧cl0L ds=flatD xs)∧szOk sz xs=true:=by
 unfold asSl at h;split at h<;>try contradiction
 split at h<;>try contradiction
 next hs=>
  injection h with h;subst h
  obtain⟨g,l,rfl,hl⟩:=cl0_sl hd
  exact⟨⟨g,l,rfl,hl⟩,hs⟩
theorem asFn_ok{x:V}{q:Nat×List V}{d:D}(h:asFn x=some q)(hd:d.cl0=x.toD):d = .fn q.1 (toDL q.2):=by
 unfold asFn at h;split at h<;>try contradiction
 injection h with h;subst h;exact cl0_fn hd
theorem fld_parts{x c:V}{i:Nat}(h:fldV x i=some c):x.parts[i]?=some c:=h
theorem asBytesV_ok{xs:List V}{s:List UInt8}{ds:List D}(h:asBytesV xs=some s)(hd:cl0L ds=flatD xs):asBytes ds=some s:=by
 induction xs generalizing s ds with
 | nil=>
  cases ds with
  | nil=>simpa[asBytesV,asBytes]using h
  | cons d r=>simp[flatD,cl0L]at hd
 | cons x r ih=>
  unfold asBytesV at h
  split at h<;>try contradiction
  next n r' he=>
   injection he with he1 he2;subst he1;subst he2
   rw[zA]at h
   obtain⟨l,hl,h⟩:=h
   injection h with h;subst h
   cases ds with
   | nil=>simp[flatD,cl0L,V.toD,D.cells]at hd
   | cons d s=>
    simp only[flatD,cl0L,V.toD,D.cells,List.cons_append,List.nil_append,List.cons.injEq]at hd
    rw[cl0_int hd.1]
    simp only[asBytes,ih hl hd.2,zD]
theorem bndV_ok{d:Option D}{x:Option V}(h:d.map D.cl0=x.map V.toD){n m:Nat}(k:bndV x n=some m):bnd d n=some m:=by
 cases x with
 | none=>cases d with
  | none=>exact k
  | some d=>simp at h
 | some x=>cases d with
  | none=>simp at h
  | some d=>
   have h:d.cl0=x.toD:=by simpa using h
   unfold bndV at k
   split at k
   ·next e=>simp at e
   ·next e=>
     injection e with e;subst e
     rw[cl0_int h];exact k
   ·contradiction
theorem idxV_ok{d:D}{x:V}(h:d.cl0=x.toD){n i:Nat}(k:idxV x n=some i):idx d n=some i:=by
 unfold idxV at k
 split at k<;>try contradiction
 rw[cl0_int h];exact k
theorem idx_lt{d:D}{n i:Nat}(h:idx d n=some i):i<n:=by
 unfold idx at h
 split at h<;>try contradiction
 split at h<;>try contradiction
 injection h with h;omega
theorem getElem?_lt{α:Type}{xs:List α}{i:Nat}{x:α}(h:xs[i]?=some x):i<xs.length:=by
 rcases Nat.lt_or_ge i xs.length with h' | h'
 ·exact h'
 ·rw[List.getElem?_eq_none h']at h;simp at h
theorem tst_some{ρ:Type}{b:Bool}{k:Option ρ}{r:ρ}(h:tst b k=some r):b=true∧k=some r:=by
 cases b<;>simp_all [tst]
theorem rowR_some{p:PSt}{k:Nat}{c:RowC}(h:rowR p k=some c) : ∃ r,p.rows[k]?=some r∧r.c=c:=by
 unfold rowR at h
 split at h<;>try contradiction
 next f c' hr=>injection h with h;subst h;exact⟨_,hr,rfl⟩
theorem rowW_some{p:PSt}{k:Nat}{c:RowC}(h:rowW p k=some c):p.rows[k]?=some ⟨false,c⟩:=by
 unfold rowW at h
 split at h<;>try contradiction
 next c' hr=>injection h with h;subst h;exact hr
theorem rk_arr{p:PSt}{k:Nat}{r:Row}{fz:Fz}{sz:Nat}{xs:List V}(h:p.rows[k]?=some r)(hc:r.c = .arr fz sz xs):rkOf p.rows k=some (sz,xs.length):=by
 obtain⟨f,c⟩:=r
 simp only at hc;subst hc
 simp[rkOf,h]
section
variable {ρ:Nat→Nat} {τ:Nat→Option Nat} {p:PSt} {st:St} {ρ':Type} {r:ρ'}
theorem Sim.row(hS:Sim ρ τ p st){k:Nat}{c:RowC}(h:rowR p k=some c)(hd:c ≠ .dead) : ∃ o,st.mem (ρ k)=some o∧RW (cxOf ρ τ p st) c o:=by
 obtain⟨rr,hr,rfl⟩:=rowR_some h
 obtain⟨o,h1,h2⟩:=hS.rows k rr hr
 rcases h1 with h1 | h1
 ·exact(hd h1).elim
 ·exact⟨o,h1,h2⟩
theorem cellsFrom_ok{x:V}{i n:Nat}{K:List PS→Option ρ'}(h:cellsFrom x i n K=some r):i+n≤x.parts.length∧K (((x.parts.drop i).take n).map .v)=some r∨n=0∧K []=some r:=by
 induction n generalizing i K with
 | zero=>exact .inr ⟨rfl,h⟩
 | succ n ih=>
  left
  simp only[cellsFrom]at h
  rw[zA]at h
  obtain⟨c,hc,h⟩:=h
  have hlt:=getElem?_lt (fld_parts hc)
  have he:(x.parts.drop i).take (n+1)=c::((x.parts.drop (i+1)).take n):=by
   rw[zO hlt,List.take_succ_cons]
   have:x.parts[i]=c:=by have:=fld_parts hc;rw[zL hlt]at this;injection this
   rw[this]
  rcases ih h with⟨h1,h2⟩ | ⟨rfl,h2⟩
  ·refine⟨by omega,?_⟩
   rw[he];exact h2
  ·refine⟨by omega,?_⟩
   rw[he];simpa using h2
theorem cellsFrom_all{x:V}{n:Nat}(hx:okN n x=true){K:List PS→Option ρ'}(h:cellsFrom x 0 n K=some r):K (x.parts.map .v)=some r:=by
 have hl:=okN_len hx
 rcases cellsFrom_ok h with⟨_,h2⟩ | ⟨rfl,h2⟩
 ·rw[zU,zV (by omega)]at h2;exact h2
 ·rw[List.length_eq_zero_iff.1 hl];exact h2
theorem cells_ok{x:V}{d:D}(h:d.cl0=x.toD):cl0L d.cells=toDL x.parts:=by
 rw[cells_cl0,h,toD_cells]
theorem cellsK_ok{c:Cx}{n:Nat}{d:PD}{e:D}(hd:RP c d e){K:List PS→Option ρ'}(h:cellsK n d K=some r) : ∃ cs,K cs=some r∧cs.length=n∧RSL c cs e.cells∧allOne e.cells=true∧e.cells.length=n:=by
 cases d with
 | agg ps=>
  obtain⟨ds,rfl,h1,h2⟩:=hd
  simp only[cellsK]at h
  split at h<;>try contradiction
  next hn=>
   have hn:=zJ hn
   exact⟨ps,h,hn,h1,h2,by simp only[D.cells];rw[← RSL_len h1,hn]⟩
 | s q=>
  cases q
  case v x=>
   simp only[cellsK]at h
   obtain⟨h1,h2⟩:=tst_some h
   have hd:e.cl0=x.toD:=hd
   have hc:=cells_ok hd
   refine⟨_,cellsFrom_all h1 h2,by simp[okN_len h1],RSL_v hc,allOne_of hc (okN_one h1),?_⟩
   have:=congrArg List.length hc
   rw[cl0L_len,toDL_len,okN_len h1]at this;exact this
  case el cs=>simp[cellsK]at h
  case elx sz x off=>simp[cellsK]at h
  case own id sz xs=>
   simp only[cellsK]at h
   split at h<;>try contradiction
   next hn=>
    have hn:=zJ hn;subst hn
    obtain⟨g,ds,rfl,h1⟩:=hd
    exact⟨_,h,rfl,⟨⟨g,ds,rfl,h1⟩,trivial⟩,rfl,rfl⟩
  case full xs=>
   simp only[cellsK]at h
   split at h<;>try contradiction
   next hn=>
    have hn:=zJ hn;subst hn
    obtain⟨ds,rfl,h1⟩:=hd
    exact⟨_,h,rfl,⟨⟨ds,rfl,h1⟩,trivial⟩,rfl,rfl⟩
  case ptr k off=>
   simp only[cellsK]at h
   split at h<;>try contradiction
   next hn=>
    have hn:=zJ hn;subst hn
    obtain⟨h1,rfl⟩:=hd
    exact⟨_,h,rfl,⟨⟨h1,rfl⟩,trivial⟩,rfl,rfl⟩
  case ptrA k sz i off=>
   simp only[cellsK]at h
   split at h<;>try contradiction
   next hn=>
    have hn:=zJ hn;subst hn
    obtain⟨h1,rfl,h2⟩:=hd
    exact⟨_,h,rfl,⟨⟨h1,rfl,h2⟩,trivial⟩,rfl,rfl⟩
  case ref k sz off n' cp z=>
   simp only[cellsK]at h
   split at h<;>try contradiction
   next hn=>
    have hn:=zJ hn;subst hn
    obtain⟨h0,h1,⟨h2,h3⟩ | ⟨h2,h3,h3'⟩,h4⟩:=hd
    ·subst h2
     exact⟨_,h,rfl,⟨⟨h0,h1,.inl ⟨rfl,h3⟩,h4⟩,trivial⟩,rfl,rfl⟩
    ·subst h3
     exact⟨_,h,rfl,⟨⟨h0,h1,.inr ⟨h2,rfl,h3'⟩,h4⟩,trivial⟩,rfl,rfl⟩
  case fn f cap=>
   simp only[cellsK]at h
   split at h<;>try contradiction
   next hn=>
    have hn:=zJ hn;subst hn
    obtain⟨ds,rfl,h1⟩:=hd
    exact⟨_,h,rfl,⟨⟨ds,rfl,h1⟩,trivial⟩,rfl,rfl⟩
theorem allOne_append(a b:List D):allOne (a++b)=(allOne a && allOne b):=by
 induction a with
 | nil=>simp[allOne]
 | cons x r ih=>simp[allOne,ih,Bool.and_assoc]
theorem allOne_take{ds:List D}(h:allOne ds=true)(n:Nat):allOne (ds.take n)=true:=by
 induction ds generalizing n with
 | nil=>simp[allOne]
 | cons d r ih=>cases n with
  | zero=>rfl
  | succ n=>simp only[allOne,zG,List.take_succ_cons]at h ⊢;exact⟨h.1,ih h.2 n⟩
theorem allOne_drop{ds:List D}(h:allOne ds=true)(n:Nat):allOne (ds.drop n)=true:=by
 induction ds generalizing n with
 | nil=>simp[allOne]
 | cons d r ih=>cases n with
  | zero=>exact h
  | succ n=>simp only[allOne,zG,List.drop_succ_cons]at h ⊢;exact ih h.2 n
theorem allOne_setAt{ds es:List D}(h:allOne ds=true)(k:allOne es=true)(o:Nat):allOne (setAt ds o es)=true:=by
 simp only[setAt,allOne_append,allOne_take h,k,allOne_drop h,Bool.and_self]
theorem allOne_rep{z:List D}(h:allOne z=true)(n:Nat):allOne (rep n z)=true:=by
 induction n with
 | zero=>rfl
 | succ n ih=>simp only[rep,List.replicate_succ,List.flatten_cons,allOne_append,h,Bool.true_and];exact ih
/-- a struct that is built -/
theorem buildK_ok{E:Env}{gl:Gl}(hg:GlR E gl)(hS:Sim ρ τ p st){ps:List (Nat×Nat×X)}{cells:List PS}{ds:List D}(hc:RSL (cxOf ρ τ p st) cells ds)(h1:allOne ds=true){K:List PS→Option ρ'}(h:buildK gl p cells ps K=some r) :
  ∃ cs,K cs=some r ∧ ∃ l es,Ev.evP E st.tm ps=some l∧fillD ds l=some es∧RSL (cxOf ρ τ p st) cs es∧allOne es=true:=by
 induction ps generalizing cells ds with
 | nil=>exact⟨cells,h,[],ds,rfl,rfl,hc,h1⟩
 | cons q rest ih=>
  obtain⟨o,n,x⟩:=q
  simp only[buildK]at h
  split at h<;>try contradiction
  split at h<;>try contradiction
  next d hd _ hle=>
   have hle:=zT hle
   obtain⟨e,he,hr⟩:=evH_ok hg hS hd
   obtain⟨cs,h2,h3,h4,h5,h6⟩:=cellsK_ok hr h
   obtain⟨cs',h7,l,es,h8,h9,h10,h11⟩:=ih (RSL_set hc h4 o) (allOne_setAt h1 h5 o) h2
   refine⟨cs',h7,(o,n,e)::l,es,by simp[Ev.evP,he,h8],?_,h10,h11⟩
   simp only[fillD]
   rw[if_pos ⟨h6,by rw[← RSL_len hc];exact hle,h5⟩]
   exact h9
theorem setAt_flat{sz:Nat}{els:List V}(hs:szOk sz els=true){ds es:List D}(hd:cl0L ds=flatD els){i f n:Nat}{e x:V}(hi:els[i]?=some e)(hes:cl0L es=toDL x.parts)(hx:x.parts.length=n)(hf:f+n≤sz) :
  cl0L (setAt ds (i * sz+f) es)=flatD (els.take i)++((toDL e.parts).take f++toDL x.parts++(toDL e.parts).drop (f+n))++flatD (els.drop (i+1)):=by
 have hlt:=getElem?_lt hi
 have hel:=okN_len (szOk_get hs hi)
 have h1:flatD els=flatD (els.take i)++(toDL e.parts++flatD (els.drop (i+1))):=by
  rw[← flatD_at hi,← flatD_append,List.take_append_drop]
 have hl1:(flatD (els.take i)).length=i * sz:=by rw[flatD_len (szOk_take hs i),List.length_take,Nat.min_eq_left (by omega)]
 have hesl:es.length=n:=by have:=congrArg List.length hes;rw[cl0L_len,toDL_len,hx]at this;exact this
 have hpl:(toDL e.parts).length=sz:=by rw[toDL_len,hel]
 simp only[setAt,cl0L_append,cl0L_take,cl0L_drop,hd,hes,hesl]
 rw[h1]
 rw[List.take_append,zV (by omega),hl1,Nat.add_sub_cancel_left,List.take_append,hpl,show f - sz=0 by omega,List.take_zero,List.append_nil]
 rw[List.drop_append,List.drop_of_length_le (by omega),List.nil_append,hl1,show i * sz+f+n - i * sz=f+n by omega,List.drop_append,hpl,show f+n - sz=0 by omega,zU]
 simp only[List.append_assoc]
theorem flatD_set{els:List V}{i:Nat}{e x:V}(hi:els[i]?=some e):flatD (els.set i x)=flatD (els.take i)++toDL x.parts++flatD (els.drop (i+1)):=by
 have hlt:=getElem?_lt hi
 rw[List.set_eq_take_append_cons_drop,if_pos hlt,flatD_append]
 simp[flatD,toD_cells]
theorem one_cell{y c:V}(hx:okN 1 y=true)(h:fldV y 0=some c):y.parts=[c]∧c.one=true∧c.parts=[c]:=by
 have hl:=okN_len hx
 have h:=fld_parts h
 have hp:y.parts=[c]:=by
  cases hxp:y.parts with
  | nil=>rw[hxp]at hl;simp at hl
  | cons a s=>
   rw[hxp]at hl h
   cases s with
   | nil=>simp at h;rw[h]
   | cons b s=>simp at hl
 have hone:c.one=true:=by have:=okN_one hx;rw[hp]at this;simpa[allOneV]using this
 refine⟨hp,hone,?_⟩
 cases c<;>first | rfl | simp[V.one]at hone
theorem allOneV_append(a b:List V):allOneV (a++b)=(allOneV a && allOneV b):=by
 induction a with
 | nil=>simp[allOneV]
 | cons y r ih=>simp[allOneV,ih,Bool.and_assoc]
theorem allOneV_cut{a:List V}(h:allOneV a=true)(k:Nat):allOneV (a.take k)=true∧allOneV (a.drop k)=true:=by
 have h2:allOneV (a.take k++a.drop k)=true:=by rw[List.take_append_drop];exact h
 rw[allOneV_append,zG]at h2;exact h2
theorem elK_ok{sz:Nat}{els:List V}(hs:szOk sz els=true)(hz:0<sz){ds es:List D}(hd:cl0L ds=flatD els){o n:Nat}{x:V}(hes:cl0L es=toDL x.parts)(ho:o / sz<els.length){K:List V→Option ρ'}(h:elK sz els o n x K=some r) :
  ∃ els',K els'=some r∧els'.length=els.length∧szOk sz els'=true∧cl0L (setAt ds o es)=flatD els'∧es.length=n∧o+n≤ds.length∧allOneV x.parts=true:=by
 have hdl:ds.length=els.length * sz:=by have:=congrArg List.length hd;rw[cl0L_len,flatD_len hs]at this;exact this
 have hesl:es.length=x.parts.length:=by have:=congrArg List.length hes;rw[cl0L_len,toDL_len]at this;exact this
 obtain⟨e,he⟩ : ∃ e,els[o / sz]?=some e:=⟨_,zL ho⟩
 have hdm:o / sz * sz+o % sz=o:=by rw[Nat.mul_comm];exact Nat.div_add_mod o sz
 have hmul:(o / sz+1) * sz≤els.length * sz:=zW sz ho
 have hmul':(o / sz+1) * sz=o / sz * sz+sz:=by rw[Nat.add_mul,Nat.one_mul]
 have hel:=okN_len (szOk_get hs he)
 have hpl:(toDL e.parts).length=sz:=by rw[toDL_len,hel]
 unfold elK at h
 split at h
 ·next hw=>
  simp only[zG]at hw
  have hn:=zJ hw.1
  have h0:=zJ hw.2
  subst hn
  have key : ∀ y:V,y.parts=x.parts→okN n x=true→cl0L (setAt ds o es)=flatD (els.set (o / n) y):=by
   intro y hy hx
   have:=setAt_flat hs hd (i:=o / n) (f:=o % n) (n:=n) he hes (okN_len hx) (by omega)
   rw[hdm]at this
   rw[this,flatD_set he,h0,List.take_zero,List.nil_append,Nat.zero_add,List.drop_of_length_le (by omega),List.append_nil,hy]
  split at h
  ·next h1=>
   have h1:=zJ h1
   obtain⟨hx,h⟩:=tst_some h
   rw[zA]at h
   obtain⟨c,hc,h⟩:=h
   have hx':okN n x=true:=by rw[h1];exact hx
   have hp:x.parts=[c]:=by
    have hl:=okN_len hx
    have hc:=fld_parts hc
    match hxp:x.parts,hl with
    | [a],_=>rw[hxp]at hc;simp at hc;rw[hc]
   have hone:c.one=true:=by have:=okN_one hx;rw[hp]at this;simpa[allOneV]using this
   have hcp:c.parts=[c]:=by cases c<;>simp_all [V.parts,V.one]
   refine⟨_,h,by simp,szOk_set hs (okN_mk ?_ ?_),key c (by rw[hcp,hp]) hx',by rw[hesl,okN_len hx'],by omega,okN_one hx⟩
   ·rw[hcp];exact h1.symm
   ·rw[hcp,← hp];exact okN_one hx
  ·obtain⟨hx,h⟩:=tst_some h
   exact⟨_,h,by simp,szOk_set hs hx,key x rfl hx,by rw[hesl,okN_len hx],by omega,okN_one hx⟩
 ·split at h<;>try contradiction
  split at h<;>try contradiction
  next xs hxs=>
   split at h<;>try contradiction
   next hle=>
    simp only[zG]at hle
    have hle1:=zT hle.1
    obtain⟨hx,h⟩:=tst_some h
    rw[he]at hxs;injection hxs with hxs;subst hxs
    have hel':xs.length=sz:=hel
    have hxl:=okN_len hx
    refine⟨_,h,by simp,szOk_set hs (okN_mk ?_ ?_),?_,by rw[hesl,hxl],by omega,okN_one hx⟩
    ·show(setL xs (o % sz) x.parts).length=sz
     simp only[setL,zZ,List.length_take,List.length_drop,hxl];omega
    ·have:allOneV xs=true:=okN_one (szOk_get hs he)
     show allOneV (setL xs (o % sz) x.parts)=true
     simp only[setL,allOneV_append,(allOneV_cut this _).1,(allOneV_cut this _).2,okN_one hx,Bool.and_self]
    ·have:=setAt_flat hs hd (i:=o / sz) (f:=o % sz) (n:=n) he hes hxl (by omega)
     rw[hdm]at this
     rw[this,flatD_set he]
     show _=_++toDL (setL xs (o % sz) x.parts)++_
     simp only[setL,toDL_append,toDL_take,toDL_drop,hxl]
     rfl
theorem litK_ok{E:Env}{gl:Gl}(hg:GlR E gl)(hS:Sim ρ τ p st){sz:Nat}(hz:0<sz){ps:List (Nat×Nat×X)}{els:List V}{ds:List D}(hs:szOk sz els=true)(hd:cl0L ds=flatD els)(h1:allOne ds=true){K:List V→Option ρ'}(h:litK gl p sz els ps K=some r) :
  ∃ els',K els'=some r∧els'.length=els.length∧szOk sz els'=true ∧ ∃ l es,Ev.evP E st.tm ps=some l∧fillD ds l=some es∧cl0L es=flatD els'∧allOne es=true:=by
 induction ps generalizing els ds with
 | nil=>exact⟨els,h,rfl,hs,[],ds,rfl,rfl,hd,h1⟩
 | cons q rest ih=>
  obtain⟨o,n,x⟩:=q
  simp only[litK]at h
  split at h<;>try contradiction
  split at h<;>try contradiction
  split at h<;>try contradiction
  next d hd' _ y hy _ hlt=>
   have hlt:o / sz<els.length:=zT hlt
   obtain⟨e,he,hr⟩:=evH_ok hg hS hd'
   have hey:=PD.pure_ok hr hy
   have hec:=cells_ok hey
   obtain⟨els1,h2,h3,h4,h5,h6,h7,h8⟩:=elK_ok hs hz hd hec hlt h
   have ho:=allOne_of hec h8
   obtain⟨els',h9,h10,h11,l,es,h12,h13,h14,h15⟩:=ih h4 h5 (allOne_setAt h1 ho o) h2
   refine⟨els',h9,by omega,h11,(o,n,e)::l,es,by simp[Ev.evP,he,h12],?_,h14,h15⟩
   simp only[fillD]
   rw[if_pos ⟨h6,h7,ho⟩]
   exact h13
end
end Go.Ev
end
section
namespace Go.Ev
section
variable {ρ:Nat→Nat} {τ:Nat→Option Nat} {p:PSt} {st:St} {ρ':Type} {r:ρ'}
def PD.isRef:PD→Bool
 | .s (.ref _ _ _ _ _ _)=>true
 | _=>false
theorem slK_ok(hS:Sim ρ τ p st){sz:Nat}{d:PD}{e:D}(hd:RP (cxOf ρ τ p st) d e){K:List V→Option ρ'}(h:slK sz p d K=some r) :
  ∃ xs,K xs=some r∧szOk sz xs=true∧(∃ ds,elems st sz e=some (xs.length,ds)∧cl0L ds=flatD xs)∧(d.isRef=false → ∃ g ds,e = .sl g xs.length ds∧cl0L ds=flatD xs):=by
 have fin : ∀ {g xs ds},e = .sl g xs.length ds→cl0L ds=flatD xs→szOk sz xs=true→K xs=some r →
   ∃ xs,K xs=some r∧szOk sz xs=true∧(∃ ds,elems st sz e=some (xs.length,ds)∧cl0L ds=flatD xs)∧(d.isRef=false → ∃ g ds,e = .sl g xs.length ds∧cl0L ds=flatD xs):=by
  intro g xs ds he hds hs hk
  subst he
  have hl:ds.length=xs.length * sz:=by have:=congrArg List.length hds;rw[cl0L_len,flatD_len hs]at this;exact this
  exact⟨xs,hk,hs,⟨ds,by simp[elems,hl],hds⟩,fun _=>⟨g,ds,rfl,hds⟩⟩
 cases d with
 | agg ps=>simp[slK]at h
 | s q=>
  cases q<;>simp only[slK]at h<;>try contradiction
  case v x=>
   rw[zA]at h
   obtain⟨xs,hx,h⟩:=h
   obtain⟨⟨g,ds,he,hds⟩,hs⟩:=asSl_ok hx hd
   exact fin he hds hs h
  case own id sz' xs=>
   obtain⟨hs,h⟩:=tst_some h
   obtain⟨g,ds,he,hds,_⟩:=hd
   exact fin he hds hs h
  case full xs=>
   obtain⟨hs,h⟩:=tst_some h
   obtain⟨ds,he,hds⟩:=hd
   exact fin he hds hs h
  case ref k sz' off n cp z=>
   split at h<;>try contradiction
   split at h<;>try contradiction
   next fz szr xs hr _ hsz=>
    have hsz:=zJ hsz;subst hsz
    obtain⟨rr,hrr,hrc⟩:=rowR_some hr
    obtain⟨hk,hn,hdd,hrk⟩:=hd
    obtain⟨hs,hlen⟩:=hrk _ _ (rk_arr hrr hrc)
    subst hs
    obtain⟨o,ho,ds,b,rfl,hfz,hds,hsz⟩:=hS.row hr (by simp)
    have hl:ds.length=xs.length * szr:=by have:=congrArg List.length hds;rw[cl0L_len,flatD_len hsz]at this;exact this
    have hll:((xs.drop off).take n).length=n:=by rw[List.length_take,List.length_drop];omega
    refine⟨_,h,szOk_take (szOk_drop hsz _) _,?_,fun hh=>by simp[PD.isRef]at hh⟩
    rcases hdd with⟨rfl,_⟩ | ⟨rfl,rfl,_⟩
    ·refine⟨(ds.drop (off * szr)).take (n * szr),?_,?_⟩
     ·have hm:(off+n) * szr≤xs.length * szr:=zW _ (by omega)
      have:off * szr+n * szr≤ds.length:=by rw[hl,← Nat.add_mul];exact hm
      have ho:st.mem ((cxOf ρ τ p st).ρ k)=some (.row ds b):=ho
      simp only[elems,ho,hll]
      rw[if_pos ⟨trivial,this⟩]
     ·rw[cl0L_take,cl0L_drop,hds,flatD_drop hsz,flatD_take (szOk_drop hsz _)]
    ·have hn0:n=0:=by omega
     subst hn0
     exact⟨[],by simp[elems],by simp[cl0L,flatD]⟩
theorem srcK_ok(hS:Sim ρ τ p st){sz:Nat}{d:PD}{e:D}(hd:RP (cxOf ρ τ p st) d e){K:List V→Option ρ'}(h:srcK sz p d K=some r) :
  ∃ xs,K xs=some r∧szOk sz xs=true ∧ ∃ ds,elems st sz e=some (xs.length,ds)∧cl0L ds=flatD xs:=by
 unfold srcK at h
 split at h
 ·next x=>
  rw[zA]at h
  obtain⟨xs,hx,h⟩:=h
  unfold asEl at hx
  split at hx<;>try contradiction
  ·next ys=>
   have hy:asSl sz (.sl ys)=some xs:=hx
   obtain⟨⟨g,ds,rfl,hds⟩,hs⟩:=asSl_ok hy hd
   have hl:ds.length=xs.length * sz:=by have:=congrArg List.length hds;rw[cl0L_len,flatD_len hs]at this;exact this
   exact⟨xs,h,hs,ds,by simp[elems,hl],hds⟩
  ·next s=>
   split at hx<;>try contradiction
   next hsz=>
    injection hx with hx;subst hx
    have hsz:=zJ hsz;subst hsz
    have:=cl0_str hd;subst this
    exact⟨_,h,szOk_bytes s,ofBytes s,by simp[elems,ofBytesV],by rw[← flatD_bytes,flatD_cl0]⟩
 ·obtain⟨xs,h1,h2,h3,_⟩:=slK_ok hS hd h
  exact⟨xs,h1,h2,h3⟩
theorem parts_agg{x:V}{n:Nat}(h:okN n x=true)(hn:1<n):x = .agg x.parts:=by
 have:=okN_len h
 cases x<;>simp_all [V.parts]
theorem len_of{ds:List D}{xs:List V}(h:cl0L ds=toDL xs):ds.length=xs.length:=by
 have:=congrArg List.length h;rw[cl0L_len,toDL_len]at this;exact this
theorem sub_ok{ds:List D}{xs:List V}(h:cl0L ds=toDL xs)(off sz:Nat):(D.agg ((ds.drop off).take sz)).cl0=(V.agg ((xs.drop off).take sz)).toD:=by
 simp only[D.cl0,V.toD,cl0L_take,cl0L_drop,h,toDL_take,toDL_drop]
theorem loadK_ok(hS:Sim ρ τ p st){ag:Bool}{sz:Nat}{d:PD}{e:D}(hd:RP (cxOf ρ τ p st) d e){K:PD→Option ρ'}(h:loadK p ag sz d K=some r) :
  ∃ v,K v=some r ∧ ∃ w,loadD st ag sz e=some w∧RP (cxOf ρ τ p st) v w:=by
 cases d with
 | agg ps=>simp[loadK]at h
 | s q=>
  cases q<;>simp only[loadK]at h<;>try contradiction
  case ptr k off=>
   obtain⟨hk,rfl⟩:=hd
   split at h<;>try contradiction
   ·next n x hr=>
    obtain⟨o,ho,ds,rfl,hds,hok⟩:=hS.row hr (by simp)
    have ho:st.mem ((cxOf ρ τ p st).ρ k)=some (.row ds false):=ho
    have hl:=len_of hds
    have hn:=okN_len hok
    split at h
    ·obtain⟨hle,h⟩:=tst_some h
     have hle:=zT hle
     have hw:loadD st true sz (.ptr ((cxOf ρ τ p st).ρ k) off)=some (.agg ((ds.drop off).take sz)):=by
      simp only[loadD,cellsAt,ho,if_true];rw[if_pos (by omega)];rfl
     split at h
     ·next hc=>
      simp only[zG]at hc
      have h1:=zJ hc.1
      have h2:1<n:=zT hc.2
      refine⟨_,h,_,hw,?_⟩
      have h0:off=0:=by omega
      subst h0
      show(D.agg _).cl0=_
      rw[parts_agg hok h2,sub_ok hds]
      simp only[zU]
      rw[zV (by omega)]
     ·exact⟨_,h,_,hw,sub_ok hds off sz⟩
    ·rw[zA]at h
     obtain⟨c,hc,h⟩:=h
     obtain⟨w,hw,hcw⟩:=cl0_get hds (fld_parts hc)
     have hlt:=getElem?_lt hw
     refine⟨_,h,w,?_,hcw⟩
     simp only[loadD,cellsAt,ho,zF,if_false]
     rw[if_pos (by omega),zO hlt]
     rw[zL hlt]at hw
     injection hw with hw
     simp[hw]
   ·next ps hr=>
    obtain⟨o,ho,ds,rfl,hds,h1⟩:=hS.row hr (by simp)
    have ho:st.mem ((cxOf ρ τ p st).ρ k)=some (.row ds false):=ho
    have hl:=RSL_len hds
    split at h
    ·split at h<;>try contradiction
     next hle=>
      have hle:=zT hle
      refine⟨_,h,.agg ((ds.drop off).take sz),?_,mkAgg_ok (RSL_take (RSL_drop hds _) _) (allOne_take (allOne_drop h1 _) _)⟩
      simp only[loadD,cellsAt,ho,if_true];rw[if_pos (by omega)];rfl
    ·split at h<;>try contradiction
     next q hq=>
      obtain⟨w,hw,hcw⟩:=RSL_get hds hq
      have hlt:=getElem?_lt hw
      refine⟨_,h,w,?_,hcw⟩
      simp only[loadD,cellsAt,ho,zF,if_false]
      rw[if_pos (by omega),zO hlt]
      rw[zL hlt]at hw
      injection hw with hw
      simp[hw]
  case ptrA k sz' i off=>
   obtain⟨hk,rfl,hrk⟩:=hd
   split at h<;>try contradiction
   next fz szr xs hr=>
    obtain⟨rr,hrr,hrc⟩:=rowR_some hr
    obtain⟨hs,hi⟩:=hrk _ _ (rk_arr hrr hrc)
    subst hs
    obtain⟨o,ho,ds,b,rfl,hfz,hds,hsz⟩:=hS.row hr (by simp)
    have ho:st.mem ((cxOf ρ τ p st).ρ k)=some (.row ds b):=ho
    have hl:ds.length=xs.length * szr:=by have:=congrArg List.length hds;rw[cl0L_len,flatD_len hsz]at this;exact this
    have hmul:(i+1) * szr≤xs.length * szr:=zW _ hi
    have hmul':(i+1) * szr=i * szr+szr:=by rw[Nat.add_mul,Nat.one_mul]
    have hpre : ∀ x,xs[i]?=some x→toDL x.parts <+: cl0L (ds.drop (i * szr)):=by
     intro x hx
     rw[cl0L_drop,hds,flatD_drop hsz,flatD_at hx]
     exact List.prefix_append _ _
    split at h
    ·split at h<;>try contradiction
     next hle=>
      have hle:=zT hle
      rw[zA]at h
      obtain⟨x,hx,h⟩:=h
      have hok:=szOk_get hsz hx
      have hxl:=okN_len hok
      have hw:loadD st true sz (.ptr ((cxOf ρ τ p st).ρ k) (i * szr+off))=some (.agg ((ds.drop (i * szr+off)).take sz)):=by
       simp only[loadD,cellsAt,ho,if_true];rw[if_pos (by omega)];rfl
      have hp2:(D.agg ((ds.drop (i * szr+off)).take sz)).cl0=(subV x off sz).toD:=by
       have h2:=pre_drop (hpre x hx) off
       rw[List.drop_drop,toDL_drop]at h2
       have:=(pre_take h2 (n:=sz) (by rw[List.length_drop];omega)).2
       simp only[subV,D.cl0,V.toD,this]
      split at h
      ·next hc=>
       simp only[zG]at hc
       have h1:=zJ hc.1
       have h2:1<szr:=zT hc.2
       refine⟨_,h,_,hw,?_⟩
       show(D.agg _).cl0=_
       rw[hp2]
       have h0:off=0:=by omega
       subst h0
       rw[subV,zU,zV (by omega),← parts_agg hok h2]
      ·exact⟨_,h,_,hw,hp2⟩
    ·rw[zA]at h
     obtain⟨x,hx,h⟩:=h
     rw[zA]at h
     obtain⟨c,hc,h⟩:=h
     obtain⟨w,hw,hcw⟩:=pre_get (hpre x hx) (fld_parts hc)
     rw[List.getElem?_drop]at hw
     have hlt:=getElem?_lt hw
     refine⟨_,h,w,?_,hcw⟩
     simp only[loadD,cellsAt,ho,zF,if_false]
     rw[if_pos (by omega),zO hlt]
     rw[zL hlt]at hw
     injection hw with hw
     simp[hw]
  case elx sz' x off=>
   obtain⟨hok,ds,rfl,hpre⟩:=hd
   have hxl:=okN_len hok
   rw[toDL_drop]at hpre
   split at h
   ·split at h<;>try contradiction
    next hle=>
     have hle:=zT hle
     have hp:=pre_take hpre (n:=sz) (by rw[List.length_drop];omega)
     have hw:loadD st true sz (.el ds)=some (.agg (ds.take sz)):=by
      simp only[loadD,cellsAt,if_true];rw[if_pos hp.1];rfl
     have hp2:(D.agg (ds.take sz)).cl0=(subV x off sz).toD:=by
      simp only[subV,D.cl0,V.toD,hp.2]
     split at h
     ·next hc=>
      simp only[zG]at hc
      have h1:=zJ hc.1
      have h2:1<sz':=zT hc.2
      refine⟨_,h,_,hw,?_⟩
      show(D.agg _).cl0=_
      rw[hp2]
      have h0:off=0:=by omega
      subst h0
      rw[subV,zU,zV (by omega),← parts_agg hok h2]
     ·exact⟨_,h,_,hw,hp2⟩
   ·rw[zA]at h
    obtain⟨c,hc,h⟩:=h
    have hc':(x.parts.drop off)[0]?=some c:=by rw[List.getElem?_drop];exact fld_parts hc
    obtain⟨w,hw,hcw⟩:=pre_get hpre hc'
    refine⟨_,h,w,?_,hcw⟩
    cases ds with
    | nil=>simp at hw
    | cons d s=>simp at hw;subst hw;simp[loadD,cellsAt]
  case el cs=>
   obtain⟨ds,rfl,hpre⟩:=hd
   split at h
   ·obtain⟨hle,h⟩:=tst_some h
    have hle:=zT hle
    have hp:=pre_take hpre hle
    refine⟨_,h,.agg (ds.take sz),?_,?_⟩
    ·simp only[loadD,cellsAt,if_true];rw[if_pos hp.1];rfl
    ·show(D.agg _).cl0=_
     simp only[D.cl0,V.toD,hp.2]
   ·rw[zA]at h
    obtain⟨c,hc,h⟩:=h
    obtain⟨w,hw,hcw⟩:=pre_get hpre hc
    refine⟨_,h,w,?_,hcw⟩
    cases ds with
    | nil=>simp at hw
    | cons d s=>simp at hw;subst hw;simp[loadD,cellsAt]
theorem RCL_mk{c:Cx}{l:List PD}{ds:List D}(h:RPL c l ds){cap:List CP}(k:mkCap l=some cap):RCL c.ρ c.m cap ds:=by
 induction l generalizing ds cap with
 | nil=>cases ds with
  | nil=>simp[mkCap]at k;subst k;trivial
  | cons d s=>exact h.elim
 | cons q r' ih=>cases ds with
  | nil=>exact h.elim
  | cons d s=>
   unfold mkCap at k
   split at k<;>try contradiction
   ·next x r'' e=>
    injection e with e1 e2;subst e1;subst e2
    split at k<;>try contradiction
    next l' hl=>injection k with k;subst k;exact⟨h.1,ih h.2 hl⟩
   ·next k' off r'' e=>
    injection e with e1 e2;subst e1;subst e2
    split at k<;>try contradiction
    next l' hl=>injection k with k;subst k;exact⟨h.1,ih h.2 hl⟩
theorem minV_ok{x:V}{l:List V}{d:D}{ds:List D}(hd:d.cl0=x.toD)(hl:cl0L ds=toDL l){y:V}(h:minV x l=some y):minD d ds=some y.toD:=by
 induction l generalizing x d ds with
 | nil=>
  cases ds with
  | nil=>
    unfold minV at h;split at h<;>try contradiction
    injection h with h;subst h;rw[cl0_int hd];rfl
  | cons a b=>simp[cl0L,toDL]at hl
 | cons z r ih=>
  cases ds with
  | nil=>simp[cl0L,toDL]at hl
  | cons a b=>
   simp only[cl0L,toDL,List.cons.injEq]at hl
   unfold minV at h
   split at h<;>try contradiction
   ·next k x' k' y' r'' e=>
    injection e with e1 e2;subst e1;subst e2
    rw[cl0_int hd,cl0_int hl.1]
    simp only[minD]
    split at h<;>try contradiction
    next hk=>rw[if_pos hk];exact ih rfl hl.2 h
theorem maxV_ok{x:V}{l:List V}{d:D}{ds:List D}(hd:d.cl0=x.toD)(hl:cl0L ds=toDL l){y:V}(h:maxV x l=some y):maxD d ds=some y.toD:=by
 induction l generalizing x d ds with
 | nil=>
  cases ds with
  | nil=>
    unfold maxV at h;split at h<;>try contradiction
    injection h with h;subst h;rw[cl0_int hd];rfl
  | cons a b=>simp[cl0L,toDL]at hl
 | cons z r ih=>
  cases ds with
  | nil=>simp[cl0L,toDL]at hl
  | cons a b=>
   simp only[cl0L,toDL,List.cons.injEq]at hl
   unfold maxV at h
   split at h<;>try contradiction
   ·next k x' k' y' r'' e=>
    injection e with e1 e2;subst e1;subst e2
    rw[cl0_int hd,cl0_int hl.1]
    simp only[maxD]
    split at h<;>try contradiction
    next hk=>rw[if_pos hk];exact ih rfl hl.2 h
theorem allOneV_of{xs:List V}{ds:List D}(h1:cl0L ds=toDL xs)(h2:allOne ds=true):allOneV xs=true:=by
 induction ds generalizing xs with
 | nil=>cases xs with
  | nil=>rfl
  | cons x s=>simp[cl0L,toDL]at h1
 | cons d t ih=>
  cases xs with
  | nil=>simp[cl0L,toDL]at h1
  | cons x s=>
   simp only[cl0L,toDL,List.cons.injEq]at h1
   simp only[allOne,zG]at h2
   simp only[allOneV,zG]
   refine⟨?_,ih h1.2 h2.2⟩
   have h3:=h1.1
   have h4:=h2.1
   cases x<;>first
    | rfl
    | (simp only[V.toD]at h3;obtain⟨_,rfl,_⟩:=cl0_agg h3;simp[D.oneCell]at h4)
    | (simp only[V.toD]at h3;obtain⟨_,rfl,_⟩:=cl0_tup h3;simp[D.oneCell]at h4)
theorem mkEl_parts{l:List V}(h:allOneV l=true):(mkEl l).parts=l:=by
 match l,h with
 | [],_=>rfl
 | [x],h=>simp only[mkEl];cases x<;>simp_all [V.parts,allOneV,V.one]
 | _::_::_,_=>rfl
theorem zeroL_ok{z:List D}{l:List V}(h:zeroL z=some l):cl0L z=toDL l∧allOne z=true∧allOneV l=true∧0<l.length∧(mkEl l).parts=l:=by
 unfold zeroL at h
 split at h<;>try contradiction
 split at h<;>try contradiction
 split at h<;>try contradiction
 split at h<;>try contradiction
 next l0 hl _ h1 _ l' hl' _ hz=>
  injection h with h;subst h
  have hzl:=pureL_ok (constL_ok (c:=⟨id,fun _=>none,0,fun _=>none,fun _=>none,0⟩) hl) hl'
  have hzo:=constL_one hl h1
  have hone:=allOneV_of hzl hzo
  exact⟨hzl,hzo,hone,zT hz,mkEl_parts hone⟩
theorem rep_flat{z:List D}{l:List V}(hzl:cl0L z=toDL l)(hel:(mkEl l).parts=l)(n:Nat):cl0L (rep n z)=flatD (List.replicate n (mkEl l)):=by
 rw[flatD_rep,hel]
 induction n with
 | zero=>rfl
 | succ n ih=>simp only[rep,List.replicate_succ,List.flatten_cons,cl0L_append,hzl]at ih ⊢;rw[ih]
theorem RV_toD{c:Cx}(x:V):RP c (.s (.v x)) x.toD:=toD_cl0 x
theorem popA{E:Env}{gl:Gl}{pc:PcT}(hg:GlR E gl)(hS:Sim ρ τ p st){o:O}(hq:quiet o=true){K:Option PD→PSt→Option ρ'}(h:popK gl pc p o K=some r) :
  ∃ d,K (some d) p=some r ∧ ∃ e,opD E st o=some (some e,st)∧RP (cxOf ρ τ p st) d e:=by
 cases o<;>simp[quiet]at hq<;>simp only[popK]at h
 case mv x=>
  split at h<;>try contradiction
  next d hd=>
   obtain⟨e,he,hr⟩:=evH_ok hg hS hd
   exact⟨d,h,e,by simp[opD,he],hr⟩
 case pick c a b=>
  split at h<;>try contradiction
  split at h<;>try contradiction
  split at h<;>try contradiction
  next c hc _ x hx _ y hy=>
   rw[zA]at h
   obtain⟨cb,hcb,h⟩:=h
   obtain⟨e1,he1,hr1⟩:=evV_ok hg hS hc
   obtain⟨e2,he2,hr2⟩:=evV_ok hg hS hx
   obtain⟨e3,he3,hr3⟩:=evV_ok hg hS hy
   have:=asBool_ok hcb hr1;subst this
   cases cb
   ·exact⟨_,h,e3,by simp[opD,he1,he3],hr3⟩
   ·exact⟨_,h,e2,by simp[opD,he1,he2],hr2⟩
 case build z ps=>
  split at h<;>try contradiction
  split at h<;>try contradiction
  next l hl _ h1=>
   obtain⟨cs,h2,l',es,h3,h4,h5,h6⟩:=buildK_ok hg hS (constL_ok hl) (constL_one hl h1) h
   exact⟨_,h2,.agg es,by simp[opD,h3,h4],mkAgg_ok h5 h6⟩
 case lit n z ps=>
  split at h<;>try contradiction
  next l hl=>
   obtain⟨hzl,hzo,hone,hz,hel⟩:=zeroL_ok hl
   have hok:okN l.length (mkEl l)=true:=okN_mk (by rw[hel]) (by rw[hel];exact hone)
   have hflat:cl0L (rep n z)=flatD (List.replicate n (mkEl l)):=rep_flat hzl hel n
   obtain⟨els,h2,h3,h4,l2,es,h5,h6,h7,h8⟩:=litK_ok hg hS hz (szOk_rep hok) hflat (allOne_rep hzo n) h
   refine⟨_,h2,.sl .full n es,?_,es,by rw[h3,List.length_replicate],h7⟩
   simp[opD,h5,h6,h8]
 case load ag sz a=>
  split at h<;>try contradiction
  next d hd=>
   obtain⟨e,he,hr⟩:=evH_ok hg hS hd
   obtain⟨v,h1,w,h2,h3⟩:=loadK_ok hS hr h
   exact⟨v,h1,w,by simp[opD,he,h2],h3⟩
 case chk x=>
  split at h<;>try contradiction
  next k off hd=>
   obtain⟨e,he,hr⟩:=evH_ok hg hS hd
   obtain⟨h1,rfl⟩:=hr
   exact⟨_,h,_,by simp[opD,he],h1,rfl⟩
  next k sz i off hd=>
   obtain⟨e,he,hr⟩:=evH_ok hg hS hd
   obtain⟨h1,rfl,h2⟩:=hr
   exact⟨_,h,_,by simp[opD,he],h1,rfl,h2⟩
  next cs hd=>
   obtain⟨e,he,hr⟩:=evH_ok hg hS hd
   obtain⟨ds,rfl,h1⟩:=hr
   exact⟨_,h,_,by simp[opD,he],ds,rfl,h1⟩
  next sz x off hd=>
   obtain⟨e,he,hr⟩:=evH_ok hg hS hd
   obtain⟨h1,ds,rfl,h2⟩:=hr
   exact⟨_,h,_,by simp[opD,he],h1,ds,rfl,h2⟩
  next f c hd=>
   obtain⟨e,he,hr⟩:=evH_ok hg hS hd
   obtain⟨ds,rfl,h1⟩:=hr
   exact⟨_,h,_,by simp[opD,he],ds,rfl,h1⟩
 case bin op x y=>
  split at h<;>try contradiction
  split at h<;>try contradiction
  next x hx _ y hy=>
   rw[zA]at h
   obtain⟨d,hd,h⟩:=h
   obtain⟨e1,he1,hr1⟩:=evV_ok hg hS hx
   obtain⟨e2,he2,hr2⟩:=evV_ok hg hS hy
   exact⟨_,h,_,by simp[opD,he1,he2,binV_ok hr1 hr2 hd],RV_toD d⟩
 case beq neg x y=>
  split at h<;>try contradiction
  split at h<;>try contradiction
  next x hx _ y hy=>
   rw[zA]at h
   obtain⟨a,ha,h⟩:=h
   rw[zA]at h
   obtain⟨b,hb,h⟩:=h
   obtain⟨e1,he1,hr1⟩:=evV_ok hg hS hx
   obtain⟨e2,he2,hr2⟩:=evV_ok hg hS hy
   have:=asBool_ok ha hr1;subst this
   have:=asBool_ok hb hr2;subst this
   refine⟨_,h,.bool (if neg=true then !(a == b)else a == b),by simp only[opD,he1,he2],?_⟩
   cases neg<;>rfl
 case inil neg x=>
  split at h<;>try contradiction
  next x hx=>
   rw[zA]at h
   obtain⟨d,hd,h⟩:=h
   obtain⟨e1,he1,hr1⟩:=evV_ok hg hS hx
   refine⟨_,h,d.toD,?_,RV_toD d⟩
   unfold inilV at hd
   split at hd<;>try contradiction
   all_goals injection hd with hd;subst hd
   ·have:e1 = .nili:=by cases e1<;>simp_all [D.cl0,V.toD]
    simp[opD,he1,this,V.toD]
   ·have : ∃ t d,e1 = .iface t d:=by cases e1<;>simp_all [D.cl0,V.toD]
    obtain⟨t,d,rfl⟩:=this
    simp[opD,he1,V.toD]
 case un op x=>
  split at h<;>try contradiction
  next x hx=>
   rw[zA]at h
   obtain⟨d,hd,h⟩:=h
   obtain⟨e1,he1,hr1⟩:=evV_ok hg hS hx
   exact⟨_,h,_,by simp[opD,he1,unV_ok hr1 hd],RV_toD d⟩
 case cvi k x=>
  split at h<;>try contradiction
  next x hx=>
   rw[zA]at h
   obtain⟨d,hd,h⟩:=h
   obtain⟨e1,he1,hr1⟩:=evV_ok hg hS hx
   unfold cviV at hd
   split at hd<;>try contradiction
   injection hd with hd;subst hd
   exact⟨_,h,_,by simp[opD,he1,cl0_int hr1];rfl,RV_toD _⟩
 case cms x=>
  split at h<;>try contradiction
  next x hx=>
   rw[zA]at h
   obtain⟨d,hd,h⟩:=h
   obtain⟨e1,he1,hr1⟩:=evV_ok hg hS hx
   unfold cmsV at hd
   split at hd<;>try contradiction
   injection hd with hd;subst hd
   exact⟨_,h,_,by simp[opD,he1,cl0_str hr1];rfl,RV_toD _⟩
 case cbs x=>
  split at h<;>try contradiction
  next d hd=>
   obtain⟨e,he,hr⟩:=evH_ok hg hS hd
   obtain⟨xs,h1,h2,⟨ds,h3,h4⟩,h5⟩:=slK_ok hS hr h
   rw[zA]at h1
   obtain⟨s,hs,h1⟩:=h1
   refine⟨_,h1,_,?_,RV_toD _⟩
   have hb:=asBytesV_ok hs h4
   have hk:(∃ g n ys,e = .sl g n ys) ∨ ∃ k off n c s,e = .ref k off n c s:=by
    cases hi:d.isRef with
    | false=>obtain⟨g,ds,rfl,_⟩:=h5 hi;exact .inl ⟨_,_,_,rfl⟩
    | true=>
     unfold PD.isRef at hi
     split at hi<;>try contradiction
     obtain⟨_,_,h6,_⟩:=hr
     rcases h6 with⟨rfl,_⟩ | ⟨_,rfl,_⟩
     ·exact .inr ⟨_,_,_,_,_,rfl⟩
     ·exact .inl ⟨_,_,_,rfl⟩
   rcases hk with⟨g,n,ys,rfl⟩ | ⟨k,off,n,c,s',rfl⟩
   ·simp[opD,he,h3,hb,V.toD]
   ·simp[opD,he,h3,hb,V.toD]
 case csb x=>
  split at h<;>try contradiction
  next x hx=>
   rw[zA]at h
   obtain⟨s,hs,h⟩:=h
   obtain⟨e1,he1,hr1⟩:=evV_ok hg hS hx
   have:=asStr_ok hs hr1;subst this
   refine⟨_,h,.sl .no s.length (ofBytes s),by simp only[opD,he1],?_⟩
   show(D.sl .no s.length (ofBytes s)).cl0=_
   simp only[D.cl0,V.toD]
   rw[← flatD_bytes,flatD_cl0]
   simp[ofBytesV]
 case ifc t x=>
  split at h<;>try contradiction
  split at h<;>try contradiction
  next d hd _ x hx=>
   obtain⟨e,he,hr⟩:=evH_ok hg hS hd
   refine⟨_,h,.iface t e,by simp[opD,he],?_⟩
   show(D.iface t e).cl0=_
   simp only[D.cl0,V.toD,PD.pure_ok hr hx]
 case mkf f cap=>
  split at h<;>try contradiction
  next l hl=>
   obtain⟨es,h1,h2⟩:=evHL_ok hg hS hl
   split at h<;>try contradiction
   next cap' hc=>exact⟨_,h,.fn f es,by simp[opD,h1],es,rfl,RCL_mk h2 hc⟩
 case slc sz x l h' m=>
  split at h<;>try contradiction
  split at h<;>try contradiction
  split at h<;>try contradiction
  split at h<;>try contradiction
  next d hd _ lv hl _ hv hh _ mv hm=>
   obtain⟨e,he,hr⟩:=evH_ok hg hS hd
   obtain⟨l1,hl1,hl2⟩:=evVO_ok hg hS hl
   obtain⟨h1,hh1,hh2⟩:=evVO_ok hg hS hh
   obtain⟨m1,hm1,hm2⟩:=evVO_ok hg hS hm
   split at h
   ·next k sz' off n c z=>
    split at h<;>try contradiction
    next hsz=>
     have hsz:=zJ hsz;subst hsz
     rw[zA]at h
     obtain⟨q,hq,h⟩:=h
     unfold bndR at hq
     rw[zA]at hq
     obtain⟨l',hl',hq⟩:=hq
     rw[zA]at hq
     obtain⟨h'',hh',hq⟩:=hq
     rw[zA]at hq
     obtain⟨m',hm',hq⟩:=hq
     split at hq<;>try contradiction
     next hc=>
      injection hq with hq;subst hq
      have e1:=bndV_ok hl2 hl'
      have e2:=bndV_ok hh2 hh'
      have e3:=bndV_ok hm2 hm'
      obtain⟨hk,hn,hdd,hrk⟩:=hr
      have hmn:m1.isNone=mv.isNone:=by cases m1<;>cases mv<;>simp_all
      have hhs:h1.isSome=hv.isSome:=by cases h1<;>cases hv<;>simp_all
      have hcl:l'≤h''∧h''≤m'∧m'≤c:=hc.2
      rcases hdd with⟨rfl,_⟩ | ⟨rfl,rfl,_⟩
      ·refine⟨_,h,(if m'=l' then .sl .full 0 []else .ref (ρ k) (off * sz'+l' * sz') (h'' - l') (m' - l') sz'),?_,?_⟩
       ·simp only[opD,he,zD,hl1,hh1,hm1,sliceD,e1,e2,e3]
        rw[if_pos ⟨by rw[hmn,hhs];exact hc.1,trivial,hc.2⟩];rfl
       ·refine⟨hk,by simp only;omega,?_,fun s l hsl => ?_⟩
        ·simp only
         by_cases hml:m'=l'
         ·right;exact⟨by omega,by rw[if_pos hml],trivial⟩
         ·left;rw[if_neg hml,Nat.add_mul];exact⟨rfl,.inr (by omega)⟩
        ·obtain⟨h5,h6⟩:=hrk s l hsl
         exact⟨h5,by simp only;omega⟩
      ·have hl0:l'=0:=by omega
       have hh0:h''=0:=by omega
       have hm0:m'=0:=by omega
       have hn0:n=0:=by omega
       subst hl0;subst hh0;subst hm0;subst hn0
       refine⟨_,h,.sl .full 0 [],?_,?_⟩
       ·simp only[opD,he,zD,hl1,hh1,hm1,sliceD,e1,e2]
        cases m1 with
        | none=>simp
        | some m2=>
         have:h1.isSome=true:=by rw[hhs];rcases hc.1 with h7 | h7<;>simp_all
         simp only[e3,zD]
         rw[if_pos ⟨this,by omega,by omega,by omega⟩]
         simp
       ·exact⟨hk,by simp,.inr ⟨by simp,rfl,rfl⟩,fun s l hsl=>⟨(hrk s l hsl).1,by have:=(hrk s l hsl).2;simp only;omega⟩⟩
   ·next hnr=>
    have hir:d.isRef=false:=by
     cases d with
     | agg ps=>rfl
     | s q=>cases q<;>first | rfl | exact(hnr _ _ _ _ _ _ rfl).elim
    obtain⟨xs,h2,h3,_,h5⟩:=slK_ok hS hr h
    obtain⟨g,ds,rfl,hds⟩:=h5 hir
    split at h2
    ·next=>
     rw[zA]at h2
     obtain⟨q,hq,h2⟩:=h2
     unfold bnd2 at hq
     rw[zA]at hq
     obtain⟨l',hl',hq⟩:=hq
     rw[zA]at hq
     obtain⟨h'',hh',hq⟩:=hq
     split at hq<;>try contradiction
     next hc=>
      injection hq with hq;subst hq
      have e1:=bndV_ok hl2 hl'
      have e2:=bndV_ok hh2 hh'
      have hm0:m1=none:=by cases m1<;>simp_all
      subst hm0
      have hll:((xs.drop l').take (h'' - l')).length=h'' - l':=by rw[List.length_take,List.length_drop];omega
      refine⟨_,h2,_,by simp only[opD,he,zD,hl1,hh1,hm1,sliceD,e1,e2];rw[if_pos hc];rfl,?_⟩
      show D.cl0 _=_
      simp only[V.toD,hll]
      split
      ·next h0=>
       obtain⟨rfl,rfl⟩:=h0
       simp only[D.cl0,hds,zU,Nat.sub_zero,List.take_length]
      ·simp only[D.cl0,cl0L_take,cl0L_drop,hds,flatD_drop h3,flatD_take (szOk_drop h3 _)]
    ·next m2=>
     rw[zA]at h2
     obtain⟨q,hq,h2⟩:=h2
     unfold bnd3 at hq
     rw[zA]at hq
     obtain⟨l',hl',hq⟩:=hq
     rw[zA]at hq
     obtain⟨h'',hh',hq⟩:=hq
     rw[zA]at hq
     obtain⟨m',hm',hq⟩:=hq
     split at hq<;>try contradiction
     next hc=>
      injection hq with hq;subst hq
      have e1:=bndV_ok hl2 hl'
      have e2:=bndV_ok hh2 hh'
      have e3:=bndV_ok hm2 hm'
      have hhs:h1.isSome=hv.isSome:=by cases h1<;>cases hv<;>simp_all
      obtain⟨m3,rfl⟩ : ∃ m3,m1=some m3:=by cases m1<;>simp_all
      have hll:((xs.drop l').take (h'' - l')).length=h'' - l':=by rw[List.length_take,List.length_drop];omega
      refine⟨_,h2,.sl .full (h'' - l') ((ds.drop (l' * sz)).take ((h'' - l') * sz)),?_,_,by rw[hll],?_⟩
      ·simp only[opD,he,zD,hl1,hh1,hm1,sliceD,e1,e2,e3]
       rw[if_pos ⟨by rw[hhs];exact hc.1,hc.2.1,by omega,hc.2.2.2⟩,if_pos hc.2.2.1];rfl
      ·simp only[cl0L_take,cl0L_drop,hds,flatD_drop h3,flatD_take (szOk_drop h3 _)]
 case sls x l h'=>
  split at h<;>try contradiction
  split at h<;>try contradiction
  split at h<;>try contradiction
  next x hx _ lv hl _ hv hh=>
   rw[zA]at h
   obtain⟨d,hd,h⟩:=h
   obtain⟨e,he,hr⟩:=evV_ok hg hS hx
   obtain⟨l1,hl1,hl2⟩:=evVO_ok hg hS hl
   obtain⟨h1,hh1,hh2⟩:=evVO_ok hg hS hh
   unfold slsV at hd
   split at hd<;>try contradiction
   rw[zA]at hd
   obtain⟨q,hq,hd⟩:=hd
   injection hd with hd;subst hd
   unfold bnd2 at hq
   rw[zA]at hq
   obtain⟨l',hl',hq⟩:=hq
   rw[zA]at hq
   obtain⟨h'',hh',hq⟩:=hq
   split at hq<;>try contradiction
   next hc=>
    injection hq with hq;subst hq
    refine⟨_,h,_,?_,RV_toD _⟩
    simp only[opD,he,zD,hl1,hh1,cl0_str hr,sliceS,bndV_ok hl2 hl',bndV_ok hh2 hh']
    rw[if_pos hc];rfl
 case sla n sz x l h' m=>
  split at h<;>try contradiction
  split at h<;>try contradiction
  split at h<;>try contradiction
  split at h<;>try contradiction
  next d hd _ lv hl _ hv hh _ mv hm=>
   unfold slaK at h
   split at h<;>try contradiction
   next q=>
   split at h<;>try contradiction
   next k o=>
   split at h<;>try contradiction
   next fz sz' xs hrow=>
   split at h<;>try contradiction
   next hb=>
   simp only[zG]at hb
   obtain⟨ho,hsz⟩:=hb
   have ho:=zJ ho;subst ho
   have hsz:=zJ hsz;subst hsz
   obtain⟨hn,h⟩:=tst_some h
   have hn:=zT hn
   obtain⟨e,he,hr⟩:=evH_ok hg hS hd
   obtain⟨hk,rfl⟩:=hr
   obtain⟨l1,hl1,hl2⟩:=evVO_ok hg hS hl
   obtain⟨h1,hh1,hh2⟩:=evVO_ok hg hS hh
   obtain⟨m1,hm1,hm2⟩:=evVO_ok hg hS hm
   rw[zA]at h
   obtain⟨q,hq,h⟩:=h
   unfold bndR at hq
   rw[zA]at hq
   obtain⟨l',hl',hq⟩:=hq
   rw[zA]at hq
   obtain⟨h'',hh',hq⟩:=hq
   rw[zA]at hq
   obtain⟨m',hm',hq⟩:=hq
   split at hq<;>try contradiction
   next hc=>
    injection hq with hq;subst hq
    have e1:=bndV_ok hl2 hl'
    have e2:=bndV_ok hh2 hh'
    have e3:=bndV_ok hm2 hm'
    have hmn:m1.isNone=mv.isNone:=by cases m1<;>cases mv<;>simp_all
    have hhs:h1.isSome=hv.isSome:=by cases h1<;>cases hv<;>simp_all
    have hcl:l'≤h''∧h''≤m'∧m'≤n:=hc.2
    refine⟨_,h,(if m'=l' then .sl .full 0 []else .ref (ρ k) (0+l' * sz) (h'' - l') (m' - l') sz),?_,?_⟩
    ·simp only[opD,he,zD,hl1,hh1,hm1,sliceA,e1,e2,e3]
     rw[if_pos ⟨by rw[hmn,hhs];exact hc.1,hc.2⟩];rfl
    ·refine⟨hk,by simp only;omega,?_,fun s l hsl => ?_⟩
     ·simp only
      by_cases hml:m'=l'
      ·right;exact⟨by omega,by rw[if_pos hml],trivial⟩
      ·left;rw[if_neg hml,Nat.zero_add];exact⟨rfl,.inr (by omega)⟩
     ·obtain⟨rr,h7,h8⟩:=rowR_some hrow
      have hsl:rkOf p.rows k=some (s,l):=hsl
      rw[rk_arr h7 h8]at hsl
      simp only[Option.some.injEq,Prod.mk.injEq]at hsl
      obtain⟨rfl,rfl⟩:=hsl
      exact⟨rfl,by simp only;omega⟩
 case fad off x=>
  split at h<;>try contradiction
  next k o hd=>
   obtain⟨e,he,hr⟩:=evH_ok hg hS hd
   obtain⟨h1,rfl⟩:=hr
   exact⟨_,h,_,by simp[opD,he],h1,rfl⟩
  next k sz i o hd=>
   obtain⟨e,he,hr⟩:=evH_ok hg hS hd
   obtain⟨h1,rfl,h2⟩:=hr
   exact⟨_,h,.ptr (ρ k) (i * sz+o+off),by simp[opD,he];rfl,h1,by rw[Nat.add_assoc];rfl,h2⟩
  next cs hd=>
   obtain⟨e,he,hr⟩:=evH_ok hg hS hd
   obtain⟨ds,rfl,h1⟩:=hr
   exact⟨_,h,.el (ds.drop off),by simp[opD,he],_,rfl,by rw[← toDL_drop];exact pre_drop h1 off⟩
  next sz x o hd=>
   obtain⟨e,he,hr⟩:=evH_ok hg hS hd
   obtain⟨h1,ds,rfl,h2⟩:=hr
   refine⟨_,h,.el (ds.drop off),by simp[opD,he],h1,_,rfl,?_⟩
   have:=pre_drop h2 off
   rw[List.drop_drop]at this;exact this
 case fld ag off sz x=>
  split at h<;>try contradiction
  next x hd=>
   obtain⟨e,he,hr⟩:=evH_ok hg hS hd
   have hr:e.cl0=x.toD:=hr
   split at h
   ·rw[zA]at h
    obtain⟨d,hd,h⟩:=h
    unfold subA at hd
    split at hd<;>try contradiction
    split at hd<;>try contradiction
    next xs hle=>
     injection hd with hd;subst hd
     obtain⟨l,rfl,hl⟩:=cl0_agg hr
     have hll:=len_of hl
     refine⟨_,h,.agg ((l.drop off).take sz),?_,sub_ok hl off sz⟩
     simp only[opD,he,zD,if_true]
     rw[if_pos (by omega)]
   ·rw[zA]at h
    obtain⟨d,hd,h⟩:=h
    unfold fldA at hd
    split at hd<;>try contradiction
    obtain⟨l,rfl,hl⟩:=cl0_agg hr
    obtain⟨w,hw,hcw⟩:=cl0_get hl hd
    exact⟨_,h,w,by simp[opD,he,hw],hcw⟩
  next ps hd=>
   obtain⟨e,he,hr⟩:=evH_ok hg hS hd
   obtain⟨ds,rfl,hds,h1⟩:=hr
   have hl:=RSL_len hds
   split at h
   ·split at h<;>try contradiction
    next hle=>
     have hle:=zT hle
     refine⟨_,h,.agg ((ds.drop off).take sz),?_,mkAgg_ok (RSL_take (RSL_drop hds _) _) (allOne_take (allOne_drop h1 _) _)⟩
     simp only[opD,he,zD,if_true]
     rw[if_pos (by omega)]
   ·split at h<;>try contradiction
    next q hq=>
     obtain⟨w,hw,hcw⟩:=RSL_get hds hq
     exact⟨_,h,w,by simp[opD,he,hw],hcw⟩
 case iad sz x i=>
  split at h<;>try contradiction
  split at h<;>try contradiction
  next d hd _ iv hi=>
   obtain⟨e,he,hr⟩:=evH_ok hg hS hd
   obtain⟨e1,he1,hr1⟩:=evV_ok hg hS hi
   split at h
   ·next k sz' off n c z=>
    split at h<;>try contradiction
    next hsz=>
     simp only[zG]at hsz
     have h1:=zJ hsz.1;subst h1
     rw[zA]at h
     obtain⟨j,hj,h⟩:=h
     have hj':=idxV_ok hr1 hj
     have hlt:=idx_lt hj'
     obtain⟨hk,hn,hdd,hrk⟩:=hr
     rcases hdd with⟨rfl,_⟩ | ⟨rfl,rfl,_⟩
     ·refine⟨_,h,.ptr (ρ k) (off * sz'+j * sz'),?_,hk,?_,fun s l hsl => ?_⟩
      ·simp only[opD,he,he1,zD,hj'];rw[if_pos trivial];rfl
      ·rw[Nat.add_mul];rfl
      ·obtain⟨h5,h6⟩:=hrk s l hsl
       exact⟨h5,by omega⟩
     ·omega
   ·next hnr=>
    have hir:d.isRef=false:=by
     cases d with
     | agg ps=>rfl
     | s q=>cases q<;>first | rfl | exact(hnr _ _ _ _ _ _ rfl).elim
    obtain⟨xs,h2,h3,_,h5⟩:=slK_ok hS hr h
    obtain⟨g,ds,rfl,hds⟩:=h5 hir
    rw[zA]at h2
    obtain⟨j,hj,h2⟩:=h2
    rw[zA]at h2
    obtain⟨x,hx,h2⟩:=h2
    have hj':=idxV_ok hr1 hj
    have hlt:=idx_lt hj'
    have hl:ds.length=xs.length * sz:=by have:=congrArg List.length hds;rw[cl0L_len,flatD_len h3]at this;exact this
    have hmul:(j+1) * sz≤xs.length * sz:=zW _ hlt
    refine⟨_,h2,.el (ds.drop (j * sz)),?_,szOk_get h3 hx,_,rfl,?_⟩
    ·simp only[opD,he,he1,zD,hj'];rw[if_pos (by omega)]
    ·rw[zU,cl0L_drop,hds,flatD_drop h3,flatD_at hx]
     exact List.prefix_append _ _
 case iaa n sz x i=>
  split at h<;>try contradiction
  next d hd=>
  split at h<;>try contradiction
  next iv hi=>
  obtain⟨e,he,hr⟩:=evH_ok hg hS hd
  obtain⟨e1,he1,hr1⟩:=evV_ok hg hS hi
  rw[zA]at h
  obtain⟨j,hj,h⟩:=h
  split at h<;>try contradiction
  next k o=>
   obtain⟨h1,rfl⟩:=hr
   split at h
   ·next fz sz' xs hrow=>
    split at h<;>try contradiction
    next hb=>
     simp only[zG]at hb
     obtain⟨ho,hsz⟩:=hb
     have ho:=zJ ho;subst ho
     have hsz:=zJ hsz;subst hsz
     obtain⟨hlt,h⟩:=tst_some h
     have hlt:j<xs.length:=zT hlt
     refine⟨_,h,.ptr (ρ k) (0+j * sz),by simp[opD,he,he1,idxV_ok hr1 hj];rfl,h1,by rw[Nat.zero_add,Nat.add_zero];rfl,fun s n hsn => ?_⟩
     obtain⟨rr,h7,h8⟩:=rowR_some hrow
     have hsn:rkOf p.rows k=some (s,n):=hsn
     rw[rk_arr h7 h8]at hsn
     simp only[Option.some.injEq,Prod.mk.injEq]at hsn
     obtain⟨rfl,rfl⟩:=hsn
     exact⟨rfl,hlt⟩
   ·exact⟨_,h,.ptr (ρ k) (o+j * sz),by simp[opD,he,he1,idxV_ok hr1 hj];rfl,h1,rfl⟩
  next cs=>
   obtain⟨ds,rfl,h1⟩:=hr
   exact⟨_,h,.el (ds.drop (j * sz)),by simp[opD,he,he1,idxV_ok hr1 hj],_,rfl,by rw[← toDL_drop];exact pre_drop h1 _⟩
 case ixa ag n sz x i=>
  split at h<;>try contradiction
  split at h<;>try contradiction
  next x hx _ iv hi=>
   rw[zA]at h
   obtain⟨d,hd,h⟩:=h
   obtain⟨e,he,hr⟩:=evV_ok hg hS hx
   obtain⟨e1,he1,hr1⟩:=evV_ok hg hS hi
   unfold ixaV at hd
   split at hd<;>try contradiction
   rw[zA]at hd
   obtain⟨j,hj,hd⟩:=hd
   obtain⟨l,rfl,hl⟩:=cl0_agg hr
   have hll:=len_of hl
   split at hd
   ·next hag=>
    split at hd<;>try contradiction
    next hle=>
     injection hd with hd;subst hd
     refine⟨_,h,.agg ((l.drop (j * sz)).take sz),?_,sub_ok hl _ _⟩
     simp only[opD,he,he1,zD,idxV_ok hr1 hj]
     rw[if_pos hag,if_pos (by omega)]
   ·next hag=>
    obtain⟨w,hw,hcw⟩:=cl0_get hl hd
    refine⟨_,h,w,?_,hcw⟩
    simp only[opD,he,he1,zD,idxV_ok hr1 hj]
    rw[if_neg hag,hw];rfl
 case ixs x i=>
  split at h<;>try contradiction
  split at h<;>try contradiction
  next x hx _ iv hi=>
   rw[zA]at h
   obtain⟨d,hd,h⟩:=h
   obtain⟨e,he,hr⟩:=evV_ok hg hS hx
   obtain⟨e1,he1,hr1⟩:=evV_ok hg hS hi
   unfold ixsV at hd
   split at hd<;>try contradiction
   rw[zA]at hd
   obtain⟨j,hj,hd⟩:=hd
   rw[zA]at hd
   obtain⟨b,hb,hd⟩:=hd
   injection hd with hd;subst hd
   exact⟨_,h,.int .u8 b.toNat,by simp[opD,he,he1,cl0_str hr,idxV_ok hr1 hj,hb],rfl⟩
 case ext x i=>
  split at h<;>try contradiction
  next x hx=>
   rw[zA]at h
   obtain⟨d,hd,h⟩:=h
   obtain⟨e,he,hr⟩:=evV_ok hg hS hx
   unfold extV at hd
   split at hd<;>try contradiction
   obtain⟨l,rfl,hl⟩:=cl0_tup hr
   obtain⟨w,hw,hcw⟩:=cl0_get hl hd
   exact⟨_,h,w,by simp[opD,he,hw],hcw⟩
 case len x=>
  split at h<;>try contradiction
  next x hd=>
   obtain⟨e,he,hr⟩:=evH_ok hg hS hd
   have hr:e.cl0=x.toD:=hr
   rw[zA]at h
   obtain⟨n,hn,h⟩:=h
   unfold lenV at hn
   split at hn<;>try contradiction
   injection hn with hn;subst hn
   obtain⟨g,l,rfl,hl⟩:=cl0_sl hr
   exact⟨_,h,.int .i64 _,by simp only[opD,he,zD],rfl⟩
  next id sz xs hd=>
   obtain⟨e,he,hr⟩:=evH_ok hg hS hd
   obtain⟨g,ds,rfl,_⟩:=hr
   exact⟨_,h,.int .i64 _,by simp only[opD,he,zD],rfl⟩
  next xs hd=>
   obtain⟨e,he,hr⟩:=evH_ok hg hS hd
   obtain⟨ds,rfl,_⟩:=hr
   exact⟨_,h,.int .i64 _,by simp only[opD,he,zD],rfl⟩
  next k sz off n c z hd=>
   obtain⟨e,he,hr⟩:=evH_ok hg hS hd
   obtain⟨hk,hn,hdd,_⟩:=hr
   rcases hdd with⟨rfl,_⟩ | ⟨h1,rfl,_⟩
   ·exact⟨_,h,.int .i64 _,by simp only[opD,he,zD],rfl⟩
   ·have:n=0:=by omega
    subst this
    exact⟨_,h,.int .i64 _,by simp only[opD,he,zD],rfl⟩
 case lns x=>
  split at h<;>try contradiction
  next x hx=>
   rw[zA]at h
   obtain⟨d,hd,h⟩:=h
   obtain⟨e,he,hr⟩:=evV_ok hg hS hx
   unfold lnsV at hd
   split at hd<;>try contradiction
   injection hd with hd;subst hd
   exact⟨_,h,.int .i64 _,by simp only[opD,he,cl0_str hr],rfl⟩
 case cap x=>
  split at h<;>try contradiction
  next xs hd=>
   obtain⟨e,he,hr⟩:=evH_ok hg hS hd
   obtain⟨ds,rfl,_⟩:=hr
   exact⟨_,h,.int .i64 _,by simp only[opD,he,zD],rfl⟩
  next k sz off n c z hd=>
   obtain⟨e,he,hr⟩:=evH_ok hg hS hd
   obtain⟨hk,hn,hdd,_⟩:=hr
   rcases hdd with⟨rfl,_⟩ | ⟨h1,rfl,_⟩
   ·exact⟨_,h,.int .i64 _,by simp only[opD,he,zD],rfl⟩
   ·subst h1
    exact⟨_,h,.int .i64 _,by simp only[opD,he,zD],rfl⟩
 case min xs=>
  split at h<;>try contradiction
  next x l hl=>
   rw[zA]at h
   obtain⟨d,hd,h⟩:=h
   obtain⟨es,h1,h2⟩:=evVL_ok hg hS hl
   cases es with
   | nil=>simp[cl0L,toDL]at h2
   | cons a b=>
    simp only[cl0L,toDL,List.cons.injEq]at h2
    exact⟨_,h,_,by simp[opD,h1,minV_ok h2.1 h2.2 hd],RV_toD d⟩
 case max xs=>
  split at h<;>try contradiction
  next x l hl=>
   rw[zA]at h
   obtain⟨d,hd,h⟩:=h
   obtain⟨es,h1,h2⟩:=evVL_ok hg hS hl
   cases es with
   | nil=>simp[cl0L,toDL]at h2
   | cons a b=>
    simp only[cl0L,toDL,List.cons.injEq]at h2
    exact⟨_,h,_,by simp[opD,h1,maxV_ok h2.1 h2.2 hd],RV_toD d⟩
 case tas=>contradiction
end
end Go.Ev
end
section
namespace Go.Ev
/-- what was known is known still -/
structure Le(c c':Cx):Prop where
 ρ : ∀ k,k<c.m→c'.ρ k=c.ρ k
 m:c.m≤c'.m
 rk : ∀ k,k<c.m→c'.rk k=c.rk k∨c'.rk k=none
 τ : ∀ i l,c.τ i=some l→c'.τ i=some l∧c'.tip l=c.tip l
 ni:c.ni≤c'.ni
/-- the same, but for one lineage -/
structure LeS(id:Nat)(c c':Cx):Prop where
 ρ : ∀ k,k<c.m→c'.ρ k=c.ρ k
 m:c.m≤c'.m
 rk : ∀ k,k<c.m→c'.rk k=c.rk k∨c'.rk k=none
 τ : ∀ i l,i≠id→c.τ i=some l→c'.τ i=some l∧c'.tip l=c.tip l
 ni:c.ni≤c'.ni
theorem RCL.le{ρ ρ':Nat→Nat}{m m':Nat}(hρ : ∀ k,k<m→ρ' k=ρ k)(hm:m≤m'){cap:List CP}{ds:List D}(h:RCL ρ m cap ds):RCL ρ' m' cap ds:=by
 induction cap generalizing ds with
 | nil=>cases ds with | nil=>trivial | cons d s=>exact h.elim
 | cons q r ih=>cases ds with
  | nil=>exact h.elim
  | cons d s=>
   refine⟨?_,ih h.2⟩
   cases q with
   | v x=>exact h.1
   | p k off=>obtain⟨h1,h2⟩:=h.1;exact⟨zK h1 hm,by rw[hρ k h1];exact h2⟩
theorem RS.leS{id:Nat}{c c':Cx}(h:LeS id c c'){q:PS}{d:D}(hr:RS c q d):RS c' (q.strip id) d:=by
 cases q with
 | v x=>exact hr
 | own i sz xs=>
  obtain⟨g,ds,h1,h2,h3,h0,h4⟩:=hr
  simp only[PS.strip]
  split
  ·subst h1;show(D.sl _ _ _).cl0=_;simp only[D.cl0,V.toD,h2]
  ·next hi=>
   have hi:i≠id:=fun e=>by subst e;rw[Nat.beq_refl]at hi;contradiction
   refine⟨g,ds,h1,h2,h3,zK h0 h.ni,?_⟩
   rcases h4 with h4 | ⟨l,h4,h5,h6⟩
   ·exact .inl h4
   ·obtain⟨h7,h8⟩:=h.τ i l hi h5
    exact .inr ⟨l,h4,h7,by rw[h8];exact h6⟩
 | full xs=>exact hr
 | ptr k off=>exact⟨zK hr.1 h.m,by rw[h.ρ k hr.1];exact hr.2⟩
 | ptrA k sz i off=>
  refine⟨zK hr.1 h.m,by rw[h.ρ k hr.1];exact hr.2.1,fun s n hs => ?_⟩
  rcases h.rk k hr.1 with e | e
  ·exact hr.2.2 s n (by rw[← e];exact hs)
  ·rw[e]at hs;contradiction
 | ref k sz off n cp z=>
  refine⟨zK hr.1 h.m,hr.2.1,by rw[h.ρ k hr.1];exact hr.2.2.1,fun s n hs => ?_⟩
  rcases h.rk k hr.1 with e | e
  ·exact hr.2.2.2 s n (by rw[← e];exact hs)
  ·rw[e]at hs;contradiction
 | el cs=>exact hr
 | elx sz x off=>exact hr
 | fn f cap=>obtain⟨ds,h1,h2⟩:=hr;exact⟨ds,h1,RCL.le h.ρ h.m h2⟩
theorem RS.le{c c':Cx}(h:Le c c'){q:PS}{d:D}(hr:RS c q d):RS c' q d:=by
 cases q with
 | own i sz xs=>
  obtain⟨g,ds,h1,h2,h3,h0,h4⟩:=hr
  refine⟨g,ds,h1,h2,h3,zK h0 h.ni,?_⟩
  rcases h4 with h4 | ⟨l,h4,h5,h6⟩
  ·exact .inl h4
  ·obtain⟨h7,h8⟩:=h.τ i l h5
   exact .inr ⟨l,h4,h7,by rw[h8];exact h6⟩
 | _=>exact RS.leS (id:=0) ⟨h.ρ,h.m,h.rk,fun i l _=>h.τ i l,h.ni⟩ hr
theorem RSL.leS{id:Nat}{c c':Cx}(h:LeS id c c'){ps:List PS}{ds:List D}(hr:RSL c ps ds):RSL c' (stripL id ps) ds:=by
 induction ps generalizing ds with
 | nil=>cases ds with | nil=>trivial | cons d s=>exact hr.elim
 | cons q r ih=>cases ds with
  | nil=>exact hr.elim
  | cons d s=>exact⟨RS.leS h hr.1,ih hr.2⟩
theorem RSL.le{c c':Cx}(h:Le c c'){ps:List PS}{ds:List D}(hr:RSL c ps ds):RSL c' ps ds:=by
 induction ps generalizing ds with
 | nil=>cases ds with | nil=>trivial | cons d s=>exact hr.elim
 | cons q r ih=>cases ds with
  | nil=>exact hr.elim
  | cons d s=>exact⟨RS.le h hr.1,ih hr.2⟩
theorem RP.leS{id:Nat}{c c':Cx}(h:LeS id c c'){q:PD}{d:D}(hr:RP c q d):RP c' (q.strip id) d:=by
 cases q with
 | s q=>exact RS.leS h hr
 | agg ps=>obtain⟨ds,h1,h2,h3⟩:=hr;exact⟨ds,h1,RSL.leS h h2,h3⟩
theorem RP.le{c c':Cx}(h:Le c c'){q:PD}{d:D}(hr:RP c q d):RP c' q d:=by
 cases q with
 | s q=>exact RS.le h hr
 | agg ps=>obtain⟨ds,h1,h2,h3⟩:=hr;exact⟨ds,h1,RSL.le h h2,h3⟩
theorem RPL.le{c c':Cx}(h:Le c c'){ps:List PD}{ds:List D}(hr:RPL c ps ds):RPL c' ps ds:=by
 induction ps generalizing ds with
 | nil=>cases ds with | nil=>trivial | cons d s=>exact hr.elim
 | cons q r ih=>cases ds with
  | nil=>exact hr.elim
  | cons d s=>exact⟨RP.le h hr.1,ih hr.2⟩
theorem RW.leS{id:Nat}{c c':Cx}(h:LeS id c c'){q:RowC}{o:Ob}(hr:RW c q o):RW c' (q.strip id) o:=by
 cases q with
 | cells ps=>obtain⟨ds,h1,h2,h3⟩:=hr;exact⟨ds,h1,RSL.leS h h2,h3⟩
 | _=>exact hr
theorem RW.le{c c':Cx}(h:Le c c'){q:RowC}{o:Ob}(hr:RW c q o):RW c' q o:=by
 cases q with
 | cells ps=>obtain⟨ds,h1,h2,h3⟩:=hr;exact⟨ds,h1,RSL.le h h2,h3⟩
 | _=>exact hr
def RowC.isArr:RowC→Bool
 | .arr _ _ _=>true
 | _=>false
def Wf(p:PSt):Prop:=(∀ t d,getF p.tm t=some (true,d)→d.hasOwn=false) ∧ ∀ (k:Nat) (r:Row),p.rows[k]?=some r→r.ro=true→r.c.hasOwn=false
structure Goes(ρ:Nat→Nat)(τ:Nat→Option Nat)(p:PSt)(st:St)(ρ':Nat→Nat)(τ':Nat→Option Nat)(p':PSt)(st':St):Prop where
 sim:Sim ρ' τ' p' st'
 nx:st.nx≤st'.nx
 lo:st'.lo=st.lo
 len:p.rows.length≤p'.rows.length
 ρs : ∀ k,k<p.rows.length→ρ' k=ρ k
 ρn : ∀ k,p.rows.length≤k→k<p'.rows.length→st.nx≤ρ' k
 τn : ∀ i l,τ' i=some l→(∃ j,τ j=some l)∨st.nx≤l
 wf:Wf p→Wf p'
 ro:Wf p → ∀ (k:Nat) (r:Row),p.rows[k]?=some r→r.ro=true→p'.rows[k]?=some r
 rof : ∀ (k:Nat) (r':Row),k<p.rows.length→p'.rows[k]?=some r'→r'.ro=true → ∃ r:Row,p.rows[k]?=some r∧r.ro=true
 rk : ∀ k,k<p.rows.length→rkOf p'.rows k=rkOf p.rows k∨rkOf p'.rows k=none
 mem : ∀ b,b<st.nx→(∀ (k:Nat) (r:Row),p.rows[k]?=some r→ρ k=b→r.ro=true)→st'.mem b=st.mem b
 tip : ∀ l,l<st.nx→(∀ i,τ i≠some l)→st'.tip l=st.tip l
 lw : ∀ m,m≤st.lw→m≤st.nx→(∀ (k:Nat) (r:Row),p.rows[k]?=some r→r.ro=false∨r.c.isArr=true→m≤ρ k)→(∀ i l,τ i=some l→m≤l)→m≤st'.lw
 flg:Wf p → ∀ t d,getF p'.tm t=some (true,d)→getF p.tm t=some (true,d)∧get st'.tm t=get st.tm t
theorem Goes.refl{ρ τ p st}(h:Sim ρ τ p st):Goes ρ τ p st ρ τ p st where
 sim:=h
 nx:=zR _
 lo:=rfl
 len:=zR _
 ρs _ _:=rfl
 ρn k h1 h2:=by omega
 τn i l h := .inl ⟨i,h⟩
 wf h:=h
 ro _ _ _ h _:=h
 rof _ r' _ h hr:=⟨r',h,hr⟩
 rk _ _ := .inl rfl
 mem _ _ _:=rfl
 tip _ _ _:=rfl
 lw _ h _ _ _:=h
 flg _ _ _ h:=⟨h,rfl⟩
theorem get_lt{α:Type}{xs:List α}{k:Nat}(h:k<xs.length) : ∃ x,xs[k]?=some x:=⟨_,zL h⟩
theorem Goes.trans{ρ τ p st ρ1 τ1 p1 st1 ρ2 τ2 p2 st2}(hw:Wf p)(h:Goes ρ τ p st ρ1 τ1 p1 st1)(k:Goes ρ1 τ1 p1 st1 ρ2 τ2 p2 st2):Goes ρ τ p st ρ2 τ2 p2 st2 where
 sim:=k.sim
 nx:=Nat.le_trans h.nx k.nx
 lo:=k.lo.trans h.lo
 len:=Nat.le_trans h.len k.len
 ρs j hj:=by rw[k.ρs j (zK hj h.len),h.ρs j hj]
 ρn j h1 h2:=by
  rcases Nat.lt_or_ge j p1.rows.length with h3 | h3
  ·rw[k.ρs j h3];exact h.ρn j h1 h3
  ·exact Nat.le_trans h.nx (k.ρn j h3 h2)
 τn i l hi:=by
  rcases k.τn i l hi with⟨j,hj⟩ | hj
  ·exact h.τn j l hj
  ·exact .inr (Nat.le_trans h.nx hj)
 wf hw:=k.wf (h.wf hw)
 ro hw j r hj hr:=k.ro (h.wf hw) j r (h.ro hw j r hj hr) hr
 rof j r' hj h1 h2:=by
  obtain⟨r1,h3,h4⟩:=k.rof j r' (zK hj h.len) h1 h2
  exact h.rof j r1 hj h3 h4
 rk j hj:=by
  rcases k.rk j (zK hj h.len)with e | e
  ·rw[e];exact h.rk j hj
  ·exact .inr e
 mem b hb hr:=by
  rw[k.mem b (zK hb h.nx) ?_,h.mem b hb hr]
  intro j r hj hjb
  rcases Nat.lt_or_ge j p.rows.length with h3 | h3
  ·obtain⟨r0,hr0⟩:=get_lt h3
   rw[h.ρs j h3]at hjb
   have hro:=hr j r0 hr0 hjb
   have:=h.ro hw j r0 hr0 hro
   rw[hj]at this;injection this with this;subst this;exact hro
  ·have:=h.ρn j h3 (getElem?_lt hj)
   omega
 tip l hl hn:=by
  rw[k.tip l (zK hl h.nx) ?_,h.tip l hl hn]
  intro i hi
  rcases h.τn i l hi with⟨j,hj⟩ | hj
  ·exact hn j hj
  ·omega
 lw m h1 h2 h3 h4:=by
  refine k.lw m (h.lw m h1 h2 h3 h4) (Nat.le_trans h2 h.nx) ?_ ?_
  ·intro j r hj hr
   rcases Nat.lt_or_ge j p.rows.length with h5 | h5
   ·obtain⟨r0,hr0⟩:=get_lt h5
    rw[h.ρs j h5]
    refine h3 j r0 hr0 ?_
    cases hb:r0.ro with
    | false=>exact .inl rfl
    | true=>
     have:=h.ro hw j r0 hr0 hb
     rw[hj]at this;injection this with this;subst this
     rcases hr with hr | hr
     ·rw[hr]at hb;contradiction
     ·exact .inr hr
   ·exact Nat.le_trans h2 (h.ρn j h5 (getElem?_lt hj))
  ·intro i l hi
   rcases h.τn i l hi with⟨j,hj⟩ | hj
   ·exact h4 j l hj
   ·exact Nat.le_trans h2 hj
 flg hw t d ht:=by
  obtain⟨h1,h2⟩:=k.flg (h.wf hw) t d ht
  obtain⟨h3,h4⟩:=h.flg hw t d h1
  exact⟨h3,h2.trans h4⟩
section
variable {ρ:Nat→Nat} {τ:Nat→Option Nat} {p:PSt} {st:St}
theorem newR_le(c:RowC):Le (cxOf ρ τ p st) ⟨fun k=>if k=p.rows.length then st.nx else ρ k,τ,p.rows.length+1,rkOf (p.newR c).rows,st.tip,p.ni⟩:=by
 refine⟨fun k hk => ?_,Nat.le_succ _,fun k hk => .inl ?_,fun i l h=>⟨h,rfl⟩,zR _⟩
 ·have hk:k<p.rows.length:=hk
  show(if k=p.rows.length then st.nx else ρ k)=ρ k
  rw[if_neg (by omega)]
 ·have hk:k<p.rows.length:=hk
  show rkOf (p.newR c).rows k=rkOf p.rows k
  simp only[rkOf,PSt.newR,List.getElem?_append_left hk]
/-- a row more -/
theorem newR_goes(hS:Sim ρ τ p st){c:RowC}{o:Ob}(hw:RW ⟨fun k=>if k=p.rows.length then st.nx else ρ k,τ,p.rows.length+1,rkOf (p.newR c).rows,st.tip,p.ni⟩ c o) :
  Goes ρ τ p st (fun k=>if k=p.rows.length then st.nx else ρ k) τ (p.newR c) (st.newOb o)∧(p.newR c).rows.length=p.rows.length+1:=by
 have hlen:(p.newR c).rows.length=p.rows.length+1:=by simp[PSt.newR]
 have hget : ∀ k,k<p.rows.length→(p.newR c).rows[k]?=p.rows[k]?:=fun k hk=>by simp[PSt.newR,List.getElem?_append_left hk]
 have hrk : ∀ k,k<p.rows.length→rkOf (p.newR c).rows k=rkOf p.rows k:=fun k hk=>by simp only[rkOf,hget k hk]
 have hle:Le (cxOf ρ τ p st) (cxOf (fun k=>if k=p.rows.length then st.nx else ρ k) τ (p.newR c) (st.newOb o)):=by
  refine⟨fun k hk => ?_,by simp[cxOf,hlen],fun k hk => .inl (hrk k hk),fun i l h=>⟨h,rfl⟩,zR _⟩
  show(if k=p.rows.length then st.nx else ρ k)=ρ k
  have hk:k<p.rows.length:=hk
  rw[if_neg (by omega)]
 have hcx:cxOf (fun k=>if k=p.rows.length then st.nx else ρ k) τ (p.newR c) (st.newOb o)=⟨fun k=>if k=p.rows.length then st.nx else ρ k,τ,p.rows.length+1,rkOf (p.newR c).rows,st.tip,p.ni⟩:=by
  simp only[cxOf,hlen];rfl
 refine⟨⟨?_,Nat.le_succ _,rfl,by omega,fun k hk => ?_,fun k h1 h2 => ?_,fun i l h => .inl ⟨i,h⟩,fun hw=>⟨hw.1,fun k r hk hr => ?_⟩,fun _ k r hk hr => ?_,fun k r' hk hr' hro=>⟨r',by rw[← hget k hk];exact hr',hro⟩,fun k hk => .inl (hrk k hk),fun b hb _ => ?_,fun l hl _=>rfl,fun m h1 _ _ _=>h1,fun _ t d h=>⟨h,rfl⟩⟩,hlen⟩
 ·refine⟨fun t f d ht => ?_,fun k hk => ?_,fun k r hk => ?_,fun j k hj hk h => ?_,fun i l h => ?_,hS.linj⟩
  ·obtain⟨e,h1,h2⟩:=hS.tm t f d ht
   exact⟨e,h1,RP.le hle h2⟩
  ·rw[hlen]at hk
   show(if k=p.rows.length then st.nx else ρ k)<st.nx+1
   split
   ·omega
   ·have:=hS.nx k (by omega);omega
  ·rcases Nat.lt_or_ge k p.rows.length with h1 | h1
   ·rw[hget k h1]at hk
    obtain⟨o',h2,h3⟩:=hS.rows k r hk
    refine⟨o',?_,RW.le hle h3⟩
    rcases h2 with h2 | h2
    ·exact .inl h2
    ·right
     show upd st.mem st.nx o (if k=p.rows.length then st.nx else ρ k)=_
     rw[if_neg (by omega)]
     have:=hS.nx k h1
     unfold upd;rw[if_neg (by omega)];exact h2
   ·have hk':=getElem?_lt hk
    rw[hlen]at hk'
    have:k=p.rows.length:=by omega
    subst this
    have:r=⟨false,c⟩:=by
     simp[PSt.newR]at hk;exact hk.symm
    subst this
    refine⟨o,.inr ?_,by rw[hcx];exact hw⟩
    show upd st.mem st.nx o (if p.rows.length=p.rows.length then st.nx else _)=_
    rw[if_pos rfl];unfold upd;rw[if_pos rfl]
  ·rw[hlen]at hj hk
   have h:(if j=p.rows.length then st.nx else ρ j)=(if k=p.rows.length then st.nx else ρ k):=h
   split at h<;>split at h
   ·omega
   ·have:=hS.nx k (by omega);omega
   ·have:=hS.nx j (by omega);omega
   ·exact hS.inj j k (by omega) (by omega) h
  ·obtain⟨h1,h2⟩:=hS.lin i l h
   exact⟨h1,Nat.lt_succ_of_lt h2⟩
 ·show(if k=p.rows.length then st.nx else ρ k)=ρ k
  rw[if_neg (by omega)]
 ·rw[hlen]at h2
  show st.nx≤(if k=p.rows.length then st.nx else ρ k)
  rw[if_pos (by omega)];exact zR _
 ·rcases Nat.lt_or_ge k p.rows.length with h1 | h1
  ·rw[hget k h1]at hk;exact hw.2 k r hk hr
  ·have hk':=getElem?_lt hk
   rw[hlen]at hk'
   have:k=p.rows.length:=by omega
   subst this
   simp[PSt.newR]at hk;subst hk;contradiction
 ·rw[hget k (getElem?_lt hk)];exact hk
 ·show upd st.mem st.nx o b=_
  unfold upd;rw[if_neg (by omega)]
/-- a row is turned -/
theorem setR_goes(hS:Sim ρ τ p st){k:Nat}{c c':RowC}{o:Ob}(hk:p.rows[k]?=some ⟨false,c⟩)(hrk:rkOf (p.setR k c').rows k=rkOf p.rows k)(hw:RW (cxOf ρ τ p st) c' o) :
  Goes ρ τ p st ρ τ (p.setR k c') (st.setOb (ρ k) o):=by
 have hkl:=getElem?_lt hk
 have hlen:(p.setR k c').rows.length=p.rows.length:=by simp[PSt.setR]
 have hget : ∀ j,j≠k→(p.setR k c').rows[j]?=p.rows[j]?:=fun j hj=>by simp[PSt.setR,List.getElem?_set_ne (fun e=>hj e.symm)]
 have hself:(p.setR k c').rows[k]?=some ⟨false,c'⟩:=by simp[PSt.setR,List.getElem?_set_self hkl]
 have hrk' : ∀ j,rkOf (p.setR k c').rows j=rkOf p.rows j:=fun j=>by
  by_cases e:j=k
  ·subst e;exact hrk
  ·simp only[rkOf,hget j e]
 have hrof : ∀ (j:Nat) (r':Row),j<p.rows.length→(p.setR k c').rows[j]?=some r'→r'.ro=true → ∃ r:Row,p.rows[j]?=some r∧r.ro=true:=by
  intro j r' _ hj hr
  by_cases e:j=k
  ·subst e;rw[hself]at hj;injection hj with hj;subst hj;contradiction
  ·rw[hget j e]at hj;exact⟨r',hj,hr⟩
 have hcx:cxOf ρ τ (p.setR k c') (st.setOb (ρ k) o)=cxOf ρ τ p st:=by
  simp only[cxOf,hlen,show rkOf (p.setR k c').rows=rkOf p.rows from funext hrk'];rfl
 refine⟨⟨fun t f d ht => ?_,fun j hj => ?_,fun j r hj => ?_,fun a b ha hb h => ?_,hS.lin,hS.linj⟩,zR _,rfl,by omega,fun _ _=>rfl,fun j h1 h2=>by omega,fun i l h => .inl ⟨i,h⟩,fun hw=>⟨hw.1,fun j r hj hr => ?_⟩,fun _ j r hj hr => ?_,hrof,fun j _ => .inl (hrk' j),fun b hb hr => ?_,fun l hl _=>rfl,fun m h1 _ h3 _ => ?_,fun _ t d h=>⟨h,rfl⟩⟩
 ·rw[hcx];exact hS.tm t f d ht
 ·rw[hlen]at hj;exact hS.nx j hj
 ·rw[hcx]
  by_cases e:j=k
  ·subst e
   rw[hself]at hj;injection hj with hj;subst hj
   refine⟨o,.inr ?_,hw⟩
   show upd st.mem (ρ j) o (ρ j)=_
   unfold upd;rw[if_pos rfl]
  ·rw[hget j e]at hj
   obtain⟨o',h2,h3⟩:=hS.rows j r hj
   refine⟨o',?_,h3⟩
   rcases h2 with h2 | h2
   ·exact .inl h2
   ·right
    show upd st.mem (ρ k) o (ρ j)=_
    unfold upd
    rw[if_neg (fun h=>e (hS.inj j k (getElem?_lt hj) hkl h))];exact h2
 ·rw[hlen]at ha hb;exact hS.inj a b ha hb h
 ·by_cases e:j=k
  ·subst e
   rw[hself]at hj;injection hj with hj;subst hj;contradiction
  ·rw[hget j e]at hj;exact hw.2 j r hj hr
 ·by_cases e:j=k
  ·subst e
   rw[hk]at hj;injection hj with hj;subst hj;contradiction
  ·rw[hget j e];exact hj
 ·show upd st.mem (ρ k) o b=_
  unfold upd
  rw[if_neg]
  intro e
  have:=hr k _ hk e.symm
  contradiction
 ·have h5:=h3 k _ hk (.inl rfl)
  show m≤(st.touch (ρ k)).lw
  show m≤if ρ k<st.lw then ρ k else st.lw
  split<;>omega
/-- a row is given up -/
theorem gone_goes(hS:Sim ρ τ p st){k:Nat}{c:RowC}(hk:p.rows[k]?=some ⟨false,c⟩)(hrk:rkOf (p.setR k .dead).rows k=rkOf p.rows k) :
  Goes ρ τ p st ρ τ (p.setR k .dead) (st.gone (ρ k)):=by
 have hkl:=getElem?_lt hk
 have hlen:(p.setR k .dead).rows.length=p.rows.length:=by simp[PSt.setR]
 have hget : ∀ j,j≠k→(p.setR k .dead).rows[j]?=p.rows[j]?:=fun j hj=>by simp[PSt.setR,List.getElem?_set_ne (fun e=>hj e.symm)]
 have hself:(p.setR k .dead).rows[k]?=some ⟨false,.dead⟩:=by simp[PSt.setR,List.getElem?_set_self hkl]
 have hrk' : ∀ j,rkOf (p.setR k .dead).rows j=rkOf p.rows j:=fun j=>by
  by_cases e:j=k
  ·subst e;exact hrk
  ·simp only[rkOf,hget j e]
 have hrof : ∀ (j:Nat) (r':Row),j<p.rows.length→(p.setR k .dead).rows[j]?=some r'→r'.ro=true → ∃ r:Row,p.rows[j]?=some r∧r.ro=true:=by
  intro j r' _ hj hr
  by_cases e:j=k
  ·subst e;rw[hself]at hj;injection hj with hj;subst hj;contradiction
  ·rw[hget j e]at hj;exact⟨r',hj,hr⟩
 have hcx:cxOf ρ τ (p.setR k .dead) (st.gone (ρ k))=cxOf ρ τ p st:=by
  simp only[cxOf,hlen,show rkOf (p.setR k .dead).rows=rkOf p.rows from funext hrk'];rfl
 refine⟨⟨fun t f d ht => ?_,fun j hj => ?_,fun j r hj => ?_,fun a b ha hb h => ?_,hS.lin,hS.linj⟩,zR _,rfl,by omega,fun _ _=>rfl,fun j h1 h2=>by omega,fun i l h => .inl ⟨i,h⟩,fun hw=>⟨hw.1,fun j r hj hr => ?_⟩,fun _ j r hj hr => ?_,hrof,fun j _ => .inl (hrk' j),fun b hb hr => ?_,fun l hl _=>rfl,fun m h1 _ h3 _ => ?_,fun _ t d h=>⟨h,rfl⟩⟩
 ·rw[hcx];exact hS.tm t f d ht
 ·rw[hlen]at hj;exact hS.nx j hj
 ·rw[hcx]
  by_cases e:j=k
  ·subst e
   rw[hself]at hj;injection hj with hj;subst hj
   exact⟨.iter [] 0,.inl rfl,trivial⟩
  ·rw[hget j e]at hj
   obtain⟨o',h2,h3⟩:=hS.rows j r hj
   refine⟨o',?_,h3⟩
   rcases h2 with h2 | h2
   ·exact .inl h2
   ·right
    show(if ρ j=ρ k then none else st.mem (ρ j))=_
    rw[if_neg (fun h=>e (hS.inj j k (getElem?_lt hj) hkl h))];exact h2
 ·rw[hlen]at ha hb;exact hS.inj a b ha hb h
 ·by_cases e:j=k
  ·subst e
   rw[hself]at hj;injection hj with hj;subst hj;contradiction
  ·rw[hget j e]at hj;exact hw.2 j r hj hr
 ·by_cases e:j=k
  ·subst e
   rw[hk]at hj;injection hj with hj;subst hj;contradiction
  ·rw[hget j e];exact hj
 ·show(if b=ρ k then none else st.mem b)=_
  rw[if_neg]
  intro e
  have:=hr k _ hk e.symm
  contradiction
 ·have h5:=h3 k _ hk (.inl rfl)
  show m≤(st.touch (ρ k)).lw
  show m≤if ρ k<st.lw then ρ k else st.lw
  split<;>omega
theorem getF_strip(id:Nat)(tm:PTm)(t:Nat):getF (stripT id tm) t=(getF tm t).map fun q=>(q.1,q.2.strip id):=by
 induction tm with
 | nil=>rfl
 | cons e r ih=>
  obtain⟨i,f,d⟩:=e
  simp only[stripT,getF]
  cases i.beq t
  ·exact ih
  ·rfl
theorem stripR_get(id:Nat)(rows:List Row)(k:Nat):(stripR id rows)[k]?=(rows[k]?).map fun r=>⟨r.ro,r.c.strip id⟩:=by
 induction rows generalizing k with
 | nil=>simp[stripR]
 | cons r s ih=>obtain⟨f,c⟩:=r;cases k<;>simp_all [stripR]
theorem stripR_len(id:Nat)(rows:List Row):(stripR id rows).length=rows.length:=by
 induction rows with
 | nil=>rfl
 | cons r s ih=>obtain⟨f,c⟩:=r;simp_all [stripR]
theorem strip_rk(id:Nat)(rows:List Row)(k:Nat):rkOf (stripR id rows) k=rkOf rows k:=by
 simp only[rkOf,stripR_get]
 cases h:rows[k]? with
 | none=>rfl
 | some r=>obtain⟨f,c⟩:=r;cases c<;>rfl
theorem strip_noOwn{id:Nat}{q:PS}(h:hasOwnL [q]=false):q.strip id=q:=by
 cases q<;>simp_all [hasOwnL,PS.strip]
theorem hasOwn_cons(q:PS)(r:List PS):hasOwnL (q::r)=(hasOwnL [q] || hasOwnL r):=by cases q<;>simp[hasOwnL]
theorem stripL_noOwn{id:Nat}{ps:List PS}(h:hasOwnL ps=false):stripL id ps=ps:=by
 induction ps with
 | nil=>rfl
 | cons q r ih=>
  rw[hasOwn_cons,Bool.or_eq_false_iff]at h
  simp only[stripL,strip_noOwn h.1,ih h.2]
theorem PD.strip_noOwn{id:Nat}{d:PD}(h:d.hasOwn=false):d.strip id=d:=by
 cases d with
 | s q=>simp only[PD.strip,Ev.strip_noOwn h]
 | agg ps=>simp only[PD.strip,stripL_noOwn h]
theorem RowC.strip_noOwn{id:Nat}{c:RowC}(h:c.hasOwn=false):c.strip id=c:=by
 cases c with
 | cells ps=>simp only[RowC.strip,stripL_noOwn h]
 | _=>rfl
/-- a lineage goes on, or a new one begins; all other slices of it fall back to values -/
theorem strip_goes(hS:Sim ρ τ p st){id l:Nat}{τ':Nat→Option Nat}{st':St}(hid:id<p.ni)
  (htm:st'.tm=st.tm) (hmem:st'.mem=st.mem) (hlo:st'.lo=st.lo) (hnx:st.nx≤st'.nx) (hl:l<st'.nx)
  (htip : ∀ j,j≠l→st'.tip j=st.tip j) (hlw:st'.lw=st.lw∨st'.lw=if l<st.lw then l else st.lw)
  (hτ : ∀ i,i≠id→τ' i=τ i) (hτl:τ' id=some l) (hnew:τ id=some l∧st'.lw=(if l<st.lw then l else st.lw)∨st.nx≤l∧st'.lw=st.lw):Goes ρ τ p st ρ τ' (p.strip id) st':=by
 have hlen:(p.strip id).rows.length=p.rows.length:=stripR_len id p.rows
 have hrof : ∀ (j:Nat) (r':Row),j<p.rows.length→(p.strip id).rows[j]?=some r'→r'.ro=true → ∃ r:Row,p.rows[j]?=some r∧r.ro=true:=by
  intro j r' _ hj hr
  simp only[PSt.strip,stripR_get,zB]at hj
  obtain⟨r0,h1,rfl⟩:=hj
  exact⟨r0,h1,hr⟩
 have hne : ∀ i j,i≠id→τ i=some j→j≠l:=by
  intro i j hi hj e
  subst e
  rcases hnew with⟨h,_⟩ | ⟨h,_⟩
  ·exact hi (hS.linj i id j hj h)
  ·have:=(hS.lin i j hj).2;omega
 have hle:LeS id (cxOf ρ τ p st) (cxOf ρ τ' (p.strip id) st'):=
  ⟨fun _ _=>rfl,by simp[cxOf,hlen],fun k _ => .inl (strip_rk id p.rows k),fun i j hi hj=>⟨by show τ' i=_;rw[hτ i hi];exact hj,htip j (hne i j hi hj)⟩,zR _⟩
 refine⟨⟨fun t f d ht => ?_,fun j hj => ?_,fun j r hj => ?_,fun a b ha hb h => ?_,fun i j h => ?_,fun i j a hi hj => ?_⟩,hnx,hlo,by omega,fun _ _=>rfl,fun j h1 h2=>by omega,fun i j h => ?_,fun hw=>⟨fun t d ht => ?_,fun j r hj hr => ?_⟩,fun hw j r hj hr => ?_,hrof,fun j _ => .inl (strip_rk id p.rows j),fun b hb hr=>by rw[hmem],fun j hj hn => ?_,fun m h1 h2 h3 h4 => ?_,fun hw t d ht => ?_⟩
 ·simp only[PSt.strip,getF_strip,zB]at ht
  obtain⟨⟨f',d'⟩,h1,h2⟩:=ht
  simp only[Prod.mk.injEq]at h2
  obtain⟨rfl,rfl⟩:=h2
  obtain⟨e,h3,h4⟩:=hS.tm t f' d' h1
  exact⟨e,by rw[htm];exact h3,RP.leS hle h4⟩
 ·rw[hlen]at hj;exact zK (hS.nx j hj) hnx
 ·simp only[PSt.strip,stripR_get,zB]at hj
  obtain⟨r',h1,rfl⟩:=hj
  obtain⟨o,h2,h3⟩:=hS.rows j r' h1
  refine⟨o,?_,RW.leS hle h3⟩
  rcases h2 with h2 | h2
  ·left;simp only[h2,RowC.strip]
  ·right;rw[hmem];exact h2
 ·rw[hlen]at ha hb;exact hS.inj a b ha hb h
 ·by_cases e:i=id
  ·subst e;rw[hτl]at h;injection h with h;subst h;exact⟨hid,hl⟩
  ·rw[hτ i e]at h
   obtain⟨h1,h2⟩:=hS.lin i j h
   exact⟨h1,zK h2 hnx⟩
 ·by_cases e1:i=id<;>by_cases e2:j=id
  ·rw[e1,e2]
  ·subst e1;rw[hτl]at hi;injection hi with hi;subst hi;rw[hτ j e2]at hj;exact(hne j l e2 hj rfl).elim
  ·subst e2;rw[hτl]at hj;injection hj with hj;subst hj;rw[hτ i e1]at hi;exact(hne i l e1 hi rfl).elim
  ·rw[hτ i e1]at hi;rw[hτ j e2]at hj;exact hS.linj i j a hi hj
 ·by_cases e:i=id
  ·subst e;rw[hτl]at h;injection h with h;subst h
   rcases hnew with⟨h,_⟩ | ⟨h,_⟩
   ·exact .inl ⟨i,h⟩
   ·exact .inr h
  ·rw[hτ i e]at h;exact .inl ⟨i,h⟩
 ·simp only[PSt.strip,getF_strip,zB]at ht
  obtain⟨⟨f',d'⟩,h1,h2⟩:=ht
  simp only[Prod.mk.injEq]at h2
  obtain⟨rfl,rfl⟩:=h2
  rw[PD.strip_noOwn (hw.1 t d' h1)];exact hw.1 t d' h1
 ·simp only[PSt.strip,stripR_get,zB]at hj
  obtain⟨r',h1,rfl⟩:=hj
  have:=hw.2 j r' h1 hr
  simp only
  rw[RowC.strip_noOwn this];exact this
 ·simp only[PSt.strip,stripR_get,hj,zC,RowC.strip_noOwn (hw.2 j r hj hr)]
 ·refine htip j ?_
  intro e;subst e
  rcases hnew with⟨h,_⟩ | ⟨h,_⟩
  ·exact hn id h
  ·omega
 ·rcases hnew with⟨h,h5⟩ | ⟨h,h5⟩
  ·have:=h4 id l h
   rw[h5];split<;>omega
  ·rw[h5];exact h1
 ·simp only[PSt.strip,getF_strip,zB]at ht
  obtain⟨⟨f',d'⟩,h1,h2⟩:=ht
  simp only[Prod.mk.injEq]at h2
  obtain⟨rfl,rfl⟩:=h2
  rw[PD.strip_noOwn (hw.1 t d' h1)]
  exact⟨h1,by rw[htm]⟩
end
def AllRo(p:PSt):Prop := ∀ (k:Nat) (rw:Row),p.rows[k]?=some rw→rw.ro=true
/-- no object has turned, and no lineage below the limit -/
structure Soft(x0:Nat)(τ:Nat→Option Nat)(p:PSt)(st:St)(τ':Nat→Option Nat)(p':PSt)(st':St):Prop where
 rows:p'.rows=p.rows
 lim:p'.lim=p.lim
 ni:p.ni≤p'.ni
 mem:st'.mem=st.mem
 τ : ∀ i,i<p.lim→τ' i=τ i
 hi : ∀ i l,p.lim≤i→τ' i=some l→x0≤l
 tip : ∀ l,l<x0→st'.tip l=st.tip l
structure SoftIn(x0:Nat)(τ:Nat→Option Nat)(p:PSt)(st:St):Prop where
 ro:AllRo p
 wf:Wf p
 lim:p.lim≤p.ni
 nx:x0≤st.nx
 hi : ∀ i l,p.lim≤i→τ i=some l→x0≤l
theorem Soft.refl{x0 τ p st}(h:SoftIn x0 τ p st):Soft x0 τ p st τ p st:=⟨rfl,rfl,zR _,rfl,fun _ _=>rfl,h.hi,fun _ _=>rfl⟩
theorem Soft.trans{x0 τ p st τ1 p1 st1 τ2 p2 st2}(h:Soft x0 τ p st τ1 p1 st1)(k:Soft x0 τ1 p1 st1 τ2 p2 st2):Soft x0 τ p st τ2 p2 st2:=
 ⟨k.rows.trans h.rows,k.lim.trans h.lim,Nat.le_trans h.ni k.ni,k.mem.trans h.mem,fun i hi=>(k.τ i (by rw[h.lim];exact hi)).trans (h.τ i hi),fun i l hi=>k.hi i l (by rw[h.lim];exact hi),fun l hl=>(k.tip l hl).trans (h.tip l hl)⟩
theorem Soft.inn{x0 ρ τ p st ρ1 τ1 p1 st1}(h:SoftIn x0 τ p st)(k:Soft x0 τ p st τ1 p1 st1)(g:Goes ρ τ p st ρ1 τ1 p1 st1):SoftIn x0 τ1 p1 st1:=
 ⟨fun j rw hj=>h.ro j rw (by rw[← k.rows];exact hj),g.wf h.wf,by rw[k.lim];exact Nat.le_trans h.lim k.ni,Nat.le_trans h.nx g.nx,fun i l hi=>k.hi i l (by rw[← k.lim];exact hi)⟩
theorem strip_ro{id:Nat}{rows:List Row}(h : ∀ (k:Nat) (rw:Row),rows[k]?=some rw→rw.c.hasOwn=false):stripR id rows=rows:=by
 apply List.ext_getElem?
 intro k
 rw[stripR_get]
 cases hk:rows[k]? with
 | none=>rfl
 | some rw=>simp only[zC,RowC.strip_noOwn (h k rw hk)]
end Go.Ev
end
section
namespace Go.Ev
section
variable {ρ:Nat→Nat} {τ:Nat→Option Nat} {p:PSt} {st:St} {ρ':Type} {r:ρ'}
theorem setAt_all{ds es:List D}(h:es.length=ds.length):setAt ds 0 es=es:=by
 simp[setAt,List.drop_of_length_le,h]
theorem storeK_ok(hS:Sim ρ τ p st){sz:Nat}{a v:PD}{d e:D}(ha:RP (cxOf ρ τ p st) a d)(hv:RP (cxOf ρ τ p st) v e){K:PSt→Option ρ'}(h:storeK p sz a v K=some r) :
  ∃ p',K p'=some r ∧ ∃ k off st',d = .ptr k off∧e.cells.length=sz∧storeD st k off e.cells=some st'∧Goes ρ τ p st ρ τ p' st'∧p'.tm=p.tm:=by
 have fin : ∀ {k off:Nat} {ds:List D} {c c':RowC},p.rows[k]?=some ⟨false,c⟩→st.mem (ρ k)=some (.row ds false)→e.cells.length=sz→off+sz≤ds.length→allOne e.cells=true →
   rkOf (p.setR k c').rows k=rkOf p.rows k→RW (cxOf ρ τ p st) c' (.row (setAt ds off e.cells) false)→K (p.setR k c')=some r→d = .ptr (ρ k) off →
   ∃ p',K p'=some r ∧ ∃ k off st',d = .ptr k off∧e.cells.length=sz∧storeD st k off e.cells=some st'∧Goes ρ τ p st ρ τ p' st'∧p'.tm=p.tm:=by
  intro k off ds c c' hk hm hl hle h1 hrk hw hK hd
  refine⟨_,hK,_,_,_,hd,hl,?_,setR_goes hS hk hrk hw,rfl⟩
  simp only[storeD,hm,hl]
  rw[if_pos ⟨hle,h1⟩]
 have rkn : ∀ {k:Nat} {c c':RowC},p.rows[k]?=some ⟨false,c⟩→(∀ f s x,c ≠ .arr f s x)→(∀ f s x,c' ≠ .arr f s x)→rkOf (p.setR k c').rows k=rkOf p.rows k:=by
  intro k c c' hk h1 h2
  have hself:(p.setR k c').rows[k]?=some ⟨false,c'⟩:=by simp[PSt.setR,List.getElem?_set_self (getElem?_lt hk)]
  simp only[rkOf,hself,hk]
  cases c<;>cases c'<;>first | rfl | exact(h1 _ _ _ rfl).elim | exact(h2 _ _ _ rfl).elim
 cases a with
 | agg ps=>simp[storeK]at h
 | s q=>
  cases q<;>simp only[storeK]at h<;>try contradiction
  case ptr k off=>
   obtain⟨hk,hd⟩:=ha
   have hd:d = .ptr (ρ k) off:=hd
   split at h<;>try contradiction
   ·next n x hr=>
    have hr':=rowW_some hr
    obtain⟨o,ho,ds,rfl,hds,hok⟩:=hS.rows k _ hr'
    rcases ho with ho | ho
    ·contradiction
    have hl:=len_of hds
    have hn:=okN_len hok
    split at h
    ·next hc=>
     simp only[zG]at hc
     have h0:=zJ hc.1.1;subst h0
     have hsz:=zJ hc.1.2;subst hsz
     split at h
     ·next y=>
      obtain⟨hy,h⟩:=tst_some h
      have hc:=cells_ok (show e.cl0=y.toD from hv)
      have hcl:e.cells.length=sz:=by rw[len_of hc,okN_len hy]
      refine fin hr' ho hcl (by omega) (allOne_of hc (okN_one hy)) (rkn hr' (by simp) (by simp)) (c' := .box sz y) ⟨_,rfl,?_,hy⟩ h hd
      rw[setAt_all (by omega)];exact hc
     ·next v' _=>
      obtain⟨cs,h2,h3,h4,h5,h6⟩:=cellsK_ok hv h
      refine fin hr' ho h6 (by omega) h5 (rkn hr' (by simp) (by simp)) (c' := .cells cs) ⟨_,rfl,?_,?_⟩ h2 hd
      ·rw[setAt_all (by omega)];exact h4
      ·rw[setAt_all (by omega)];exact h5
    ·split at h<;>try contradiction
     next hle=>
      have hle:=zT hle
      have h2:=cellsFrom_all hok h
      obtain⟨cs,h2,h3,h4,h5,h6⟩:=cellsK_ok hv h2
      exact fin hr' ho h6 (by omega) h5 (rkn hr' (by simp) (by simp)) (c' := .cells _) ⟨_,rfl,RSL_set (RSL_v hds) h4 off,allOne_setAt (allOne_of hds (okN_one hok)) h5 off⟩ h2 hd
   ·next ps hr=>
    have hr':=rowW_some hr
    obtain⟨o,ho,ds,rfl,hds,h1⟩:=hS.rows k _ hr'
    rcases ho with ho | ho
    ·contradiction
    have hl:=RSL_len hds
    split at h
    ·next hc=>
     simp only[zG]at hc
     have h0:=zJ hc.1.1;subst h0
     have hsz:=zJ hc.1.2
     split at h
     ·next y=>
      obtain⟨hy,h⟩:=tst_some h
      have hc:=cells_ok (show e.cl0=y.toD from hv)
      have hcl:e.cells.length=sz:=by rw[len_of hc,okN_len hy]
      refine fin hr' ho hcl (by omega) (allOne_of hc (okN_one hy)) (rkn hr' (by simp) (by simp)) (c' := .box sz y) ⟨_,rfl,?_,hy⟩ h hd
      rw[setAt_all (by omega)];exact hc
     ·next v' _=>
      obtain⟨cs,h2,h3,h4,h5,h6⟩:=cellsK_ok hv h
      refine fin hr' ho h6 (by omega) h5 (rkn hr' (by simp) (by simp)) (c' := .cells cs) ⟨_,rfl,?_,?_⟩ h2 hd
      ·rw[setAt_all (by omega)];exact h4
      ·rw[setAt_all (by omega)];exact h5
    ·split at h<;>try contradiction
     next hle=>
      have hle:=zT hle
      obtain⟨cs,h2,h3,h4,h5,h6⟩:=cellsK_ok hv h
      exact fin hr' ho h6 (by omega) h5 (rkn hr' (by simp) (by simp)) (c' := .cells _) ⟨_,rfl,RSL_set hds h4 off,allOne_setAt h1 h5 off⟩ h2 hd
  case ptrA k sz' i off=>
   obtain⟨hk,hd,hrk⟩:=ha
   have hd:d = .ptr (ρ k) (i * sz'+off):=hd
   split at h<;>try contradiction
   split at h<;>try contradiction
   next szr xs hr _ y hy=>
    have hr':=rowW_some hr
    obtain⟨o,ho,ds,b,rfl,hfz,hds,hsz⟩:=hS.rows k _ hr'
    have hfz:b=false:=hfz
    subst hfz
    rcases ho with ho | ho
    ·contradiction
    obtain⟨hs,hi⟩:=hrk _ _ (rk_arr hr' rfl)
    subst hs
    have hey:=PD.pure_ok hv hy
    have hc:=cells_ok hey
    have hl:ds.length=xs.length * szr:=by have:=congrArg List.length hds;rw[cl0L_len,flatD_len hsz]at this;exact this
    have hmul:(i+1) * szr≤xs.length * szr:=zW _ hi
    have hmul':(i+1) * szr=i * szr+szr:=by rw[Nat.add_mul,Nat.one_mul]
    have rka : ∀ x',rkOf (p.setR k (.arr .no szr (xs.set i x'))).rows k=rkOf p.rows k:=by
     intro x'
     have hself:(p.setR k (.arr .no szr (xs.set i x'))).rows[k]?=some ⟨false,.arr .no szr (xs.set i x')⟩:=by simp[PSt.setR,List.getElem?_set_self (getElem?_lt hr')]
     simp only[rkOf,hself,hr',List.length_set]
    obtain⟨e0,he0⟩:=get_lt hi
    have hel:=okN_len (szOk_get hsz he0)
    have hpl:(toDL e0.parts).length=szr:=by rw[toDL_len,hel]
    split at h
    ·next hcc=>
     simp only[zG]at hcc
     have h0:=zJ hcc.1;subst h0
     have hsz':=zJ hcc.2;subst hsz'
     have key : ∀ y',y'.parts=y.parts→okN sz y=true→cl0L (setAt ds (i * sz+0) e.cells)=flatD (xs.set i y'):=by
      intro y' hyy hoy
      have:=setAt_flat hsz hds (i:=i) (f:=0) (n:=sz) he0 hc (okN_len hoy) (by omega)
      rw[this,flatD_set he0,List.take_zero,List.nil_append,Nat.zero_add,List.drop_of_length_le (by omega),List.append_nil,hyy]
     split at h
     ·next h1=>
      have h1:=zJ h1;subst h1
      obtain⟨hx,h⟩:=tst_some h
      rw[zA]at h
      obtain⟨c,hcc',h⟩:=h
      obtain⟨hp,hone,hcp⟩:=one_cell hx hcc'
      refine fin hr' ho (by rw[len_of hc,okN_len hx]) (by omega) (allOne_of hc (okN_one hx)) (c' := .arr .no 1 (xs.set i c)) (rka c) ⟨_,_,rfl,rfl,key c (by rw[hcp,hp]) hx,szOk_set hsz (okN_mk (by rw[hcp];rfl) (by rw[hcp,← hp];exact okN_one hx))⟩ h hd
     ·obtain⟨hx,h⟩:=tst_some h
      exact fin hr' ho (by rw[len_of hc,okN_len hx]) (by omega) (allOne_of hc (okN_one hx)) (c' := .arr .no sz (xs.set i y)) (rka y) ⟨_,_,rfl,rfl,key y rfl hx,szOk_set hsz hx⟩ h hd
    ·split at h<;>try contradiction
     next hle=>
      simp only[zG]at hle
      have hle1:=zT hle.1
      have hle2:0<sz:=zT hle.2
      rw[zA]at h
      obtain⟨x0,hx0,h⟩:=h
      rw[he0]at hx0;injection hx0 with hx0;subst hx0
      obtain⟨hx,h⟩:=tst_some h
      have hxl:=okN_len hx
      have h1e:=okN_one (szOk_get hsz he0)
      refine fin hr' ho (by rw[len_of hc,okN_len hx]) (by omega) (allOne_of hc (okN_one hx)) (c' := .arr .no szr (xs.set i (.agg (setL e0.parts off y.parts)))) (rka _) ⟨_,_,rfl,rfl,?_,szOk_set hsz (okN_mk ?_ ?_)⟩ h hd
      ·have:=setAt_flat hsz hds (i:=i) (f:=off) (n:=sz) he0 hc hxl (by omega)
       rw[this,flatD_set he0]
       show _=_++toDL (setL e0.parts off y.parts)++_
       simp only[setL,toDL_append,toDL_take,toDL_drop,hxl]
      ·show(setL e0.parts off y.parts).length=szr
       simp only[setL,zZ,List.length_take,List.length_drop,hxl];omega
      ·show allOneV (setL e0.parts off y.parts)=true
       simp only[setL,allOneV_append,(allOneV_cut h1e _).1,(allOneV_cut h1e _).2,okN_one hx,Bool.and_self]
theorem strip_none(hS:Sim ρ τ p st){l:Nat}{st':St}(htm:st'.tm=st.tm)(hmem:st'.mem=st.mem)(hlo:st'.lo=st.lo)(hnx:st.nx≤st'.nx)(hl:l<st'.nx)(hln:st.nx≤l)
  (htip : ∀ j,j≠l→st'.tip j=st.tip j) (hlw:st'.lw=st.lw):Goes ρ τ p st ρ (fun i=>if i=p.ni then some l else τ i) { p with ni:=p.ni+1 } st':=by
 have hle:Le (cxOf ρ τ p st) (cxOf ρ (fun i=>if i=p.ni then some l else τ i) { p with ni:=p.ni+1 } st'):=by
  refine⟨fun _ _=>rfl,zR _,fun k _ => .inl rfl,fun i j h => ?_,Nat.le_succ _⟩
  have h:τ i=some j:=h
  have:=hS.lin i j h
  refine⟨?_,htip j (by omega)⟩
  show(if i=p.ni then some l else τ i)=some j
  rw[if_neg (by omega)];exact h
 refine⟨⟨fun t f d ht => ?_,fun j hj=>zK (hS.nx j hj) hnx,fun j r hj => ?_,hS.inj,fun i j h => ?_,fun i j a hi hj => ?_⟩,hnx,hlo,zR _,fun _ _=>rfl,fun j h1 h2=>absurd h2 (Nat.not_lt.2 h1),fun i j h => ?_,fun hw=>hw,fun _ _ _ h _=>h,fun _ r' _ h hr=>⟨r',h,hr⟩,fun _ _ => .inl rfl,fun b _ _=>by rw[hmem],fun j hj _=>htip j (by omega),fun m h1 _ _ _=>by rw[hlw];exact h1,fun _ t d h=>⟨h,by rw[htm]⟩⟩
 ·obtain⟨e,h1,h2⟩:=hS.tm t f d ht
  exact⟨e,by rw[htm];exact h1,RP.le hle h2⟩
 ·obtain⟨o,h1,h2⟩:=hS.rows j r hj
  exact⟨o,by rw[hmem];exact h1,RW.le hle h2⟩
 ·have h:(if i=p.ni then some l else τ i)=some j:=h
  show i<p.ni+1∧j<st'.nx
  split at h
  ·injection h with h;omega
  ·have:=hS.lin i j h;omega
 ·have hi:(if i=p.ni then some l else τ i)=some a:=hi
  have hj:(if j=p.ni then some l else τ j)=some a:=hj
  split at hi<;>split at hj
  ·omega
  ·injection hi with hi;have:=hS.lin j a hj;omega
  ·injection hj with hj;have:=hS.lin i a hi;omega
  ·exact hS.linj i j a hi hj
 ·have h:(if i=p.ni then some l else τ i)=some j:=h
  split at h
  ·injection h with h;exact .inr (by omega)
  ·exact .inl ⟨i,h⟩
theorem setAt_flat2{sz:Nat}{xs ys:List V}(hs:szOk sz xs=true)(hy:szOk sz ys=true){ds es:List D}(hd:cl0L ds=flatD xs)(he:cl0L es=flatD ys)(o:Nat)(ho:o+ys.length≤xs.length) :
  cl0L (setAt ds (o * sz) es)=flatD (setL xs o ys):=by
 have hel:es.length=ys.length * sz:=by have:=congrArg List.length he;rw[cl0L_len,flatD_len hy]at this;exact this
 simp only[setAt,setL,cl0L_append,cl0L_take,cl0L_drop,hd,he,flatD_append,flatD_take hs,hel,← Nat.add_mul,flatD_drop hs]
theorem szOk_setL{sz:Nat}{xs ys:List V}(hs:szOk sz xs=true)(hy:szOk sz ys=true)(o:Nat):szOk sz (setL xs o ys)=true:=by
 simp only[setL,szOk_append,szOk_take hs,szOk_drop hs,hy,Bool.and_self]
theorem setL_len{α:Type}{xs ys:List α}{o:Nat}(h:o+ys.length≤xs.length):(setL xs o ys).length=xs.length:=by
 simp only[setL,zZ,List.length_take,List.length_drop];omega
theorem allOne_flat{sz:Nat}{xs:List V}{ds:List D}(hs:szOk sz xs=true)(h:cl0L ds=flatD xs):allOne ds=true:=by
 have : ∃ ys,flatD xs=toDL ys∧allOneV ys=true:=by
  clear h
  induction xs with
  | nil=>exact⟨[],rfl,rfl⟩
  | cons x r ih=>
   obtain⟨ys,h1,h2⟩:=ih (szOk_cons.1 hs).2
   refine⟨x.parts++ys,by simp only[flatD,toD_cells,h1,toDL_append],?_⟩
   rw[allOneV_append,okN_one (szOk_cons.1 hs).1,h2];rfl
 obtain⟨ys,h1,h2⟩:=this
 exact allOne_of (h.trans h1) h2
theorem appK_ok(hS:Sim ρ τ p st){sz bytes:Nat}{s:PD}{e:D}(hs:RP (cxOf ρ τ p st) s e){ys:List V}{es:List D}(hy:szOk sz ys=true)(he:cl0L es=flatD ys){K:PD→PSt→Option ρ'}(h:appK p sz bytes s ys K=some r) :
  ∃ d p',K d p'=some r ∧ ∃ e' st' ρ1 τ1,appD sz bytes e ys.length es st=some (e',st')∧RP (cxOf ρ1 τ1 p' st') d e'∧Goes ρ τ p st ρ1 τ1 p' st'∧st'.tm=st.tm ∧ ∀ x0,SoftIn x0 τ p st→ρ1=ρ∧Soft x0 τ p st τ1 p' st':=by
 have hb : ∀ {n m:Nat},appOk bytes n m=true→(n+m) * bytes≤140737488355328∧n+m≤140737488355328:=by
  intro n m h;simpa[appOk]using h
 -- a lineage that begins
 have fresh : ∀ (n:Nat),Goes ρ τ p st ρ (fun i=>if i=p.ni then some st.nx else τ i) { p with ni:=p.ni+1 } { st with tip:=upd st.tip st.nx n,nx:=st.nx+1 }:=by
  intro n
  refine strip_none hS rfl rfl rfl (Nat.le_succ _) (Nat.lt_succ_self _) (zR _) (fun j hj => ?_) rfl
  show upd st.tip st.nx n j=_
  unfold upd;rw[if_neg hj]
 have soft : ∀ (n x0:Nat),SoftIn x0 τ p st→Soft x0 τ p st (fun i=>if i=p.ni then some st.nx else τ i) { p with ni:=p.ni+1 } { st with tip:=upd st.tip st.nx n,nx:=st.nx+1 }:=by
  intro n x0 hi
  refine⟨rfl,rfl,Nat.le_succ _,rfl,fun i h => ?_,fun i l h1 h2 => ?_,fun l hl => ?_⟩
  ·have:=hi.lim
   show(if i=p.ni then _ else _)=_;rw[if_neg (by omega)]
  ·have h2:(if i=p.ni then some st.nx else τ i)=some l:=h2
   split at h2
   ·injection h2 with h2;have:=hi.nx;omega
   ·exact hi.hi i l h1 h2
  ·have:=hi.nx
   show upd st.tip st.nx n l=_
   unfold upd;rw[if_neg (by omega)]
 cases s with
 | agg ps=>simp[appK]at h
 | s q=>
  cases q<;>simp only[appK]at h<;>try contradiction
  case full xs=>
   split at h<;>try contradiction
   next hz=>
    have hz:0<sz:=zT hz
    obtain⟨hx,h⟩:=tst_some h
    obtain⟨hab,h⟩:=tst_some h
    obtain⟨ds,rfl,hds⟩:=hs
    obtain⟨hb1,hb2⟩:=hb hab
    have hl:ds.length=xs.length * sz:=by have:=congrArg List.length hds;rw[cl0L_len,flatD_len hx]at this;exact this
    refine⟨_,_,h,.sl (.ln st.nx sz) (xs.length+ys.length) (ds++es),_,ρ,_,?_,?_,fresh (xs.length+ys.length),rfl,fun x0 hi=>⟨rfl,soft _ x0 hi⟩⟩
    ·simp only[appD]
     rw[if_pos ⟨hl,hb1,hb2,hz⟩]
    ·refine⟨_,_,by rw[zZ],by rw[cl0L_append,hds,he,flatD_append],by rw[szOk_append,hx,hy];rfl,?_,.inr ⟨st.nx,rfl,?_,?_⟩⟩
     ·exact Nat.lt_succ_self _
     ·show(if p.ni=p.ni then some st.nx else τ p.ni)=_;rw[if_pos rfl]
     ·show upd st.tip st.nx _ st.nx=_;unfold upd;rw[if_pos rfl,zZ]
  case own id sz' xs=>
   split at h<;>try contradiction
   next hz=>
    simp only[zG]at hz
    have hlim:p.lim≤id:=zT hz.2
    have hz:=hz.1
    have h1:=zJ hz.1;subst h1
    have hz:0<sz:=zT hz.2
    have hrows : ∀ x0,SoftIn x0 τ p st→(p.strip id).rows=p.rows:=fun x0 hi=>strip_ro (fun k rw hk=>hi.wf.2 k rw hk (hi.ro k rw hk))
    obtain⟨hab,h⟩:=tst_some h
    obtain⟨g,ds,rfl,hds,hx,hid,hg⟩:=hs
    obtain⟨hb1,hb2⟩:=hb hab
    have hl:ds.length=xs.length * sz:=by have:=congrArg List.length hds;rw[cl0L_len,flatD_len hx]at this;exact this
    have hid:id<p.ni:=hid
    rcases hg with rfl | ⟨l,rfl,hτ,htip⟩
    ·refine⟨_,_,h,.sl (.ln st.nx sz) (xs.length+ys.length) (ds++es),{ st with tip:=upd st.tip st.nx (xs.length+ys.length),nx:=st.nx+1 },ρ,fun i=>if i=id then some st.nx else τ i,?_,?_,?_,rfl,fun x0 hi=>⟨rfl,hrows x0 hi,rfl,zR _,rfl,fun i h => ?_,fun i l h1 h2 => ?_,fun l hl => ?_⟩⟩
     ·simp only[appD]
      rw[if_pos ⟨hl,hb1,hb2,hz⟩]
     ·refine⟨_,_,by rw[zZ],by rw[cl0L_append,hds,he,flatD_append],by rw[szOk_append,hx,hy];rfl,hid,.inr ⟨st.nx,rfl,?_,?_⟩⟩
      ·show(if id=id then some st.nx else τ id)=_;rw[if_pos rfl]
      ·show upd st.tip st.nx _ st.nx=_;unfold upd;rw[if_pos rfl,zZ]
     ·refine strip_goes (l:=st.nx) hS hid rfl rfl rfl (Nat.le_succ _) (Nat.lt_succ_self _) (fun j hj => ?_) (.inl rfl) (fun i hi=>by simp only[if_neg hi]) (by simp only[if_true]) (.inr ⟨zR _,rfl⟩)
      show upd st.tip st.nx _ j=_
      unfold upd;rw[if_neg hj]
     ·show(if i=id then _ else _)=_;rw[if_neg (by omega)]
     ·have h2:(if i=id then some st.nx else τ i)=some l:=h2
      split at h2
      ·injection h2 with h2;have:=hi.nx;omega
      ·exact hi.hi i l h1 h2
     ·have:=hi.nx
      show upd st.tip st.nx _ l=_
      unfold upd;rw[if_neg (by omega)]
    ·have hτ:τ id=some l:=hτ
     have htip:st.tip l=some xs.length:=htip
     have hln:=(hS.lin id l hτ).2
     refine⟨_,_,h,.sl (.ln l sz) (xs.length+ys.length) (ds++es),{ st.touch l with tip:=upd st.tip l (xs.length+ys.length) },ρ,τ,?_,?_,?_,rfl,fun x0 hi=>⟨rfl,hrows x0 hi,rfl,zR _,rfl,fun i h=>rfl,hi.hi,fun l' hl => ?_⟩⟩
     ·simp only[appD]
      rw[if_pos ⟨hl,hb1,hb2,hz⟩,if_pos ⟨trivial,htip⟩]
     ·refine⟨_,_,by rw[zZ],by rw[cl0L_append,hds,he,flatD_append],by rw[szOk_append,hx,hy];rfl,?_,.inr ⟨l,rfl,hτ,?_⟩⟩
      ·exact hid
      ·show upd st.tip l _ l=_;unfold upd;rw[if_pos rfl,zZ]
     ·refine strip_goes hS hid rfl rfl rfl (zR _) hln (fun j hj => ?_) (.inr rfl) (fun _ _=>rfl) hτ (.inl ⟨hτ,rfl⟩)
      show upd st.tip l _ j=_
      unfold upd;rw[if_neg hj]
     ·have:=hi.hi id l hlim hτ
      show upd st.tip l _ l'=_
      unfold upd;rw[if_neg (by omega)]
  case ref k sz' off n cp z=>
   split at h<;>try contradiction
   next hz=>
    simp only[zG]at hz
    have h1:=zJ hz.1;subst h1
    have hz:0<sz:=zT hz.2
    split at h<;>try contradiction
    next fz szr xs hr=>
     obtain⟨hab,h⟩:=tst_some h
     obtain⟨hb1,hb2⟩:=hb hab
     obtain⟨hk,hn,hdd,hrk⟩:=hs
     obtain⟨rr,hrr,hrc⟩:=rowR_some hr
     obtain⟨hs,hlen⟩:=hrk _ _ (rk_arr hrr hrc)
     subst hs
     obtain⟨o,ho,ds,b,rfl,hfz,hds,hsz⟩:=hS.row hr (by simp)
     have hl:ds.length=xs.length * szr:=by have:=congrArg List.length hds;rw[cl0L_len,flatD_len hsz]at this;exact this
     have hml:off * szr+cp * szr≤ds.length:=by rw[hl,← Nat.add_mul];exact zW _ hlen
     have hesl:es.length=ys.length * szr:=by have:=congrArg List.length he;rw[cl0L_len,flatD_len hy]at this;exact this
     have hll:((xs.drop off).take n).length=n:=by rw[List.length_take,List.length_drop];omega
     split at h
     ·next hc=>
      split at h<;>try contradiction
      next sz2 xs2 hw=>
       have hr':=rowW_some hw
       rw[hr']at hrr;injection hrr with hrr;subst hrr
       simp only[RowC.arr.injEq]at hrc
       obtain⟨rfl,rfl,rfl⟩:=hrc
       have hfz:b=false:=hfz
       subst hfz
       rcases hdd with⟨rfl,hzc⟩ | ⟨h0,rfl,hzt⟩
       ·have hlx:off+n+ys.length≤xs2.length:=by omega
        have hmn:(off+n) * sz2=off * sz2+n * sz2:=Nat.add_mul _ _ _
        have hms:(off+n+ys.length) * sz2≤xs2.length * sz2:=zW _ hlx
        have hms':(off+n+ys.length) * sz2=(off+n) * sz2+ys.length * sz2:=Nat.add_mul _ _ _
        have hrk2:rkOf (p.setR k (.arr .no sz2 (setL xs2 (off+n) ys))).rows k=rkOf p.rows k:=by
         have hself:(p.setR k (.arr .no sz2 (setL xs2 (off+n) ys))).rows[k]?=some ⟨false,.arr .no sz2 (setL xs2 (off+n) ys)⟩:=by simp[PSt.setR,List.getElem?_set_self (getElem?_lt hr')]
         simp only[rkOf,hself,hr',setL_len hlx]
        have hg:=setR_goes hS (c' := .arr .no sz2 (setL xs2 (off+n) ys)) (o := .row (setAt ds ((off+n) * sz2) es) false) hr' hrk2 ⟨_,_,rfl,rfl,setAt_flat2 hsz hy hds he _ hlx,szOk_setL hsz hy _⟩
        refine⟨_,_,h,.ref (ρ k) (off * sz2) (n+ys.length) cp sz2,_,ρ,τ,?_,?_,hg,rfl,fun x0 hi=>absurd (hi.ro k _ hr') (by simp)⟩
        ·have ho:st.mem ((cxOf ρ τ p st).ρ k)=some (.row ds false):=ho
         simp only[appD,ho]
         rw[if_pos ⟨trivial,hml,hn,hb1,hb2,hz⟩,if_pos hc.1]
         simp only[storeD,ho,zF,if_false]
         rw[if_pos ⟨by omega,allOne_flat hy he⟩,← hmn]
         rfl
        ·refine⟨by show k<(p.setR k _).rows.length;simp[PSt.setR];exact hk,hc.1,.inl ⟨rfl,hzc⟩,fun s l hsl => ?_⟩
         have hsl:rkOf (p.setR k (.arr .no sz2 (setL xs2 (off+n) ys))).rows k=some (s,l):=hsl
         rw[hrk2]at hsl
         exact hrk s l hsl
       ·rcases hc.2 with h5 | h5
        ·rw[hzt]at h5;contradiction
        ·omega
     ·next hc=>
      have hres:RP (cxOf ρ (fun i=>if i=p.ni then some st.nx else τ i) { p with ni:=p.ni+1 } { st with tip:=upd st.tip st.nx (n+ys.length),nx:=st.nx+1 }) (.s (.own p.ni szr ((xs.drop off).take n++ys)))
        (.sl (.ln st.nx szr) (n+ys.length) ((ds.drop (off * szr)).take (n * szr)++es)):=by
       refine⟨.ln st.nx szr,_,by rw[zZ,hll],?_,?_,Nat.lt_succ_self _,.inr ⟨st.nx,rfl,?_,?_⟩⟩
       ·rw[cl0L_append,cl0L_take,cl0L_drop,hds,he,flatD_append,flatD_drop hsz,flatD_take (szOk_drop hsz _)]
       ·rw[szOk_append,szOk_take (szOk_drop hsz _),hy];rfl
       ·show(if p.ni=p.ni then some st.nx else τ p.ni)=_;rw[if_pos rfl]
       ·show upd st.tip st.nx _ st.nx=_;unfold upd;rw[if_pos rfl,zZ,hll]
      refine⟨_,_,h,_,_,ρ,_,?_,hres,fresh (n+ys.length),rfl,fun x0 hi=>⟨rfl,soft _ x0 hi⟩⟩
      rcases hdd with⟨rfl,hzc⟩ | ⟨rfl,rfl,_⟩
      ·have ho:st.mem ((cxOf ρ τ p st).ρ k)=some (.row ds b):=ho
       simp only[appD,ho]
       rw[if_pos ⟨trivial,hml,hn,hb1,hb2,hz⟩,if_neg (fun hh=>hc ⟨hh,hzc⟩)]
      ·have hn0:n=0:=by omega
       subst hn0
       simp only[appD]
       rw[if_pos ⟨by simp,hb1,hb2,hz⟩]
       simp
end
end Go.Ev
end
section
namespace Go.Ev
section
variable {ρ:Nat→Nat} {τ:Nat→Option Nat} {p:PSt} {st:St} {ρ':Type} {r:ρ'}
theorem rkOf_setR{p:PSt}{k:Nat}{c c':RowC}(hk:p.rows[k]?=some ⟨false,c⟩)(h1 : ∀ f s x,c ≠ .arr f s x)(h2 : ∀ f s x,c' ≠ .arr f s x):rkOf (p.setR k c').rows k=rkOf p.rows k:=by
 have hself:(p.setR k c').rows[k]?=some ⟨false,c'⟩:=by simp[PSt.setR,List.getElem?_set_self (getElem?_lt hk)]
 simp only[rkOf,hself,hk]
 cases c<;>cases c'<;>first | rfl | exact(h1 _ _ _ rfl).elim | exact(h2 _ _ _ rfl).elim
theorem rkOf_setA{p:PSt}{k:Nat}{f f':Fz}{sz:Nat}{xs ys:List V}(hk:p.rows[k]?=some ⟨false,.arr f sz xs⟩)(hl:ys.length=xs.length):rkOf (p.setR k (.arr f' sz ys)).rows k=rkOf p.rows k:=by
 have hself:(p.setR k (.arr f' sz ys)).rows[k]?=some ⟨false,.arr f' sz ys⟩:=by simp[PSt.setR,List.getElem?_set_self (getElem?_lt hk)]
 simp only[rkOf,hself,hk,hl]
/-- appends -/
def isApp:O→Bool
 | .app _ _ _ _ | .apz _ _ _ _=>true
 | _=>false
theorem popC{E:Env}{gl:Gl}{pc:PcT}(hg:GlR E gl)(hS:Sim ρ τ p st){o:O}(ho:isApp o=true){K:Option PD→PSt→Option ρ'}(h:popK gl pc p o K=some r) :
  ∃ d p',K d p'=some r ∧ ∃ e st' ρ1 τ1,opD E st o=some (e,st')∧RO (cxOf ρ1 τ1 p' st') d e∧Goes ρ τ p st ρ1 τ1 p' st'∧st'.tm=st.tm ∧ ∀ x0,SoftIn x0 τ p st→ρ1=ρ∧Soft x0 τ p st τ1 p' st':=by
 cases o<;>simp[isApp]at ho<;>simp only[popK]at h
 case app sz bytes s x=>
  split at h<;>try contradiction
  next s hs=>
   obtain⟨e1,he1,hr1⟩:=evH_ok hg hS hs
   split at h<;>try contradiction
   next d hd=>
    obtain⟨e2,he2,hr2⟩:=evH_ok hg hS hd
    obtain⟨ys,h1,h2,ds,h3,h4⟩:=srcK_ok hS hr2 h
    obtain⟨d,p',h1,e',st',ρ1,τ1,h6,h7,h8,h9,h10⟩:=appK_ok hS hr1 h2 h4 h1
    refine⟨_,_,h1,some e',st',ρ1,τ1,?_,h7,h8,h9,h10⟩
    simp[opD,he1,he2,h3,allOne_flat h2 h4,h6]
 case apz z bytes s x=>
  split at h<;>try contradiction
  split at h<;>try contradiction
  split at h<;>try contradiction
  next l hl _ s hs _ x hx=>
   rw[zA]at h
   obtain⟨m,hm,h⟩:=h
   obtain⟨hzl,hzo,hone,hz,hel⟩:=zeroL_ok hl
   obtain⟨e1,he1,hr1⟩:=evH_ok hg hS hs
   obtain⟨e2,he2,hr2⟩:=evV_ok hg hS hx
   have hzlen:z.length=l.length:=by have:=congrArg List.length hzl;rw[cl0L_len,toDL_len]at this;exact this
   have hok:okN l.length (mkEl l)=true:=okN_mk (by rw[hel]) (by rw[hel];exact hone)
   unfold apzV at hm
   split at hm<;>try contradiction
   split at hm<;>try contradiction
   next n hcond=>
    injection hm with hm;subst hm
    obtain⟨d,p',h1,e',st',ρ1,τ1,h6,h7,h8,h9,h10⟩:=appK_ok hS hr1 (szOk_rep hok) (rep_flat hzl hel _) h
    refine⟨_,_,h1,some e',st',ρ1,τ1,?_,h7,h8,h9,h10⟩
    rw[List.length_replicate,← hzlen]at h6
    simp only[opD,he1,he2,cl0_int hr2,zD]
    rw[if_pos ⟨hcond.1,hcond.2.1,hcond.2.2,hzo⟩,h6];rfl
theorem allU8_ok : ∀ {z:List D},allU8 z=true→cl0L z=flatD (List.replicate z.length (.int .u8 0))∧szOk 1 (List.replicate z.length (.int .u8 0))=true
 | [],_=>⟨rfl,rfl⟩
 | d::r,h=>by
  unfold allU8 at h
  split at h
  ·obtain⟨h1,h2⟩:=allU8_ok h
   refine⟨?_,?_⟩
   ·simp only[cl0L,D.cl0,List.length_cons,List.replicate_succ,flatD,V.toD,D.cells,h1]
    rfl
   ·simp only[List.length_cons,List.replicate_succ,szOk,h2]
    rfl
  ·contradiction
theorem bytesZ_ok{z:List D}{n:Nat}(h:bytesZ z=some n):cl0L z=flatD (List.replicate n (.int .u8 0))∧szOk 1 (List.replicate n (.int .u8 0))=true:=by
 unfold bytesZ at h
 split at h<;>try contradiction
 next h1=>
  split at h<;>try contradiction
  injection h with h;subst h
  exact allU8_ok h1
theorem popB{E:Env}{gl:Gl}{pc:PcT}(hg:GlR E gl)(hS:Sim ρ τ p st){o:O}(hc1 : ∀ f xs,o ≠ .call f xs)(hc2 : ∀ f xs,o ≠ .callv f xs){K:Option PD→PSt→Option ρ'}(h:popK gl pc p o K=some r) :
  ∃ d p',K d p'=some r ∧ ∃ e st' ρ1 τ1,opD E st o=some (e,st')∧RO (cxOf ρ1 τ1 p' st') d e∧Goes ρ τ p st ρ1 τ1 p' st'∧st'.tm=st.tm:=by
 by_cases hq:quiet o=true
 ·obtain⟨d,h1,e,h2,h3⟩:=popA hg hS hq h
  exact⟨some d,p,h1,some e,st,ρ,τ,h2,h3,.refl hS,rfl⟩
 cases o<;>simp[quiet]at hq<;>simp only[popK]at h<;>try contradiction
 case alloc z=>
  split at h
  ·next n hn=>
   obtain⟨h2,h3⟩:=bytesZ_ok hn
   obtain⟨hgo,hlen⟩:=newR_goes (o := .row z false) (c := .arr .no 1 (List.replicate n (.int .u8 0))) hS ⟨z,false,rfl,rfl,h2,h3⟩
   refine⟨_,_,h,some (.ptr st.nx 0),_,_,_,rfl,?_,hgo,rfl⟩
   refine⟨by show p.rows.length<(p.newR _).rows.length;rw[hlen];omega,?_⟩
   show D.ptr st.nx 0 = .ptr (if p.rows.length=p.rows.length then st.nx else _) 0
   rw[if_pos rfl]
  split at h<;>try contradiction
  split at h<;>try contradiction
  next l hl _ h1=>
   obtain⟨hgo,hlen⟩:=newR_goes (o := .row z false) (c := .cells l) hS ⟨z,rfl,constL_ok hl,constL_one hl h1⟩
   refine⟨_,_,h,some (.ptr st.nx 0),_,_,_,rfl,?_,hgo,rfl⟩
   refine⟨by show p.rows.length<(p.newR _).rows.length;rw[hlen];omega,?_⟩
   show D.ptr st.nx 0 = .ptr (if p.rows.length=p.rows.length then st.nx else _) 0
   rw[if_pos rfl]
 case store sz a v=>
  split at h<;>try contradiction
  split at h<;>try contradiction
  next d hd _ v hv=>
   obtain⟨e,he,hr⟩:=evH_ok hg hS hd
   obtain⟨e2,he2,hr2⟩:=evH_ok hg hS hv
   obtain⟨p',h1,k,off,st',rfl,h2,h3,h4,h5⟩:=storeK_ok hS hr hr2 h
   have hst:st'.tm=st.tm:=(Fq.storeD h3).tm
   exact⟨none,p',h1,none,st',ρ,τ,by simp[opD,he,he2,h2,h3],trivial,h4,hst⟩
 case mks z bytes n c=>
  split at h<;>try contradiction
  split at h<;>try contradiction
  split at h<;>try contradiction
  next l hl _ n hn _ c hc=>
   rw[zA]at h
   obtain⟨q,hq,h⟩:=h
   obtain⟨hzl,hzo,hone,hz,hel⟩:=zeroL_ok hl
   obtain⟨e1,he1,hr1⟩:=evV_ok hg hS hn
   obtain⟨e2,he2,hr2⟩:=evV_ok hg hS hc
   unfold mksV at hq
   split at hq<;>try contradiction
   next _ _ n c=>
    split at hq<;>try contradiction
    next hcond=>
     injection hq with hq;subst hq
     have hzlen:z.length=l.length:=by have:=congrArg List.length hzl;rw[cl0L_len,toDL_len]at this;exact this
     have hok:okN l.length (mkEl l)=true:=okN_mk (by rw[hel]) (by rw[hel];exact hone)
     obtain⟨hgo,hlen⟩:=newR_goes (o := .row (rep c.toNat z) false) (c := .arr .no l.length (List.replicate c.toNat (mkEl l))) hS ⟨_,_,rfl,rfl,rep_flat hzl hel _,szOk_rep hok⟩
     refine⟨_,_,h,some (.ref st.nx 0 n.toNat c.toNat z.length),_,_,_,?_,?_,hgo,rfl⟩
     ·simp only[opD,he1,he2,cl0_int hr1,cl0_int hr2]
      rw[if_pos ⟨hcond.1,hcond.2.1,hcond.2.2.1,hcond.2.2.2,hzo,by omega⟩]
     ·refine⟨by show p.rows.length<(p.newR _).rows.length;rw[hlen];omega,by simp only;omega,.inl ⟨?_,.inl rfl⟩,fun s len hs => ?_⟩
      ·show D.ref st.nx 0 _ _ _ = .ref (if p.rows.length=p.rows.length then st.nx else _) _ _ _ _
       rw[if_pos rfl,Nat.zero_mul,hzlen]
      ·have hs:rkOf (p.newR (.arr .no l.length (List.replicate c.toNat (mkEl l)))).rows p.rows.length=some (s,len):=hs
       simp[rkOf,PSt.newR]at hs
       obtain⟨rfl,rfl⟩:=hs
       exact⟨rfl,by simp only;omega⟩
 case app sz bytes s x=>
  split at h<;>try contradiction
  next s hs=>
   obtain⟨e1,he1,hr1⟩:=evH_ok hg hS hs
   split at h<;>try contradiction
   next d hd=>
    obtain⟨e2,he2,hr2⟩:=evH_ok hg hS hd
    obtain⟨ys,h1,h2,ds,h3,h4⟩:=srcK_ok hS hr2 h
    obtain⟨d,p',h1,e',st',ρ1,τ1,h6,h7,h8,h9,h10⟩:=appK_ok hS hr1 h2 h4 h1
    refine⟨_,_,h1,some e',st',ρ1,τ1,?_,h7,h8,h9⟩
    simp[opD,he1,he2,h3,allOne_flat h2 h4,h6]
 case apz z bytes s x=>
  split at h<;>try contradiction
  split at h<;>try contradiction
  split at h<;>try contradiction
  next l hl _ s hs _ x hx=>
   rw[zA]at h
   obtain⟨m,hm,h⟩:=h
   obtain⟨hzl,hzo,hone,hz,hel⟩:=zeroL_ok hl
   obtain⟨e1,he1,hr1⟩:=evH_ok hg hS hs
   obtain⟨e2,he2,hr2⟩:=evV_ok hg hS hx
   have hzlen:z.length=l.length:=by have:=congrArg List.length hzl;rw[cl0L_len,toDL_len]at this;exact this
   have hok:okN l.length (mkEl l)=true:=okN_mk (by rw[hel]) (by rw[hel];exact hone)
   unfold apzV at hm
   split at hm<;>try contradiction
   split at hm<;>try contradiction
   next n hcond=>
    injection hm with hm;subst hm
    obtain⟨d,p',h1,e',st',ρ1,τ1,h6,h7,h8,h9,h10⟩:=appK_ok hS hr1 (szOk_rep hok) (rep_flat hzl hel _) h
    refine⟨_,_,h1,some e',st',ρ1,τ1,?_,h7,h8,h9⟩
    rw[List.length_replicate,← hzlen]at h6
    simp only[opD,he1,he2,cl0_int hr2,zD]
    rw[if_pos ⟨hcond.1,hcond.2.1,hcond.2.2,hzo⟩,h6];rfl
 case cpy sz d s=>
  split at h<;>try contradiction
  split at h<;>try contradiction
  next d hd _ s hs=>
   obtain⟨e1,he1,hr1⟩:=evH_ok hg hS hd
   obtain⟨e2,he2,hr2⟩:=evH_ok hg hS hs
   obtain⟨ys,h1,h2,es,h3,h4⟩:=srcK_ok hS hr2 h
   have hesl:es.length=ys.length * sz:=by have:=congrArg List.length h4;rw[cl0L_len,flatD_len h2]at this;exact this
   split at h1<;>try contradiction
   ·next k sz' off n c z=>
    split at h1<;>try contradiction
    split at h1<;>try contradiction
    next szr xs hw _ hsz=>
     have hsz:=zJ hsz;subst hsz
     have hr':=rowW_some hw
     obtain⟨o,ho,ds,b,rfl,hfz,hds,hszx⟩:=hS.rows k _ hr'
     rcases ho with ho | ho
     ·contradiction
     have hfz:b=false:=hfz
     subst hfz
     obtain⟨hk,hn,hdd,hrk⟩:=hr1
     obtain⟨hs',hlen⟩:=hrk _ _ (rk_arr hr' rfl)
     subst hs'
     have hl:ds.length=xs.length * szr:=by have:=congrArg List.length hds;rw[cl0L_len,flatD_len hszx]at this;exact this
     have hmn:Nat.min ys.length n≤ys.length∧Nat.min ys.length n≤n:=⟨Nat.min_le_left _ _,Nat.min_le_right _ _⟩
     generalize hmm:Nat.min ys.length n=m at *
     have hyl:(ys.take m).length=m:=by rw[List.length_take];omega
     have hlx:off+(ys.take m).length≤xs.length:=by rw[hyl];omega
     have het:cl0L (es.take (m * szr))=flatD (ys.take m):=by rw[cl0L_take,h4,flatD_take h2]
     have hetl:(es.take (m * szr)).length=m * szr:=by
      rw[List.length_take,hesl];exact Nat.min_eq_left (zW _ hmn.1)
     have hml:off * szr+m * szr≤ds.length:=by
      rw[hl,← Nat.add_mul];exact zW _ (by omega)
     rcases hdd with⟨rfl,_⟩ | ⟨rfl,rfl,_⟩
     ·have hgo:=setR_goes hS (c' := .arr .no szr (setL xs off (ys.take m))) (o := .row (setAt ds (off * szr) (es.take (m * szr))) false) hr' (rkOf_setA hr' (setL_len hlx)) ⟨_,_,rfl,rfl,setAt_flat2 hszx (szOk_take h2 _) hds het _ hlx,szOk_setL hszx (szOk_take h2 _) _⟩
      refine⟨_,_,h1,some (.int .i64 (m:Nat)),_,ρ,τ,?_,rfl,hgo,rfl⟩
      have ho:st.mem ((cxOf ρ τ p st).ρ k)=some (.row ds false):=ho
      simp only[opD,he1,he2,h3,zD,hmm]
      rw[if_pos ⟨trivial,by omega⟩]
      simp only[storeD,ho,hetl]
      rw[if_pos ⟨hml,allOne_take (allOne_flat h2 h4) _⟩]
      rfl
     ·have hm0:m=0:=by omega
      subst hm0
      have hsame:setL xs off (ys.take 0)=xs:=by simp[setL,List.take_append_drop]
      rw[hsame]at h1
      refine⟨_,_,h1,some (.int .i64 0),st,ρ,τ,?_,rfl,?_,rfl⟩
      ·simp only[opD,he1,he2,h3,zD]
      ·have:p.setR k (.arr .no szr xs)=p:=by
        have:p.rows.set k ⟨false,.arr .no szr xs⟩=p.rows:=by
         apply List.ext_getElem?
         intro i
         by_cases hi:i=k
         ·subst hi;rw[List.getElem?_set_self (getElem?_lt hr'),hr']
         ·rw[List.getElem?_set_ne (fun e=>hi e.symm)]
        simp only[PSt.setR,this]
       rw[this];exact .refl hS
   ·obtain⟨ds,rfl,hds⟩:=hr1
    have:ds=[]:=by
     cases ds with
     | nil=>rfl
     | cons a b=>simp[cl0L,flatD]at hds
    subst this
    refine⟨_,_,h1,some (.int .i64 0),st,ρ,τ,?_,rfl,.refl hS,rfl⟩
    simp only[opD,he1,he2,h3,zD,List.length_nil]
 case nbl t e=>
  obtain⟨hgo,hlen⟩:=newR_goes (o := .bld t e []) (c := .bld t e []) hS rfl
  refine⟨_,_,h,some (.ptr st.nx 0),_,_,_,rfl,?_,hgo,rfl⟩
  refine⟨by show p.rows.length<(p.newR _).rows.length;rw[hlen];omega,?_⟩
  show D.ptr st.nx 0 = .ptr (if p.rows.length=p.rows.length then st.nx else _) 0
  rw[if_pos rfl]
 case rng x=>
  split at h<;>try contradiction
  next x hx=>
   rw[zA]at h
   obtain⟨s,hs,h⟩:=h
   obtain⟨e1,he1,hr1⟩:=evV_ok hg hS hx
   have:=asStr_ok hs hr1;subst this
   obtain⟨hgo,hlen⟩:=newR_goes (o := .iter s 0) (c := .iter s 0) hS rfl
   refine⟨_,_,h,some (.ptr st.nx 0),_,_,_,by simp[opD,he1],?_,hgo,rfl⟩
   refine⟨by show p.rows.length<(p.newR _).rows.length;rw[hlen];omega,?_⟩
   show D.ptr st.nx 0 = .ptr (if p.rows.length=p.rows.length then st.nx else _) 0
   rw[if_pos rfl]
 case nxt x=>
  split at h<;>try contradiction
  next k hd=>
   split at h<;>try contradiction
   next s pos hw=>
    obtain⟨e1,he1,hr1⟩:=evH_ok hg hS hd
    obtain⟨hk,rfl⟩:=hr1
    have hr':=rowW_some hw
    obtain⟨o,ho,rfl⟩:=hS.rows k _ hr'
    rcases ho with ho | ho
    ·contradiction
    have ho:st.mem ((cxOf ρ τ p st).ρ k)=some (.iter s pos):=ho
    split at h
    ·next hlt=>
     have hgo:=setR_goes hS (c' := .iter s (pos+(Utf8.decode ⟨s.toArray⟩ pos).2)) (o := .iter s (pos+(Utf8.decode ⟨s.toArray⟩ pos).2)) hr' (rkOf_setR hr' (by simp) (by simp)) rfl
     refine⟨_,_,h,some (.tup [.bool true,.int .i64 pos,.int .i32 (Utf8.decode ⟨s.toArray⟩ pos).1]),_,ρ,τ,?_,rfl,hgo,rfl⟩
     simp only[opD,he1,ho]
     rw[if_pos hlt]
     rfl
    ·next hlt=>
     refine⟨_,_,h,some (.tup [.bool false]),st,ρ,τ,?_,rfl,.refl hS,rfl⟩
     simp only[opD,he1,ho]
     rw[if_neg hlt]
 case call f xs=>exact(hc1 f xs rfl).elim
 case callv f xs=>exact(hc2 f xs rfl).elim
theorem getF_put{tm tm':PTm}{t:Nat}{d:PD}(h:putP tm t d=some tm')(u:Nat):getF tm' u=(if u=t then some (false,d)else getF tm u)∧(∀ f e,getF tm t=some (f,e)→f=false):=by
 induction tm generalizing tm' with
 | nil=>
  simp only[putP,Option.some.injEq]at h;subst h
  refine⟨?_,fun f e h=>by simp[getF]at h⟩
  simp only[getF]
  by_cases e:u=t
  ·subst e;rw[Nat.beq_refl,if_pos rfl]
  ·rw[if_neg e]
   have:t.beq u=false:=by
    cases hb:t.beq u with
    | false=>rfl
    | true=>exact(e (zJ hb).symm).elim
   rw[this]
 | cons a s ih=>
  obtain⟨i,f,e⟩:=a
  have bne : ∀ {a b:Nat},a≠b→a.beq b=false:=by
   intro a b hab
   cases hb:a.beq b with
   | false=>rfl
   | true=>exact(hab (zJ hb)).elim
  simp only[putP]at h
  split at h
  ·next hi=>
   have hi:=zJ hi;subst hi
   split at h<;>try contradiction
   injection h with h;subst h
   refine⟨?_,fun f e h=>by simp only[getF,Nat.beq_refl,Option.some.injEq,Prod.mk.injEq]at h;exact h.1.symm⟩
   by_cases hu:u=i
   ·subst hu;simp only[getF,Nat.beq_refl,if_pos]
   ·simp only[getF,bne (fun h=>hu h.symm),if_neg hu]
  ·next hi=>
   have hi:i≠t:=fun e=>by subst e;rw[Nat.beq_refl]at hi;contradiction
   split at h<;>try contradiction
   next r' hr=>
    injection h with h;subst h
    obtain⟨h1,h2⟩:=ih hr
    refine⟨?_,?_⟩
    ·simp only[getF]
     by_cases hiu:i=u
     ·subst hiu;rw[Nat.beq_refl,if_neg hi]
     ·rw[bne hiu];exact h1
    ·intro f' e' h
     simp only[getF,bne hi]at h
     exact h2 f' e' h
theorem getF_del{tm tm':PTm}{t:Nat}(h:delP tm t=some tm')(u:Nat):getF tm' u=(if u=t then none else getF tm u)∧(∀ f e,getF tm t=some (f,e)→f=false):=by
 induction tm generalizing tm' with
 | nil=>
  simp only[delP,Option.some.injEq]at h;subst h
  refine⟨?_,fun f e h=>by simp[getF]at h⟩
  simp[getF]
 | cons a s ih=>
  obtain⟨i,f,e⟩:=a
  have bne : ∀ {a b:Nat},a≠b→a.beq b=false:=by
   intro a b hab
   cases hb:a.beq b with
   | false=>rfl
   | true=>exact(hab (zJ hb)).elim
  simp only[delP]at h
  split at h
  ·next hi=>
   have hi:=zJ hi;subst hi
   split at h<;>try contradiction
   obtain⟨h1,h2⟩:=ih h
   refine⟨?_,fun f e h=>by simp only[getF,Nat.beq_refl,Option.some.injEq,Prod.mk.injEq]at h;exact h.1.symm⟩
   rw[h1]
   by_cases hu:u=i
   ·rw[if_pos hu,if_pos hu]
   ·simp only[getF,bne (fun h=>hu h.symm),if_neg hu]
  ·next hi=>
   have hi:i≠t:=fun e=>by subst e;rw[Nat.beq_refl]at hi;contradiction
   split at h<;>try contradiction
   next r' hr=>
    injection h with h;subst h
    obtain⟨h1,h2⟩:=ih hr
    refine⟨?_,?_⟩
    ·simp only[getF]
     by_cases hiu:i=u
     ·subst hiu;rw[Nat.beq_refl,if_neg hi]
     ·rw[bne hiu];exact h1
    ·intro f' e' h
     simp only[getF,bne hi]at h
     exact h2 f' e' h
/-- a state whose slots turn -/
theorem tm_goes(hS:Sim ρ τ p st){tm:PTm}{tm':Tm}(h1 : ∀ t f d,getF tm t=some (f,d) → ∃ e,get tm' t=some e∧RP (cxOf ρ τ p st) d e)
  (h2 : ∀ t d,getF tm t=some (true,d)→getF p.tm t=some (true,d)∧get tm' t=get st.tm t):Goes ρ τ p st ρ τ { p with tm:=tm } { st with tm:=tm' } where
 sim:=⟨h1,hS.nx,hS.rows,hS.inj,hS.lin,hS.linj⟩
 nx:=zR _
 lo:=rfl
 len:=zR _
 ρs _ _:=rfl
 ρn k h1 h2:=absurd h2 (Nat.not_lt.2 h1)
 τn i l h := .inl ⟨i,h⟩
 wf hw:=⟨fun t d h=>hw.1 t d (h2 t d h).1,hw.2⟩
 ro _ _ _ h _:=h
 rof _ r' _ h hr:=⟨r',h,hr⟩
 rk _ _ := .inl rfl
 mem _ _ _:=rfl
 tip _ _ _:=rfl
 lw _ h _ _ _:=h
 flg _ t d h:=h2 t d h
theorem setP_goes(hS:Sim ρ τ p st){dst:Option Nat}{d:Option PD}{e:Option D}(hr:RO (cxOf ρ τ p st) d e){p':PSt}(h:setP p dst d=some p'):Goes ρ τ p st ρ τ p' (st.set dst e):=by
 unfold setP at h
 split at h
 ·injection h with h;subst h
  have:st.set none e=st:=by cases e<;>rfl
  rw[this];exact .refl hS
 ·next t=>
  split at h
  ·next d=>
   split at h<;>try contradiction
   next tm hp=>
    injection h with h;subst h
    cases e with
    | none=>exact hr.elim
    | some e=>
     refine tm_goes hS (tm':=Ev.put st.tm t e) (fun u f d' hu => ?_) (fun u d' hu => ?_)
     ·rw[(getF_put hp u).1]at hu
      rw[get_put]
      split at hu
      ·next h=>injection hu with hu;injection hu with h3 h4;subst h4;rw[if_pos h];exact⟨e,rfl,hr⟩
      ·next h=>rw[if_neg h];exact hS.tm u f d' hu
     ·rw[(getF_put hp u).1]at hu
      split at hu
      ·injection hu with hu;injection hu with h3 h4;contradiction
      ·next h=>exact⟨hu,by rw[get_put,if_neg h]⟩
  ·split at h<;>try contradiction
   next tm hp=>
    injection h with h;subst h
    cases e with
    | some e=>exact hr.elim
    | none=>
     refine tm_goes hS (tm':=Ev.del st.tm t) (fun u f d' hu => ?_) (fun u d' hu => ?_)
     ·rw[(getF_del hp u).1]at hu
      rw[get_del]
      split at hu
      ·contradiction
      ·next h=>rw[if_neg h];exact hS.tm u f d' hu
     ·rw[(getF_del hp u).1]at hu
      split at hu
      ·contradiction
      ·next h=>exact⟨hu,by rw[get_del,if_neg h]⟩
theorem has_B(l:List Nat)(t:Nat):hasB l t=has l t:=by
 induction l with
 | nil=>rfl
 | cons i r ih=>
  simp only[hasB,has]
  by_cases h:i=t
  ·subst h;rw[Nat.beq_refl,if_pos rfl]
  ·have:i.beq t=false:=by
    cases hb:i.beq t with
    | false=>rfl
    | true=>exact(h (zJ hb)).elim
   rw[this,if_neg h];exact ih
theorem getF_kept(l:List Nat)(tm:PTm)(u:Nat):getF (keptP l tm) u=if has l u then getF tm u else none:=by
 induction tm with
 | nil=>simp[keptP,getF]
 | cons a s ih=>
  obtain⟨i,f,e⟩:=a
  simp only[keptP,getF,has_B]
  cases h:has l i with
  | true=>
   simp only[getF]
   cases hb:i.beq u with
   | true=>have:=zJ hb;subst this;rw[h,if_pos rfl]
   | false=>exact ih
  | false=>
   simp only
   rw[ih]
   cases hb:i.beq u with
   | true=>have:=zJ hb;subst this;rw[h];rfl
   | false=>rfl
theorem kept_goes(hS:Sim ρ τ p st)(l:List Nat):Goes ρ τ p st ρ τ { p with tm:=keptP l p.tm } { st with tm:=kept l st.tm }:=by
 refine tm_goes hS (fun u f d hu => ?_) (fun u d hu => ?_)
 ·rw[getF_kept]at hu
  rw[get_kept]
  split at hu<;>try contradiction
  next h=>rw[if_pos h];exact hS.tm u f d hu
 ·rw[getF_kept]at hu
  split at hu<;>try contradiction
  next h=>exact⟨hu,by rw[get_kept,if_pos h]⟩
end
end Go.Ev
end
section
namespace Go.Ev
def rowOf(m:Mem)(k:Nat):Option (List D):=match m k with | some (.row xs _)=>some xs | _=>none
mutual
theorem cl_row{m m':Mem}(h : ∀ k,rowOf m k=rowOf m' k) : ∀ d:D,d.cl m=d.cl m'
 | .und=>rfl
 | .off=>rfl
 | .bool _=>rfl
 | .int _ _=>rfl
 | .float _ _=>rfl
 | .str _=>rfl
 | .nilp=>rfl
 | .nilf=>rfl
 | .nili=>rfl
 | .sl g n xs=>by simp only[D.cl,clL_row h xs]
 | .ref k off n c sz=>by
  have:=h k
  simp only[D.cl]
  unfold rowOf at this
  split at this<;>split at this<;>simp_all
 | .ptr _ _=>rfl
 | .el _=>rfl
 | .agg xs=>by simp only[D.cl,clL_row h xs]
 | .tup xs=>by simp only[D.cl,clL_row h xs]
 | .fn _ _=>rfl
 | .iface t d=>by simp only[D.cl,cl_row h d]
theorem clL_row{m m':Mem}(h : ∀ k,rowOf m k=rowOf m' k) : ∀ l:List D,clL m l=clL m' l
 | []=>rfl
 | d::r=>by simp only[clL,cl_row h d,clL_row h r]
end
theorem rowOf_frz(st:St)(l:List Nat)(k:Nat):rowOf (frz st l).mem k=rowOf st.mem k:=by
 induction l generalizing st with
 | nil=>rfl
 | cons j r ih=>
  simp only[frz]
  split
  ·next xs b hj=>
   rw[ih]
   show rowOf (upd st.mem j _) k=_
   unfold rowOf upd
   by_cases e:k=j
   ·subst e;rw[if_pos rfl,hj]
   ·rw[if_neg e]
  ·exact ih st
theorem frz_other(st:St)(l:List Nat)(b:Nat)(h:b ∉ l):(frz st l).mem b=st.mem b:=by
 induction l generalizing st with
 | nil=>rfl
 | cons k r ih=>
  have h1:b≠k:=fun e=>h (by rw[e];exact List.mem_cons_self)
  have h2:b ∉ r:=fun hm=>h (zP _ hm)
  simp only[frz]
  split
  ·rw[ih _ h2]
   show upd st.mem k _ b=_
   unfold upd;rw[if_neg h1]
  ·exact ih _ h2
theorem frz_append(st:St)(a b:List Nat):frz st (a++b)=frz (frz st a) b:=by
 induction a generalizing st with
 | nil=>rfl
 | cons j r ih=>
  simp only[List.cons_append,frz]
  split<;>exact ih _
def RA(ρ:Nat→Nat)(np:Nat):PA→D→Prop
 | .v x,d=>d=x.toD
 | .p j off,d=>j<np∧d = .ptr (ρ j) off
 | .fn f cap,d => ∃ es,d = .fn f es∧RCL ρ np cap es
 | .o _ _,_=>False
 | .g,_=>False
 | .u,_=>False
def RAL(ρ:Nat→Nat)(np:Nat):List PA→List D→Prop
 | [],[]=>True
 | a::r,d::s=>RA ρ np a d∧RAL ρ np r s
 | _,_=>False
def RPar(n:Nat)(x:V)(o:Ob):Prop := ∃ cs,o = .row cs false∧cl0L cs=toDL x.parts∧okN n x=true∧(n=1→x.one=true)
structure CallGoes(ρ:Nat→Nat)(pars:List (Bool×Nat×V))(ys:List V)(st st1 st':St):Prop where
 tm:st'.tm=st.tm
 lo:st'.lo=st.lo
 nx:st.nx≤st'.nx
 mem : ∀ b,b<st.nx→(∀ (j:Nat) (e:Bool×Nat×V),pars[j]?=some e→ρ j=b→e.1=true)→st'.mem b=st1.mem b
 tip : ∀ l,l<st.nx→st'.tip l=st.tip l
 lw : ∀ m,m≤st1.lw→m≤st.nx→(∀ (j:Nat) (e:Bool×Nat×V),pars[j]?=some e→e.1=false→m≤ρ j)→m≤st'.lw
 par : ∀ (j:Nat) (e:Bool×Nat×V),pars[j]?=some e → ∃ y o,ys[j]?=some y∧st'.mem (ρ j)=some o∧RPar e.2.1 y o
 still:(∀ (j:Nat) (e:Bool×Nat×V),pars[j]?=some e→e.1=true)→st'=st1
def PcN(E:Env)(pc:PcT):Prop := ∀ f as pars r,pc f as pars=some r → ∀ (ρ:Nat→Nat) (st:St) (ds:List D),
 RAL ρ pars.length as (clL st.mem ds) →
 (∀ (j:Nat) (e:Bool×Nat×V),pars[j]?=some e→ρ j<st.nx ∧ ∃ o,(frz st (refsL ds)).mem (ρ j)=some o∧RPar e.2.1 e.2.2 o) →
 (∀ i j,i<pars.length→j<pars.length→ρ i=ρ j→i=j) →
 ∃ st',callL E f ds st=some (.ret r.1.toD,st')∧CallGoes ρ pars r.2 st (frz st (refsL ds)) st'
/-- a slice that may be appended to -/
def TipOf(sz n:Nat)(st:St)(g:Tg):Prop:=g = .full ∨ ∃ l,g = .ln l sz∧l<st.nx∧st.tip l=some n
structure RawGoes(sz:Nat)(g:Tg)(st st':St):Prop where
 tm:st'.tm=st.tm
 lo:st'.lo=st.lo
 nx:st.nx≤st'.nx
 mem : ∀ b,b<st.nx→st'.mem b=st.mem b
 tip : ∀ l,l<st.nx→g ≠ .ln l sz→st'.tip l=st.tip l
 lw : ∀ m,m≤st.lw→m≤st.nx→(∀ l,g = .ln l sz→m≤l)→m≤st'.lw
def PcGAt(E:Env)(pc:PcT)(f sz:Nat)(ds:List D):Prop := ∀ as q,pc f (.g::as) []=some q → ∀ (ρ:Nat→Nat) (st:St),RAL ρ 0 as (clL st.mem ds) →
 ∃ ys cs,q.1 = .sl ys∧cl0L cs=flatD ys∧szOk sz ys=true ∧ ∃ g st',callL E f ds st=some (.ret (.sl g ys.length cs),st') ∧
  (g = .full∧st'=frz st (refsL ds)∨g = .ln (frz st (refsL ds)).nx sz∧st'={ frz st (refsL ds)with tip:=upd (frz st (refsL ds)).tip (frz st (refsL ds)).nx ys.length,nx:=(frz st (refsL ds)).nx+1 })
def PcG(E:Env)(md:Nat→Md)(pc:PcT):Prop := ∀ f sz ds,md f = .gv sz→PcGAt E pc f sz ds
def PcW(E:Env)(md:Nat→Md)(pc:PcT):Prop := ∀ f sz ys xs q,md f = .raw sz→pc f (.o sz ys::xs.map PA.v) []=some q → ∀ (st:St) (g:Tg) (cs es:List D),cl0L cs=flatD ys→szOk sz ys=true→TipOf sz ys.length st g→cl0L es=toDL xs →
 ∃ d st',callL E f (.sl g ys.length cs::es) st=some (.ret d,st')∧d.cl0=q.1.toD∧RawGoes sz g st st'
def roomless:D→Bool
 | .sl .full _ _=>true
 | .ref _ _ n c _=>Nat.beq n c
 | _=>false
def PcF(E:Env)(md:Nat→Md)(pc:PcT):Prop := ∀ f as q,md f = .ful→pc f (.u::as) []=some q → ∀ (ρ:Nat→Nat) (st:St) (d:D) (ds:List D),roomless d=true→RAL ρ 0 as (clL st.mem (d::ds)) →
 callL E f (d::ds) st=some (.ret q.1.toD,frz st (refsL (d::ds)))
def PcH(E:Env)(md:Nat→Md)(pc:PcT):Prop := ∀ f sz d ds,md f = .gvf sz→roomless d=true→PcGAt E pc f sz (d::ds)
structure PcOk(E:Env)(md:Nat→Md)(pc:PcT):Prop where
 n:PcN E pc
 g:PcG E md pc
 w:PcW E md pc
 f:PcF E md pc
 h:PcH E md pc
 e : ∀ f e,md f = .eff e→E.ext f=some (.eff e)
theorem RAL.le{ρ ρ':Nat→Nat}{m m':Nat}(hρ : ∀ k,k<m→ρ' k=ρ k)(hm:m≤m'){as:List PA}{ds:List D}(h:RAL ρ m as ds):RAL ρ' m' as ds:=by
 induction as generalizing ds with
 | nil=>cases ds with | nil=>trivial | cons d s=>exact h.elim
 | cons a r ih=>cases ds with
  | nil=>exact h.elim
  | cons d s=>
   refine⟨?_,ih h.2⟩
   cases a with
   | v x=>exact h.1
   | p j off=>obtain⟨h1,h2⟩:=h.1;exact⟨zK h1 hm,by rw[hρ j h1];exact h2⟩
   | fn f cap=>obtain⟨es,h1,h2⟩:=h.1;exact⟨es,h1,RCL.le hρ hm h2⟩
   | o sz xs=>exact h.1.elim
   | g=>exact h.1.elim
   | u=>exact h.1.elim
section
variable {ρ:Nat→Nat} {τ:Nat→Option Nat} {p:PSt} {st:St} {ρ':Type} {r:ρ'}
/-- a row is handed over -/
theorem freeze_goes(hS:Sim ρ τ p st){k sz off n c:Nat}{z:Bool}{e:D}(hr:RS (cxOf ρ τ p st) (.ref k sz off n c z) e){p':PSt}(h:freeze p (k,z)=some p') :
  Goes ρ τ p st ρ τ p' (frz st e.refs)∧Le (cxOf ρ τ p st) (cxOf ρ τ p' (frz st e.refs))∧p'.tm=p.tm∧p'.rows.length=p.rows.length∧(∀ (j:Nat) (r':Row),p'.rows[j]?=some r'→r'.c.isArr=false→p.rows[j]?=some r') ∧
   (∀ (j:Nat) (r':Row),p.rows[j]?=some r'→r'.c.isArr=false→p'.rows[j]?=some r'):=by
 obtain⟨hk,hn,hdd,hrk⟩:=hr
 have hk:k<p.rows.length:=hk
 -- the row's turn
 have key : ∀ {f f':Fz} {b b':Bool} {s:Nat} {xs:List V} {ds:List D},p.rows[k]?=some ⟨false,.arr f s xs⟩→st.mem (ρ k)=some (.row ds b)→cl0L ds=flatD xs→szOk s xs=true→f'.ok b' →
   Goes ρ τ p st ρ τ (p.setR k (.arr f' s xs)) (st.setOb (ρ k) (.row ds b'))∧Le (cxOf ρ τ p st) (cxOf ρ τ (p.setR k (.arr f' s xs)) (st.setOb (ρ k) (.row ds b'))):=by
  intro f f' b b' s xs ds hkk hm h1 h2 h3
  have hrk2:=rkOf_setA (f':=f') hkk (ys:=xs) rfl
  refine⟨setR_goes hS hkk hrk2 ⟨ds,b',rfl,h3,h1,h2⟩,fun _ _=>rfl,by simp[cxOf,PSt.setR],fun j _ => .inl ?_,fun i l h=>⟨h,rfl⟩,zR _⟩
  by_cases e:j=k
  ·subst e;exact hrk2
  ·show rkOf (p.setR k _).rows j=rkOf p.rows j
   simp only[rkOf,PSt.setR,List.getElem?_set_ne (fun h=>e h.symm)]
 have other : ∀ {f f':Fz} {s:Nat} {xs:List V},p.rows[k]?=some ⟨false,.arr f s xs⟩→(∀ (j:Nat) (r':Row),(p.setR k (.arr f' s xs)).rows[j]?=some r'→r'.c.isArr=false→p.rows[j]?=some r') ∧
   (∀ (j:Nat) (r':Row),p.rows[j]?=some r'→r'.c.isArr=false→(p.setR k (.arr f' s xs)).rows[j]?=some r'):=by
  intro f f' s xs hkk
  refine⟨fun j r' hj hr' => ?_,fun j r' hj hr' => ?_⟩
  ·by_cases e:j=k
   ·subst e;simp[PSt.setR,List.getElem?_set_self hk]at hj;subst hj;simp[RowC.isArr]at hr'
   ·simpa[PSt.setR,List.getElem?_set_ne (fun h=>e h.symm)]using hj
  ·by_cases e:j=k
   ·subst e;rw[hkk]at hj;injection hj with hj;subst hj;simp[RowC.isArr]at hr'
   ·simpa[PSt.setR,List.getElem?_set_ne (fun h=>e h.symm)]using hj
 have lenS : ∀ c,(p.setR k c).rows.length=p.rows.length:=fun c=>by simp[PSt.setR]
 have frz1 : ∀ {ds b},st.mem (ρ k)=some (.row ds b)→frz st [ρ k]=st.setOb (ρ k) (.row ds true):=by
  intro ds b hm;simp only[frz,hm]
 have row : ∀ {rr:Row} {f:Fz} {s:Nat} {xs:List V},p.rows[k]?=some rr→rr.c = .arr f s xs → ∃ ds b,st.mem (ρ k)=some (.row ds b)∧f.ok b∧cl0L ds=flatD xs∧szOk s xs=true:=by
  intro rr f s xs hkk hc
  obtain⟨o,ho,h2⟩:=hS.rows k _ hkk
  rw[hc]at h2
  obtain⟨ds,b,rfl,h3,h4,h5⟩:=h2
  rcases ho with ho | ho
  ·rw[hc]at ho;contradiction
  ·exact⟨ds,b,ho,h3,h4,h5⟩
 unfold freeze at h
 split at h<;>try contradiction
 ·next ro s xs hkk=>
  injection h with h;subst h
  obtain⟨ds,b,ho,h3,h4,h5⟩:=row hkk rfl
  have h3:b=true:=h3
  subst h3
  rcases hdd with⟨rfl,_⟩ | ⟨_,rfl,_⟩
  ·-- it is held already: nothing turns but the mark of what has been touched
   have hmem : ∀ b,upd st.mem (ρ k) (.row ds true) b=st.mem b:=by
    intro b;unfold upd;split
    ·next e=>rw[e];exact ho.symm
    ·rfl
   have hst:frz st (D.refs (.ref ((cxOf ρ τ p st).ρ k) (off * sz) n c sz))={ st with lw:=if ρ k<st.lw then ρ k else st.lw }:=by
    show frz st [ρ k]=_
    rw[frz1 ho]
    show({ st.touch (ρ k)with mem:=upd st.mem (ρ k) (.row ds true) }:St)=_
    rw[funext hmem];rfl
   rw[hst]
   refine⟨⟨⟨hS.tm,hS.nx,hS.rows,hS.inj,hS.lin,hS.linj⟩,zR _,rfl,zR _,fun _ _=>rfl,fun j h1 h2=>absurd h2 (Nat.not_lt.2 h1),fun i l h => .inl ⟨i,h⟩,fun h=>h,fun _ _ _ h _=>h,fun _ r' _ h hr=>⟨r',h,hr⟩,fun _ _ => .inl rfl,fun _ _ _=>rfl,fun _ _ _=>rfl,fun m h1 _ h6 _ => ?_,fun _ t d h=>⟨h,rfl⟩⟩,⟨fun _ _=>rfl,zR _,fun _ _ => .inl rfl,fun i l h=>⟨h,rfl⟩,zR _⟩,rfl,rfl,fun _ _ h _=>h,fun _ _ h _=>h⟩
   have:=h6 k _ hkk (.inr rfl)
   show m≤if ρ k<st.lw then ρ k else st.lw
   split<;>omega
  ·exact⟨.refl hS,⟨fun _ _=>rfl,zR _,fun _ _ => .inl rfl,fun i l h=>⟨h,rfl⟩,zR _⟩,rfl,rfl,fun _ _ h _=>h,fun _ _ h _=>h⟩
 ·next s xs hkk=>
  obtain⟨ds,b,ho,h3,h4,h5⟩:=row hkk rfl
  cases z with
  | true=>
   injection h with h;subst h
   rcases hdd with⟨rfl,_⟩ | ⟨_,rfl,_⟩
   ·have hst:frz st (D.refs (.ref ((cxOf ρ τ p st).ρ k) (off * sz) n c sz))=st.setOb (ρ k) (.row ds true):=frz1 ho
    rw[hst]
    have hp:p.setR k (.arr .may s xs)=p:=by
     have:p.rows.set k ⟨false,.arr .may s xs⟩=p.rows:=by
      apply List.ext_getElem?
      intro i
      by_cases hi:i=k
      ·subst hi;rw[List.getElem?_set_self (getElem?_lt hkk),hkk]
      ·rw[List.getElem?_set_ne (fun e=>hi e.symm)]
     simp only[PSt.setR,this]
    obtain⟨h6,h7⟩:=key (f' := .may) (b':=true) hkk ho h4 h5 trivial
    rw[hp]at h6 h7
    exact⟨h6,h7,rfl,rfl,fun _ _ h _=>h,fun _ _ h _=>h⟩
   ·exact⟨.refl hS,⟨fun _ _=>rfl,zR _,fun _ _ => .inl rfl,fun i l h=>⟨h,rfl⟩,zR _⟩,rfl,rfl,fun _ _ h _=>h,fun _ _ h _=>h⟩
  | false=>
   injection h with h;subst h
   rcases hdd with⟨rfl,_⟩ | ⟨_,rfl,h8⟩
   ·have hst:frz st (D.refs (.ref ((cxOf ρ τ p st).ρ k) (off * sz) n c sz))=st.setOb (ρ k) (.row ds true):=frz1 ho
    rw[hst]
    obtain⟨h6,h7⟩:=key (f' := .yes) (b':=true) hkk ho h4 h5 rfl
    obtain⟨h9,h10⟩:=other (f' := .yes) hkk
    exact⟨h6,h7,rfl,lenS _,h9,h10⟩
   ·contradiction
 ·next s xs hkk=>
  obtain⟨ds,b,ho,h3,h4,h5⟩:=row hkk rfl
  cases z with
  | true=>
   injection h with h;subst h
   obtain⟨h9,h10⟩:=other (f' := .may) hkk
   rcases hdd with⟨rfl,_⟩ | ⟨_,rfl,_⟩
   ·have hst:frz st (D.refs (.ref ((cxOf ρ τ p st).ρ k) (off * sz) n c sz))=st.setOb (ρ k) (.row ds true):=frz1 ho
    rw[hst]
    obtain⟨h6,h7⟩:=key (f' := .may) (b':=true) hkk ho h4 h5 trivial
    exact⟨h6,h7,rfl,lenS _,h9,h10⟩
   ·obtain⟨h6,h7⟩:=key (f' := .may) (b':=b) hkk ho h4 h5 trivial
    have hsame:st.setOb (ρ k) (.row ds b)={ st with lw:=if ρ k<st.lw then ρ k else st.lw }:=by
     show({ st.touch (ρ k)with mem:=upd st.mem (ρ k) (.row ds b) }:St)=_
     have hmem : ∀ j,upd st.mem (ρ k) (.row ds b) j=st.mem j:=by
      intro j;unfold upd;split
      ·next e=>rw[e];exact ho.symm
      ·rfl
     rw[funext hmem];rfl
    rw[hsame]at h6 h7
    refine⟨⟨⟨h6.sim.tm,h6.sim.nx,h6.sim.rows,h6.sim.inj,h6.sim.lin,h6.sim.linj⟩,h6.nx,h6.lo,h6.len,h6.ρs,h6.ρn,h6.τn,h6.wf,h6.ro,h6.rof,h6.rk,fun _ _ _=>rfl,fun _ _ _=>rfl,fun m h1 _ _ _=>h1,h6.flg⟩,⟨h7.ρ,h7.m,h7.rk,h7.τ,h7.ni⟩,rfl,lenS _,h9,h10⟩
  | false=>
   injection h with h;subst h
   rcases hdd with⟨rfl,_⟩ | ⟨_,rfl,h8⟩
   ·have hst:frz st (D.refs (.ref ((cxOf ρ τ p st).ρ k) (off * sz) n c sz))=st.setOb (ρ k) (.row ds true):=frz1 ho
    rw[hst]
    obtain⟨h6,h7⟩:=key (f' := .yes) (b':=true) hkk ho h4 h5 rfl
    obtain⟨h9,h10⟩:=other (f' := .yes) hkk
    exact⟨h6,h7,rfl,lenS _,h9,h10⟩
   ·contradiction
theorem Le.refl(c:Cx):Le c c:=⟨fun _ _=>rfl,zR _,fun _ _ => .inl rfl,fun _ _ h=>⟨h,rfl⟩,zR _⟩
theorem Le.trans{a b c:Cx}(h:Le a b)(k:Le b c):Le a c where
 ρ j hj:=by rw[k.ρ j (zK hj h.m),h.ρ j hj]
 m:=Nat.le_trans h.m k.m
 rk j hj:=by
  rcases k.rk j (zK hj h.m)with e | e
  ·rw[e];exact h.rk j hj
  ·exact .inr e
 τ i l hi:=by
  obtain⟨h1,h2⟩:=h.τ i l hi
  obtain⟨h3,h4⟩:=k.τ i l h1
  exact⟨h3,h4.trans h2⟩
 ni:=Nat.le_trans h.ni k.ni
/-- what turns when rows are handed over -/
structure Held(ρ:Nat→Nat)(τ:Nat→Option Nat)(p:PSt)(st:St)(p':PSt)(st':St):Prop where
 goes:Goes ρ τ p st ρ τ p' st'
 le:Le (cxOf ρ τ p st) (cxOf ρ τ p' st')
 tm:p'.tm=p.tm
 len:p'.rows.length=p.rows.length
 to : ∀ (j:Nat) (r':Row),p'.rows[j]?=some r'→r'.c.isArr=false→p.rows[j]?=some r'
 fro : ∀ (j:Nat) (r':Row),p.rows[j]?=some r'→r'.c.isArr=false→p'.rows[j]?=some r'
 ni:p'.ni=p.ni
 big : ∀ b,st.nx≤b→st'.mem b=st.mem b
 nx:st'.nx=st.nx
theorem freeze_ni{p p':PSt}{kz:Nat×Bool}(h:freeze p kz=some p'):p'.ni=p.ni:=by
 unfold freeze at h
 split at h<;>try contradiction
 ·injection h with h;subst h;rfl
 ·split at h<;>(injection h with h;subst h;rfl)
 ·split at h<;>(injection h with h;subst h;rfl)
theorem Held.refl(hS:Sim ρ τ p st):Held ρ τ p st p st:=⟨.refl hS,.refl _,rfl,rfl,fun _ _ h _=>h,fun _ _ h _=>h,rfl,fun _ _=>rfl,rfl⟩
theorem Held.trans{p1 p2:PSt}{st1 st2:St}(hw:Wf p)(h:Held ρ τ p st p1 st1)(k:Held ρ τ p1 st1 p2 st2):Held ρ τ p st p2 st2:=
 ⟨.trans hw h.goes k.goes,h.le.trans k.le,k.tm.trans h.tm,k.len.trans h.len,fun j r' h1 h2=>h.to j r' (k.to j r' h1 h2) h2,fun j r' h1 h2=>k.fro j r' (h.fro j r' h1 h2) h2,k.ni.trans h.ni,fun b hb=>(k.big b (by rw[h.nx];exact hb)).trans (h.big b hb),k.nx.trans h.nx⟩
theorem outS_ok(hS:Sim ρ τ p st){q:PS}{e:D}(hr:RS (cxOf ρ τ p st) q e){x:V}(h:q.outV p=some x):e.cl st.mem=x.toD:=by
 cases q
 case ref k sz off n c z=>
  simp only[PS.outV]at h
  split at h<;>try contradiction
  next fz szr xs hrr=>
   injection h with h;subst h
   obtain⟨rr,hr1,hr2⟩:=rowR_some hrr
   obtain⟨hk,hn,hdd,hrk⟩:=hr
   obtain⟨hs,hlen⟩:=hrk _ _ (rk_arr hr1 hr2)
   subst hs
   obtain⟨o,ho,ds,b,rfl,hfz,hds,hsz⟩:=hS.row hrr (by simp)
   have ho:st.mem ((cxOf ρ τ p st).ρ k)=some (.row ds b):=ho
   have hl:ds.length=xs.length * szr:=by have:=congrArg List.length hds;rw[cl0L_len,flatD_len hsz]at this;exact this
   have hll:((xs.drop off).take n).length=n:=by rw[List.length_take,List.length_drop];omega
   rcases hdd with⟨rfl,_⟩ | ⟨rfl,rfl,_⟩
   ·have hm:(off+n) * szr≤xs.length * szr:=zW _ (by omega)
    rw[Nat.add_mul]at hm
    simp only[D.cl,ho,V.toD,hll]
    rw[if_pos ⟨hn,by omega⟩,cl0L_take,cl0L_drop,hds,flatD_drop hsz,flatD_take (szOk_drop hsz _)]
   ·have:n=0:=by omega
    subst this
    simp[D.cl,clL,V.toD,flatD]
 all_goals exact(cl_of (PS.pure_ok hr h) _).1
theorem outL_ok(hS:Sim ρ τ p st){ps:List PS}{es:List D}(hr:RSL (cxOf ρ τ p st) ps es){l:List V}(h:outL p ps=some l):clL st.mem es=toDL l:=by
 induction ps generalizing es l with
 | nil=>cases es with
  | nil=>simp[outL]at h;subst h;rfl
  | cons d s=>exact hr.elim
 | cons q r ih=>cases es with
  | nil=>exact hr.elim
  | cons d s=>
   simp only[outL]at h
   split at h<;>try contradiction
   split at h<;>try contradiction
   next x hx _ l' hl=>injection h with h;subst h;simp only[clL,toDL,outS_ok hS hr.1 hx,ih hr.2 hl]
theorem outV_ok(hS:Sim ρ τ p st){q:PD}{e:D}(hr:RP (cxOf ρ τ p st) q e){x:V}(h:q.outV p=some x):e.cl st.mem=x.toD:=by
 cases q with
 | s q=>exact outS_ok hS hr h
 | agg ps=>
  obtain⟨es,rfl,h1,_⟩:=hr
  simp only[PD.outV]at h
  split at h<;>try contradiction
  next l hl=>injection h with h;subst h;simp only[D.cl,V.toD,outL_ok hS h1 hl]
theorem freezeS_ok(hS:Sim ρ τ p st){q:PS}{e:D}(hr:RS (cxOf ρ τ p st) q e){x:V}(ho:q.outV p=some x){p':PSt}(h:freezeL p q.refs=some p'):Held ρ τ p st p' (frz st e.refs):=by
 cases q
 case ref k sz off n c z=>
  simp only[PS.refs,freezeL]at h
  split at h<;>try contradiction
  next p1 h1=>
   injection h with h;subst h
   obtain⟨h2,h3,h4,h5,h6,h7⟩:=freeze_goes hS hr h1
   refine⟨h2,h3,h4,h5,h6,h7,freeze_ni h1,fun b hb=>frz_other st _ b (fun hm => ?_),nx_frz _ _⟩
   obtain⟨hk,hn,hdd,hrk⟩:=hr
   rcases hdd with⟨rfl,_⟩ | ⟨_,rfl,_⟩
   ·simp only[D.refs,zS,List.not_mem_nil,or_false]at hm
    have:=hS.nx k hk
    subst hm;exact absurd this (Nat.not_lt.2 hb)
   ·simp[D.refs,refsL]at hm
 all_goals
  simp only[PS.refs,freezeL,Option.some.injEq]at h;subst h
  have:=PS.pure_ok hr ho
  rw[(cl_of this st.mem).2]
  exact .refl hS
theorem freezeL_append(p:PSt)(a b:List (Nat×Bool)):freezeL p (a++b)=(freezeL p a).bind fun p'=>freezeL p' b:=by
 induction a generalizing p with
 | nil=>rfl
 | cons k r ih=>
  simp only[List.cons_append,freezeL]
  split
  ·exact ih _
  ·rfl
def SameRows(p p':PSt):Prop := ∀ k:Nat,(∃ r r':Row,p.rows[k]?=some r∧p'.rows[k]?=some r'∧((∃ f f' s xs,r.c = .arr f s xs∧r'.c = .arr f' s xs)∨r=r'))∨p.rows[k]?=none∧p'.rows[k]?=none
theorem outS_held{p':PSt}(h:SameRows p p')(q:PS):q.outV p'=q.outV p:=by
 cases q
 case ref k sz off n c z=>
  simp only[PS.outV,rowR]
  rcases h k with⟨r,r',h1,h2,⟨f,f',s,xs,h3,h4⟩ | h3⟩ | ⟨h1,h2⟩
  ·obtain⟨ro,c⟩:=r
   obtain⟨ro',c'⟩:=r'
   simp only at h3 h4
   subst h3;subst h4
   simp only[h1,h2]
  ·subst h3;rw[h1,h2]
  ·rw[h1,h2]
 all_goals rfl
theorem SameRows.refl(p:PSt):SameRows p p:=fun k=>by
 cases h:p.rows[k]? with
 | none=>exact .inr ⟨rfl,rfl⟩
 | some r=>exact .inl ⟨r,r,rfl,rfl,.inr rfl⟩
theorem freeze_same{p p':PSt}{kz:Nat×Bool}(h:freeze p kz=some p'):SameRows p p':=by
 intro j
 have key : ∀ {f f':Fz} {s:Nat} {xs:List V},p.rows[kz.1]?=some ⟨false,.arr f s xs⟩→p'={ p with rows:=p.rows.set kz.1 ⟨false,.arr f' s xs⟩ } →
   (∃ r r':Row,p.rows[j]?=some r∧p'.rows[j]?=some r'∧((∃ f f' s xs,r.c = .arr f s xs∧r'.c = .arr f' s xs)∨r=r'))∨p.rows[j]?=none∧p'.rows[j]?=none:=by
  intro f f' s xs hk he
  subst he
  by_cases e:j=kz.1
  ·subst e
   exact .inl ⟨_,⟨false,.arr f' s xs⟩,hk,by simp[List.getElem?_set_self (getElem?_lt hk)],.inl ⟨f,f',s,xs,rfl,rfl⟩⟩
  ·simp only[List.getElem?_set_ne (fun h=>e h.symm)]
   exact SameRows.refl p j
 unfold freeze at h
 split at h<;>try contradiction
 ·injection h with h;subst h;exact SameRows.refl p j
 ·next hk=>
  split at h
  ·injection h with h;subst h;exact SameRows.refl p j
  ·injection h with h;exact key hk h.symm
 ·next hk=>
  split at h
  ·injection h with h;exact key hk h.symm
  ·injection h with h;exact key hk h.symm
theorem freezeL_same{p p':PSt}{l:List (Nat×Bool)}(h:freezeL p l=some p') : ∀ q:PS,q.outV p'=q.outV p:=by
 induction l generalizing p with
 | nil=>simp only[freezeL,Option.some.injEq]at h;subst h;intro q;rfl
 | cons k r ih=>
  simp only[freezeL]at h
  split at h<;>try contradiction
  next p1 h1=>
   intro q
   rw[ih h q,outS_held (freeze_same h1)]
theorem freezeSL_ok(hS:Sim ρ τ p st)(hw:Wf p){ps:List PS}{es:List D}(hr:RSL (cxOf ρ τ p st) ps es){l:List V}(ho:outL p ps=some l){p':PSt}(h:freezeL p (refsS ps)=some p'):Held ρ τ p st p' (frz st (refsL es)):=by
 induction ps generalizing es l p st with
 | nil=>cases es with
  | nil=>simp only[refsS,freezeL,Option.some.injEq]at h;subst h;exact .refl hS
  | cons d s=>exact hr.elim
 | cons q r ih=>cases es with
  | nil=>exact hr.elim
  | cons d s=>
   simp only[outL]at ho
   split at ho<;>try contradiction
   split at ho<;>try contradiction
   next x hx _ l' hl=>
    simp only[refsS,freezeL_append,zA]at h
    obtain⟨p1,h1,h2⟩:=h
    have hh:=freezeS_ok hS hr.1 hx h1
    have hl1:outL p1 r=some l':=by
     have hs:=freezeL_same h1
     have : ∀ ps:List PS,outL p1 ps=outL p ps:=by
      intro ps;induction ps with
      | nil=>rfl
      | cons q r ih=>simp only[outL,hs,ih]
     rw[this];exact hl
    simp only[refsL,frz_append]
    exact hh.trans hw (ih hh.goes.sim (hh.goes.wf hw) (RSL.le hh.le hr.2) hl1 h2)
theorem freezeP_ok(hS:Sim ρ τ p st)(hw:Wf p){q:PD}{e:D}(hr:RP (cxOf ρ τ p st) q e){x:V}(ho:q.outV p=some x){p':PSt}(h:freezeL p q.refs=some p'):Held ρ τ p st p' (frz st e.refs):=by
 cases q with
 | s q=>exact freezeS_ok hS hr ho h
 | agg ps=>
  obtain⟨es,rfl,h1,_⟩:=hr
  simp only[PD.outV]at ho
  split at ho<;>try contradiction
  next l hl=>simp only[D.refs];exact freezeSL_ok hS hw h1 hl h
end
end Go.Ev
end
section
namespace Go.Ev
section
variable {ρ:Nat→Nat} {τ:Nat→Option Nat} {p:PSt} {st:St} {ρ':Type} {r:ρ'}
theorem place_ok(k:Nat)(ks:List Nat):(place k ks).2[(place k ks).1]?=some k∧(∃ e,(place k ks).2=ks++e)∧(ks.Nodup→(place k ks).2.Nodup) ∧ ∀ j∈(place k ks).2,j∈ks∨j=k:=by
 unfold place
 cases h:ks.findIdx? (fun j=>j.beq k)with
 | some j=>
  simp only
  obtain⟨h1,h2,_⟩:=List.findIdx?_eq_some_iff_getElem.1 h
  have h2:=zJ h2
  exact⟨by rw[zL h1,h2],⟨[],by simp⟩,id,fun j hj => .inl hj⟩
 | none=>
  simp only
  have h1:=List.findIdx?_eq_none_iff.1 h
  refine⟨by simp,⟨[k],rfl⟩,fun hn => ?_,fun j hj => ?_⟩
  ·rw[List.nodup_append]
   refine⟨hn,by simp,?_⟩
   intro a ha b hb
   simp at hb;subst hb
   intro e;subst e
   have:=h1 a ha
   rw[Nat.beq_refl]at this;contradiction
  ·simpa using hj
/-- rows that are pointed to: an end of the list -/
structure Ks(n:Nat)(ks ks':List Nat):Prop where
 ext : ∃ e,ks'=ks++e
 nd:ks.Nodup→ks'.Nodup
 lt:(∀ j∈ks,j<n) → ∀ j∈ks',j<n
theorem Ks.refl(n:Nat)(ks:List Nat):Ks n ks ks:=⟨⟨[],by simp⟩,id,id⟩
theorem Ks.trans{n:Nat}{a b c:List Nat}(h:Ks n a b)(k:Ks n b c):Ks n a c:=by
 refine⟨?_,fun x=>k.nd (h.nd x),fun x=>k.lt (h.lt x)⟩
 obtain⟨e,rfl⟩:=h.ext
 obtain⟨f,rfl⟩:=k.ext
 exact⟨e++f,by rw[List.append_assoc]⟩
theorem place_Ks{n k:Nat}(hk:k<n)(ks:List Nat):Ks n ks (place k ks).2:=by
 obtain⟨_,h2,h3,h4⟩:=place_ok k ks
 refine⟨h2,h3,fun h j hj => ?_⟩
 rcases h4 j hj with h5 | h5
 ·exact h j h5
 ·rw[h5];exact hk
def at0(ρ:Nat→Nat)(ks:List Nat)(j:Nat):Nat:=ρ (ks.getD j 0)
theorem at0_ok{ρ:Nat→Nat}{ks e:List Nat}{j k:Nat}(h:ks[j]?=some k):at0 ρ (ks++e) j=ρ k∧j<(ks++e).length:=by
 have hj:=getElem?_lt h
 refine⟨?_,by simp;omega⟩
 unfold at0
 rw[List.getD_eq_getElem?_getD,List.getElem?_append_left hj,h];rfl
theorem capA_ok{m:Nat}{ks:List Nat}{cap:List CP}{ds:List D}(h:RCL ρ m cap ds):Ks m ks (capA ks cap).2 ∧ ∀ e,RCL (at0 ρ ((capA ks cap).2++e)) ((capA ks cap).2++e).length (capA ks cap).1 ds:=by
 induction cap generalizing ks ds with
 | nil=>cases ds with
  | nil=>exact⟨.refl _ _,fun e=>trivial⟩
  | cons d s=>exact h.elim
 | cons q r ih=>cases ds with
  | nil=>exact h.elim
  | cons d s=>
   cases q with
   | v x=>
    obtain⟨h1,h2⟩:=ih (ks:=ks) h.2
    exact⟨h1,fun e=>⟨h.1,h2 e⟩⟩
   | p k off=>
    obtain⟨h1,h2⟩:=ih (ks:=(place k ks).2) h.2
    refine⟨(place_Ks h.1.1 ks).trans h1,fun e=>⟨?_,h2 e⟩⟩
    obtain⟨f,hf⟩:=h1.ext
    simp only[capA]
    rw[hf,List.append_assoc]
    obtain⟨h3,h4⟩:=at0_ok (ρ:=ρ) (e:=f++e) (place_ok k ks).1
    exact⟨h4,by rw[h3];exact h.1.2⟩
theorem argA_ok(hS:Sim ρ τ p st)(hw:Wf p){ks:List Nat}{d:PD}{e:D}(hr:RP (cxOf ρ τ p st) d e){a:PA}{ks':List Nat}{p':PSt}(h:argA p ks d=some (a,ks',p')) :
  Ks p.rows.length ks ks'∧Held ρ τ p st p' (frz st e.refs) ∧ ∀ f,RA (at0 ρ (ks'++f)) (ks'++f).length a (e.cl st.mem):=by
 unfold argA at h
 split at h
 ·next k off=>
  injection h with h
  simp only[Prod.mk.injEq]at h
  obtain⟨rfl,rfl,rfl⟩:=h
  obtain⟨hk,rfl⟩:=hr
  refine⟨place_Ks hk ks,.refl hS,fun f => ?_⟩
  obtain⟨h3,h4⟩:=at0_ok (ρ:=ρ) (e:=f) (place_ok k ks).1
  exact⟨h4,by rw[h3];rfl⟩
 ·next f cap=>
  injection h with h
  simp only[Prod.mk.injEq]at h
  obtain⟨rfl,rfl,rfl⟩:=h
  obtain⟨ds,rfl,h1⟩:=hr
  obtain⟨h2,h3⟩:=capA_ok (ks:=ks) h1
  exact⟨h2,.refl hS,fun g=>⟨ds,rfl,h3 g⟩⟩
 ·split at h<;>try contradiction
  split at h<;>try contradiction
  next x hx _ p1 hp=>
   injection h with h
   simp only[Prod.mk.injEq]at h
   obtain⟨rfl,rfl,rfl⟩:=h
   exact⟨.refl _ _,freezeP_ok hS hw hr hx hp,fun g=>outV_ok hS hr hx⟩
theorem argsA_ok(hS:Sim ρ τ p st)(hw:Wf p){ks:List Nat}{ds:List PD}{es:List D}(hr:RPL (cxOf ρ τ p st) ds es){as:List PA}{ks':List Nat}{p':PSt}(h:argsA p ks ds=some (as,ks',p')) :
  Ks p.rows.length ks ks'∧Held ρ τ p st p' (frz st (refsL es)) ∧ ∀ f,RAL (at0 ρ (ks'++f)) (ks'++f).length as (clL st.mem es):=by
 induction ds generalizing es as ks p st with
 | nil=>cases es with
  | nil=>
   simp only[argsA,Option.some.injEq,Prod.mk.injEq]at h
   obtain⟨rfl,rfl,rfl⟩:=h
   exact⟨.refl _ _,.refl hS,fun f=>trivial⟩
  | cons d s=>exact hr.elim
 | cons d r ih=>cases es with
  | nil=>exact hr.elim
  | cons e s=>
   simp only[argsA]at h
   split at h<;>try contradiction
   next a ks1 p1 h1=>
    split at h<;>try contradiction
    next l ks2 p2 h2=>
     injection h with h
     simp only[Prod.mk.injEq]at h
     obtain⟨rfl,rfl,rfl⟩:=h
     obtain⟨h3,h4,h5⟩:=argA_ok hS hw hr.1 h1
     obtain⟨h6,h7,h8⟩:=ih h4.goes.sim (h4.goes.wf hw) (RPL.le h4.le hr.2) h2
     rw[h4.len]at h6
     refine⟨h3.trans h6,by simp only[refsL,frz_append];exact h4.trans hw h7,fun f=>⟨?_,?_⟩⟩
     ·obtain⟨g,hg⟩:=h6.ext
      rw[hg,List.append_assoc]
      exact h5 (g++f)
     ·have:=h8 f
      rw[clL_row (fun k=>rowOf_frz st e.refs k)]at this
      exact this
theorem rowV_ok{c:Cx}{rc:RowC}{o:Ob}(h:RW c rc o){n:Nat}{x:V}(k:rowV rc=some (n,x)):RPar n x o:=by
 unfold rowV at k
 split at k<;>try contradiction
 ·split at k<;>try contradiction
  next hn=>
   injection k with k
   simp only[Prod.mk.injEq]at k
   obtain⟨rfl,rfl⟩:=k
   obtain⟨ds,rfl,h1,h2⟩:=h
   exact⟨ds,rfl,h1,h2,fun e=>by subst e;contradiction⟩
 ·split at k<;>try contradiction
  next ps _ l hl=>
   injection k with k
   simp only[Prod.mk.injEq]at k
   obtain⟨rfl,rfl⟩:=k
   obtain⟨ds,rfl,h1,h2⟩:=h
   have h3:=pureL_ok h1 hl
   have h4:=allOneV_of h3 h2
   have h5:=mkEl_parts h4
   have h6:l.length=ps.length:=by rw[RSL_len h1,len_of h3]
   refine⟨ds,rfl,by rw[h5];exact h3,okN_mk (by rw[h5];exact h6) (by rw[h5];exact h4),fun e => ?_⟩
   match l,h4,h6 with
   | [x],h4,_=>simpa[mkEl,allOneV]using h4
   | [],_,h6=>simp at h6;omega
   | _::_::_,_,h6=>simp at h6;omega
theorem rowV_arr{rc:RowC}{n:Nat}{x:V}(k:rowV rc=some (n,x)):rc.isArr=false∧rc ≠ .dead:=by
 unfold rowV at k
 split at k<;>try contradiction
 ·exact⟨rfl,by simp⟩
 ·exact⟨rfl,by simp⟩
theorem parC_ok{c:Cx}{n:Nat}{x:V}{o:Ob}(h:RPar n x o):RW c (parC n x) o:=by
 obtain⟨cs,rfl,h1,h2,h3⟩:=h
 unfold parC
 split
 ·next hn=>
  have hn:=zJ hn
  have hx:=h3 hn
  have hp:x.parts=[x]:=by cases x<;>first | rfl | simp[V.one]at hx
  rw[hp]at h1
  refine⟨cs,rfl,?_,allOne_of h1 (by simp[allOneV,hx])⟩
  have:=RSL_v (c:=c) h1
  simpa using this
 ·exact⟨cs,rfl,h1,h2⟩
theorem parC_arr(n:Nat)(x:V):(parC n x).isArr=false∧(parC n x).hasOwn=false:=by
 unfold parC;split<;>exact⟨rfl,rfl⟩
theorem parsA_ok{ks:List Nat}{pars:List (Bool×Nat×V)}(h:parsA p ks=some pars):pars.length=ks.length ∧ ∀ (j:Nat) (e:Bool×Nat×V),pars[j]?=some e → ∃ k rw,ks[j]?=some k∧p.rows[k]?=some rw∧rw.ro=e.1∧rowV rw.c=some (e.2.1,e.2.2):=by
 induction ks generalizing pars with
 | nil=>simp only[parsA,Option.some.injEq]at h;subst h;exact⟨rfl,fun j e h=>by simp at h⟩
 | cons k r ih=>
  simp only[parsA]at h
  split at h<;>try contradiction
  split at h<;>try contradiction
  split at h<;>try contradiction
  next ro c hk _ n x hx _ l hl=>
   injection h with h;subst h
   obtain⟨h1,h2⟩:=ih hl
   refine⟨by simp[h1],fun j e hj => ?_⟩
   cases j with
   | zero=>simp at hj;subst hj;exact⟨k,⟨ro,c⟩,by simp,hk,rfl,hx⟩
   | succ j=>simpa using h2 j e (by simpa using hj)
theorem backK_ok{ys:List V}{j:Nat}{ks:List Nat}(hn:ks.Nodup){K:PSt→Option ρ'}(h:backK p ys j ks K=some r) :
  ∃ p',K p'=some r∧p'.tm=p.tm∧(p'.ni=p.ni∧p'.lim=p.lim)∧p'.rows.length=p.rows.length∧(∀ k,k ∉ ks→p'.rows[k]?=p.rows[k]?) ∧
   ∀ (i k:Nat) (rw:Row),ks[i]?=some k→p.rows[k]?=some rw→(rw.ro=true→p'.rows[k]?=some rw)∧(rw.ro=false → ∃ n x y,rowV rw.c=some (n,x)∧ys[j+i]?=some y∧p'.rows[k]?=some ⟨false,parC n y⟩):=by
 induction ks generalizing p j with
 | nil=>exact⟨p,h,rfl,⟨rfl,rfl⟩,rfl,fun _ _=>rfl,fun i k rw h=>by simp at h⟩
 | cons k0 ks ih=>
  rw[List.nodup_cons]at hn
  simp only[backK]at h
  split at h<;>try contradiction
  ·next c hk=>
   obtain⟨p',h1,h2,h3,h4,h5,h6⟩:=ih hn.2 h
   refine⟨p',h1,h2,h3,h4,fun k hk'=>h5 k (fun hm=>hk' (zP _ hm)),fun i k rw hi hr => ?_⟩
   cases i with
   | zero=>
    simp at hi;subst hi
    rw[hk]at hr;injection hr with hr;subst hr
    exact⟨fun _=>by rw[h5 k0 hn.1];exact hk,fun h=>by contradiction⟩
   | succ i=>
    have:=h6 i k rw (by simpa using hi) hr
    rw[Nat.add_right_comm]at this;exact this
  ·next c hk=>
   split at h<;>try contradiction
   next n x hx=>
    rw[zA]at h
    obtain⟨y,hy,h⟩:=h
    obtain⟨p',h1,h2,h3,h4,h5,h6⟩:=ih hn.2 h
    have hlen:(p.setR k0 (parC n y)).rows.length=p.rows.length:=by simp[PSt.setR]
    have hself:(p.setR k0 (parC n y)).rows[k0]?=some ⟨false,parC n y⟩:=by simp[PSt.setR,List.getElem?_set_self (getElem?_lt hk)]
    have hoth : ∀ k,k≠k0→(p.setR k0 (parC n y)).rows[k]?=p.rows[k]?:=fun k hk=>by simp[PSt.setR,List.getElem?_set_ne (fun h=>hk h.symm)]
    refine⟨p',h1,h2,h3,by rw[h4,hlen],fun k hk' => ?_,fun i k rw hi hr => ?_⟩
    ·rw[h5 k (fun hm=>hk' (zP _ hm)),hoth k (fun e=>hk' (by rw[e];exact List.mem_cons_self))]
    ·cases i with
     | zero=>
      simp at hi;subst hi
      rw[hk]at hr;injection hr with hr;subst hr
      exact⟨fun h=>by contradiction,fun _=>⟨n,x,y,hx,hy,by rw[h5 k0 hn.1];exact hself⟩⟩
     | succ i=>
      have hi:ks[i]?=some k:=by simpa using hi
      have hne:k≠k0:=fun e=>by subst e;exact hn.1 (List.mem_of_getElem? hi)
      have:=h6 i k rw hi (by rw[hoth k hne];exact hr)
      rw[Nat.add_right_comm]at this;exact this
theorem rkOf_none{rows:List Row}{k:Nat}{rw:Row}(h:rows[k]?=some rw)(ha:rw.c.isArr=false):rkOf rows k=none:=by
 obtain⟨ro,c⟩:=rw
 unfold rkOf
 rw[h]
 cases c<;>first | rfl | simp[RowC.isArr]at ha
theorem freeze_lim{p p':PSt}{kz:Nat×Bool}(h:freeze p kz=some p'):p'.lim=p.lim:=by
 unfold freeze at h
 split at h<;>try contradiction
 ·injection h with h;subst h;rfl
 ·split at h<;>(injection h with h;subst h;rfl)
 ·split at h<;>(injection h with h;subst h;rfl)
theorem freezeL_lim{p p':PSt}{l:List (Nat×Bool)}(h:freezeL p l=some p'):p'.lim=p.lim:=by
 induction l generalizing p with
 | nil=>simp only[freezeL,Option.some.injEq]at h;rw[h]
 | cons k r ih=>
  simp only[freezeL]at h
  split at h<;>try contradiction
  next p1 h1=>exact(ih h).trans (freeze_lim h1)
theorem argsA_lim{p:PSt}{ks:List Nat}{ds:List PD}{as:List PA}{ks':List Nat}{p':PSt}(h:argsA p ks ds=some (as,ks',p')):p'.lim=p.lim:=by
 induction ds generalizing as ks ks' p p' with
 | nil=>simp only[argsA,Option.some.injEq,Prod.mk.injEq]at h;rw[h.2.2]
 | cons d r ih=>
  simp only[argsA]at h
  split at h<;>try contradiction
  next a ks1 p1 h1=>
   split at h<;>try contradiction
   next l ks2 p2 h2=>
    injection h with h
    simp only[Prod.mk.injEq]at h
    rw[← h.2.2]
    refine(ih h2).trans ?_
    unfold argA at h1
    split at h1
    ·injection h1 with h1;simp only[Prod.mk.injEq]at h1;rw[h1.2.2]
    ·injection h1 with h1;simp only[Prod.mk.injEq]at h1;rw[h1.2.2]
    ·split at h1<;>try contradiction
     split at h1<;>try contradiction
     next hp=>
      injection h1 with h1
      simp only[Prod.mk.injEq]at h1
      obtain⟨_,_,rfl⟩:=h1
      exact freezeL_lim hp
/-- a call is sound -/
theorem callN_ok{E:Env}{pc:PcT}(hpc:PcN E pc)(hS:Sim ρ τ p st)(hw:Wf p){f:Nat}{ds:List PD}{es:List D}(hr:RPL (cxOf ρ τ p st) ds es){K:PD→PSt→Option ρ'}(h:callN pc f ds p K=some r) :
  ∃ d p',K d p'=some r ∧ ∃ e st',callL E f es st=some (.ret e,st')∧RP (cxOf ρ τ p' st') d e∧Goes ρ τ p st ρ τ p' st'∧st'.tm=st.tm∧p'.tm=p.tm ∧
   ((∀ (k:Nat) (rw:Row),p.rows[k]?=some rw→rw.ro=true)→p'.rows=p.rows∧p'.ni=p.ni∧st'.mem=st.mem∧st'.tip=st.tip∧st'.nx=st.nx)∧p'.lim=p.lim:=by
 unfold callN at h
 split at h<;>try contradiction
 next as ks p1 h1=>
  split at h<;>try contradiction
  next pars h2=>
   rw[zA]at h
   obtain⟨q,hq,h⟩:=h
   obtain⟨h3,h4,h5⟩:=argsA_ok hS hw hr h1
   have hnd:=h3.nd List.nodup_nil
   have hlt:=h3.lt (fun j hj=>by simp at hj)
   obtain⟨h6,h7⟩:=parsA_ok h2
   have hS1:=h4.goes.sim
   have h8:=h5 []
   rw[List.append_nil,← h6]at h8
   have hnx1:(frz st (refsL es)).nx=st.nx:=nx_frz _ _
   have hat : ∀ j k,ks[j]?=some k→at0 ρ ks j=ρ k:=fun j k hj=>by
    have:=(at0_ok (ρ:=ρ) (e:=[]) hj).1
    rwa [List.append_nil]at this
   obtain⟨st',h9,h10⟩:=hpc f as pars q hq (at0 ρ ks) st es h8 (fun j e hj=>by
     obtain⟨k,rw',hk1,hk2,hk3,hk4⟩:=h7 j e hj
     rw[hat j k hk1]
     obtain⟨o,ho1,ho2⟩:=hS1.rows k rw' hk2
     refine⟨hS.nx k (hlt k (List.mem_of_getElem? hk1)),o,?_,rowV_ok ho2 hk4⟩
     rcases ho1 with ho1 | ho1
     ·exact((rowV_arr hk4).2 ho1).elim
     ·exact ho1) (fun i j hi hj hij=>by
     rw[h6]at hi hj
     obtain⟨a,ha⟩:=get_lt hi
     obtain⟨b,hb⟩:=get_lt hj
     rw[hat i a ha,hat j b hb]at hij
     have:=hS.inj a b (hlt a (List.mem_of_getElem? ha)) (hlt b (List.mem_of_getElem? hb)) hij
     subst this
     exact(List.getElem?_inj hi hnd).1 (ha.trans hb.symm))
   obtain⟨p',h11,h12,⟨h13,h13'⟩,h14,h15,h16⟩:=backK_ok hnd h
   -- what is behind the call
   have hmem : ∀ b,b<st.nx→(∀ (k:Nat) (rw:Row),k∈ks→p1.rows[k]?=some rw→ρ k=b→rw.ro=true)→st'.mem b=(frz st (refsL es)).mem b:=by
    intro b hb hk
    refine h10.mem b hb (fun j e hj hjb => ?_)
    obtain⟨k,rw',hk1,hk2,hk3,hk4⟩:=h7 j e hj
    rw[hat j k hk1]at hjb
    rw[← hk3];exact hk k rw' (List.mem_of_getElem? hk1) hk2 hjb
   have hkidx : ∀ k,k∈ks → ∃ (j:Nat) (e:Bool×Nat×V),ks[j]?=some k∧pars[j]?=some e:=by
    intro k hk
    obtain⟨j,hj⟩:=List.getElem?_of_mem hk
    have:j<pars.length:=by rw[h6];exact getElem?_lt hj
    exact⟨j,pars[j],hj,zL this⟩
   have hrow : ∀ (k:Nat) (rw':Row),p'.rows[k]?=some rw'→(∃ rw,p1.rows[k]?=some rw∧rw=rw'∧(k∈ks→rw.ro=true)) ∨
     ∃ (j n:Nat) (x y:V) (o:Ob) (rw:Row),ks[j]?=some k∧p1.rows[k]?=some rw∧rw.ro=false∧rowV rw.c=some (n,x)∧rw'=⟨false,parC n y⟩∧st'.mem (ρ k)=some o∧RPar n y o:=by
    intro k rw' hk
    by_cases hm:k∈ks
    ·obtain⟨j,e,hj,hje⟩:=hkidx k hm
     obtain⟨k',rw,hk1,hk2,hk3,hk4⟩:=h7 j e hje
     rw[hj]at hk1;injection hk1 with hk1;subst hk1
     obtain⟨h17,h18⟩:=h16 j k rw hj hk2
     cases hro:rw.ro with
     | true=>
      left
      rw[h17 hro]at hk;injection hk with hk
      exact⟨rw,hk2,hk,fun _=>hro⟩
     | false=>
      right
      obtain⟨n,x,y,h19,h20,h21⟩:=h18 hro
      obtain⟨y',o,h22,h23,h24⟩:=h10.par j e hje
      rw[Nat.zero_add]at h20
      rw[h20]at h22;injection h22 with h22;subst h22
      rw[hk4]at h19
      simp only[Option.some.injEq,Prod.mk.injEq]at h19
      rw[h21]at hk;injection hk with hk
      refine⟨j,n,x,y,o,rw,hj,hk2,hro,by rw[hk4,← h19.1,← h19.2],hk.symm,by rw[← hat j k hj];exact h23,by rw[← h19.1];exact h24⟩
    ·left
     rw[h15 k hm]at hk
     exact⟨rw',hk,rfl,fun h=>(hm h).elim⟩
   have hrk : ∀ k,rkOf p'.rows k=rkOf p1.rows k:=by
    intro k
    cases hk:p'.rows[k]? with
    | none=>
     have:p1.rows[k]?=none:=by
      rw[List.getElem?_eq_none_iff]at hk ⊢;omega
     simp only[rkOf,hk,this]
    | some rw'=>
     rcases hrow k rw' hk with⟨rw,h17,rfl,_⟩ | ⟨j,n,x,y,o,rw,_,h18,_,h19,rfl,_,_⟩
     ·simp only[rkOf,hk,h17]
     ·rw[rkOf_none hk (parC_arr n y).1,rkOf_none h18 (rowV_arr h19).1]
   have htip : ∀ l,l<st.nx→st'.tip l=st.tip l:=h10.tip
   have htip1:(frz st (refsL es)).tip=st.tip:=by
    have : ∀ (l:List Nat) (s:St),(frz s l).tip=s.tip:=by
     intro l
     induction l with
     | nil=>intro s;rfl
     | cons k r ih=>intro s;simp only[frz];split<;>rw[ih];rfl
    exact this _ _
   have hle:Le (cxOf ρ τ p1 (frz st (refsL es))) (cxOf ρ τ p' st'):=
    ⟨fun _ _=>rfl,by simp[cxOf,h14],fun k _ => .inl (hrk k),fun i l hi=>⟨hi,by
     have hi:τ i=some l:=hi
     show st'.tip l=(frz st (refsL es)).tip l
     rw[htip l (hS.lin i l hi).2,htip1]⟩,by simp[cxOf,h13]⟩
   have hgo:Goes ρ τ p1 (frz st (refsL es)) ρ τ p' st':=by
    refine⟨⟨fun t f d ht => ?_,fun k hk => ?_,fun k rw' hk => ?_,fun a b ha hb => ?_,fun i l h => ?_,hS1.linj⟩,by rw[hnx1];exact h10.nx,?_,by omega,fun _ _=>rfl,fun k hk1 hk2=>by omega,fun i l h => .inl ⟨i,h⟩,fun hw=>⟨fun t d ht=>hw.1 t d (by rw[← h12];exact ht),fun k rw' hk hro => ?_⟩,fun hw k rw hk hro => ?_,fun k rw' hkl hk hro => ?_,fun k _ => .inl (hrk k),fun b hb hb2 => ?_,fun l hl _ => ?_,fun m hm1 hm2 hm3 _ => ?_,fun _ t d ht=>⟨by rw[← h12];exact ht,by rw[h10.tm,tm_frz]⟩⟩
    ·rw[h12]at ht
     obtain⟨e,he1,he2⟩:=hS1.tm t f d ht
     exact⟨e,by rw[h10.tm];rw[tm_frz]at he1;exact he1,RP.le hle he2⟩
    ·exact zK (hS.nx k (by have:=h4.len;omega)) h10.nx
    ·rcases hrow k rw' hk with⟨rw,h17,rfl,h18⟩ | ⟨j,n,x,y,o,rw,_,_,_,_,rfl,h19,h20⟩
     ·obtain⟨o,ho1,ho2⟩:=hS1.rows k rw h17
      refine⟨o,?_,RW.le hle ho2⟩
      rcases ho1 with ho1 | ho1
      ·exact .inl ho1
      ·right
       have hkl:k<p.rows.length:=by rw[← h4.len];exact getElem?_lt h17
       rw[hmem (ρ k) (hS.nx k hkl) ?_]
       ·exact ho1
       ·intro k2 rw2 hk2 hr2 he
        have:=hS.inj k2 k (hlt k2 hk2) hkl he
        subst this
        rw[h17]at hr2;injection hr2 with hr2;subst hr2
        exact h18 hk2
     ·exact⟨o,.inr h19,parC_ok h20⟩
    ·rw[h14]at ha hb;exact hS1.inj a b ha hb
    ·obtain⟨h17,h18⟩:=hS1.lin i l h
     rw[hnx1]at h18
     exact⟨by rw[h13];exact h17,zK h18 h10.nx⟩
    ·rw[h10.lo]
     exact(h4.goes.lo).symm
    ·rcases hrow k rw' hk with⟨rw,h17,rfl,_⟩ | ⟨j,n,x,y,o,rw,_,_,_,_,rfl,_,_⟩
     ·exact hw.2 k rw h17 hro
     ·exact(parC_arr n y).2
    ·by_cases hm:k∈ks
     ·obtain⟨j,e,hj,hje⟩:=hkidx k hm
      exact(h16 j k rw hj hk).1 hro
     ·rw[h15 k hm];exact hk
    ·rcases hrow k rw' hk with⟨rw,h17,rfl,_⟩ | ⟨j,n,x,y,o,rw,_,_,_,_,rfl,_,_⟩
     ·exact⟨rw,h17,hro⟩
     ·contradiction
    ·rw[hnx1]at hb
     exact hmem b hb (fun k rw _ hk he=>hb2 k rw hk he)
    ·rw[hnx1]at hl;rw[htip l hl,htip1]
    ·rw[hnx1]at hm2
     refine h10.lw m hm1 hm2 (fun j e hj hje => ?_)
     obtain⟨k,rw',hk1,hk2,hk3,hk4⟩:=h7 j e hj
     rw[hat j k hk1]
     exact hm3 k rw' hk2 (.inl (by rw[hk3];exact hje))
   refine⟨_,p',h11,_,st',h9,RV_toD q.1,h4.goes.trans hw hgo,h10.tm,by rw[h12,h4.tm],fun hall => ?_,h13'.trans (argsA_lim h1)⟩
   -- nothing turns where all rows are held
   have hall1 : ∀ (k:Nat) (rw:Row),p1.rows[k]?=some rw→rw.ro=true:=by
    intro k rw hk
    have hk':k<p.rows.length:=by rw[← h4.len];exact getElem?_lt hk
    obtain⟨r0,hr0⟩:=get_lt hk'
    have hro:=hall k r0 hr0
    have:=h4.goes.ro hw k r0 hr0 hro
    rw[hk]at this;injection this with this;subst this;exact hro
   have hst:st'=frz st (refsL es):=h10.still (fun j e hj=>by
    obtain⟨k,rw',hk1,hk2,hk3,hk4⟩:=h7 j e hj
    rw[← hk3];exact hall1 k rw' hk2)
   have hrows1:p1.rows=p.rows:=by
    apply List.ext_getElem?
    intro k
    cases hk:p.rows[k]? with
    | none=>
     rw[List.getElem?_eq_none_iff]at hk ⊢
     have:=h4.len;omega
    | some r0=>exact h4.goes.ro hw k r0 hk (hall k r0 hk)
   have hrows2:p'.rows=p1.rows:=by
    apply List.ext_getElem?
    intro k
    cases hk:p1.rows[k]? with
    | none=>
     rw[List.getElem?_eq_none_iff]at hk ⊢;omega
    | some r0=>exact hgo.ro (h4.goes.wf hw) k r0 hk (hall1 k r0 hk)
   have hm:(frz st (refsL es)).mem=st.mem:=by
    funext b
    rcases Nat.lt_or_ge b st.nx with hb | hb
    ·exact h4.goes.mem b hb (fun k rw hk _=>hall k rw hk)
    ·exact h4.big b hb
   rw[hst]
   exact⟨by rw[hrows2,hrows1],by rw[h13,h4.ni],hm,htip1,hnx1⟩
/-- a callee has gone on with a lineage, and made things of its own -/
theorem far_goes(hS:Sim ρ τ p st){id:Nat}{st':St}(htm:st'.tm=st.tm)(hmem : ∀ b,b<st.nx→st'.mem b=st.mem b)(hlo:st'.lo=st.lo)(hnx:st.nx≤st'.nx)
  (htip : ∀ j,j<st.nx→τ id≠some j→st'.tip j=st.tip j) (hlw : ∀ m,m≤st.lw→m≤st.nx→(∀ l,τ id=some l→m≤l)→m≤st'.lw):Goes ρ τ p st ρ τ (p.strip id) st':=by
 have hlen:(p.strip id).rows.length=p.rows.length:=stripR_len id p.rows
 have hrof : ∀ (j:Nat) (r':Row),j<p.rows.length→(p.strip id).rows[j]?=some r'→r'.ro=true → ∃ r:Row,p.rows[j]?=some r∧r.ro=true:=by
  intro j r' _ hj hr
  simp only[PSt.strip,stripR_get,zB]at hj
  obtain⟨r0,h1,rfl⟩:=hj
  exact⟨r0,h1,hr⟩
 have hle:LeS id (cxOf ρ τ p st) (cxOf ρ τ (p.strip id) st'):=
  ⟨fun _ _=>rfl,by simp[cxOf,hlen],fun k _ => .inl (strip_rk id p.rows k),fun i j hi hj=>⟨hj,htip j (hS.lin i j hj).2 (fun e=>hi (hS.linj i id j hj e))⟩,zR _⟩
 refine⟨⟨fun t f d ht => ?_,fun j hj => ?_,fun j r hj => ?_,fun a b ha hb h => ?_,fun i j h => ?_,hS.linj⟩,hnx,hlo,by omega,fun _ _=>rfl,fun j h1 h2=>by omega,fun i j h => .inl ⟨i,h⟩,fun hw=>⟨fun t d ht => ?_,fun j r hj hr => ?_⟩,fun hw j r hj hr => ?_,hrof,fun j _ => .inl (strip_rk id p.rows j),fun b hb hr=>hmem b hb,fun j hj hn=>htip j hj (hn id),fun m h1 h2 h3 h4=>hlw m h1 h2 (fun l h=>h4 id l h),fun hw t d ht => ?_⟩
 ·simp only[PSt.strip,getF_strip,zB]at ht
  obtain⟨⟨f',d'⟩,h1,h2⟩:=ht
  simp only[Prod.mk.injEq]at h2
  obtain⟨rfl,rfl⟩:=h2
  obtain⟨e,h3,h4⟩:=hS.tm t f' d' h1
  exact⟨e,by rw[htm];exact h3,RP.leS hle h4⟩
 ·rw[hlen]at hj;exact zK (hS.nx j hj) hnx
 ·have hjl:j<p.rows.length:=by rw[← hlen];exact getElem?_lt hj
  simp only[PSt.strip,stripR_get,zB]at hj
  obtain⟨r',h1,rfl⟩:=hj
  obtain⟨o,h2,h3⟩:=hS.rows j r' h1
  refine⟨o,?_,RW.leS hle h3⟩
  rcases h2 with h2 | h2
  ·left;simp only[h2,RowC.strip]
  ·right;rw[hmem _ (hS.nx j hjl)];exact h2
 ·rw[hlen]at ha hb;exact hS.inj a b ha hb h
 ·obtain⟨h1,h2⟩:=hS.lin i j h
  exact⟨h1,zK h2 hnx⟩
 ·simp only[PSt.strip,getF_strip,zB]at ht
  obtain⟨⟨f',d'⟩,h1,h2⟩:=ht
  simp only[Prod.mk.injEq]at h2
  obtain⟨rfl,rfl⟩:=h2
  rw[PD.strip_noOwn (hw.1 t d' h1)];exact hw.1 t d' h1
 ·simp only[PSt.strip,stripR_get,zB]at hj
  obtain⟨r',h1,rfl⟩:=hj
  have:=hw.2 j r' h1 hr
  simp only
  rw[RowC.strip_noOwn this];exact this
 ·simp only[PSt.strip,stripR_get,hj,zC,RowC.strip_noOwn (hw.2 j r hj hr)]
 ·simp only[PSt.strip,getF_strip,zB]at ht
  obtain⟨⟨f',d'⟩,h1,h2⟩:=ht
  simp only[Prod.mk.injEq]at h2
  obtain⟨rfl,rfl⟩:=h2
  rw[PD.strip_noOwn (hw.1 t d' h1)]
  exact⟨h1,by rw[htm]⟩
theorem ni_goes(hS:Sim ρ τ p st):Goes ρ τ p st ρ τ { p with ni:=p.ni+1 } st:=by
 have hle:Le (cxOf ρ τ p st) (cxOf ρ τ { p with ni:=p.ni+1 } st):=⟨fun _ _=>rfl,zR _,fun k _ => .inl rfl,fun i j h=>⟨h,rfl⟩,Nat.le_succ _⟩
 refine⟨⟨fun t f d ht => ?_,hS.nx,fun j r hj => ?_,hS.inj,fun i j h => ?_,hS.linj⟩,zR _,rfl,zR _,fun _ _=>rfl,fun j h1 h2=>absurd h2 (Nat.not_lt.2 h1),fun i j h => .inl ⟨i,h⟩,fun hw=>hw,fun _ _ _ h _=>h,fun _ r' _ h hr=>⟨r',h,hr⟩,fun _ _ => .inl rfl,fun b _ _=>rfl,fun j hj _=>rfl,fun m h1 _ _ _=>h1,fun _ t d h=>⟨h,rfl⟩⟩
 ·obtain⟨e,h1,h2⟩:=hS.tm t f d ht
  exact⟨e,h1,RP.le hle h2⟩
 ·obtain⟨o,h1,h2⟩:=hS.rows j r hj
  exact⟨o,h1,RW.le hle h2⟩
 ·obtain⟨h1,h2⟩:=hS.lin i j h
  exact⟨Nat.lt_succ_of_lt h1,h2⟩
theorem callG_ok{E:Env}{pc:PcT}(hS:Sim ρ τ p st)(hw:Wf p){f sz:Nat}{ds:List PD}{es:List D}(hpc:PcGAt E pc f sz es)(hr:RPL (cxOf ρ τ p st) ds es){K:PD→PSt→Option ρ'}(h:callG pc sz f ds p K=some r) :
  ∃ d p',K d p'=some r ∧ ∃ e st' τ1,callL E f es st=some (.ret e,st')∧RP (cxOf ρ τ1 p' st') d e∧Goes ρ τ p st ρ τ1 p' st'∧st'.tm=st.tm ∧ ∀ x0,SoftIn x0 τ p st→Soft x0 τ p st τ1 p' st':=by
 unfold callG at h
 split at h<;>try contradiction
 next as p1 h1=>
  rw[zA]at h
  obtain⟨q,hq,h⟩:=h
  rw[zA]at h
  obtain⟨xs,hxs,h⟩:=h
  obtain⟨h3,h4,h5⟩:=argsA_ok hS hw hr h1
  have h6:=h5 []
  obtain⟨ys,cs,hq1,hcs,hsz,g,st',hcall,hg⟩:=hpc as q hq _ st h6
  have hxy:xs=ys:=by rw[hq1]at hxs;simp only[slV,Option.some.injEq]at hxs;exact hxs.symm
  subst hxy
  have hm:AllRo p→p1.rows=p.rows∧(frz st (refsL es)).mem=st.mem:=by
   intro ha
   refine⟨?_,?_⟩
   ·apply List.ext_getElem?
    intro k
    cases hk:p.rows[k]? with
    | none=>
     rw[List.getElem?_eq_none_iff]at hk ⊢
     have:=h4.len;omega
    | some r0=>exact h4.goes.ro hw k r0 hk (ha k r0 hk)
   ·funext b
    rcases Nat.lt_or_ge b st.nx with hb | hb
    ·exact h4.goes.mem b hb (fun k rw hk _=>ha k rw hk)
    ·exact h4.big b hb
  have hnx:(frz st (refsL es)).nx=st.nx:=nx_frz _ _
  have htp:(frz st (refsL es)).tip=st.tip:=by
   have : ∀ (l:List Nat) (s:St),(frz s l).tip=s.tip:=by
    intro l
    induction l with
    | nil=>intro s;rfl
    | cons k r ih=>intro s;simp only[frz];split<;>rw[ih];rfl
   exact this _ _
  have hlm:p1.lim=p.lim:=argsA_lim h1
  rcases hg with⟨rfl,rfl⟩ | ⟨rfl,rfl⟩
  ·exact⟨_,_,h,_,_,τ,hcall,⟨_,_,rfl,hcs,hsz,Nat.lt_succ_self _,.inl rfl⟩,h4.goes.trans hw (ni_goes h4.goes.sim),tm_frz _ _,fun x0 hi=>⟨(hm hi.ro).1,hlm,by show p.ni≤p1.ni+1;rw[h4.ni];omega,(hm hi.ro).2,fun _ _=>rfl,hi.hi,fun l _=>by rw[htp]⟩⟩
  ·refine⟨_,_,h,_,_,fun i=>if i=p1.ni then some (frz st (refsL es)).nx else τ i,hcall,⟨_,_,rfl,hcs,hsz,Nat.lt_succ_self _,.inr ⟨_,rfl,?_,?_⟩⟩,h4.goes.trans hw (strip_none h4.goes.sim rfl rfl rfl (Nat.le_succ _) (Nat.lt_succ_self _) (zR _) (fun j hj => ?_) rfl),tm_frz _ _,fun x0 hi=>⟨(hm hi.ro).1,hlm,by show p.ni≤p1.ni+1;rw[h4.ni];omega,(hm hi.ro).2,fun i h => ?_,fun i l h1 h2 => ?_,fun l hl => ?_⟩⟩
   ·show(if p1.ni=p1.ni then some (frz st (refsL es)).nx else τ p1.ni)=_;rw[if_pos rfl]
   ·show upd _ _ _ _=_;unfold upd;rw[if_pos rfl]
   ·show upd _ _ _ j=_;unfold upd;rw[if_neg hj]
   ·have:=hi.lim
    have:=h4.ni
    show(if i=p1.ni then _ else _)=_;rw[if_neg (by omega)]
   ·have h2:(if i=p1.ni then some (frz st (refsL es)).nx else τ i)=some l:=h2
    split at h2
    ·injection h2 with h2;have:=hi.nx;omega
    ·exact hi.hi i l h1 h2
   ·have:=hi.nx
    show upd (frz st (refsL es)).tip (frz st (refsL es)).nx _ l=_
    unfold upd;rw[if_neg (by omega),htp]
theorem valsP_ok{c:Cx}{ds:List PD}{es:List D}(hr:RPL c ds es){xs:List V}(h:valsP ds=some xs):cl0L es=toDL xs:=by
 induction ds generalizing es xs with
 | nil=>cases es with
  | nil=>simp[valsP]at h;subst h;rfl
  | cons _ _=>exact hr.elim
 | cons d s ih=>cases es with
  | nil=>exact hr.elim
  | cons e t=>
   simp only[valsP]at h
   split at h<;>try contradiction
   split at h<;>try contradiction
   next x hx _ l hl=>
    injection h with h;subst h
    simp only[cl0L,toDL,PD.pure_ok hr.1 hx,ih hr.2 hl]
theorem callW_ok{E:Env}{md:Nat→Md}{pc:PcT}(hpc:PcW E md pc)(hS:Sim ρ τ p st){f sz:Nat}(hf:md f = .raw sz){ds:List PD}{es:List D}(hr:RPL (cxOf ρ τ p st) ds es){K:PD→PSt→Option ρ'}(h:callW pc sz f ds p K=some r) :
  ∃ d p',K d p'=some r ∧ ∃ e st',callL E f es st=some (.ret e,st')∧RP (cxOf ρ τ p' st') d e∧Goes ρ τ p st ρ τ p' st'∧st'.tm=st.tm:=by
 unfold callW at h
 split at h<;>try contradiction
 ·next id sz' ys rest=>
  split at h<;>try contradiction
  next hsz=>
   have hsz:=zJ hsz;subst hsz
   split at h<;>try contradiction
   next xs hxs=>
    rw[zA]at h
    obtain⟨q,hq,h⟩:=h
    cases es with
    | nil=>exact hr.elim
    | cons e es=>
     obtain⟨⟨g,cs,rfl,hcs,hz,hid,hg⟩,hr2⟩:=hr
     have hvs:=valsP_ok hr2 hxs
     have htip:TipOf sz ys.length st g:=by
      rcases hg with hg | ⟨l,hg,hτ,ht⟩
      ·exact .inl hg
      ·exact .inr ⟨l,hg,(hS.lin id l hτ).2,ht⟩
     obtain⟨d,st',hc,hd,hgo⟩:=hpc f sz ys xs q hf hq st g cs es hcs hz htip hvs
     have hgl : ∀ l,g = .ln l sz→τ id=some l:=by
      intro l e
      rcases hg with hg | ⟨l',hg,hτ,_⟩
      ·rw[hg]at e;contradiction
      ·rw[hg]at e;injection e with e;subst e;exact hτ
     refine⟨_,_,h,d,st',hc,hd,far_goes hS hgo.tm hgo.mem hgo.lo hgo.nx (fun j hj hne=>hgo.tip j hj (fun e=>hne (hgl j e))) (fun m h1 h2 h3=>hgo.lw m h1 h2 (fun l e=>h3 l (hgl l e))),hgo.tm⟩
 ·next ys rest=>
  split at h<;>try contradiction
  next xs hxs=>
   obtain⟨hz,h⟩:=tst_some h
   rw[zA]at h
   obtain⟨q,hq,h⟩:=h
   cases es with
   | nil=>exact hr.elim
   | cons e es=>
    obtain⟨⟨cs,rfl,hcs⟩,hr2⟩:=hr
    have hvs:=valsP_ok hr2 hxs
    obtain⟨d,st',hc,hd,hgo⟩:=hpc f sz ys xs q hf hq st .full cs es hcs hz (.inl rfl) hvs
    refine⟨_,_,h,d,st',hc,hd,far_goes hS hgo.tm hgo.mem hgo.lo hgo.nx (fun j hj _=>hgo.tip j hj (by simp)) (fun m h1 h2 _=>hgo.lw m h1 h2 (fun l e=>by simp at e)),hgo.tm⟩
theorem argsA_still(hS:Sim ρ τ p st)(hw:Wf p){ds:List PD}{es:List D}(hr:RPL (cxOf ρ τ p st) ds es){as:List PA}{p1:PSt}(h1:argsA p [] ds=some (as,[],p1)):AllRo p→p1.rows=p.rows∧(frz st (refsL es)).mem=st.mem:=by
 intro ha
 obtain⟨h3,h4,h5⟩:=argsA_ok hS hw hr h1
 refine⟨?_,?_⟩
 ·apply List.ext_getElem?
  intro k
  cases hk:p.rows[k]? with
  | none=>
   rw[List.getElem?_eq_none_iff]at hk ⊢
   have:=h4.len;omega
  | some r0=>exact h4.goes.ro hw k r0 hk (ha k r0 hk)
 ·funext b
  rcases Nat.lt_or_ge b st.nx with hb | hb
  ·exact h4.goes.mem b hb (fun k rw hk _=>ha k rw hk)
  ·exact h4.big b hb
theorem fulP_ok{c:Cx}{d:PD}{e:D}(hr:RP c d e){k:Option ρ'}(h:fulP d k=some r):roomless e=true∧k=some r:=by
 unfold fulP at h
 split at h<;>try contradiction
 ·obtain⟨cs,rfl,_⟩:=hr
  exact⟨rfl,h⟩
 ·obtain⟨h1,h⟩:=tst_some h
  refine⟨?_,h⟩
  obtain⟨_,_,hdd,_⟩:=hr
  rcases hdd with⟨rfl,_⟩ | ⟨_,rfl,_⟩
  ·exact h1
  ·rfl
theorem callF_ok{E:Env}{md:Nat→Md}{pc:PcT}(hpc:PcF E md pc)(hS:Sim ρ τ p st)(hw:Wf p){f:Nat}(hf:md f = .ful){ds:List PD}{es:List D}(hr:RPL (cxOf ρ τ p st) ds es){K:PD→PSt→Option ρ'}(h:callF pc f ds p K=some r) :
  ∃ d p',K d p'=some r ∧ ∃ e st',callL E f es st=some (.ret e,st')∧RP (cxOf ρ τ p' st') d e∧Goes ρ τ p st ρ τ p' st'∧st'.tm=st.tm ∧ ∀ x0,SoftIn x0 τ p st→Soft x0 τ p st τ p' st':=by
 unfold callF at h
 split at h<;>try contradiction
 next d ds=>
  cases es with
  | nil=>exact hr.elim
  | cons e es=>
   obtain⟨hrm,h⟩:=fulP_ok hr.1 h
   split at h<;>try contradiction
   next as p1 h1=>
    rw[zA]at h
    obtain⟨q,hq,h⟩:=h
    obtain⟨h3,h4,h5⟩:=argsA_ok hS hw hr h1
    have h6:=h5 []
    have hcall:=hpc f as q hf hq _ st e es hrm h6
    have hm:=argsA_still hS hw hr h1
    have htp:(frz st (refsL (e::es))).tip=st.tip:=by
     have : ∀ (l:List Nat) (s:St),(frz s l).tip=s.tip:=by
      intro l
      induction l with
      | nil=>intro s;rfl
      | cons k r ih=>intro s;simp only[frz];split<;>rw[ih];rfl
     exact this _ _
    have hlm:p1.lim=p.lim:=argsA_lim h1
    exact⟨_,_,h,_,_,hcall,toD_cl0 _,h4.goes,tm_frz _ _,fun x0 hi=>⟨(hm hi.ro).1,hlm,by rw[h4.ni];exact zR _,(hm hi.ro).2,fun _ _=>rfl,hi.hi,fun l _=>by rw[htp]⟩⟩
theorem callN_soft{τ:Nat→Option Nat}{p p':PSt}{st st':St}(h7:(∀ (k:Nat) (rw:Row),p.rows[k]?=some rw→rw.ro=true)→p'.rows=p.rows∧p'.ni=p.ni∧st'.mem=st.mem∧st'.tip=st.tip∧st'.nx=st.nx)(h8:p'.lim=p.lim){x0:Nat}(hi:SoftIn x0 τ p st):Soft x0 τ p st τ p' st':=by
 obtain⟨a,b,c,d,e⟩:=h7 hi.ro
 exact⟨a,h8,by rw[b];exact zR _,c,fun _ _=>rfl,hi.hi,fun l _=>by rw[d]⟩
theorem asByte_ok{x:V}{c:UInt8}(h:asByte x=some c) : ∃ n,x = .int .u8 n∧0≤n∧n<256∧c=UInt8.ofNat n.toNat:=by
 unfold asByte at h
 split at h<;>try contradiction
 next n=>
  split at h<;>try contradiction
  next hn=>injection h with h;exact⟨n,rfl,hn.1,hn.2,h.symm⟩
theorem int_cl0{d:D}{k:IntKind}{n:Int}(h:d.cl0=(V.int k n).toD):d = .int k n:=by
 cases d<;>simp[D.cl0,V.toD]at h
 obtain⟨rfl,rfl⟩:=h;rfl
theorem effK_ok{E:Env}{f:Nat}{ef:Eff}(hx:E.ext f=some (.eff ef))(hS:Sim ρ τ p st){ds:List PD}{es:List D}(hr:RPL (cxOf ρ τ p st) ds es){K:PD→PSt→Option ρ'}(h:effK ef ds p K=some r) :
  ∃ d p',K d p'=some r ∧ ∃ e st',callL E f es st=some (.ret e,st')∧RP (cxOf ρ τ p' st') d e∧Goes ρ τ p st ρ τ p' st'∧st'.tm=st.tm ∧
   ∀ x0,SoftIn x0 τ p st→Soft x0 τ p st τ p' st':=by
 have two : ∀ {k:Nat} {x:V},ds=[.s (.ptr k 0),.s (.v x)] → ∃ d2,es=[.ptr (ρ k) 0,d2]∧d2.cl0=x.toD:=by
  intro k x hd
  subst hd
  match es,hr with
  | [d1,d2],⟨h1,h2,_⟩=>exact⟨d2,by rw[h1.2];rfl,h2⟩
  | [_],⟨_,h2⟩=>exact h2.elim
  | _::_::_::_,⟨_,_,h3⟩=>exact h3.elim
 have hard : ∀ {k:Nat} {c:RowC} {p':PSt} {st':St},p.rows[k]?=some ⟨false,c⟩ → ∀ x0,SoftIn x0 τ p st→Soft x0 τ p st τ p' st':=by
  intro k c p' st' hk x0 hi
  have:=hi.ro k _ hk
  simp at this
 cases ef with
 | ws t e=>
  simp only[effK]at h
  split at h<;>try contradiction
  next k x=>
   obtain⟨d2,rfl,h2⟩:=two rfl
   split at h<;>try contradiction
   next t' e' s hw=>
    split at h<;>try contradiction
    next hc=>
     simp only[zG]at hc
     have h3:=zJ hc.1;subst h3
     have h4:=zJ hc.2;subst h4
     rw[zA]at h
     obtain⟨u,hu,h⟩:=h
     obtain⟨hlen,h⟩:=tst_some h
     have hlen:=of_decide_eq_true hlen
     have:=asStr_ok hu h2;subst this
     have hr':=rowW_some hw
     obtain⟨o,ho,rfl⟩:=hS.rows k _ hr'
     rcases ho with ho | ho
     ·contradiction
     have hgo:=setR_goes hS (c' := .bld t' e' (s++u)) (o := .bld t' e' (s++u)) hr' (rkOf_setR hr' (by simp) (by simp)) rfl
     refine⟨_,_,h,.tup [.int .i64 (u.length:Nat),.nili],_,?_,rfl,hgo,rfl,hard hr'⟩
     rw[callL_eff hx]
     simp only[effD,ho]
     rw[if_pos ⟨trivial,trivial,hlen⟩]
     rfl
 | wb t e=>
  simp only[effK]at h
  split at h<;>try contradiction
  next k x=>
   obtain⟨d2,rfl,h2⟩:=two rfl
   split at h<;>try contradiction
   next t' e' s hw=>
    split at h<;>try contradiction
    next hc=>
     simp only[zG]at hc
     have h3:=zJ hc.1;subst h3
     have h4:=zJ hc.2;subst h4
     rw[zA]at h
     obtain⟨u,hu,h⟩:=h
     obtain⟨hlen,h⟩:=tst_some h
     have hlen:=of_decide_eq_true hlen
     obtain⟨n,rfl,hn0,hn1,rfl⟩:=asByte_ok hu
     have:=int_cl0 h2;subst this
     have hr':=rowW_some hw
     obtain⟨o,ho,rfl⟩:=hS.rows k _ hr'
     rcases ho with ho | ho
     ·contradiction
     have hgo:=setR_goes hS (c' := .bld t' e' (s++[UInt8.ofNat n.toNat])) (o := .bld t' e' (s++[UInt8.ofNat n.toNat])) hr' (rkOf_setR hr' (by simp) (by simp)) rfl
     refine⟨_,_,h,.nili,_,?_,rfl,hgo,rfl,hard hr'⟩
     rw[callL_eff hx]
     simp only[effD,ho]
     rw[if_pos ⟨trivial,trivial,hlen,hn0,hn1⟩]
     rfl
 | bs t e=>
  simp only[effK]at h
  split at h<;>try contradiction
  next k=>
   obtain⟨rfl⟩:es=[.ptr (ρ k) 0]:=by
    match es,hr with
    | [d1],⟨h1,_⟩=>rw[h1.2];rfl
    | _::_::_,⟨_,h2⟩=>exact h2.elim
   split at h<;>try contradiction
   next t' e' s hw=>
    split at h<;>try contradiction
    next hc=>
     simp only[zG]at hc
     have h3:=zJ hc.1;subst h3
     have h4:=zJ hc.2;subst h4
     have hr':=rowW_some hw
     obtain⟨o,ho,rfl⟩:=hS.rows k _ hr'
     rcases ho with ho | ho
     ·contradiction
     have hgo:=gone_goes hS hr' (rkOf_setR hr' (by simp) (by simp))
     refine⟨_,_,h,.str s,_,?_,rfl,hgo,rfl,hard hr'⟩
     rw[callL_eff hx]
     simp only[effD,ho]
     rw[if_pos ⟨trivial,trivial⟩]
     rfl
theorem callK_ok{E:Env}{md:Nat→Md}{pc:PcT}(hpc:PcOk E md pc)(hS:Sim ρ τ p st)(hw:Wf p){f:Nat}{ds:List PD}{es:List D}(hr:RPL (cxOf ρ τ p st) ds es){K:PD→PSt→Option ρ'}(h:callK md pc f ds p K=some r) :
  ∃ d p',K d p'=some r ∧ ∃ e st' τ1,callL E f es st=some (.ret e,st')∧RP (cxOf ρ τ1 p' st') d e∧Goes ρ τ p st ρ τ1 p' st'∧st'.tm=st.tm ∧
   ((∀ sz,md f ≠ .raw sz) → ∀ x0,SoftIn x0 τ p st→Soft x0 τ p st τ1 p' st'):=by
 unfold callK at h
 split at h
 ·next hf=>
  obtain⟨d,p',h1,e,st',h2,h3,h4,h5,h6,h7,h8⟩:=callN_ok hpc.n hS hw hr h
  exact⟨d,p',h1,e,st',τ,h2,h3,h4,h5,fun _ x0 ha=>callN_soft h7 h8 ha⟩
 ·next sz hf=>
  obtain⟨d,p',h1,e,st',τ1,h2,h3,h4,h5,h6⟩:=callG_ok hS hw (hpc.g f sz es hf) hr h
  exact⟨d,p',h1,e,st',τ1,h2,h3,h4,h5,fun _=>h6⟩
 ·next sz hf=>
  obtain⟨d,p',h1,e,st',h2,h3,h4,h5⟩:=callW_ok hpc.w hS hf hr h
  exact⟨d,p',h1,e,st',τ,h2,h3,h4,h5,fun hm=>(hm sz hf).elim⟩
 ·next hf=>
  obtain⟨d,p',h1,e,st',h2,h3,h4,h5,h6⟩:=callF_ok hpc.f hS hw hf hr h
  exact⟨d,p',h1,e,st',τ,h2,h3,h4,h5,fun _=>h6⟩
 ·next sz hf=>
  split at h<;>try contradiction
  next d0 r0=>
   cases es with
   | nil=>exact hr.elim
   | cons e0 es=>
    obtain⟨hrm,h⟩:=fulP_ok hr.1 h
    obtain⟨d,p',h1,e,st',τ1,h2,h3,h4,h5,h6⟩:=callG_ok hS hw (hpc.h f sz e0 es hf hrm) hr h
    exact⟨d,p',h1,e,st',τ1,h2,h3,h4,h5,fun _=>h6⟩
 ·next ef hf=>
  obtain⟨d,p',h1,e,st',h2,h3,h4,h5,h6⟩:=effK_ok (hpc.e f ef hf) hS hr h
  exact⟨d,p',h1,e,st',τ,h2,h3,h4,h5,fun _=>h6⟩
end
end Go.Ev
end
