/- The machines Ev and Pv, part 2: an abstract machine over the translated code, proved sound once. -/
import Derived.Test.YtnefgdahdccldaaDoorKEvA
import Derived.Laws.BytesArg
import Derived.Laws.IdiomStrings
import Derived.Orders
import Derived.LoopN
import Derived.Scope
import Derived.Recover
set_option linter.all false
open Option renaming bind_eq_some_iff->zA,map_eq_some_iff->zB,map_some->zC,bind_some->zD
open Bool renaming and_eq_true->zG
open Nat renaming eq_of_beq_eq_true->zJ,lt_of_lt_of_le->zK,le_refl->zR
open List renaming getElem?_eq_getElem->zL,mem_cons->zS,take_of_length_le->zV
namespace Go.Ev
section
section
variable {P:Program} {E:Env} {ti:Ti} {st:St} {S:G} {a:Act} {o:Oper} (hti:yS P ti) (hi:Inv S st) (hf:FrameRep S st.tm a.tmps) (hg:GlOk S E)
theorem wrap_small{q:Int}(h0:0<=q)(h1:q<=140737488355328):IntKind.i64.wrap q=q:=by
 have e1:(2:Int)^IntKind.i64.bits=18446744073709551616:=by decide
 have e2:(2:Int)^(IntKind.i64.bits-1)=9223372036854775808:=by decide
 simp only[IntKind.wrap,e1,e2];rw[zBt]
 ·omega
 ·simp only[zG,zCb];omega
theorem zAn(hti:yS P ti)(hi:Inv S st)(hf:FrameRep S st.tm a.tmps)(hg:GlOk S E)(t:Nat)(x y:Operand)(ho:o.op = .makeSlice t x y){i:TI}(ht:ti t=some i){e:Nat}(hk:i.k = .slice e){j:TI}(hj:ti e=some j){x' y':X}(hx:trX x=some x')(hy:trX y=some y')
  {r:Option D} {st':St} (h:opD E st (.mks j.z j.bytes x' y')=some (r,st')):Yields P S a o r st':=by
 simp only[opD]at h;split at h
 ·next n c hn hc=>
  split at h
  ·next hcond=>
   obtain⟨h0,h1,h2,h3,h4,h5⟩:=hcond;simp only[zBB,zBC]at h;obtain⟨rfl,rfl⟩:=h;have hv1:=(Rep.ev hf hg hx hn).int_inv;have hv2:=(Rep.ev hf hg hy hc).int_inv;have hu:=qj hti ht hk;obtain⟨d,inf,z,k1,k2,k3,k4,k5,k6,k7,k8⟩:=Yp hti hj;have hz:=RepL.ofVL S k8;have hzl:j.z.length=j.sz:=by have:=hz.1;simp at this;omega
   have hz2:RepL S (rep c.toNat j.z) ((Array.range (c.toNat*inf.size)).map (z.cells[· % z.cells.size]!)).toList:=zd3 hz c.toNat _ (by rw[k5,hzl]);obtain⟨S',hw,he,hinv,hm,hnx⟩:=zgr hi (rep c.toNat j.z) _ e (SameW.refl S.w) hz2.pre;refine Yields.mem (S':=S') (v := .slice (some ⟨S.w.heap.size,0,none⟩) n.toNat c.toNat) ?_ he hinv (.ref st.nx 0 _ _ _ _ _ hnx hm (.inl rfl));simp only[execOp,ho,hv1,hv2];refine yn ?_;have w1:=wrap_small h0 (by omega:n<=140737488355328);have w2:=wrap_small (by omega:0<=c) h3;have b1 : ∀ q:Int,0<=q->q<=c -> ¬ (q<0\/281474976710656<(inf.bytes:Int)*q):=by
    intro q hq0 hqc;rw[k6];have:(j.bytes:Int)*q<=c*(j.bytes:Int):=by rw[Int.mul_comm];exact Int.mul_le_mul_of_nonneg_right hqc (by omega)
    omega
   have b2:=b1 c (by omega) (by omega);have b2a : ¬ c<0:=by omega
   have b2b : ¬ 281474976710656<(inf.bytes:Int)*c:=fun h=>b2 (.inr h)
   have hn0 : ¬ n<0:=by omega
   have hnc : ¬ c<n:=by omega
   rw[hw];by_cases hcz:c.toNat*inf.size=0
   ·have hc0:c.toNat=0:=by rcases Nat.mul_eq_zero.1 hcz with h | h<;>omega
    have hc00:c=0:=by omega
    have hn00:n=0:=by omega
    subst hc00 hn00;simp[Instr.makeSlice,run_underlying hu,asInt,asIntOf,typeInfo,k2,sizeOf,w1,newRow,askRoom,roomBytes,show Array.range 0 = #[]from rfl]
   ·simp[Instr.makeSlice,run_underlying hu,asInt,asIntOf,typeInfo,k2,k3,sizeOf,w1,w2,b2a,b2b,hn0,hnc,hcz,zeroValue,newRow]
  ·simp at h
 ·simp at h
theorem zwP{ys:List D}{us:List Value}{l:List UInt8}(e5:RepL S ys us)(hl:Zh ys=some l) : ∃ ns:List Int,us=ns.map (Value.int .u8)/\l=ns.map fun n=>UInt8.ofNat n.toNat:=by
 induction ys generalizing us l with
 | nil=>simp only[Zh,zBB]at hl;subst hl;have:=e5.1;exact⟨[],by simpa using this,rfl⟩
 | cons q r ih=>
  cases us with
  | nil=>have:=e5.1;simp at this
  | cons u us=>
   have hq : ∃ m l',q = .int .u8 m/\Zh r=some l'/\l=UInt8.ofNat m.toNat::l':=by
    unfold Zh at hl;split at hl
    ·next h=>simp at h
    ·next m r' h=>
     injection h with h1 h2;subst h1 h2;simp only[zA,zBB]at hl;obtain⟨l',hl1,hl2⟩:=hl;exact⟨m,l',rfl,hl1,hl2.symm⟩
    ·simp at hl
   obtain⟨m,l',rfl,h3,rfl⟩:=hq;have hu:=(e5.2 0 (.int .u8 m) u rfl rfl).int_inv;obtain⟨ns,h4,h5⟩:=ih ⟨by have:=e5.1;simpa using this,fun j d v hd hv=>e5.2 (j+1) d v (by simpa using hd) (by simpa using hv)⟩ h3;exact⟨m::ns,by rw[hu,h4];rfl,by rw[h5];rfl⟩
theorem zAR(hti:yS P ti)(hi:Inv S st)(hf:FrameRep S st.tm a.tmps)(hg:GlOk S E)(s t:Nat)(x:Operand)(ho:o.op = .convert s t x){i j:TI}(hs:ti s=some i)(ht:ti t=some j){e:Nat}(hk:i.k = .slice e)(hk':j.k = .str){k:TI}(he:ti e=some k)(hke:k.k = .int .u8){y:X}(hx:trX x=some y)
  {r:Option D} {st':St} (h:opD E st (.cbs y)=some (r,st')):Yields P S a o r st':=by
 simp only[opD,zA]at h;obtain⟨d,hd,h⟩:=h;have h1:=Rep.ev hf hg hx hd;have hus':=qj hti hs hk;have hut:=Ve hti ht hk';have hue:=zht hti he hke;have main : ∀ (p:Nat×List D) (l:List UInt8),elems st 1 d=some p->Zh p.2=some l->r=some (.str l)->st'=st->(∃ A n c,a.eval x = .slice A n c)->Yields P S a o r st':=by
  intro p l hp hl hr hst hA;subst hr hst;obtain⟨n,ys⟩:=p;obtain⟨e1,e2,e3⟩:=J8 (P:=P) hi (by omega) h1 hp;obtain⟨us,e4,e5⟩:=e3 n (zR _);rw[Nat.mul_one]at e1 e5;rw[<- e1,List.take_length]at e5;refine Yields.val (v := .string ⟨l.toArray⟩) ?_ hi (.str l);obtain⟨A,n',c,hv⟩:=hA;have hlen:(Builtin.lenOf (a.eval x)).run P S.w = .ok n S.w:=e2;rw[hv]at hlen e4;have hn:n'=n:=by simpa[Builtin.lenOf]using hlen
  subst hn;have e4:=e4 S.w rfl
  -- the cells are these bytes
  have hus:=zwP e5 hl;obtain⟨ns,hu1,hu2⟩:=hus;simp only[execOp,ho,hv];refine yn ?_;cases A with
  | none=>
   rw[run_convert_bytes_string S.w s t e none n' c hus' hue hut];have h0:us=[]:=by simp only[Builtin.firstCells,Sem.run_pure,Result.ok.injEq,and_true]at e4;simpa using e4.symm
   have:ns=[]:=by rw[h0]at hu1;simpa using hu1.symm
   subst this;rw[hu2];simp[Conv.bytesToString];rfl
  | some A=>
   rw[run_convert_bytes_string S.w s t e (some A) n' c hus' hue hut,run_bytesToString S.w A n' c ns (by simp only[Builtin.firstCells,Nat.mul_one]at e4;rw[<- hu1];exact e4),foldl_push_bytes];rw[hu2];simp[ByteArray.empty,ByteArray.emptyWithCapacity];rfl
 split at h
 ·simp only[zA,zB,zBC]at h;obtain⟨p,hp,l,hl,h3,h4⟩:=h;refine main p l hp hl h3.symm h4.symm ?_;generalize a.eval x=v at h1;cases h1;exact⟨_,_,_,rfl⟩
 ·simp only[zA,zB,zBC]at h;obtain⟨p,hp,l,hl,h3,h4⟩:=h;refine main p l hp hl h3.symm h4.symm ?_;generalize a.eval x=v at h1;cases h1;exact⟨_,_,_,rfl⟩
 ·simp at h
theorem zAl(hti:yS P ti)(hi:Inv S st)(hf:FrameRep S st.tm a.tmps)(hg:GlOk S E)(s t:Nat)(x:Operand)(ho:o.op = .convert s t x){i j:TI}(hs:ti s=some i)(ht:ti t=some j){e:Nat}(hk:i.k = .str)(hk':j.k = .slice e){k:TI}(he:ti e=some k)(hke:k.k = .int .u8){y:X}(hx:trX x=some y)
  {r:Option D} {st':St} (h:opD E st (.csb y)=some (r,st')):Yields P S a o r st':=by
 simp only[opD]at h;split at h
 ·next l hl=>
  simp only[zBB,zBC]at h;obtain⟨rfl,rfl⟩:=h;have hv:=(Rep.ev hf hg hx hl).str_inv;have hus:=Ve hti hs hk;have hut:=qj hti ht hk';have hue:=zht hti he hke;have hrun:=run_bytes_of_string (P:=P) S.w s t e ⟨l.toArray⟩ hus hut hue;generalize hrow:bytesRow ⟨l.toArray⟩ (grownCap S.w (⟨l.toArray⟩:ByteArray).size 0 e)=row at hrun;have hsz:(⟨l.toArray⟩:ByteArray).size=l.length:=rfl;have hrl:row.toList=l.map (fun b=>Value.int .u8 b.toNat)++List.replicate (grownCap S.w l.length 0 e-l.length) (.int .u8 0):=by rw[<- hrow];simp[bytesRow,hsz]
  obtain⟨S',hw,he',hinv,hφ⟩:=znp hi (.cells row e (row.size,row.size+1)) l.length (SameW.drew S.w);refine Yields.mem (S':=S') (v := .slice (some ⟨S.w.heap.size,0,none⟩) l.length (grownCap S.w l.length 0 e)) ?_ he' hinv ?_
  ·simp only[execOp,ho,hv];refine yn ?_;rw[hw];exact hrun
  ·have hheap:S'.w.heap[S.w.heap.size]?=some (.cells row e (row.size,row.size+1)):=by rw[hw];exact heap_alloc_new _ _
   refine .sl .no _ _ _ _ S.w.heap.size 0 (fun j=>(row[j]?).getD undef) (grownCap_ge _ _ _ _) (.inr rfl) (fun j hj => ?_) (fun j d hd => ?_) (.inr ?_) trivial
   ·have hj':j<l.length:=by simpa[ofBytes]using hj
    have hj2:j<row.size:=by have:=congrArg List.length hrl;simp at this;omega
    simp only[World.cell?,hheap,zBE];simp[hj2]
   ·obtain⟨v,hv2,hr⟩:=(zfJ (S:=S') l).get hd;have:row[j]?=some v:=by
     rw[<- zCh,hrl,zBP]
     ·exact hv2
     ·rcases zBD j (l.map fun b=>Value.int .u8 (b.toNat:Int)).length with h | h
      ·exact h
      ·rw[zBQ h]at hv2;simp at hv2
    rw[this];exact hr
   ·rw[hφ];simp[ofBytes]
 ·simp at h
theorem zAL(hti:yS P ti)(hi:Inv S st)(hf:FrameRep S st.tm a.tmps)(hg:GlOk S E)(t:Nat)(x:Operand)(xl xh:Option Operand)(ho:o.op = .slice t x xl xh none){i:TI}(ht:ti t=some i)(hk:i.k = .str)
  {y:X} (hx:trX x=some y) {yl yh:Option X} (hl:zb6 xl=some yl) (hh:zb6 xh=some yh) {r:Option D} {st':St}
  (h:opD E st (.sls y yl yh)=some (r,st')):Yields P S a o r st':=by
 simp only[opD,zA,zB,zBC]at h;obtain⟨d,hd,dl,hdl,dh,hdh,v,hv,rfl,rfl⟩:=h;have h1:=Rep.ev hf hg hx hd;have el:=Rep.evO hf hg hl hdl;have eh:=Rep.evO hf hg hh hdh;have hu:=Ve hti ht hk;unfold zqG at hv;split at hv
 ·next s=>
  simp only[zA]at hv;obtain⟨l',hl',h',hh',hv⟩:=hv;split at hv
  ·next hc=>
   injection hv with hv;subst hv;have hvx:=h1.str_inv;have hsz:(⟨s.toArray⟩:ByteArray).size=s.length:=rfl;have hb:=qZ (P:=P) (S:=S) (a:=a) (isS:=false) (len:=s.length) (cap:=s.length) (xm:=none) (m:=s.length) (XF el hl') (XF eh hh') (.inl ⟨rfl,rfl⟩) (.inl rfl) hc.1 hc.2 (zR _);refine Yields.val (v := .string ⟨((s.drop l').take (h'-l')).toArray⟩) ?_ hi (.str _);simp only[execOp,ho,hvx];refine yn ?_;have hex:(⟨s.toArray⟩:ByteArray).extract l' h'=⟨((s.drop l').take (h'-l')).toArray⟩:=by apply ByteArray.ext;rw[ByteArray.data_extract];simp[List.extract]
   simp only[Option.map_none]at hb;simp[Instr.sliceAt,run_underlying hu,Instr.slice,hsz,hb,hex]
  ·simp at hv
 ·simp at hv
theorem zAI(hti:yS P ti)(hi:Inv S st)(hf:FrameRep S st.tm a.tmps)(hg:GlOk S E)(t:Nat)(x:Operand)(xl xh xm:Option Operand)(ho:o.op = .slice t x xl xh xm){i:TI}(ht:ti t=some i){n e:Nat}(hk:i.k = .arr n e){j:TI}(hj:ti e=some j)
  {y:X} (hx:trX x=some y) {yl yh ym:Option X} (hl:zb6 xl=some yl) (hh:zb6 xh=some yh) (hm:zb6 xm=some ym) {r:Option D} {st':St}
  (h:opD E st (.sla n j.sz y yl yh ym)=some (r,st')):Yields P S a o r st':=by
 simp only[opD,zA,zB,zBC]at h;obtain⟨d,hd,dl,hdl,dh,hdh,dm,hdm,v,hv,rfl,rfl⟩:=h;have h1:=Rep.ev hf hg hx hd;have el:=Rep.evO hf hg hl hdl;have eh:=Rep.evO hf hg hh hdh;have em:=Rep.evO hf hg hm hdm;have hu:=zlI hti ht hk;unfold zp8 at hv;split at hv
 ·next k off=>
  simp only[zA]at hv;obtain⟨l',hl',h',hh',m',hm',hv⟩:=hv;split at hv
  ·next hc2=>
   injection hv with hv;obtain⟨c1,c2,c3,c4⟩:=hc2;generalize hvx:a.eval x=vx at h1;cases h1 with
   | ptr _ _ b hk2 hb2=>
    have hxh:xm=none\/xh≠none:=by
     rcases c1 with c1 | c1
     ·left;rcases em with⟨h,_⟩ | ⟨_,_,_,h,_⟩
      ·exact h
      ·rw[h]at c1;simp at c1
     ·right;rcases eh with⟨_,h⟩ | ⟨_,_,h,_⟩
      ·rw[h]at c1;simp at c1
      ·rw[h];simp
    have hb:=qZ (P:=P) (S:=S) (isS:=false) (len:=n) (cap:=n) (XF el hl') (XF eh hh') (XF em hm') hxh c2 c3 c4;refine Yields.val (v := .slice (some (if m'=l' then⟨b,off,none⟩else⟨b,off+l'*j.sz,none⟩)) (h'-l') (m'-l')) ?_ hi ?_
    ·simp only[execOp,ho,hvx];refine yn ?_;simp[Instr.sliceAt,run_underlying hu,Instr.sureAddr,hb,qd hti hj,addr_add]
    ·subst hv;split
     ·next h3=>
      have e1:h'-l'=0:=by omega
      have e2:m'-l'=0:=by omega
      rw[e1,e2];exact Rep.slNil S .full _ 0 0 (zR _) rfl
     ·next h3=>exact .ref k _ _ _ _ b _ hk2 hb2 (.inl rfl)
  ·simp at hv
 ·simp at hv
theorem zsd : ∀ {r:List D} {x d:D} {v:Value} {us:List Value},Rep S x v->RepL S r us->zl8 x r=some d -> ∃ u,Rep S d u/\(us.foldlM Builtin.min2 v).run P S.w = .ok u S.w
 | [],x,d,v,us,hx,hr,h=>by
  have:us=[]:=by have:=hr.1;simpa using this
  subst this;cases x<;>simp only[zl8,reduceCtorEq,zBB]at h;subst h;exact⟨v,hx,rfl⟩
 | y::r,x,d,v,us,hx,hr,h=>by
  cases us with
  | nil=>have:=hr.1;simp at this
  | cons u us=>
   have hu:=hr.2 0 y u rfl rfl;have hr':RepL S r us:=⟨by have:=hr.1;simpa using this,fun j d v hd hv=>hr.2 (j+1) d v (by simpa using hd) (by simpa using hv)⟩
   cases x with
   | int k n=>
    cases y with
    | int k' m=>
     simp only[zl8]at h;split at h
     ·next hk=>
      subst hk;have e1:=hx.int_inv;have e2:=hu.int_inv;obtain⟨q,h3,h4⟩:=zsd (.int k (if m<n then m else n)) hr' h;refine⟨q,h3,?_⟩;simp only[List.foldlM_cons,Sem.run_bind,e1,e2,Builtin.min2,Sem.run_pure,Result.andThen_ok];exact h4
     ·simp at h
    | _=>simp[zl8]at h
   | _=>simp[zl8]at h
theorem zsD : ∀ {r:List D} {x d:D} {v:Value} {us:List Value},Rep S x v->RepL S r us->zmS x r=some d -> ∃ u,Rep S d u/\(us.foldlM Builtin.max2 v).run P S.w = .ok u S.w
 | [],x,d,v,us,hx,hr,h=>by
  have:us=[]:=by have:=hr.1;simpa using this
  subst this;cases x<;>simp only[zmS,reduceCtorEq,zBB]at h;subst h;exact⟨v,hx,rfl⟩
 | y::r,x,d,v,us,hx,hr,h=>by
  cases us with
  | nil=>have:=hr.1;simp at this
  | cons u us=>
   have hu:=hr.2 0 y u rfl rfl;have hr':RepL S r us:=⟨by have:=hr.1;simpa using this,fun j d v hd hv=>hr.2 (j+1) d v (by simpa using hd) (by simpa using hv)⟩
   cases x with
   | int k n=>
    cases y with
    | int k' m=>
     simp only[zmS]at h;split at h
     ·next hk=>
      subst hk;have e1:=hx.int_inv;have e2:=hu.int_inv;obtain⟨q,h3,h4⟩:=zsD (.int k (if n<m then m else n)) hr' h;refine⟨q,h3,?_⟩;simp only[List.foldlM_cons,Sem.run_bind,e1,e2,Builtin.max2,Sem.run_pure,Result.andThen_ok];exact h4
     ·simp at h
    | _=>simp[zmS]at h
   | _=>simp[zmS]at h
theorem zAH(hi:Inv S st)(hf:FrameRep S st.tm a.tmps)(hg:GlOk S E)(c:Call)(ho:o.op = .call c)(hb:c.callee = .builtin .min){xs:List X}(hxs:trL c.args.toList=some xs){r:Option D}{st':St}(h:opD E st (.min xs)=some (r,st')):Yields P S a o r st':=by
 simp only[opD,zA]at h;obtain⟨ds,hds,h⟩:=h;have hr:=RepL.evL hf hg hxs hds;split at h
 ·next x rr=>
  simp only[zB,zBC]at h;obtain⟨d,hd,rfl,rfl⟩:=h;cases hl:c.args.toList.map a.eval with
  | nil=>rw[hl]at hr;have:=hr.1;simp at this
  | cons v us=>rw[hl]at hr;obtain⟨u,h3,h4⟩:=zsd (P:=P) (hr.2 0 x v rfl rfl) ⟨by have:=hr.1;simpa using this,fun j d v hd hv=>hr.2 (j+1) d v (by simpa using hd) (by simpa using hv)⟩ hd;refine Yields.val (zgd c ho hb ?_) hi h3;simp only[Builtin.min_,Array.toList_map,hl];exact h4
 ·simp at h
theorem zAU(hi:Inv S st)(hf:FrameRep S st.tm a.tmps)(hg:GlOk S E)(c:Call)(ho:o.op = .call c)(hb:c.callee = .builtin .max){xs:List X}(hxs:trL c.args.toList=some xs){r:Option D}{st':St}(h:opD E st (.max xs)=some (r,st')):Yields P S a o r st':=by
 simp only[opD,zA]at h;obtain⟨ds,hds,h⟩:=h;have hr:=RepL.evL hf hg hxs hds;split at h
 ·next x rr=>
  simp only[zB,zBC]at h;obtain⟨d,hd,rfl,rfl⟩:=h;cases hl:c.args.toList.map a.eval with
  | nil=>rw[hl]at hr;have:=hr.1;simp at this
  | cons v us=>rw[hl]at hr;obtain⟨u,h3,h4⟩:=zsD (P:=P) (hr.2 0 x v rfl rfl) ⟨by have:=hr.1;simpa using this,fun j d v hd hv=>hr.2 (j+1) d v (by simpa using hd) (by simpa using hv)⟩ hd;refine Yields.val (zgb c ho hb ?_) hi h3;simp only[Builtin.max_,Array.toList_map,hl];exact h4
 ·simp at h
theorem zvW{x y:D}{u v:Value}(h:Rep S x u)(k:Rep S y v):Rep S (.tup [x,y]) (.tuple #[u,v]):=by
 refine .tup _ _ rfl (fun j d w hd hw => ?_)
 match j with
 | 0=>simp at hd hw;subst hd hw;exact h
 | 1=>simp at hd hw;subst hd hw;exact k
 | j+2=>simp at hd
theorem zAS(hti:yS P ti)(hi:Inv S st)(hf:FrameRep S st.tm a.tmps)(hg:GlOk S E)(x:Operand)(xt t:Nat)(ok:Bool)(ho:o.op = .typeAssert x xt t ok){i:TI}(ht:ti t=some i)(hk:i.k ≠ .ifc){y:X}(hx:trX x=some y)
  {r:Option D} {st':St} (h:opD E st (.tas t ok y)=some (r,st')):Yields P S a o r st':=by
 obtain⟨d,inf,z,k1,k2,k3,k4,k5,k6,k7,k8⟩:=Yp hti ht;have hd : ∀ ms,d ≠ .interface ms:=by rintro ms rfl;exact hk k4.symm
 simp only[opD]at h;split at h
 ·next u dd hu=>
  have h1:=Rep.ev hf hg hx hu;obtain⟨v,hv,hrv⟩ : ∃ v,a.eval x = .iface u v/\Rep S dd v:=by
   generalize a.eval x=w at h1;cases h1 with
   | iface _ _ v hh=>exact⟨v,rfl,hh⟩
  split at h
  ·next he=>
   subst he;simp only[zBB,zBC]at h;obtain⟨rfl,rfl⟩:=h;have hrun:(execOp a.eval o).run P S.w = .ok (.value (if ok then .tuple #[v,.bool true]else v)) S.w:=by simp only[execOp,ho,hv];refine yn ?_;unfold Instr.typeAssert;simp only[Sem.run_bind,run_underlying k1,Result.andThen_ok];cases d<;>first | (exact(hd _ rfl).elim) | simp
   refine Yields.val hrun hi ?_;cases ok
   ·exact hrv
   ·exact zvW hrv (.bool true)
  ·simp at h
 ·simp at h
theorem zAg(hti:yS P ti)(hi:Inv S st)(hf:FrameRep S st.tm a.tmps)(hg:GlOk S E)(t:Nat)(x:Operand)(ho:o.op = .range t x){i:TI}(ht:ti t=some i)(hk:i.k = .str){y:X}(hx:trX x=some y){r:Option D}{st':St}(h:opD E st (.rng y)=some (r,st')):Yields P S a o r st':=by
 simp only[opD]at h;split at h
 ·next s hs=>
  simp only[zBB,zBC]at h;obtain⟨rfl,rfl⟩:=h;have hv:=(Rep.ev hf hg hx hs).str_inv;have hu:=Ve hti ht hk;obtain⟨S',hw,he,hinv,hm,hn⟩:=zvK hi s;refine Yields.mem (S':=S') (v := .pointer (some ⟨S.w.heap.size,0,none⟩)) ?_ he hinv (.ptr st.nx 0 _ hn hm);simp only[execOp,ho,hv];refine yn ?_;simp[Instr.range,run_underlying hu,hw]
 ·simp at h
theorem zAY(hi:Inv S st)(hf:FrameRep S st.tm a.tmps)(hg:GlOk S E)(x:Operand)(ho:o.op = .next x true){y:X}(hx:trX x=some y){r:Option D}{st':St}(h:opD E st (.nxt y)=some (r,st')):Yields P S a o r st':=by
 simp only[opD]at h;split at h
 ·next k hk=>
  split at h
  ·next s pos hm=>
   have h1:=Rep.ev hf hg hx hk;obtain⟨b,hv,hb⟩ : ∃ b,a.eval x = .pointer (some ⟨b,0,none⟩)/\S.μ k=some b:=by
    generalize a.eval x=w at h1;cases h1 with
    | ptr _ _ b hk hb=>exact⟨b,rfl,hb⟩
   have hsz:(⟨s.toArray⟩:ByteArray).size=s.length:=rfl;split at h
   ·next hp=>
    simp only[zBB,zBC]at h;obtain⟨rfl,rfl⟩:=h;obtain⟨hh,S',hw,he,hinv⟩:=zr5 hi hm hb (pos+(Utf8.decode ⟨s.toArray⟩ pos).2);refine Yields.mem (S':=S') (v := .tuple #[.bool true,goInt pos,.int .i32 (Utf8.decode ⟨s.toArray⟩ pos).1]) ?_ he hinv ?_
    ·simp only[execOp,ho,hv];refine yn ?_;simp[Instr.next,getObj,Sem.run,hh,hsz,hp,setObj,hw]
    ·refine .tup _ _ rfl (fun j d w hd hw => ?_)
     match j with
     | 0=>simp at hd hw;subst hd hw;exact .bool _
     | 1=>simp at hd hw;subst hd hw;exact .int _ _
     | 2=>simp at hd hw;subst hd hw;exact .int _ _
     | j+3=>simp at hd
   ·next hp=>
    simp only[zBB,zBC]at h;obtain⟨rfl,rfl⟩:=h;obtain⟨hh,_⟩:=zr5 hi hm hb 0;refine Yields.val (v := .tuple #[.bool false]) ?_ hi ?_
    ·simp only[execOp,ho,hv];refine yn ?_;simp[Instr.next,getObj,Sem.run,hh,hsz,hp]
    ·refine .tup _ _ rfl (fun j d w hd hw => ?_)
     match j with
     | 0=>simp at hd hw;subst hd hw;exact .bool _
     | j+1=>simp at hd
  ·simp at h
 ·simp at h
end
end
section
section
variable {P:Program} {E:Env} {ti:Ti} {st:St} {S:G} {a:Act} {o:Oper} (hti:yS P ti) (hi:Inv S st) (hf:FrameRep S st.tm a.tmps) (hg:GlOk S E)
theorem zjQ(hti:yS P ti)(hi:Inv S st)(hf:FrameRep S st.tm a.tmps)(hg:GlOk S E)(c:Call)(ho:o.op = .call c){b:Builtin}(hb:c.callee = .builtin b){O':O}(ht:Z7 ti b c.args.toList c.argTypes.toList=some O'){r:Option D}{st':St}(h:opD E st O'=some (r,st')):Yields P S a o r st':=by
 unfold Z7 at ht;split at ht
 ·next x t h1 h2=>
  simp only[zA]at ht;obtain⟨i,hi1,ht⟩:=ht;split at ht
  ·next hk=>
   simp only[zB]at ht;obtain⟨y,hy,rfl⟩:=ht;exact zAt hti hi hf hg c ho hb h1 h2 hi1 hk hy h
  ·next e hk=>
   simp only[zB]at ht;obtain⟨y,hy,rfl⟩:=ht;exact zAO hti hi hf hg c ho hb h1 h2 hi1 hk hy h
  ·simp at ht
 ·next x t h1 h2=>
  simp only[zA]at ht;obtain⟨i,hi1,ht⟩:=ht;split at ht
  ·next e hk=>
   simp only[zB]at ht;obtain⟨y,hy,rfl⟩:=ht;exact zAx hti hi hf hg c ho hb h1 h2 hi1 hk hy h
  ·simp at ht
 ·next s x t u h1 h2=>
  simp only[zA]at ht;obtain⟨i,hi1,j,hj1,ht⟩:=ht;split at ht
  ·next e hk=>
   simp only[zA]at ht;obtain⟨k,hk1,ht⟩:=ht;split at ht
   ·next hs=>
    simp only[zA]at ht;obtain⟨s',hs',x',hx',ht⟩:=ht;split at ht
    ·next e' hj=>
     injection ht with ht;subst ht;exact zy2 hti hi hf hg c ho hb h1 h2 hi1 hj1 hk hk1 hs (.inl ⟨e',hj⟩) hs' hx' h
    ·next hj=>
     injection ht with ht;subst ht;exact zy2 hti hi hf hg c ho hb h1 h2 hi1 hj1 hk hk1 hs (.inr hj) hs' hx' h
    ·next ik hj=>
     injection ht with ht;subst ht;exact zA3 hti hi hf hg c ho hb h1 h2 hi1 hj1 hk hk1 hs hj hs' hx' h
    ·simp at ht
   ·simp at ht
  ·simp at ht
 ·next d s t ts h1 h2=>
  simp only[zA]at ht;obtain⟨i,hi1,ht⟩:=ht;split at ht
  ·next e hk=>
   simp only[zA]at ht;obtain⟨k,hk1,ht⟩:=ht;split at ht
   ·next hs=>
    simp only[zA]at ht;obtain⟨d',hd',s',hs',ht⟩:=ht;injection ht with ht;subst ht;exact zA4 hti hi hf hg c ho hb h1 h2 hi1 hk hk1 hs hd' hs' h
   ·simp at ht
  ·simp at ht
 ·simp only[zB]at ht;obtain⟨y,hy,rfl⟩:=ht;exact zAH hi hf hg c ho hb hy h
 ·simp only[zB]at ht;obtain⟨y,hy,rfl⟩:=ht;exact zAU hi hf hg c ho hb hy h
 ·simp at ht
theorem zs2(hti:yS P ti)(hi:Inv S st)(hf:FrameRep S st.tm a.tmps)(hg:GlOk S E){O':O}(ht:trO ti o=some O'){r:Option D}{st':St}(h:opD E st O'=some (r,st')):Yields P S a o r st':=by
 unfold trO at ht;split at ht
 ·next x ho=>
  simp only[zB]at ht;obtain⟨y,hy,rfl⟩:=ht;exact zAN hi hf hg x (.inl ho) hy h
 ·next x ho=>
  simp only[zB]at ht;obtain⟨y,hy,rfl⟩:=ht;exact zAN hi hf hg x (.inr ho) hy h
 ·next c x y ho=>
  simp only[zA,zB]at ht;obtain⟨c',hc,x',hx,y',hy,rfl⟩:=ht;exact zzv hi hf hg c x y ho hc hx hy h
 ·next e ho=>
  simp only[zA]at ht;obtain⟨i,hi1,ht⟩:=ht;split at ht
  ·next e' hb=>injection ht with ht;subst ht;exact zAk hti hi e e' ho hi1 hb h
  ·injection ht with ht;subst ht;exact zyk hti hi e ho hi1 h
 ·next e x ho=>
  simp only[zB]at ht;obtain⟨y,hy,rfl⟩:=ht;exact zAf hi hf hg e x ho hy h
 ·next t ps ho=>
  simp only[zA]at ht;obtain⟨i,hi1,ht⟩:=ht;split at ht
  ·next fs hk=>
   simp only[zA,zB]at ht;obtain⟨pl,hpl,qs,hqs,rfl⟩:=ht;exact zsw hti hi hf hg t ps ho hi1 (.inl ⟨fs,pl,hk,hpl,hqs⟩) h
  ·next n e hk=>
   simp only[zA,zB]at ht;obtain⟨j,hj,qs,hqs,rfl⟩:=ht;exact zsw hti hi hf hg t ps ho hi1 (.inr ⟨n,e,j,hk,hj,hqs⟩) h
  ·simp at ht
 ·next t n ps ho=>
  simp only[zA]at ht;obtain⟨i,hi1,ht⟩:=ht;split at ht
  ·next e hk=>
   simp only[zA]at ht;obtain⟨j,hj,ht⟩:=ht;split at ht
   ·next hc=>
    simp only[zB]at ht;obtain⟨qs,hqs,rfl⟩:=ht;exact zAF hti hi hf hg t n ps ho hi1 hk hj hc.1 hc.2 hqs h
   ·simp at ht
  ·simp at ht
 ·next t x ho=>
  simp only[zA,zB]at ht;obtain⟨i,hi1,y,hy,rfl⟩:=ht;exact zz0 hti hi hf hg t x ho hi1 hy h
 ·next t x y ho=>
  simp only[zA,zB]at ht;obtain⟨i,hi1,x',hx,y',hy,rfl⟩:=ht;exact zxc hti hi hf hg t x y ho hi1 hx hy h
 ·next x ho=>
  simp only[zB]at ht;obtain⟨y,hy,rfl⟩:=ht;exact zBa hi hf hg x ho hy h
 ·next op t x y u ho=>
  simp only[zA]at ht;obtain⟨i,hi1,x',hx,y',hy,ht⟩:=ht;split at ht
  ·injection ht with ht;subst ht;exact zu2 hi hf hg op t u x y ho hx hy h
  ·injection ht with ht;subst ht;exact zu2 hi hf hg op t u x y ho hx hy h
  ·injection ht with ht;subst ht;exact zu2 hi hf hg op t u x y ho hx hy h
  ·next hk=>
   split at ht
   ·injection ht with ht;subst ht;exact zyX hi hf hg hti _ t u x y ho hi1 hk hx hy false rfl h
   ·injection ht with ht;subst ht;exact zyX hi hf hg hti _ t u x y ho hi1 hk hx hy true rfl h
   ·simp at ht
  ·next hk=>
   split at ht
   ·injection ht with ht;subst ht;exact zvC hi hf hg hti _ t u x ho hi1 hk hx false rfl h
   ·injection ht with ht;subst ht;exact zvC hi hf hg hti _ t u x ho hi1 hk hx true rfl h
   ·simp at ht
  ·simp at ht
 ·next op t x ho=>
  simp only[zB]at ht;obtain⟨y,hy,rfl⟩:=ht;exact zBl hi hf hg op t x ho hy h
 ·next s d x ho=>
  simp only[zA]at ht;obtain⟨i,hi1,j,hj1,y,hy,ht⟩:=ht;split at ht
  ·next e h1 h2=>
   simp only[zA]at ht;obtain⟨k,hk,ht⟩:=ht;split at ht
   ·next hk8=>
    injection ht with ht;subst ht;exact zAR hti hi hf hg s d x ho hi1 hj1 h1 h2 hk hk8 hy h
   ·simp at ht
  ·next e h1 h2=>
   simp only[zA]at ht;obtain⟨k,hk,ht⟩:=ht;split at ht
   ·next hk8=>
    injection ht with ht;subst ht;exact zAl hti hi hf hg s d x ho hi1 hj1 h1 h2 hk hk8 hy h
   ·simp at ht
  ·next h1 h2=>
   unfold zej at ht;split at ht
   ·next k k' z e1 e2=>
    injection ht with ht;subst ht;exact zAb hti hi hf hg s d x ho hi1 hj1 e1 e2 hy h
   ·next z e1 e2=>
    injection ht with ht;subst ht;exact zBd hi hf hg hti s d x ho hi1 hj1 e1 e2 hy h
   ·simp at ht
 ·next t x ho=>
  simp only[zA]at ht;obtain⟨i,hi1,ht⟩:=ht;split at ht
  ·simp at ht
  ·next hk=>
   simp only[zB]at ht;obtain⟨y,hy,rfl⟩:=ht;exact zAj hi hf hg t x ho hi1 hk hy hti h
 ·next f fst cap ho=>
  split at ht
  ·next h0=>
   simp only[zB]at ht;obtain⟨ys,hys,rfl⟩:=ht;exact zAM hi hf hg f fst cap ho h0 hys h
  ·simp at ht
 ·next t x y ho=>
  simp only[zA]at ht;obtain⟨i,hi1,ht⟩:=ht;split at ht
  ·next e hk=>
   simp only[zA,zB]at ht;obtain⟨j,hj,x',hx,y',hy,rfl⟩:=ht;exact zAn hti hi hf hg t x y ho hi1 hk hj hx hy h
  ·simp at ht
 ·next t x l hh m ho=>
  simp only[zA]at ht;obtain⟨i,hi1,y,hy,l',hl,h',hh',m',hm,ht⟩:=ht;split at ht
  ·next hk=>
   split at ht
   ·injection ht with ht;subst ht;have:m=none:=by
     cases m with
     | none=>rfl
     | some m=>simp[zb6]at hm
    subst this;exact zAL hti hi hf hg t x l hh ho hi1 hk hy hl hh' h
   ·simp at ht
  ·next e hk=>
   simp only[zA]at ht;obtain⟨j,hj,ht⟩:=ht;split at ht
   ·next hs=>
    injection ht with ht;subst ht;exact zAA hti hi hf hg t x l hh m ho hi1 hk hj hs hy hl hh' hm h
   ·simp at ht
  ·next n e hk=>
   simp only[zA]at ht;obtain⟨j,hj,ht⟩:=ht;split at ht
   ·next hs=>
    injection ht with ht;subst ht;exact zAI hti hi hf hg t x l hh m ho hi1 hk hj hy hl hh' hm h
   ·simp at ht
  ·simp at ht
 ·next t x f ho=>
  simp only[zA]at ht;obtain⟨i,hi1,ht⟩:=ht;split at ht
  ·next fs hk=>
   simp only[zA]at ht;obtain⟨p,hp,j,hj,ht⟩:=ht;split at ht
   ·simp at ht
   ·next hs=>
    simp only[zB]at ht;obtain⟨y,hy,rfl⟩:=ht;exact zA2 hti hi hf hg t x f ho hi1 hk hp hj hs hy h
  ·simp at ht
 ·next t x f ho=>
  simp only[zA]at ht;obtain⟨i,hi1,ht⟩:=ht;split at ht
  ·next fs hk=>
   simp only[zA,zB]at ht;obtain⟨p,hp,j,hj,y,hy,rfl⟩:=ht;exact zA0 hti hi hf hg t x f ho hi1 hk hp hj hy h
  ·simp at ht
 ·next t x y ho=>
  simp only[zA]at ht;obtain⟨i,hi1,ht⟩:=ht;split at ht
  ·next e hk=>
   simp only[zA]at ht;obtain⟨j,hj,ht⟩:=ht;split at ht
   ·next hs=>
    simp only[zA,zB]at ht;obtain⟨x',hx,y',hy,rfl⟩:=ht;exact zA5 hti hi hf hg t x y ho hi1 hk hj hs hx hy h
   ·simp at ht
  ·next n e hk=>
   simp only[zA,zB]at ht;obtain⟨j,hj,x',hx,y',hy,rfl⟩:=ht;exact zAs hti hi hf hg t x y ho hi1 hk hj hx hy h
  ·simp at ht
 ·next t x y ho=>
  simp only[zA]at ht;obtain⟨i,hi1,ht⟩:=ht;split at ht
  ·next n e hk=>
   simp only[zA,zB]at ht;obtain⟨j,hj,x',hx,y',hy,rfl⟩:=ht;exact zAv hti hi hf hg t x y ho hi1 hk hj hx hy h
  ·next hk=>
   simp only[zA,zB]at ht;obtain⟨x',hx,y',hy,rfl⟩:=ht;exact zAV hti hi hf hg t x y ho hi1 hk hx hy h
  ·simp at ht
 ·next x n ho=>
  simp only[zB]at ht;obtain⟨y,hy,rfl⟩:=ht;exact zBb hi hf hg x n ho hy h
 ·next t x ho=>
  simp only[zA]at ht;obtain⟨i,hi1,ht⟩:=ht;split at ht
  ·next hk=>
   simp only[zB]at ht;obtain⟨y,hy,rfl⟩:=ht;exact zAg hti hi hf hg t x ho hi1 hk hy h
  ·simp at ht
 ·next x ho=>
  simp only[zB]at ht;obtain⟨y,hy,rfl⟩:=ht;exact zAY hi hf hg x ho hy h
 ·next x xt t ok ho=>
  simp only[zA]at ht;obtain⟨i,hi1,ht⟩:=ht;split at ht
  ·simp at ht
  ·next hk=>
   simp only[zB]at ht;obtain⟨y,hy,rfl⟩:=ht;exact zAS hti hi hf hg x xt t ok ho hi1 hk hy h
 ·next x ho=>
  simp only[zB]at ht;obtain⟨y,hy,rfl⟩:=ht;simp[opD]at h
 ·next c ho=>
  split at ht
  ·next b hb=>exact zjQ hti hi hf hg c ho hb ht h
  ·next f hc=>
   simp only[zB]at ht;obtain⟨y,hy,rfl⟩:=ht;simp[opD]at h
  ·next f hc=>
   simp only[zB]at ht;obtain⟨y,hy,rfl⟩:=ht;simp[opD]at h
  ·simp at ht
 ·simp at ht
theorem zia(hti:yS P ti)(hi:Inv S st)(hf:FrameRep S st.tm a.tmps)(hg:GlOk S E){O':O}(ht:TrO ti o O'){r:Option D}{st':St}(h:opD E st O'=some (r,st')):Yields P S a o r st':=by
 rcases ht with ht | ⟨sz,by',x,ht,rfl⟩
 ·exact zs2 hti hi hf hg ht h
 ·obtain⟨c,x0,y0,t,u,i,j,e,k,q1,q2,q3,q4,q5,q6,q7,q8,q9,q10,q11,q12,rfl,rfl⟩:=zxS ht;exact zAy hti hi hf hg c q1 q2 q3 q4 q5 q6 q7 q8 q9 q10 q11 q12 h
end
end
section
theorem XL(xs:List D)(j:Nat):(cl0L xs)[j]?=(xs[j]?).map D.cl0:=by
 induction xs generalizing j with
 | nil=>simp[cl0L]
 | cons x r ih=>cases j<;>simp[cl0L,ih]
theorem zgA(m:Mem)(xs:List D)(j:Nat):(clL m xs)[j]?=(xs[j]?).map (D.cl m):=by
 induction xs generalizing j with
 | nil=>simp[clL]
 | cons x r ih=>cases j<;>simp[clL,ih]
theorem yJ(xs:List D):(cl0L xs).length=xs.length:=by
 induction xs with
 | nil=>rfl
 | cons x r ih=>simp[cl0L,ih]
theorem zgp(m:Mem)(xs:List D):(clL m xs).length=xs.length:=by
 induction xs with
 | nil=>rfl
 | cons x r ih=>simp[clL,ih]
theorem KH{xs:List D}{j:Nat}{d:D}(h:xs[j]?=some d){k:Nat}(hk:k∈d.refs):k∈refsL xs:=by
 induction xs generalizing j with
 | nil=>simp at h
 | cons x r ih=>
  simp only[refsL,zBO];cases j with
  | zero=>simp at h;subst h;exact .inl hk
  | succ j=>simp at h;exact .inr (ih h)
theorem Qn{α β:Type}{xs:List α}{ys:List β}(h:xs.length=ys.length)(hy:ys=[]):xs=[]:=by subst hy;simpa using h
theorem Rep.cl0{S:G}{d:D}{v:Value}(h:Rep S d v):Rep S d.cl0 v:=by
 induction h with
 | und v=>exact .und v
 | off=>exact .off
 | bool b=>exact .bool b
 | int k n=>exact .int k n
 | float k b=>exact .float k b
 | str s=>exact .str s
 | nilp=>exact .nilp
 | nilf=>exact .nilf
 | nili=>exact .nili
 | sl g n xs A c b off us hc hA hu _ hφ hg ih=>have hl:=yJ xs;refine .sl .no n (cl0L xs) A c b off us hc (hA.imp (Qn hl) id) (fun j hj=>hu j (by omega)) (fun j d hd => ?_) (hφ.imp (Qn hl) (by rw[hl];exact id)) trivial;rw[XL,zB]at hd;obtain⟨e,he,rfl⟩:=hd;exact ih j e he
 | ref k off n c sz b c' hk hb hc=>exact .und _
 | ptr k off b hk hb=>exact .ptr k off b hk hb
 | el xs b off us hu hr hφ ih=>exact .el xs b off us hu hr hφ
 | agg ds vs hs _ ih=>refine .agg (cl0L ds) vs (by rw[yJ];exact hs) (fun j d v hd hv => ?_);rw[XL,zB]at hd;obtain⟨e,he,rfl⟩:=hd;exact ih j e v he hv
 | tup ds vs hs _ ih=>refine .tup (cl0L ds) vs (by rw[yJ];exact hs) (fun j d v hd hv => ?_);rw[XL,zB]at hd;obtain⟨e,he,rfl⟩:=hd;exact ih j e v he hv
 | fn f ds vs hs hr ih=>exact .fn f ds vs hs hr
 | iface t d v _ ih=>exact .iface t _ v ih
theorem Rep.cl{S:G}{st:St}(hi:Inv S st)(m:Mem){d:D}{v:Value}(h:Rep S d v)(hm : ∀ k∈d.refs,∀ xs fz,m k=some (.row xs fz)->st.mem k=some (.row xs true)):Rep S (d.cl m) v:=by
 induction h with
 | und v=>exact .und v
 | off=>exact .off
 | bool b=>exact .bool b
 | int k n=>exact .int k n
 | float k b=>exact .float k b
 | str s=>exact .str s
 | nilp=>exact .nilp
 | nilf=>exact .nilf
 | nili=>exact .nili
 | sl g n xs A c b off us hc hA hu _ hφ hg ih=>have hl:=zgp m xs;refine .sl .no n (clL m xs) A c b off us hc (hA.imp (Qn hl) id) (fun j hj=>hu j (by omega)) (fun j d hd => ?_) (hφ.imp (Qn hl) (by rw[hl];exact id)) trivial;rw[zgA,zB]at hd;obtain⟨e,he,rfl⟩:=hd;exact ih j e he (fun k hk=>hm k (KH he hk))
 | ref k off n c sz b c' hk hb hcap=>
  simp only[D.cl];split
  ·next xs fz hx=>
   split
   ·next hle=>
    have hk2:=hm k (by simp[D.refs]) xs fz hx;obtain⟨_,ho⟩:=hi.ob k _ hk2;obtain⟨_,ho⟩:=ho b hb;cases ho with
    | row _ _ cs e hh hrc _ h1=>
     have hcs:xs.length<=cs.toList.length:=hrc.preLen;have hφ:=h1 rfl;have hlen:(cl0L ((xs.drop off).take (n*sz))).length=n*sz:=by rw[yJ];simp;omega
     refine .sl .no n _ _ c' b off (fun j=>cs.toList.getD (off+j) undef) (hcap.elim (fun e=>e▸hle.1) (·.2.1)) (.inr rfl) (fun j hj => ?_) (fun j d hd => ?_) (.inr (by omega)) trivial
     ·rw[hlen]at hj;simp only[World.cell?,hh];rw[List.getD_eq_getElem?_getD];have:off+j<cs.toList.length:=by omega
      rw[zL this];simp
     ·have hj:j<n*sz:=by
       rw[<- hlen];rcases zBD j (cl0L ((xs.drop off).take (n*sz))).length with h | h
       ·exact h
       ·rw[zBQ h]at hd;simp at hd
      rw[XL,zB]at hd;obtain⟨e',he,rfl⟩:=hd;rw[zBR,zBu hj,zBS]at he;have hlt:off+j<cs.toList.length:=by omega
      refine Rep.cl0 (hrc.atP he ?_);rw[List.getD_eq_getElem?_getD,zL hlt];rfl
   ·exact .und _
  ·exact .und _
 | ptr k off b hk hb=>exact .ptr k off b hk hb
 | el xs b off us hu hr hφ ih=>exact .el xs b off us hu hr hφ
 | agg ds vs hs _ ih=>refine .agg (clL m ds) vs (by rw[zgp];exact hs) (fun j d v hd hv => ?_);rw[zgA,zB]at hd;obtain⟨e,he,rfl⟩:=hd;exact ih j e v he hv (fun k hk=>hm k (KH he hk))
 | tup ds vs hs _ ih=>refine .tup (clL m ds) vs (by rw[zgp];exact hs) (fun j d v hd hv => ?_);rw[zgA,zB]at hd;obtain⟨e,he,rfl⟩:=hd;exact ih j e v he hv (fun k hk=>hm k (KH he hk))
 | fn f ds vs hs hr ih=>exact .fn f ds vs hs hr
 | iface t d v _ ih=>exact .iface t _ v (ih hm)
theorem RepL.cl{S:G}{st:St}(hi:Inv S st)(m:Mem){ds:List D}{vs:List Value}(h:RepL S ds vs)(hm : ∀ k∈refsL ds,∀ xs fz,m k=some (.row xs fz)->st.mem k=some (.row xs true)):RepL S (clL m ds) vs:=by refine⟨by rw[zgp];exact h.1,fun j d v hd hv => ?_⟩;rw[zgA,zB]at hd;obtain⟨e,he,rfl⟩:=hd;exact(h.2 j e v he hv).cl hi m (fun k hk=>hm k (KH he hk))
theorem XD{S:G}{st:St}(h:Inv S st)(l:List Nat) : ∃ S':G,S'.w=S.w/\Ext S S'/\Inv S' (frz st l) /\
  (∀ k xs fz,st.mem k=some (.row xs fz)->(k∈l\/fz=true)->(frz st l).mem k=some (.row xs true)):=by
 induction l generalizing S st with
 | nil=>exact⟨S,rfl,.refl S,h,fun k xs fz hk hm=>by have hf:fz=true:=hm.resolve_left (by simp);subst hf;exact hk⟩
 | cons k r ih=>
  simp only[frz];split
  ·next xs fz hk=>
   obtain⟨S1,hw,he,h1,_⟩:=zud h hk;obtain⟨S2,hw2,he2,h2,h3⟩:=ih h1;refine⟨S2,hw2.trans hw,he.trans he2,h2,fun j ys gz hj hm => ?_⟩;by_cases e:j=k
   ·subst e;rw[hk]at hj;injection hj with hj;injection hj with hj1 hj2;subst hj1;exact h3 j xs true (wh _ _ _) (.inr rfl)
   ·exact h3 j ys gz (by show upd st.mem k _ j=_;rw[upd_ne _ _ e];exact hj) (hm.imp (fun h=>(List.mem_cons.1 h).resolve_left e) id)
  ·next hne=>
   obtain⟨S2,hw2,he2,h2,h3⟩:=ih h;refine⟨S2,hw2,he2,h2,fun j ys gz hj hm=>h3 j ys gz hj (hm.imp (fun h => ?_) id)⟩;rcases List.mem_cons.1 h with rfl | h
   ·exact(hne _ _ hj).elim
   ·exact h
def zdA(ti:Ti):List ResultVar->Option (List R)
 | []=>some []
 | .tmp t::r=>(zdA ti r).map (R.tmp t :: ·)
 | .cell a t::r=>(ti t).bind fun i=>(zdA ti r).map (R.cell a i.k.ag i.sz :: ·)
theorem za1{P:Program}{ti:Ti}(hti:yS P ti){S:G}{st:St}(hi:Inv S st){tmps:Array Value}(hf:FrameRep S st.tm tmps){fn:Func}{rs:List R}(ht:zdA ti fn.results.toList=some rs)
  {l:List D} (h:jI st rs=some l) : ∃ v,(results fn tmps).run P S.w = .ok v S.w/\Rep S (one l) v:=by
 have key : ∀ (rv:List ResultVar) (rs:List R) (l:List D),zdA ti rv=some rs->jI st rs=some l -> ∃ vs:List Value,(rv.mapM (m:=Sem) fun
  | .tmp t=>pure (tmps.getD t undef)
  | .cell a t=>do loadVar t (<- asAddr (tmps.getD a undef))).run P S.w = .ok vs S.w/\RepL S l vs:=by
  intro rv;induction rv with
  | nil=>intro rs l ht h;injection ht with ht;subst ht;injection h with h;subst h;exact⟨[],by simp,.nil S⟩
  | cons x r ih=>
   intro rs l ht h;have tm : ∀ t d,get st.tm t=some d->Rep S d (tmps.getD t undef):=by intro t d hd;obtain⟨v,hv,hr⟩:=hf t d hd;rw[Array.getD_eq_getD_getElem?,hv];exact hr
   cases x with
   | tmp t=>simp only[zdA,zB]at ht;obtain⟨q,hq,rfl⟩:=ht;simp only[jI,zA]at h;obtain⟨d,hd,l',hl,h⟩:=h;injection h with h;subst h;obtain⟨vs,h1,h2⟩:=ih q l' hq hl;refine⟨tmps.getD t undef::vs,?_,.cons (tm t d hd) h2⟩;simp only[List.mapM_cons,Sem.run_bind,Sem.run_pure,Result.andThen_ok,h1]
   | cell p t=>
    simp only[zdA,zA,zB]at ht;obtain⟨i,hi1,q,hq,rfl⟩:=ht;simp only[jI,zA]at h;obtain⟨a,ha,d,hd,l',hl,h⟩:=h;injection h with h;subst h;obtain⟨vs,h1,h2⟩:=ih q l' hq hl;obtain⟨u,hu,hrun⟩:=zaA hti hi hi1 (tm p a ha) hd;have hp : ∃ b off,tmps.getD p undef = .pointer (some ⟨b,off,none⟩):=by
     unfold vB at hd;split at hd
     ·simp only[zB]at hd;obtain⟨ys,hy,rfl⟩:=hd;obtain⟨b,off,vs,hv,_⟩:=Yq hi (tm p a ha) hy;exact⟨b,off,hv⟩
     ·split at hd
      ·next hy=>
       obtain⟨b,off,vs,hv,_⟩:=Yq hi (tm p a ha) hy;exact⟨b,off,hv⟩
      ·simp at hd
    obtain⟨b,off,hp⟩:=hp;rw[hp]at hrun;have hrun:(loadVar t ⟨b,off,none⟩).run P S.w = .ok u S.w:=by simpa[Instr.loadAt,Instr.sureAddr]using hrun
    have hq2:(asAddr (tmps.getD p undef)).run P S.w = .ok ⟨b,off,none⟩ S.w:=by rw[hp];rfl
    refine⟨u::vs,?_,.cons hu h2⟩;simp only[List.mapM_cons,Sem.run_bind,hq2,Sem.run_pure,Result.andThen_ok,hrun,h1]
 obtain⟨vs,h1,h2⟩:=key _ _ _ ht h;have hm:(fn.results.mapM (m:=Sem) fun
  | .tmp t=>pure (tmps.getD t undef)
  | .cell a t=>do loadVar t (<- asAddr (tmps.getD a undef))).run P S.w = .ok vs.toArray S.w:=by
  rw[Array.mapM_eq_mapM_toList,<- bind_pure_comp,Sem.run_bind,h1];rfl
 by_cases h1':vs.length=1
 ·obtain⟨v,rfl⟩:=List.length_eq_one_iff.1 h1'
  ·match l,h2 with
   | [d],h2=>refine⟨v,?_,h2.2 0 d v rfl rfl⟩;unfold results;rw[Sem.run_bind];exact(congrArg (fun r=>Result.andThen r _) hm).trans rfl
   | [],h2=>simp[RepL]at h2
   | _::_::_,h2=>simp[RepL]at h2
 ·refine⟨.tuple vs.toArray,?_,?_⟩
  ·unfold results;rw[Sem.run_bind];refine(congrArg (fun r=>Result.andThen r _) hm).trans ?_;simp[h1']
  ·have hl:l.length≠1:=by rw[<- h2.1];exact h1'
   have:one l = .tup l:=by
    match l,hl with
    | [],_=>rfl
    | _::_::_,_=>rfl
   rw[this];exact .tup l _ (by simpa using h2.1) (fun j d v hd hv=>h2.2 j d v hd (by simpa using hv))
theorem zvL{ti:Ti}{o:Oper}{f:Nat}{xs:List X}(h:trO ti o=some (.call f xs)) : ∃ c:Call,o.op = .call c/\c.callee = .value (.func f)/\trL c.args.toList=some xs:=by
 obtain⟨dst,op,type,pos,after,guard⟩:=o;cases op;case call c=>
  refine⟨c,rfl,?_⟩;simp only[trO]at h;split at h
  ·next b hb=>simp only[Z7]at h;(repeat' (first | contradiction | (exfalso;simp only[zB,reduceCtorEq,and_false,exists_false,zBB]at h;done) | (rw[zA]at h;obtain⟨_,_,h⟩:=h) | (split at h)))
  ·next f' hc=>
   simp only[zB]at h;obtain⟨l,hl,h⟩:=h;injection h with h1 h2;subst h1 h2;exact⟨hc,hl⟩
  ·(repeat' (first | contradiction | (exfalso;simp only[zB,reduceCtorEq,and_false,exists_false,zBB]at h;done) | (rw[zA]at h;obtain⟨_,_,h⟩:=h) | (split at h)))
  ·simp at h
 all_goals (simp only[trO,zej]at h;(repeat' (first | contradiction | (exfalso;simp only[zB,reduceCtorEq,and_false,exists_false,zBB]at h;done) | (rw[zA]at h;obtain⟨_,_,h⟩:=h) | (split at h))))
theorem ztb{ti:Ti}{o:Oper}{g:X}{xs:List X}(h:trO ti o=some (.callv g xs)) : ∃ (c:Call) (t:Nat),o.op = .call c/\c.callee = .value (.tmp t)/\g = .s t/\trL c.args.toList=some xs:=by
 obtain⟨dst,op,type,pos,after,guard⟩:=o;cases op;case call c=>
  simp only[trO]at h;split at h
  ·next b hb=>simp only[Z7]at h;(repeat' (first | contradiction | (exfalso;simp only[zB,reduceCtorEq,and_false,exists_false,zBB]at h;done) | (rw[zA]at h;obtain⟨_,_,h⟩:=h) | (split at h)))
  ·(repeat' (first | contradiction | (exfalso;simp only[zB,reduceCtorEq,and_false,exists_false,zBB]at h;done) | (rw[zA]at h;obtain⟨_,_,h⟩:=h) | (split at h)))
  ·next t hc=>
   simp only[zB]at h;obtain⟨l,hl,h⟩:=h;injection h with h1 h2;subst h1 h2;exact⟨c,t,rfl,hc,rfl,hl⟩
  ·simp at h
 all_goals (simp only[trO,zej]at h;(repeat' (first | contradiction | (exfalso;simp only[zB,reduceCtorEq,and_false,exists_false,zBB]at h;done) | (rw[zA]at h;obtain⟨_,_,h⟩:=h) | (split at h))))
theorem zxJ{ti:Ti}{o:Oper}{x:X}(h:trO ti o=some (.pan x)) : ∃ y:Operand,o.op = .panic y/\trX y=some x:=by
 obtain⟨dst,op,type,pos,after,guard⟩:=o;cases op;case panic y=>simp only[trO,zB]at h;obtain⟨l,hl,h⟩:=h;injection h with h1;subst h1;exact⟨y,rfl,hl⟩
 case call c=>
  simp only[trO]at h;split at h
  ·next b hb=>simp only[Z7]at h;(repeat' (first | contradiction | (exfalso;simp only[zB,reduceCtorEq,and_false,exists_false,zBB]at h;done) | (rw[zA]at h;obtain⟨_,_,h⟩:=h) | (split at h)))
  ·(repeat' (first | contradiction | (exfalso;simp only[zB,reduceCtorEq,and_false,exists_false,zBB]at h;done) | (rw[zA]at h;obtain⟨_,_,h⟩:=h) | (split at h)))
  ·(repeat' (first | contradiction | (exfalso;simp only[zB,reduceCtorEq,and_false,exists_false,zBB]at h;done) | (rw[zA]at h;obtain⟨_,_,h⟩:=h) | (split at h)))
  ·simp at h
 all_goals (simp only[trO,zej]at h;(repeat' (first | contradiction | (exfalso;simp only[zB,reduceCtorEq,and_false,exists_false,zBB]at h;done) | (rw[zA]at h;obtain⟨_,_,h⟩:=h) | (split at h))))
def Does(P:Program)(f:Nat)(args:Array Value)(w:World)(R:Ending->World->Prop):Prop:=
 ((callFunc f args).run P w = .ok (.enter f args) w/\Calls P f args w R) \/ ∃ v w',(callFunc f args).run P w = .ok (.value v) w'/\R (.returned v) w'
def zxK(o:Out)(S':G):Ending->Prop
 | .returned v => ∃ d,o = .ret d/\Rep S' d v
 | .panicked ch => ∃ d v,o = .pan d/\ch=[{ v:=v,recovered:=false }]/\Rep S' d v
 | .outgrown=>False
def zag(P:Program)(E:Env)(cf:Cf):Prop := ∀ f ds st o st',cf f ds st=some (o,st') -> ∀ (S:G) (vs:List Value),Inv S st->RepL S ds vs->GlOk S E ->
 Does P f vs.toArray S.w fun e w' => ∃ S',S'.w=w'/\Ext S S'/\Inv S' st'/\zxK o S' e
section
variable {P:Program} {E:Env} {ti:Ti} {st:St} {S:G} {a:Act} {o:Oper} (hti:yS P ti) (hi:Inv S st) (hf:FrameRep S st.tm a.tmps) (hg:GlOk S E)
def zyF(P:Program)(S:G)(a:Act)(o:Oper)(r:Rv)(K:Act->World->Prop)(Q:Exit->Act->World->Prop):Prop:=
 match r with
 | .val d st' => ∀ S' v,Ext S S'->Inv S' st'->(∀ d',d=some d'->Rep S' d' v)->K (a.put o.dst v) S'.w
 | .pan d st' => ∀ S' v,Ext S S'->Inv S' st'->Rep S' d v->Q (.panic [{ v:=v,recovered:=false }]) a S'.w
theorem zhk(hi:Inv S st)(hg:GlOk S E){cf:Cf}(hcf:zag P E cf){f:Nat}{ds:List D}{vs:Array Value}(hr:RepL S ds vs.toList)(hx:(execOp a.eval o).run P S.w=(callFunc f vs).run P S.w){q:Out}{st':St}(h:cf f ds st=some (q,st'))
  (K:Act->World->Prop) (Q:Exit->Act->World->Prop) (hl:zyF P S a o (outV (q,st')) K Q):o.wp P a S.w K Q:=by
 have:=hcf f ds st q st' h S vs.toList hi hr hg;simp only[Array.toArray_toList]at this;unfold Oper.wp;rw[hx];rcases this with⟨h1,h2⟩ | ⟨v,w',h1,S',rfl,he,hi',ho⟩
 ·rw[h1,Oper.upon_enter];refine Calls.mono h2 fun e w' ⟨S',hw,he,hi',ho⟩ => ?_
  subst hw;cases e with
  | returned v=>obtain⟨d,rfl,hr⟩:=ho;exact hl S' v he hi' (fun d' hd=>by injection hd with hd;subst hd;exact hr)
  | panicked ch=>obtain⟨d,v,rfl,rfl,hr⟩:=ho;exact hl S' v he hi' hr
  | outgrown=>exact ho.elim
 ·rw[h1,Oper.upon_value];obtain⟨d,rfl,hr⟩:=ho;exact hl S' v he hi' (fun d' hd=>by injection hd with hd;subst hd;exact hr)
theorem zd8(hti:yS P ti)(hi:Inv S st)(hf:FrameRep S st.tm a.tmps)(hg:GlOk S E){cf:Cf}(hcf:zag P E cf){O':O}(ht:TrO ti o O'){r:Rv}(h:opX E cf st O'=some r)(K:Act->World->Prop)(Q:Exit->Act->World->Prop)
  (hl:zyF P S a o r K Q):o.wp P a S.w K Q:=by
 have base:(∀ r' st',opD E st O'=some (r',st')->r = .val r' st'->o.wp P a S.w K Q):=by
  intro r' st' h1 h2;subst h2;obtain⟨nx,S',hx,he,hi',hm⟩:=zia hti hi hf hg ht h1;unfold Oper.wp;rw[hx];cases r' with
  | some d=>obtain⟨v,rfl,hr⟩:=hm;rw[Oper.upon_value];exact hl S' v he hi' (fun d' hd=>by injection hd with hd;subst hd;exact hr)
  | none=>simp only at hm;subst hm;rw[Oper.upon_skip];exact hl S' undef he hi' (fun d' hd=>by simp at hd)
 have base2:((opD E st O').map fun p=>Rv.val p.1 p.2)=some r->o.wp P a S.w K Q:=by intro h;simp only[zB]at h;obtain⟨⟨d,st'⟩,h1,h2⟩:=h;exact base d st' h1 h2.symm
 cases O';case call f xs=>simp only[opX,zA,zB]at h;obtain⟨l,hl',⟨q,st'⟩,hq,rfl⟩:=h;obtain⟨c,ho,hcal,hargs⟩:=zvL (ht.of rfl);refine zhk hi hg hcf (vs:=c.args.map a.eval) (by simpa using RepL.evL hf hg hargs hl') ?_ hq K Q hl;simp[execOp,ho,resolve,hcal,Act.eval,Deferred.ofValue,invoke]
 case callv g xs=>
  obtain⟨c,t,ho,hcal,rfl,hargs⟩:=ztb (ht.of rfl);simp only[opX]at h;split at h
  ·next f cap hfn=>
   split at h<;>try contradiction
   simp only[zA,zB]at h;obtain⟨l,hl',⟨q,st'⟩,hq,rfl⟩:=h;have hfv:Rep S (.fn f cap) (a.eval (.tmp t)):=Rep.ev hf hg (x := .tmp t) rfl hfn;generalize hv:a.eval (.tmp t)=fv at hfv;cases hfv with
   | fn _ _ vs hs hr=>
    have hcap:RepL S cap vs.toList:=⟨by simpa using hs,fun j d v hd hv=>hr j d v hd (by simpa using hv)⟩
    refine zhk hi hg hcf (vs:=c.args.map a.eval++vs) (by simpa using (RepL.evL hf hg hargs hl').app hcap) ?_ hq K Q hl;simp[execOp,ho,resolve,hcal,hv,Deferred.ofValue,invoke]
  ·simp at h
 case pan x=>
  obtain⟨y,ho,hy⟩:=zxJ (ht.of rfl);simp only[opX]at h;split at h
  ·next t d hd=>
   injection h with h;subst h;have hr:Rep S (.iface t d) (a.eval y):=Rep.ev hf hg hy hd;generalize hv:a.eval y=u at hr;cases hr with
   | iface _ _ v hr=>
    unfold Oper.wp;have:(execOp a.eval o).run P S.w = .halt (.panic (.iface t v)) S.w:=by simp[execOp,ho,hv,Instr.panic,goPanic]
    rw[this,Oper.upon_panic];exact hl S _ (.refl S) hi (.iface t d v hr)
  ·simp at h
 all_goals exact base2 h
end
end
section
def trG(ops:Array Oper):Option (Nat×Bool)->Option (Option (Nat×Bool))
 | none=>some none
 | some (j,b)=>match(ops[j]?).bind (·.dst)with
  | some t=>some (some (t,b))
  | none=>none
def Wq(nt:Nat):Option Nat->Bool
 | some t=>decide (t<nt)
 | none=>true
def zss(t:Nat):List Oper->Bool
 | []=>false
 | o::r=>(match o.op with | .store _ _ (.tmp u)=>Nat.beq u t | _=>false)||zss t r
def zvT(ops:Array Oper):Option Nat->Bool
 | some t=>zss t ops.toList
 | none=>false
def X4(ti:Ti)(nt:Nat)(ops:Array Oper)(o:Oper):Option OpC:=
 if Wq nt o.dst then(trO ti o).bind fun p=>(trG ops o.guard).map fun g=>⟨o.dst,zy9 (zvT ops o.dst) p,g⟩else none
def zi2(ti:Ti)(nt:Nat)(ops:Array Oper):List Oper->Option (List OpC)
 | []=>some []
 | o::r=>(X4 ti nt ops o).bind fun c=>(zi2 ti nt ops r).map (c :: ·)
theorem wF(a:Act)(dst:Option Nat)(v:Value):(a.put dst v).tmps.size=a.tmps.size:=by cases dst<;>simp[Act.put]
theorem put_defers(a:Act)(dst:Option Nat)(v:Value):(a.put dst v).defers=a.defers:=by cases dst<;>rfl
theorem jj(a:Act)(dst:Option Nat)(v:Value){t:Nat}(h:dst≠some t):(a.put dst v).tmps[t]?=a.tmps[t]?:=by
 cases dst with
 | none=>rfl
 | some d=>
  have:d≠t:=fun e=>h (by rw[e])
  simp[Act.put,Array.getElem?_setIfInBounds_ne this]
theorem Km(a:Act)(t:Nat)(v:Value)(h:t<a.tmps.size):(a.put (some t) v).tmps[t]?=some v:=by simp[Act.put,h]
theorem FrameRep.set{S:G}{st:St}{a:Act}(hf:FrameRep S st.tm a.tmps)(dst:Option Nat){nt:Nat}(hd:Wq nt dst=true)(hn:nt<=a.tmps.size)(r:Option D)(v:Value)(hr : ∀ d,r=some d->Rep S d v) :
  FrameRep S (st.set dst r).tm (a.put dst v).tmps:=by
 intro t d ht;cases dst with
 | none=>
  have:(st.set none r).tm=st.tm:=by cases r<;>rfl
  rw[this]at ht;exact hf t d ht
 | some u=>
  have hu:u<a.tmps.size:=by simp[Wq]at hd;omega
  cases r with
  | some e=>
   have ht2:get (Ev.put st.tm u e) t=some d:=ht;rw[get_put]at ht2;split at ht2
   ·next h=>
    subst h;exact⟨v,Km a t v hu,hr d ht2⟩
   ·next h=>rw[jj a (some u) v (by intro h';injection h' with h';exact h h'.symm)];exact hf t d ht2
  | none=>
   have ht:get (Ev.del st.tm u) t=some d:=ht;rw[Zx]at ht;split at ht
   ·simp at ht
   ·next h=>rw[jj a (some u) v (by intro h';injection h' with h';exact h h'.symm)];exact hf t d ht
section
variable {P:Program} {E:Env} {ti:Ti} {st:St} {S:G} {a:Act} (hti:yS P ti) (hi:Inv S st) (hg:GlOk S E)
theorem Xj{tmps:Array Value}(hf:FrameRep S st.tm tmps){ops:Array Oper}{o:Oper}{g:Option (Nat×Bool)}(ht:trG ops o.guard=some g){b:Bool}(h:yO st.tm g=some b) :
  Region.wanted o (yielded ops tmps)=b:=by
 unfold Region.wanted;cases ho:o.guard with
 | none=>rw[ho]at ht;injection ht with ht;subst ht;injection h with h
 | some p=>
  obtain⟨j,c⟩:=p;rw[ho]at ht;simp only[trG]at ht;split at ht
  ·next t hj=>
   injection ht with ht;subst ht;simp only[yO]at h;split at h
   ·next x hx=>
    injection h with h;subst h;obtain⟨v,hv,hr⟩:=hf t _ hx;cases hr;simp only[yielded,hj,zD,hv];rfl
   ·next hx=>
    injection h with h;subst h;obtain⟨v,hv,hr⟩:=hf t _ hx;cases hr;simp only[yielded,hj,zD,hv];rfl
   ·simp at h
  ·simp at ht
def zzJ(S:G)(a:Act)(dst:Option Nat)(r:Rs)(K:Act->World->Prop)(Q:Exit->Act->World->Prop):Prop:=
 match r with
 | .ok st' => ∀ S' v,Ext S S'->Inv S' st'->FrameRep S' st'.tm (a.put dst v).tmps->K (a.put dst v) S'.w
 | .pan d st' => ∀ S' v,Ext S S'->Inv S' st'->FrameRep S' st'.tm a.tmps->Rep S' d v->Q (.panic [{ v:=v,recovered:=false }]) a S'.w
theorem Inv.tm{S:G}{st:St}(h:Inv S st)(tm:Tm):Inv S { st with tm:=tm }:=⟨h.nx,h.ob,h.tip,h.out,h.dis,h.own⟩
theorem Inv.set{S:G}{st:St}(h:Inv S st)(dst:Option Nat)(r:Option D):Inv S (st.set dst r):=by cases r<;>cases dst<;>first | exact h | exact h.tm _
theorem jk(hti:yS P ti)(hi:Inv S st)(hg:GlOk S E){cf:Cf}(hcf:zag P E cf)(hq:wH cf)(hf:FrameRep S st.tm a.tmps){ops:Array Oper}{nt i:Nat}{o:Oper}(ho:ops[i]?=some o){co:OpC}(ht:X4 ti nt ops o=some co)(hn:nt<=a.tmps.size){r:Rs}(h:opC E cf co st=some r)
  (K:Act->World->Prop) (Q:Exit->Act->World->Prop) (hl:zzJ S a o.dst r K Q):wpOp P ops Q i K a S.w:=by
 unfold X4 at ht;split at ht
 ·next hd=>
  simp only[zA,zB]at ht;obtain⟨p,hp,g,hgd,rfl⟩:=ht;unfold opC at h;unfold wpOp;simp only[ho];split at h
  ·next hw=>
   rw[zBu (Xj hf hgd hw)];refine .inl ?_;simp only[opR,zB]at h;obtain⟨q,hq1,rfl⟩:=h;refine zd8 hti hi hf hg hcf (zsq hp _) hq1 K Q ?_;have htm:=(Fq.opX hq hq1).tm;cases q with
   | val d st'=>
    intro S' v he hi' hr;have hf':FrameRep S' st'.tm a.tmps:=by have:st'.tm=st.tm:=htm;rw[this];exact hf.ext he
    exact hl S' v he (hi'.set _ _) (hf'.set o.dst hd hn d v hr)
   | pan d st'=>
    intro S' v he hi' hr;have hf':FrameRep S' st'.tm a.tmps:=by have:st'.tm=st.tm:=htm;rw[this];exact hf.ext he
    exact hl S' v he hi' hf' hr
  ·next hw=>
   rw[zBt (by rw[Xj hf hgd hw];simp)];injection h with h;subst h;have:=hf.set o.dst hd hn (some .off) undef (fun d h=>by injection h with h;subst h;exact .off);exact hl S undef (.refl S) (hi.set o.dst (some .off)) this
  ·simp at h
 ·simp at ht
def After(S:G)(a:Act)(st':St)(K:Act->World->Prop):Prop:=
 ∀ S' a',Ext S S'->Inv S' st'->FrameRep S' st'.tm a'.tmps->a'.tmps.size=a.tmps.size->a'.defers=a.defers->K a' S'.w
def AfterP(S:G)(a:Act)(d:D)(st':St)(Q:Exit->Act->World->Prop):Prop:=
 ∀ S' a' v,Ext S S'->Inv S' st'->FrameRep S' st'.tm a'.tmps->a'.tmps.size=a.tmps.size->a'.defers=a.defers->Rep S' d v->Q (.panic [{ v:=v,recovered:=false }]) a' S'.w
def AfterR(S:G)(a:Act)(r:Rs)(Q:Exit->Act->World->Prop):Prop:=
 match r with
 | .ok st'=>After S a st' (Q .normal)
 | .pan d st'=>AfterP S a d st' Q
theorem After.shift{S S':G}{a a':Act}{st:St}{K:Act->World->Prop}(h:After S a st K)(he:Ext S S')(hs:a'.tmps.size=a.tmps.size)(hd:a'.defers=a.defers):After S' a' st K:=
 fun S'' a'' he' hi hf h1 h2=>h S'' a'' (he.trans he') hi hf (h1.trans hs) (h2.trans hd)
theorem AfterP.shift{S S':G}{a a':Act}{st:St}{d:D}{Q:Exit->Act->World->Prop}(h:AfterP S a d st Q)(he:Ext S S')(hs:a'.tmps.size=a.tmps.size)(hd:a'.defers=a.defers):AfterP S' a' d st Q:=
 fun S'' a'' v he' hi hf h1 h2 hr=>h S'' a'' v (he.trans he') hi hf (h1.trans hs) (h2.trans hd) hr
theorem AfterR.shift{S S':G}{a a':Act}{r:Rs}{Q:Exit->Act->World->Prop}(h:AfterR S a r Q)(he:Ext S S')(hs:a'.tmps.size=a.tmps.size)(hd:a'.defers=a.defers):AfterR S' a' r Q:=by
 cases r with
 | ok st=>exact After.shift h he hs hd
 | pan d st=>exact AfterP.shift h he hs hd
theorem zlw(hti:yS P ti)(hi:Inv S st)(hg:GlOk S E){cf:Cf}(hcf:zag P E cf)(hq:wH cf)(hf:FrameRep S st.tm a.tmps){ops:Array Oper}{nt:Nat}{l:List Oper}{k:Nat}(hl:ops.toList.drop k=l){cl:List OpC}(ht:zi2 ti nt ops l=some cl)(hn:nt<=a.tmps.size)
  {r:Rs} (h:runOps E cf cl st=some r) (Q:Exit->Act->World->Prop) (hQ:AfterR S a r Q):wpOps P ops Q (List.range' k l.length) a S.w:=by
 induction l generalizing k cl st S a with
 | nil=>injection ht with ht;subst ht;injection h with h;subst h;exact hQ S a (.refl S) hi hf rfl rfl
 | cons o rest ih=>
  simp only[zi2,zA,zB]at ht;obtain⟨c,hc,cl',hcl,rfl⟩:=ht;have ho:ops[k]?=some o:=by have:=congrArg (fun l=>l[0]?) hl;simpa using this
  have hl':ops.toList.drop (k+1)=rest:=by have:=congrArg (List.drop 1) hl;simpa[List.drop_drop]using this
  simp only[zBG,List.range'_succ];rw[wpOps_cons];simp only[runOps]at h;split at h
  ·next st' he=>
   refine jk hti hi hg hcf hq hf ho hc hn he _ Q ?_;intro S' v hext hi' hf';refine ih hi' (hg.ext hext) hf' hl' hcl (by rw[wF];exact hn) h ?_;exact hQ.shift hext (wF _ _ _) (put_defers _ _ _)
  ·next hne=>
   cases r with
   | ok st'=>exact(hne st' h).elim
   | pan d st'=>refine jk hti hi hg hcf hq hf ho hc hn h _ Q ?_;intro S' v hext hi' hf' hr;exact hQ S' a v hext hi' hf' rfl rfl hr
end
end
section
def X.uses:X->List Nat
 | .s t=>[t]
 | _=>[]
def zlf:Option X->List Nat
 | some x=>x.uses
 | none=>[]
def Kr:List X->List Nat
 | []=>[]
 | x::r=>x.uses++Kr r
def zrX:List (Nat×Nat×X)->List Nat
 | []=>[]
 | p::r=>p.2.2.uses++zrX r
def O.uses:O->List Nat
 | .mv x | .box x | .chk x | .inil _ x | .un _ x | .cvi _ x | .cms x | .cbs x | .csb x | .ifc _ x | .fad _ x | .fld _ _ _ x | .ext x _ | .len x | .lns x | .cap x | .pan x | .rng x | .nxt x | .tas _ _ x | .load _ _ x | .apr _ _ x=>x.uses
 | .pick c a b=>c.uses++(a.uses++b.uses)
 | .alloc _ | .nbl _ _=>[]
 | .build _ ps=>zrX ps
 | .lit _ _ ps=>zrX ps
 | .store _ a v=>a.uses++v.uses
 | .bin _ x y | .beq _ x y | .mks _ _ x y | .iad _ x y | .iaa _ _ x y | .ixa _ _ _ x y | .ixs x y | .app _ _ x y | .apz _ _ x y | .cpy _ x y=>x.uses++y.uses
 | .mkf _ l | .min l | .max l | .call _ l=>Kr l
 | .slc _ x l h m | .sla _ _ x l h m=>x.uses++(zlf l++(zlf h++zlf m))
 | .sls x l h=>x.uses++(zlf l++zlf h)
 | .callv x l=>x.uses++Kr l
def Same(u:List Nat)(tm tm':Tm):Prop := ∀ t∈u,get tm' t=get tm t
section
variable {E:Env} {tm tm':Tm}
theorem yL{x:X}(h:Same x.uses tm tm'):ev E tm' x=ev E tm x:=by
 cases x with
 | s t=>exact h t (by simp[X.uses])
 | k d=>rfl
 | g n=>rfl
theorem Jv{x:Option X}(h:Same (zlf x) tm tm'):evO E tm' x=evO E tm x:=by
 cases x with
 | none=>rfl
 | some x=>simp only[evO];rw[yL h]
theorem Same.left{u v:List Nat}(h:Same (u++v) tm tm'):Same u tm tm':=fun t ht=>h t (List.mem_append_left _ ht)
theorem Same.right{u v:List Nat}(h:Same (u++v) tm tm'):Same v tm tm':=fun t ht=>h t (List.mem_append_right _ ht)
theorem XP{l:List X}(h:Same (Kr l) tm tm'):evL E tm' l=evL E tm l:=by
 induction l with
 | nil=>rfl
 | cons x r ih=>simp only[evL];rw[yL h.left,ih h.right]
theorem zvx{l:List (Nat×Nat×X)}(h:Same (zrX l) tm tm'):evP E tm' l=evP E tm l:=by
 induction l with
 | nil=>rfl
 | cons x r ih=>obtain⟨o,n,x⟩:=x;simp only[evP];rw[yL (x:=x) h.left,ih h.right]
end
theorem Yj{E:Env}{st st1:St}{o:O}{r:Option D}(hk:o.kind<=1)(h:opD E st o=some (r,st1)) :
  st1=st /\ ∀ st2:St,Same o.uses st.tm st2.tm->(o.kind=1->st2.mem=st.mem)->opD E st2 o=some (r,st2):=by
 cases o;case load ag sz x=>
  simp only[opD,zA,zB,zBC]at h;obtain⟨d,hd,v,hv,rfl,rfl⟩:=h;refine⟨rfl,fun st2 hs hm => ?_⟩;simp only[opD];rw[yL hs,hd];have:vB st2 ag sz d=vB st ag sz d:=by simp only[vB,vL,hm rfl]
  simp[this,hv]
 case cbs x=>
  simp only[opD,zA]at h;obtain⟨d,hd,h⟩:=h;have hel : ∀ st2:St,st2.mem=st.mem->elems st2 1 d=elems st 1 d:=by intro st2 hm;simp only[elems,hm]
  have key:st1=st /\ ∃ p s,elems st 1 d=some p/\Zh p.2=some s/\r=some (.str s)/\(match d with | .sl _ _ _ | .ref _ _ _ _ _=>True | _=>False):=by
   split at h
   ·simp only[zA,zB,zBC]at h;obtain⟨p,hp,s,hs,h1,h2⟩:=h;exact⟨h2.symm,p,s,hp,hs,h1.symm,trivial⟩
   ·simp only[zA,zB,zBC]at h;obtain⟨p,hp,s,hs,h1,h2⟩:=h;exact⟨h2.symm,p,s,hp,hs,h1.symm,trivial⟩
   ·simp at h
  obtain⟨rfl,p,s,hp,hs,rfl,hd2⟩:=key;refine⟨rfl,fun st2 hsm hm => ?_⟩;simp only[opD];rw[yL hsm,hd];have h3:=hel st2 (hm rfl);rw[hp]at h3;cases d<;>first | exact hd2.elim | simp[h3,hs]
 case store=>simp[O.kind]at hk
 case alloc=>simp[O.kind]at hk
 case box=>simp[O.kind]at hk
 case mks=>simp[O.kind]at hk
 case app=>simp[O.kind]at hk
 case apz=>simp[O.kind]at hk
 case cpy=>simp[O.kind]at hk
 case call=>simp[O.kind]at hk
 case callv=>simp[O.kind]at hk
 case pan=>simp[O.kind]at hk
 case rng=>simp[O.kind]at hk
 case nbl=>simp[O.kind]at hk
 case apr=>simp[O.kind]at hk
 case nxt=>simp[O.kind]at hk
 all_goals
  refine⟨?_,fun st2 hs _ => ?_⟩
  ·have hq:=h;simp only[opD,zA,zB]at h;try (repeat' split at h)
   all_goals (try simp only[zA,zB,zBC,zBB,reduceCtorEq]at h)
   all_goals (try (first | done | grind))
   all_goals (try obtain⟨_,_,h⟩:=h)
   all_goals (try obtain⟨_,_,h⟩:=h)
   all_goals (try (repeat' split at h))
   all_goals (try simp only[zA,zB,zBC,zBB,reduceCtorEq]at h)
   all_goals (try grind)
  ·simp only[O.uses]at hs;simp only[opD]at h ⊢;first
    | rw[yL hs]
    | rw[XP hs]
    | rw[zvx hs]
    | rw[yL hs.left,yL hs.right.left,yL hs.right.right]
    | rw[yL hs.left,Jv hs.right.left,Jv hs.right.right.left,Jv hs.right.right.right]
    | rw[yL hs.left,Jv hs.right.left,Jv hs.right.right]
    | rw[yL hs.left,yL hs.right]
   all_goals (first
    | (simp only[zA,zB,zBC,zBB]at h ⊢;grind)
    | (
      rw[zA]at h;obtain⟨a,ha,h⟩:=h;simp only[ha,zD];try (rw[zA]at h;obtain⟨b,hb,h⟩:=h;simp only[hb,zD])
      cases a<;>simp only[zA,zB,zBC,zBB,reduceCtorEq]at h ⊢ <;> grind)
    | (split at h<;>simp_all;done)
    | (split at h<;>simp_all<;>grind)
    | skip)
end
section
def XC(cf:Cf):Prop := ∀ f ds st q st' tm,cf f ds st=some (q,st')->cf f ds { st with tm:=tm }=some (q,{ st' with tm:=tm })
theorem zh7(st:St)(tm:Tm)(l:List Nat):frz { st with tm:=tm } l={ frz st l with tm:=tm }:=by
 induction l generalizing st with
 | nil=>rfl
 | cons k r ih=>
  simp only[frz];cases h:st.mem k with
  | none=>exact ih st
  | some o=>
   cases o with
   | row xs fz=>exact ih (st.setOb k (.row xs true))
   | iter s p=>exact ih st
   | bld t e s=>exact ih st
theorem XS(fn:Fn)(st s:St)(d:D)(tm:Tm):leave fn { st with tm:=tm } s d=((leave fn st s d).1,{ (leave fn st s d).2 with tm:=tm }):=by
 unfold leave;split
 ·split
  ·split<;>rfl
  ·split<;>rfl
  ·rfl
 ·split
  ·rfl
  ·split<;>rfl
theorem V9(fn:Fn)(ds:List D)(st:St)(tm:Tm):home fn ds { st with tm:=tm }={ home fn ds st with tm:=tm }:=by
 unfold home;split
 ·rfl
 ·exact zh7 _ _ _
theorem zoI(fn:Fn)(ds:List D)(st:St)(tm:Tm):enter fn ds { st with tm:=tm }=enter fn ds st:=by
 unfold enter;split
 ·rfl
 ·simp only[zh7]
theorem zr4(st:St)(tm:Tm)(d:D):told { st with tm:=tm } d=((told st d).1,{ (told st d).2 with tm:=tm }):=by unfold told;split<;>rfl
theorem zxu{e:Eff}{ds:List D}{st st':St}{d:D}(tm:Tm)(h:effD e ds st=some (d,st')):effD e ds { st with tm:=tm }=some (d,{ st' with tm:=tm }):=by
 unfold effD at h ⊢
 repeat' split at h
 all_goals first
  | contradiction
  | (next hm hc=>simp only[zBB,zBC]at h;obtain⟨rfl,rfl⟩:=h;show(match st.mem _ with | some (.bld t' e' r)=>_ | _=>none)=_;rw[hm];simp only;rw[zBu hc];rfl)
theorem zgx(E:Env)(n:Nat):XC (call E n):=by
 intro f ds st q st' tm h;cases n with
 | zero=>simp[call]at h
 | succ n=>
  simp only[call]at h ⊢;split at h
  ·simp only[zB,zBC]at h ⊢;obtain⟨⟨d,s⟩,hd,rfl,rfl⟩:=h;exact⟨_,zxu tm hd,rfl,rfl⟩
  ·simp only[zB,zBC]at h ⊢;obtain⟨d,hd,rfl,rfl⟩:=h;exact⟨d,hd,by rw[zh7,zr4],by rw[zh7,zr4]⟩
  ·simp only[zA]at h ⊢;obtain⟨fn,hfn,h⟩:=h;refine⟨fn,hfn,?_⟩;rw[zoI];have res : ∀ {s},jB f fn ds st s=some (q,st')->jB f fn ds { st with tm:=tm } s=some (q,{ st' with tm:=tm }):=by intro s h;simp only[jB,zB,zBC]at h ⊢;obtain⟨l,hl,rfl,rfl⟩:=h;exact⟨l,hl,by rw[V9,XS],by rw[V9,XS]⟩
   have dfr : ∀ {s q' d},(dfrRun E (call E n) n q' s d).bind (jB f fn ds st)=some (q,st')->(dfrRun E (call E n) n q' s d).bind (jB f fn ds { st with tm:=tm })=some (q,{ st' with tm:=tm }):=by intro s q' d h;rw[zA]at h ⊢;obtain⟨s2,h2,h3⟩:=h;exact⟨s2,h2,res h3⟩
   cases he:exec E (call E n) n fn.body (enter fn ds st)with
   | none=>rw[he]at h;contradiction
   | some w=>
    rw[he]at h;obtain⟨e,s⟩:=w;cases e with
    | nrm=>
     simp only[xK]at h ⊢;split at h
     ·exact res h
     ·exact dfr h
    | ret=>
     simp only[xK]at h ⊢;split at h
     ·exact res h
     ·exact dfr h
    | pan d=>
     simp only[xK]at h ⊢;split at h
     ·simp only[zBB,zBC]at h ⊢;obtain⟨rfl,rfl⟩:=h;exact⟨by rw[V9,XS],by rw[V9,XS]⟩
     ·exact dfr h
    | ext i=>
     simp only[xK]at h ⊢;split at h
     ·next hc=>
      rw[zBu hc];simp only[zB,zBC]at h ⊢;obtain⟨d,hd,rfl,rfl⟩:=h;exact⟨d,hd,by rw[V9,XS],by rw[V9,XS]⟩
     ·contradiction
theorem VG(st:St)(tm:Tm)(k off:Nat)(ys:List D):storeD { st with tm:=tm } k off ys=(storeD st k off ys).map fun s=>{ s with tm:=tm }:=by
 unfold storeD;cases h:st.mem k with
 | none=>rfl
 | some o=>
  cases o with
  | iter s p=>rfl
  | bld _ _ _=>rfl
  | row xs fz=>
   cases fz with
   | true=>rfl
   | false=>simp only;split<;>rfl
theorem zrM(sz bytes m:Nat)(s:D)(ys:List D)(st:St)(tm:Tm):appD sz bytes s m ys { st with tm:=tm }=(appD sz bytes s m ys st).map fun p=>(p.1,{ p.2 with tm:=tm }):=by
 unfold appD;split
 ·split
  ·split
   ·rfl
   ·rfl
   ·split<;>rfl
  ·rfl
 ·next k off n c s'=>
  cases h:st.mem k with
  | none=>rfl
  | some o=>
   cases o with
   | iter s p=>rfl
   | bld _ _ _=>rfl
   | row xs fz=>
    simp only;split
    ·split
     ·split
      ·rfl
      ·rw[VG];simp only[Option.map_map];rfl
     ·rfl
    ·rfl
 ·rfl
theorem zoW(st:St)(tm:Tm)(sz:Nat)(d:D):elems { st with tm:=tm } sz d=elems st sz d:=by cases d<;>rfl
theorem zoJ{E:Env}{cf:Cf}(hc:XC cf){st st1:St}{o:O}{r:Option D}(hk:o.kind=2)(h:opX E cf st o=some (.val r st1)){tm:Tm}(hs:Same o.uses st.tm tm) :
  opX E cf { st with tm:=tm } o=some (.val r { st1 with tm:=tm }):=by
 cases o<;>first | (exfalso;simp[O.kind]at hk;done) | skip
 case call f xs=>
  simp only[opX,zA,zB]at h ⊢;obtain⟨l,hl,⟨q,st'⟩,hq,h⟩:=h;cases q with
  | ret d=>injection h with h1 h2;subst h1 h2;exact⟨l,(XP hs).trans hl,_,hc _ _ _ _ _ tm hq,rfl⟩
  | pan d=>cases h
 case callv g xs=>
  simp only[opX]at h ⊢;rw[yL (E:=E) (x:=g) (tm:=st.tm) hs.left];split at h
  ·next f c hg=>
   split at h<;>try contradiction
   next hlt=>
   try simp only[hg]
   rw[zBu hlt];simp only[zA,zB]at h ⊢;obtain⟨l,hl,⟨q,st'⟩,hq,h⟩:=h;cases q with
   | ret d=>injection h with h1 h2;subst h1 h2;exact⟨l,(XP hs.right).trans hl,_,hc _ _ _ _ _ tm hq,rfl⟩
   | pan d=>cases h
  ·simp at h
 case app sz bytes s x=>
  simp only[opX,opD,zA,zB]at h ⊢;obtain⟨⟨r',s'⟩,⟨d,hd,y,hy,p,hp,h⟩,h2⟩:=h;injection h2 with h3 h4;subst h3 h4;split at h
  ·next ha=>
   simp only[zB,zBC]at h;obtain⟨⟨q1,q2⟩,hq,rfl,rfl⟩:=h;refine⟨(some q1,{ q2 with tm:=tm }),⟨d,(yL hs.left).trans hd,y,(yL hs.right).trans hy,p,(zoW _ _ _ _).trans hp,?_⟩,rfl⟩;rw[zBu ha,zrM,hq];rfl
  ·simp at h
 case apz z bytes s x=>
  simp only[opX,opD,zA,zB]at h ⊢;obtain⟨⟨r',s'⟩,⟨d,hd,h⟩,h2⟩:=h;injection h2 with h3 h4;subst h3 h4;split at h
  ·next m hm=>
   split at h
   ·next ha=>
    simp only[zB,zBC]at h;obtain⟨⟨q1,q2⟩,hq,rfl,rfl⟩:=h;refine⟨(some q1,{ q2 with tm:=tm }),⟨d,(yL hs.left).trans hd,?_⟩,rfl⟩;rw[(yL hs.right).trans hm];simp only;rw[zBu ha,zrM,hq];rfl
   ·simp at h
  ·simp at h
def O.pureZ:O->Bool
 | .alloc z=>pureL z
 | .mks z _ _ _=>pureL z
 | _=>false
theorem zkn{xs ys:List D}:pureL (xs++ys)=(pureL xs&&pureL ys):=by
 induction xs with
 | nil=>simp[pureL]
 | cons x r ih=>simp[pureL,ih,Bool.and_assoc]
theorem ztY(n:Nat){z:List D}(h:pureL z=true):pureL (rep n z)=true:=by
 unfold rep;induction n with
 | zero=>rfl
 | succ n ih=>rw[List.replicate_succ,List.flatten_cons,zkn,h,ih];rfl
theorem zs3{E:Env}{st st1:St}{o:O}{r:Option D}(hk:o.kind=3)(h:opD E st o=some (r,st1)) :
  ∃ (z:List D) (at_:Nat->D),((∀ k,at_ k = .ptr k 0) \/ ∃ n c sz,∀ k,at_ k = .ref k 0 n c sz)/\r=some (at_ st.nx)/\st1=st.newOb (.row z false)/\(o.pureZ=true->pureL z=true) /\
   ∀ st2:St,Same o.uses st.tm st2.tm->opD E st2 o=some (some (at_ st2.nx),st2.newOb (.row z false)):=by
 cases o<;>first | (exfalso;simp[O.kind]at hk;done) | skip
 case alloc z=>simp only[opD,zBB,zBC]at h;obtain⟨rfl,rfl⟩:=h;exact⟨z,fun k => .ptr k 0,.inl fun _=>rfl,rfl,rfl,id,fun st2 _=>rfl⟩
 case mks z bytes n c=>
  simp only[opD]at h;split at h
  ·next n' c' hn hc=>
   split at h
   ·next hcond=>
    simp only[zBB,zBC]at h;obtain⟨rfl,rfl⟩:=h;refine⟨rep c'.toNat z,fun k => .ref k 0 n'.toNat c'.toNat z.length,.inr ⟨_,_,_,fun _=>rfl⟩,rfl,rfl,fun hp=>ztY _ hp,fun st2 hs => ?_⟩;simp only[opD];rw[(yL hs.left).trans hn,(yL hs.right).trans hc];simp only;rw[zBu hcond]
   ·simp at h
  ·simp at h
end
section
theorem Rep.rho{S:G}(r:Nat->Nat){d:D}{v:Value}(h:Rep S d v):Rep { S with ρ:=r } d v:=by
 induction h with
 | und v=>exact .und v
 | off=>exact .off
 | bool b=>exact .bool b
 | int k n=>exact .int k n
 | float k b=>exact .float k b
 | str s=>exact .str s
 | nilp=>exact .nilp
 | nilf=>exact .nilf
 | nili=>exact .nili
 | sl g n xs A c b off us hc hA hu _ hφ hg ih=>
  refine .sl g n xs A c b off us hc hA hu ih hφ ?_;cases g with
  | no=>trivial
  | full=>exact hg
  | ln g sz=>exact hg
 | ref k off n c sz b c' hk hb hc=>exact .ref k off n c sz b c' hk hb hc
 | ptr k off b hk hb=>exact .ptr k off b hk hb
 | el xs b off us hu _ hφ ih=>exact .el xs b off us hu ih hφ
 | agg ds vs hs _ ih=>exact .agg ds vs hs ih
 | tup ds vs hs _ ih=>exact .tup ds vs hs ih
 | fn f ds vs hs _ ih=>exact .fn f ds vs hs ih
 | iface t d v _ ih=>exact .iface t d v ih
theorem zvn{S:G}{st:St}(h:Inv S st)(z:List D) : ∃ S':G,S'.w=S.w/\Ext S S'/\Inv S' (st.newOb (.row z false))/\S'.μ st.nx=none/\S'.nx=S.nx+1/\S'.ρ=S.ρ:=by
 have he:Ext S { S with μ:=fun k=>if k=S.nx then none else S.μ k,nx:=S.nx+1 }:=
  { Ext.refl S with
   mu:=fun k b hk hb=>by show(if k=S.nx then none else S.μ k)=_;rw[zBt (by omega)];exact hb
   mu1:=fun k hk=>by show(if k=S.nx then none else S.μ k)=_;rw[zBt (by omega)]
   nx:=by show S.nx<=S.nx+1;omega }
 refine⟨{ S with μ:=fun k=>if k=S.nx then none else S.μ k,nx:=S.nx+1 },rfl,he,?_,by show(if st.nx=S.nx then none else _)=_;rw[zBu h.nx],rfl,rfl⟩;refine h.step he S.nx (by show st.nx+1=S.nx+1;rw[h.nx]) (fun _ _ _=>⟨rfl,rfl⟩) ?_ (fun _ _ _=>rfl) ?_ ?_ h.out (zgz h _) (Qs h _)
 ·intro k b hk hb;have:(if k=S.nx then none else S.μ k)=some b:=hb;rw[zBt (by omega)]at this;exact this
 ·intro k o hk;by_cases hk2:k=st.nx
  ·subst hk2;refine .inr ⟨by show st.nx<S.nx+1;rw[h.nx];omega,fun b hb => ?_⟩;have:(if st.nx=S.nx then none else S.μ st.nx)=some b:=hb;rw[zBu h.nx]at this;simp at this
  ·have hk':st.mem k=some o:=by have:(upd st.mem st.nx (.row z false)) k=some o:=hk;rw[upd_ne _ _ hk2]at this;exact this
   have:=(h.ob k o hk').1;exact .inl ⟨this,by omega,hk'⟩
 ·intro g n hg;have hg':st.tip g=some n:=hg;have:=(h.tip g n hg').1;exact .inl ⟨this,by omega,hg'⟩
theorem ztH{S0 S:G}{st:St}(h:Inv S st)(e:Ext S0 S){k b:Nat}{z:List D}(hm:st.mem k=some (.row z false))(hmu:S.μ k=none)(hk0:S0.nx<=k)(hb0:S0.w.heap.size<=b)
  (h0:S.ρ b=0) {c:Array Value} {t:TypeId} (hh:S.w.heap[b]?=some (.cells c t (0,0))) (hr:RepL S z (c.toList.take z.length)) (hφ:S.φ b=0) :
  ∃ S':G,S'.w=S.w/\Ext S0 S'/\Inv S' st/\S'.μ k=some b/\S'.nx=S.nx/\(∀ j,j≠k->S'.μ j=S.μ j)/\(∀ d v,Rep S d v->Rep S' d v):=by
 let S1:G:={ S with μ:=fun j=>if j=k then some b else S.μ j }
 have hx1:Ext0 S S1:={ Ext0.refl S with
  mu:=fun j b' hj hb'=>by show(if j=k then some b else S.μ j)=_;rw[zBt (by rintro rfl;rw[hmu]at hb';simp at hb')];exact hb' }
 let S2:G:={ S1 with ρ:=fun b'=>if b'=b then k+1 else S.ρ b' }
 have hrep : ∀ d v,Rep S d v->Rep S2 d v:=fun d v hr=>(hr.ext0 hx1).rho _
 have hlt:=lt_of_heap hh;have hkn:=(h.ob k _ hm).1;have hob : ∀ {b':Nat} {o:Ob},S.ρ b'≠0->RepOb S b' o->RepOb S2 b' o:=by
  intro b' o hb0 h4;cases h4 with
  | row xs fz c t hb hr h0 h1=>exact .row xs fz c t hb ⟨hr.1,fun j d v hd hv=>hrep d v (hr.2 j d v hd hv)⟩ h0 h1
  | iter s pos hb=>exact .iter s pos hb
  | bld t' e' s p v hb' hp hφ0 hown hne' hg=>
   refine .bld t' e' s p v hb' hp hφ0 hown hne' (fun g hgg=>⟨?_,(hg g hgg).2⟩);have h1:=(hg g hgg).1;have hgb:g≠b:=by rintro rfl;omega
   have hbb:b'≠b:=by rintro rfl;omega
   show(if g=b then _ else S.ρ g)=(if b'=b then _ else S.ρ b')
   rw[zBt hgb,zBt hbb];exact h1
 refine⟨S2,rfl,?_,?_,by show(if k=k then _ else _)=_;rw[zBu rfl],rfl,fun j hj=>by show(if j=k then _ else _)=_;rw[zBt hj],hrep⟩
 ·exact { e with
   mu:=fun j b' hj hb'=>by show(if j=k then _ else _)=_;rw[zBt (by omega)];exact e.mu j b' hj hb'
   mu1:=fun j hj=>by show(if j=k then _ else _)=_;rw[zBt (by omega)];exact e.mu1 j hj
   role:=fun b' hb'=>by show(if b'=b then _ else _)=_;rw[zBt (by omega)];exact e.role b' hb'
   free:=e.free
   shape:=e.shape }
 ·refine⟨h.nx,fun j o hj => ?_,fun g n hg => ?_,fun b' hb' => ?_,h.dis,fun b' => ?_⟩
  ·obtain⟨h1,h2⟩:=h.ob j o hj;refine⟨h1,fun b' hb' => ?_⟩;have hb2:(if j=k then some b else S.μ j)=some b':=hb';by_cases e2:j=k
   ·subst e2;rw[zBu rfl]at hb2;injection hb2 with hb2;subst hb2;rw[hm]at hj;injection hj with hj;subst hj;refine⟨by show(if b=b then _ else _)=_;rw[zBu rfl],?_⟩;exact .row z false c t hh ⟨hr.1,fun i d v hd hv=>hrep d v (hr.2 i d v hd hv)⟩ (fun _=>hφ) (fun h=>by simp at h)
   ·rw[zBt e2]at hb2;obtain⟨h3,h4⟩:=h2 b' hb2;refine⟨by show(if b'=b then _ else S.ρ b')=_;rw[zBt (by rintro rfl;omega)];exact h3,hob (by omega) h4⟩
  ·obtain⟨k1,k2,A,c',sz,k3,k4,k5⟩:=h.tip g n hg;refine⟨k1,k2,A,c',sz,k3,k4,k5.imp id ?_⟩;rintro⟨b2,off2,cs2,t2,a1,a2,a3⟩;refine⟨b2,off2,cs2,t2,a1,?_,a3⟩;show(if b2=b then _ else S.ρ b2)=_;rw[zBt (by rintro rfl;omega)];exact a2
  ·have:=h.out b' hb';have hb2:S.w.heap.size<=b':=hb';exact⟨this.1,by show(if b'=b then _ else S.ρ b')=0;rw[zBt (by omega)];exact this.2⟩
  ·show(if b'=b then k+1 else S.ρ b')<=S.nx;split
   ·omega
   ·exact h.own b'
theorem zvA{P:Program}{S0 S:G}{st:St}{a:Act}{o:Oper}(h:Inv S st)(e:Ext S0 S)(ho : ∀ b,S0.ρ b<=S0.nx){k:Nat}{z:List D}(hz:pureL z=true)(hm:st.mem k=some (.row z false))(hmu:S.μ k=none)(hk0:S0.nx<=k)
  {at_:Nat->D} (hat:(∀ k,at_ k = .ptr k 0) \/ ∃ n c sz,∀ k,at_ k = .ref k 0 n c sz) (hy:Yields P S a o (some (at_ st.nx)) (st.newOb (.row z false))) :
  ∃ v S',(execOp a.eval o).run P S.w = .ok (.value v) S'.w/\Ext S0 S'/\Inv S' st/\Rep S' (at_ k) v/\S'.nx=S.nx/\(∀ j,j≠k->j<S.nx->S'.μ j=S.μ j)/\(∀ d v,Rep S d v->Rep S' d v):=by
 obtain⟨nx,S2,hx,he,hi2,v,rfl,hr⟩:=hy;have hself:(st.newOb (.row z false)).mem st.nx=some (.row z false):=wh _ _ _;obtain⟨b,hb,hv⟩ : ∃ b,S2.μ st.nx=some b /\ ∀ S':G,k<S'.nx->S'.μ k=some b->Rep S' (at_ k) v:=by
  rcases hat with hat | ⟨n,c,sz,hat⟩
  ·rw[hat]at hr;cases hr with
   | ptr _ _ b hk hb=>exact⟨b,hb,fun S' hk hb'=>by rw[hat];exact .ptr _ _ b hk hb'⟩
  ·rw[hat]at hr;cases hr with
   | ref _ _ _ _ _ b _ hk hb hc=>exact⟨b,hb,fun S' hk hb'=>by rw[hat];exact .ref _ _ _ _ _ b _ hk hb' hc⟩
 obtain⟨_,hob⟩:=hi2.ob st.nx _ hself;obtain⟨hρ,hob⟩:=hob b hb;have hnx:=h.nx;have hback:Inv (S2.cut S.nx) st:=h.back he hi2 (fun j hj=>upd_ne _ _ (by omega)) (fun j hj=>rfl);have hx4:=he.cut h.own;cases hob with
 | row _ _ c t hh hrl h0 h1=>
  have hb0:S0.w.heap.size<=b:=by
   rcases zBD b S0.w.heap.size with hlt | hge
   ·have h5:=(e.trans he).role b hlt;have h6:=ho b;have h7:=e.nx;omega
   ·exact hge
  have hr4:RepL (S2.cut S.nx) z (c.toList.take z.length):=⟨hrl.1,fun j d v hd hv=>Rep.cut (S:=S) (Xu hz hd) (hrl.2 j d v hd hv)⟩
  obtain⟨S',hw',he',hi',hmu',hnx',hoth,hrep⟩:=ztH hback (e.trans hx4) hm ((he.mu1 k (h.ob k _ hm).1).trans hmu) hk0 hb0
   (by show(if S2.ρ b<=S.nx then _ else 0)=0;rw[zBt (by omega)]) hh hr4 (h0 rfl)
  refine⟨v,S',by rw[hw'];exact hx,he',hi',hv S' (by rw[hnx'];exact(h.ob k _ hm).1) hmu',hnx',fun j hj hlt=>(hoth j hj).trans (he.mu1 j hlt),fun d u hu=>hrep d u (hu.ext hx4)⟩
end
section
def qc(o:Oper):List Nat:=(o.after.toList.filter (fun e=>Region.binds .any e)).map (·.on)
def zbI(acc:List Nat):List Nat->Nat
 | []=>0
 | e::r=>2^e ||| (acc.getD e 0 ||| zbI acc r)
def zsE:List Oper->List Nat->List Nat
 | [],acc=>acc
 | o::r,acc=>zsE r (acc++[zbI acc (qc o)])
def xd(c:OpC):List Nat:=c.op.uses++(match c.gd with | some p=>[p.1] | none=>[])
def Wt(d:Option Nat)(u:List Nat):Bool:=match d with | some t=>has u t | none=>false
def zk5:Option Nat->Option Nat->Bool
 | some a,some b => !(Nat.beq a b)
 | _,_=>true
def ka(M:List Nat)(p q:Nat×OpC):Bool:=
 !(
   Nat.beq p.1 q.1)&&zk5 p.2.dst q.2.dst && !Wt q.2.dst (xd p.2)&&(!Wt p.2.dst (xd q.2)||(M.getD q.1 0).testBit p.1) &&
   (!(Nat.beq p.2.op.kind 2&&Nat.beq q.2.op.kind 2)||(M.getD q.1 0).testBit p.1)
def kw(M:List Nat):List (Nat×OpC)->Bool
 | []=>true
 | p::r => !Wt p.2.dst (xd p.2)&&(r.all fun q=>ka M p q)&&kw M r
def ze0(cl:List OpC):List Nat->Option (List (Nat×OpC))
 | []=>some []
 | i::r=>(cl[i]?).bind fun c=>(ze0 cl r).map ((i,c) :: ·)
def zmP:O->Bool
 | .store _ _ _=>true
 | _=>false
def KU(c z:OpC):Bool:=zmP c.op&&c.dst.isNone && !Wt z.dst (xd c)&&Nat.beq z.op.kind 0
def zbH(M:List Nat)(l0 F:List (Nat×OpC)):List (Nat×OpC)->Bool
 | []=>true
 | p::r=>(F.all fun q=>(M.getD p.1 0).testBit q.1)&&(l0.all fun z=>(M.getD p.1 0).testBit z.1||KU p.2 z.2)&&(r.all fun q=>(M.getD q.1 0).testBit p.1) && !(r.any fun q=>Nat.beq q.1 p.1)&&zbH M l0 F r
def inL(i:Nat)(l:List (Nat×OpC)):Bool:=l.any fun p=>Nat.beq p.1 i
def zhC(c z:OpC):Bool := !Wt z.dst (xd c)&&zk5 c.dst z.dst && !Wt c.dst (xd z)
def zqh(M:List Nat)(Z F rs:List (Nat×OpC)):List (Nat×OpC)->Bool
 | []=>true
 | p::r=>(F.all fun q=>(M.getD p.1 0).testBit q.1)&&(Z.all fun z=>(M.getD p.1 0).testBit z.1||zhC p.2 z.2)&&((r++rs).all fun q=>(M.getD q.1 0).testBit p.1) && !((r++rs).any fun q=>Nat.beq q.1 p.1)&&zqh M Z F rs r
def zu1(ops:Array Oper)(l0 lc l1 fs rs:List (Nat×OpC))(M:List Nat):Bool:=
 (l0.all fun p=>Nat.beq p.2.op.kind 0)&&(lc.all fun p=>Nat.beq p.2.op.kind 3&&p.2.gd.isNone&&p.2.op.pureZ)&&(l1.all fun p=>Nat.ble p.2.op.kind 2) &&
  kw M (l0++(lc++l1))&&((List.range ops.size).all fun i=>inL i (l0++(lc++l1))||inL i (fs++rs))&&((fs++rs).all fun p => !inL p.1 (l0++(lc++l1))) &&
  ((List.range ops.size).all fun j=>match ops[j]? with | some o=>(qc o).all fun e=>Nat.blt e j | none=>true) &&
  zbH M ((l0++(lc++l1)).filter fun p=>Nat.ble p.2.op.kind 1) ((l0++(lc++l1)).filter fun p => !(Nat.ble p.2.op.kind 1)) rs &&
  zqh M ((l0++(lc++l1)).filter fun p=>Nat.ble p.2.op.kind 1) ((l0++(lc++l1)).filter fun p => !(Nat.ble p.2.op.kind 1)) rs fs
def trD(ti:Ti)(nt:Nat)(ops:Array Oper)(h:List Nat×List Nat×List Nat×List Nat):Option (List OpC×List OpC×List OpC×List OpC):=
 (zi2 ti nt ops ops.toList).bind fun cl=>(ze0 cl h.1).bind fun l0=>(ze0 cl h.2.1).bind fun lc=>(ze0 cl h.2.2.1).bind fun l1=>(ze0 cl h.2.2.2).bind fun fs=>
  (ze0 cl ((List.range ops.size).filter fun i => !inL i (l0++(lc++l1)) && !inL i fs)).bind fun rs=>
  if zu1 ops l0 lc l1 fs rs (zsE ops.toList [])then some ((l0++lc).map (·.2),l1.map (·.2),fs.map (·.2),rs.map (·.2))else none
theorem kD{l:List Nat}{t:Nat}:has l t=true↔t∈l:=by
 induction l with
 | nil=>simp[has]
 | cons i r ih=>
  simp only[has];split
  ·next h=>subst h;simp
  ·next h=>rw[ih];simp[Ne.symm h]
theorem zl7{i:Nat}{l:List (Nat×OpC)}:inL i l=true ↔ ∃ p∈l,p.1=i:=by simp[inL]
theorem zbW{M:List Nat}{l0 F r:List (Nat×OpC)}(h:zbH M l0 F r=true){p:Nat×OpC}(hp:p∈r):(∀ q∈F,(M.getD p.1 0).testBit q.1=true) /\ ∀ z∈l0,(M.getD p.1 0).testBit z.1=true\/KU p.2 z.2=true:=by
 induction r with
 | nil=>simp at hp
 | cons x r ih=>
  simp only[zbH,zG,List.all_eq_true,zCc]at h;rcases List.mem_cons.1 hp with rfl | hp
  ·exact⟨h.1.1.1.1,h.1.1.1.2⟩
  ·exact ih h.2 hp
theorem qT{t:Nat}{u:List Nat}:Wt (some t) u=true↔t∈u:=kD
def Closed(ops:Array Oper)(D:Nat->Prop):Prop := ∀ j o,ops[j]?=some o->D j -> ∀ e∈qc o,D e
def Bel(ops:Array Oper)(M:List Nat):Prop := ∀ j o i,ops[j]?=some o->(M.getD j 0).testBit i=true -> ∀ D,Closed ops D->(∀ e∈qc o,D e)->D i
theorem zrk{acc:List Nat}{es:List Nat}{i:Nat}(h:(zbI acc es).testBit i=true) : ∃ e∈es,i=e\/(acc.getD e 0).testBit i=true:=by
 induction es with
 | nil=>simp[zbI]at h
 | cons e r ih=>
  simp only[zbI,Nat.testBit_or,zCc]at h;rcases h with h | h | h
  ·exact⟨e,by simp,.inl (by have:=Nat.testBit_two_pow (n:=e) (m:=i);rw[this]at h;simp at h;exact h.symm)⟩
  ·exact⟨e,by simp,.inr h⟩
  ·obtain⟨e',he',h'⟩:=ih h;exact⟨e',by simp[he'],h'⟩
theorem zs8{ops:Array Oper}{l:List Oper}{acc:List Nat}(hl:ops.toList.drop acc.length=l)(h:Bel ops acc):Bel ops (zsE l acc):=by
 induction l generalizing acc with
 | nil=>exact h
 | cons o r ih=>
  have ho:ops[acc.length]?=some o:=by have:=congrArg (fun l=>l[0]?) hl;simpa using this
  refine ih ?_ ?_
  ·have:=congrArg (List.drop 1) hl;simpa[List.drop_drop]using this
  ·intro j o' i hj hb D hD he;have hlt:j<(acc++[zbI acc (qc o)]).length:=by
    rcases zBD j (acc++[zbI acc (qc o)]).length with h | h
    ·exact h
    ·rw[List.getD_eq_getElem?_getD,zBQ h]at hb;simp at hb
   rw[List.getD_eq_getElem?_getD]at hb;by_cases hj2:j<acc.length
   ·rw[zBP hj2,<- List.getD_eq_getElem?_getD]at hb;exact h j o' i hj hb D hD he
   ·have hje:j=acc.length:=by simp at hlt;omega
    subst hje;rw[ho]at hj;injection hj with hj;subst hj;simp only[List.getElem?_concat_length,Option.getD_some]at hb;obtain⟨e,hee,hi⟩:=zrk hb;rcases hi with rfl | hi
    ·exact he _ hee
    ·have hel:e<acc.length:=by
      rcases zBD e acc.length with h | h
      ·exact h
      ·rw[List.getD_eq_getElem?_getD,zBQ h]at hi;simp at hi
     have hsz:acc.length<ops.size:=by
      rcases zBD acc.length ops.size with h | h
      ·exact h
      ·rw[Array.getElem?_eq_none h]at ho;simp at ho
     have hoe:ops[e]?=some ops[e]:=Array.getElem?_eq_getElem (by omega);exact h e _ i hoe hi D hD (hD e _ hoe (he e hee))
theorem jD{M:List Nat}{L:List (Nat×OpC)}(h:kw M L=true){k k':Nat}{p q:Nat×OpC}(hp:L[k]?=some p)(hq:L[k']?=some q)(hk:k<k'):ka M p q=true:=by
 induction L generalizing k k' with
 | nil=>simp at hp
 | cons x r ih=>
  simp only[kw,zG]at h;cases k' with
  | zero=>omega
  | succ k'=>
   cases k with
   | zero=>simp at hp hq;subst hp;exact List.all_eq_true.1 h.1.2 q (List.mem_of_getElem? hq)
   | succ k=>simp at hp hq;exact ih h.2 hp hq (by omega)
theorem QX{M:List Nat}{L:List (Nat×OpC)}(h:kw M L=true){k:Nat}{p:Nat×OpC}(hp:L[k]?=some p):Wt p.2.dst (xd p.2)=false:=by
 induction L generalizing k with
 | nil=>simp at hp
 | cons x r ih=>
  simp only[kw,zG]at h;cases k with
  | zero=>simp at hp;subst hp;simpa using h.1.1
  | succ k=>simp at hp;exact ih h.2 hp
theorem Vp{cl:List OpC}{is:List Nat}{l:List (Nat×OpC)}(h:ze0 cl is=some l){p:Nat×OpC}(hp:p∈l):cl[p.1]?=some p.2:=by
 induction is generalizing l with
 | nil=>injection h with h;subst h;simp at hp
 | cons i r ih=>
  simp only[ze0,zA,zB]at h;obtain⟨c,hc,l',hl,rfl⟩:=h;rcases List.mem_cons.1 hp with rfl | hp
  ·exact hc
  ·exact ih hl hp
theorem zkK{ti:Ti}{nt:Nat}{ops:Array Oper}{l:List Oper}{cl:List OpC}(h:zi2 ti nt ops l=some cl){i:Nat}{c:OpC}(hc:cl[i]?=some c) : ∃ o,l[i]?=some o/\X4 ti nt ops o=some c:=by
 induction l generalizing cl i with
 | nil=>injection h with h;subst h;simp at hc
 | cons o r ih=>
  simp only[zi2,zA,zB]at h;obtain⟨c',hc',cl',hcl,rfl⟩:=h;cases i with
  | zero=>simp at hc;subst hc;exact⟨o,rfl,hc'⟩
  | succ i=>simp at hc;exact ih hcl hc
section
variable {E:Env} {cf:Cf}
theorem xH(x y:List OpC)(st:St):runOps E cf (x++y) st=match runOps E cf x st with | some (.ok s)=>runOps E cf y s | e=>e:=by
 induction x generalizing st with
 | nil=>rfl
 | cons o r ih=>
  simp only[List.cons_append,runOps];cases h:opC E cf o st with
  | none=>rfl
  | some q=>
   cases q with
   | ok s=>exact ih s
   | pan d s=>rfl
def zai(E:Env)(cf:Cf)(l:List OpC)(st:St)(k:Nat):St:=match runOps E cf (l.take k) st with | some (.ok s)=>s | _=>st
theorem QB{l:List OpC}{st s:St}(h:runOps E cf l st=some (.ok s))(k:Nat):runOps E cf (l.take k) st=some (.ok (zai E cf l st k)):=by
 rw[<- List.take_append_drop k l,xH]at h;unfold zai;split at h
 ·next s' hs=>rw[hs]
 ·next hne=>exact(hne s h).elim
theorem zu0{l:List OpC}{st s:St}(h:runOps E cf l st=some (.ok s)){k:Nat}(hk:l.length<=k):zai E cf l st k=s:=by have:=QB h k;rw[zV hk,h]at this;injection this with this;injection this with this;exact this.symm
theorem ztm{l:List OpC}{st s:St}(h:runOps E cf l st=some (.ok s)){k:Nat}{c:OpC}(hc:l[k]?=some c):opC E cf c (zai E cf l st k)=some (.ok (zai E cf l st (k+1))):=by
 have h1:=QB h k;have h2:=QB h (k+1);rw[List.take_add_one,hc,xH,h1]at h2;simp only[Option.toList,runOps]at h2;split at h2
 ·next s' hs=>injection h2 with h2;injection h2 with h2;rw[hs,h2]
 ·next hne=>exact(hne _ h2).elim
theorem zpB{l:List OpC}{st s:St}(h:runStill E cf l st=some s):runOps E cf l st=some (.ok s) /\ ∀ k,(zai E cf l st k).mem=st.mem:=by
 induction l generalizing st with
 | nil=>injection h with h;subst h;exact⟨rfl,fun k=>by simp[zai,runOps]⟩
 | cons o r ih=>
  simp only[runStill]at h;split at h
  ·next s' hs=>
   split at h
   ·next hm=>
    obtain⟨h1,h2⟩:=ih h;have hr:runOps E cf (o::r) st=some (.ok s):=by simp only[runOps,hs];exact h1
    refine⟨hr,fun k => ?_⟩;cases k with
    | zero=>simp[zai,runOps]
    | succ k=>
     have:zai E cf (o::r) st (k+1)=zai E cf r s' k:=by have a1:=QB hr (k+1);have a2:=QB h1 k;simp only[List.take_succ_cons,runOps,hs]at a1;rw[a2]at a1;injection a1 with a1;injection a1 with a1;exact a1.symm
     rw[this,h2 k,hm]
   ·simp at h
  ·simp at h
theorem zon{x y:List OpC}{st s1 s2:St}(h1:runOps E cf x st=some (.ok s1))(h2:runOps E cf y s1=some (.ok s2))(k:Nat):zai E cf (x++y) st (x.length+k)=zai E cf y s1 k:=by
 have h:runOps E cf (x++y) st=some (.ok s2):=by rw[xH,h1];exact h2
 have a1:=QB h (x.length+k);have a2:=QB h2 k;rw[List.take_length_add_append,xH,h1]at a1;simp only at a1;rw[a2]at a1;injection a1 with a1;injection a1 with a1;exact a1.symm
def Eqv(s s':St):Prop:=s.mem=s'.mem/\s.tip=s'.tip/\s.nx=s'.nx
theorem Eqv.refl(s:St):Eqv s s:=⟨rfl,rfl,rfl⟩
theorem Eqv.trans{a b c:St}(h:Eqv a b)(k:Eqv b c):Eqv a c:=⟨h.1.trans k.1,h.2.1.trans k.2.1,h.2.2.trans k.2.2⟩
theorem Eqv.symm{a b:St}(h:Eqv a b):Eqv b a:=⟨h.1.symm,h.2.1.symm,h.2.2.symm⟩
theorem Eqv.tm(s:St)(tm:Tm):Eqv s { s with tm:=tm }:=⟨rfl,rfl,rfl⟩
theorem Eqv.set(s:St)(dst:Option Nat)(r:Option D):Eqv s (s.set dst r):=by cases r<;>cases dst<;>exact⟨rfl,rfl,rfl⟩
theorem Inv.eqv{S:G}{s s':St}(h:Inv S s)(e:Eqv s s'):Inv S s':=by obtain⟨e1,e2,e3⟩:=e;exact⟨e3▸h.nx,e1▸h.ob,e2▸h.tip,h.out,by rw[<- e1,<- e2];exact h.dis,h.own⟩
theorem qA(hq:wH cf){c:OpC}{st st':St}(h:opC E cf c st=some (.ok st')){t:Nat}(ht:c.dst≠some t):get st'.tm t=get st.tm t:=by
 have hset : ∀ (s:St) (r:Option D),get (s.set c.dst r).tm t=get s.tm t:=by
  intro s r;cases hd:c.dst with
  | none=>cases r<;>rfl
  | some u=>
   have hu : ¬ t=u:=fun e=>ht (by rw[hd,e])
   cases r with
   | some d=>show get (put s.tm u d) t=_;rw[get_put,zBt hu]
   | none=>show get (del s.tm u) t=_;rw[Zx,zBt hu]
 unfold opC at h;split at h
 ·simp only[opR,zB]at h;obtain⟨q,hq1,hq2⟩:=h;have:=(Fq.opX hq hq1).tm;cases q with
  | val r s=>injection hq2 with hq2;subst hq2;rw[hset];exact congrArg (fun tm=>get tm t) this
  | pan d s=>cases hq2
 ·injection h with h;injection h with h;subst h;exact hset st (some .off)
 ·simp at h
end
end
section
structure Drw(P:Program)(E:Env)(cf:Cf)(ti:Ti)(nt:Nat)(ops:Array Oper)(S0:G)(st0:St)(M:List Nat)(L:List (Nat×OpC))(T:Nat->St)(c0 m0 m:Nat):Prop where
 len:L.length=m
 c0m:c0<=m0
 m0m:m0<=m
 bel:Bel ops M
 pairs:kw M L=true
 tr : ∀ (k:Nat) (p:Nat×OpC),L[k]?=some p -> ∃ o,ops[p.1]?=some o/\X4 ti nt ops o=some p.2
 run : ∀ (k:Nat) (p:Nat×OpC),L[k]?=some p->opC E cf p.2 (T k)=some (.ok (T (k+1)))
 k0 : ∀ (k:Nat) (p:Nat×OpC),L[k]?=some p->k<c0->p.2.op.kind=0
 kc : ∀ (k:Nat) (p:Nat×OpC),L[k]?=some p->c0<=k->k<m0->p.2.op.kind=3/\p.2.gd=none/\p.2.op.pureZ=true
 k1 : ∀ (k:Nat) (p:Nat×OpC),L[k]?=some p->m0<=k->p.2.op.kind<=2
 mem : ∀ k,m0<=k->k<=m->(T k).mem=(T m0).mem
 start:T 0=st0
section
variable {P:Program} {E:Env} {cf:Cf} {ti:Ti} {nt:Nat} {ops:Array Oper} {S0:G} {st0:St} {M:List Nat} {L:List (Nat×OpC)} {T:Nat->St} {c0 m0 m:Nat}
variable (hd:Drw P E cf ti nt ops S0 st0 M L T c0 m0 m) (hq:wH cf)
theorem Drw.lt(hd:Drw P E cf ti nt ops S0 st0 M L T c0 m0 m){k:Nat}{p:Nat×OpC}(h:L[k]?=some p):k<m:=by
 rw[<- hd.len];rcases zBD k L.length with h' | h'
 ·exact h'
 ·rw[zBQ h']at h;simp at h
theorem Drw.dst_ne(hd:Drw P E cf ti nt ops S0 st0 M L T c0 m0 m){k k':Nat}{p q:Nat×OpC}(hp:L[k]?=some p)(hp':L[k']?=some q)(hne:k≠k'){t:Nat}(h1:p.2.dst=some t):q.2.dst≠some t:=by
 intro h2;have key : ∀ {k k':Nat} {p q:Nat×OpC},L[k]?=some p->L[k']?=some q->k<k'->p.2.dst=some t->q.2.dst=some t->False:=by intro k k' p q hp hq hk h1 h2;have:=jD hd.pairs hp hq hk;simp[ka,h1,h2,zk5]at this
 rcases Nat.lt_or_gt_of_ne hne with h | h
 ·exact key hp hp' h h1 h2
 ·exact key hp' hp h h2 h1
theorem Drw.idx_ne(hd:Drw P E cf ti nt ops S0 st0 M L T c0 m0 m){k k':Nat}{p q:Nat×OpC}(hp:L[k]?=some p)(hp':L[k']?=some q)(hne:k≠k'):p.1≠q.1:=by
 intro h2;have key : ∀ {k k':Nat} {p q:Nat×OpC},L[k]?=some p->L[k']?=some q->k<k'->p.1=q.1->False:=by intro k k' p q hp hq hk h1;have:=jD hd.pairs hp hq hk;simp[ka,h1]at this
 rcases Nat.lt_or_gt_of_ne hne with h | h
 ·exact key hp hp' h h2
 ·exact key hp' hp h h2.symm
theorem Drw.keep(hd:Drw P E cf ti nt ops S0 st0 M L T c0 m0 m)(hq:wH cf){t k j:Nat}(hk:k+j<=m)(h : ∀ (k':Nat) (p:Nat×OpC),k<=k'->k'<k+j->L[k']?=some p->p.2.dst≠some t):get (T (k+j)).tm t=get (T k).tm t:=by
 induction j with
 | zero=>rfl
 | succ j ih=>
  have hlt:k+j<L.length:=by rw[hd.len];omega
  have hp:L[k+j]?=some L[k+j]:=zL hlt;have:=qA hq (hd.run _ _ hp) (h (k+j) _ (by omega) (by omega) hp);rw[<- Nat.add_assoc,this];exact ih (by omega) (fun k' p h1 h2=>h k' p h1 (by omega))
theorem Drw.keep_dst(hd:Drw P E cf ti nt ops S0 st0 M L T c0 m0 m)(hq:wH cf){t k k':Nat}{p:Nat×OpC}(hp:L[k]?=some p)(ht:p.2.dst=some t)(h1:k<k')(h2:k'<=m):get (T k').tm t=get (T m).tm t:=by
 have e1:=hd.keep hq (t:=t) (k:=k+1) (j:=k'-(k+1)) (by omega) (fun k2 q h3 h4 hq2=>hd.dst_ne hp hq2 (by omega) ht);have e2:=hd.keep hq (t:=t) (k:=k+1) (j:=m-(k+1)) (by omega) (fun k2 q h3 h4 hq2=>hd.dst_ne hp hq2 (by omega) ht);have a1:k+1+(k'-(k+1))=k':=by omega
 have a2:k+1+(m-(k+1))=m:=by omega
 rw[a1]at e1;rw[a2]at e2;rw[e1,e2]
theorem Drw.keep_other(hd:Drw P E cf ti nt ops S0 st0 M L T c0 m0 m)(hq:wH cf){t k:Nat}(hk:k<=m)(h : ∀ (k':Nat) (p:Nat×OpC),L[k']?=some p->p.2.dst≠some t):get (T k).tm t=get st0.tm t:=by have:=hd.keep hq (t:=t) (k:=0) (j:=k) (by omega) (fun k2 q _ _ hq2=>h k2 q hq2);rw[zBE]at this;rw[this,hd.start]
theorem Drw.quiet(hd:Drw P E cf ti nt ops S0 st0 M L T c0 m0 m)(hq:wH cf){k:Nat}{p:Nat×OpC}(hp:L[k]?=some p)(h:p.2.op.kind<=1):Eqv (T k) (T (k+1)):=by
 have hr:=hd.run k p hp;unfold opC at hr;split at hr
 ·simp only[opR,zB]at hr;obtain⟨q,hq1,hq2⟩:=hr;have : ∃ r s,q = .val r s/\opD E (T k) p.2.op=some (r,s):=by
   cases hop:p.2.op<;>rw[hop]at hq1 h<;>first
    | (exfalso;simp[O.kind]at h;done)
    | (simp only[opX,zB]at hq1;obtain⟨⟨r,s⟩,h1,h2⟩:=hq1;exact⟨r,s,h2.symm,h1⟩)
  obtain⟨r,s,rfl,ho⟩:=this;have hs:=(Yj h ho).1;subst hs;injection hq2 with hq2;rw[<- hq2];exact .set _ _ _
 ·injection hr with hr;injection hr with hr;rw[<- hr];exact Eqv.set _ _ (some .off)
 ·simp at hr
theorem Drw.still(hd:Drw P E cf ti nt ops S0 st0 M L T c0 m0 m)(hq:wH cf){k j:Nat}(hk:k+j<=m)(h : ∀ (k':Nat) (p:Nat×OpC),k<=k'->k'<k+j->L[k']?=some p->p.2.op.kind<=1):Eqv (T k) (T (k+j)):=by
 induction j with
 | zero=>exact .refl _
 | succ j ih=>
  have hlt:k+j<L.length:=by rw[hd.len];omega
  have hp:L[k+j]?=some L[k+j]:=zL hlt;exact(ih (by omega) (fun k' p h1 h2=>h k' p h1 (by omega))).trans (hd.quiet hq hp (h (k+j) _ (by omega) (by omega) hp))
theorem Drw.made(hd:Drw P E cf ti nt ops S0 st0 M L T c0 m0 m){k:Nat}{p:Nat×OpC}(hp:L[k]?=some p)(h1:c0<=k)(h2:k<m0) :
  ∃ (z:List D) (at_:Nat->D),((∀ k,at_ k = .ptr k 0) \/ ∃ n c sz,∀ k,at_ k = .ref k 0 n c sz)/\pureL z=true/\T (k+1)=((T k).newOb (.row z false)).set p.2.dst (some (at_ (T k).nx)) /\
   ∀ st2:St,Same p.2.op.uses (T k).tm st2.tm->opD E st2 p.2.op=some (some (at_ st2.nx),st2.newOb (.row z false)):=by
 obtain⟨hk,hg,hz⟩:=hd.kc k p hp h1 h2;have hr:=hd.run k p hp;unfold opC at hr;rw[hg]at hr;simp only[yO,opR,zB]at hr;obtain⟨q,hq1,hq2⟩:=hr;have : ∃ r s,q = .val r s/\opD E (T k) p.2.op=some (r,s):=by
  cases hop:p.2.op<;>rw[hop]at hq1 hk<;>first
   | (exfalso;simp[O.kind]at hk;done)
   | (simp only[opX,zB]at hq1;obtain⟨⟨r,s⟩,h1,h2⟩:=hq1;exact⟨r,s,h2.symm,h1⟩)
 obtain⟨r,s,rfl,ho⟩:=this;obtain⟨z,at_,hat,rfl,rfl,hpz,hall⟩:=zs3 hk ho;injection hq2 with hq2;exact⟨z,at_,hat,hpz hz,hq2.symm,hall⟩
theorem Drw.begin(hd:Drw P E cf ti nt ops S0 st0 M L T c0 m0 m)(hq:wH cf)(hi:Inv S0 st0) : ∃ S:G,S.w=S0.w/\Ext S0 S/\Inv S (T m0)/\(∀ k,c0<=k->k<m0->S.μ (T k).nx=none/\S0.nx<=(T k).nx)/\S.ρ=S0.ρ:=by
 have e0:=hd.still hq (k:=0) (j:=c0) (by have:=hd.c0m;have:=hd.m0m;omega) (fun k' p _ h2 hp=>by have:=hd.k0 k' p hp (by omega);omega);rw[hd.start,zBE]at e0;have h0:=hi.eqv e0;have key : ∀ j,c0+j<=m0 -> ∃ S:G,S.w=S0.w/\Ext S0 S/\Inv S (T (c0+j))/\(∀ k,c0<=k->k<c0+j->S.μ (T k).nx=none/\S0.nx<=(T k).nx/\(T k).nx<S.nx)/\S.ρ=S0.ρ:=by
  intro j;induction j with
  | zero=>intro _;exact⟨S0,rfl,.refl S0,h0,fun k h1 h2=>by omega,rfl⟩
  | succ j ih=>
   intro hj;obtain⟨S,hw,he,hinv,hmu,hρ⟩:=ih (by omega);have hlt:c0+j<L.length:=by rw[hd.len];have:=hd.m0m;omega
   have hp:L[c0+j]?=some L[c0+j]:=zL hlt;obtain⟨z,at_,_,_,hT,_⟩:=hd.made hp (by omega) (by omega);obtain⟨S',hw',he',hi',hm',hn',hρ'⟩:=zvn hinv z;have hnx:=hinv.nx;refine⟨S',hw'.trans hw,he.trans he',?_,fun k h1 h2 => ?_,hρ'.trans hρ⟩
   ·rw[<- Nat.add_assoc,hT];exact hi'.set _ _
   ·by_cases hk:k=c0+j
    ·subst hk;exact⟨hm',by have:=he.nx;omega,by omega⟩
    ·obtain⟨a1,a2,a3⟩:=hmu k h1 (by omega);exact⟨(he'.mu1 _ a3).trans a1,a2,by omega⟩
 have hc:=hd.c0m;obtain⟨S,a1,a2,a3,a4,a5⟩:=key (m0-c0) (by omega);have e:c0+(m0-c0)=m0:=by omega
 rw[e]at a3 a4;exact⟨S,a1,a2,a3,fun k h1 h2=>⟨(a4 k h1 h2).1,(a4 k h1 h2).2.1⟩,a5⟩
theorem Drw.there(hd:Drw P E cf ti nt ops S0 st0 M L T c0 m0 m){k:Nat}{p:Nat×OpC}(hp:L[k]?=some p)(h1:c0<=k)(h2:k<m0){z:List D}(hT:(T (k+1)).mem (T k).nx=some (.row z false))(hn:(T k).nx<(T (k+1)).nx){K:Nat}(hK:m0<=K)(hKm:K<=m):(T K).mem (T k).nx=some (.row z false):=by
 rw[hd.mem K hK hKm];have key : ∀ j,k+1+j<=m0->(T (k+1+j)).mem (T k).nx=some (.row z false)/\(T k).nx<(T (k+1+j)).nx:=by
  intro j;induction j with
  | zero=>intro _;exact⟨hT,hn⟩
  | succ j ih=>
   intro hj;obtain⟨a1,a2⟩:=ih (by omega);have hlt:k+1+j<L.length:=by rw[hd.len];have:=hd.m0m;omega
   have hp':L[k+1+j]?=some L[k+1+j]:=zL hlt;obtain⟨z',at_,_,_,hT',_⟩:=hd.made hp' (by omega) (by omega);have hT'':T (k+1+(j+1))=_:=hT';have e:Eqv _ _:=Eqv.set ((T (k+1+j)).newOb (.row z' false)) L[k+1+j].2.dst (some (at_ (T (k+1+j)).nx));rw[hT''];rw[<- e.1,<- e.2.2];refine⟨?_,?_⟩
   ·show upd _ _ _ _=_;rw[upd_ne _ _ (by omega)];exact a1
   ·show _<(T (k+1+j)).nx+1;omega
 have:=(key (m0-(k+1)) (by omega)).1;have e:k+1+(m0-(k+1))=m0:=by omega
 rw[e]at this;exact this
end
end
section
def At(S0:G)(st0:St)(ops:Array Oper)(L:List (Nat×OpC))(T:Nat->St)(c0 m0 m:Nat)(a:Act)(D:Nat->Prop)(a':Act)(w':World):Prop:=
 ∃ (S:G) (K:Nat),S.w=w'/\Ext S0 S/\a'.tmps.size=a.tmps.size/\a'.defers=a.defers/\Closed ops D/\m0<=K/\K<=m /\
  (∀ (k:Nat) (p:Nat×OpC),L[k]?=some p->m0<=k->p.2.op.kind=2->(D p.1↔k<K))/\Inv S (T K) /\
  (∀ (k:Nat) (p:Nat×OpC),L[k]?=some p->c0<=k->k<m0 -> ¬ D p.1->S.μ (T k).nx=none) /\
  (∀ t d,(∀ (k:Nat) (p:Nat×OpC),L[k]?=some p->p.2.dst≠some t)->get st0.tm t=some d -> ∃ v,a'.tmps[t]?=some v/\Rep S d v) /\
  (∀ (k:Nat) (p:Nat×OpC) t d,L[k]?=some p->D p.1->p.2.dst=some t->get (T m).tm t=some d -> ∃ v,a'.tmps[t]?=some v/\Rep S d v)
theorem VK{ti:Ti}{nt:Nat}{ops:Array Oper}{o:Oper}{c:OpC}(h:X4 ti nt ops o=some c):c.dst=o.dst/\Wq nt o.dst=true/\TrO ti o c.op/\trG ops o.guard=some c.gd:=by
 unfold X4 at h;split at h
 ·next hd=>
  simp only[zA,zB]at h;obtain⟨p,hp,g,hg,rfl⟩:=h;exact⟨rfl,hd,zsq hp _,hg⟩
 ·simp at h
theorem vu{c:OpC}{tm tm':Tm}(h:Same (xd c) tm tm'):yO tm' c.gd=yO tm c.gd:=by
 unfold xd at h;cases hg:c.gd with
 | none=>rfl
 | some p=>obtain⟨t,b⟩:=p;rw[hg]at h;simp only[yO];rw[h t (by simp)]
theorem Same.kept{u:List Nat}{tm:Tm}:Same u tm (kept u tm):=by intro t ht;rw[vy,zBu (kD.2 ht)]
theorem zgv{E:Env}{cf:Cf}{st:St}{o:O}{q:Rv}(hk:o.kind≠2)(h4:o.kind≠4)(h:opX E cf st o=some q) : ∃ r s,q = .val r s/\opD E st o=some (r,s):=by
 cases o<;>first
  | (exfalso;simp[O.kind]at hk;done)
  | (exfalso;simp[O.kind]at h4;done)
  | (simp only[opX,zB]at h;obtain⟨⟨r,s⟩,h1,h2⟩:=h;exact⟨r,s,h2.symm,h1⟩)
theorem zi3{E:Env}{cf:Cf}{st:St}{o:O}{r:Option D}{s:St}(hk:o.kind≠2)(h4:o.kind≠4)(h:opD E st o=some (r,s)):opX E cf st o=some (.val r s):=by
 cases o<;>first
  | (exfalso;simp[O.kind]at hk;done)
  | (exfalso;simp[O.kind]at h4;done)
  | (simp only[opX,h];rfl)
section
variable {P:Program} {E:Env} {cf:Cf} {ti:Ti} {nt:Nat} {ops:Array Oper} {S0:G} {st0:St} {M:List Nat} {L:List (Nat×OpC)} {T:Nat->St} {c0 m0 m:Nat} {a:Act}
variable (hti:yS P ti) (hd:Drw P E cf ti nt ops S0 st0 M L T c0 m0 m) (hq:wH cf) (hcf:zag P E cf) (hct:XC cf) (hg0:GlOk S0 E) (hown : ∀ b,S0.ρ b<=S0.nx) (hnm : ∀ k,c0<=k->k<m0->S0.nx<=(T k).nx) (hn:nt<=a.tmps.size)
theorem Drw.step(hti:yS P ti)(hd:Drw P E cf ti nt ops S0 st0 M L T c0 m0 m)(hq:wH cf)(hcf:zag P E cf)(hct:XC cf)(hg0:GlOk S0 E)(hown : ∀ b,S0.ρ b<=S0.nx)(hnm : ∀ k,c0<=k->k<m0->S0.nx<=(T k).nx)(hn:nt<=a.tmps.size){D:Nat->Prop}{a':Act}{w':World}(hat:At S0 st0 ops L T c0 m0 m a D a' w'){k:Nat}{p:Nat×OpC}(hp:L[k]?=some p)(hnD : ¬ D p.1)(hed : ∀ o,ops[p.1]?=some o -> ∀ e∈qc o,D e)(Q:Exit->Act->World->Prop) :
  wpOp P ops Q p.1 (At S0 st0 ops L T c0 m0 m a (fun i=>D i\/i=p.1)) a' w':=by
 obtain⟨S,K,rfl,hext,hsz,hdf,hcl,hK0,hKm,hloud,hinv,hpend,hs1,hs2⟩:=hat;obtain⟨o,ho,htr⟩:=hd.tr k p hp;obtain⟨hdst,hdok,htrO,htrG⟩:=VK htr;have hkm:=hd.lt hp
 -- what lies ahead has been done
 have ahead : ∀ i,(M.getD p.1 0).testBit i=true->D i:=fun i hi=>hd.bel p.1 o i ho hi D hcl (hed o ho)
 have pair : ∀ {k':Nat} {p':Nat×OpC},L[k']?=some p'->k'<k->ka M p' p=true:=fun hp' hlt=>jD hd.pairs hp' hp hlt
 -- the slots that are read
 have hfr:FrameRep S (kept (xd p.2) (T k).tm) a'.tmps:=by
  intro t d ht;rw[vy]at ht;split at ht
  ·next hu=>
   have hu:=kD.1 hu;by_cases hex : ∃ (k':Nat) (p':Nat×OpC),L[k']?=some p'/\p'.2.dst=some t
   ·obtain⟨k',p',hp',ht'⟩:=hex;have hne:k'≠k:=by rintro rfl;rw[hp]at hp';injection hp' with hp';subst hp';have:=QX hd.pairs hp;rw[ht']at this;have h2:=qT.2 hu;rw[this]at h2;simp at h2
    have hlt:k'<k:=by
     rcases Nat.lt_or_gt_of_ne hne with h | h
     ·exact h
     ·have:=jD hd.pairs hp hp' h;simp only[ka,zG,ht',qT.2 hu]at this;simp at this
    have hpr:=pair hp' hlt;simp only[ka,zG,ht',qT.2 hu]at hpr;have hb:(M.getD p.1 0).testBit p'.1=true:=by have:=hpr.1.2;simpa using this
    refine hs2 k' p' t d hp' (ahead _ hb) ht' ?_;rw[<- hd.keep_dst hq hp' ht' hlt (by omega)];exact ht
   ·refine hs1 t d (fun k' p' hp' ht'=>hex ⟨k',p',hp',ht'⟩) ?_;rw[<- hd.keep_other hq (k:=k) (by omega) (fun k' p' hp' ht'=>hex ⟨k',p',hp',ht'⟩)];exact ht
  ·simp at ht
 have hsame:Same (xd p.2) (T k).tm (kept (xd p.2) (T k).tm):=Same.kept;have hsame':Same p.2.op.uses (T k).tm (kept (xd p.2) (T k).tm):=fun t ht=>hsame t (List.mem_append_left _ ht)
 have hg:=hg0.ext hext;have hn':nt<=a'.tmps.size:=by rw[hsz];exact hn
 -- a loud operation's place
 have hplace:p.2.op.kind=2->m0<=k/\K<=k/\Eqv (T K) (T k) /\ ∀ (k':Nat) (p':Nat×OpC),L[k']?=some p'->m0<=k'->p'.2.op.kind=2->((D p'.1\/p'.1=p.1)↔k'<k+1):=by
  intro h2;have hm0:m0<=k:=by
   rcases zBD k m0 with h | h
   ·rcases zBD k c0 with h' | h'
    ·have:=hd.k0 k p hp h';omega
    ·have:=(hd.kc k p hp h' h).1;omega
   ·exact h
  have hKk:K<=k:=by
   rcases zBD k K with h | h
   ·exact(hnD ((hloud k p hp hm0 h2).2 h)).elim
   ·exact h
  have before : ∀ (k':Nat) (p':Nat×OpC),L[k']?=some p'->k'<k->p'.2.op.kind=2->D p'.1:=by intro k' p' hp' hlt h2';have:=pair hp' hlt;simp only[ka,zG,h2,h2']at this;exact ahead _ (by simpa using this.2)
  refine⟨hm0,hKk,?_,fun k' p' hp' hm' h2'=>⟨fun h => ?_,fun h => ?_⟩⟩
  ·have:=hd.still hq (k:=K) (j:=k-K) (by omega) (fun k' p' h3 h4 hp'=>by
    have h5:=hd.k1 k' p' hp' (by omega);have h6:p'.2.op.kind≠2:=fun h7=>by have:=(hloud k' p' hp' (by omega) h7).1 (before k' p' hp' (by omega) h7);omega
    omega)
   have e:K+(k-K)=k:=by omega
   rw[e]at this;exact this
  ·rcases h with h | h
   ·have:=(hloud k' p' hp' hm' h2').1 h;omega
   ·by_cases he:k'=k
    ·omega
    ·exact(hd.idx_ne hp' hp he h).elim
  ·by_cases he:k'=k
   ·subst he;rw[hp]at hp';injection hp' with hp';subst hp';exact .inr rfl
   ·exact .inl (before k' p' hp' (by omega) h2')
 have hloud':p.2.op.kind≠2 -> ∀ (k':Nat) (p':Nat×OpC),L[k']?=some p'->m0<=k'->p'.2.op.kind=2->((D p'.1\/p'.1=p.1)↔k'<K):=by
  intro h2 k' p' hp' hm' h2';refine⟨fun h => ?_,fun h => .inl ((hloud k' p' hp' hm' h2').2 h)⟩;rcases h with h | h
  ·exact(hloud k' p' hp' hm' h2').1 h
  ·by_cases he:k'=k
   ·subst he;rw[hp]at hp';injection hp' with hp';subst hp';exact(h2 h2').elim
   ·exact(hd.idx_ne hp' hp he h).elim
 -- the end of the step
 have fin : ∀ (S':G) (K':Nat) (v:Value),Ext S0 S'->(∀ d u,Rep S d u->Rep S' d u)->Inv S' (T K')->m0<=K'->K'<=m ->
   (∀ (k':Nat) (p':Nat×OpC),L[k']?=some p'->m0<=k'->p'.2.op.kind=2->((D p'.1\/p'.1=p.1)↔k'<K')) ->
   (∀ (k':Nat) (p':Nat×OpC),L[k']?=some p'->c0<=k'->k'<m0 -> ¬ (D p'.1\/p'.1=p.1)->S'.μ (T k').nx=none) ->
   (∀ t d,p.2.dst=some t->get (T m).tm t=some d->Rep S' d v) ->
   At S0 st0 ops L T c0 m0 m a (fun i=>D i\/i=p.1) (a'.put o.dst v) S'.w:=by
  intro S' K' v he hlift hi' h1 h2 h3 h4 h5;refine⟨S',K',rfl,he,by rw[wF];exact hsz,by rw[put_defers];exact hdf,?_,h1,h2,h3,hi',h4,?_,?_⟩
  ·intro j oj hj hD e hee;rcases hD with hD | rfl
   ·exact .inl (hcl j oj hj hD e hee)
   ·exact .inl (hed oj hj e hee)
  ·intro t d hno hget;obtain⟨u,hu,hr⟩:=hs1 t d hno hget;exact⟨u,by rw[jj _ _ _ (by rw[<- hdst];exact hno k p hp)];exact hu,hlift _ _ hr⟩
  ·intro k' p' t d hp' hD ht hget;by_cases hkk:k'=k
   ·subst hkk;rw[hp]at hp';injection hp' with hp';subst hp';refine⟨v,?_,h5 t d ht hget⟩;rw[<- hdst,ht];refine Km _ _ _ ?_;rw[<- hdst,ht]at hdok;simp[Wq]at hdok;omega
   ·have hD:D p'.1:=hD.resolve_right (fun h=>hd.idx_ne hp' hp hkk h);obtain⟨u,hu,hr⟩:=hs2 k' p' t d hp' hD ht hget;exact⟨u,by rw[jj _ _ _ (by rw[<- hdst];exact hd.dst_ne hp' hp hkk ht)];exact hu,hlift _ _ hr⟩
 -- the operation
 have hrun:=hd.run k p hp;unfold opC at hrun;unfold wpOp;simp only[ho];split at hrun
 ·next hw=>
  have hw':yO (kept (xd p.2) (T k).tm) p.2.gd=some true:=(vu hsame).trans hw;rw[zBu (Xj (st:={ T K with tm:=kept (xd p.2) (T k).tm }) hfr htrG hw')];refine .inl ?_;simp only[opR,zB]at hrun;obtain⟨q,hq1,hq2⟩:=hrun
  -- what the slot holds in the end
  have hval : ∀ r s,q = .val r s -> ∀ t d,p.2.dst=some t->get (T m).tm t=some d->r=some d:=by
   intro r s hqe t d ht hget;subst hqe;injection hq2 with hq2;rw[<- hd.keep_dst hq hp ht (zCf k) (by omega),<- hq2,ht]at hget;cases r with
   | none=>have:get (del s.tm t) t=some d:=hget;rw[Zx,zBu rfl]at this;simp at this
   | some e=>have:get (put s.tm t e) t=some d:=hget;rw[get_put,zBu rfl]at this;exact this
  by_cases h2:p.2.op.kind=2
  ·obtain⟨hm0,hKk,heq,hl⟩:=hplace h2;have : ∃ r s,q = .val r s:=by
    cases q with
    | val r s=>exact⟨r,s,rfl⟩
    | pan d s=>cases hq2
   obtain⟨r,s,rfl⟩:=this;have hx:=zoJ hct h2 hq1 hsame';have hi2:Inv S { T k with tm:=kept (xd p.2) (T k).tm }:=(hinv.eqv heq).tm _;refine zd8 hti hi2 hfr hg hcf htrO hx _ Q ?_;intro S' v he hi' hr;injection hq2 with hq2;refine fin S' (k+1) v (hext.trans he) (fun d u h=>h.ext he) ?_ (by omega) (by omega) hl ?_ (fun t d ht hget=>hr d (hval r s rfl t d ht hget))
   ·rw[<- hq2];exact(hi'.eqv (Eqv.tm s _).symm).eqv (Eqv.set _ _ _)
   ·intro k' p' hp' hc1 hc2 hno;have h6:=hpend k' p' hp' hc1 hc2 (fun h=>hno (.inl h));obtain⟨z,at_,_,_,hT,_⟩:=hd.made hp' hc1 hc2;have hmem:(T (k'+1)).mem (T k').nx=some (.row z false):=by rw[hT,<- (Eqv.set _ _ _).1];exact wh _ _ _
    have hth:=hd.there hp' hc1 hc2 hmem (by rw[hT,<- (Eqv.set _ _ _).2.2];exact zCf _) hK0 hKm;exact(he.mu1 _ (hinv.ob _ _ hth).1).trans h6
  ·have h4:p.2.op.kind≠4:=by
    rcases zBD k c0 with h | h
    ·have:=hd.k0 k p hp h;omega
    ·rcases zBD k m0 with h' | h'
     ·have:=(hd.kc k p hp h h').1;omega
     ·have:=hd.k1 k p hp h';omega
   obtain⟨r,s,rfl,hop⟩:=zgv h2 h4 hq1;have hi2:Inv S { T K with tm:=kept (xd p.2) (T k).tm }:=hinv.tm _;by_cases h3:p.2.op.kind=3
   ·have hc:c0<=k/\k<m0:=by
     refine⟨?_,?_⟩
     ·rcases zBD k c0 with h | h
      ·have:=hd.k0 k p hp h;omega
      ·exact h
     ·rcases zBD k m0 with h | h
      ·exact h
      ·have:=hd.k1 k p hp h;omega
    obtain⟨z,at_,hat,hz,hT,hall⟩:=hd.made hp hc.1 hc.2;have hop2:=hall { T K with tm:=kept (xd p.2) (T k).tm } hsame';have hy:=zia hti hi2 hfr hg htrO hop2;have hmem:(T (k+1)).mem (T k).nx=some (.row z false):=by rw[hT,<- (Eqv.set _ _ _).1];exact wh _ _ _
    have hth:=hd.there hp hc.1 hc.2 hmem (by rw[hT,<- (Eqv.set _ _ _).2.2];exact zCf _) hK0 hKm;obtain⟨v,S',hx,he',hi',hrv,hnx',hmu',hrep⟩:=zvA hi2 hext hown hz hth (hpend k p hp hc.1 hc.2 hnD) (hnm k hc.1 hc.2) hat hy;have hr:r=some (at_ (T k).nx):=by have h5:=hall (T k) (fun _ _=>rfl);rw[hop]at h5;injection h5 with h5;injection h5
    unfold Oper.wp;rw[hx,Oper.upon_value];refine fin S' K v he' hrep (hi'.eqv (Eqv.tm _ _).symm) hK0 hKm (hloud' h2) ?_ (fun t d ht hget => ?_)
    ·intro k' p' hp' hc1 hc2 hno;have h6:=hpend k' p' hp' hc1 hc2 (fun h=>hno (.inl h));obtain⟨z',at',_,_,hT',_⟩:=hd.made hp' hc1 hc2;have hmem':(T (k'+1)).mem (T k').nx=some (.row z' false):=by rw[hT',<- (Eqv.set _ _ _).1];exact wh _ _ _
     have hth':=hd.there hp' hc1 hc2 hmem' (by rw[hT',<- (Eqv.set _ _ _).2.2];exact zCf _) hK0 hKm;have hkk:k'≠k:=by rintro rfl;rw[hp]at hp';injection hp' with hp';subst hp';exact hno (.inr rfl)
     have hne:(T k').nx≠(T k).nx:=by
      have inc : ∀ {k1 k2:Nat},c0<=k1->k1<k2->k2<=m0->(T k1).nx<(T k2).nx:=by
       intro k1 k2 g1 g2 g3;have step : ∀ j,k1+1+j<=m0->(T k1).nx<(T (k1+1+j)).nx:=by
        intro j;induction j with
        | zero=>
         intro _;have hlt:k1<L.length:=by rw[hd.len];have:=hd.m0m;omega
         obtain⟨_,_,_,_,hT2,_⟩:=hd.made (zL hlt) g1 (by omega);show _<(T (k1+1)).nx;rw[hT2,<- (Eqv.set _ _ _).2.2];exact zCf _
        | succ j ih=>
         intro hj;have:=ih (by omega);have hlt:k1+1+j<L.length:=by rw[hd.len];have:=hd.m0m;omega
         obtain⟨_,_,_,_,hT2,_⟩:=hd.made (zL hlt) (by omega) (by omega);have hT3:(T (k1+1+(j+1))).nx=(T (k1+1+j)).nx+1:=by show(T (k1+1+j+1)).nx=_;rw[hT2,<- (Eqv.set _ _ _).2.2];rfl
         omega
       have:=step (k2-(k1+1)) (by omega);have e:k1+1+(k2-(k1+1))=k2:=by omega
       rw[e]at this;exact this
      rcases Nat.lt_or_gt_of_ne hkk with h | h
      ·have:=inc hc1 h (by omega);omega
      ·have:=inc hc.1 h (by omega);omega
     exact(hmu' _ hne (hinv.ob _ _ hth').1).trans h6
    ·have h5:=hval r s rfl t d ht hget;rw[hr]at h5;injection h5 with h5;rw[<- h5];exact hrv
   ·have hk1:p.2.op.kind<=1:=by
     rcases zBD k c0 with h | h
     ·have:=hd.k0 k p hp h;omega
     ·rcases zBD k m0 with h' | h'
      ·exact(h3 (hd.kc k p hp h h').1).elim
      ·have:=hd.k1 k p hp h';omega
    obtain⟨rfl,hall⟩:=Yj hk1 hop;have hop2:=hall { T K with tm:=kept (xd p.2) (T k).tm } hsame' (fun h1=>by
     have hm0:m0<=k:=by
      rcases zBD k m0 with h | h
      ·rcases zBD k c0 with h' | h'
       ·have:=hd.k0 k p hp h';omega
       ·exact(h3 (hd.kc k p hp h' h).1).elim
      ·exact h
     show(T K).mem=_;rw[hd.mem K hK0 hKm,hd.mem k hm0 (by omega)])
    refine zd8 hti hi2 hfr hg hcf htrO (zi3 h2 h4 hop2) _ Q ?_;intro S' v he hi' hr;refine fin S' K v (hext.trans he) (fun d u h=>h.ext he) (hi'.eqv (Eqv.tm _ _).symm) hK0 hKm (hloud' h2) ?_ (fun t d ht hget=>hr d (hval r _ rfl t d ht hget));intro k' p' hp' hc1 hc2 hno;have h6:=hpend k' p' hp' hc1 hc2 (fun h=>hno (.inl h));obtain⟨z,at_,_,_,hT,_⟩:=hd.made hp' hc1 hc2;have hmem:(T (k'+1)).mem (T k').nx=some (.row z false):=by rw[hT,<- (Eqv.set _ _ _).1];exact wh _ _ _
    have hth:=hd.there hp' hc1 hc2 hmem (by rw[hT,<- (Eqv.set _ _ _).2.2];exact zCf _) hK0 hKm;exact(he.mu1 _ (hinv.ob _ _ hth).1).trans h6
 ·next hw=>
  have hw':yO (kept (xd p.2) (T k).tm) p.2.gd=some false:=(vu hsame).trans hw;rw[zBt (by rw[Xj (st:={ T K with tm:=kept (xd p.2) (T k).tm }) hfr htrG hw'];simp)];injection hrun with hrun;injection hrun with hrun;have hT:T (k+1)=(T k).set p.2.dst (some .off):=hrun.symm;have hnone : ∀ t d,p.2.dst=some t->get (T m).tm t=some d->Rep S d undef:=by intro t d ht hget;rw[<- hd.keep_dst hq hp ht (zCf k) (by omega),hT,ht]at hget;have:get (put (T k).tm t .off) t=some d:=hget;rw[get_put,zBu rfl]at this;injection this with this;subst this;exact .off
  by_cases h2:p.2.op.kind=2
  ·obtain⟨hm0,hKk,heq,hl⟩:=hplace h2;refine fin S (k+1) undef hext (fun d u h=>h) ?_ (by omega) (by omega) hl (fun k' p' hp' h1 h2 hno=>hpend k' p' hp' h1 h2 (fun h=>hno (.inl h))) hnone;rw[hT];exact(hinv.eqv heq).eqv (Eqv.set _ _ (some .off))
  ·exact fin S K undef hext (fun d u h=>h) hinv hK0 hKm (hloud' h2) (fun k' p' hp' h1 h2 hno=>hpend k' p' hp' h1 h2 (fun h=>hno (.inl h))) hnone
 ·simp at hrun
end
end
section
theorem zpL{E:Env}{s s':St}{o:O}{r:Option D}(h:opD E s o=some (r,s')){tm:Tm}(hs:Same o.uses s.tm tm):opD E { s with tm:=tm } o=some (r,{ s' with tm:=tm }):=by
 by_cases hk:o.kind<=1
 ·obtain⟨rfl,h2⟩:=Yj hk h;exact h2 _ hs (fun _=>rfl)
 by_cases hk2:o.kind=2
 ·have hx:opX E (fun _ _ _=>none) s o=some (.val r s'):=by cases o<;>first | (simp[O.kind]at hk2;done) | (simp[opD]at h;done) | (simp only[opX,h];rfl)
  have:=zoJ (cf:=fun _ _ _=>none) (fun f ds st q st' tm h=>by simp at h) hk2 hx hs;cases o<;>first | (simp[O.kind]at hk2;done) | (simp[opD]at h;done) | skip
  all_goals
   simp only[opX,zB]at this;obtain⟨⟨a,b⟩,h1,h2⟩:=this;injection h2 with h2 h3;subst h2 h3;exact h1
 cases o<;>first | (exfalso;simp[O.kind]at hk hk2;done) | skip
 case alloc z=>simp only[opD,zBB,zBC]at h ⊢;obtain⟨rfl,rfl⟩:=h;exact⟨rfl,rfl⟩
 case nbl t e=>simp only[opD,zBB,zBC]at h ⊢;obtain⟨rfl,rfl⟩:=h;exact⟨rfl,rfl⟩
 case apr sz by' x=>
  simp only[opD]at h ⊢;rw[yL (E:=E) (x:=x) (tm:=s.tm) hs];rw[zA]at h ⊢;obtain⟨d,hd,h⟩:=h;refine⟨d,hd,?_⟩;rw[zA]at h ⊢;obtain⟨p,hp,h⟩:=h;refine⟨p,hp,?_⟩;split at h
  ·next hc=>
   simp only[zBB,zBC]at h;obtain⟨rfl,rfl⟩:=h;rw[zBu hc];rfl
  ·contradiction
 case mks z bytes n c=>
  simp only[opD]at h ⊢;rw[yL (E:=E) (x:=n) (tm:=s.tm) hs.left,yL (E:=E) (x:=c) (tm:=s.tm) hs.right];split at h
  ·next a b e1 e2=>
   split at h
   ·next hc=>
    simp only[zBB,zBC]at h;obtain⟨rfl,rfl⟩:=h;simp only[zBu hc];rfl
   ·contradiction
  ·contradiction
 case box x=>
  simp only[opD]at h ⊢;rw[yL (E:=E) (x:=x) (tm:=s.tm) hs];rw[zA]at h ⊢;obtain⟨d,hd,h⟩:=h;refine⟨d,hd,?_⟩;split at h
  ·next hc=>
   simp only[zBB,zBC]at h;obtain⟨rfl,rfl⟩:=h;rw[zBu hc];rfl
  ·contradiction
 case store sz a v=>
  simp only[opD]at h ⊢;rw[yL (E:=E) (x:=a) (tm:=s.tm) hs.left,yL (E:=E) (x:=v) (tm:=s.tm) hs.right];rw[zA]at h ⊢;obtain⟨d,hd,h⟩:=h;refine⟨d,hd,?_⟩;rw[zA]at h ⊢;obtain⟨x,hx,h⟩:=h;refine⟨x,hx,?_⟩;split at h
  ·next k off=>
   split at h
   ·next hc=>
    rw[zB]at h;obtain⟨st2,h2,h3⟩:=h;injection h3 with h3 h4;subst h3 h4;simp only[zBu hc,VG,h2];rfl
   ·contradiction
  ·contradiction
 case cpy sz d y=>
  simp only[opD]at h ⊢;rw[yL (E:=E) (x:=d) (tm:=s.tm) hs.left,yL (E:=E) (x:=y) (tm:=s.tm) hs.right];rw[zA]at h ⊢;obtain⟨a,ha,h⟩:=h;refine⟨a,ha,?_⟩;rw[zA]at h ⊢;obtain⟨x,hx,h⟩:=h;refine⟨x,hx,?_⟩;rw[zoW];rw[zA]at h ⊢;obtain⟨p,hp,h⟩:=h;refine⟨p,hp,?_⟩;split at h
  ·split at h
   ·next hc=>
    rw[zB]at h;obtain⟨st2,h2,h3⟩:=h;injection h3 with h3 h4;subst h3 h4;simp only[zBu hc,VG,h2];rfl
   ·contradiction
  ·injection h with h;injection h with h1 h2;subst h1 h2;rfl
  ·contradiction
 case rng x=>
  simp only[opD]at h ⊢;rw[yL (E:=E) (x:=x) (tm:=s.tm) hs];split at h
  ·injection h with h;injection h with h1 h2;subst h1 h2;rfl
  ·contradiction
 case nxt x=>
  simp only[opD]at h ⊢;rw[yL (E:=E) (x:=x) (tm:=s.tm) hs];split at h
  ·split at h
   ·split at h
    ·next hc=>injection h with h;injection h with h1 h2;subst h1 h2;rw[zBu hc];rfl
    ·next hc=>injection h with h;injection h with h1 h2;subst h1 h2;rw[zBt hc]
   ·contradiction
  ·contradiction
 case pan x=>simp[opD]at h
def Rv.tm(tm:Tm):Rv->Rv
 | .val r s => .val r { s with tm:=tm }
 | .pan d s => .pan d { s with tm:=tm }
theorem zpR{E:Env}{cf:Cf}(hc:XC cf){s:St}{o:O}{q:Rv}(h:opX E cf s o=some q){tm:Tm}(hs:Same o.uses s.tm tm):opX E cf { s with tm:=tm } o=some (q.tm tm):=by
 have base : ∀ {o},(∀ st,opX E cf st o=(opD E st o).map fun p => .val p.1 p.2)->opX E cf s o=some q->Same o.uses s.tm tm->opX E cf { s with tm:=tm } o=some (q.tm tm):=by intro o he h hs;rw[he]at h ⊢;rw[zB]at h ⊢;obtain⟨⟨r,s'⟩,h1,rfl⟩:=h;exact⟨_,zpL h1 hs,rfl⟩
 cases o;case call f xs=>simp only[opX,zA,zB]at h ⊢;obtain⟨l,hl,⟨o,st'⟩,hq,rfl⟩:=h;exact⟨l,(XP hs).trans hl,_,hc _ _ _ _ _ tm hq,by cases o<;>rfl⟩
 case callv g xs=>
  simp only[opX]at h ⊢;rw[yL (E:=E) (x:=g) (tm:=s.tm) hs.left];split at h
  ·next f c hg=>
   split at h<;>try contradiction
   next hlt=>rw[zBu hlt];simp only[zA,zB]at h ⊢;obtain⟨l,hl,⟨o,st'⟩,hq,rfl⟩:=h;exact⟨l,(XP hs.right).trans hl,_,hc _ _ _ _ _ tm hq,by cases o<;>rfl⟩
  ·contradiction
 case pan x=>
  simp only[opX]at h ⊢;rw[yL (E:=E) (x:=x) (tm:=s.tm) hs];split at h
  ·injection h with h;subst h;rfl
  ·contradiction
 all_goals exact base (fun _=>rfl) h hs
theorem zzF{E:Env}{cf:Cf}(hf:wH cf){s:St}{o:O}{q:Rv}(h:opX E cf s o=some q):q.st.tm=s.tm:=(Fq.opX hf h).tm
theorem zcO{E:Env}{cf:Cf}(hc:XC cf)(hf:wH cf){c:OpC}{st:St}{q:Rs}(h:opC E cf c st=some q) :
  (∃ (s1:St) (r:Option D),q = .ok (s1.set c.dst r)/\s1.tm=st.tm /\ ∀ tm,Same (xd c) st.tm tm->opC E cf c { st with tm:=tm }=some (.ok (St.set { s1 with tm:=tm } c.dst r))) \/
  (∃ (d:D) (s1:St),q = .pan d s1/\s1.tm=st.tm /\ ∀ tm,Same (xd c) st.tm tm->opC E cf c { st with tm:=tm }=some (.pan d { s1 with tm:=tm })):=by
 unfold opC at h;split at h
 ·next hw=>
  simp only[opR,zB]at h;obtain⟨v,hv,rfl⟩:=h;have htm:=zzF hf hv;have key : ∀ tm,Same (xd c) st.tm tm->opC E cf c { st with tm:=tm }=some (Rv.to c.dst (v.tm tm)):=by intro tm hs;unfold opC;have hw2:yO tm c.gd=some true:=(vu hs).trans hw;simp only[hw2,opR];rw[zpR hc hv (fun t ht=>hs t (List.mem_append_left _ ht))];rfl
  cases v with
  | val r s1=>exact .inl ⟨s1,r,rfl,htm,key⟩
  | pan d s1=>exact .inr ⟨d,s1,rfl,htm,key⟩
 ·next hw=>
  injection h with h;subst h;refine .inl ⟨st,some .off,rfl,rfl,fun tm hs => ?_⟩;unfold opC;have hw2:yO tm c.gd=some false:=(vu hs).trans hw;simp only[hw2];rfl
 ·contradiction
theorem zdQ(Z:List OpC)(tm:Tm)(t:Nat):get (X7 Z tm) t=if writes Z t then none else get tm t:=by
 induction tm with
 | nil=>simp[X7,get]
 | cons p r ih=>
  obtain⟨i,e⟩:=p;simp only[X7];by_cases hi:i=t
  ·subst hi;split
   ·next hw=>rw[ih,zBu hw]
   ·next hw=>simp[get,hw]
  ·split
   ·rw[ih];simp only[get,zBt hi]
   ·simp only[get,zBt hi];exact ih
theorem zhl{Z:List OpC}{z:OpC}{t:Nat}(h:z∈Z)(ht:z.dst=some t):writes Z t=true:=by unfold writes;exact List.any_eq_true.2 ⟨z,h,by rw[ht];simp⟩
theorem jW(s:St)(dst:Option Nat)(r:Option D)(t:Nat):get (s.set dst r).tm t=if dst=some t then r else get s.tm t:=by
 cases dst with
 | none=>cases r<;>simp[St.set,St.put,St.del]
 | some u=>
  cases r with
  | some d=>show get (put s.tm u d) t=_;rw[get_put];simp[eq_comm]
  | none=>show get (del s.tm u) t=_;rw[Zx];simp[eq_comm]
def unl(ops:Array Oper)(listed:Array Bool):Nat:=(List.range ops.size).countP fun i => !listed.getD i true
theorem zpp{α:Type}{l:List α}{f g:α->Bool}(h : ∀ x,g x=true->f x=true){p:α}(hp:p∈l)(hf:f p=true)(hg:g p=false):l.countP g+1<=l.countP f:=by
 induction l with
 | nil=>simp at hp
 | cons x r ih=>
  simp only[List.countP_cons];have hm:r.countP g<=r.countP f:=List.countP_mono_left (fun x _=>h x);rcases List.mem_cons.1 hp with rfl | hp
  ·rw[hf,hg];simp;omega
  ·have:=ih hp;cases hgx:g x with
   | false=>simp;omega
   | true=>rw[h x hgx];simp;omega
theorem zlW{ops:Array Oper}{listed:Array Bool}{i:Nat}(hi:i<ops.size)(hs:listed.size=ops.size)(h:listed.getD i true=false):unl ops (listed.setIfInBounds i true)+1<=unl ops listed:=by
 refine zpp (p:=i) ?_ (List.mem_range.2 hi) (by rw[h];rfl) ?_
 ·intro x hx;by_cases e:i=x
  ·subst e;rw[h];rfl
  ·rw[getD_set_ne true e]at hx;exact hx
 ·have:i<listed.size:=by omega
  simp[this]
theorem zm0{ops:Array Oper}{listed:Array Bool}{i:Nat}(hi:i<ops.size)(h:listed.getD i true=false):1<=unl ops listed:=by unfold unl;exact List.countP_pos_iff.2 ⟨i,List.mem_range.2 hi,by simp only[h];rfl⟩
theorem VJ{o:Oper}{listed:Array Bool}:(∀ e∈o.after,Region.binds .any e=true->listed.getD e.on false=true) ↔ ∀ e∈qc o,listed.getD e false=true:=by
 unfold qc;constructor
 ·intro h e he;obtain⟨x,hx,rfl⟩:=List.mem_map.1 he;rw[List.mem_filter]at hx;exact h x (Array.mem_toList_iff.1 hx.1) hx.2
 ·intro h e he hb;exact h e.on (List.mem_map.2 ⟨e,List.mem_filter.2 ⟨Array.mem_toList_iff.2 he,hb⟩,rfl⟩)
theorem Zm{listed:Array Bool}{i:Nat}(hi:i<listed.size):listed.getD i true=false ↔ ¬ listed.getD i false=true:=by simp[hi]
def ZOk(E:Env)(c:OpC)(st:St):Prop:=
 (yO st.tm c.gd=some true /\ ∃ r,(∀ st2:St,Same c.op.uses st.tm st2.tm->(c.op.kind=1->st2.mem=st.mem)->opD E st2 c.op=some (r,st2)) /\ ∀ t d,c.dst=some t->get st.tm t=some d->r=some d) \/
 (yO st.tm c.gd=some false /\ ∀ t d,c.dst=some t->get st.tm t=some d->d = .off)
theorem ZNow.ok{E:Env}{c:OpC}{st:St}(hk:c.op.kind<=1)(h:ZNow E c st):ZOk E c st:=by
 rcases h with⟨hw,r,h1,h2⟩ | h
 ·exact .inl ⟨hw,r,fun st2 hs hm=>(Yj hk h1).2 st2 hs hm,h2⟩
 ·exact .inr h
theorem ZOk.slots{E:Env}{c:OpC}{st st':St}(hk:c.op.kind=0)(hs:Same (xd c) st.tm st'.tm)(hd : ∀ t,c.dst=some t->get st'.tm t=get st.tm t)(h:ZOk E c st):ZOk E c st':=by
 have hw:=vu hs;rcases h with⟨h0,r,h1,h2⟩ | ⟨h0,h2⟩
 ·refine .inl ⟨hw.trans h0,r,fun st2 hs2 _=>h1 st2 (fun t ht=>(hs2 t ht).trans (hs t (List.mem_append_left _ ht))) (fun h=>by omega),fun t d ht hg=>h2 t d ht ?_⟩;rw[<- hd t ht];exact hg
 ·exact .inr ⟨hw.trans h0,fun t d ht hg=>h2 t d ht (by rw[<- hd t ht];exact hg)⟩
theorem zn9{E:Env}{cf:Cf}{c:OpC}{st:St}{q:Rs}(hs:zmP c.op=true)(hd:c.dst=none)(h:opC E cf c st=some q) :
  ∃ st',q = .ok st'/\st'.tm=st.tm /\ ∀ tm,Same (xd c) st.tm tm->opC E cf c { st with tm:=tm }=some (.ok { st' with tm:=tm }):=by
 obtain⟨dst,op,gd⟩:=c;simp only at hs hd;subst hd;cases op<;>first | (exfalso;simp[zmP]at hs;done) | skip
 next sz x y=>
 unfold opC at h;simp only at h;split at h
 ·next hw=>
  simp only[opR,opX,opD,zB,zA]at h;obtain⟨rv,⟨⟨r',s'⟩,⟨d,hd,z,hz,h⟩,rfl⟩,rfl⟩:=h;split at h
  ·next k off=>
   split at h
   ·next hl=>
    simp only[zB,zBC]at h;obtain⟨s2,hs2,rfl,rfl⟩:=h;refine⟨s2,rfl,?_,fun tm hsm => ?_⟩
    ·have:=VG st st.tm k off z.cells;rw[show({ st with tm:=st.tm }:St)=st from rfl,hs2]at this;simp only[zC,zBB]at this;rw[this]
    ·unfold opC;have hw2:yO tm gd=some true:=(vu (c:=⟨none,.store sz x y,gd⟩) hsm).trans hw;simp only[hw2,opR,opX,opD];have hsm2:Same (x.uses++y.uses) st.tm tm:=fun t ht=>hsm t (List.mem_append_left _ ht)
     rw[yL hsm2.left,yL hsm2.right,hd,hz];simp only[zD];rw[zBu hl,VG,hs2];rfl
   ·simp at h
  ·simp at h
 ·next hw=>
  injection h with h;subst h;refine⟨st,rfl,rfl,fun tm hsm => ?_⟩;unfold opC;have hw2:yO tm gd=some false:=(vu (c:=⟨none,.store sz x y,gd⟩) hsm).trans hw;simp only[hw2];rfl
 ·simp at h
theorem xu{listed:Array Bool}{i:Nat}(hi:i<listed.size)(j:Nat):(listed.setIfInBounds i true).getD j false=true↔listed.getD j false=true\/j=i:=by
 by_cases e:i=j
 ·subst e;simp[hi]
 ·rw[getD_set_ne false e];exact⟨.inl,fun h=>h.resolve_right (fun h=>e h.symm)⟩
theorem ready_nil{ops:Array Oper}(hback : ∀ j o,ops[j]?=some o -> ∀ e∈qc o,e<j){listed:Array Bool}(hls:listed.size=ops.size)(h:Region.ready .any ops listed=[]) : ∀ i,i<ops.size->listed.getD i false=true:=by
 have key : ∀ n i,i<=n->i<ops.size->listed.getD i false=true:=by
  intro n;induction n with
  | zero=>
   intro i hin him;refine Classical.byContradiction fun hl => ?_
   have h0:i=0:=by omega
   subst h0;have hoi:ops[0]?=some ops[0]:=Array.getElem?_eq_getElem (by omega);have:0∈Region.ready .any ops listed:=mem_ready.2 ⟨(Zm (by omega)).2 hl,_,hoi,VJ.2 fun e he=>by have:=hback 0 _ hoi e he;omega⟩;rw[h]at this;simp at this
  | succ n ihn=>
   intro i hin him;refine Classical.byContradiction fun hl => ?_
   have hoi:ops[i]?=some ops[i]:=Array.getElem?_eq_getElem (by omega);have:i∈Region.ready .any ops listed:=mem_ready.2 ⟨(Zm (by omega)).2 hl,_,hoi,VJ.2 fun e he=>by have h1:=hback i _ hoi e he;exact ihn e (by omega) (by omega)⟩;rw[h]at this;simp at this
 exact fun i hi=>key i i (zR _) hi
section
variable {P:Program} {E:Env} {cf:Cf} {ti:Ti} {nt:Nat} {ops:Array Oper}
variable (hti:yS P ti) (hq:wH cf) (hcf:zag P E cf)
theorem zn0{M:List Nat}{Z F rs r:List (Nat×OpC)}(h:zqh M Z F rs r=true){p:Nat×OpC}(hp:p∈r) : ∀ q∈F,(M.getD p.1 0).testBit q.1=true:=by
 induction r with
 | nil=>simp at hp
 | cons x r ih=>
  simp only[zqh,zG,List.all_eq_true]at h;rcases List.mem_cons.1 hp with rfl | hp
  ·exact h.1.1.1.1
  ·exact ih h.2 hp
theorem znq{M:List Nat}{l:List (Nat×OpC)}{c:Nat×OpC}(h:kw M (l++[c])=true):kw M l=true /\ ∀ p∈l,ka M p c=true:=by
 induction l with
 | nil=>exact⟨rfl,fun p hp=>by simp at hp⟩
 | cons x r ih=>
  simp only[List.cons_append,kw,zG,List.all_append,List.all_cons,List.all_nil,Bool.and_true]at h ⊢;obtain⟨⟨h1,h2,h3⟩,h4⟩:=h;obtain⟨h5,h6⟩:=ih h4;refine⟨⟨⟨h1,h2⟩,h5⟩,fun p hp => ?_⟩;rcases List.mem_cons.1 hp with rfl | hp
  ·exact h3
  ·exact h6 p hp
theorem zar{E:Env}{cf:Cf}{l:List OpC}{st:St}{q:D×St}(h:panLast E cf l st=some q) : ∃ x c s2,l=x++[c]/\runStill E cf x st=some s2/\opC E cf c s2=some (.pan q.1 q.2):=by
 induction l generalizing st with
 | nil=>simp[panLast]at h
 | cons o l ih=>
  simp only[panLast]at h;split at h
  ·next s he=>
   split at h
   ·next hm=>
    obtain⟨x,c,s2,rfl,h1,h2⟩:=ih h;exact⟨o::x,c,s2,rfl,by simp only[runStill,he,hm,zBv];exact h1,h2⟩
   ·simp at h
  ·next d s he=>
   cases l with
   | nil=>injection h with h;subst h;exact⟨[],o,st,rfl,rfl,he⟩
   | cons a b=>simp at h
  ·simp at h
theorem zoT{l0 fs rs:List (Nat×OpC)}{Y ZL:List OpC}{st:St}{S:G}{a:Act}{listed:Array Bool}{r:Rs}{Q:Exit->Act->World->Prop}(hall : ∀ i,i<ops.size->listed.getD i false=true)(htr : ∀ p∈fs++rs,∃ o,ops[p.1]?=some o/\X4 ti nt ops o=some p.2)(hnl : ∀ p∈fs++rs,¬ listed.getD p.1 false=true)
  (hi:Inv S st) (hfr : ∀ t d,get st.tm t=some d->(∀ z∈l0,¬ listed.getD z.1 false=true->z.2.dst≠some t) -> ∃ v,a.tmps[t]?=some v/\Rep S d v) (hrun:runB E cf Y ZL (fs.map (·.2)) (rs.map (·.2)) st=some r) (hQ:AfterR S a r Q) (hZtr : ∀ z∈l0,∃ o,ops[z.1]?=some o/\X4 ti nt ops o=some z.2):Q .normal a S.w:=by
 have hno : ∀ p∈fs++rs,False:=fun p hp=>by obtain⟨o,ho,_⟩:=htr p hp;exact hnl p hp (hall _ (Array.getElem?_eq_some_iff.1 ho).1)
 cases fs with
 | cons p fs=>exact(hno p (by simp)).elim
 | nil=>
 cases rs with
 | cons p rs=>exact(hno p (by simp)).elim
 | nil=>injection hrun with hrun;subst hrun;refine hQ S a (.refl S) hi (fun t d ht=>hfr t d ht fun z hzm hzn => ?_) rfl rfl;obtain⟨o,ho,_⟩:=hZtr z hzm;exact(hzn (hall _ (Array.getElem?_eq_some_iff.1 ho).1)).elim
theorem zgK{a b:Option Nat}(h:zk5 a b=true){t:Nat}(ha:a=some t):b≠some t:=by rintro rfl;subst ha;simp[zk5]at h
theorem zqr(hti:yS P ti)(hq:wH cf)(hcf:zag P E cf)(hct:XC cf){M:List Nat}(hM:Bel ops M)(hback : ∀ j o,ops[j]?=some o -> ∀ e∈qc o,e<j){l0 F:List (Nat×OpC)}(hZtr : ∀ z∈l0,∃ o,ops[z.1]?=some o/\X4 ti nt ops o=some z.2)(hZk : ∀ z∈l0,z.2.op.kind<=1)
  (hZp : ∀ z∈l0,∀ z'∈l0,∀ t,z'.2.dst=some t->t∈xd z.2->(M.getD z.1 0).testBit z'.1=true) {Y ZL:List OpC} (hY : ∀ z∈l0,z.2∈Y) (hZL : ∀ z∈l0,z.2.op.kind=1->z.2∈ZL) {r:Rs} (Q:Exit->Act->World->Prop) :
  ∀ (fuel:Nat) (fs rs:List (Nat×OpC)) (st:St) (S:G) (a:Act) (listed:Array Bool),zqh M l0 F rs fs=true->zbH M l0 F rs=true->(∀ p∈fs++rs,∃ o,ops[p.1]?=some o/\X4 ti nt ops o=some p.2)->(∀ z∈l0,∀ p∈fs++rs,z.1≠p.1) ->
   (∀ i,i<ops.size->listed.getD i false=true\/(∃ p∈fs++rs,p.1=i) \/ ∃ z∈l0,z.1=i)->(∀ p∈fs++rs,¬ listed.getD p.1 false=true)->Closed ops (fun i=>listed.getD i false=true)->Inv S st->GlOk S E ->
   (∀ t d,get st.tm t=some d->(∀ z∈l0,¬ listed.getD z.1 false=true->z.2.dst≠some t) -> ∃ v,a.tmps[t]?=some v/\Rep S d v)->(∀ z∈l0,¬ listed.getD z.1 false=true->ZOk E z.2 st)->nt<=a.tmps.size ->
   runB E cf Y ZL (fs.map (·.2)) (rs.map (·.2)) st=some r->AfterR S a r Q->listed.size=ops.size->unl ops listed<=fuel->wpAny P .any ops Q fuel listed a S.w:=by
 intro fuel;induction fuel with
 | zero=>
  intro fs rs st S a listed hfo hro htr hdis hcov hnl hcl hi hg hfr hz hn hrun hQ hls hunl;have hall : ∀ i,i<ops.size->listed.getD i false=true:=by
   intro i hi;refine Classical.byContradiction fun h => ?_
   have:=zm0 hi ((Zm (by omega)).2 h);omega
  refine⟨?_,zoT hall htr hnl hi hfr hrun hQ hZtr⟩;apply List.eq_nil_iff_forall_not_mem.2;intro i hi2;obtain⟨h1,o,ho,_⟩:=mem_ready.1 hi2;have hlt:i<ops.size:=(Array.getElem?_eq_some_iff.1 ho).1;exact(Zm (by omega)).1 h1 (hall i hlt)
 | succ fuel ih=>
  intro fs rs st S a listed hfo hro htr hdis hcov hnl hcl hi hg hfr hz hn hrun hQ hls hunl;refine⟨fun h=>zoT (ready_nil hback hls h) htr hnl hi hfr hrun hQ hZtr,fun i hi2 => ?_⟩;obtain⟨h1,oi,hoi,h2⟩:=mem_ready.1 hi2;have h2:=VJ.1 h2;have hlt:i<ops.size:=(Array.getElem?_eq_some_iff.1 hoi).1;have hil:i<listed.size:=by omega
  have hnl1:=(Zm hil).1 h1;have hu:=zlW hlt hls h1;have ahead : ∀ j,(M.getD i 0).testBit j=true->listed.getD j false=true:=fun j hj=>hM i oi j hoi hj _ hcl h2
  have hcl':Closed ops (fun j=>(listed.setIfInBounds i true).getD j false=true):=by
   intro j o hj hD e he;rcases(xu hil j).1 hD with h | rfl
   ·exact(xu hil e).2 (.inl (hcl j o hj h e he))
   ·rw[hoi]at hj;injection hj with hj;subst hj;exact(xu hil e).2 (.inl (h2 e he))
  -- the head of what is left
  have head : ∀ {p0:Nat×OpC} {rest:List (Nat×OpC)},fs++rs=p0::rest->(∀ q∈rest,q.1≠p0.1)->p0.1=i ->
    (∀ j,j<ops.size->(listed.setIfInBounds i true).getD j false=true\/(∃ q∈rest,q.1=j) \/ ∃ z∈l0,z.1=j)/\(∀ q∈rest,¬ (listed.setIfInBounds i true).getD q.1 false=true) /\
    (∀ z∈l0,¬ listed.getD z.1 false=true -> ¬ (listed.setIfInBounds i true).getD z.1 false=true):=by
   intro p0 rest he hne hp;subst hp;refine⟨fun j hj => ?_,fun q hq h => ?_,fun z hzm h h' => ?_⟩
   ·rcases hcov j hj with h | ⟨q,hq,rfl⟩ | h
    ·exact .inl ((xu hil j).2 (.inl h))
    ·rw[he]at hq;rcases List.mem_cons.1 hq with rfl | hq
     ·exact .inl ((xu hil _).2 (.inr rfl))
     ·exact .inr (.inl ⟨q,hq,rfl⟩)
    ·exact .inr (.inr h)
   ·rcases(xu hil _).1 h with h | h
    ·exact hnl q (by rw[he];simp[hq]) h
    ·exact hne q hq h
   ·rcases(xu hil _).1 h' with h' | h'
    ·exact h h'
    ·exact hdis z hzm p0 (by rw[he];simp) h'
  have hpn : ∀ z∈l0,¬ (listed.setIfInBounds i true).getD z.1 false=true -> ¬ listed.getD z.1 false=true:=fun z _ h h'=>h ((xu hil _).2 (.inl h'))
  rcases hcov i hlt with h | ⟨p,hp,rfl⟩ | ⟨z,hzm,rfl⟩
  ·exact(hnl1 h).elim
  ·cases fs with
   | cons p0 fs=>
    have hfo0:=hfo;simp only[zqh,zG,List.all_eq_true]at hfo;obtain⟨⟨⟨⟨_,hzb⟩,hord⟩,hany⟩,hfo'⟩:=hfo;have hp0:p=p0:=by
     rcases List.mem_cons.1 (show p∈p0::(fs++rs)from hp)with h | h
     ·exact h
     ·exact(hnl p0 (by simp) (ahead _ (hord p h))).elim
    subst hp0;obtain⟨o,ho,hc⟩:=htr p (by simp);have hne : ∀ q∈fs++rs,q.1≠p.1:=by intro q hq e;have:((fs++rs).any fun q=>Nat.beq q.1 p.1)=true:=List.any_eq_true.2 ⟨q,hq,by simp[e]⟩;rw[this]at hany;simp at hany
    obtain⟨hcov',hnl',hpn2⟩:=head rfl hne rfl;have hfl : ∀ z∈l0,¬ listed.getD z.1 false=true->zhC p.2 z.2=true:=by
     intro z hzm h;have:=hzb z hzm;rw[zCc]at this;rcases this with h' | h'
     ·exact(h (ahead _ h')).elim
     ·exact h'
    have hfr2:FrameRep S (kept (xd p.2) st.tm) a.tmps:=by
     intro t d ht;rw[vy]at ht;split at ht
     ·next hus=>
      refine hfr t d ht (fun z hzm hzn hzd => ?_);have h4:=hfl z hzm hzn;simp only[zhC,zG,hzd,Wt]at h4;rw[hus]at h4;simp at h4
     ·simp at ht
    simp only[runB,List.map_cons,runFl]at hrun;have hdst:=(VK hc).1;have hdok:=(VK hc).2.1;split at hrun
    ·next s3 hfl3=>
     split at hfl3
     ·next st' he=>
      split at hfl3
      ·next hchk=>
       rcases zcO hct hq he with⟨s1,rr,e1,e2,e3⟩ | ⟨d,s1,e1,_⟩
       ·injection e1 with e1;subst e1;refine jk hti (hi.tm (kept (xd p.2) st.tm)) hg hcf hq hfr2 ho hc hn (e3 _ Same.kept) _ Q ?_;intro S' v hext hi' hf';have hi2:Inv S' (s1.set p.2.dst rr):=(hi'.eqv ((Eqv.set _ _ _).symm.trans (Eqv.tm s1 _).symm)).eqv (Eqv.set _ _ _);refine ih fs rs (s1.set p.2.dst rr) S' _ _ hfo' hro (fun q hq=>htr q (by simp only[List.cons_append,zS];exact .inr hq)) (fun z hzm q hq=>hdis z hzm q (by simp only[List.cons_append,zS];exact .inr hq)) hcov' hnl' hcl' hi2 (hg.ext hext) ?_ ?_ (by rw[wF];exact hn) (by simp only[runB,hfl3];exact hrun) (hQ.shift hext (wF _ _ _) (put_defers _ _ _)) (by simpa using hls) (by omega)
        ·intro t d ht hno;rw[jW]at ht;split at ht
         ·next hdt=>
          refine hf' t d ?_;show get (St.set { s1 with tm:=kept (xd p.2) st.tm } p.2.dst rr).tm t=some d;rw[jW,zBu hdt];exact ht
         ·next hdt=>
          rw[e2]at ht;obtain⟨u,hu1,hu2⟩:=hfr t d ht (fun z hzm hzn=>hno z hzm (hpn2 z hzm hzn));exact⟨u,by rw[jj _ _ _ (by rw[<- hdst];exact hdt)];exact hu1,hu2.ext hext⟩
        ·intro z hzm hzn;have hzn:=hpn z hzm hzn;by_cases hk:z.2.op.kind=1
         ·exact(hchk z.2 (hZL z hzm hk)).ok (hZk z hzm)
         ·have h4:=hfl z hzm hzn;simp only[zhC,zG]at h4;refine(hz z hzm hzn).slots (by have:=hZk z hzm;omega) (fun t ht => ?_) (fun t ht => ?_)
          ·rw[jW,zBt,e2];intro e;have h5:=h4.2;rw[e]at h5;simp[Wt,kD.2 ht]at h5
          ·rw[jW,zBt,e2];intro e;exact zgK h4.1.2 e ht
       ·cases e1
      ·cases hfl3
     ·cases hfl3
     ·cases hfl3
    ·next hne3=>
     split at hrun
     ·next st' he=>
      split at hrun
      ·next hchk=>
       rcases zcO hct hq he with⟨s1,rr,e1,e2,e3⟩ | ⟨d,s1,e1,_⟩
       ·injection e1 with e1;subst e1;refine jk hti (hi.tm (kept (xd p.2) st.tm)) hg hcf hq hfr2 ho hc hn (e3 _ Same.kept) _ Q ?_;intro S' v hext hi' hf';have hi2:Inv S' (s1.set p.2.dst rr):=(hi'.eqv ((Eqv.set _ _ _).symm.trans (Eqv.tm s1 _).symm)).eqv (Eqv.set _ _ _);have hrun2:runB E cf Y ZL (fs.map (·.2)) (rs.map (·.2)) (s1.set p.2.dst rr)=some r:=by
         unfold runB;rw[hrun];cases r with
         | ok s3=>exact(hne3 s3 (by simp only[he,zBu hchk];exact hrun)).elim
         | pan d s=>rfl
        refine ih fs rs (s1.set p.2.dst rr) S' _ _ hfo' hro (fun q hq=>htr q (by simp only[List.cons_append,zS];exact .inr hq)) (fun z hzm q hq=>hdis z hzm q (by simp only[List.cons_append,zS];exact .inr hq)) hcov' hnl' hcl' hi2 (hg.ext hext) ?_ ?_ (by rw[wF];exact hn) hrun2 (hQ.shift hext (wF _ _ _) (put_defers _ _ _)) (by simpa using hls) (by omega)
        ·intro t d ht hno;rw[jW]at ht;split at ht
         ·next hdt=>
          refine hf' t d ?_;show get (St.set { s1 with tm:=kept (xd p.2) st.tm } p.2.dst rr).tm t=some d;rw[jW,zBu hdt];exact ht
         ·next hdt=>
          rw[e2]at ht;obtain⟨u,hu1,hu2⟩:=hfr t d ht (fun z hzm hzn=>hno z hzm (hpn2 z hzm hzn));exact⟨u,by rw[jj _ _ _ (by rw[<- hdst];exact hdt)];exact hu1,hu2.ext hext⟩
        ·intro z hzm hzn;have hzn:=hpn z hzm hzn;by_cases hk:z.2.op.kind=1
         ·exact(hchk z.2 (hZL z hzm hk)).ok (hZk z hzm)
         ·have h4:=hfl z hzm hzn;simp only[zhC,zG]at h4;refine(hz z hzm hzn).slots (by have:=hZk z hzm;omega) (fun t ht => ?_) (fun t ht => ?_)
          ·rw[jW,zBt,e2];intro e;have h5:=h4.2;rw[e]at h5;simp[Wt,kD.2 ht]at h5
          ·rw[jW,zBt,e2];intro e;exact zgK h4.1.2 e ht
       ·cases e1
      ·cases hrun
     ·next d s1' he=>
      injection hrun with hrun;subst hrun;rcases zcO hct hq he with⟨s1,rr,e1,_⟩ | ⟨d',s1,e1,e2,e3⟩
      ·cases e1
      ·injection e1 with e1 e1';subst e1 e1';refine jk hti (hi.tm (kept (xd p.2) st.tm)) hg hcf hq hfr2 ho hc hn (e3 _ Same.kept) _ Q ?_;intro S' v hext hi' hf' hr;refine hQ S' a v hext (hi'.eqv ((Eqv.tm s1' _).symm.trans (Eqv.tm s1' _))) ?_ rfl rfl hr;intro t d2 ht;have ht:get (X7 Y s1'.tm) t=some d2:=ht;rw[zdQ]at ht;split at ht
       ·contradiction
       ·next hw=>
        rw[e2]at ht;obtain⟨u,hu1,hu2⟩:=hfr t d2 ht (fun z hzm _ hzd=>hw (zhl (hY z hzm) hzd));exact⟨u,hu1,hu2.ext hext⟩
     ·cases hrun
   | nil=>
   have hrun:runOps E cf (rs.map (·.2)) st=some r:=hrun;cases rs with
   | nil=>simp at hp
   | cons p0 rs=>
    have hro0:=hro;simp only[zbH,zG,List.all_eq_true]at hro;have hp0:p=p0:=by
     rcases List.mem_cons.1 hp with h | h
     ·exact h
     ·exact(hnl p0 (by simp) (ahead _ (hro.1.1.2 p h))).elim
    subst hp0;obtain⟨o,ho,hc⟩:=htr p (by simp);simp only[List.map_cons,runOps]at hrun;have hne : ∀ q∈rs,q.1≠p.1:=by intro q hq e;have h3:=hro.1.2;have:(rs.any fun q=>Nat.beq q.1 p.1)=true:=List.any_eq_true.2 ⟨q,hq,by simp[e]⟩;rw[this]at h3;simp at h3
    obtain⟨hcov',hnl',hpn2⟩:=head rfl hne rfl;by_cases hpend : ∃ z∈l0,¬ listed.getD z.1 false=true
    ·have hfl : ∀ z∈l0,¬ listed.getD z.1 false=true->KU p.2 z.2=true:=by
      intro z hzm h;rcases(zbW hro0 (p:=p) (by simp)).2 z hzm with h' | h'
      ·exact(h (ahead _ h')).elim
      ·exact h'
     obtain⟨z0,hz0,hz0n⟩:=hpend;have h3:=hfl z0 hz0 hz0n;simp only[KU,zG]at h3;have hpd:p.2.dst=none:=by simpa using h3.1.1.2
     have hod:o.dst=none:=by rw[<- (VK hc).1];exact hpd
     split at hrun
     ·next st' he=>
      obtain⟨st'',e1,e2,e3⟩:=zn9 h3.1.1.1 hpd he;injection e1 with e1;subst e1;have hfr2:FrameRep S (kept (xd p.2) st.tm) a.tmps:=by
       intro t d ht;rw[vy]at ht;split at ht
       ·next hus=>
        refine hfr t d ht (fun z hzm hzn hzd => ?_);have h4:=hfl z hzm hzn;simp only[KU,zG,hzd,Wt]at h4;rw[hus]at h4;simp at h4
       ·simp at ht
      refine jk hti (hi.tm (kept (xd p.2) st.tm)) hg hcf hq hfr2 ho hc hn (e3 _ Same.kept) _ Q ?_;intro S' v hext hi' _;refine ih [] rs st' S' _ _ rfl hro.2 (fun q hq=>htr q (by simp only[List.nil_append]at hq ⊢;simp[hq])) (fun z hzm q hq=>hdis z hzm q (by simp only[List.nil_append]at hq ⊢;simp[hq])) hcov' hnl' hcl' (hi'.tm st'.tm) (hg.ext hext) ?_ ?_ (by rw[wF];exact hn) hrun (hQ.shift hext (wF _ _ _) (put_defers _ _ _)) (by simpa using hls) (by omega)
      ·intro t d ht hno;rw[e2]at ht;obtain⟨u,hu1,hu2⟩:=hfr t d ht (fun z hzm hzn=>hno z hzm (hpn2 z hzm hzn));exact⟨u,by rw[hod];exact hu1,hu2.ext hext⟩
      ·intro z hzm hzn;have hzn:=hpn z hzm hzn;have h4:=hfl z hzm hzn;simp only[KU,zG]at h4;exact(hz z hzm hzn).slots (by simpa using h4.2) (fun t _=>by rw[e2]) (fun t _=>by rw[e2])
     ·next hne2=>
      obtain⟨st'',e1,_,_⟩:=zn9 h3.1.1.1 hpd hrun;subst e1;exact(hne2 _ hrun).elim
    ·have hzl : ∀ z∈l0,listed.getD z.1 false=true:=fun z hzm=>Classical.byContradiction fun h=>hpend ⟨z,hzm,h⟩
     have hf:FrameRep S st.tm a.tmps:=fun t d ht=>hfr t d ht (fun z hzm hzn=>(hzn (hzl z hzm)).elim)
     split at hrun
     ·next st' he=>
      refine jk hti hi hg hcf hq hf ho hc hn he _ Q ?_;intro S' v hext hi' hf';refine ih [] rs st' S' _ _ rfl hro.2 (fun q hq=>htr q (by simp only[List.nil_append]at hq ⊢;simp[hq])) (fun z hzm q hq=>hdis z hzm q (by simp only[List.nil_append]at hq ⊢;simp[hq])) hcov' hnl' hcl' hi' (hg.ext hext) (fun t d ht _=>hf' t d ht) (fun z hzm hzn=>(hpn z hzm hzn (hzl z hzm)).elim) (by rw[wF];exact hn) hrun (hQ.shift hext (wF _ _ _) (put_defers _ _ _)) (by simpa using hls) (by omega)
     ·next hne=>
      cases r with
      | ok st'=>exact(hne st' hrun).elim
      | pan d st'=>refine jk hti hi hg hcf hq hf ho hc hn hrun _ Q ?_;intro S' v hext hi' hf' hr;exact hQ S' a v hext hi' hf' rfl rfl hr
  ·obtain⟨o,ho,hc⟩:=hZtr z hzm;obtain⟨hdst,hdok,_,_⟩:=VK hc;have hfr2:FrameRep S (kept (xd z.2) st.tm) a.tmps:=by
    intro t d ht;rw[vy]at ht;split at ht
    ·next hus=>
     refine hfr t d ht (fun z' hzm' hzn hzd => ?_);exact hzn (ahead _ (hZp z hzm z' hzm' t hzd (kD.1 hus)))
    ·simp at ht
   have hsame:Same (xd z.2) st.tm (kept (xd z.2) st.tm):=Same.kept;have hrun2 : ∃ r2,opC E cf z.2 { st with tm:=kept (xd z.2) st.tm }=some (.ok (St.set { st with tm:=kept (xd z.2) st.tm } z.2.dst r2)) /\ ∀ t d,z.2.dst=some t->get st.tm t=some d->r2=some d:=by
    have hk:=hZk z hzm;rcases hz z hzm hnl1 with⟨hw,r2,hall,hv⟩ | ⟨hw,hv⟩
    ·refine⟨r2,?_,hv⟩;unfold opC;have:yO (kept (xd z.2) st.tm) z.2.gd=some true:=(vu hsame).trans hw;simp only[this,opR];rw[zi3 (by omega) (by omega) (hall { st with tm:=kept (xd z.2) st.tm } (fun t ht=>hsame t (List.mem_append_left _ ht)) (fun _=>rfl))];rfl
    ·refine⟨some .off,?_,fun t d h1 h2=>by rw[hv t d h1 h2]⟩;unfold opC;have:yO (kept (xd z.2) st.tm) z.2.gd=some false:=(vu hsame).trans hw;simp only[this];rfl
   obtain⟨r2,hrun2,hv2⟩:=hrun2;refine jk hti (hi.tm (kept (xd z.2) st.tm)) hg hcf hq hfr2 ho hc hn hrun2 _ Q ?_;intro S' v hext hi' hf';have hi'':Inv S' st:=((hi'.eqv (Eqv.set _ _ _).symm).eqv (Eqv.tm st _).symm)
   refine ih fs rs st S' _ _ hfo hro htr hdis ?_ ?_ hcl' hi'' (hg.ext hext) ?_ ?_ (by rw[wF];exact hn) hrun (hQ.shift hext (wF _ _ _) (put_defers _ _ _)) (by simpa using hls) (by omega)
   ·intro j hj;rcases hcov j hj with h | h | h
    ·exact .inl ((xu hil j).2 (.inl h))
    ·exact .inr (.inl h)
    ·exact .inr (.inr h)
   ·intro p hp h;rcases(xu hil _).1 h with h | h
    ·exact hnl p hp h
    ·exact hdis z hzm p hp h.symm
   ·intro t d ht hno;by_cases e:z.2.dst=some t
    ·have h5:=hv2 t d e ht;refine hf' t d ?_;rw[e,h5];show get (put _ t d) t=_;rw[get_put,zBu rfl]
    ·obtain⟨u,hu1,hu2⟩:=hfr t d ht (fun z' hzm' hzn hzd=>by
      refine hno z' hzm' (fun h => ?_) hzd;rcases(xu hil _).1 h with h | h
      ·exact hzn h
      ·obtain⟨o',ho',hc'⟩:=hZtr z' hzm';rw[h,ho]at ho';injection ho' with ho';subst ho';rw[hc]at hc';injection hc' with hc';exact e (by rw[hc'];exact hzd))
     exact⟨u,by rw[jj _ _ _ (by rw[<- hdst];exact e)];exact hu1,hu2.ext hext⟩
   ·intro z' hzm' hzn;exact hz z' hzm' (fun h=>hzn ((xu hil _).2 (.inl h)))
variable {S0:G} {st0:St} {M:List Nat} {L:List (Nat×OpC)} {T:Nat->St} {c0 m0 m:Nat} {a:Act}
variable (hd:Drw P E cf ti nt ops S0 st0 M L T c0 m0 m) (hct:XC cf) (hg0:GlOk S0 E) (hown : ∀ b,S0.ρ b<=S0.nx) (hnm : ∀ k,c0<=k->k<m0->S0.nx<=(T k).nx) (hn:nt<=a.tmps.size)
theorem Drw.zok(hq:wH cf)(hd:Drw P E cf ti nt ops S0 st0 M L T c0 m0 m){k:Nat}{p:Nat×OpC}(hp:L[k]?=some p)(k0:p.2.op.kind<=1):ZOk E p.2 (T m):=by
 have hkm:=hd.lt hp;have hs:Same (xd p.2) (T m).tm (T k).tm:=by
  intro t ht;have:=hd.keep hq (t:=t) (k:=k) (j:=m-k) (by omega) (fun k' q h1 h2 hq' hdst=>by
   by_cases e:k'=k
   ·subst e;rw[hp]at hq';injection hq' with hq';subst hq';have:=QX hd.pairs hp;rw[hdst,qT.2 ht]at this;simp at this
   ·have:=jD hd.pairs hp hq' (by omega);simp only[ka,zG,hdst,qT.2 ht]at this;simp at this)
  rw[show k+(m-k)=m by omega]at this;exact this.symm
 have hmem:p.2.op.kind=1->(T m).mem=(T k).mem:=fun h1=>by
  have hm0:m0<=k:=by
   rcases zBD k m0 with h | h
   ·rcases zBD k c0 with h' | h'
    ·have:=hd.k0 k p hp h';omega
    ·have:=(hd.kc k p hp h' h).1;omega
   ·exact h
  have:=hd.m0m;rw[hd.mem m (by omega) (zR _),hd.mem k hm0 (by omega)]
 have hrun:=hd.run k p hp;unfold opC at hrun;rw[vu hs]at hrun;split at hrun
 ·next hw=>
  refine .inl ⟨hw,?_⟩;simp only[opR,zB]at hrun;obtain⟨q,hq1,hq2⟩:=hrun;obtain⟨r,s,rfl,hop⟩:=zgv (by omega) (by omega) hq1;obtain⟨rfl,hall⟩:=Yj (by omega) hop;refine⟨r,fun st2 h2 hm2=>hall st2 (fun t ht=>(h2 t ht).trans (hs t (List.mem_append_left _ ht)).symm) (fun h1=>(hm2 h1).trans (hmem h1)),fun t d ht hget => ?_⟩;injection hq2 with hq2;rw[<- hd.keep_dst hq hp ht (zCf k) (by omega),<- hq2,ht]at hget;cases r with
  | none=>have:get (del (T k).tm t) t=some d:=hget;rw[Zx,zBu rfl]at this;simp at this
  | some e=>have:get (put (T k).tm t e) t=some d:=hget;rw[get_put,zBu rfl]at this;exact this
 ·next hw=>
  refine .inr ⟨hw,fun t d ht hget => ?_⟩;injection hrun with hrun;injection hrun with hrun;rw[<- hd.keep_dst hq hp ht (zCf k) (by omega),<- hrun,ht]at hget;have:get (put (T k).tm t .off) t=some d:=hget;rw[get_put,zBu rfl]at this;injection this with this;exact this.symm
 ·simp at hrun
theorem zn8(hti:yS P ti)(hq:wH cf)(hcf:zag P E cf)(hd:Drw P E cf ti nt ops S0 st0 M L T c0 m0 m)(hct:XC cf)(hg0:GlOk S0 E)(hown : ∀ b,S0.ρ b<=S0.nx)(hnm : ∀ k,c0<=k->k<m0->S0.nx<=(T k).nx)(hn:nt<=a.tmps.size)(hback : ∀ j o,ops[j]?=some o -> ∀ e∈qc o,e<j){l0 F fs rs:List (Nat×OpC)}(hZ : ∀ z,z∈l0↔z∈L/\z.2.op.kind<=1)(hF : ∀ z,z∈F↔z∈L /\ ¬ z.2.op.kind<=1)(hfo:zqh M l0 F rs fs=true)(hro:zbH M l0 F rs=true)(hrtr : ∀ p∈fs++rs,∃ o,ops[p.1]?=some o/\X4 ti nt ops o=some p.2)
  (hdis : ∀ z∈L,∀ p∈fs++rs,z.1≠p.1) (hcov : ∀ i,i<ops.size->(∃ p∈L,p.1=i) \/ ∃ p∈fs++rs,p.1=i) {Y ZL:List OpC} (hY : ∀ z∈L,z.2∈Y) (hZL : ∀ z∈L,z.2.op.kind=1->z.2∈ZL) {r:Rs} (Q:Exit->Act->World->Prop)
  (hrun:runB E cf Y ZL (fs.map (·.2)) (rs.map (·.2)) (T m)=some r) (hQ:AfterR S0 a r Q) :
  ∀ (fuel:Nat) (a':Act) (w':World) (listed:Array Bool),listed.size=ops.size->At S0 st0 ops L T c0 m0 m a (fun i=>listed.getD i false=true) a' w'->(∀ p∈fs++rs,¬ listed.getD p.1 false=true)->unl ops listed<=fuel->wpAny P .any ops Q fuel listed a' w':=by
 have hget : ∀ {p:Nat×OpC},p∈L -> ∃ k:Nat,L[k]?=some p:=fun hp=>List.mem_iff_getElem?.1 hp
 have h0 : ∀ {z:Nat×OpC},z∈l0 -> ∃ k:Nat,L[k]?=some z:=fun hz=>hget ((hZ _).1 hz).1
 have hgo : ∀ (fuel:Nat) (a':Act) (w':World) (listed:Array Bool),listed.size=ops.size->At S0 st0 ops L T c0 m0 m a (fun i=>listed.getD i false=true) a' w'->(∀ p∈fs++rs,¬ listed.getD p.1 false=true)->unl ops listed<=fuel ->
   (∀ p∈F,listed.getD p.1 false=true)->wpAny P .any ops Q fuel listed a' w':=by
  intro fuel a' w' listed hls hat hno hunl hall;obtain⟨S,K,rfl,hext,hsz,hdf,hcl,hK0,hKm,hloud,hinv,hpend,hs1,hs2⟩:=hat;refine zqr hti hq hcf hct hd.bel hback (l0:=l0) (F:=F) (fun z hz => ?_) (fun z hz => ?_) (fun z hz z' hz' t ht hu => ?_) (fun z hz=>hY z ((hZ z).1 hz).1) (fun z hz=>hZL z ((hZ z).1 hz).1) Q fuel fs rs (T m) S a' listed hfo hro hrtr (fun z hz p hp=>hdis z ((hZ z).1 hz).1 p hp) (fun i hi => ?_) hno hcl ?_ (hg0.ext hext) ?_ (fun z hz _ => ?_) (by omega) hrun (hQ.shift hext hsz hdf) hls hunl
  ·obtain⟨k,hk⟩:=h0 hz;exact hd.tr k z hk
  ·exact((hZ z).1 hz).2
  ·obtain⟨k,hk⟩:=h0 hz;obtain⟨k',hk'⟩:=h0 hz';rcases Nat.lt_trichotomy k' k with h | h | h
   ·have:=jD hd.pairs hk' hk h;simp only[ka,zG,ht,qT.2 hu]at this;have:=this.1.2;simpa using this
   ·subst h;rw[hk]at hk';injection hk' with hk';subst hk';have:=QX hd.pairs hk;rw[ht,qT.2 hu]at this;simp at this
   ·have:=jD hd.pairs hk hk' h;simp only[ka,zG,ht,qT.2 hu]at this;simp at this
  ·rcases hcov i hi with⟨p,hp,rfl⟩ | h
   ·by_cases hk:p.2.op.kind<=1
    ·exact .inr (.inr ⟨p,(hZ p).2 ⟨hp,hk⟩,rfl⟩)
    ·exact .inl (hall p ((hF p).2 ⟨hp,hk⟩))
   ·exact .inr (.inl h)
  ·have:=hd.still hq (k:=K) (j:=m-K) (by omega) (fun k' p' h3 h4 hp'=>by
    have h5:=hd.k1 k' p' hp' (by omega);have h6:p'.2.op.kind≠2:=fun h7=>by have:=(hloud k' p' hp' (by omega) h7).1 (hall _ ((hF p').2 ⟨List.mem_of_getElem? hp',by omega⟩));omega
    omega)
   have e:K+(m-K)=m:=by omega
   rw[e]at this;exact hinv.eqv this
  ·intro t d ht hnz;by_cases hex : ∃ (k':Nat) (p':Nat×OpC),L[k']?=some p'/\p'.2.dst=some t
   ·obtain⟨k',p',hp',ht'⟩:=hex;refine hs2 k' p' t d hp' ?_ ht' ht;by_cases h:p'.2.op.kind<=1
    ·refine Classical.byContradiction fun hn' => ?_
     exact hnz p' ((hZ p').2 ⟨List.mem_of_getElem? hp',h⟩) hn' ht'
    ·exact hall p' ((hF p').2 ⟨List.mem_of_getElem? hp',h⟩)
   ·refine hs1 t d (fun k' p' hp' ht'=>hex ⟨k',p',hp',ht'⟩) ?_;rw[<- hd.keep_other hq (zR m) (fun k' p' hp' ht'=>hex ⟨k',p',hp',ht'⟩)];exact ht
  ·obtain⟨k,hk⟩:=h0 hz;exact hd.zok hq hk ((hZ z).1 hz).2
 have hLt : ∀ {p:Nat×OpC},p∈L->p.1<ops.size:=by intro p hp;obtain⟨k,hk⟩:=hget hp;obtain⟨o,ho,_⟩:=hd.tr k p hk;exact(Array.getElem?_eq_some_iff.1 ho).1
 intro fuel;induction fuel with
 | zero=>
  intro a' w' listed hls hat hno hunl;refine hgo 0 a' w' listed hls hat hno hunl (fun p hp => ?_);refine Classical.byContradiction fun h => ?_
  have:=zm0 (hLt (p:=p) ((hF _).1 hp).1) ((Zm (by have:=hLt (p:=p) ((hF _).1 hp).1;omega)).2 h);omega
 | succ fuel ih=>
  intro a' w' listed hls hat hno hunl;by_cases hall : ∀ p∈F,listed.getD p.1 false=true
  ·exact hgo (fuel+1) a' w' listed hls hat hno hunl hall
  ·refine⟨fun hnil => ?_,fun i hi => ?_⟩
   ·exact(hall fun p hp=>ready_nil hback hls hnil p.1 (hLt ((hF _).1 hp).1)).elim
   ·obtain⟨h1',oi,hoi,h2⟩:=mem_ready.1 hi;have hlt:i<ops.size:=(Array.getElem?_eq_some_iff.1 hoi).1;have h2:=VJ.1 h2;have hcl:Closed ops (fun i=>listed.getD i false=true):=by obtain⟨S,K,_,_,_,_,hcl,_⟩:=hat;exact hcl
    rcases hcov i hlt with⟨p,hp,rfl⟩ | ⟨p,hp,rfl⟩
    ·obtain⟨k,hp'⟩:=hget hp;have hnD:=(Zm (by omega)).1 h1';have:=hd.step hti hq hcf hct hg0 hown hnm hn hat hp' hnD (fun o ho e he=>by rw[hoi]at ho;injection ho with ho;subst ho;exact h2 e he) Q;refine wpOp_mono (fun a'' w'' hat' => ?_) this;have hu:=zlW hlt hls h1';refine ih a'' w'' _ (by simpa using hls) ?_ ?_ (by omega)
     ·have:(fun i=>(listed.setIfInBounds p.1 true).getD i false=true)=fun i=>listed.getD i false=true\/i=p.1:=by funext j;exact propext (xu (by omega) j)
      rw[this];exact hat'
     ·intro q hq' h;rcases(xu (by omega) _).1 h with h | h
      ·exact hno q hq' h
      ·exact hdis p hp q hq' h.symm
    ·refine(hall fun q hq'=>hd.bel p.1 oi q.1 hoi ?_ _ hcl h2).elim;rcases List.mem_append.1 hp with hp | hp
     ·exact zn0 hfo hp q hq'
     ·exact(zbW hro hp).1 q hq'
theorem ztf(hti:yS P ti)(hq:wH cf)(hcf:zag P E cf)(hd:Drw P E cf ti nt ops S0 st0 M L T c0 m0 m)(hct:XC cf)(hg0:GlOk S0 E)(hn:nt<=a.tmps.size)(hown : ∀ b,S0.ρ b<=S0.nx)(hnm : ∀ k,c0<=k->k<m0->S0.nx<=(T k).nx)(hback : ∀ j o,ops[j]?=some o -> ∀ e∈qc o,e<j){pc:Nat×OpC}{rest:List (Nat×OpC)}(hk:pc.2.op.kind=2)(hpair : ∀ p∈L,ka M p pc=true)(hctr : ∃ o,ops[pc.1]?=some o/\X4 ti nt ops o=some pc.2)
  (hbit : ∀ p∈rest,(M.getD p.1 0).testBit pc.1=true) (hcov : ∀ i,i<ops.size->(∃ p∈L,p.1=i)\/i=pc.1 \/ ∃ p∈rest,p.1=i) (hdis : ∀ z∈L,∀ p∈rest,z.1≠p.1) {Y:List OpC} (hY : ∀ z∈L,z.2∈Y) {d:D} {s1:St} (Q:Exit->Act->World->Prop)
  (hrun:opC E cf pc.2 (T m)=some (.pan d s1)) (hQ:AfterP S0 a d { s1 with tm:=X7 Y s1.tm } Q) :
  ∀ (fuel:Nat) (a':Act) (w':World) (listed:Array Bool),listed.size=ops.size->At S0 st0 ops L T c0 m0 m a (fun i=>listed.getD i false=true) a' w'->(∀ p∈rest,¬ listed.getD p.1 false=true) -> ¬ listed.getD pc.1 false=true->unl ops listed<=fuel->wpAny P .any ops Q fuel listed a' w':=by
 have hget : ∀ {p:Nat×OpC},p∈L -> ∃ k:Nat,L[k]?=some p:=fun hp=>List.mem_iff_getElem?.1 hp
 obtain⟨oc,hoc,hcc⟩:=hctr;have hclt:pc.1<ops.size:=(Array.getElem?_eq_some_iff.1 hoc).1;intro fuel;induction fuel with
 | zero=>intro a' w' listed hls hat hno hnc hunl;have:=zm0 hclt ((Zm (by omega)).2 hnc);omega
 | succ fuel ih=>
  intro a' w' listed hls hat hno hnc hunl;refine⟨fun hnil=>(hnc (ready_nil hback hls hnil pc.1 hclt)).elim,fun i hi => ?_⟩;obtain⟨h1',oi,hoi,h2⟩:=mem_ready.1 hi;have hlt:i<ops.size:=(Array.getElem?_eq_some_iff.1 hoi).1;have h2:=VJ.1 h2;have hcl:Closed ops (fun i=>listed.getD i false=true):=by obtain⟨S,K,_,_,_,_,hcl,_⟩:=hat;exact hcl
  rcases hcov i hlt with⟨p,hp,rfl⟩ | rfl | ⟨p,hp,rfl⟩
  ·obtain⟨k,hp'⟩:=hget hp;have hnD:=(Zm (by omega)).1 h1';have:=hd.step hti hq hcf hct hg0 hown hnm hn hat hp' hnD (fun o ho e he=>by rw[hoi]at ho;injection ho with ho;subst ho;exact h2 e he) Q;refine wpOp_mono (fun a'' w'' hat' => ?_) this;have hu:=zlW hlt hls h1';refine ih a'' w'' _ (by simpa using hls) ?_ ?_ ?_ (by omega)
   ·have:(fun i=>(listed.setIfInBounds p.1 true).getD i false=true)=fun i=>listed.getD i false=true\/i=p.1:=by funext j;exact propext (xu (by omega) j)
    rw[this];exact hat'
   ·intro q hq' h;rcases(xu (by omega) _).1 h with h | h
    ·exact hno q hq' h
    ·exact hdis p hp q hq' h.symm
   ·intro h;rcases(xu (by omega) _).1 h with h | h
    ·exact hnc h
    ·have:=hpair p hp;simp[ka,h]at this
  ·obtain⟨S,K,rfl,hext,hsz,hdf,_,hK0,hKm,hloud,hinv,hpend,hs1,hs2⟩:=hat;have ahead : ∀ j,(M.getD pc.1 0).testBit j=true->listed.getD j false=true:=fun j hj=>hd.bel pc.1 oi j hoi hj _ hcl h2
   have hfr:FrameRep S (kept (xd pc.2) (T m).tm) a'.tmps:=by
    intro t d' ht;rw[vy]at ht;split at ht
    ·next hu=>
     have hu:=kD.1 hu;by_cases hex : ∃ (k':Nat) (p':Nat×OpC),L[k']?=some p'/\p'.2.dst=some t
     ·obtain⟨k',p',hp',ht'⟩:=hex;refine hs2 k' p' t d' hp' (ahead _ ?_) ht' ht;have:=hpair p' (List.mem_of_getElem? hp');simp only[ka,zG,ht',qT.2 hu]at this;simpa using this.1.2
     ·refine hs1 t d' (fun k' p' hp' ht'=>hex ⟨k',p',hp',ht'⟩) ?_;rw[<- hd.keep_other hq (zR m) (fun k' p' hp' ht'=>hex ⟨k',p',hp',ht'⟩)];exact ht
    ·simp at ht
   have heq:Eqv (T K) (T m):=by
    have:=hd.still hq (k:=K) (j:=m-K) (by omega) (fun k' p' h3 h4 hp'=>by
     have h5:=hd.k1 k' p' hp' (by omega);have h6:p'.2.op.kind≠2:=fun h7=>by have h8:=hpair p' (List.mem_of_getElem? hp');simp only[ka,zG,hk,h7]at h8;have:=(hloud k' p' hp' (by omega) h7).1 (ahead _ (by simpa using h8.2));omega
     omega)
    have e:K+(m-K)=m:=by omega
    rw[e]at this;exact this
   rcases zcO hct hq hrun with⟨s2,rr,e1,_⟩ | ⟨d',s2,e1,e2,e3⟩
   ·cases e1
   ·injection e1 with e1 e1';subst e1 e1';refine jk hti ((hinv.eqv heq).tm (kept (xd pc.2) (T m).tm)) (hg0.ext hext) hcf hq hfr hoc hcc (by omega) (e3 _ Same.kept) _ Q ?_;intro S' v hext' hi' hf' hr;refine hQ S' a' v (hext.trans hext') (hi'.eqv ((Eqv.tm s1 _).symm.trans (Eqv.tm s1 _))) ?_ hsz hdf hr;intro t d2 ht;have ht:get (X7 Y s1.tm) t=some d2:=ht;rw[zdQ]at ht;split at ht
    ·contradiction
    ·next hw=>
     rw[e2]at ht;have hno : ∀ (k':Nat) (p':Nat×OpC),L[k']?=some p'->p'.2.dst≠some t:=fun k' p' hp' hzd=>hw (zhl (hY p' (List.mem_of_getElem? hp')) hzd)
     obtain⟨u,hu1,hu2⟩:=hs1 t d2 hno (by rw[<- hd.keep_other hq (zR m) hno];exact ht);exact⟨u,hu1,hu2.ext hext'⟩
  ·exact(hnc (hd.bel p.1 oi pc.1 hoi (hbit p hp) _ hcl h2)).elim
end
section
variable {P:Program} {E:Env} {ti:Ti} {st:St} {S:G} {a:Act} (hti:yS P ti) (hmix:P.follows .mixedOrders=true) (hi:Inv S st) (hg:GlOk S E)
theorem zie(hti:yS P ti)(hmix:P.follows .mixedOrders=true)(hi:Inv S st)(hg:GlOk S E){cf:Cf}(hcf:zag P E cf)(hq:wH cf)(hct:XC cf)(hf:FrameRep S st.tm a.tmps){id:Nat}{ops:Array Oper}{nt:Nat}{h:List Nat×List Nat×List Nat×List Nat}{a0 a1 b1 b:List OpC}(ht:trD ti nt ops h=some (a0,a1,b1,b))(hn:nt<=a.tmps.size)
  {r:Rs} (hr:runDrw E cf a0 a1 b1 b st=some r) (Q:Exit->Act->World->Prop) (hQ:AfterR S a r Q):(Code.region id ops true).wp P Q a S.w:=by
 simp only[trD,zA]at ht;obtain⟨cl,hcl,l0,hl0,lc,hlc,l1,hl1,fs,hfs,rs,hrs,ht⟩:=ht;split at ht
 ·next hok=>
  simp only[zBB,zBC]at ht;obtain⟨rfl,rfl,rfl,rfl⟩:=ht;simp only[zu1,zG,List.all_eq_true,Nat.ble_eq,List.mem_range]at hok;obtain⟨⟨⟨⟨⟨⟨⟨⟨o1,o2⟩,o3⟩,o4⟩,o6⟩,o7⟩,o8⟩,o9⟩,o10⟩:=hok;generalize hMe:zsE ops.toList []=M at *;have hM:Bel ops M:=by rw[<- hMe];refine zs8 (acc:=[]) (by simp) ?_;intro j o i _ hb;simp at hb
  have hback : ∀ j o,ops[j]?=some o -> ∀ e∈qc o,e<j:=by intro j o hj e he;have hjl:j<ops.size:=(Array.getElem?_eq_some_iff.1 hj).1;have:=o8 j hjl;rw[hj]at this;have:=List.all_eq_true.1 this e he;simpa using this
  have hw:SameW S.w { S.w with drawn:=S.w.drawn+1 }:=SameW.drew S.w;have hx0:=Ext.same (S:=S) hw;have hi0:=hi.same hw;have htr0 : ∀ p,p∈l0++(lc++l1) -> ∃ o,ops[p.1]?=some o/\X4 ti nt ops o=some p.2:=by
   intro p hp;have:cl[p.1]?=some p.2:=by
    rcases List.mem_append.1 hp with h | h
    ·exact Vp hl0 h
    ·rcases List.mem_append.1 h with h | h
     ·exact Vp hlc h
     ·exact Vp hl1 h
   obtain⟨o,ho,htr⟩:=zkK hcl this;exact⟨o,by simpa using ho,htr⟩
  have htr1 : ∀ p,p∈fs++rs -> ∃ o,ops[p.1]?=some o/\X4 ti nt ops o=some p.2:=by
   intro p hp;have:cl[p.1]?=some p.2:=by
    rcases List.mem_append.1 hp with h | h
    ·exact Vp hfs h
    ·exact Vp hrs h
   obtain⟨o,ho,htr⟩:=zkK hcl this;exact⟨o,by simpa using ho,htr⟩
  have hdis : ∀ z∈l0++(lc++l1),∀ p∈fs++rs,z.1≠p.1:=by intro z hz p hp he;have:=o7 p hp;rw[zl7.2 ⟨z,hz,he⟩]at this;simp at this
  have hcov : ∀ i,i<ops.size->(∃ p∈l0++(lc++l1),p.1=i) \/ ∃ p∈fs++rs,p.1=i:=by intro i hi;have:=o6 i hi;rw[zCc,zl7,zl7]at this;exact this
  have hF : ∀ z,z∈((l0++(lc++l1)).filter fun p => !(Nat.ble p.2.op.kind 1))↔z∈l0++(lc++l1) /\ ¬ z.2.op.kind<=1:=fun z=>by
   rw[List.mem_filter];refine and_congr_right fun _ => ?_
   rw[Bool.not_eq_true',<- Bool.not_eq_true,Nat.ble_eq]
  unfold runDrw at hr;split at hr
  ·next s1 h1=>
   -- what is known of the run
   have mk : ∀ (x:List (Nat×OpC)) (s2:St),(∀ p∈x,p∈l1)->kw M (l0++(lc++x))=true->runStill E cf (x.map (·.2)) s1=some s2 ->
     Drw P E cf ti nt ops { S with w:={ S.w with drawn:=S.w.drawn+1 } } st M (l0++(lc++x)) (zai E cf ((l0++(lc++x)).map (·.2)) st) l0.length (l0.length+lc.length) (l0.length+(lc.length+x.length))/\zai E cf ((l0++(lc++x)).map (·.2)) st (l0.length+(lc.length+x.length))=s2:=by
    intro x s2 hx hpx h2;have h2':=zpB h2;have hrun:runOps E cf ((l0++(lc++x)).map (·.2)) st=some (.ok s2):=by
     have:(l0++(lc++x)).map (·.2)=(l0++lc).map (·.2)++x.map (·.2):=by simp
     rw[this,xH,h1];exact h2'.1
    have get0 : ∀ (k:Nat) (p:Nat×OpC),(l0++(lc++x))[k]?=some p->(k<l0.length/\p∈l0)\/(l0.length<=k/\k<l0.length+lc.length/\p∈lc)\/(l0.length+lc.length<=k/\p∈x):=by
     intro k p hp;rw[List.getElem?_append]at hp;split at hp
     ·exact .inl ⟨by assumption,List.mem_of_getElem? hp⟩
     ·rw[List.getElem?_append]at hp;split at hp
      ·exact .inr (.inl ⟨by omega,by omega,List.mem_of_getElem? hp⟩)
      ·exact .inr (.inr ⟨by omega,List.mem_of_getElem? hp⟩)
    refine⟨⟨by simp,by omega,by omega,hM,hpx,fun k p hp => ?_,fun k p hp => ?_,fun k p hp hk => ?_,fun k p hp h1 h2 => ?_,fun k p hp h1 => ?_,fun k h3 h4 => ?_,?_⟩,zu0 hrun (by simp)⟩
    ·refine htr0 p ?_;rcases get0 k p hp with h | h | h
     ·exact List.mem_append_left _ h.2
     ·exact List.mem_append_right _ (List.mem_append_left _ h.2.2)
     ·exact List.mem_append_right _ (List.mem_append_right _ (hx _ h.2))
    ·exact ztm hrun (by rw[zBU,hp];rfl)
    ·rcases get0 k p hp with h | h | h
     ·exact zJ (o1 p h.2)
     ·omega
     ·omega
    ·rcases get0 k p hp with h | h | h
     ·omega
     ·have:=o2 p h.2.2;exact⟨zJ this.1.1,by simpa using this.1.2,this.2⟩
     ·omega
    ·rcases get0 k p hp with h | h | h
     ·omega
     ·omega
     ·exact o3 p (hx _ h.2)
    ·have e1:(l0++(lc++x)).map (·.2)=(l0++lc).map (·.2)++x.map (·.2):=by simp
     have key : ∀ j,(zai E cf ((l0++(lc++x)).map (·.2)) st (l0.length+lc.length+j)).mem=s1.mem:=by
      intro j;have:=zon h1 h2'.1 j;rw[e1];have e2:((l0++lc).map (·.2)).length=l0.length+lc.length:=by simp
      rw[e2]at this;rw[this];exact h2'.2 j
     have k1:=key (k-(l0.length+lc.length));have k2:=key 0;have e3:l0.length+lc.length+(k-(l0.length+lc.length))=k:=by omega
     rw[e3]at k1;exact k1.trans k2.symm
    ·simp[zai,runOps]
   -- the start
   have hnone : ∀ i,(Array.replicate ops.size false).getD i false=true->False:=by intro i h;rw[Array.getD_eq_getD_getElem?,Array.getElem?_replicate]at h;split at h<;>simp at h
   have start : ∀ {L:List (Nat×OpC)} {T:Nat->St} {m:Nat},Drw P E cf ti nt ops { S with w:={ S.w with drawn:=S.w.drawn+1 } } st M L T l0.length (l0.length+lc.length) m ->
     (∀ k,l0.length<=k->k<l0.length+lc.length->S.nx<=(T k).nx) /\ ∃ S1:G,S1.w={ S.w with drawn:=S.w.drawn+1 }/\At { S with w:={ S.w with drawn:=S.w.drawn+1 } } st ops L T l0.length (l0.length+lc.length) m a (fun i=>(Array.replicate ops.size false).getD i false=true) a S1.w:=by
    intro L T m hd;obtain⟨S1,hw1,he1,hi1,hn1,_⟩:=hd.begin hq hi0;refine⟨fun k h1 h2=>(hn1 k h1 h2).2,S1,hw1,S1,l0.length+lc.length,rfl,he1,rfl,rfl,fun j o _ h=>(hnone j h).elim,zR _,hd.m0m,fun k p hp hk h2=>⟨fun h=>(hnone _ h).elim,fun h=>by omega⟩,hi1,fun k p hp h1 h2 _=>(hn1 k h1 h2).1,fun t d _ hget => ?_,fun k p t d _ h=>(hnone _ h).elim⟩;obtain⟨v,hv,hr⟩:=hf t d hget;exact⟨v,hv,(hr.ext hx0).ext he1⟩
   split at hr
   ·next s2 h2=>
    obtain⟨hd,hTm⟩:=mk l1 s2 (fun _ h=>h) o4 h2;obtain⟨hn1,S1,hw1,hat⟩:=start hd;refine wp_region_any hmix ?_;rw[hw1]at hat;refine zn8 hti hq hcf hd hct (hg.ext hx0) hi0.own hn1 hn hback (rs:=rs) (fs:=fs) (fun z=>by rw[List.mem_filter,Nat.ble_eq]) hF o10 o9 htr1 hdis hcov (Y:=(l0++lc).map (·.2)++l1.map (·.2)) (ZL:=jy (l1.map (·.2))) (fun z hz => ?_) (fun z hz h1 => ?_) Q (by rw[hTm];exact hr) (hQ.shift hx0 rfl rfl) ops.size a _ (Array.replicate ops.size false) (by simp) hat (fun p _ h=>hnone _ h) ?_
    ·have:z.2∈(l0++(lc++l1)).map (·.2):=List.mem_map.2 ⟨z,hz,rfl⟩;simpa using this
    ·rcases List.mem_append.1 hz with h | h
     ·have:=zJ (o1 z h);omega
     ·rcases List.mem_append.1 h with h | h
      ·have:=zJ (o2 z h).1.1;omega
      ·exact List.mem_filter.2 ⟨List.mem_map.2 ⟨z,h,rfl⟩,by rw[h1];rfl⟩
    ·have:unl ops (Array.replicate ops.size false)<=(List.range ops.size).length:=List.countP_le_length;simpa using this
   ·simp only[zB]at hr;obtain⟨⟨d,s'⟩,hp,rfl⟩:=hr;obtain⟨x,c,s2,hx,h2,hc⟩:=zar hp;obtain⟨x',y',hxy,hx1,hy1⟩:=List.map_eq_append_iff.1 hx;obtain⟨pc,z',rfl,rfl,hz'⟩:=List.map_eq_cons_iff.1 hy1;obtain rfl:=List.map_eq_nil_iff.1 hz';subst hx1;subst hxy;have o4':kw M (l0++(lc++x')++[pc])=true:=by simpa using o4
    obtain⟨o4a,o4b⟩:=znq o4';obtain⟨hd,hTm⟩:=mk x' s2 (fun p h=>List.mem_append_left _ h) o4a h2;obtain⟨hn1,S1,hw1,hat⟩:=start hd;have hpk:pc.2.op.kind=2:=by
     have h3:=o3 pc (by simp);refine Classical.byContradiction fun hne => ?_
     unfold opC at hc;split at hc
     ·simp only[opR,zB]at hc;obtain⟨q,hq1,hq2⟩:=hc;obtain⟨r,s,rfl,_⟩:=zgv hne (by omega) hq1;cases hq2
     ·injection hc with hc;cases hc
     ·contradiction
    have hpcF:pc∈((l0++(lc++(x'++[pc]))).filter fun p => !(Nat.ble p.2.op.kind 1)):=(hF pc).2 ⟨by simp,by omega⟩;have hsub : ∀ z,z∈l0++(lc++x')->z∈l0++(lc++(x'++[pc])):=fun z hz=>by
     simp only[zBO]at hz ⊢;rcases hz with h | h | h
     ·exact .inl h
     ·exact .inr (.inl h)
     ·exact .inr (.inr (.inl h))
    refine wp_region_any hmix ?_;rw[hw1]at hat;refine ztf hti hq hcf hd hct (hg.ext hx0) hn hi0.own hn1 hback hpk o4b (htr0 pc (by simp)) (rest:=fs++rs) (fun p hp => ?_) (fun i hi => ?_) (fun z hz p hp=>hdis z (hsub z hz) p hp) (Y:=(l0++lc).map (·.2)++(x'++[pc]).map (·.2)) (fun z hz => ?_) Q (by rw[hTm];exact hc) (AfterP.shift hQ hx0 rfl rfl) ops.size a _ (Array.replicate ops.size false) (by simp) hat (fun p _ h=>hnone _ h) (fun h=>hnone _ h) ?_
    ·rcases List.mem_append.1 hp with hp | hp
     ·exact zn0 o10 hp pc hpcF
     ·exact(zbW o9 hp).1 pc hpcF
    ·rcases hcov i hi with⟨p,hp,rfl⟩ | h
     ·simp only[zBO,List.mem_singleton]at hp;rcases hp with h | h | h | h
      ·exact .inl ⟨p,by simp[h],rfl⟩
      ·exact .inl ⟨p,by simp[h],rfl⟩
      ·exact .inl ⟨p,by simp[h],rfl⟩
      ·exact .inr (.inl (by rw[h]))
     ·exact .inr (.inr h)
    ·have:z.2∈(l0++(lc++x')).map (·.2):=List.mem_map.2 ⟨z,hz,rfl⟩;simp only[List.map_append,zBO]at this ⊢;rcases this with h | h | h
     ·exact .inl (.inl h)
     ·exact .inl (.inr h)
     ·exact .inr (.inl h)
    ·have:unl ops (Array.replicate ops.size false)<=(List.range ops.size).length:=List.countP_le_length;simpa using this
  ·simp at hr
 ·simp at ht
end
end
section
def trC(ti:Ti)(nt:Nat)(kp:Nat->List Nat)(dp:Nat->List Nat×List Nat×List Nat×List Nat):Code->Option C
 | .skip=>some .skip
 | .label _=>some .skip
 | .region id ops false=>(zi2 ti nt ops ops.toList).map fun l => .reg l (kp id)
 | .region id ops true=>(trD ti nt ops (dp id)).map fun p => .drw p.1 p.2.1 p.2.2.1 p.2.2.2 (kp id)
 | .seq a b=>(trC ti nt kp dp a).bind fun x=>(trC ti nt kp dp b).map fun y => .seq x y
 | .cond c a b=>(trX c).bind fun c=>(trC ti nt kp dp a).bind fun x=>(trC ti nt kp dp b).map fun y => .cond c x y
 | .block id c=>(trC ti nt kp dp c).map (.blk id)
 | .loop c=>(trC ti nt kp dp c).map .loop
 | .scope c=>trC ti nt kp dp c
 | .exit id=>some (.exit id)
 | .ret=>some .ret
 | _=>none
def Ends(S:G)(a:Act)(e:Ex)(st':St)(Q:Exit->Act->World->Prop):Prop:=
 match e with
 | .nrm=>After S a st' (Q .normal)
 | .ext id=>After S a st' (Q (.exit id))
 | .ret=>After S a st' (Q .ret)
 | .pan d=>AfterP S a d st' Q
theorem Ends.shift{S S':G}{a a':Act}{e:Ex}{st:St}{Q:Exit->Act->World->Prop}(h:Ends S a e st Q)(he:Ext S S')(hs:a'.tmps.size=a.tmps.size)(hd:a'.defers=a.defers):Ends S' a' e st Q:=by cases e<;>first | exact After.shift h he hs hd | exact AfterP.shift h he hs hd
section
variable {P:Program} {E:Env} {ti:Ti} (hti:yS P ti) (hmix:P.follows .mixedOrders=true)
theorem Qp(hti:yS P ti)(hmix:P.follows .mixedOrders=true){cf:Cf}(hcf:zag P E cf)(hq:wH cf)(hct:XC cf)(n:Nat){nt:Nat}{kp:Nat->List Nat}{dp:Nat->List Nat×List Nat×List Nat×List Nat}{c:Code}{cc:C}(ht:trC ti nt kp dp c=some cc){st st':St}{S:G}{a:Act}(hi:Inv S st)(hf:FrameRep S st.tm a.tmps)(hg:GlOk S E)
  (hn:nt<=a.tmps.size) {e:Ex} (h:exec E cf n cc st=some (e,st')) (Q:Exit->Act->World->Prop) (hQ:Ends S a e st' Q):c.wp P Q a S.w:=by
 induction c generalizing cc st st' S a e Q with
 | skip=>injection ht with ht;subst ht;simp only[exec,zBB,zBC]at h;obtain⟨rfl,rfl⟩:=h;exact wp_skip (hQ S a (.refl S) hi hf rfl rfl)
 | label l=>injection ht with ht;subst ht;simp only[exec,zBB,zBC]at h;obtain⟨rfl,rfl⟩:=h;exact wp_label (hQ S a (.refl S) hi hf rfl rfl)
 | region id ops draw=>
  cases draw with
  | false=>
   simp only[trC,zB]at ht;obtain⟨l,hl,rfl⟩:=ht;simp only[exec]at h;refine wp_region ?_;have hr:List.range ops.size=List.range' 0 ops.toList.length:=by rw[List.range_eq_range'];simp
   rw[hr];split at h
   ·next s he=>
    simp only[zBB,zBC]at h;obtain⟨rfl,rfl⟩:=h;refine zlw hti hi hg hcf hq hf (k:=0) (by simp) hl hn he Q ?_;intro S' a' hx hi' hf' h1 h2;refine hQ S' a' hx (hi'.tm _) ?_ h1 h2;intro t d hd;rw[vy]at hd;split at hd
    ·exact hf' t d hd
    ·simp at hd
   ·next d s he=>
    simp only[zBB,zBC]at h;obtain⟨rfl,rfl⟩:=h;exact zlw hti hi hg hcf hq hf (k:=0) (by simp) hl hn he Q hQ
   ·simp at h
  | true=>
   simp only[trC,zB]at ht;obtain⟨⟨a0,a1,b1,b⟩,hl,rfl⟩:=ht;simp only[exec]at h;split at h
   ·next s he=>
    simp only[zBB,zBC]at h;obtain⟨rfl,rfl⟩:=h;refine zie hti hmix hi hg hcf hq hct hf hl hn he Q ?_;intro S' a' hx hi' hf' h1 h2;refine hQ S' a' hx (hi'.tm _) ?_ h1 h2;intro t d hd;rw[vy]at hd;split at hd
    ·exact hf' t d hd
    ·simp at hd
   ·next d s he=>
    simp only[zBB,zBC]at h;obtain⟨rfl,rfl⟩:=h;exact zie hti hmix hi hg hcf hq hct hf hl hn he Q hQ
   ·simp at h
 | seq x y ihx ihy=>
  simp only[trC,zA,zB]at ht;obtain⟨cx,hx,cy,hy,rfl⟩:=ht;simp only[exec]at h;refine wp_seq ?_;split at h
  ·next s he=>
   refine ihx hx hi hf hg hn he _ ?_;intro S' a' hext hi' hf' h1 h2;exact ihy hy hi' hf' (hg.ext hext) (by omega) h Q (hQ.shift hext h1 h2)
  ·next hne=>
   refine ihx hx hi hf hg hn h _ ?_;cases e with
   | nrm=>exact(hne st' h).elim
   | ext id=>exact hQ
   | ret=>exact hQ
   | pan d=>exact hQ
 | cond c x y ihx ihy=>
  simp only[trC,zA,zB]at ht;obtain⟨c',hc,cx,hx,cy,hy,rfl⟩:=ht;simp only[exec]at h;split at h
  ·next hb=>exact wp_cond_true ((Rep.ev hf hg hc hb).bool_inv rfl) (ihx hx hi hf hg hn h Q hQ)
  ·next hb=>exact wp_cond_false ((Rep.ev hf hg hc hb).bool_inv rfl) (ihy hy hi hf hg hn h Q hQ)
  ·simp at h
 | block id c ih=>
  simp only[trC,zB]at ht;obtain⟨cx,hx,rfl⟩:=ht;simp only[exec]at h;refine wp_block ?_;split at h
  ·next i s he=>
   refine ih hx hi hf hg hn he _ ?_;split at h
   ·next hid=>
    subst hid;simp only[zBB,zBC]at h;obtain⟨rfl,rfl⟩:=h;intro S' a' hext hi' hf' h1 h2;show if i=i then _ else _
    rw[zBu rfl];exact hQ S' a' hext hi' hf' h1 h2
   ·next hid=>
    simp only[zBB,zBC]at h;obtain⟨rfl,rfl⟩:=h;intro S' a' hext hi' hf' h1 h2;show if i=id then _ else _
    rw[zBt hid];exact hQ S' a' hext hi' hf' h1 h2
  ·next hne=>
   refine ih hx hi hf hg hn h _ ?_;cases e with
   | nrm=>exact hQ
   | ext i=>exact(hne i st' h).elim
   | ret=>exact hQ
   | pan d=>exact hQ
 | loop c ih=>
  simp only[trC,zB]at ht;obtain⟨cx,hx,rfl⟩:=ht;simp only[exec]at h;refine wp_loop_rounds n ?_;have key : ∀ m {st S} {a:Act},Inv S st->FrameRep S st.tm a.tmps->GlOk S E->nt<=a.tmps.size->loopN (exec E cf n cx) m st=some (e,st')->Ends S a e st' Q->Code.rounds P c Q m a S.w:=by
   intro m;induction m with
   | zero=>intro st S a _ _ _ _ h;simp[loopN]at h
   | succ m ihm=>
    intro st S a hi hf hg hn h hQ;rw[rounds_succ];simp only[loopN]at h;split at h
    ·next s he=>
     refine ih hx hi hf hg hn he _ ?_;intro S' a' hext hi' hf' h1 h2;exact ihm hi' hf' (hg.ext hext) (by omega) h (hQ.shift hext h1 h2)
    ·next hne=>
     refine ih hx hi hf hg hn h _ ?_;cases e with
     | nrm=>exact(hne st' h).elim
     | ext id=>exact hQ
     | ret=>exact hQ
     | pan d=>exact hQ
  exact key n hi hf hg hn h hQ
 | scope c ih=>simp only[trC]at ht;refine wp_scope_straight ?_;refine ih ht hi hf hg hn h _ ?_;cases e<;>exact hQ
 | exit id=>injection ht with ht;subst ht;simp only[exec,zBB,zBC]at h;obtain⟨rfl,rfl⟩:=h;exact wp_exit (hQ S a (.refl S) hi hf rfl rfl)
 | ret=>injection ht with ht;subst ht;simp only[exec,zBB,zBC]at h;obtain⟨rfl,rfl⟩:=h;exact wp_ret (hQ S a (.refl S) hi hf rfl rfl)
 | goto l=>simp[trC]at ht
 | refuse s=>simp[trC]at ht
 | rangeFunc f p x y _ _=>simp[trC]at ht
end
end
section
theorem zxo{S S0:G}{st:St}(h:Inv S st)(e:Ext S0 S)(hnx:S0.nx<=S.nx){b off n c sz:Nat}{cs:Array Value}{t:TypeId}(hh:S.w.heap[b]?=some (.cells cs t (0,0)))(h0:S.ρ b=0)(hb:S0.w.heap.size<=b)
  (hφ:S.φ b=off+n*sz) (hn:n<=c) (hs:off+c*sz<=cs.size) :
  ∃ S':G,S'.w=S.w/\Ext S0 S'/\Inv S' { st with tip:=upd st.tip st.nx n,nx:=st.nx+1 }/\st.nx<S'.nx/\S'.hd st.nx n=some (some ⟨b,off,none⟩,c,sz)/\(∀ d v,Rep S d v->Rep S' d v):=by
 let S1:G:={ S with hd:=fun g m=>if g=S.nx then(if m=n then some (some ⟨b,off,none⟩,c,sz)else none)else S.hd g m,nx:=S.nx+1 }
 have he1:Ext S S1:={ Ext.refl S with
   hd:=fun g m x hg hx=>by show(if g=S.nx then _ else _)=_;rw[zBt (by omega)];exact hx
   nx:=by show S.nx<=S.nx+1;omega }
 let S2:G:={ S1 with ρ:=fun b'=>if b'=b then S.nx+1 else S.ρ b' }
 have hrep : ∀ d v,Rep S d v->Rep S2 d v:=fun d v hr=>(hr.ext he1).rho _
 have hlt:=lt_of_heap hh;refine⟨S2,rfl,?_,?_,by show st.nx<S.nx+1;rw[h.nx];omega,by show(if st.nx=S.nx then(if n=n then _ else none)else _)=_;rw[zBu h.nx,zBu rfl],hrep⟩
 ·have e2:=e.trans he1;exact { e2 with
   role:=fun b' hb'=>by show(if b'=b then S.nx+1 else S.ρ b')=_;rw[zBt (by omega)];exact e2.role b' hb'
   free:=fun b' hb' h0'=>e2.free b' hb' h0'
   shape:=e2.shape }
 ·refine⟨by show st.nx+1=S.nx+1;rw[h.nx],fun k o hk => ?_,fun g m hg => ?_,fun b' hb' => ?_,zlL h n,fun b' => ?_⟩
  ·obtain⟨h1,h2⟩:=h.ob k o hk;refine⟨by show k<S.nx+1;omega,fun b' hb' => ?_⟩;obtain⟨h3,h4⟩:=h2 b' hb';have hne:b'≠b:=by rintro rfl;omega
   refine⟨by show(if b'=b then _ else S.ρ b')=_;rw[zBt hne];exact h3,?_⟩;cases h4 with
   | row xs fz c t hb hr h0 h1=>exact .row xs fz c t hb ⟨hr.1,fun j d v hd hv=>hrep d v (hr.2 j d v hd hv)⟩ h0 h1
   | iter s pos hb=>exact .iter s pos hb
   | bld t' e' s p v hb' hp hφ0 hown hne' hg=>
    refine .bld t' e' s p v hb' hp hφ0 hown hne' (fun g hgg=>⟨?_,(hg g hgg).2⟩);have hgb:g≠b:=by rintro rfl;have:=(hg g hgg).1;omega
    show(if g=b then _ else S.ρ g)=(if b'=b then _ else S.ρ b')
    rw[zBt hgb,zBt hne];exact(hg g hgg).1
  ·have hg1:upd st.tip st.nx n g=some m:=hg;by_cases h2:g=st.nx
   ·subst h2;rw[wh]at hg1;injection hg1 with hg1;subst hg1;refine⟨by show st.nx<S.nx+1;rw[h.nx];omega,fun n' hn' => ?_,some ⟨b,off,none⟩,c,sz,?_,hn,.inr ⟨b,off,cs,t,rfl,?_,hφ,hh,hs⟩⟩
    ·show(if st.nx=S.nx then(if n'=n then _ else none)else _)=none;rw[zBu h.nx,zBt (by omega)]
    ·show(if st.nx=S.nx then(if n=n then _ else none)else _)=_;rw[zBu h.nx,zBu rfl]
    ·show(if b=b then S.nx+1 else _)=_;rw[zBu rfl,h.nx]
   ·rw[upd_ne _ _ h2]at hg1;obtain⟨k1,k2,A,c',sz',k3,k4,k5⟩:=h.tip g m hg1;have hgne:g≠S.nx:=by omega
    refine⟨by show g<S.nx+1;omega,fun n' hn' => ?_,A,c',sz',?_,k4,k5.imp id ?_⟩
    ·show(if g=S.nx then _ else _)=none;rw[zBt hgne];exact k2 n' hn'
    ·show(if g=S.nx then _ else _)=_;rw[zBt hgne];exact k3
    ·rintro⟨b2,off2,cs2,t2,a1,a2,a3⟩;refine⟨b2,off2,cs2,t2,a1,?_,a3⟩;show(if b2=b then _ else S.ρ b2)=_;rw[zBt (by rintro rfl;omega)];exact a2
  ·have:=h.out b' hb';refine⟨this.1,?_⟩;show(if b'=b then _ else S.ρ b')=0;have hb2:S.w.heap.size<=b':=hb';rw[zBt (by omega)];exact this.2
  ·show(if b'=b then S.nx+1 else S.ρ b')<=S.nx+1;split
   ·exact zR _
   ·have:=h.own b';omega
theorem WJ{S1 S:G}{st s:St}{tm:Tm}(h1:Inv S1 st)(he:Ext S1 S)(hs:Inv S s)(hfr:Fr { st with tm:=tm,lo:=st.nx,lw:=st.nx } s)(fn:Fn){d:D}{v:Value}(hr:Rep S d v) :
  ∃ S',S'.w=S.w/\Ext S1 S'/\Inv S' (leave fn st s d).2/\Rep S' (leave fn st s d).1 v:=by
 have hund : ∃ S',S'.w=S.w/\Ext S1 S'/\Inv S' { s with tm:=st.tm,lo:=st.lo,lw:=if s.lw<st.lw then s.lw else st.lw }/\Rep S' .und v:=
  ⟨S,rfl,he,⟨hs.nx,hs.ob,hs.tip,hs.out,hs.dis,hs.own⟩,.und v⟩
 have hlo:s.lo=st.nx:=hfr.lo;have keep : ∀ l,¬ (frz s l).lw<s.lo->(∀ j,j<st.nx->(frz s l).mem j=st.mem j)/\(∀ j,j<st.nx->(frz s l).tip j=st.tip j):=by intro l hl;have h2:=hfr.trans (Fr.frz s l);exact⟨fun j hj=>h2.mem j hj (by omega),fun j hj=>h2.tip j hj (by omega)⟩
 unfold leave;split
 ·split
  ·next g sz n xs=>
   split
   ·next hc=>
    obtain⟨ht,hp,hlw,hg⟩:=hc;obtain⟨S2,hw2,he2,hi2,hz⟩:=XD hs (refsL xs);have hr2:=hr.ext he2;have hcl:Rep S2 ((D.sl (.ln g sz) n xs).cl s.mem) v:=hr2.cl hi2 s.mem (fun k hk xs' fz' hm=>hz k xs' fz' hm (.inl (by simpa[D.refs]using hk)));obtain⟨hm,htp⟩:=keep _ hlw;have hb:=h1.back (he.trans he2) hi2 hm htp;have hcl3:Rep (S2.cut S1.nx) (.sl .no n (clL s.mem xs)) v:=Rep.cut (S:=S1) (by simpa[D.cl,D.pure]using hp) (by simpa[D.cl]using hcl);have hx3:=(he.trans he2).cut h1.own;have htz:(frz s (refsL xs)).tip g=some n:=by
     have : ∀ l (s:St),(frz s l).tip=s.tip:=by
      intro l;induction l with
      | nil=>intro s;rfl
      | cons k r ih=>intro s;simp only[frz];split<;>rw[ih]<;>rfl
     rw[this];exact ht
    obtain⟨hg2,htop,A',c',sz',hhd,hnc,hsafe⟩:=hi2.tip g n htz;cases hr2 with
    | sl _ _ _ A c b off us hc hA hu hrr hφ hgg=>
     have heq:(A',c',sz')=(A,c,sz):=by have:=hgg.2;rw[hhd]at this;injection this
     simp only[zBC]at heq;obtain⟨rfl,rfl,rfl⟩:=heq;have hnx:S1.nx=st.nx:=h1.nx.symm;rcases hsafe with hfull | ⟨b2,off2,cs2,t2,ha2,hρ2,hφ2,hh2,hs2⟩
     ·subst hfull;obtain⟨S4,hw4,he4,hi4,hlt4,hhd4⟩:=zix hb n sz' A';refine⟨S4,hw4.trans hw2,hx3.trans he4,hi4,?_⟩;have:=hcl3.ext he4;cases this with
      | sl _ _ _ A c b off us hc hA hu hrr hφ hgg=>exact .sl _ _ _ _ _ b off us hc hA hu hrr hφ ⟨hlt4,hhd4⟩
     ·subst ha2;have hb2:S1.w.heap.size<=b2:=by
       rcases zBD b2 S1.w.heap.size with hlt | hge
       ·have h5:=(he.trans he2).role b2 hlt;have h6:=h1.own b2;omega
       ·exact hge
      have h0:(S2.cut S1.nx).ρ b2=0:=by show(if S2.ρ b2<=S1.nx then _ else 0)=0;rw[zBt (by omega)]
      obtain⟨S4,hw4,he4,hi4,hlt4,hhd4,hrep⟩:=zxo hb hx3 (zR _) hh2 h0 hb2 hφ2 hnc hs2;refine⟨S4,hw4.trans hw2,he4,hi4,?_⟩;have:=hrep _ _ hcl3;cases this with
      | sl _ _ _ A c b off us hc hA hu hrr hφ hgg=>exact .sl _ _ _ _ _ b off us hc hA hu hrr hφ ⟨hlt4,hhd4⟩
   ·exact hund
  ·next n xs=>
   split
   ·next hc=>
    obtain⟨hp,hlw⟩:=hc;obtain⟨S2,hw2,he2,hi2,hz⟩:=XD hs (refsL xs);have hr2:=hr.ext he2;have hcl:Rep S2 ((D.sl .full n xs).cl s.mem) v:=hr2.cl hi2 s.mem (fun k hk xs' fz' hm=>hz k xs' fz' hm (.inl (by simpa[D.refs]using hk)));obtain⟨hm,htp⟩:=keep _ hlw;have hcl3:Rep (S2.cut S1.nx) (.sl .no n (clL s.mem xs)) v:=Rep.cut (S:=S1) (by simpa[D.cl,D.pure]using hp) (by simpa[D.cl]using hcl);refine⟨S2.cut S1.nx,hw2,(he.trans he2).cut h1.own,h1.back (he.trans he2) hi2 hm htp,?_⟩;have hnc : ∃ A c,v = .slice A n c/\n=c:=by
     cases hr2 with
     | sl _ _ _ A c b off us hc hA hu hrr hφ hgg=>exact⟨A,c,rfl,hgg⟩
    obtain⟨A0,c0,rfl,hnc⟩:=hnc;cases hcl3 with
    | sl _ _ _ A c b off us hc hA hu hrr hφ hgg=>exact .sl .full _ _ _ _ b off us hc hA hu hrr hφ hnc
   ·exact hund
  ·exact hund
 ·split
  ·exact⟨S,rfl,he,⟨hs.nx,hs.ob,hs.tip,hs.out,hs.dis,hs.own⟩,hr⟩
  ·obtain⟨S2,hw2,he2,hi2,hz⟩:=XD hs d.refs;have hcl:Rep S2 (d.cl s.mem) v:=(hr.ext he2).cl hi2 s.mem (fun k hk xs' fz' hm=>hz k xs' fz' hm (.inl hk));split
   ·next hc=>
    simp only[zG,zCb]at hc;obtain⟨hp,hlw⟩:=hc;obtain⟨hm,htp⟩:=keep _ hlw;exact⟨S2.cut S1.nx,hw2,(he.trans he2).cut h1.own,h1.back (he.trans he2) hi2 hm htp,Rep.cut (S:=S1) hp hcl⟩
   ·exact⟨S2,hw2,he.trans he2,⟨hi2.nx,hi2.ob,hi2.tip,hi2.out,hi2.dis,hi2.own⟩,hcl⟩
theorem QG(i:Nat)(ds:List D)(t:Nat):get (params i ds) t=if i<=t then ds[t-i]? else none:=by
 induction ds generalizing i with
 | nil=>simp[params,get]
 | cons d r ih=>
  simp only[params,get];by_cases h:i=t
  ·subst h;simp
  ·rw[zBt h,ih];by_cases h2:i<=t
   ·rw[zBu (by omega),zBu h2];have:t-i=(t-(i+1))+1:=by omega
    rw[this];simp
   ·rw[zBt (by omega),zBt h2]
def Plain(P:Program)(ti:Ti)(f:Nat)(fn:Fn):Prop:=
 ∃ g c kp dp,P.funcs[f]?=some g/\(g.name == "runtime.NumGoroutine")=false/\g.body=some c/\trC ti g.ntmps kp dp c=some fn.body/\zdA ti g.results.toList=some fn.res
def zqC(l:List OpC):Bool:=l.all fun o=>match o.op with | .box _ | .alloc _=>true | _=>false
def YN(xs:List Nat)(l:List OpC):Bool:=l.all fun o=>match o.dst with | some t => !has xs t | none=>true
def WK:C->List Nat->Bool
 | .reg ops _,xs=>YN xs ops
 | .drw a b b1 c _,xs=>YN xs a&&YN xs b&&YN xs b1&&YN xs c
 | .seq a b,xs=>WK a xs&&WK b xs
 | .cond _ a b,xs=>WK a xs&&WK b xs
 | .blk _ c,xs=>WK c xs
 | .loop c,xs=>WK c xs
 | _,_=>true
def Old(xs:List Nat)(st st':St):Prop := ∀ x d,has xs x=true->get st'.tm x=some d->get st.tm x=some d
theorem Old.refl(xs:List Nat)(st:St):Old xs st st:=fun _ _ _ h=>h
theorem Old.trans{xs:List Nat}{a b c:St}(h:Old xs a b)(k:Old xs b c):Old xs a c:=fun x d hx hd=>h x d hx (k x d hx hd)
theorem Old.kept(xs keep:List Nat)(st:St):Old xs st { st with tm:=kept keep st.tm }:=by
 intro x d _ h;rw[vy]at h;split at h
 ·exact h
 ·contradiction
theorem Old.set{xs:List Nat}{st:St}{dst:Option Nat}(h:(match dst with | some t => !has xs t | none=>true)=true)(r:Option D):Old xs st (st.set dst r):=by
 intro x d hx hg;cases dst with
 | none=>cases r<;>exact hg
 | some t=>
  have hne:x≠t:=by rintro rfl;simp[hx]at h
  cases r with
  | some e=>have hg:get (Ev.put st.tm t e) x=some d:=hg;rw[get_put,zBt hne]at hg;exact hg
  | none=>have hg:get (Ev.del st.tm t) x=some d:=hg;rw[Zx,zBt hne]at hg;exact hg
theorem Rs.old{E:Env}{cf:Cf}(hc:wH cf){xs:List Nat}{o:OpC}(ho:(match o.dst with | some t => !has xs t | none=>true)=true){st:St}{r:Rs}(h:opC E cf o st=some r):Old xs st r.st:=by
 unfold opC at h;split at h
 ·simp only[opR,zB]at h;obtain⟨q,hq,rfl⟩:=h;have htm:=(Fq.opX hc hq).tm;cases q with
  | val d s=>have h1:Old xs s (s.set o.dst d):=Old.set ho d;intro x e hx he;have:=h1 x e hx he;rw[show s.tm=st.tm from htm]at this;exact this
  | pan d s=>intro x e hx he;have he:get s.tm x=some e:=he;rw[show s.tm=st.tm from htm]at he;exact he
 ·injection h with h;subst h;exact Old.set (r:=some .off) ho
 ·contradiction
theorem QA{E:Env}{cf:Cf}(hc:wH cf){xs:List Nat}{l:List OpC}(hl:YN xs l=true){st:St}{r:Rs}(h:runOps E cf l st=some r):Old xs st r.st:=by
 induction l generalizing st with
 | nil=>injection h with h;subst h;exact .refl _ _
 | cons o l ih=>
  simp only[YN,List.all_cons,zG]at hl;simp only[runOps]at h;split at h
  ·next s he=>exact(Rs.old hc hl.1 he).trans (ih hl.2 h)
  ·exact Rs.old hc hl.1 h
theorem zmG{E:Env}{cf:Cf}(hc:wH cf){xs:List Nat}{l:List OpC}(hl:YN xs l=true){st s:St}(h:runStill E cf l st=some s):Old xs st s:=by
 induction l generalizing st with
 | nil=>injection h with h;subst h;exact .refl _ _
 | cons o l ih=>
  simp only[YN,List.all_cons,zG]at hl;simp only[runStill]at h;split at h
  ·next s' he=>
   split at h
   ·exact(show Old xs st s' from Rs.old hc hl.1 he).trans (ih hl.2 h)
   ·contradiction
  ·contradiction
theorem Old.drop(xs:List Nat)(Z:List OpC)(st:St):Old xs st { st with tm:=X7 Z st.tm }:=by
 intro x d _ h;have h:get (X7 Z st.tm) x=some d:=h;rw[zdQ]at h;split at h
 ·contradiction
 ·exact h
theorem zov{E:Env}{cf:Cf}(hc:wH cf){xs:List Nat}{l:List OpC}(hl:YN xs l=true){st:St}{q:D×St}(h:panLast E cf l st=some q):Old xs st q.2:=by
 induction l generalizing st with
 | nil=>simp[panLast]at h
 | cons o l ih=>
  simp only[YN,List.all_cons,zG]at hl;simp only[panLast]at h;split at h
  ·next s he=>
   split at h
   ·exact(show Old xs st s from Rs.old hc hl.1 he).trans (ih hl.2 h)
   ·contradiction
  ·next d s he=>
   cases l with
   | nil=>injection h with h;subst h;exact Rs.old hc hl.1 he
   | cons a b=>simp at h
  ·contradiction
theorem zlB{E:Env}{cf:Cf}(hc:wH cf){xs:List Nat}{Y Z l:List OpC}(hl:YN xs l=true){st:St}{r:Rs}(h:runFl E cf Y Z l st=some r):Old xs st r.st:=by
 induction l generalizing st with
 | nil=>injection h with h;subst h;exact .refl _ _
 | cons o l ih=>
  simp only[YN,List.all_cons,zG]at hl;simp only[runFl]at h;split at h
  ·next s he=>
   split at h
   ·exact(show Old xs st s from Rs.old hc hl.1 he).trans (ih hl.2 h)
   ·contradiction
  ·next d s he=>
   injection h with h;subst h;exact(show Old xs st s from Rs.old hc hl.1 he).trans (Old.drop xs Y s)
  ·contradiction
theorem ziX{E:Env}{cf:Cf}(hc:wH cf){xs:List Nat}{a0 a1 b1 b:List OpC}(h0:YN xs a0=true)(h1:YN xs a1=true)(h2:YN xs b1=true)(h3:YN xs b=true){st:St}{r:Rs}(h:runDrw E cf a0 a1 b1 b st=some r):Old xs st r.st:=by
 unfold runDrw at h;split at h
 ·next s1 e1=>
  have k1:Old xs st s1:=QA hc h0 e1;split at h
  ·next s2 e2=>
   have k2:=k1.trans (zmG hc h1 e2);unfold runB at h;split at h
   ·next s3 e3=>exact k2.trans ((show Old xs s2 s3 from zlB hc h2 e3).trans (QA hc h3 h))
   ·exact k2.trans (zlB hc h2 h)
  ·simp only[zB]at h;obtain⟨q,hq,rfl⟩:=h;exact k1.trans ((zov hc h1 hq).trans (Old.drop xs _ q.2))
 ·contradiction
theorem zwN{E:Env}{cf:Cf}(hc:wH cf){n:Nat}{xs:List Nat}{c:C}(hl:WK c xs=true){st s:St}{e:Ex}(h:exec E cf n c st=some (e,s)):Old xs st s:=by
 induction c generalizing st s e with
 | skip=>simp only[exec,zBB,zBC]at h;obtain⟨_,rfl⟩:=h;exact .refl _ _
 | exit id=>simp only[exec,zBB,zBC]at h;obtain⟨_,rfl⟩:=h;exact .refl _ _
 | ret=>simp only[exec,zBB,zBC]at h;obtain⟨_,rfl⟩:=h;exact .refl _ _
 | reg ops keep=>
  simp only[WK]at hl;simp only[exec]at h;split at h
  ·next s1 he=>
   simp only[zBB,zBC]at h;obtain⟨_,rfl⟩:=h;exact(show Old xs st s1 from QA hc hl he).trans (Old.kept xs keep s1)
  ·next d s1 he=>
   simp only[zBB,zBC]at h;obtain⟨_,rfl⟩:=h;exact QA hc hl he
  ·contradiction
 | drw a0 a1 b1 b keep=>
  simp only[WK,zG]at hl;simp only[exec]at h;split at h
  ·next s1 he=>
   simp only[zBB,zBC]at h;obtain⟨_,rfl⟩:=h;exact(show Old xs st s1 from ziX hc hl.1.1.1 hl.1.1.2 hl.1.2 hl.2 he).trans (Old.kept xs keep s1)
  ·next d s1 he=>
   simp only[zBB,zBC]at h;obtain⟨_,rfl⟩:=h;exact ziX hc hl.1.1.1 hl.1.1.2 hl.1.2 hl.2 he
  ·contradiction
 | seq a b iha ihb=>
  simp only[WK,zG]at hl;simp only[exec]at h;split at h
  ·next s1 he=>exact(iha hl.1 he).trans (ihb hl.2 h)
  ·exact iha hl.1 h
 | cond c a b iha ihb=>
  simp only[WK,zG]at hl;simp only[exec]at h;split at h
  ·exact iha hl.1 h
  ·exact ihb hl.2 h
  ·contradiction
 | blk id c ih=>
  simp only[WK]at hl;simp only[exec]at h;split at h
  ·next i s1 he=>
   have:=ih hl he;split at h<;>(simp only[zBB,zBC]at h;obtain⟨_,rfl⟩:=h;exact this)
  ·exact ih hl h
 | loop c ih=>
  simp only[WK]at hl;simp only[exec]at h;have key : ∀ m {st s e},loopN (exec E cf n c) m st=some (e,s)->Old xs st s:=by
   intro m;induction m with
   | zero=>intro st s e h;simp[loopN]at h
   | succ m ihm=>
    intro st s e h;simp only[loopN]at h;split at h
    ·next s1 he=>exact(ih hl he).trans (ihm h)
    ·exact ih hl h
  exact key n h
theorem zxI{E:Env}{xs:List Nat}{a b:St}(h:Old xs a b){l:List D}(he:evL E b.tm (xs.map X.s)=some l):evL E a.tm (xs.map X.s)=some l:=by
 have key : ∀ (ys:List Nat),(∀ y∈ys,has xs y=true) -> ∀ l,evL E b.tm (ys.map X.s)=some l->evL E a.tm (ys.map X.s)=some l:=by
  intro ys;induction ys with
  | nil=>intro _ l h;exact h
  | cons y r ih=>intro hy l he;simp only[List.map_cons,evL,zA]at he ⊢;obtain⟨d,hd,l',hl',hh⟩:=he;exact⟨d,h y d (hy y (by simp)) hd,l',ih (fun z hz=>hy z (by simp[hz])) l' hl',hh⟩
 refine key xs (fun y hy => ?_) l he;have : ∀ (zs:List Nat),y∈zs->has zs y=true:=by
  intro zs;induction zs with
  | nil=>intro h;simp at h
  | cons z r ih=>
   intro hm;simp only[has];split
   ·rfl
   ·next hne=>
    rcases List.mem_cons.1 hm with rfl | h
    ·exact(hne rfl).elim
    ·exact ih h
 exact this xs hy
theorem zro{E:Env}{cf:Cf}{l:List OpC}(hl:zqC l=true){st s:St}{d:D}(h:runOps E cf l st=some (.pan d s)):False:=by
 induction l generalizing st with
 | nil=>simp[runOps]at h
 | cons o l ih=>
  simp only[zqC,List.all_cons,zG]at hl;simp only[runOps]at h;split at h
  ·exact ih hl.2 h
  ·have ho:=hl.1;unfold opC at h;split at h
   ·simp only[opR,zB]at h;obtain⟨q,hq,hh⟩:=h;cases q with
    | val=>simp[Rv.to]at hh
    | pan e s'=>
     split at ho
     ·next x hx=>rw[hx]at hq;simp[opX]at hq
     ·next x hx=>rw[hx]at hq;simp[opX]at hq
     ·contradiction
   ·simp at h
   ·contradiction
def zvR(G:Nat)(xs:List Nat)(keep:List Nat)(ops:Array Oper):Prop:=
 (∃ tF o1 o2 ty1 ty2,ops = #[o1,o2]/\o1.dst=some tF/\o1.guard=none/\o2.guard=none/\o1.op = .makeFunc (.func G) #[] ((xs.map Operand.tmp).toArray)/\o2.dst=none/\o2.op = .defer { callee := .value (.tmp tF),args := #[],argTypes:=ty1 }/\ty2=o1.type/\has keep tF=false/\has xs tF=false) \/
 (∃ o ty1,ops = #[o]/\o.guard=none/\o.dst=none/\o.op = .defer { callee := .value (.func G),args:=((xs.map Operand.tmp).toArray),argTypes:=ty1 })
def zqo(n:Nat)(ops:Array Oper):Prop:=
 ∃ o1 o2 tr ty1,ops = #[o1,o2]/\o1.dst=some tr/\o1.guard=none/\o2.guard=none/\o1.op = .call { callee := .builtin .recover,args := #[],argTypes:=ty1 }/\o2.dst=some n/\o2.op = .assign (.tmp tr)/\n<tr
def Dfr(P:Program)(ti:Ti)(f:Nat)(fn:Fn)(q:List X×Fn):Prop:=
 ∃ gf gg c0 c2 cr id id0 id2 ops0 dops rops l0 k0 C2 kp dp kp' dp' xs G keep,P.funcs[f]?=some gf/\(gf.name == "runtime.NumGoroutine")=false/\gf.body=some (.seq c0 (.seq (.region id dops false) c2))/\c0 = .region id0 ops0 false/\trC ti gf.ntmps kp dp c0=some (.reg l0 k0)/\zqC l0=true /\
  trC ti gf.ntmps kp dp c2=some C2/\fn.body = .seq (.reg l0 k0) (.seq (.reg [] keep) C2)/\zdA ti gf.results.toList=some fn.res/\zvR G xs keep dops/\q.1=xs.map X.s/\WK C2 xs=true/\(∀ o∈dops.toList,Wq gf.ntmps o.dst=true) /\
  P.funcs[G]?=some gg/\(gg.name == "runtime.NumGoroutine")=false/\gg.body=some (.seq (.region id2 rops false) cr)/\zqo xs.length rops/\trC ti gg.ntmps kp' dp' cr=some q.2.body/\gg.results = #[]/\q.2.raw=false/\q.2.gv=false/\(∀ o∈rops.toList,Wq gg.ntmps o.dst=true)
structure zll(P:Program)(ti:Ti)(E:Env):Prop where
 fns : ∀ f fn,E.fn f=some fn->f<wX/\match E.dfr f with | none=>Plain P ti f fn | some q=>Dfr P ti f fn q
 eff : ∀ f e,E.ext f=some (.eff e) -> ∀ ds st d st' (S:G) (vs:List Value),effD e ds st=some (d,st')->Inv S st->RepL S ds vs ->
  Does P f vs.toArray S.w fun e w' => ∃ S',S'.w=w'/\Ext S S'/\Inv S' st' /\ ∃ v,e = .returned v/\Rep S' d v
 ext : ∀ f h,E.ext f=some (.fn h) -> ∀ ds0 ds d,h ds0 ds=some d -> ∀ (S:G) (st:St) (vs:List Value),Inv S st->RepL S ds0 vs->RepL S ds vs->GlOk S E ->
  Does P f vs.toArray S.w fun e w' => ∃ S',S'.w=w'/\Ext S S'/\Inv S' (told st d).2 /\ ∃ v,e = .returned v/\Rep S' (told st d).1 v
theorem Does.mono{P:Program}{f:Nat}{args:Array Value}{w:World}{R R':Ending->World->Prop}(h:Does P f args w R)(hr : ∀ e w',R e w'->R' e w'):Does P f args w R':=by
 rcases h with⟨h1,h2⟩ | ⟨v,w',h1,h2⟩
 ·exact .inl ⟨h1,Calls.mono h2 hr⟩
 ·exact .inr ⟨v,w',h1,hr _ _ h2⟩
theorem Kv{S:G}{st:St}(hi:Inv S st)(fn:Fn){ds:List D}{vs:List Value}(hr:RepL S ds vs) :
  ∃ (S1:G) (ds1:List D),S1.w=S.w/\Ext S S1/\Inv S1 (home fn ds st)/\RepL S1 ds1 vs/\enter fn ds st={ home fn ds st with tm:=params 0 ds1,lo:=st.nx,lw:=st.nx }:=by
 unfold home enter;split
 ·exact⟨S,ds,rfl,.refl S,hi,hr,rfl⟩
 ·obtain⟨S2,hw2,he2,hi2,hz⟩:=XD hi (refsL ds);exact⟨S2,clL st.mem ds,hw2,he2,hi2,(hr.ext he2).cl hi2 st.mem (fun k hk xs' fz' hm=>hz k xs' fz' hm (.inl hk)),rfl⟩
theorem QW{S1:G}{ds1:List D}{vs:List Value}(hr1:RepL S1 ds1 vs)(tmps:Array Value)(h : ∀ (t:Nat) (v:Value),vs[t]?=some v->tmps[t]?=some v):FrameRep S1 (params 0 ds1) tmps:=by intro t d ht;rw[QG]at ht;simp only[Nat.zero_le,zBv,Nat.sub_zero]at ht;obtain⟨v,hv,hrv⟩:=hr1.get ht;exact⟨v,h t v hv,hrv⟩
theorem zbR(vs:List Value)(n:Nat)(t:Nat)(v:Value)(hv:vs[t]?=some v):(vs.toArray++Array.replicate (n-vs.toArray.size) undef)[t]?=some v:=by
 have hlt:t<vs.length:=by
  rcases zBD t vs.length with h | h
  ·exact h
  ·rw[zBQ h]at hv;simp at hv
 rw[Array.getElem?_append_left (by simpa using hlt)];simpa using hv
section
variable {P:Program} {ti:Ti}
theorem zkU:List.range 2=[0,1]:=rfl
theorem zt5:List.range 1=[0]:=rfl
theorem zp6{G:Nat}{xs keep:List Nat}{ops:Array Oper}(h:zvR G xs keep ops){id:Nat}{a:Act}{w:World}{Q:Exit->Act->World->Prop}(hd : ∀ o∈ops.toList,Wq a.tmps.size o.dst=true)
  (hQ : ∀ a' cap dargs,(∀ t,has keep t=true\/has xs t=true->a'.tmps[t]?=a.tmps[t]?)->a'.tmps.size=a.tmps.size->dargs++cap=((xs.map Operand.tmp).toArray).map a.eval->a'.defers={ target := .fn (.func G) cap,args:=dargs }::a.defers->Q .normal a' w) :
  (Code.region id ops false).wp P Q a w:=by
 refine wp_region ?_;rcases h with⟨tF,o1,o2,ty1,ty2,rfl,h1,h2,h3,h4,h5,h6,_,h7,h8⟩ | ⟨o,ty1,rfl,h2,h3,h4⟩
 ·rw[show(#[o1,o2]:Array Oper).size=2 from rfl,zkU,wpOps_cons];have htF:tF<a.tmps.size:=by have:=hd o1 (by simp);simpa[Wq,h1]using this
  have g0:(#[o1,o2]:Array Oper)[0]?=some o1:=rfl;have g1:(#[o1,o2]:Array Oper)[1]?=some o2:=rfl;have w1 : ∀ y,Region.wanted o1 y=true:=fun y=>by simp[Region.wanted,h2]
  have w2 : ∀ y,Region.wanted o2 y=true:=fun y=>by simp[Region.wanted,h3]
  unfold wpOp;simp only[g0,w1,zBv];refine .inl ?_;unfold Oper.wp;have e1:(execOp a.eval o1).run P w = .ok (.value (.func (.func G) #[] (((xs.map Operand.tmp).toArray).map a.eval))) w:=by simp[execOp,h4,Instr.makeFunc]
  rw[e1,Oper.upon_value,h1,wpOps_cons];generalize hC:((xs.map Operand.tmp).toArray).map a.eval=C at *;unfold wpOp;simp only[g1,w2,zBv];refine .inl ?_;have hs:=Km a tF (.func (.func G) #[] C) htF;have hv:(a.put (some tF) (.func (.func G) #[] C)).eval (.tmp tF) = .func (.func G) #[] C:=by simp only[Act.eval,Array.getD_eq_getD_getElem?,hs];rfl
  have e2:(execOp (a.put (some tF) (.func (.func G) #[] C)).eval o2).run P w = .ok (.defer { target := .fn (.func G) C,args := #[] }) w:=by simp[execOp,h6,resolve,hv,Deferred.ofValue]
  unfold Oper.wp;rw[e2,Oper.upon_defer,h5];refine hQ _ _ _ (fun t ht => ?_) ?_ (by simp) rfl
  ·have hne:tF≠t:=by
    rintro rfl;rcases ht with ht | ht
    ·rw[h7]at ht;contradiction
    ·rw[h8]at ht;contradiction
   exact jj a (some tF) _ (by simpa using hne)
  ·exact wF a (some tF) _
 ·rw[show(#[o]:Array Oper).size=1 from rfl,zt5,wpOps_cons];have g0:(#[o]:Array Oper)[0]?=some o:=rfl;have w1 : ∀ y,Region.wanted o y=true:=fun y=>by simp[Region.wanted,h2]
  unfold wpOp;simp only[g0,w1,zBv];refine .inl ?_;unfold Oper.wp;have e1:(execOp a.eval o).run P w = .ok (.defer { target := .fn (.func G) #[],args:=((xs.map Operand.tmp).toArray).map a.eval }) w:=by simp[execOp,h4,resolve,Deferred.ofValue,Act.eval]
  rw[e1,Oper.upon_defer,h3];exact hQ _ #[] _ (fun t _=>rfl) rfl (by simp) rfl
theorem zru{n:Nat}{ops:Array Oper}(h:zqo n ops){id:Nat}{a:Act}{cs cs':List Frame}{v:Value}{w:World}{Q:Exit->Act->List Frame->World->Prop}(hd : ∀ o∈ops.toList,Wq a.tmps.size o.dst=true)
  (hv:recoverD cs=some (v,cs')\/recoverD cs=none/\v = .nilIface/\cs'=cs)
  (hQ : ∀ a',(∀ t,t<n->a'.tmps[t]?=a.tmps[t]?)->a'.tmps.size=a.tmps.size->a'.tmps[n]?=some v->a'.defers=a.defers->Q .normal a' cs' w):(Code.region id ops false).wpS P Q a cs w:=by
 obtain⟨o1,o2,tr,ty1,rfl,h1,h2,h3,h4,h5,h6,hlt⟩:=h;refine wpS_region ?_;rw[show(#[o1,o2]:Array Oper).size=2 from rfl,zkU];have htr:tr<a.tmps.size:=by have:=hd o1 (by simp);simpa[Wq,h1]using this
 have hn:n<a.tmps.size:=Nat.lt_trans hlt htr;have g0:(#[o1,o2]:Array Oper)[0]?=some o1:=rfl;have g1:(#[o1,o2]:Array Oper)[1]?=some o2:=rfl;have w1 : ∀ y,Region.wanted o1 y=true:=fun y=>by simp[Region.wanted,h2]
 have w2 : ∀ y,Region.wanted o2 y=true:=fun y=>by simp[Region.wanted,h3]
 have e1:(execOp a.eval o1).run P w = .ok .recover w:=by simp[execOp,h4,resolve,invoke,builtin]
 have step:wpOpsS P #[o1,o2] Q [1] (a.put (some tr) v) cs' w:=by
  have hv2:(a.put (some tr) v).eval (.tmp tr)=v:=by simp only[Act.eval,Array.getD_eq_getD_getElem?,Km a tr v htr];rfl
  have e2:(execOp (a.put (some tr) v).eval o2).run P w = .ok (.value v) w:=by simp[execOp,h6,hv2]
  simp only[wpOpsS,g1,w2,zBv,e2,Oper.upon_value,h5];refine hQ _ (fun t ht => ?_) (by rw[wF,wF]) (Km _ n v (by rw[wF];exact hn)) rfl;rw[jj _ (some n) v (by intro e;injection e with e;subst e;exact Nat.lt_irrefl _ ht),jj a (some tr) v (by intro e;injection e with e;subst e;exact Nat.lt_irrefl _ (Nat.lt_trans ht hlt))]
 simp only[wpOpsS,g0,w1,zBv,e1,h1];rcases hv with hv | ⟨hv,rfl,rfl⟩
 ·rw[hv];simpa only[wpOpsS]using step
 ·simp only[wpOpsS,hv]at step ⊢;exact step
variable {E:Env} (hti:yS P ti) (hmix:P.follows .mixedOrders=true)
theorem zvD(hti:yS P ti)(hmix:P.follows .mixedOrders=true){cf:Cf}(hcf:zag P E cf)(hq:wH cf)(hct:XC cf){n:Nat}{q:List X×Fn}{gi:Nat}{gg:Func}{xs:List Nat}{id2:Nat}{rops:Array Oper}{cr:Code}{kp:Nat->List Nat}{dp:Nat->List Nat×List Nat×List Nat×List Nat}
  (h1:P.funcs[gi]?=some gg) (h3:gg.body=some (.seq (.region id2 rops false) cr)) (h4:zqo xs.length rops) (h5:trC ti gg.ntmps kp dp cr=some q.2.body) (h6:gg.results = #[]) (h7:q.2.raw=false) (h8:q.2.gv=false) (h9 : ∀ o∈rops.toList,Wq gg.ntmps o.dst=true)
  {S:G} {s s':St} {l:List D} {vs:List Value} {r:D} {v:Value} (hi:Inv S s) (hg:GlOk S E) (hl:evL E s.tm q.1=some l) (hrl:RepL S l vs) (hlen:vs.length=xs.length) (hr:Rep S r v) (h:dfrRun E cf n q s r=some s')
  {u u':FrameMode} (hu:(∃ v' older,u = .panicking ({ v:=v',recovered:=false }::older)/\v'=v/\u' = .panicking ({ v:=v',recovered:=true }::older))\/u = .returning/\v = .nilIface/\u' = .returning) :
  CallsD P gi vs.toArray u S.w fun e u2 w'=>e = .returned (.tuple #[])/\u2=u' /\ ∃ S',S'.w=w'/\Ext S S'/\Inv S' s':=by
 unfold dfrRun at h;rw[hl]at h;simp only[zD]at h;have hrl2:RepL S (l++[r]) (vs++[v]):=RepL.app hrl ⟨rfl,fun j d w hd hw=>by
  cases j with
  | zero=>simp at hd hw;subst hd;subst hw;exact hr
  | succ j=>simp at hd⟩
 obtain⟨S1,ds1,hw1,he1,hi1,hr1,hen⟩:=Kv hi q.2 hrl2;rw[hen]at h;have hnx:(home q.2 (l++[r]) s).nx=s.nx:=(Fr.home q.2 (l++[r]) s).2;rw[<- hnx]at h;generalize home q.2 (l++[r]) s=st1 at *;obtain⟨e,s2,hex,hs'⟩ : ∃ e s2,exec E cf n q.2.body { st1 with tm:=params 0 ds1,lo:=st1.nx,lw:=st1.nx }=some (e,s2)/\(e = .nrm\/e = .ret)/\s'=(leave q.2 st1 s2 (.tup [])).2:=by
  split at h
  ·next s2 he=>injection h with h;exact⟨_,s2,he,.inl rfl,h.symm⟩
  ·next s2 he=>injection h with h;exact⟨_,s2,he,.inr rfl,h.symm⟩
  ·contradiction
 obtain⟨hee,rfl⟩:=hs';have hcs : ∀ (c₀:Frame) (cs:List Frame),c₀.mode=u -> ∃ cs',cs'={ c₀ with mode:=u' }::cs/\(recoverD (c₀::cs)=some (v,cs')\/recoverD (c₀::cs)=none/\v = .nilIface/\cs'=c₀::cs):=by
  intro c₀ cs hc;refine⟨_,rfl,?_⟩;rcases hu with⟨v',older,rfl,rfl,rfl⟩ | ⟨rfl,rfl,rfl⟩
  ·left;simp[recoverD,hc]
  ·right;refine⟨by simp[recoverD,hc],rfl,?_⟩;cases c₀;simp_all
 refine callsD_of_wpS h1 h3 fun c₀ cs hc => ?_
 obtain⟨cs',hcs1,hcs2⟩:=hcs c₀ cs hc;have hsz:(vs.toArray++Array.replicate (gg.ntmps-vs.toArray.size) undef).size≥gg.ntmps:=by simp;omega
 refine wpS_seq (zru h4 (v:=v) (cs':=cs') (fun o ho => ?_) hcs2 ?_)
 ·have:=h9 o ho;unfold Wq at this ⊢;split at this
  ·have:=of_decide_eq_true this;exact zBz (zK this hsz)
  ·rfl
 intro a' ha1 ha2 ha3 ha4;show cr.wpS P _ a' cs' S.w;refine wpS_of_wp ?_;rw[<- hw1];have hi0:Inv S1 { st1 with tm:=params 0 ds1,lo:=st1.nx,lw:=st1.nx }:=⟨hi1.nx,hi1.ob,hi1.tip,hi1.out,hi1.dis,hi1.own⟩
 have hf0:FrameRep S1 (params 0 ds1) a'.tmps:=by
  refine QW hr1 _ fun t w hw => ?_
  rw[List.getElem?_append]at hw;split at hw
  ·next hlt=>
   rw[ha1 t (by omega)];exact zbR vs _ t w hw
  ·next hge=>
   have:t=xs.length:=by
    rcases zBD (t-vs.length) 1 with h | h
    ·omega
    ·rw[zBQ (by simpa using h)]at hw;simp at hw
   subst this;have:w=v:=by rw[show xs.length-vs.length=0 by omega]at hw;simpa using hw.symm
   rw[ha3,this]
 have fin : ∀ S' a'',Ext S1 S'->Inv S' s2->FrameRep S' s2.tm a''.tmps->a''.tmps.size=a'.tmps.size->a''.defers=a'.defers->bodyPostS P gg c₀ cs (fun e u2 w'=>e = .returned (.tuple #[])/\u2=u' /\ ∃ S',S'.w=w'/\Ext S S'/\Inv S' (leave q.2 st1 s2 (.tup [])).2) .ret a'' cs' S'.w:=by intro S' a'' hx hi' _ _ hd;have hfr:Fr { st1 with tm:=params 0 ds1,lo:=st1.nx,lw:=st1.nx } s2:=Fr.exec hq hex;obtain⟨S3,hw3,he3,hi3,_⟩:=WJ hi1 hx hi' hfr q.2 (d := .tup []) (v := .tuple #[]) (.tup [] #[] rfl (fun j d v hd=>by simp at hd));refine⟨hd.trans ha4,u',hcs1,.tuple #[],by simp[results,h6],rfl,rfl,S3,hw3,he1.trans he3,hi3⟩
 refine Qp hti hmix hcf hq hct n h5 hi0 hf0 (hg.ext he1) (by rw[ha2];exact hsz) hex _ ?_;rcases hee with rfl | rfl
 ·exact fin
 ·exact fin
theorem zts(hti:yS P ti)(hmix:P.follows .mixedOrders=true){cf:Cf}(hcf:zag P E cf)(hq:wH cf)(hct:XC cf){n:Nat}{f:Nat}{fn:Fn}{q:List X×Fn}(hD:Dfr P ti f fn q)(hdf:E.dfr f=some q)(hlt:f<wX){ds:List D}{st:St}{o:Out}{st':St}
  (h:xK E cf n f fn ds st (exec E cf n fn.body (enter fn ds st))=some (o,st')) {S:G} {vs:List Value} (hi:Inv S st) (hr:RepL S ds vs) (hg:GlOk S E) :
  Does P f vs.toArray S.w fun e w' => ∃ S',S'.w=w'/\Ext S S'/\Inv S' st'/\zxK o S' e:=by
 obtain⟨gf,gg,c0,c2,cr,id,id0,id2,ops0,dops,rops,l0,k0,C2,kp,dp,kp',dp',xs,gi,keep,hP,hname,hbody,rfl,ht0,hmk,ht2,hfb,hres,hdo,hqx,hds,hdd,hP2,hname2,hbody2,hrec,htr,hr0,hraw,hgv,hrd⟩:=hD;obtain⟨S1,ds1,hw1,he1,hi1,hr1,hen⟩:=Kv hi fn hr;have hnx:(home fn ds st).nx=st.nx:=(Fr.home fn ds st).2;rw[hen]at h;rw[<- hnx]at h;generalize hst1:home fn ds st=st1 at *;have hwrap : ∀ d,kW f d=d:=fun d=>by unfold kW zo;rw[zBt (by unfold wX at hlt;omega)]
 refine .inl ⟨by
   have hn:gf.name ≠ "runtime.NumGoroutine" := by simpa using hname
   simp[callFunc,hP,hn,hbody],?_⟩
 refine calls_of_wp_defers hP hbody ?_;rw[<- hw1];have hi0:Inv S1 { st1 with tm:=params 0 ds1,lo:=st1.nx,lw:=st1.nx }:=⟨hi1.nx,hi1.ob,hi1.tip,hi1.out,hi1.dis,hi1.own⟩
 have hf0:FrameRep S1 (params 0 ds1) (vs.toArray++Array.replicate (gf.ntmps-vs.toArray.size) undef):=QW hr1 _ (zbR vs _);have hsz:gf.ntmps<=(vs.toArray++Array.replicate (gf.ntmps-vs.toArray.size) undef).size:=by simp;omega
 rw[hfb]at h
 -- the head
 cases he0:exec E cf n (.reg l0 k0) { st1 with tm:=params 0 ds1,lo:=st1.nx,lw:=st1.nx } with
 | none=>simp only[exec]at h he0;rw[he0]at h;simp[xK]at h
 | some w0=>
  obtain⟨e0,s0⟩:=w0;have he0n:e0 = .nrm:=by
   simp only[exec]at he0;split at he0
   ·simp only[zBB,zBC]at he0;exact he0.1.symm
   ·next d s hp=>exact(zro hmk hp).elim
   ·contradiction
  subst he0n;have hx0:exec E cf n (.seq (.reg l0 k0) (.seq (.reg [] keep) C2)) { st1 with tm:=params 0 ds1,lo:=st1.nx,lw:=st1.nx }=exec E cf n C2 { s0 with tm:=kept keep s0.tm }:=by rw[exec,he0];simp only[exec,runOps]
  rw[hx0]at h;refine wp_seq (Qp hti hmix hcf hq hct n ht0 hi0 hf0 (hg.ext he1) hsz he0 _ ?_);intro S2 a1 hext1 hi2 hf2 hs1 hd1;show(Code.seq (.region id dops false) c2).wp P _ a1 S2.w;refine wp_seq (zp6 hdo (fun o ho => ?_) ?_)
  ·have:=hdd o ho;unfold Wq at this ⊢;split at this
   ·have:=of_decide_eq_true this;exact zBz (by rw[hs1];exact zK this hsz)
   ·rfl
  intro a2 cap dargs ha1 ha2 hargs ha3;show c2.wp P _ a2 S2.w;cases hex:exec E cf n C2 { s0 with tm:=kept keep s0.tm } with
  | none=>rw[hex]at h;simp[xK]at h
  | some w=>
   obtain⟨e,s⟩:=w;rw[hex]at h;have hi2':Inv S2 { s0 with tm:=kept keep s0.tm }:=hi2.tm _;have hf2':FrameRep S2 (kept keep s0.tm) a2.tmps:=by
    intro t d ht;rw[vy]at ht;split at ht
    ·next hk=>rw[ha1 t (.inl hk)];exact hf2 t d ht
    ·contradiction
   have hold:Old xs s0 s:=(Old.kept xs keep s0).trans (zwN hq hds hex);have hfr1:Fr { st1 with tm:=params 0 ds1,lo:=st1.nx,lw:=st1.nx } s:=(Fr.exec hq he0).trans ((Fr.tm s0 _).trans (Fr.exec hq hex))
   -- the deferred call, and the results
   have door : ∀ (r:D) (v:Value) (u u':FrameMode) (S3:G) (a3:Act),Ext S2 S3->Inv S3 s->FrameRep S3 s.tm a3.tmps->a3.defers=a2.defers->Rep S3 r v->settle u' = .returning->u ≠ .run ->
     ((∃ v' older,u = .panicking ({ v:=v',recovered:=false }::older)/\v'=v/\u' = .panicking ({ v:=v',recovered:=true }::older))\/u = .returning/\v = .nilIface/\u' = .returning) ->
     (dfrRun E cf n q s r).bind (jB f fn ds st)=some (o,st') ->
     Leaves P gf a3.tmps (fun e w' => ∃ S',S'.w=w'/\Ext S S'/\Inv S' st'/\zxK o S' e) a3.defers u S3.w:=by
    intro r v u u' S3 a3 hext3 hi3 hf3 hd3 hrv hset hrun hu hb;rw[zA]at hb;obtain⟨s4,h4,h5⟩:=hb;have h4':=h4;unfold dfrRun at h4';rw[zA]at h4';obtain⟨l,hl,_⟩:=h4';have hl0:=hl;rw[hqx]at hl0;have hl1:=zxI hold hl0;have hvals:RepL S3 l (xs.map fun x=>a1.eval (.tmp x)):=by
     have key : ∀ (ys:List Nat) l,evL E s0.tm (ys.map X.s)=some l->RepL S2 l (ys.map fun x=>a1.eval (.tmp x)):=by
      intro ys;induction ys with
      | nil=>intro l h;injection h with h;subst h;exact⟨rfl,fun j d v hd=>by simp at hd⟩
      | cons y r ih=>
       intro l h;simp only[List.map_cons,evL,zA]at h;obtain⟨d,hd,l',hl',hh⟩:=h;injection hh with hh;subst hh;obtain⟨v,hv,hrv⟩:=hf2 y d hd;have hev:a1.eval (.tmp y)=v:=by simp only[Act.eval,Array.getD_eq_getD_getElem?,hv];rfl
       have ih:=ih l' hl';refine⟨by simp[ih.1],fun j d' v' hd' hv' => ?_⟩;cases j with
       | zero=>simp at hd' hv';subst hd';subst hv';rw[hev];exact hrv
       | succ j=>simp at hd' hv';exact ih.2 j d' v' hd' (by simpa using hv')
     exact(key xs l hl1).ext hext3
    have hc:=zvD hti hmix hcf hq hct hP2 hbody2 hrec htr hr0 hraw hgv hrd hi3 (hg.ext (he1.trans (hext1.trans hext3))) hl hvals (by simp) hrv h4 hu;have hinv:(invoke (.fn (.func gi) cap) dargs).run P S3.w = .ok (.enter gi (xs.map fun x=>a1.eval (.tmp x)).toArray) S3.w:=by
     have hn:gg.name ≠ "runtime.NumGoroutine" := by simpa using hname2
     have e1:dargs++cap=(xs.map fun x=>a1.eval (.tmp x)).toArray:=by rw[hargs];simp[Function.comp_def]
     simp[invoke,e1,callFunc,hP2,hn,hbody2]
    rw[hd3,ha3,hd1];refine leaves_cons hrun hinv (hc.mono ?_);rintro e u2 w' ⟨rfl,rfl,S4,hw4,hx4,hi4⟩;show Leaves P gf a3.tmps _ [] (settle u2) w';rw[hset,<- hw4];have htm:s4.tm=s.tm:=(Fq.dfrRun hq h4).tm;simp only[jB,hwrap,zB,zBC]at h5;obtain⟨l2,hl2,rfl,rfl⟩:=h5;have hf4:FrameRep S4 s4.tm a3.tmps:=by rw[htm];exact hf3.ext hx4
    obtain⟨v5,hrun5,hv5⟩:=za1 hti hi4 hf4 hres hl2;have hfr4:Fr { st1 with tm:=params 0 ds1,lo:=st1.nx,lw:=st1.nx } s4:=hfr1.trans (Fq.dfrRun hq h4).toFr;rw[hst1];obtain⟨S5,hw5,he5,hi5,hr5⟩:=WJ hi1 (hext1.trans (hext3.trans hx4)) hi4 hfr4 fn hv5;exact⟨v5,hrun5,S5,hw5,he1.trans he5,hi5,_,rfl,hr5⟩
   refine Qp hti hmix hcf hq hct n ht2 hi2' hf2' (hg.ext (he1.trans hext1)) (by rw[ha2,hs1];exact hsz) hex _ ?_;cases e with
   | nrm=>intro S3 a3 hx3 hi3 hf3 hs3 hd3;simp only[xK,hdf]at h;exact door .nili .nilIface .returning .returning S3 a3 hx3 hi3 hf3 hd3 .nili rfl (by simp) (.inr ⟨rfl,rfl,rfl⟩) h
   | ret=>intro S3 a3 hx3 hi3 hf3 hs3 hd3;simp only[xK,hdf]at h;exact door .nili .nilIface .returning .returning S3 a3 hx3 hi3 hf3 hd3 .nili rfl (by simp) (.inr ⟨rfl,rfl,rfl⟩) h
   | pan d=>intro S3 a3 v hx3 hi3 hf3 hs3 hd3 hv;simp only[xK,hdf]at h;exact door d v (.panicking [{ v:=v,recovered:=false }]) (.panicking [{ v:=v,recovered:=true }]) S3 a3 hx3 hi3 hf3 hd3 hv rfl (by simp) (.inl ⟨v,[],rfl,rfl,rfl⟩) h
   | ext i=>simp only[xK]at h;rw[zBt (by unfold wX at hlt;unfold zo;omega)]at h;contradiction
variable (hE:zll P ti E)
theorem zp1(hti:yS P ti)(hmix:P.follows .mixedOrders=true)(hE:zll P ti E)(n:Nat):zag P E (call E n):=by
 induction n with
 | zero=>intro f ds st o st' h;simp[call]at h
 | succ n ih=>
  intro f ds st o st' h S vs hi hr hg;rw[call]at h;split at h
  ·next e hx=>
   simp only[zB,zBC]at h;obtain⟨⟨d,s⟩,hd,rfl,rfl⟩:=h;refine(hE.eff f e hx ds st d s S vs hd hi hr).mono ?_;rintro e w' ⟨S',hw',he',hi',v,rfl,hv⟩;exact⟨S',hw',he',hi',_,rfl,hv⟩
  ·next g hx=>
   simp only[zB,zBC]at h;obtain⟨d,hd,rfl,rfl⟩:=h;obtain⟨S2,hw2,he2,hi2,hz⟩:=XD hi (refsL ds);have hcl:RepL S2 (clL st.mem ds) vs:=(hr.ext he2).cl hi2 st.mem (fun k hk xs' fz' hm=>hz k xs' fz' hm (.inl hk));have:=hE.ext f g hx _ _ d hd S2 _ vs hi2 (hr.ext he2) hcl (hg.ext he2);rw[hw2]at this;refine this.mono ?_;rintro e w' ⟨S',hw',he',hi',v,rfl,hv⟩;exact⟨S',hw',he2.trans he',hi',_,rfl,hv⟩
  ·simp only[zA]at h;obtain⟨fn,hfn,h⟩:=h;obtain⟨hlt,hpl⟩:=hE.fns f fn hfn;cases hdf:E.dfr f with
   | some q=>rw[hdf]at hpl;exact zts hti hmix ih Fq.call (zgx E n) hpl hdf hlt h hi hr hg
   | none=>
   rw[hdf]at hpl;obtain⟨g,c,kp,dp,hP,hname,hbody,htr,hres⟩:=hpl;obtain⟨S1,ds1,hw1,he1,hi1,hr1,hen⟩:=Kv hi fn hr;have hnx:(home fn ds st).nx=st.nx:=(Fr.home fn ds st).2;rw[hen]at h;rw[<- hnx]at h;have hwrap : ∀ d,kW f d=d:=fun d=>by unfold kW zo;rw[zBt (by unfold wX at hlt;omega)]
   generalize hst1:home fn ds st=st1 at *;refine .inl ⟨by
     have hn:g.name ≠ "runtime.NumGoroutine" := by simpa using hname
     simp[callFunc,hP,hn,hbody],?_⟩
   refine calls_of_wp hP hbody ?_;rw[<- hw1];have hi0:Inv S1 { st1 with tm:=params 0 ds1,lo:=st1.nx,lw:=st1.nx }:=⟨hi1.nx,hi1.ob,hi1.tip,hi1.out,hi1.dis,hi1.own⟩
   have hf0:FrameRep S1 (params 0 ds1) (vs.toArray++Array.replicate (g.ntmps-vs.toArray.size) undef):=QW hr1 _ (zbR vs _);have hsz:g.ntmps<=(vs.toArray++Array.replicate (g.ntmps-vs.toArray.size) undef).size:=by simp;omega
   cases hex:exec E (call E n) n fn.body { st1 with tm:=params 0 ds1,lo:=st1.nx,lw:=st1.nx } with
   | none=>rw[hex]at h;simp[xK]at h
   | some w=>
    obtain⟨e,s⟩:=w;rw[hex]at h;have leaveR : ∀ {S':G} {a':Act},jB f fn ds st s=some (o,st')->Ext S1 S'->Inv S' s->FrameRep S' s.tm a'.tmps -> ∃ v,(results g a'.tmps).run P S'.w = .ok v S'.w /\
       ∃ S'':G,S''.w=S'.w/\Ext S S''/\Inv S'' st'/\zxK o S'' (.returned v):=by
     intro S' a' hl hext hi' hf';simp only[jB,hwrap,zB,zBC]at hl;obtain⟨l,hl,rfl,rfl⟩:=hl;obtain⟨v,hrun,hv⟩:=za1 hti hi' hf' hres hl;have hfr:Fr { st1 with tm:=params 0 ds1,lo:=st1.nx,lw:=st1.nx } s:=Fr.exec Fq.call hex;rw[hst1];obtain⟨S'',hw'',he'',hi'',hr''⟩:=WJ hi1 hext hi' hfr fn hv;exact⟨v,hrun,S'',hw'',he1.trans he'',hi'',_,rfl,hr''⟩
    refine Qp hti hmix ih Fq.call (zgx E n) n htr hi0 hf0 (hg.ext he1) hsz hex _ ?_;cases e with
    | nrm=>simp only[xK,hdf]at h;intro S' a' hext hi' hf' h1 h2;obtain⟨v,hrun,hR⟩:=leaveR h hext hi' hf';exact⟨h2,v,hrun,hR⟩
    | ret=>simp only[xK,hdf]at h;intro S' a' hext hi' hf' h1 h2;obtain⟨v,hrun,hR⟩:=leaveR h hext hi' hf';exact⟨h2,v,hrun,hR⟩
    | pan d=>simp only[xK,hdf,zBB,zBC]at h;obtain⟨rfl,rfl⟩:=h;intro S' a' v hext hi' _ _ h2 hv;have hfr:Fr { st1 with tm:=params 0 ds1,lo:=st1.nx,lw:=st1.nx } s:=Fr.exec Fq.call hex;rw[hst1];obtain⟨S'',hw'',he'',hi'',hr''⟩:=WJ hi1 hext hi' hfr fn hv;exact⟨h2,S'',hw'',he1.trans he'',hi'',_,v,rfl,rfl,hr''⟩
    | ext i=>simp only[xK]at h;rw[zBt (by unfold wX at hlt;unfold zo;omega)]at h;contradiction
end
end
end Go.Ev
