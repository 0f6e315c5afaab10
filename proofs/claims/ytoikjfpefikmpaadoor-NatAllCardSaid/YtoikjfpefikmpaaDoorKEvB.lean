/- The machines Ev and Pv, part 2: an abstract machine over the translated code, proved sound once. -/
import Derived.Test.YtoikjfpefikmpaaDoorKEvA
import Derived.Laws.BytesArg
import Derived.Laws.IdiomStrings
import Derived.Orders
import Derived.LoopN
import Derived.Scope
import Derived.Below
set_option linter.all false
open Option renaming bind_eq_some_iff→zA,map_eq_some_iff→zB,map_some→zC,bind_some→zD
open Bool renaming and_eq_true→zG
open Nat renaming eq_of_beq_eq_true→zJ,le_refl→zR
open List renaming getElem?_eq_getElem→zL,mem_cons_of_mem→zP,take_of_length_le→zV
section
namespace Go.Ev
section
variable {P:Program} {E:Env} {ti:Ti} {st:St} {S:G} {a:Act} {o:Oper} (hti:TiOk P ti) (hi:Inv S st) (hf:FrameRep S st.tm a.tmps) (hg:GlOk S E)
theorem wrap_small{q:Int}(h0:0≤q)(h1:q≤140737488355328):IntKind.i64.wrap q=q:=by
 have e1:(2:Int) ^ IntKind.i64.bits=18446744073709551616:=by decide
 have e2:(2:Int) ^ (IntKind.i64.bits - 1)=9223372036854775808:=by decide
 simp only[IntKind.wrap,e1,e2]
 rw[if_neg]
 ·omega
 ·simp only[zG,decide_eq_true_eq];omega
theorem y_mks(hti:TiOk P ti)(hi:Inv S st)(hf:FrameRep S st.tm a.tmps)(hg:GlOk S E)(t:Nat)(x y:Operand)(ho:o.op = .makeSlice t x y){i:TI}(ht:ti t=some i){e:Nat}(hk:i.k = .slice e){j:TI}(hj:ti e=some j){x' y':X}(hx:trX x=some x')(hy:trX y=some y')
  {r:Option D} {st':St} (h:opD E st (.mks j.z j.bytes x' y')=some (r,st')):Yields P S a o r st':=by
 simp only[opD]at h
 split at h
 ·next n c hn hc=>
  split at h
  ·next hcond=>
   obtain⟨h0,h1,h2,h3,h4,h5⟩:=hcond
   simp only[Option.some.injEq,Prod.mk.injEq]at h
   obtain⟨rfl,rfl⟩:=h
   have hv1:=(Rep.ev hf hg hx hn).int_inv
   have hv2:=(Rep.ev hf hg hy hc).int_inv
   have hu:=ti_slice hti ht hk
   obtain⟨d,inf,z,k1,k2,k3,k4,k5,k6,k7,k8⟩:=ti_spec hti hj
   have hz:=RepL.ofVL S k8
   have hzl:j.z.length=j.sz:=by have:=hz.1;simp at this;omega
   have hz2:RepL S (rep c.toNat j.z) ((Array.range (c.toNat * inf.size)).map (z.cells[· % z.cells.size]!)).toList:=rep_zeros hz c.toNat _ (by rw[k5,hzl])
   obtain⟨S',hw,he,hinv,hm,hnx⟩:=new_row hi (rep c.toNat j.z) _ e (SameW.refl S.w) hz2
   refine Yields.mem (S':=S') (v := .slice (some ⟨S.w.heap.size,0,none⟩) n.toNat c.toNat) ?_ he hinv (.ref st.nx 0 _ _ _ _ hnx hm)
   simp only[execOp,ho,hv1,hv2]
   refine run_value ?_
   have w1:=wrap_small h0 (by omega:n≤140737488355328)
   have w2:=wrap_small (by omega:0≤c) h3
   have b1 : ∀ q:Int,0≤q→q≤c → ¬ (q<0∨281474976710656<(inf.bytes:Int) * q):=by
    intro q hq0 hqc
    rw[k6]
    have:(j.bytes:Int) * q≤c * (j.bytes:Int):=by
     rw[Int.mul_comm]
     exact Int.mul_le_mul_of_nonneg_right hqc (by omega)
    omega
   have b2:=b1 c (by omega) (by omega)
   have b2a : ¬ c<0:=by omega
   have b2b : ¬ 281474976710656<(inf.bytes:Int) * c:=fun h=>b2 (.inr h)
   have hn0 : ¬ n<0:=by omega
   have hnc : ¬ c<n:=by omega
   rw[hw]
   by_cases hcz:c.toNat * inf.size=0
   ·have hc0:c.toNat=0:=by
     rcases Nat.mul_eq_zero.1 hcz with h | h<;>omega
    have hc00:c=0:=by omega
    have hn00:n=0:=by omega
    subst hc00 hn00
    simp[Instr.makeSlice,run_underlying hu,asInt,asIntOf,typeInfo,k2,sizeOf,w1,newRow,askRoom,roomBytes,show Array.range 0 = #[]from rfl]
   ·simp[Instr.makeSlice,run_underlying hu,asInt,asIntOf,typeInfo,k2,k3,sizeOf,w1,w2,b2a,b2b,hn0,hnc,hcz,zeroValue,newRow]
  ·simp at h
 ·simp at h
theorem bytes_of{ys:List D}{us:List Value}{l:List UInt8}(e5:RepL S ys us)(hl:asBytes ys=some l) : ∃ ns:List Int,us=ns.map (Value.int .u8)∧l=ns.map fun n=>UInt8.ofNat n.toNat:=by
 induction ys generalizing us l with
 | nil=>
  simp only[asBytes,Option.some.injEq]at hl
  subst hl
  have:=e5.1
  exact⟨[],by simpa using this,rfl⟩
 | cons q r ih=>
  cases us with
  | nil=>have:=e5.1;simp at this
  | cons u us=>
   have hq : ∃ m l',q = .int .u8 m∧asBytes r=some l'∧l=UInt8.ofNat m.toNat::l':=by
    unfold asBytes at hl
    split at hl
    ·next h=>simp at h
    ·next m r' h=>
     injection h with h1 h2
     subst h1 h2
     simp only[zA,Option.some.injEq]at hl
     obtain⟨l',hl1,hl2⟩:=hl
     exact⟨m,l',rfl,hl1,hl2.symm⟩
    ·simp at hl
   obtain⟨m,l',rfl,h3,rfl⟩:=hq
   have hu:=(e5.2 0 (.int .u8 m) u rfl rfl).int_inv
   obtain⟨ns,h4,h5⟩:=ih ⟨by have:=e5.1;simpa using this,fun j d v hd hv=>e5.2 (j+1) d v (by simpa using hd) (by simpa using hv)⟩ h3
   exact⟨m::ns,by rw[hu,h4];rfl,by rw[h5];rfl⟩
theorem y_cbs(hti:TiOk P ti)(hi:Inv S st)(hf:FrameRep S st.tm a.tmps)(hg:GlOk S E)(s t:Nat)(x:Operand)(ho:o.op = .convert s t x){i j:TI}(hs:ti s=some i)(ht:ti t=some j){e:Nat}(hk:i.k = .slice e)(hk':j.k = .str){k:TI}(he:ti e=some k)(hke:k.k = .int .u8){y:X}(hx:trX x=some y)
  {r:Option D} {st':St} (h:opD E st (.cbs y)=some (r,st')):Yields P S a o r st':=by
 simp only[opD,zA]at h
 obtain⟨d,hd,h⟩:=h
 have h1:=Rep.ev hf hg hx hd
 have hus':=ti_slice hti hs hk
 have hut:=ti_str hti ht hk'
 have hue:=ti_int hti he hke
 have main : ∀ (p:Nat×List D) (l:List UInt8),elems st 1 d=some p→asBytes p.2=some l→r=some (.str l)→st'=st→(∃ A n c,a.eval x = .slice A n c)→Yields P S a o r st':=by
  intro p l hp hl hr hst hA
  subst hr hst
  obtain⟨n,ys⟩:=p
  obtain⟨e1,e2,e3⟩:=elems_sound (P:=P) hi (by omega) h1 hp
  obtain⟨us,e4,e5⟩:=e3 n (zR _)
  rw[Nat.mul_one]at e1 e5
  rw[← e1,List.take_length]at e5
  refine Yields.val (v := .string ⟨l.toArray⟩) ?_ hi (.str l)
  obtain⟨A,n',c,hv⟩:=hA
  have hlen:(Builtin.lenOf (a.eval x)).run P S.w = .ok n S.w:=e2
  rw[hv]at hlen e4
  have hn:n'=n:=by simpa[Builtin.lenOf]using hlen
  subst hn
  have e4:=e4 S.w rfl
  -- the cells are these bytes
  have hus:=bytes_of e5 hl
  obtain⟨ns,hu1,hu2⟩:=hus
  simp only[execOp,ho,hv]
  refine run_value ?_
  cases A with
  | none=>
   rw[run_convert_bytes_string S.w s t e none n' c hus' hue hut]
   have h0:us=[]:=by
    simp only[Builtin.firstCells,Sem.run_pure,Result.ok.injEq,and_true]at e4
    simpa using e4.symm
   have:ns=[]:=by rw[h0]at hu1;simpa using hu1.symm
   subst this
   rw[hu2]
   simp[Conv.bytesToString]
   rfl
  | some A=>
   rw[run_convert_bytes_string S.w s t e (some A) n' c hus' hue hut,run_bytesToString S.w A n' c ns (by
    simp only[Builtin.firstCells,Nat.mul_one]at e4
    rw[← hu1];exact e4),foldl_push_bytes]
   rw[hu2]
   simp[ByteArray.empty,ByteArray.emptyWithCapacity]
   rfl
 split at h
 ·simp only[zA,zB,Prod.mk.injEq]at h
  obtain⟨p,hp,l,hl,h3,h4⟩:=h
  refine main p l hp hl h3.symm h4.symm ?_
  generalize a.eval x=v at h1
  cases h1;exact⟨_,_,_,rfl⟩
 ·simp only[zA,zB,Prod.mk.injEq]at h
  obtain⟨p,hp,l,hl,h3,h4⟩:=h
  refine main p l hp hl h3.symm h4.symm ?_
  generalize a.eval x=v at h1
  cases h1;exact⟨_,_,_,rfl⟩
 ·simp at h
theorem y_csb(hti:TiOk P ti)(hi:Inv S st)(hf:FrameRep S st.tm a.tmps)(hg:GlOk S E)(s t:Nat)(x:Operand)(ho:o.op = .convert s t x){i j:TI}(hs:ti s=some i)(ht:ti t=some j){e:Nat}(hk:i.k = .str)(hk':j.k = .slice e){k:TI}(he:ti e=some k)(hke:k.k = .int .u8){y:X}(hx:trX x=some y)
  {r:Option D} {st':St} (h:opD E st (.csb y)=some (r,st')):Yields P S a o r st':=by
 simp only[opD]at h
 split at h
 ·next l hl=>
  simp only[Option.some.injEq,Prod.mk.injEq]at h
  obtain⟨rfl,rfl⟩:=h
  have hv:=(Rep.ev hf hg hx hl).str_inv
  have hus:=ti_str hti hs hk
  have hut:=ti_slice hti ht hk'
  have hue:=ti_int hti he hke
  have hrun:=run_bytes_of_string (P:=P) S.w s t e ⟨l.toArray⟩ hus hut hue
  generalize hrow:bytesRow ⟨l.toArray⟩ (grownCap S.w (⟨l.toArray⟩:ByteArray).size 0 e)=row at hrun
  have hsz:(⟨l.toArray⟩:ByteArray).size=l.length:=rfl
  have hrl:row.toList=l.map (fun b=>Value.int .u8 b.toNat)++List.replicate (grownCap S.w l.length 0 e - l.length) (.int .u8 0):=by
   rw[← hrow];simp[bytesRow,hsz]
  obtain⟨S',hw,he',hinv,hφ⟩:=new_lit hi (.cells row e (row.size,row.size+1)) l.length (SameW.drew S.w)
  refine Yields.mem (S':=S') (v := .slice (some ⟨S.w.heap.size,0,none⟩) l.length (grownCap S.w l.length 0 e)) ?_ he' hinv ?_
  ·simp only[execOp,ho,hv]
   refine run_value ?_
   rw[hw];exact hrun
  ·have hheap:S'.w.heap[S.w.heap.size]?=some (.cells row e (row.size,row.size+1)):=by rw[hw];exact heap_alloc_new _ _
   refine .sl .no _ _ _ _ S.w.heap.size 0 (fun j=>(row[j]?).getD undef) (grownCap_ge _ _ _ _) (.inr rfl) (fun j hj => ?_) (fun j d hd => ?_) (.inr ?_) trivial
   ·have hj':j<l.length:=by simpa[ofBytes]using hj
    have hj2:j<row.size:=by
     have:=congrArg List.length hrl
     simp at this;omega
    simp only[World.cell?,hheap,Nat.zero_add]
    simp[hj2]
   ·obtain⟨v,hv2,hr⟩:=(bytes_cells (S:=S') l).get hd
    have:row[j]?=some v:=by
     rw[← Array.getElem?_toList,hrl,List.getElem?_append_left]
     ·exact hv2
     ·rcases Nat.lt_or_ge j (l.map fun b=>Value.int .u8 (b.toNat:Int)).length with h | h
      ·exact h
      ·rw[List.getElem?_eq_none h]at hv2;simp at hv2
    rw[this];exact hr
   ·rw[hφ];simp[ofBytes]
 ·simp at h
theorem y_sls(hti:TiOk P ti)(hi:Inv S st)(hf:FrameRep S st.tm a.tmps)(hg:GlOk S E)(t:Nat)(x:Operand)(xl xh:Option Operand)(ho:o.op = .slice t x xl xh none){i:TI}(ht:ti t=some i)(hk:i.k = .str)
  {y:X} (hx:trX x=some y) {yl yh:Option X} (hl:trOp xl=some yl) (hh:trOp xh=some yh) {r:Option D} {st':St}
  (h:opD E st (.sls y yl yh)=some (r,st')):Yields P S a o r st':=by
 simp only[opD,zA,zB,Prod.mk.injEq]at h
 obtain⟨d,hd,dl,hdl,dh,hdh,v,hv,rfl,rfl⟩:=h
 have h1:=Rep.ev hf hg hx hd
 have el:=Rep.evO hf hg hl hdl
 have eh:=Rep.evO hf hg hh hdh
 have hu:=ti_str hti ht hk
 unfold sliceS at hv
 split at hv
 ·next s=>
  simp only[zA]at hv
  obtain⟨l',hl',h',hh',hv⟩:=hv
  split at hv
  ·next hc=>
   injection hv with hv;subst hv
   have hvx:=h1.str_inv
   have hsz:(⟨s.toArray⟩:ByteArray).size=s.length:=rfl
   have hb:=run_sliceBounds (P:=P) (S:=S) (a:=a) (isS:=false) (len:=s.length) (cap:=s.length) (xm:=none) (m:=s.length) (bnd_ok el hl') (bnd_ok eh hh') (.inl ⟨rfl,rfl⟩) (.inl rfl) hc.1 hc.2 (zR _)
   refine Yields.val (v := .string ⟨((s.drop l').take (h' - l')).toArray⟩) ?_ hi (.str _)
   simp only[execOp,ho,hvx]
   refine run_value ?_
   have hex:(⟨s.toArray⟩:ByteArray).extract l' h'=⟨((s.drop l').take (h' - l')).toArray⟩:=by
    apply ByteArray.ext
    rw[ByteArray.data_extract]
    simp[List.extract]
   simp only[Option.map_none]at hb
   simp[Instr.sliceAt,run_underlying hu,Instr.slice,hsz,hb,hex]
  ·simp at hv
 ·simp at hv
theorem y_sla(hti:TiOk P ti)(hi:Inv S st)(hf:FrameRep S st.tm a.tmps)(hg:GlOk S E)(t:Nat)(x:Operand)(xl xh xm:Option Operand)(ho:o.op = .slice t x xl xh xm){i:TI}(ht:ti t=some i){n e:Nat}(hk:i.k = .arr n e){j:TI}(hj:ti e=some j)
  {y:X} (hx:trX x=some y) {yl yh ym:Option X} (hl:trOp xl=some yl) (hh:trOp xh=some yh) (hm:trOp xm=some ym) {r:Option D} {st':St}
  (h:opD E st (.sla n j.sz y yl yh ym)=some (r,st')):Yields P S a o r st':=by
 simp only[opD,zA,zB,Prod.mk.injEq]at h
 obtain⟨d,hd,dl,hdl,dh,hdh,dm,hdm,v,hv,rfl,rfl⟩:=h
 have h1:=Rep.ev hf hg hx hd
 have el:=Rep.evO hf hg hl hdl
 have eh:=Rep.evO hf hg hh hdh
 have em:=Rep.evO hf hg hm hdm
 have hu:=ti_arr hti ht hk
 unfold sliceA at hv
 split at hv
 ·next k off=>
  simp only[zA]at hv
  obtain⟨l',hl',h',hh',m',hm',hv⟩:=hv
  split at hv
  ·next hc2=>
   injection hv with hv
   obtain⟨c1,c2,c3,c4⟩:=hc2
   generalize hvx:a.eval x=vx at h1
   cases h1 with
   | ptr _ _ b hk2 hb2=>
    have hxh:xm=none∨xh≠none:=by
     rcases c1 with c1 | c1
     ·left
      rcases em with⟨h,_⟩ | ⟨_,_,_,h,_⟩
      ·exact h
      ·rw[h]at c1;simp at c1
     ·right
      rcases eh with⟨_,h⟩ | ⟨_,_,h,_⟩
      ·rw[h]at c1;simp at c1
      ·rw[h];simp
    have hb:=run_sliceBounds (P:=P) (S:=S) (isS:=false) (len:=n) (cap:=n) (bnd_ok el hl') (bnd_ok eh hh') (bnd_ok em hm') hxh c2 c3 c4
    refine Yields.val (v := .slice (some (if m'=l' then⟨b,off,none⟩else⟨b,off+l' * j.sz,none⟩)) (h' - l') (m' - l')) ?_ hi ?_
    ·simp only[execOp,ho,hvx]
     refine run_value ?_
     simp[Instr.sliceAt,run_underlying hu,Instr.sureAddr,hb,ti_size hti hj,addr_add]
    ·subst hv
     split
     ·next h3=>
      have e1:h' - l'=0:=by omega
      have e2:m' - l'=0:=by omega
      rw[e1,e2]
      exact Rep.slNil S .full _ 0 0 (zR _) rfl
     ·next h3=>exact .ref k _ _ _ _ b hk2 hb2
  ·simp at hv
 ·simp at hv
theorem minD_ok : ∀ {r:List D} {x d:D} {v:Value} {us:List Value},Rep S x v→RepL S r us→minD x r=some d → ∃ u,Rep S d u∧(us.foldlM Builtin.min2 v).run P S.w = .ok u S.w
 | [],x,d,v,us,hx,hr,h=>by
  have:us=[]:=by have:=hr.1;simpa using this
  subst this
  cases x<;>simp only[minD,reduceCtorEq,Option.some.injEq]at h
  subst h
  exact⟨v,hx,rfl⟩
 | y::r,x,d,v,us,hx,hr,h=>by
  cases us with
  | nil=>have:=hr.1;simp at this
  | cons u us=>
   have hu:=hr.2 0 y u rfl rfl
   have hr':RepL S r us:=⟨by have:=hr.1;simpa using this,fun j d v hd hv=>hr.2 (j+1) d v (by simpa using hd) (by simpa using hv)⟩
   cases x with
   | int k n=>
    cases y with
    | int k' m=>
     simp only[minD]at h
     split at h
     ·next hk=>
      subst hk
      have e1:=hx.int_inv
      have e2:=hu.int_inv
      obtain⟨q,h3,h4⟩:=minD_ok (.int k (if m<n then m else n)) hr' h
      refine⟨q,h3,?_⟩
      simp only[List.foldlM_cons,Sem.run_bind,e1,e2,Builtin.min2,Sem.run_pure,Result.andThen_ok]
      exact h4
     ·simp at h
    | _=>simp[minD]at h
   | _=>simp[minD]at h
theorem maxD_ok : ∀ {r:List D} {x d:D} {v:Value} {us:List Value},Rep S x v→RepL S r us→maxD x r=some d → ∃ u,Rep S d u∧(us.foldlM Builtin.max2 v).run P S.w = .ok u S.w
 | [],x,d,v,us,hx,hr,h=>by
  have:us=[]:=by have:=hr.1;simpa using this
  subst this
  cases x<;>simp only[maxD,reduceCtorEq,Option.some.injEq]at h
  subst h
  exact⟨v,hx,rfl⟩
 | y::r,x,d,v,us,hx,hr,h=>by
  cases us with
  | nil=>have:=hr.1;simp at this
  | cons u us=>
   have hu:=hr.2 0 y u rfl rfl
   have hr':RepL S r us:=⟨by have:=hr.1;simpa using this,fun j d v hd hv=>hr.2 (j+1) d v (by simpa using hd) (by simpa using hv)⟩
   cases x with
   | int k n=>
    cases y with
    | int k' m=>
     simp only[maxD]at h
     split at h
     ·next hk=>
      subst hk
      have e1:=hx.int_inv
      have e2:=hu.int_inv
      obtain⟨q,h3,h4⟩:=maxD_ok (.int k (if n<m then m else n)) hr' h
      refine⟨q,h3,?_⟩
      simp only[List.foldlM_cons,Sem.run_bind,e1,e2,Builtin.max2,Sem.run_pure,Result.andThen_ok]
      exact h4
     ·simp at h
    | _=>simp[maxD]at h
   | _=>simp[maxD]at h
theorem y_min(hi:Inv S st)(hf:FrameRep S st.tm a.tmps)(hg:GlOk S E)(c:Call)(ho:o.op = .call c)(hb:c.callee = .builtin .min){xs:List X}(hxs:trL c.args.toList=some xs){r:Option D}{st':St}(h:opD E st (.min xs)=some (r,st')):Yields P S a o r st':=by
 simp only[opD,zA]at h
 obtain⟨ds,hds,h⟩:=h
 have hr:=RepL.evL hf hg hxs hds
 split at h
 ·next x rr=>
  simp only[zB,Prod.mk.injEq]at h
  obtain⟨d,hd,rfl,rfl⟩:=h
  cases hl:c.args.toList.map a.eval with
  | nil=>rw[hl]at hr;have:=hr.1;simp at this
  | cons v us=>
   rw[hl]at hr
   obtain⟨u,h3,h4⟩:=minD_ok (P:=P) (hr.2 0 x v rfl rfl) ⟨by have:=hr.1;simpa using this,fun j d v hd hv=>hr.2 (j+1) d v (by simpa using hd) (by simpa using hv)⟩ hd
   refine Yields.val (run_builtin_min c ho hb ?_) hi h3
   simp only[Builtin.min_,Array.toList_map,hl]
   exact h4
 ·simp at h
theorem y_max(hi:Inv S st)(hf:FrameRep S st.tm a.tmps)(hg:GlOk S E)(c:Call)(ho:o.op = .call c)(hb:c.callee = .builtin .max){xs:List X}(hxs:trL c.args.toList=some xs){r:Option D}{st':St}(h:opD E st (.max xs)=some (r,st')):Yields P S a o r st':=by
 simp only[opD,zA]at h
 obtain⟨ds,hds,h⟩:=h
 have hr:=RepL.evL hf hg hxs hds
 split at h
 ·next x rr=>
  simp only[zB,Prod.mk.injEq]at h
  obtain⟨d,hd,rfl,rfl⟩:=h
  cases hl:c.args.toList.map a.eval with
  | nil=>rw[hl]at hr;have:=hr.1;simp at this
  | cons v us=>
   rw[hl]at hr
   obtain⟨u,h3,h4⟩:=maxD_ok (P:=P) (hr.2 0 x v rfl rfl) ⟨by have:=hr.1;simpa using this,fun j d v hd hv=>hr.2 (j+1) d v (by simpa using hd) (by simpa using hv)⟩ hd
   refine Yields.val (run_builtin_max c ho hb ?_) hi h3
   simp only[Builtin.max_,Array.toList_map,hl]
   exact h4
 ·simp at h
theorem rep_pair{x y:D}{u v:Value}(h:Rep S x u)(k:Rep S y v):Rep S (.tup [x,y]) (.tuple #[u,v]):=by
 refine .tup _ _ rfl (fun j d w hd hw => ?_)
 match j with
 | 0=>simp at hd hw;subst hd hw;exact h
 | 1=>simp at hd hw;subst hd hw;exact k
 | j+2=>simp at hd
theorem y_tas(hti:TiOk P ti)(hi:Inv S st)(hf:FrameRep S st.tm a.tmps)(hg:GlOk S E)(x:Operand)(xt t:Nat)(ok:Bool)(ho:o.op = .typeAssert x xt t ok){i:TI}(ht:ti t=some i)(hk:i.k ≠ .ifc){y:X}(hx:trX x=some y)
  {r:Option D} {st':St} (h:opD E st (.tas t ok y)=some (r,st')):Yields P S a o r st':=by
 obtain⟨d,inf,z,k1,k2,k3,k4,k5,k6,k7,k8⟩:=ti_spec hti ht
 have hd : ∀ ms,d ≠ .interface ms:=by
  rintro ms rfl
  exact hk k4.symm
 simp only[opD]at h
 split at h
 ·next u dd hu=>
  have h1:=Rep.ev hf hg hx hu
  obtain⟨v,hv,hrv⟩ : ∃ v,a.eval x = .iface u v∧Rep S dd v:=by
   generalize a.eval x=w at h1
   cases h1 with
   | iface _ _ v hh=>exact⟨v,rfl,hh⟩
  split at h
  ·next he=>
   subst he
   simp only[Option.some.injEq,Prod.mk.injEq]at h
   obtain⟨rfl,rfl⟩:=h
   have hrun:(execOp a.eval o).run P S.w = .ok (.value (if ok then .tuple #[v,.bool true]else v)) S.w:=by
    simp only[execOp,ho,hv]
    refine run_value ?_
    unfold Instr.typeAssert
    simp only[Sem.run_bind,run_underlying k1,Result.andThen_ok]
    cases d<;>first | (exact(hd _ rfl).elim) | simp
   refine Yields.val hrun hi ?_
   cases ok
   ·exact hrv
   ·exact rep_pair hrv (.bool true)
  ·simp at h
 ·simp at h
theorem y_rng(hti:TiOk P ti)(hi:Inv S st)(hf:FrameRep S st.tm a.tmps)(hg:GlOk S E)(t:Nat)(x:Operand)(ho:o.op = .range t x){i:TI}(ht:ti t=some i)(hk:i.k = .str){y:X}(hx:trX x=some y){r:Option D}{st':St}(h:opD E st (.rng y)=some (r,st')):Yields P S a o r st':=by
 simp only[opD]at h
 split at h
 ·next s hs=>
  simp only[Option.some.injEq,Prod.mk.injEq]at h
  obtain⟨rfl,rfl⟩:=h
  have hv:=(Rep.ev hf hg hx hs).str_inv
  have hu:=ti_str hti ht hk
  obtain⟨S',hw,he,hinv,hm,hn⟩:=new_iter hi s
  refine Yields.mem (S':=S') (v := .pointer (some ⟨S.w.heap.size,0,none⟩)) ?_ he hinv (.ptr st.nx 0 _ hn hm)
  simp only[execOp,ho,hv]
  refine run_value ?_
  simp[Instr.range,run_underlying hu,hw]
 ·simp at h
theorem y_nxt(hi:Inv S st)(hf:FrameRep S st.tm a.tmps)(hg:GlOk S E)(x:Operand)(ho:o.op = .next x true){y:X}(hx:trX x=some y){r:Option D}{st':St}(h:opD E st (.nxt y)=some (r,st')):Yields P S a o r st':=by
 simp only[opD]at h
 split at h
 ·next k hk=>
  split at h
  ·next s pos hm=>
   have h1:=Rep.ev hf hg hx hk
   obtain⟨b,hv,hb⟩ : ∃ b,a.eval x = .pointer (some ⟨b,0,none⟩)∧S.μ k=some b:=by
    generalize a.eval x=w at h1
    cases h1 with
    | ptr _ _ b hk hb=>exact⟨b,rfl,hb⟩
   have hsz:(⟨s.toArray⟩:ByteArray).size=s.length:=rfl
   split at h
   ·next hp=>
    simp only[Option.some.injEq,Prod.mk.injEq]at h
    obtain⟨rfl,rfl⟩:=h
    obtain⟨hh,S',hw,he,hinv⟩:=iter_ob hi hm hb (pos+(Utf8.decode ⟨s.toArray⟩ pos).2)
    refine Yields.mem (S':=S') (v := .tuple #[.bool true,goInt pos,.int .i32 (Utf8.decode ⟨s.toArray⟩ pos).1]) ?_ he hinv ?_
    ·simp only[execOp,ho,hv]
     refine run_value ?_
     simp[Instr.next,getObj,Sem.run,hh,hsz,hp,setObj,hw]
    ·refine .tup _ _ rfl (fun j d w hd hw => ?_)
     match j with
     | 0=>simp at hd hw;subst hd hw;exact .bool _
     | 1=>simp at hd hw;subst hd hw;exact .int _ _
     | 2=>simp at hd hw;subst hd hw;exact .int _ _
     | j+3=>simp at hd
   ·next hp=>
    simp only[Option.some.injEq,Prod.mk.injEq]at h
    obtain⟨rfl,rfl⟩:=h
    obtain⟨hh,_⟩:=iter_ob hi hm hb 0
    refine Yields.val (v := .tuple #[.bool false]) ?_ hi ?_
    ·simp only[execOp,ho,hv]
     refine run_value ?_
     simp[Instr.next,getObj,Sem.run,hh,hsz,hp]
    ·refine .tup _ _ rfl (fun j d w hd hw => ?_)
     match j with
     | 0=>simp at hd hw;subst hd hw;exact .bool _
     | j+1=>simp at hd
  ·simp at h
 ·simp at h
end
end Go.Ev
end
section
namespace Go.Ev
section
variable {P:Program} {E:Env} {ti:Ti} {st:St} {S:G} {a:Act} {o:Oper} (hti:TiOk P ti) (hi:Inv S st) (hf:FrameRep S st.tm a.tmps) (hg:GlOk S E)
theorem builtin_sound(hti:TiOk P ti)(hi:Inv S st)(hf:FrameRep S st.tm a.tmps)(hg:GlOk S E)(c:Call)(ho:o.op = .call c){b:Builtin}(hb:c.callee = .builtin b){O':O}(ht:trBuiltin ti b c.args.toList c.argTypes.toList=some O'){r:Option D}{st':St}(h:opD E st O'=some (r,st')):Yields P S a o r st':=by
 unfold trBuiltin at ht
 split at ht
 ·next x t h1 h2=>
  simp only[zA]at ht
  obtain⟨i,hi1,ht⟩:=ht
  split at ht
  ·next hk=>
   simp only[zB]at ht
   obtain⟨y,hy,rfl⟩:=ht
   exact y_lns hti hi hf hg c ho hb h1 h2 hi1 hk hy h
  ·next e hk=>
   simp only[zB]at ht
   obtain⟨y,hy,rfl⟩:=ht
   exact y_len hti hi hf hg c ho hb h1 h2 hi1 hk hy h
  ·simp at ht
 ·next x t h1 h2=>
  simp only[zA]at ht
  obtain⟨i,hi1,ht⟩:=ht
  split at ht
  ·next e hk=>
   simp only[zB]at ht
   obtain⟨y,hy,rfl⟩:=ht
   exact y_cap hti hi hf hg c ho hb h1 h2 hi1 hk hy h
  ·simp at ht
 ·next s x t u h1 h2=>
  simp only[zA]at ht
  obtain⟨i,hi1,j,hj1,ht⟩:=ht
  split at ht
  ·next e hk=>
   simp only[zA]at ht
   obtain⟨k,hk1,ht⟩:=ht
   split at ht
   ·next hs=>
    simp only[zA]at ht
    obtain⟨s',hs',x',hx',ht⟩:=ht
    split at ht
    ·next e' hj=>
     injection ht with ht;subst ht
     exact y_app hti hi hf hg c ho hb h1 h2 hi1 hj1 hk hk1 hs (.inl ⟨e',hj⟩) hs' hx' h
    ·next hj=>
     injection ht with ht;subst ht
     exact y_app hti hi hf hg c ho hb h1 h2 hi1 hj1 hk hk1 hs (.inr hj) hs' hx' h
    ·next ik hj=>
     injection ht with ht;subst ht
     exact y_apz hti hi hf hg c ho hb h1 h2 hi1 hj1 hk hk1 hs hj hs' hx' h
    ·simp at ht
   ·simp at ht
  ·simp at ht
 ·next d s t ts h1 h2=>
  simp only[zA]at ht
  obtain⟨i,hi1,ht⟩:=ht
  split at ht
  ·next e hk=>
   simp only[zA]at ht
   obtain⟨k,hk1,ht⟩:=ht
   split at ht
   ·next hs=>
    simp only[zA]at ht
    obtain⟨d',hd',s',hs',ht⟩:=ht
    injection ht with ht;subst ht
    exact y_cpy hti hi hf hg c ho hb h1 h2 hi1 hk hk1 hs hd' hs' h
   ·simp at ht
  ·simp at ht
 ·simp only[zB]at ht
  obtain⟨y,hy,rfl⟩:=ht
  exact y_min hi hf hg c ho hb hy h
 ·simp only[zB]at ht
  obtain⟨y,hy,rfl⟩:=ht
  exact y_max hi hf hg c ho hb hy h
 ·simp at ht
theorem opD_sound(hti:TiOk P ti)(hi:Inv S st)(hf:FrameRep S st.tm a.tmps)(hg:GlOk S E){O':O}(ht:trO ti o=some O'){r:Option D}{st':St}(h:opD E st O'=some (r,st')):Yields P S a o r st':=by
 unfold trO at ht
 split at ht
 ·next x ho=>
  simp only[zB]at ht
  obtain⟨y,hy,rfl⟩:=ht
  exact y_mv hi hf hg x (.inl ho) hy h
 ·next x ho=>
  simp only[zB]at ht
  obtain⟨y,hy,rfl⟩:=ht
  exact y_mv hi hf hg x (.inr ho) hy h
 ·next c x y ho=>
  simp only[zA,zB]at ht
  obtain⟨c',hc,x',hx,y',hy,rfl⟩:=ht
  exact y_pick hi hf hg c x y ho hc hx hy h
 ·next e ho=>
  simp only[zA]at ht
  obtain⟨i,hi1,ht⟩:=ht
  split at ht
  ·next e' hb=>injection ht with ht;subst ht;exact y_nbl hti hi e e' ho hi1 hb h
  ·injection ht with ht;subst ht;exact y_alloc hti hi e ho hi1 h
 ·next e x ho=>
  simp only[zB]at ht
  obtain⟨y,hy,rfl⟩:=ht
  exact y_box hi hf hg e x ho hy h
 ·next t ps ho=>
  simp only[zA]at ht
  obtain⟨i,hi1,ht⟩:=ht
  split at ht
  ·next fs hk=>
   simp only[zA,zB]at ht
   obtain⟨pl,hpl,qs,hqs,rfl⟩:=ht
   exact y_build hti hi hf hg t ps ho hi1 (.inl ⟨fs,pl,hk,hpl,hqs⟩) h
  ·next n e hk=>
   simp only[zA,zB]at ht
   obtain⟨j,hj,qs,hqs,rfl⟩:=ht
   exact y_build hti hi hf hg t ps ho hi1 (.inr ⟨n,e,j,hk,hj,hqs⟩) h
  ·simp at ht
 ·next t n ps ho=>
  simp only[zA]at ht
  obtain⟨i,hi1,ht⟩:=ht
  split at ht
  ·next e hk=>
   simp only[zA]at ht
   obtain⟨j,hj,ht⟩:=ht
   split at ht
   ·next hc=>
    simp only[zB]at ht
    obtain⟨qs,hqs,rfl⟩:=ht
    exact y_lit hti hi hf hg t n ps ho hi1 hk hj hc.1 hc.2 hqs h
   ·simp at ht
  ·simp at ht
 ·next t x ho=>
  simp only[zA,zB]at ht
  obtain⟨i,hi1,y,hy,rfl⟩:=ht
  exact y_load hti hi hf hg t x ho hi1 hy h
 ·next t x y ho=>
  simp only[zA,zB]at ht
  obtain⟨i,hi1,x',hx,y',hy,rfl⟩:=ht
  exact y_store hti hi hf hg t x y ho hi1 hx hy h
 ·next x ho=>
  simp only[zB]at ht
  obtain⟨y,hy,rfl⟩:=ht
  exact y_chk hi hf hg x ho hy h
 ·next op t x y u ho=>
  simp only[zA]at ht
  obtain⟨i,hi1,x',hx,y',hy,ht⟩:=ht
  split at ht
  ·injection ht with ht;subst ht
   exact y_bin hi hf hg op t u x y ho hx hy h
  ·injection ht with ht;subst ht
   exact y_bin hi hf hg op t u x y ho hx hy h
  ·injection ht with ht;subst ht
   exact y_bin hi hf hg op t u x y ho hx hy h
  ·next hk=>
   split at ht
   ·injection ht with ht;subst ht
    exact y_beq hi hf hg hti _ t u x y ho hi1 hk hx hy false rfl h
   ·injection ht with ht;subst ht
    exact y_beq hi hf hg hti _ t u x y ho hi1 hk hx hy true rfl h
   ·simp at ht
  ·next hk=>
   split at ht
   ·injection ht with ht;subst ht
    exact y_inil hi hf hg hti _ t u x ho hi1 hk hx false rfl h
   ·injection ht with ht;subst ht
    exact y_inil hi hf hg hti _ t u x ho hi1 hk hx true rfl h
   ·simp at ht
  ·simp at ht
 ·next op t x ho=>
  simp only[zB]at ht
  obtain⟨y,hy,rfl⟩:=ht
  exact y_un hi hf hg op t x ho hy h
 ·next s d x ho=>
  simp only[zA]at ht
  obtain⟨i,hi1,j,hj1,y,hy,ht⟩:=ht
  split at ht
  ·next e h1 h2=>
   simp only[zA]at ht
   obtain⟨k,hk,ht⟩:=ht
   split at ht
   ·next hk8=>
    injection ht with ht;subst ht
    exact y_cbs hti hi hf hg s d x ho hi1 hj1 h1 h2 hk hk8 hy h
   ·simp at ht
  ·next e h1 h2=>
   simp only[zA]at ht
   obtain⟨k,hk,ht⟩:=ht
   split at ht
   ·next hk8=>
    injection ht with ht;subst ht
    exact y_csb hti hi hf hg s d x ho hi1 hj1 h1 h2 hk hk8 hy h
   ·simp at ht
  ·next h1 h2=>
   unfold trConv at ht
   split at ht
   ·next k k' z e1 e2=>
    injection ht with ht;subst ht
    exact y_cvi hti hi hf hg s d x ho hi1 hj1 e1 e2 hy h
   ·next z e1 e2=>
    injection ht with ht;subst ht
    exact y_cmv hi hf hg hti s d x ho hi1 hj1 e1 e2 hy h
   ·simp at ht
 ·next t x ho=>
  simp only[zA]at ht
  obtain⟨i,hi1,ht⟩:=ht
  split at ht
  ·simp at ht
  ·next hk=>
   simp only[zB]at ht
   obtain⟨y,hy,rfl⟩:=ht
   exact y_ifc hi hf hg t x ho hi1 hk hy hti h
 ·next f fst cap ho=>
  split at ht
  ·next h0=>
   simp only[zB]at ht
   obtain⟨ys,hys,rfl⟩:=ht
   exact y_mkf hi hf hg f fst cap ho h0 hys h
  ·simp at ht
 ·next t x y ho=>
  simp only[zA]at ht
  obtain⟨i,hi1,ht⟩:=ht
  split at ht
  ·next e hk=>
   simp only[zA,zB]at ht
   obtain⟨j,hj,x',hx,y',hy,rfl⟩:=ht
   exact y_mks hti hi hf hg t x y ho hi1 hk hj hx hy h
  ·simp at ht
 ·next t x l hh m ho=>
  simp only[zA]at ht
  obtain⟨i,hi1,y,hy,l',hl,h',hh',m',hm,ht⟩:=ht
  split at ht
  ·next hk=>
   split at ht
   ·injection ht with ht;subst ht
    have:m=none:=by
     cases m with
     | none=>rfl
     | some m=>simp[trOp]at hm
    subst this
    exact y_sls hti hi hf hg t x l hh ho hi1 hk hy hl hh' h
   ·simp at ht
  ·next e hk=>
   simp only[zA]at ht
   obtain⟨j,hj,ht⟩:=ht
   split at ht
   ·next hs=>
    injection ht with ht;subst ht
    exact y_slc hti hi hf hg t x l hh m ho hi1 hk hj hs hy hl hh' hm h
   ·simp at ht
  ·next n e hk=>
   simp only[zA]at ht
   obtain⟨j,hj,ht⟩:=ht
   split at ht
   ·next hs=>
    injection ht with ht;subst ht
    exact y_sla hti hi hf hg t x l hh m ho hi1 hk hj hy hl hh' hm h
   ·simp at ht
  ·simp at ht
 ·next t x f ho=>
  simp only[zA]at ht
  obtain⟨i,hi1,ht⟩:=ht
  split at ht
  ·next fs hk=>
   simp only[zA]at ht
   obtain⟨p,hp,j,hj,ht⟩:=ht
   split at ht
   ·simp at ht
   ·next hs=>
    simp only[zB]at ht
    obtain⟨y,hy,rfl⟩:=ht
    exact y_fad hti hi hf hg t x f ho hi1 hk hp hj hs hy h
  ·simp at ht
 ·next t x f ho=>
  simp only[zA]at ht
  obtain⟨i,hi1,ht⟩:=ht
  split at ht
  ·next fs hk=>
   simp only[zA,zB]at ht
   obtain⟨p,hp,j,hj,y,hy,rfl⟩:=ht
   exact y_fld hti hi hf hg t x f ho hi1 hk hp hj hy h
  ·simp at ht
 ·next t x y ho=>
  simp only[zA]at ht
  obtain⟨i,hi1,ht⟩:=ht
  split at ht
  ·next e hk=>
   simp only[zA]at ht
   obtain⟨j,hj,ht⟩:=ht
   split at ht
   ·next hs=>
    simp only[zA,zB]at ht
    obtain⟨x',hx,y',hy,rfl⟩:=ht
    exact y_iad hti hi hf hg t x y ho hi1 hk hj hs hx hy h
   ·simp at ht
  ·next n e hk=>
   simp only[zA,zB]at ht
   obtain⟨j,hj,x',hx,y',hy,rfl⟩:=ht
   exact y_iaa hti hi hf hg t x y ho hi1 hk hj hx hy h
  ·simp at ht
 ·next t x y ho=>
  simp only[zA]at ht
  obtain⟨i,hi1,ht⟩:=ht
  split at ht
  ·next n e hk=>
   simp only[zA,zB]at ht
   obtain⟨j,hj,x',hx,y',hy,rfl⟩:=ht
   exact y_ixa hti hi hf hg t x y ho hi1 hk hj hx hy h
  ·next hk=>
   simp only[zA,zB]at ht
   obtain⟨x',hx,y',hy,rfl⟩:=ht
   exact y_ixs hti hi hf hg t x y ho hi1 hk hx hy h
  ·simp at ht
 ·next x n ho=>
  simp only[zB]at ht
  obtain⟨y,hy,rfl⟩:=ht
  exact y_ext hi hf hg x n ho hy h
 ·next t x ho=>
  simp only[zA]at ht
  obtain⟨i,hi1,ht⟩:=ht
  split at ht
  ·next hk=>
   simp only[zB]at ht
   obtain⟨y,hy,rfl⟩:=ht
   exact y_rng hti hi hf hg t x ho hi1 hk hy h
  ·simp at ht
 ·next x ho=>
  simp only[zB]at ht
  obtain⟨y,hy,rfl⟩:=ht
  exact y_nxt hi hf hg x ho hy h
 ·next x xt t ok ho=>
  simp only[zA]at ht
  obtain⟨i,hi1,ht⟩:=ht
  split at ht
  ·simp at ht
  ·next hk=>
   simp only[zB]at ht
   obtain⟨y,hy,rfl⟩:=ht
   exact y_tas hti hi hf hg x xt t ok ho hi1 hk hy h
 ·next x ho=>
  simp only[zB]at ht
  obtain⟨y,hy,rfl⟩:=ht
  simp[opD]at h
 ·next c ho=>
  split at ht
  ·next b hb=>exact builtin_sound hti hi hf hg c ho hb ht h
  ·next f hc=>
   simp only[zB]at ht
   obtain⟨y,hy,rfl⟩:=ht
   simp[opD]at h
  ·next f hc=>
   simp only[zB]at ht
   obtain⟨y,hy,rfl⟩:=ht
   simp[opD]at h
  ·simp at ht
 ·simp at ht
end
end Go.Ev
end
section
namespace Go.Ev
theorem cl0L_get(xs:List D)(j:Nat):(cl0L xs)[j]?=(xs[j]?).map D.cl0:=by
 induction xs generalizing j with
 | nil=>simp[cl0L]
 | cons x r ih=>cases j<;>simp[cl0L,ih]
theorem clL_get(m:Mem)(xs:List D)(j:Nat):(clL m xs)[j]?=(xs[j]?).map (D.cl m):=by
 induction xs generalizing j with
 | nil=>simp[clL]
 | cons x r ih=>cases j<;>simp[clL,ih]
theorem cl0L_len(xs:List D):(cl0L xs).length=xs.length:=by
 induction xs with
 | nil=>rfl
 | cons x r ih=>simp[cl0L,ih]
theorem clL_len(m:Mem)(xs:List D):(clL m xs).length=xs.length:=by
 induction xs with
 | nil=>rfl
 | cons x r ih=>simp[clL,ih]
theorem refsL_mem{xs:List D}{j:Nat}{d:D}(h:xs[j]?=some d){k:Nat}(hk:k∈d.refs):k∈refsL xs:=by
 induction xs generalizing j with
 | nil=>simp at h
 | cons x r ih=>
  simp only[refsL,List.mem_append]
  cases j with
  | zero=>simp at h;subst h;exact .inl hk
  | succ j=>simp at h;exact .inr (ih h)
theorem nil_of_len{α β:Type}{xs:List α}{ys:List β}(h:xs.length=ys.length)(hy:ys=[]):xs=[]:=by
 subst hy;simpa using h
theorem Rep.cl0{S:G}{d:D}{v:Value}(h:Rep S d v):Rep S d.cl0 v:=by
 induction h with
 | und v=>exact .und v
 | off=>exact .off
 | bool b=>exact .bool b
 | int k n=>exact .int k n
 | float k b=>exact .float k b
 | str s=>exact .str s
 | nilp=>exact .nilp
 | nilf=>exact .nilf
 | nili=>exact .nili
 | sl g n xs A c b off us hc hA hu _ hφ hg ih=>
  have hl:=cl0L_len xs
  refine .sl .no n (cl0L xs) A c b off us hc (hA.imp (nil_of_len hl) id) (fun j hj=>hu j (by omega)) (fun j d hd => ?_) (hφ.imp (nil_of_len hl) (by rw[hl];exact id)) trivial
  rw[cl0L_get,zB]at hd
  obtain⟨e,he,rfl⟩:=hd
  exact ih j e he
 | ref k off n c sz b hk hb=>exact .und _
 | ptr k off b hk hb=>exact .ptr k off b hk hb
 | el xs b off us hu hr hφ ih=>exact .el xs b off us hu hr hφ
 | agg ds vs hs _ ih=>
  refine .agg (cl0L ds) vs (by rw[cl0L_len];exact hs) (fun j d v hd hv => ?_)
  rw[cl0L_get,zB]at hd
  obtain⟨e,he,rfl⟩:=hd
  exact ih j e v he hv
 | tup ds vs hs _ ih=>
  refine .tup (cl0L ds) vs (by rw[cl0L_len];exact hs) (fun j d v hd hv => ?_)
  rw[cl0L_get,zB]at hd
  obtain⟨e,he,rfl⟩:=hd
  exact ih j e v he hv
 | fn f ds vs hs hr ih=>exact .fn f ds vs hs hr
 | iface t d v _ ih=>exact .iface t _ v ih
theorem Rep.cl{S:G}{st:St}(hi:Inv S st)(m:Mem){d:D}{v:Value}(h:Rep S d v)(hm : ∀ k∈d.refs,∀ xs fz,m k=some (.row xs fz)→st.mem k=some (.row xs true)):Rep S (d.cl m) v:=by
 induction h with
 | und v=>exact .und v
 | off=>exact .off
 | bool b=>exact .bool b
 | int k n=>exact .int k n
 | float k b=>exact .float k b
 | str s=>exact .str s
 | nilp=>exact .nilp
 | nilf=>exact .nilf
 | nili=>exact .nili
 | sl g n xs A c b off us hc hA hu _ hφ hg ih=>
  have hl:=clL_len m xs
  refine .sl .no n (clL m xs) A c b off us hc (hA.imp (nil_of_len hl) id) (fun j hj=>hu j (by omega)) (fun j d hd => ?_) (hφ.imp (nil_of_len hl) (by rw[hl];exact id)) trivial
  rw[clL_get,zB]at hd
  obtain⟨e,he,rfl⟩:=hd
  exact ih j e he (fun k hk=>hm k (refsL_mem he hk))
 | ref k off n c sz b hk hb=>
  simp only[D.cl]
  split
  ·next xs fz hx=>
   split
   ·next hle=>
    have hk2:=hm k (by simp[D.refs]) xs fz hx
    obtain⟨_,ho⟩:=hi.ob k _ hk2
    obtain⟨_,ho⟩:=ho b hb
    cases ho with
    | row _ _ cs e hh hrc _ h1=>
     have hcs:cs.toList.length=xs.length:=hrc.1
     have hφ:=h1 rfl
     have hlen:(cl0L ((xs.drop off).take (n * sz))).length=n * sz:=by rw[cl0L_len];simp;omega
     refine .sl .no n _ _ c b off (fun j=>cs.toList.getD (off+j) undef) hle.1 (.inr rfl) (fun j hj => ?_) (fun j d hd => ?_) (.inr (by omega)) trivial
     ·rw[hlen]at hj
      simp only[World.cell?,hh]
      rw[List.getD_eq_getElem?_getD]
      have:off+j<cs.toList.length:=by omega
      rw[zL this]
      simp
     ·have hj:j<n * sz:=by
       rw[← hlen]
       rcases Nat.lt_or_ge j (cl0L ((xs.drop off).take (n * sz))).length with h | h
       ·exact h
       ·rw[List.getElem?_eq_none h]at hd;simp at hd
      rw[cl0L_get,zB]at hd
      obtain⟨e',he,rfl⟩:=hd
      rw[List.getElem?_take,if_pos hj,List.getElem?_drop]at he
      have hlt:off+j<cs.toList.length:=by omega
      refine Rep.cl0 (hrc.2 (off+j) e' _ he ?_)
      rw[List.getD_eq_getElem?_getD,zL hlt]
      rfl
   ·exact .und _
  ·exact .und _
 | ptr k off b hk hb=>exact .ptr k off b hk hb
 | el xs b off us hu hr hφ ih=>exact .el xs b off us hu hr hφ
 | agg ds vs hs _ ih=>
  refine .agg (clL m ds) vs (by rw[clL_len];exact hs) (fun j d v hd hv => ?_)
  rw[clL_get,zB]at hd
  obtain⟨e,he,rfl⟩:=hd
  exact ih j e v he hv (fun k hk=>hm k (refsL_mem he hk))
 | tup ds vs hs _ ih=>
  refine .tup (clL m ds) vs (by rw[clL_len];exact hs) (fun j d v hd hv => ?_)
  rw[clL_get,zB]at hd
  obtain⟨e,he,rfl⟩:=hd
  exact ih j e v he hv (fun k hk=>hm k (refsL_mem he hk))
 | fn f ds vs hs hr ih=>exact .fn f ds vs hs hr
 | iface t d v _ ih=>exact .iface t _ v (ih hm)
theorem RepL.cl{S:G}{st:St}(hi:Inv S st)(m:Mem){ds:List D}{vs:List Value}(h:RepL S ds vs)(hm : ∀ k∈refsL ds,∀ xs fz,m k=some (.row xs fz)→st.mem k=some (.row xs true)):RepL S (clL m ds) vs:=by
 refine⟨by rw[clL_len];exact h.1,fun j d v hd hv => ?_⟩
 rw[clL_get,zB]at hd
 obtain⟨e,he,rfl⟩:=hd
 exact(h.2 j e v he hv).cl hi m (fun k hk=>hm k (refsL_mem he hk))
/-- rows that are told for good, one after the other -/
theorem freeze_all{S:G}{st:St}(h:Inv S st)(l:List Nat) : ∃ S':G,S'.w=S.w∧Ext S S'∧Inv S' (frz st l) ∧
  (∀ k xs fz,st.mem k=some (.row xs fz)→(k∈l∨fz=true)→(frz st l).mem k=some (.row xs true)):=by
 induction l generalizing S st with
 | nil=>exact⟨S,rfl,.refl S,h,fun k xs fz hk hm=>by
   have hf:fz=true:=hm.resolve_left (by simp)
   subst hf;exact hk⟩
 | cons k r ih=>
  simp only[frz]
  split
  ·next xs fz hk=>
   obtain⟨S1,hw,he,h1,_⟩:=freeze_ob h hk
   obtain⟨S2,hw2,he2,h2,h3⟩:=ih h1
   refine⟨S2,hw2.trans hw,he.trans he2,h2,fun j ys gz hj hm => ?_⟩
   by_cases e:j=k
   ·subst e
    rw[hk]at hj;injection hj with hj;injection hj with hj1 hj2
    subst hj1
    exact h3 j xs true (upd_self _ _ _) (.inr rfl)
   ·exact h3 j ys gz (by show upd st.mem k _ j=_;rw[upd_ne _ _ e];exact hj) (hm.imp (fun h=>(List.mem_cons.1 h).resolve_left e) id)
  ·next hne=>
   obtain⟨S2,hw2,he2,h2,h3⟩:=ih h
   refine⟨S2,hw2,he2,h2,fun j ys gz hj hm=>h3 j ys gz hj (hm.imp (fun h => ?_) id)⟩
   rcases List.mem_cons.1 h with rfl | h
   ·exact(hne _ _ hj).elim
   ·exact h
/-! results -/
def trRes(ti:Ti):List ResultVar→Option (List R)
 | []=>some []
 | .tmp t::r=>(trRes ti r).map (R.tmp t :: ·)
 | .cell a t::r=>(ti t).bind fun i=>(trRes ti r).map (R.cell a i.k.ag i.sz :: ·)
theorem results_sound{P:Program}{ti:Ti}(hti:TiOk P ti){S:G}{st:St}(hi:Inv S st){tmps:Array Value}(hf:FrameRep S st.tm tmps){fn:Func}{rs:List R}(ht:trRes ti fn.results.toList=some rs)
  {l:List D} (h:resOf st rs=some l) : ∃ v,(results fn tmps).run P S.w = .ok v S.w∧Rep S (one l) v:=by
 have key : ∀ (rv:List ResultVar) (rs:List R) (l:List D),trRes ti rv=some rs→resOf st rs=some l → ∃ vs:List Value,(rv.mapM (m:=Sem) fun
  | .tmp t=>pure (tmps.getD t undef)
  | .cell a t=>do loadVar t (← asAddr (tmps.getD a undef))).run P S.w = .ok vs S.w∧RepL S l vs:=by
  intro rv
  induction rv with
  | nil=>
   intro rs l ht h
   injection ht with ht;subst ht
   injection h with h;subst h
   exact⟨[],by simp,.nil S⟩
  | cons x r ih=>
   intro rs l ht h
   have tm : ∀ t d,get st.tm t=some d→Rep S d (tmps.getD t undef):=by
    intro t d hd
    obtain⟨v,hv,hr⟩:=hf t d hd
    rw[Array.getD_eq_getD_getElem?,hv];exact hr
   cases x with
   | tmp t=>
    simp only[trRes,zB]at ht
    obtain⟨q,hq,rfl⟩:=ht
    simp only[resOf,zA]at h
    obtain⟨d,hd,l',hl,h⟩:=h
    injection h with h;subst h
    obtain⟨vs,h1,h2⟩:=ih q l' hq hl
    refine⟨tmps.getD t undef::vs,?_,.cons (tm t d hd) h2⟩
    simp only[List.mapM_cons,Sem.run_bind,Sem.run_pure,Result.andThen_ok,h1]
   | cell p t=>
    simp only[trRes,zA,zB]at ht
    obtain⟨i,hi1,q,hq,rfl⟩:=ht
    simp only[resOf,zA]at h
    obtain⟨a,ha,d,hd,l',hl,h⟩:=h
    injection h with h;subst h
    obtain⟨vs,h1,h2⟩:=ih q l' hq hl
    obtain⟨u,hu,hrun⟩:=run_loadVar_D hti hi hi1 (tm p a ha) hd
    have hp : ∃ b off,tmps.getD p undef = .pointer (some ⟨b,off,none⟩):=by
     unfold loadD at hd
     split at hd
     ·simp only[zB]at hd
      obtain⟨ys,hy,rfl⟩:=hd
      obtain⟨b,off,vs,hv,_⟩:=cellsAt_sound hi (tm p a ha) hy
      exact⟨b,off,hv⟩
     ·split at hd
      ·next hy=>
       obtain⟨b,off,vs,hv,_⟩:=cellsAt_sound hi (tm p a ha) hy
       exact⟨b,off,hv⟩
      ·simp at hd
    obtain⟨b,off,hp⟩:=hp
    rw[hp]at hrun
    have hrun:(loadVar t ⟨b,off,none⟩).run P S.w = .ok u S.w:=by simpa[Instr.loadAt,Instr.sureAddr]using hrun
    have hq2:(asAddr (tmps.getD p undef)).run P S.w = .ok ⟨b,off,none⟩ S.w:=by rw[hp];rfl
    refine⟨u::vs,?_,.cons hu h2⟩
    simp only[List.mapM_cons,Sem.run_bind,hq2,Sem.run_pure,Result.andThen_ok,hrun,h1]
 obtain⟨vs,h1,h2⟩:=key _ _ _ ht h
 have hm:(fn.results.mapM (m:=Sem) fun
  | .tmp t=>pure (tmps.getD t undef)
  | .cell a t=>do loadVar t (← asAddr (tmps.getD a undef))).run P S.w = .ok vs.toArray S.w:=by
  rw[Array.mapM_eq_mapM_toList,← bind_pure_comp,Sem.run_bind,h1]
  rfl
 by_cases h1':vs.length=1
 ·obtain⟨v,rfl⟩:=List.length_eq_one_iff.1 h1'
  ·match l,h2 with
   | [d],h2=>
    refine⟨v,?_,h2.2 0 d v rfl rfl⟩
    unfold results
    rw[Sem.run_bind]
    exact(congrArg (fun r=>Result.andThen r _) hm).trans rfl
   | [],h2=>simp[RepL]at h2
   | _::_::_,h2=>simp[RepL]at h2
 ·refine⟨.tuple vs.toArray,?_,?_⟩
  ·unfold results
   rw[Sem.run_bind]
   refine(congrArg (fun r=>Result.andThen r _) hm).trans ?_
   simp[h1']
  ·have hl:l.length≠1:=by rw[← h2.1];exact h1'
   have:one l = .tup l:=by
    match l,hl with
    | [],_=>rfl
    | _::_::_,_=>rfl
   rw[this]
   exact .tup l _ (by simpa using h2.1) (fun j d v hd hv=>h2.2 j d v hd (by simpa using hv))
/-! which operations call -/
theorem trO_call{ti:Ti}{o:Oper}{f:Nat}{xs:List X}(h:trO ti o=some (.call f xs)) : ∃ c:Call,o.op = .call c∧c.callee = .value (.func f)∧trL c.args.toList=some xs:=by
 obtain⟨dst,op,type,pos,after,guard⟩:=o
 cases op
 case call c=>
  refine⟨c,rfl,?_⟩
  simp only[trO]at h
  split at h
  ·next b hb=>simp only[trBuiltin]at h;(repeat' (first | contradiction | (exfalso;simp only[zB,reduceCtorEq,and_false,exists_false,Option.some.injEq]at h;done) | (rw[zA]at h;obtain⟨_,_,h⟩:=h) | (split at h)))
  ·next f' hc=>
   simp only[zB]at h
   obtain⟨l,hl,h⟩:=h
   injection h with h1 h2
   subst h1 h2
   exact⟨hc,hl⟩
  ·(repeat' (first | contradiction | (exfalso;simp only[zB,reduceCtorEq,and_false,exists_false,Option.some.injEq]at h;done) | (rw[zA]at h;obtain⟨_,_,h⟩:=h) | (split at h)))
  ·simp at h
 all_goals (simp only[trO,trConv]at h;(repeat' (first | contradiction | (exfalso;simp only[zB,reduceCtorEq,and_false,exists_false,Option.some.injEq]at h;done) | (rw[zA]at h;obtain⟨_,_,h⟩:=h) | (split at h))))
theorem trO_callv{ti:Ti}{o:Oper}{g:X}{xs:List X}(h:trO ti o=some (.callv g xs)) : ∃ (c:Call) (t:Nat),o.op = .call c∧c.callee = .value (.tmp t)∧g = .s t∧trL c.args.toList=some xs:=by
 obtain⟨dst,op,type,pos,after,guard⟩:=o
 cases op
 case call c=>
  simp only[trO]at h
  split at h
  ·next b hb=>simp only[trBuiltin]at h;(repeat' (first | contradiction | (exfalso;simp only[zB,reduceCtorEq,and_false,exists_false,Option.some.injEq]at h;done) | (rw[zA]at h;obtain⟨_,_,h⟩:=h) | (split at h)))
  ·(repeat' (first | contradiction | (exfalso;simp only[zB,reduceCtorEq,and_false,exists_false,Option.some.injEq]at h;done) | (rw[zA]at h;obtain⟨_,_,h⟩:=h) | (split at h)))
  ·next t hc=>
   simp only[zB]at h
   obtain⟨l,hl,h⟩:=h
   injection h with h1 h2
   subst h1 h2
   exact⟨c,t,rfl,hc,rfl,hl⟩
  ·simp at h
 all_goals (simp only[trO,trConv]at h;(repeat' (first | contradiction | (exfalso;simp only[zB,reduceCtorEq,and_false,exists_false,Option.some.injEq]at h;done) | (rw[zA]at h;obtain⟨_,_,h⟩:=h) | (split at h))))
theorem trO_pan{ti:Ti}{o:Oper}{x:X}(h:trO ti o=some (.pan x)) : ∃ y:Operand,o.op = .panic y∧trX y=some x:=by
 obtain⟨dst,op,type,pos,after,guard⟩:=o
 cases op
 case panic y=>
  simp only[trO,zB]at h
  obtain⟨l,hl,h⟩:=h
  injection h with h1
  subst h1
  exact⟨y,rfl,hl⟩
 case call c=>
  simp only[trO]at h
  split at h
  ·next b hb=>simp only[trBuiltin]at h;(repeat' (first | contradiction | (exfalso;simp only[zB,reduceCtorEq,and_false,exists_false,Option.some.injEq]at h;done) | (rw[zA]at h;obtain⟨_,_,h⟩:=h) | (split at h)))
  ·(repeat' (first | contradiction | (exfalso;simp only[zB,reduceCtorEq,and_false,exists_false,Option.some.injEq]at h;done) | (rw[zA]at h;obtain⟨_,_,h⟩:=h) | (split at h)))
  ·(repeat' (first | contradiction | (exfalso;simp only[zB,reduceCtorEq,and_false,exists_false,Option.some.injEq]at h;done) | (rw[zA]at h;obtain⟨_,_,h⟩:=h) | (split at h)))
  ·simp at h
 all_goals (simp only[trO,trConv]at h;(repeat' (first | contradiction | (exfalso;simp only[zB,reduceCtorEq,and_false,exists_false,Option.some.injEq]at h;done) | (rw[zA]at h;obtain⟨_,_,h⟩:=h) | (split at h))))
/-! calls -/
/-- a call of f: it is entered, or answered at once -/
def Does(P:Program)(f:Nat)(args:Array Value)(w:World)(R:Ending→World→Prop):Prop:=
 ((callFunc f args).run P w = .ok (.enter f args) w∧Calls P f args w R) ∨ ∃ v w',(callFunc f args).run P w = .ok (.value v) w'∧R (.returned v) w'
def outR(o:Out)(S':G):Ending→Prop
 | .returned v => ∃ d,o = .ret d∧Rep S' d v
 | .panicked ch => ∃ d v,o = .pan d∧ch=[{ v:=v,recovered:=false }]∧Rep S' d v
 | .outgrown=>False
def CfOk(P:Program)(E:Env)(cf:Cf):Prop := ∀ f ds st o st',cf f ds st=some (o,st') → ∀ (S:G) (vs:List Value),Inv S st→RepL S ds vs→GlOk S E →
 Does P f vs.toArray S.w fun e w' => ∃ S',S'.w=w'∧Ext S S'∧Inv S' st'∧outR o S' e
section
variable {P:Program} {E:Env} {ti:Ti} {st:St} {S:G} {a:Act} {o:Oper} (hti:TiOk P ti) (hi:Inv S st) (hf:FrameRep S st.tm a.tmps) (hg:GlOk S E)
/-- what comes of an operation -/
def Leads(P:Program)(S:G)(a:Act)(o:Oper)(r:Rv)(K:Act→World→Prop)(Q:Exit→Act→World→Prop):Prop:=
 match r with
 | .val d st' => ∀ S' v,Ext S S'→Inv S' st'→(∀ d',d=some d'→Rep S' d' v)→K (a.put o.dst v) S'.w
 | .pan d st' => ∀ S' v,Ext S S'→Inv S' st'→Rep S' d v→Q (.panic [{ v:=v,recovered:=false }]) a S'.w
theorem call_leads(hi:Inv S st)(hg:GlOk S E){cf:Cf}(hcf:CfOk P E cf){f:Nat}{ds:List D}{vs:Array Value}(hr:RepL S ds vs.toList)(hx:(execOp a.eval o).run P S.w=(callFunc f vs).run P S.w){q:Out}{st':St}(h:cf f ds st=some (q,st'))
  (K:Act→World→Prop) (Q:Exit→Act→World→Prop) (hl:Leads P S a o (outV (q,st')) K Q):o.wp P a S.w K Q:=by
 have:=hcf f ds st q st' h S vs.toList hi hr hg
 simp only[Array.toArray_toList]at this
 unfold Oper.wp
 rw[hx]
 rcases this with⟨h1,h2⟩ | ⟨v,w',h1,S',rfl,he,hi',ho⟩
 ·rw[h1,Oper.upon_enter]
  refine Calls.mono h2 fun e w' ⟨S',hw,he,hi',ho⟩ => ?_
  subst hw
  cases e with
  | returned v=>
   obtain⟨d,rfl,hr⟩:=ho
   exact hl S' v he hi' (fun d' hd=>by injection hd with hd;subst hd;exact hr)
  | panicked ch=>
   obtain⟨d,v,rfl,rfl,hr⟩:=ho
   exact hl S' v he hi' hr
  | outgrown=>exact ho.elim
 ·rw[h1,Oper.upon_value]
  obtain⟨d,rfl,hr⟩:=ho
  exact hl S' v he hi' (fun d' hd=>by injection hd with hd;subst hd;exact hr)
theorem opX_sound(hti:TiOk P ti)(hi:Inv S st)(hf:FrameRep S st.tm a.tmps)(hg:GlOk S E){cf:Cf}(hcf:CfOk P E cf){O':O}(ht:trO ti o=some O'){r:Rv}(h:opX E cf st O'=some r)(K:Act→World→Prop)(Q:Exit→Act→World→Prop)
  (hl:Leads P S a o r K Q):o.wp P a S.w K Q:=by
 have base:(∀ r' st',opD E st O'=some (r',st')→r = .val r' st'→o.wp P a S.w K Q):=by
  intro r' st' h1 h2
  subst h2
  obtain⟨nx,S',hx,he,hi',hm⟩:=opD_sound hti hi hf hg ht h1
  unfold Oper.wp
  rw[hx]
  cases r' with
  | some d=>
   obtain⟨v,rfl,hr⟩:=hm
   rw[Oper.upon_value]
   exact hl S' v he hi' (fun d' hd=>by injection hd with hd;subst hd;exact hr)
  | none=>
   simp only at hm
   subst hm
   rw[Oper.upon_skip]
   exact hl S' undef he hi' (fun d' hd=>by simp at hd)
 have base2:((opD E st O').map fun p=>Rv.val p.1 p.2)=some r→o.wp P a S.w K Q:=by
  intro h
  simp only[zB]at h
  obtain⟨⟨d,st'⟩,h1,h2⟩:=h
  exact base d st' h1 h2.symm
 cases O'
 case call f xs=>
  simp only[opX,zA,zB]at h
  obtain⟨l,hl',⟨q,st'⟩,hq,rfl⟩:=h
  obtain⟨c,ho,hcal,hargs⟩:=trO_call ht
  refine call_leads hi hg hcf (vs:=c.args.map a.eval) (by simpa using RepL.evL hf hg hargs hl') ?_ hq K Q hl
  simp[execOp,ho,resolve,hcal,Act.eval,Deferred.ofValue,invoke]
 case callv g xs=>
  obtain⟨c,t,ho,hcal,rfl,hargs⟩:=trO_callv ht
  simp only[opX]at h
  split at h
  ·next f cap hfn=>
   simp only[zA,zB]at h
   obtain⟨l,hl',⟨q,st'⟩,hq,rfl⟩:=h
   have hfv:Rep S (.fn f cap) (a.eval (.tmp t)):=Rep.ev hf hg (x := .tmp t) rfl hfn
   generalize hv:a.eval (.tmp t)=fv at hfv
   cases hfv with
   | fn _ _ vs hs hr=>
    have hcap:RepL S cap vs.toList:=⟨by simpa using hs,fun j d v hd hv=>hr j d v hd (by simpa using hv)⟩
    refine call_leads hi hg hcf (vs:=c.args.map a.eval++vs) (by simpa using (RepL.evL hf hg hargs hl').app hcap) ?_ hq K Q hl
    simp[execOp,ho,resolve,hcal,hv,Deferred.ofValue,invoke]
  ·simp at h
 case pan x=>
  obtain⟨y,ho,hy⟩:=trO_pan ht
  simp only[opX]at h
  split at h
  ·next t d hd=>
   injection h with h;subst h
   have hr:Rep S (.iface t d) (a.eval y):=Rep.ev hf hg hy hd
   generalize hv:a.eval y=u at hr
   cases hr with
   | iface _ _ v hr=>
    unfold Oper.wp
    have:(execOp a.eval o).run P S.w = .halt (.panic (.iface t v)) S.w:=by simp[execOp,ho,hv,Instr.panic,goPanic]
    rw[this,Oper.upon_panic]
    exact hl S _ (.refl S) hi (.iface t d v hr)
  ·simp at h
 all_goals exact base2 h
end
end Go.Ev
end
section
namespace Go.Ev
def trG(ops:Array Oper):Option (Nat×Bool)→Option (Option (Nat×Bool))
 | none=>some none
 | some (j,b)=>match(ops[j]?).bind (·.dst)with
  | some t=>some (some (t,b))
  | none=>none
def dstOk(nt:Nat):Option Nat→Bool
 | some t=>decide (t<nt)
 | none=>true
def trOne(ti:Ti)(nt:Nat)(ops:Array Oper)(o:Oper):Option OpC:=
 if dstOk nt o.dst then(trO ti o).bind fun p=>(trG ops o.guard).map fun g=>⟨o.dst,p,g⟩else none
def trOps(ti:Ti)(nt:Nat)(ops:Array Oper):List Oper→Option (List OpC)
 | []=>some []
 | o::r=>(trOne ti nt ops o).bind fun c=>(trOps ti nt ops r).map (c :: ·)
theorem put_size(a:Act)(dst:Option Nat)(v:Value):(a.put dst v).tmps.size=a.tmps.size:=by
 cases dst<;>simp[Act.put]
theorem put_defers(a:Act)(dst:Option Nat)(v:Value):(a.put dst v).defers=a.defers:=by
 cases dst<;>rfl
theorem put_other(a:Act)(dst:Option Nat)(v:Value){t:Nat}(h:dst≠some t):(a.put dst v).tmps[t]?=a.tmps[t]?:=by
 cases dst with
 | none=>rfl
 | some d=>
  have:d≠t:=fun e=>h (by rw[e])
  simp[Act.put,Array.getElem?_setIfInBounds_ne this]
theorem put_self(a:Act)(t:Nat)(v:Value)(h:t<a.tmps.size):(a.put (some t) v).tmps[t]?=some v:=by
 simp[Act.put,h]
/-- the frame behind an operation -/
theorem FrameRep.set{S:G}{st:St}{a:Act}(hf:FrameRep S st.tm a.tmps)(dst:Option Nat){nt:Nat}(hd:dstOk nt dst=true)(hn:nt≤a.tmps.size)(r:Option D)(v:Value)(hr : ∀ d,r=some d→Rep S d v) :
  FrameRep S (st.set dst r).tm (a.put dst v).tmps:=by
 intro t d ht
 cases dst with
 | none=>
  have:(st.set none r).tm=st.tm:=by cases r<;>rfl
  rw[this]at ht
  exact hf t d ht
 | some u=>
  have hu:u<a.tmps.size:=by simp[dstOk]at hd;omega
  cases r with
  | some e=>
   have ht2:get (Ev.put st.tm u e) t=some d:=ht
   rw[get_put]at ht2
   split at ht2
   ·next h=>
    subst h
    exact⟨v,put_self a t v hu,hr d ht2⟩
   ·next h=>rw[put_other a (some u) v (by intro h';injection h' with h';exact h h'.symm)];exact hf t d ht2
  | none=>
   have ht:get (Ev.del st.tm u) t=some d:=ht
   rw[get_del]at ht
   split at ht
   ·simp at ht
   ·next h=>rw[put_other a (some u) v (by intro h';injection h' with h';exact h h'.symm)];exact hf t d ht
section
variable {P:Program} {E:Env} {ti:Ti} {st:St} {S:G} {a:Act} (hti:TiOk P ti) (hi:Inv S st) (hg:GlOk S E)
theorem wanted_sound{tmps:Array Value}(hf:FrameRep S st.tm tmps){ops:Array Oper}{o:Oper}{g:Option (Nat×Bool)}(ht:trG ops o.guard=some g){b:Bool}(h:wants st.tm g=some b) :
  Region.wanted o (yielded ops tmps)=b:=by
 unfold Region.wanted
 cases ho:o.guard with
 | none=>
  rw[ho]at ht
  injection ht with ht;subst ht
  injection h with h
 | some p=>
  obtain⟨j,c⟩:=p
  rw[ho]at ht
  simp only[trG]at ht
  split at ht
  ·next t hj=>
   injection ht with ht;subst ht
   simp only[wants]at h
   split at h
   ·next x hx=>
    injection h with h;subst h
    obtain⟨v,hv,hr⟩:=hf t _ hx
    cases hr
    simp only[yielded,hj,zD,hv]
    rfl
   ·next hx=>
    injection h with h;subst h
    obtain⟨v,hv,hr⟩:=hf t _ hx
    cases hr
    simp only[yielded,hj,zD,hv]
    rfl
   ·simp at h
  ·simp at ht
/-- what comes of an operation, in place -/
def LeadsC(S:G)(a:Act)(dst:Option Nat)(r:Rs)(K:Act→World→Prop)(Q:Exit→Act→World→Prop):Prop:=
 match r with
 | .ok st' => ∀ S' v,Ext S S'→Inv S' st'→FrameRep S' st'.tm (a.put dst v).tmps→K (a.put dst v) S'.w
 | .pan d st' => ∀ S' v,Ext S S'→Inv S' st'→Rep S' d v→Q (.panic [{ v:=v,recovered:=false }]) a S'.w
theorem Inv.tm{S:G}{st:St}(h:Inv S st)(tm:Tm):Inv S { st with tm:=tm }:=⟨h.nx,h.ob,h.tip,h.out,h.dis,h.own⟩
theorem Inv.set{S:G}{st:St}(h:Inv S st)(dst:Option Nat)(r:Option D):Inv S (st.set dst r):=by
 cases r<;>cases dst<;>first | exact h | exact h.tm _
theorem opC_sound(hti:TiOk P ti)(hi:Inv S st)(hg:GlOk S E){cf:Cf}(hcf:CfOk P E cf)(hq:CfFr cf)(hf:FrameRep S st.tm a.tmps){ops:Array Oper}{nt i:Nat}{o:Oper}(ho:ops[i]?=some o){co:OpC}(ht:trOne ti nt ops o=some co)(hn:nt≤a.tmps.size){r:Rs}(h:opC E cf co st=some r)
  (K:Act→World→Prop) (Q:Exit→Act→World→Prop) (hl:LeadsC S a o.dst r K Q):wpOp P ops Q i K a S.w:=by
 unfold trOne at ht
 split at ht
 ·next hd=>
  simp only[zA,zB]at ht
  obtain⟨p,hp,g,hgd,rfl⟩:=ht
  unfold opC at h
  unfold wpOp
  simp only[ho]
  split at h
  ·next hw=>
   rw[if_pos (wanted_sound hf hgd hw)]
   refine .inl ?_
   simp only[opR,zB]at h
   obtain⟨q,hq1,rfl⟩:=h
   refine opX_sound hti hi hf hg hcf hp hq1 K Q ?_
   have htm:=(Fq.opX hq hq1).tm
   cases q with
   | val d st'=>
    intro S' v he hi' hr
    have hf':FrameRep S' st'.tm a.tmps:=by
     have:st'.tm=st.tm:=htm
     rw[this];exact hf.ext he
    exact hl S' v he (hi'.set _ _) (hf'.set o.dst hd hn d v hr)
   | pan d st'=>exact hl
  ·next hw=>
   rw[if_neg (by rw[wanted_sound hf hgd hw];simp)]
   injection h with h;subst h
   have:=hf.set o.dst hd hn (some .off) undef (fun d h=>by injection h with h;subst h;exact .off)
   exact hl S undef (.refl S) (hi.set o.dst (some .off)) this
  ·simp at h
 ·simp at ht
/-- a state and a frame behind some code -/
def After(S:G)(a:Act)(st':St)(K:Act→World→Prop):Prop:=
 ∀ S' a',Ext S S'→Inv S' st'→FrameRep S' st'.tm a'.tmps→a'.tmps.size=a.tmps.size→a'.defers=a.defers→K a' S'.w
def AfterP(S:G)(a:Act)(d:D)(st':St)(Q:Exit→Act→World→Prop):Prop:=
 ∀ S' a' v,Ext S S'→Inv S' st'→a'.defers=a.defers→Rep S' d v→Q (.panic [{ v:=v,recovered:=false }]) a' S'.w
def AfterR(S:G)(a:Act)(r:Rs)(Q:Exit→Act→World→Prop):Prop:=
 match r with
 | .ok st'=>After S a st' (Q .normal)
 | .pan d st'=>AfterP S a d st' Q
theorem After.shift{S S':G}{a a':Act}{st:St}{K:Act→World→Prop}(h:After S a st K)(he:Ext S S')(hs:a'.tmps.size=a.tmps.size)(hd:a'.defers=a.defers):After S' a' st K:=
 fun S'' a'' he' hi hf h1 h2=>h S'' a'' (he.trans he') hi hf (h1.trans hs) (h2.trans hd)
theorem AfterP.shift{S S':G}{a a':Act}{st:St}{d:D}{Q:Exit→Act→World→Prop}(h:AfterP S a d st Q)(he:Ext S S')(hd:a'.defers=a.defers):AfterP S' a' d st Q:=
 fun S'' a'' v he' hi h2 hr=>h S'' a'' v (he.trans he') hi (h2.trans hd) hr
theorem AfterR.shift{S S':G}{a a':Act}{r:Rs}{Q:Exit→Act→World→Prop}(h:AfterR S a r Q)(he:Ext S S')(hs:a'.tmps.size=a.tmps.size)(hd:a'.defers=a.defers):AfterR S' a' r Q:=by
 cases r with
 | ok st=>exact After.shift h he hs hd
 | pan d st=>exact AfterP.shift h he hd
theorem ops_sound(hti:TiOk P ti)(hi:Inv S st)(hg:GlOk S E){cf:Cf}(hcf:CfOk P E cf)(hq:CfFr cf)(hf:FrameRep S st.tm a.tmps){ops:Array Oper}{nt:Nat}{l:List Oper}{k:Nat}(hl:ops.toList.drop k=l){cl:List OpC}(ht:trOps ti nt ops l=some cl)(hn:nt≤a.tmps.size)
  {r:Rs} (h:runOps E cf cl st=some r) (Q:Exit→Act→World→Prop) (hQ:AfterR S a r Q):wpOps P ops Q (List.range' k l.length) a S.w:=by
 induction l generalizing k cl st S a with
 | nil=>
  injection ht with ht;subst ht
  injection h with h;subst h
  exact hQ S a (.refl S) hi hf rfl rfl
 | cons o rest ih=>
  simp only[trOps,zA,zB]at ht
  obtain⟨c,hc,cl',hcl,rfl⟩:=ht
  have ho:ops[k]?=some o:=by
   have:=congrArg (fun l=>l[0]?) hl
   simpa using this
  have hl':ops.toList.drop (k+1)=rest:=by
   have:=congrArg (List.drop 1) hl
   simpa[List.drop_drop]using this
  simp only[List.length_cons,List.range'_succ]
  rw[wpOps_cons]
  simp only[runOps]at h
  split at h
  ·next st' he=>
   refine opC_sound hti hi hg hcf hq hf ho hc hn he _ Q ?_
   intro S' v hext hi' hf'
   refine ih hi' (hg.ext hext) hf' hl' hcl (by rw[put_size];exact hn) h ?_
   exact hQ.shift hext (put_size _ _ _) (put_defers _ _ _)
  ·next hne=>
   cases r with
   | ok st'=>exact(hne st' h).elim
   | pan d st'=>
    refine opC_sound hti hi hg hcf hq hf ho hc hn h _ Q ?_
    intro S' v hext hi' hr
    exact hQ S' a v hext hi' rfl hr
end
end Go.Ev
end
section
namespace Go.Ev
def X.uses:X→List Nat
 | .s t=>[t]
 | _=>[]
def usesO:Option X→List Nat
 | some x=>x.uses
 | none=>[]
def usesL:List X→List Nat
 | []=>[]
 | x::r=>x.uses++usesL r
def usesP:List (Nat×Nat×X)→List Nat
 | []=>[]
 | p::r=>p.2.2.uses++usesP r
def O.uses:O→List Nat
 | .mv x | .box x | .chk x | .inil _ x | .un _ x | .cvi _ x | .cms x | .cbs x | .csb x | .ifc _ x | .fad _ x | .fld _ _ _ x | .ext x _ | .len x | .lns x | .cap x | .pan x | .rng x | .nxt x | .tas _ _ x | .load _ _ x=>x.uses
 | .pick c a b=>c.uses++(a.uses++b.uses)
 | .alloc _ | .nbl _ _=>[]
 | .build _ ps=>usesP ps
 | .lit _ _ ps=>usesP ps
 | .store _ a v=>a.uses++v.uses
 | .bin _ x y | .beq _ x y | .mks _ _ x y | .iad _ x y | .iaa _ _ x y | .ixa _ _ _ x y | .ixs x y | .app _ _ x y | .apz _ _ x y | .cpy _ x y=>x.uses++y.uses
 | .mkf _ l | .min l | .max l | .call _ l=>usesL l
 | .slc _ x l h m | .sla _ _ x l h m=>x.uses++(usesO l++(usesO h++usesO m))
 | .sls x l h=>x.uses++(usesO l++usesO h)
 | .callv x l=>x.uses++usesL l
/-- 0: reads slots alone; 1: reads objects too; 2: may change lineages, may call; 3: makes an object; 4: the others -/
def O.kind:O→Nat
 | .load _ _ _ | .cbs _=>1
 | .call _ _ | .callv _ _ | .app _ _ _ _ | .apz _ _ _ _=>2
 | .alloc _ | .mks _ _ _ _=>3
 | .box _ | .store _ _ _ | .cpy _ _ _ | .rng _ | .nxt _ | .pan _ | .nbl _ _=>4
 | _=>0
def Same(u:List Nat)(tm tm':Tm):Prop := ∀ t∈u,get tm' t=get tm t
section
variable {E:Env} {tm tm':Tm}
theorem ev_same{x:X}(h:Same x.uses tm tm'):ev E tm' x=ev E tm x:=by
 cases x with
 | s t=>exact h t (by simp[X.uses])
 | k d=>rfl
 | g n=>rfl
theorem evO_same{x:Option X}(h:Same (usesO x) tm tm'):evO E tm' x=evO E tm x:=by
 cases x with
 | none=>rfl
 | some x=>simp only[evO];rw[ev_same h]
theorem Same.left{u v:List Nat}(h:Same (u++v) tm tm'):Same u tm tm':=fun t ht=>h t (List.mem_append_left _ ht)
theorem Same.right{u v:List Nat}(h:Same (u++v) tm tm'):Same v tm tm':=fun t ht=>h t (List.mem_append_right _ ht)
theorem evL_same{l:List X}(h:Same (usesL l) tm tm'):evL E tm' l=evL E tm l:=by
 induction l with
 | nil=>rfl
 | cons x r ih=>simp only[evL];rw[ev_same h.left,ih h.right]
theorem evP_same{l:List (Nat×Nat×X)}(h:Same (usesP l) tm tm'):evP E tm' l=evP E tm l:=by
 induction l with
 | nil=>rfl
 | cons x r ih=>
  obtain⟨o,n,x⟩:=x
  simp only[evP];rw[ev_same (x:=x) h.left,ih h.right]
end
/-- an operation that reads alone: nothing changes, and it yields the same wherever it reads the same -/
theorem opD_quiet{E:Env}{st st1:St}{o:O}{r:Option D}(hk:o.kind≤1)(h:opD E st o=some (r,st1)) :
  st1=st ∧ ∀ st2:St,Same o.uses st.tm st2.tm→(o.kind=1→st2.mem=st.mem)→opD E st2 o=some (r,st2):=by
 cases o
 case load ag sz x=>
  simp only[opD,zA,zB,Prod.mk.injEq]at h
  obtain⟨d,hd,v,hv,rfl,rfl⟩:=h
  refine⟨rfl,fun st2 hs hm => ?_⟩
  simp only[opD]
  rw[ev_same hs,hd]
  have:loadD st2 ag sz d=loadD st ag sz d:=by
   simp only[loadD,cellsAt,hm rfl]
  simp[this,hv]
 case cbs x=>
  simp only[opD,zA]at h
  obtain⟨d,hd,h⟩:=h
  have hel : ∀ st2:St,st2.mem=st.mem→elems st2 1 d=elems st 1 d:=by
   intro st2 hm
   simp only[elems,hm]
  have key:st1=st ∧ ∃ p s,elems st 1 d=some p∧asBytes p.2=some s∧r=some (.str s)∧(match d with | .sl _ _ _ | .ref _ _ _ _ _=>True | _=>False):=by
   split at h
   ·simp only[zA,zB,Prod.mk.injEq]at h
    obtain⟨p,hp,s,hs,h1,h2⟩:=h
    exact⟨h2.symm,p,s,hp,hs,h1.symm,trivial⟩
   ·simp only[zA,zB,Prod.mk.injEq]at h
    obtain⟨p,hp,s,hs,h1,h2⟩:=h
    exact⟨h2.symm,p,s,hp,hs,h1.symm,trivial⟩
   ·simp at h
  obtain⟨rfl,p,s,hp,hs,rfl,hd2⟩:=key
  refine⟨rfl,fun st2 hsm hm => ?_⟩
  simp only[opD]
  rw[ev_same hsm,hd]
  have h3:=hel st2 (hm rfl)
  rw[hp]at h3
  cases d<;>first | exact hd2.elim | simp[h3,hs]
 case store=>simp[O.kind]at hk
 case alloc=>simp[O.kind]at hk
 case box=>simp[O.kind]at hk
 case mks=>simp[O.kind]at hk
 case app=>simp[O.kind]at hk
 case apz=>simp[O.kind]at hk
 case cpy=>simp[O.kind]at hk
 case call=>simp[O.kind]at hk
 case callv=>simp[O.kind]at hk
 case pan=>simp[O.kind]at hk
 case rng=>simp[O.kind]at hk
 case nbl=>simp[O.kind]at hk
 case nxt=>simp[O.kind]at hk
 all_goals
  refine⟨?_,fun st2 hs _ => ?_⟩
  ·have hq:=h
   simp only[opD,zA,zB]at h
   try (repeat' split at h)
   all_goals (try simp only[zA,zB,Prod.mk.injEq,Option.some.injEq,reduceCtorEq]at h)
   all_goals (try (first | done | grind))
   all_goals (try obtain⟨_,_,h⟩:=h)
   all_goals (try obtain⟨_,_,h⟩:=h)
   all_goals (try (repeat' split at h))
   all_goals (try simp only[zA,zB,Prod.mk.injEq,Option.some.injEq,reduceCtorEq]at h)
   all_goals (try grind)
  ·simp only[O.uses]at hs
   simp only[opD]at h ⊢
   first
    | rw[ev_same hs]
    | rw[evL_same hs]
    | rw[evP_same hs]
    | rw[ev_same hs.left,ev_same hs.right.left,ev_same hs.right.right]
    | rw[ev_same hs.left,evO_same hs.right.left,evO_same hs.right.right.left,evO_same hs.right.right.right]
    | rw[ev_same hs.left,evO_same hs.right.left,evO_same hs.right.right]
    | rw[ev_same hs.left,ev_same hs.right]
   all_goals (first
    | (simp only[zA,zB,Prod.mk.injEq,Option.some.injEq]at h ⊢;grind)
    | (
      rw[zA]at h;obtain⟨a,ha,h⟩:=h
      simp only[ha,zD]
      try (rw[zA]at h;obtain⟨b,hb,h⟩:=h;simp only[hb,zD])
      cases a<;>simp only[zA,zB,Prod.mk.injEq,Option.some.injEq,reduceCtorEq]at h ⊢ <;> grind)
    | (split at h<;>simp_all;done)
    | (split at h<;>simp_all<;>grind)
    | skip)
end Go.Ev
end
section
namespace Go.Ev
def CfTm(cf:Cf):Prop := ∀ f ds st q st' tm,cf f ds st=some (q,st')→cf f ds { st with tm:=tm }=some (q,{ st' with tm:=tm })
theorem frz_tm(st:St)(tm:Tm)(l:List Nat):frz { st with tm:=tm } l={ frz st l with tm:=tm }:=by
 induction l generalizing st with
 | nil=>rfl
 | cons k r ih=>
  simp only[frz]
  cases h:st.mem k with
  | none=>exact ih st
  | some o=>
   cases o with
   | row xs fz=>exact ih (st.setOb k (.row xs true))
   | iter s p=>exact ih st
   | bld t e s=>exact ih st
theorem leave_tm(fn:Fn)(st s:St)(d:D)(tm:Tm):leave fn { st with tm:=tm } s d=((leave fn st s d).1,{ (leave fn st s d).2 with tm:=tm }):=by
 unfold leave
 split
 ·split
  ·split<;>rfl
  ·split<;>rfl
  ·rfl
 ·split
  ·rfl
  ·split<;>rfl
theorem home_tm(fn:Fn)(ds:List D)(st:St)(tm:Tm):home fn ds { st with tm:=tm }={ home fn ds st with tm:=tm }:=by
 unfold home
 split
 ·rfl
 ·exact frz_tm _ _ _
theorem enter_tm(fn:Fn)(ds:List D)(st:St)(tm:Tm):enter fn ds { st with tm:=tm }=enter fn ds st:=by
 unfold enter
 split
 ·rfl
 ·simp only[frz_tm]
theorem told_tm(st:St)(tm:Tm)(d:D):told { st with tm:=tm } d=((told st d).1,{ (told st d).2 with tm:=tm }):=by
 unfold told
 split<;>rfl
theorem effD_tm{e:Eff}{ds:List D}{st st':St}{d:D}(tm:Tm)(h:effD e ds st=some (d,st')):effD e ds { st with tm:=tm }=some (d,{ st' with tm:=tm }):=by
 unfold effD at h ⊢
 repeat' split at h
 all_goals first
  | contradiction
  | (next hm hc=>
    simp only[Option.some.injEq,Prod.mk.injEq]at h
    obtain⟨rfl,rfl⟩:=h
    show(match st.mem _ with | some (.bld t' e' r)=>_ | _=>none)=_
    rw[hm]
    simp only
    rw[if_pos hc]
    rfl)
theorem call_tm(E:Env)(n:Nat):CfTm (call E n):=by
 intro f ds st q st' tm h
 cases n with
 | zero=>simp[call]at h
 | succ n=>
  simp only[call]at h ⊢
  split at h
  ·simp only[zB,Prod.mk.injEq]at h ⊢
   obtain⟨⟨d,s⟩,hd,rfl,rfl⟩:=h
   exact⟨_,effD_tm tm hd,rfl,rfl⟩
  ·simp only[zB,Prod.mk.injEq]at h ⊢
   obtain⟨d,hd,rfl,rfl⟩:=h
   exact⟨d,hd,by rw[frz_tm,told_tm],by rw[frz_tm,told_tm]⟩
  ·simp only[zA]at h ⊢
   obtain⟨fn,hfn,h⟩:=h
   refine⟨fn,hfn,?_⟩
   rw[enter_tm,home_tm]
   split at h
   ·next s he=>
    simp only[zB,Prod.mk.injEq]at h ⊢
    obtain⟨l,hl,rfl,rfl⟩:=h
    exact⟨l,hl,by rw[leave_tm],by rw[leave_tm]⟩
   ·next s he=>
    simp only[zB,Prod.mk.injEq]at h ⊢
    obtain⟨l,hl,rfl,rfl⟩:=h
    exact⟨l,hl,by rw[leave_tm],by rw[leave_tm]⟩
   ·next d s he=>
    simp only[Option.some.injEq,Prod.mk.injEq]at h ⊢
    obtain⟨rfl,rfl⟩:=h
    exact⟨by rw[leave_tm],by rw[leave_tm]⟩
   ·simp at h
theorem storeD_tm(st:St)(tm:Tm)(k off:Nat)(ys:List D):storeD { st with tm:=tm } k off ys=(storeD st k off ys).map fun s=>{ s with tm:=tm }:=by
 unfold storeD
 cases h:st.mem k with
 | none=>rfl
 | some o=>
  cases o with
  | iter s p=>rfl
  | bld _ _ _=>rfl
  | row xs fz=>
   cases fz with
   | true=>rfl
   | false=>
    simp only
    split<;>rfl
theorem appD_tm(sz bytes m:Nat)(s:D)(ys:List D)(st:St)(tm:Tm):appD sz bytes s m ys { st with tm:=tm }=(appD sz bytes s m ys st).map fun p=>(p.1,{ p.2 with tm:=tm }):=by
 unfold appD
 split
 ·split
  ·split
   ·rfl
   ·rfl
   ·split<;>rfl
  ·rfl
 ·next k off n c s'=>
  cases h:st.mem k with
  | none=>rfl
  | some o=>
   cases o with
   | iter s p=>rfl
   | bld _ _ _=>rfl
   | row xs fz=>
    simp only
    split
    ·split
     ·split
      ·rfl
      ·rw[storeD_tm];simp only[Option.map_map];rfl
     ·rfl
    ·rfl
 ·rfl
theorem elems_tm(st:St)(tm:Tm)(sz:Nat)(d:D):elems { st with tm:=tm } sz d=elems st sz d:=by cases d<;>rfl
theorem opX_loud{E:Env}{cf:Cf}(hc:CfTm cf){st st1:St}{o:O}{r:Option D}(hk:o.kind=2)(h:opX E cf st o=some (.val r st1)){tm:Tm}(hs:Same o.uses st.tm tm) :
  opX E cf { st with tm:=tm } o=some (.val r { st1 with tm:=tm }):=by
 cases o<;>first | (exfalso;simp[O.kind]at hk;done) | skip
 case call f xs=>
  simp only[opX,zA,zB]at h ⊢
  obtain⟨l,hl,⟨q,st'⟩,hq,h⟩:=h
  cases q with
  | ret d=>
   injection h with h1 h2
   subst h1 h2
   exact⟨l,(evL_same hs).trans hl,_,hc _ _ _ _ _ tm hq,rfl⟩
  | pan d=>cases h
 case callv g xs=>
  simp only[opX]at h ⊢
  rw[ev_same (E:=E) (x:=g) (tm:=st.tm) hs.left]
  split at h
  ·next f c hg=>
   simp only[hg,zA,zB]at h ⊢
   obtain⟨l,hl,⟨q,st'⟩,hq,h⟩:=h
   cases q with
   | ret d=>
    injection h with h1 h2
    subst h1 h2
    exact⟨l,(evL_same hs.right).trans hl,_,hc _ _ _ _ _ tm hq,rfl⟩
   | pan d=>cases h
  ·simp at h
 case app sz bytes s x=>
  simp only[opX,opD,zA,zB]at h ⊢
  obtain⟨⟨r',s'⟩,⟨d,hd,y,hy,p,hp,h⟩,h2⟩:=h
  injection h2 with h3 h4
  subst h3 h4
  split at h
  ·next ha=>
   simp only[zB,Prod.mk.injEq]at h
   obtain⟨⟨q1,q2⟩,hq,rfl,rfl⟩:=h
   refine⟨(some q1,{ q2 with tm:=tm }),⟨d,(ev_same hs.left).trans hd,y,(ev_same hs.right).trans hy,p,(elems_tm _ _ _ _).trans hp,?_⟩,rfl⟩
   rw[if_pos ha,appD_tm,hq];rfl
  ·simp at h
 case apz z bytes s x=>
  simp only[opX,opD,zA,zB]at h ⊢
  obtain⟨⟨r',s'⟩,⟨d,hd,h⟩,h2⟩:=h
  injection h2 with h3 h4
  subst h3 h4
  split at h
  ·next m hm=>
   split at h
   ·next ha=>
    simp only[zB,Prod.mk.injEq]at h
    obtain⟨⟨q1,q2⟩,hq,rfl,rfl⟩:=h
    refine⟨(some q1,{ q2 with tm:=tm }),⟨d,(ev_same hs.left).trans hd,?_⟩,rfl⟩
    rw[(ev_same hs.right).trans hm]
    simp only
    rw[if_pos ha,appD_tm,hq];rfl
   ·simp at h
  ·simp at h
def O.pureZ:O→Bool
 | .alloc z=>pureL z
 | .mks z _ _ _=>pureL z
 | _=>false
theorem pureL_app{xs ys:List D}:pureL (xs++ys)=(pureL xs && pureL ys):=by
 induction xs with
 | nil=>simp[pureL]
 | cons x r ih=>simp[pureL,ih,Bool.and_assoc]
theorem pureL_rep(n:Nat){z:List D}(h:pureL z=true):pureL (rep n z)=true:=by
 unfold rep
 induction n with
 | zero=>rfl
 | succ n ih=>rw[List.replicate_succ,List.flatten_cons,pureL_app,h,ih];rfl
/-- an operation that makes an object: where it reads the same, it makes the same -/
theorem opD_makes{E:Env}{st st1:St}{o:O}{r:Option D}(hk:o.kind=3)(h:opD E st o=some (r,st1)) :
  ∃ (z:List D) (at_:Nat→D),((∀ k,at_ k = .ptr k 0) ∨ ∃ n c sz,∀ k,at_ k = .ref k 0 n c sz)∧r=some (at_ st.nx)∧st1=st.newOb (.row z false)∧(o.pureZ=true→pureL z=true) ∧
   ∀ st2:St,Same o.uses st.tm st2.tm→opD E st2 o=some (some (at_ st2.nx),st2.newOb (.row z false)):=by
 cases o<;>first | (exfalso;simp[O.kind]at hk;done) | skip
 case alloc z=>
  simp only[opD,Option.some.injEq,Prod.mk.injEq]at h
  obtain⟨rfl,rfl⟩:=h
  exact⟨z,fun k => .ptr k 0,.inl fun _=>rfl,rfl,rfl,id,fun st2 _=>rfl⟩
 case mks z bytes n c=>
  simp only[opD]at h
  split at h
  ·next n' c' hn hc=>
   split at h
   ·next hcond=>
    simp only[Option.some.injEq,Prod.mk.injEq]at h
    obtain⟨rfl,rfl⟩:=h
    refine⟨rep c'.toNat z,fun k => .ref k 0 n'.toNat c'.toNat z.length,.inr ⟨_,_,_,fun _=>rfl⟩,rfl,rfl,fun hp=>pureL_rep _ hp,fun st2 hs => ?_⟩
    simp only[opD]
    rw[(ev_same hs.left).trans hn,(ev_same hs.right).trans hc]
    simp only
    rw[if_pos hcond]
   ·simp at h
  ·simp at h
end Go.Ev
end
section
namespace Go.Ev
theorem Rep.rho{S:G}(r:Nat→Nat){d:D}{v:Value}(h:Rep S d v):Rep { S with ρ:=r } d v:=by
 induction h with
 | und v=>exact .und v
 | off=>exact .off
 | bool b=>exact .bool b
 | int k n=>exact .int k n
 | float k b=>exact .float k b
 | str s=>exact .str s
 | nilp=>exact .nilp
 | nilf=>exact .nilf
 | nili=>exact .nili
 | sl g n xs A c b off us hc hA hu _ hφ hg ih=>
  refine .sl g n xs A c b off us hc hA hu ih hφ ?_
  cases g with
  | no=>trivial
  | full=>exact hg
  | ln g sz=>exact hg
 | ref k off n c sz b hk hb=>exact .ref k off n c sz b hk hb
 | ptr k off b hk hb=>exact .ptr k off b hk hb
 | el xs b off us hu _ hφ ih=>exact .el xs b off us hu ih hφ
 | agg ds vs hs _ ih=>exact .agg ds vs hs ih
 | tup ds vs hs _ ih=>exact .tup ds vs hs ih
 | fn f ds vs hs _ ih=>exact .fn f ds vs hs ih
 | iface t d v _ ih=>exact .iface t d v ih
/-- a name is given, nothing is made yet -/
theorem pend_row{S:G}{st:St}(h:Inv S st)(z:List D) : ∃ S':G,S'.w=S.w∧Ext S S'∧Inv S' (st.newOb (.row z false))∧S'.μ st.nx=none∧S'.nx=S.nx+1∧S'.ρ=S.ρ:=by
 have he:Ext S { S with μ:=fun k=>if k=S.nx then none else S.μ k,nx:=S.nx+1 }:=
  { Ext.refl S with
   mu:=fun k b hk hb=>by show(if k=S.nx then none else S.μ k)=_;rw[if_neg (by omega)];exact hb
   mu1:=fun k hk=>by show(if k=S.nx then none else S.μ k)=_;rw[if_neg (by omega)]
   nx:=by show S.nx≤S.nx+1;omega }
 refine⟨{ S with μ:=fun k=>if k=S.nx then none else S.μ k,nx:=S.nx+1 },rfl,he,?_,by show(if st.nx=S.nx then none else _)=_;rw[if_pos h.nx],rfl,rfl⟩
 refine h.step he S.nx (by show st.nx+1=S.nx+1;rw[h.nx]) (fun _ _ _=>⟨rfl,rfl⟩) ?_ (fun _ _ _=>rfl) ?_ ?_ h.out (dis_new h _) (own_old h _)
 ·intro k b hk hb
  have:(if k=S.nx then none else S.μ k)=some b:=hb
  rw[if_neg (by omega)]at this;exact this
 ·intro k o hk
  by_cases hk2:k=st.nx
  ·subst hk2
   refine .inr ⟨by show st.nx<S.nx+1;rw[h.nx];omega,fun b hb => ?_⟩
   have:(if st.nx=S.nx then none else S.μ st.nx)=some b:=hb
   rw[if_pos h.nx]at this;simp at this
  ·have hk':st.mem k=some o:=by
    have:(upd st.mem st.nx (.row z false)) k=some o:=hk
    rw[upd_ne _ _ hk2]at this;exact this
   have:=(h.ob k o hk').1
   exact .inl ⟨this,by omega,hk'⟩
 ·intro g n hg
  have hg':st.tip g=some n:=hg
  have:=(h.tip g n hg').1
  exact .inl ⟨this,by omega,hg'⟩
/-- a block is given to a name that waits for one -/
theorem claim_row{S0 S:G}{st:St}(h:Inv S st)(e:Ext S0 S){k b:Nat}{z:List D}(hm:st.mem k=some (.row z false))(hmu:S.μ k=none)(hk0:S0.nx≤k)(hb0:S0.w.heap.size≤b)
  (h0:S.ρ b=0) {c:Array Value} {t:TypeId} (hh:S.w.heap[b]?=some (.cells c t (0,0))) (hr:RepL S z c.toList) (hφ:S.φ b=0) :
  ∃ S':G,S'.w=S.w∧Ext S0 S'∧Inv S' st∧S'.μ k=some b∧S'.nx=S.nx∧(∀ j,j≠k→S'.μ j=S.μ j)∧(∀ d v,Rep S d v→Rep S' d v):=by
 let S1:G:={ S with μ:=fun j=>if j=k then some b else S.μ j }
 have hx1:Ext0 S S1:={ Ext0.refl S with
  mu:=fun j b' hj hb'=>by
   show(if j=k then some b else S.μ j)=_
   rw[if_neg (by rintro rfl;rw[hmu]at hb';simp at hb')];exact hb' }
 let S2:G:={ S1 with ρ:=fun b'=>if b'=b then k+1 else S.ρ b' }
 have hrep : ∀ d v,Rep S d v→Rep S2 d v:=fun d v hr=>(hr.ext0 hx1).rho _
 have hlt:=lt_of_heap hh
 have hkn:=(h.ob k _ hm).1
 have hob : ∀ {b':Nat} {o:Ob},S.ρ b'≠0→RepOb S b' o→RepOb S2 b' o:=by
  intro b' o hb0 h4
  cases h4 with
  | row xs fz c t hb hr h0 h1=>exact .row xs fz c t hb ⟨hr.1,fun j d v hd hv=>hrep d v (hr.2 j d v hd hv)⟩ h0 h1
  | iter s pos hb=>exact .iter s pos hb
  | bld t' e' s p v hb' hp hφ0 hown hne' hg=>
   refine .bld t' e' s p v hb' hp hφ0 hown hne' (fun g hgg=>⟨?_,(hg g hgg).2⟩)
   have h1:=(hg g hgg).1
   have hgb:g≠b:=by rintro rfl;omega
   have hbb:b'≠b:=by rintro rfl;omega
   show(if g=b then _ else S.ρ g)=(if b'=b then _ else S.ρ b')
   rw[if_neg hgb,if_neg hbb];exact h1
 refine⟨S2,rfl,?_,?_,by show(if k=k then _ else _)=_;rw[if_pos rfl],rfl,fun j hj=>by show(if j=k then _ else _)=_;rw[if_neg hj],hrep⟩
 ·exact { e with
   mu:=fun j b' hj hb'=>by show(if j=k then _ else _)=_;rw[if_neg (by omega)];exact e.mu j b' hj hb'
   mu1:=fun j hj=>by show(if j=k then _ else _)=_;rw[if_neg (by omega)];exact e.mu1 j hj
   role:=fun b' hb'=>by show(if b'=b then _ else _)=_;rw[if_neg (by omega)];exact e.role b' hb'
   free:=e.free
   shape:=e.shape }
 ·refine⟨h.nx,fun j o hj => ?_,fun g n hg => ?_,fun b' hb' => ?_,h.dis,fun b' => ?_⟩
  ·obtain⟨h1,h2⟩:=h.ob j o hj
   refine⟨h1,fun b' hb' => ?_⟩
   have hb2:(if j=k then some b else S.μ j)=some b':=hb'
   by_cases e2:j=k
   ·subst e2
    rw[if_pos rfl]at hb2
    injection hb2 with hb2;subst hb2
    rw[hm]at hj;injection hj with hj;subst hj
    refine⟨by show(if b=b then _ else _)=_;rw[if_pos rfl],?_⟩
    exact .row z false c t hh ⟨hr.1,fun i d v hd hv=>hrep d v (hr.2 i d v hd hv)⟩ (fun _=>hφ) (fun h=>by simp at h)
   ·rw[if_neg e2]at hb2
    obtain⟨h3,h4⟩:=h2 b' hb2
    refine⟨by show(if b'=b then _ else S.ρ b')=_;rw[if_neg (by rintro rfl;omega)];exact h3,hob (by omega) h4⟩
  ·obtain⟨k1,k2,A,c',sz,k3,k4,k5⟩:=h.tip g n hg
   refine⟨k1,k2,A,c',sz,k3,k4,k5.imp id ?_⟩
   rintro⟨b2,off2,cs2,t2,a1,a2,a3⟩
   refine⟨b2,off2,cs2,t2,a1,?_,a3⟩
   show(if b2=b then _ else S.ρ b2)=_
   rw[if_neg (by rintro rfl;omega)];exact a2
  ·have:=h.out b' hb'
   have hb2:S.w.heap.size≤b':=hb'
   exact⟨this.1,by show(if b'=b then _ else S.ρ b')=0;rw[if_neg (by omega)];exact this.2⟩
  ·show(if b'=b then k+1 else S.ρ b')≤S.nx
   split
   ·omega
   ·exact h.own b'
/-- an object is made late: it gets the name that was kept for it -/
theorem late_row{P:Program}{S0 S:G}{st:St}{a:Act}{o:Oper}(h:Inv S st)(e:Ext S0 S)(ho : ∀ b,S0.ρ b≤S0.nx){k:Nat}{z:List D}(hz:pureL z=true)(hm:st.mem k=some (.row z false))(hmu:S.μ k=none)(hk0:S0.nx≤k)
  {at_:Nat→D} (hat:(∀ k,at_ k = .ptr k 0) ∨ ∃ n c sz,∀ k,at_ k = .ref k 0 n c sz) (hy:Yields P S a o (some (at_ st.nx)) (st.newOb (.row z false))) :
  ∃ v S',(execOp a.eval o).run P S.w = .ok (.value v) S'.w∧Ext S0 S'∧Inv S' st∧Rep S' (at_ k) v∧S'.nx=S.nx∧(∀ j,j≠k→j<S.nx→S'.μ j=S.μ j)∧(∀ d v,Rep S d v→Rep S' d v):=by
 obtain⟨nx,S2,hx,he,hi2,v,rfl,hr⟩:=hy
 have hself:(st.newOb (.row z false)).mem st.nx=some (.row z false):=upd_self _ _ _
 obtain⟨b,hb,hv⟩ : ∃ b,S2.μ st.nx=some b ∧ ∀ S':G,k<S'.nx→S'.μ k=some b→Rep S' (at_ k) v:=by
  rcases hat with hat | ⟨n,c,sz,hat⟩
  ·rw[hat]at hr
   cases hr with
   | ptr _ _ b hk hb=>exact⟨b,hb,fun S' hk hb'=>by rw[hat];exact .ptr _ _ b hk hb'⟩
  ·rw[hat]at hr
   cases hr with
   | ref _ _ _ _ _ b hk hb=>exact⟨b,hb,fun S' hk hb'=>by rw[hat];exact .ref _ _ _ _ _ b hk hb'⟩
 obtain⟨_,hob⟩:=hi2.ob st.nx _ hself
 obtain⟨hρ,hob⟩:=hob b hb
 have hnx:=h.nx
 have hback:Inv (S2.cut S.nx) st:=h.back he hi2 (fun j hj=>upd_ne _ _ (by omega)) (fun j hj=>rfl)
 have hx4:=he.cut h.own
 cases hob with
 | row _ _ c t hh hrl h0 h1=>
  have hb0:S0.w.heap.size≤b:=by
   rcases Nat.lt_or_ge b S0.w.heap.size with hlt | hge
   ·have h5:=(e.trans he).role b hlt
    have h6:=ho b
    have h7:=e.nx
    omega
   ·exact hge
  have hr4:RepL (S2.cut S.nx) z c.toList:=⟨hrl.1,fun j d v hd hv=>Rep.cut (S:=S) (pureL_get hz hd) (hrl.2 j d v hd hv)⟩
  obtain⟨S',hw',he',hi',hmu',hnx',hoth,hrep⟩:=claim_row hback (e.trans hx4) hm ((he.mu1 k (h.ob k _ hm).1).trans hmu) hk0 hb0
   (by show(if S2.ρ b≤S.nx then _ else 0)=0;rw[if_neg (by omega)]) hh hr4 (h0 rfl)
  refine⟨v,S',by rw[hw'];exact hx,he',hi',hv S' (by rw[hnx'];exact(h.ob k _ hm).1) hmu',hnx',fun j hj hlt=>(hoth j hj).trans (he.mu1 j hlt),fun d u hu=>hrep d u (hu.ext hx4)⟩
end Go.Ev
end
section
namespace Go.Ev
def edgesAny(o:Oper):List Nat:=(o.after.toList.filter (fun e=>Region.binds .any e)).map (·.on)
def maskOf(acc:List Nat):List Nat→Nat
 | []=>0
 | e::r=>2 ^ e ||| (acc.getD e 0 ||| maskOf acc r)
/-- which operations lie ahead of each -/
def masks:List Oper→List Nat→List Nat
 | [],acc=>acc
 | o::r,acc=>masks r (acc++[maskOf acc (edgesAny o)])
def usesC(c:OpC):List Nat:=c.op.uses++(match c.gd with | some p=>[p.1] | none=>[])
def dstIn(d:Option Nat)(u:List Nat):Bool:=match d with | some t=>has u t | none=>false
def dstNe:Option Nat→Option Nat→Bool
 | some a,some b => !(Nat.beq a b)
 | _,_=>true
def pairOk(M:List Nat)(p q:Nat×OpC):Bool:=
 !(
   Nat.beq p.1 q.1) && dstNe p.2.dst q.2.dst && !dstIn q.2.dst (usesC p.2) && (!dstIn p.2.dst (usesC q.2) || (M.getD q.1 0).testBit p.1) &&
   (!(Nat.beq p.2.op.kind 2 && Nat.beq q.2.op.kind 2) || (M.getD q.1 0).testBit p.1)
def pairsOk(M:List Nat):List (Nat×OpC)→Bool
 | []=>true
 | p::r => !dstIn p.2.dst (usesC p.2) && (r.all fun q=>pairOk M p q) && pairsOk M r
def pickC(cl:List OpC):List Nat→Option (List (Nat×OpC))
 | []=>some []
 | i::r=>(cl[i]?).bind fun c=>(pickC cl r).map ((i,c) :: ·)
def isStore:O→Bool
 | .store _ _ _=>true
 | _=>false
/-- a store that may come ahead of an operation that reads slots alone -/
def floatOk(c z:OpC):Bool:=isStore c.op && c.dst.isNone && !dstIn z.dst (usesC c)
def restOk(M:List Nat)(l0 F:List (Nat×OpC)):List (Nat×OpC)→Bool
 | []=>true
 | p::r=>(F.all fun q=>(M.getD p.1 0).testBit q.1) && (l0.all fun z=>(M.getD p.1 0).testBit z.1 || floatOk p.2 z.2) && (r.all fun q=>(M.getD q.1 0).testBit p.1) && !(r.any fun q=>Nat.beq q.1 p.1) && restOk M l0 F r
def inL(i:Nat)(l:List (Nat×OpC)):Bool:=l.any fun p=>Nat.beq p.1 i
def drawOk(ops:Array Oper)(l0 lc l1 rs:List (Nat×OpC))(M:List Nat):Bool:=
 (l0.all fun p=>Nat.beq p.2.op.kind 0) && (lc.all fun p=>Nat.beq p.2.op.kind 3 && p.2.gd.isNone && p.2.op.pureZ) && (l1.all fun p=>Nat.ble p.2.op.kind 2) &&
  pairsOk M (l0++(lc++l1)) && ((List.range ops.size).all fun i=>inL i (l0++(lc++l1)) || inL i rs) && (rs.all fun p => !inL p.1 (l0++(lc++l1))) &&
  ((List.range ops.size).all fun j=>match ops[j]? with | some o=>(edgesAny o).all fun e=>Nat.blt e j | none=>true) && restOk M ((l0++(lc++l1)).filter fun p=>Nat.beq p.2.op.kind 0) ((l0++(lc++l1)).filter fun p => !(Nat.beq p.2.op.kind 0)) rs
def trD(ti:Ti)(nt:Nat)(ops:Array Oper)(h:List Nat×List Nat×List Nat):Option (List OpC×List OpC×List OpC):=
 (trOps ti nt ops ops.toList).bind fun cl=>(pickC cl h.1).bind fun l0=>(pickC cl h.2.1).bind fun lc=>(pickC cl h.2.2).bind fun l1=>
  (pickC cl ((List.range ops.size).filter fun i => !inL i (l0++(lc++l1)))).bind fun rs=>
  if drawOk ops l0 lc l1 rs (masks ops.toList [])then some ((l0++lc).map (·.2),l1.map (·.2),rs.map (·.2))else none
theorem has_mem{l:List Nat}{t:Nat}:has l t=true↔t∈l:=by
 induction l with
 | nil=>simp[has]
 | cons i r ih=>
  simp only[has]
  split
  ·next h=>subst h;simp
  ·next h=>rw[ih];simp[Ne.symm h]
theorem inL_iff{i:Nat}{l:List (Nat×OpC)}:inL i l=true ↔ ∃ p∈l,p.1=i:=by
 simp[inL]
theorem restOk_mem{M:List Nat}{l0 F r:List (Nat×OpC)}(h:restOk M l0 F r=true){p:Nat×OpC}(hp:p∈r):(∀ q∈F,(M.getD p.1 0).testBit q.1=true) ∧ ∀ z∈l0,(M.getD p.1 0).testBit z.1=true∨floatOk p.2 z.2=true:=by
 induction r with
 | nil=>simp at hp
 | cons x r ih=>
  simp only[restOk,zG,List.all_eq_true,Bool.or_eq_true]at h
  rcases List.mem_cons.1 hp with rfl | hp
  ·exact⟨h.1.1.1.1,h.1.1.1.2⟩
  ·exact ih h.2 hp
theorem dstIn_some{t:Nat}{u:List Nat}:dstIn (some t) u=true↔t∈u:=has_mem
/-! what lies ahead -/
def Closed(ops:Array Oper)(D:Nat→Prop):Prop := ∀ j o,ops[j]?=some o→D j → ∀ e∈edgesAny o,D e
def Bel(ops:Array Oper)(M:List Nat):Prop := ∀ j o i,ops[j]?=some o→(M.getD j 0).testBit i=true → ∀ D,Closed ops D→(∀ e∈edgesAny o,D e)→D i
theorem maskOf_bit{acc:List Nat}{es:List Nat}{i:Nat}(h:(maskOf acc es).testBit i=true) : ∃ e∈es,i=e∨(acc.getD e 0).testBit i=true:=by
 induction es with
 | nil=>simp[maskOf]at h
 | cons e r ih=>
  simp only[maskOf,Nat.testBit_or,Bool.or_eq_true]at h
  rcases h with h | h | h
  ·exact⟨e,by simp,.inl (by have:=Nat.testBit_two_pow (n:=e) (m:=i);rw[this]at h;simp at h;exact h.symm)⟩
  ·exact⟨e,by simp,.inr h⟩
  ·obtain⟨e',he',h'⟩:=ih h
   exact⟨e',by simp[he'],h'⟩
theorem masks_bel{ops:Array Oper}{l:List Oper}{acc:List Nat}(hl:ops.toList.drop acc.length=l)(h:Bel ops acc):Bel ops (masks l acc):=by
 induction l generalizing acc with
 | nil=>exact h
 | cons o r ih=>
  have ho:ops[acc.length]?=some o:=by
   have:=congrArg (fun l=>l[0]?) hl
   simpa using this
  refine ih ?_ ?_
  ·have:=congrArg (List.drop 1) hl
   simpa[List.drop_drop]using this
  ·intro j o' i hj hb D hD he
   have hlt:j<(acc++[maskOf acc (edgesAny o)]).length:=by
    rcases Nat.lt_or_ge j (acc++[maskOf acc (edgesAny o)]).length with h | h
    ·exact h
    ·rw[List.getD_eq_getElem?_getD,List.getElem?_eq_none h]at hb
     simp at hb
   rw[List.getD_eq_getElem?_getD]at hb
   by_cases hj2:j<acc.length
   ·rw[List.getElem?_append_left hj2,← List.getD_eq_getElem?_getD]at hb
    exact h j o' i hj hb D hD he
   ·have hje:j=acc.length:=by simp at hlt;omega
    subst hje
    rw[ho]at hj;injection hj with hj;subst hj
    simp only[List.getElem?_concat_length,Option.getD_some]at hb
    obtain⟨e,hee,hi⟩:=maskOf_bit hb
    rcases hi with rfl | hi
    ·exact he _ hee
    ·have hel:e<acc.length:=by
      rcases Nat.lt_or_ge e acc.length with h | h
      ·exact h
      ·rw[List.getD_eq_getElem?_getD,List.getElem?_eq_none h]at hi
       simp at hi
     have hsz:acc.length<ops.size:=by
      rcases Nat.lt_or_ge acc.length ops.size with h | h
      ·exact h
      ·rw[Array.getElem?_eq_none h]at ho;simp at ho
     have hoe:ops[e]?=some ops[e]:=Array.getElem?_eq_getElem (by omega)
     exact h e _ i hoe hi D hD (hD e _ hoe (he e hee))
theorem pairsOk_get{M:List Nat}{L:List (Nat×OpC)}(h:pairsOk M L=true){k k':Nat}{p q:Nat×OpC}(hp:L[k]?=some p)(hq:L[k']?=some q)(hk:k<k'):pairOk M p q=true:=by
 induction L generalizing k k' with
 | nil=>simp at hp
 | cons x r ih=>
  simp only[pairsOk,zG]at h
  cases k' with
  | zero=>omega
  | succ k'=>
   cases k with
   | zero=>
    simp at hp hq;subst hp
    exact List.all_eq_true.1 h.1.2 q (List.mem_of_getElem? hq)
   | succ k=>simp at hp hq;exact ih h.2 hp hq (by omega)
theorem pairsOk_self{M:List Nat}{L:List (Nat×OpC)}(h:pairsOk M L=true){k:Nat}{p:Nat×OpC}(hp:L[k]?=some p):dstIn p.2.dst (usesC p.2)=false:=by
 induction L generalizing k with
 | nil=>simp at hp
 | cons x r ih=>
  simp only[pairsOk,zG]at h
  cases k with
  | zero=>simp at hp;subst hp;simpa using h.1.1
  | succ k=>simp at hp;exact ih h.2 hp
theorem pickC_get{cl:List OpC}{is:List Nat}{l:List (Nat×OpC)}(h:pickC cl is=some l){p:Nat×OpC}(hp:p∈l):cl[p.1]?=some p.2:=by
 induction is generalizing l with
 | nil=>injection h with h;subst h;simp at hp
 | cons i r ih=>
  simp only[pickC,zA,zB]at h
  obtain⟨c,hc,l',hl,rfl⟩:=h
  rcases List.mem_cons.1 hp with rfl | hp
  ·exact hc
  ·exact ih hl hp
theorem trOps_get{ti:Ti}{nt:Nat}{ops:Array Oper}{l:List Oper}{cl:List OpC}(h:trOps ti nt ops l=some cl){i:Nat}{c:OpC}(hc:cl[i]?=some c) : ∃ o,l[i]?=some o∧trOne ti nt ops o=some c:=by
 induction l generalizing cl i with
 | nil=>injection h with h;subst h;simp at hc
 | cons o r ih=>
  simp only[trOps,zA,zB]at h
  obtain⟨c',hc',cl',hcl,rfl⟩:=h
  cases i with
  | zero=>simp at hc;subst hc;exact⟨o,rfl,hc'⟩
  | succ i=>simp at hc;exact ih hcl hc
section
variable {E:Env} {cf:Cf}
theorem runOps_append(x y:List OpC)(st:St):runOps E cf (x++y) st=match runOps E cf x st with | some (.ok s)=>runOps E cf y s | e=>e:=by
 induction x generalizing st with
 | nil=>rfl
 | cons o r ih=>
  simp only[List.cons_append,runOps]
  cases h:opC E cf o st with
  | none=>rfl
  | some q=>
   cases q with
   | ok s=>exact ih s
   | pan d s=>rfl
def stAt(E:Env)(cf:Cf)(l:List OpC)(st:St)(k:Nat):St:=match runOps E cf (l.take k) st with | some (.ok s)=>s | _=>st
theorem stAt_ok{l:List OpC}{st s:St}(h:runOps E cf l st=some (.ok s))(k:Nat):runOps E cf (l.take k) st=some (.ok (stAt E cf l st k)):=by
 rw[← List.take_append_drop k l,runOps_append]at h
 unfold stAt
 split at h
 ·next s' hs=>rw[hs]
 ·next hne=>exact(hne s h).elim
theorem stAt_end{l:List OpC}{st s:St}(h:runOps E cf l st=some (.ok s)){k:Nat}(hk:l.length≤k):stAt E cf l st k=s:=by
 have:=stAt_ok h k
 rw[zV hk,h]at this
 injection this with this;injection this with this;exact this.symm
theorem stAt_step{l:List OpC}{st s:St}(h:runOps E cf l st=some (.ok s)){k:Nat}{c:OpC}(hc:l[k]?=some c):opC E cf c (stAt E cf l st k)=some (.ok (stAt E cf l st (k+1))):=by
 have h1:=stAt_ok h k
 have h2:=stAt_ok h (k+1)
 rw[List.take_add_one,hc,runOps_append,h1]at h2
 simp only[Option.toList,runOps]at h2
 split at h2
 ·next s' hs=>injection h2 with h2;injection h2 with h2;rw[hs,h2]
 ·next hne=>exact(hne _ h2).elim
theorem runStill_ok{l:List OpC}{st s:St}(h:runStill E cf l st=some s):runOps E cf l st=some (.ok s) ∧ ∀ k,(stAt E cf l st k).mem=st.mem:=by
 induction l generalizing st with
 | nil=>
  injection h with h;subst h
  exact⟨rfl,fun k=>by simp[stAt,runOps]⟩
 | cons o r ih=>
  simp only[runStill]at h
  split at h
  ·next s' hs=>
   split at h
   ·next hm=>
    obtain⟨h1,h2⟩:=ih h
    have hr:runOps E cf (o::r) st=some (.ok s):=by simp only[runOps,hs];exact h1
    refine⟨hr,fun k => ?_⟩
    cases k with
    | zero=>simp[stAt,runOps]
    | succ k=>
     have:stAt E cf (o::r) st (k+1)=stAt E cf r s' k:=by
      have a1:=stAt_ok hr (k+1)
      have a2:=stAt_ok h1 k
      simp only[List.take_succ_cons,runOps,hs]at a1
      rw[a2]at a1
      injection a1 with a1;injection a1 with a1;exact a1.symm
     rw[this,h2 k,hm]
   ·simp at h
  ·simp at h
theorem stAt_append{x y:List OpC}{st s1 s2:St}(h1:runOps E cf x st=some (.ok s1))(h2:runOps E cf y s1=some (.ok s2))(k:Nat):stAt E cf (x++y) st (x.length+k)=stAt E cf y s1 k:=by
 have h:runOps E cf (x++y) st=some (.ok s2):=by rw[runOps_append,h1];exact h2
 have a1:=stAt_ok h (x.length+k)
 have a2:=stAt_ok h2 k
 rw[List.take_length_add_append,runOps_append,h1]at a1
 simp only at a1
 rw[a2]at a1
 injection a1 with a1;injection a1 with a1;exact a1.symm
/-- the same but for the slots -/
def Eqv(s s':St):Prop:=s.mem=s'.mem∧s.tip=s'.tip∧s.nx=s'.nx
theorem Eqv.refl(s:St):Eqv s s:=⟨rfl,rfl,rfl⟩
theorem Eqv.trans{a b c:St}(h:Eqv a b)(k:Eqv b c):Eqv a c:=⟨h.1.trans k.1,h.2.1.trans k.2.1,h.2.2.trans k.2.2⟩
theorem Eqv.symm{a b:St}(h:Eqv a b):Eqv b a:=⟨h.1.symm,h.2.1.symm,h.2.2.symm⟩
theorem Eqv.tm(s:St)(tm:Tm):Eqv s { s with tm:=tm }:=⟨rfl,rfl,rfl⟩
theorem Eqv.set(s:St)(dst:Option Nat)(r:Option D):Eqv s (s.set dst r):=by
 cases r<;>cases dst<;>exact⟨rfl,rfl,rfl⟩
theorem Inv.eqv{S:G}{s s':St}(h:Inv S s)(e:Eqv s s'):Inv S s':=by
 obtain⟨e1,e2,e3⟩:=e
 exact⟨e3 ▸ h.nx,e1 ▸ h.ob,e2 ▸ h.tip,h.out,by rw[← e1,← e2];exact h.dis,h.own⟩
/-- slots that an operation does not write -/
theorem opC_other(hq:CfFr cf){c:OpC}{st st':St}(h:opC E cf c st=some (.ok st')){t:Nat}(ht:c.dst≠some t):get st'.tm t=get st.tm t:=by
 have hset : ∀ (s:St) (r:Option D),get (s.set c.dst r).tm t=get s.tm t:=by
  intro s r
  cases hd:c.dst with
  | none=>cases r<;>rfl
  | some u=>
   have hu : ¬ t=u:=fun e=>ht (by rw[hd,e])
   cases r with
   | some d=>show get (put s.tm u d) t=_;rw[get_put,if_neg hu]
   | none=>show get (del s.tm u) t=_;rw[get_del,if_neg hu]
 unfold opC at h
 split at h
 ·simp only[opR,zB]at h
  obtain⟨q,hq1,hq2⟩:=h
  have:=(Fq.opX hq hq1).tm
  cases q with
  | val r s=>
   injection hq2 with hq2
   subst hq2
   rw[hset]
   exact congrArg (fun tm=>get tm t) this
  | pan d s=>cases hq2
 ·injection h with h;injection h with h;subst h
  exact hset st (some .off)
 ·simp at h
end
end Go.Ev
end
section
namespace Go.Ev
/-- all that is known of a region that draws -/
structure Drw(P:Program)(E:Env)(cf:Cf)(ti:Ti)(nt:Nat)(ops:Array Oper)(S0:G)(st0:St)(M:List Nat)(L:List (Nat×OpC))(T:Nat→St)(c0 m0 m:Nat):Prop where
 len:L.length=m
 c0m:c0≤m0
 m0m:m0≤m
 bel:Bel ops M
 pairs:pairsOk M L=true
 tr : ∀ (k:Nat) (p:Nat×OpC),L[k]?=some p → ∃ o,ops[p.1]?=some o∧trOne ti nt ops o=some p.2
 run : ∀ (k:Nat) (p:Nat×OpC),L[k]?=some p→opC E cf p.2 (T k)=some (.ok (T (k+1)))
 k0 : ∀ (k:Nat) (p:Nat×OpC),L[k]?=some p→k<c0→p.2.op.kind=0
 kc : ∀ (k:Nat) (p:Nat×OpC),L[k]?=some p→c0≤k→k<m0→p.2.op.kind=3∧p.2.gd=none∧p.2.op.pureZ=true
 k1 : ∀ (k:Nat) (p:Nat×OpC),L[k]?=some p→m0≤k→p.2.op.kind≤2
 mem : ∀ k,m0≤k→k≤m→(T k).mem=(T m0).mem
 start:T 0=st0
section
variable {P:Program} {E:Env} {cf:Cf} {ti:Ti} {nt:Nat} {ops:Array Oper} {S0:G} {st0:St} {M:List Nat} {L:List (Nat×OpC)} {T:Nat→St} {c0 m0 m:Nat}
variable (hd:Drw P E cf ti nt ops S0 st0 M L T c0 m0 m) (hq:CfFr cf)
theorem Drw.lt(hd:Drw P E cf ti nt ops S0 st0 M L T c0 m0 m){k:Nat}{p:Nat×OpC}(h:L[k]?=some p):k<m:=by
 rw[← hd.len]
 rcases Nat.lt_or_ge k L.length with h' | h'
 ·exact h'
 ·rw[List.getElem?_eq_none h']at h;simp at h
theorem Drw.dst_ne(hd:Drw P E cf ti nt ops S0 st0 M L T c0 m0 m){k k':Nat}{p q:Nat×OpC}(hp:L[k]?=some p)(hp':L[k']?=some q)(hne:k≠k'){t:Nat}(h1:p.2.dst=some t):q.2.dst≠some t:=by
 intro h2
 have key : ∀ {k k':Nat} {p q:Nat×OpC},L[k]?=some p→L[k']?=some q→k<k'→p.2.dst=some t→q.2.dst=some t→False:=by
  intro k k' p q hp hq hk h1 h2
  have:=pairsOk_get hd.pairs hp hq hk
  simp[pairOk,h1,h2,dstNe]at this
 rcases Nat.lt_or_gt_of_ne hne with h | h
 ·exact key hp hp' h h1 h2
 ·exact key hp' hp h h2 h1
theorem Drw.idx_ne(hd:Drw P E cf ti nt ops S0 st0 M L T c0 m0 m){k k':Nat}{p q:Nat×OpC}(hp:L[k]?=some p)(hp':L[k']?=some q)(hne:k≠k'):p.1≠q.1:=by
 intro h2
 have key : ∀ {k k':Nat} {p q:Nat×OpC},L[k]?=some p→L[k']?=some q→k<k'→p.1=q.1→False:=by
  intro k k' p q hp hq hk h1
  have:=pairsOk_get hd.pairs hp hq hk
  simp[pairOk,h1]at this
 rcases Nat.lt_or_gt_of_ne hne with h | h
 ·exact key hp hp' h h2
 ·exact key hp' hp h h2.symm
theorem Drw.keep(hd:Drw P E cf ti nt ops S0 st0 M L T c0 m0 m)(hq:CfFr cf){t k j:Nat}(hk:k+j≤m)(h : ∀ (k':Nat) (p:Nat×OpC),k≤k'→k'<k+j→L[k']?=some p→p.2.dst≠some t):get (T (k+j)).tm t=get (T k).tm t:=by
 induction j with
 | zero=>rfl
 | succ j ih=>
  have hlt:k+j<L.length:=by rw[hd.len];omega
  have hp:L[k+j]?=some L[k+j]:=zL hlt
  have:=opC_other hq (hd.run _ _ hp) (h (k+j) _ (by omega) (by omega) hp)
  rw[← Nat.add_assoc,this]
  exact ih (by omega) (fun k' p h1 h2=>h k' p h1 (by omega))
/-- a slot that is written at k: behind it, it stays -/
theorem Drw.keep_dst(hd:Drw P E cf ti nt ops S0 st0 M L T c0 m0 m)(hq:CfFr cf){t k k':Nat}{p:Nat×OpC}(hp:L[k]?=some p)(ht:p.2.dst=some t)(h1:k<k')(h2:k'≤m):get (T k').tm t=get (T m).tm t:=by
 have e1:=hd.keep hq (t:=t) (k:=k+1) (j:=k' - (k+1)) (by omega) (fun k2 q h3 h4 hq2=>hd.dst_ne hp hq2 (by omega) ht)
 have e2:=hd.keep hq (t:=t) (k:=k+1) (j:=m - (k+1)) (by omega) (fun k2 q h3 h4 hq2=>hd.dst_ne hp hq2 (by omega) ht)
 have a1:k+1+(k' - (k+1))=k':=by omega
 have a2:k+1+(m - (k+1))=m:=by omega
 rw[a1]at e1;rw[a2]at e2
 rw[e1,e2]
theorem Drw.keep_other(hd:Drw P E cf ti nt ops S0 st0 M L T c0 m0 m)(hq:CfFr cf){t k:Nat}(hk:k≤m)(h : ∀ (k':Nat) (p:Nat×OpC),L[k']?=some p→p.2.dst≠some t):get (T k).tm t=get st0.tm t:=by
 have:=hd.keep hq (t:=t) (k:=0) (j:=k) (by omega) (fun k2 q _ _ hq2=>h k2 q hq2)
 rw[Nat.zero_add]at this
 rw[this,hd.start]
/-- what does not call and makes nothing changes slots alone -/
theorem Drw.quiet(hd:Drw P E cf ti nt ops S0 st0 M L T c0 m0 m)(hq:CfFr cf){k:Nat}{p:Nat×OpC}(hp:L[k]?=some p)(h:p.2.op.kind≤1):Eqv (T k) (T (k+1)):=by
 have hr:=hd.run k p hp
 unfold opC at hr
 split at hr
 ·simp only[opR,zB]at hr
  obtain⟨q,hq1,hq2⟩:=hr
  have : ∃ r s,q = .val r s∧opD E (T k) p.2.op=some (r,s):=by
   cases hop:p.2.op<;>rw[hop]at hq1 h<;>first
    | (exfalso;simp[O.kind]at h;done)
    | (simp only[opX,zB]at hq1;obtain⟨⟨r,s⟩,h1,h2⟩:=hq1;exact⟨r,s,h2.symm,h1⟩)
  obtain⟨r,s,rfl,ho⟩:=this
  have hs:=(opD_quiet h ho).1
  subst hs
  injection hq2 with hq2
  rw[← hq2]
  exact .set _ _ _
 ·injection hr with hr;injection hr with hr
  rw[← hr]
  exact Eqv.set _ _ (some .off)
 ·simp at hr
theorem Drw.still(hd:Drw P E cf ti nt ops S0 st0 M L T c0 m0 m)(hq:CfFr cf){k j:Nat}(hk:k+j≤m)(h : ∀ (k':Nat) (p:Nat×OpC),k≤k'→k'<k+j→L[k']?=some p→p.2.op.kind≤1):Eqv (T k) (T (k+j)):=by
 induction j with
 | zero=>exact .refl _
 | succ j ih=>
  have hlt:k+j<L.length:=by rw[hd.len];omega
  have hp:L[k+j]?=some L[k+j]:=zL hlt
  exact(ih (by omega) (fun k' p h1 h2=>h k' p h1 (by omega))).trans (hd.quiet hq hp (h (k+j) _ (by omega) (by omega) hp))
/-- a creation's step -/
theorem Drw.made(hd:Drw P E cf ti nt ops S0 st0 M L T c0 m0 m){k:Nat}{p:Nat×OpC}(hp:L[k]?=some p)(h1:c0≤k)(h2:k<m0) :
  ∃ (z:List D) (at_:Nat→D),((∀ k,at_ k = .ptr k 0) ∨ ∃ n c sz,∀ k,at_ k = .ref k 0 n c sz)∧pureL z=true∧T (k+1)=((T k).newOb (.row z false)).set p.2.dst (some (at_ (T k).nx)) ∧
   ∀ st2:St,Same p.2.op.uses (T k).tm st2.tm→opD E st2 p.2.op=some (some (at_ st2.nx),st2.newOb (.row z false)):=by
 obtain⟨hk,hg,hz⟩:=hd.kc k p hp h1 h2
 have hr:=hd.run k p hp
 unfold opC at hr
 rw[hg]at hr
 simp only[wants,opR,zB]at hr
 obtain⟨q,hq1,hq2⟩:=hr
 have : ∃ r s,q = .val r s∧opD E (T k) p.2.op=some (r,s):=by
  cases hop:p.2.op<;>rw[hop]at hq1 hk<;>first
   | (exfalso;simp[O.kind]at hk;done)
   | (simp only[opX,zB]at hq1;obtain⟨⟨r,s⟩,h1,h2⟩:=hq1;exact⟨r,s,h2.symm,h1⟩)
 obtain⟨r,s,rfl,ho⟩:=this
 obtain⟨z,at_,hat,rfl,rfl,hpz,hall⟩:=opD_makes hk ho
 injection hq2 with hq2
 exact⟨z,at_,hat,hpz hz,hq2.symm,hall⟩
/-- all names are given ahead -/
theorem Drw.begin(hd:Drw P E cf ti nt ops S0 st0 M L T c0 m0 m)(hq:CfFr cf)(hi:Inv S0 st0) : ∃ S:G,S.w=S0.w∧Ext S0 S∧Inv S (T m0)∧(∀ k,c0≤k→k<m0→S.μ (T k).nx=none∧S0.nx≤(T k).nx)∧S.ρ=S0.ρ:=by
 have e0:=hd.still hq (k:=0) (j:=c0) (by have:=hd.c0m;have:=hd.m0m;omega) (fun k' p _ h2 hp=>by have:=hd.k0 k' p hp (by omega);omega)
 rw[hd.start,Nat.zero_add]at e0
 have h0:=hi.eqv e0
 have key : ∀ j,c0+j≤m0 → ∃ S:G,S.w=S0.w∧Ext S0 S∧Inv S (T (c0+j))∧(∀ k,c0≤k→k<c0+j→S.μ (T k).nx=none∧S0.nx≤(T k).nx∧(T k).nx<S.nx)∧S.ρ=S0.ρ:=by
  intro j
  induction j with
  | zero=>intro _;exact⟨S0,rfl,.refl S0,h0,fun k h1 h2=>by omega,rfl⟩
  | succ j ih=>
   intro hj
   obtain⟨S,hw,he,hinv,hmu,hρ⟩:=ih (by omega)
   have hlt:c0+j<L.length:=by rw[hd.len];have:=hd.m0m;omega
   have hp:L[c0+j]?=some L[c0+j]:=zL hlt
   obtain⟨z,at_,_,_,hT,_⟩:=hd.made hp (by omega) (by omega)
   obtain⟨S',hw',he',hi',hm',hn',hρ'⟩:=pend_row hinv z
   have hnx:=hinv.nx
   refine⟨S',hw'.trans hw,he.trans he',?_,fun k h1 h2 => ?_,hρ'.trans hρ⟩
   ·rw[← Nat.add_assoc,hT];exact hi'.set _ _
   ·by_cases hk:k=c0+j
    ·subst hk
     exact⟨hm',by have:=he.nx;omega,by omega⟩
    ·obtain⟨a1,a2,a3⟩:=hmu k h1 (by omega)
     exact⟨(he'.mu1 _ a3).trans a1,a2,by omega⟩
 have hc:=hd.c0m
 obtain⟨S,a1,a2,a3,a4,a5⟩:=key (m0 - c0) (by omega)
 have e:c0+(m0 - c0)=m0:=by omega
 rw[e]at a3 a4
 exact⟨S,a1,a2,a3,fun k h1 h2=>⟨(a4 k h1 h2).1,(a4 k h1 h2).2.1⟩,a5⟩
/-- a creation's object at the names' end -/
theorem Drw.there(hd:Drw P E cf ti nt ops S0 st0 M L T c0 m0 m){k:Nat}{p:Nat×OpC}(hp:L[k]?=some p)(h1:c0≤k)(h2:k<m0){z:List D}(hT:(T (k+1)).mem (T k).nx=some (.row z false))(hn:(T k).nx<(T (k+1)).nx){K:Nat}(hK:m0≤K)(hKm:K≤m):(T K).mem (T k).nx=some (.row z false):=by
 rw[hd.mem K hK hKm]
 have key : ∀ j,k+1+j≤m0→(T (k+1+j)).mem (T k).nx=some (.row z false)∧(T k).nx<(T (k+1+j)).nx:=by
  intro j
  induction j with
  | zero=>intro _;exact⟨hT,hn⟩
  | succ j ih=>
   intro hj
   obtain⟨a1,a2⟩:=ih (by omega)
   have hlt:k+1+j<L.length:=by rw[hd.len];have:=hd.m0m;omega
   have hp':L[k+1+j]?=some L[k+1+j]:=zL hlt
   obtain⟨z',at_,_,_,hT',_⟩:=hd.made hp' (by omega) (by omega)
   have hT'':T (k+1+(j+1))=_:=hT'
   have e:Eqv _ _:=Eqv.set ((T (k+1+j)).newOb (.row z' false)) L[k+1+j].2.dst (some (at_ (T (k+1+j)).nx))
   rw[hT'']
   rw[← e.1,← e.2.2]
   refine⟨?_,?_⟩
   ·show upd _ _ _ _=_
    rw[upd_ne _ _ (by omega)];exact a1
   ·show _<(T (k+1+j)).nx+1;omega
 have:=(key (m0 - (k+1)) (by omega)).1
 have e:k+1+(m0 - (k+1))=m0:=by omega
 rw[e]at this
 exact this
end
end Go.Ev
end
section
namespace Go.Ev
/-- where a run stands when D have been done -/
def At(S0:G)(st0:St)(ops:Array Oper)(L:List (Nat×OpC))(T:Nat→St)(c0 m0 m:Nat)(a:Act)(D:Nat→Prop)(a':Act)(w':World):Prop:=
 ∃ (S:G) (K:Nat),S.w=w'∧Ext S0 S∧a'.tmps.size=a.tmps.size∧a'.defers=a.defers∧Closed ops D∧m0≤K∧K≤m ∧
  (∀ (k:Nat) (p:Nat×OpC),L[k]?=some p→m0≤k→p.2.op.kind=2→(D p.1↔k<K))∧Inv S (T K) ∧
  (∀ (k:Nat) (p:Nat×OpC),L[k]?=some p→c0≤k→k<m0 → ¬ D p.1→S.μ (T k).nx=none) ∧
  (∀ t d,(∀ (k:Nat) (p:Nat×OpC),L[k]?=some p→p.2.dst≠some t)→get st0.tm t=some d → ∃ v,a'.tmps[t]?=some v∧Rep S d v) ∧
  (∀ (k:Nat) (p:Nat×OpC) t d,L[k]?=some p→D p.1→p.2.dst=some t→get (T m).tm t=some d → ∃ v,a'.tmps[t]?=some v∧Rep S d v)
theorem trOne_dst{ti:Ti}{nt:Nat}{ops:Array Oper}{o:Oper}{c:OpC}(h:trOne ti nt ops o=some c):c.dst=o.dst∧dstOk nt o.dst=true∧trO ti o=some c.op∧trG ops o.guard=some c.gd:=by
 unfold trOne at h
 split at h
 ·next hd=>
  simp only[zA,zB]at h
  obtain⟨p,hp,g,hg,rfl⟩:=h
  exact⟨rfl,hd,hp,hg⟩
 ·simp at h
theorem wants_same{c:OpC}{tm tm':Tm}(h:Same (usesC c) tm tm'):wants tm' c.gd=wants tm c.gd:=by
 unfold usesC at h
 cases hg:c.gd with
 | none=>rfl
 | some p=>
  obtain⟨t,b⟩:=p
  rw[hg]at h
  simp only[wants]
  rw[h t (by simp)]
theorem Same.kept{u:List Nat}{tm:Tm}:Same u tm (kept u tm):=by
 intro t ht
 rw[get_kept,if_pos (has_mem.2 ht)]
theorem opX_val{E:Env}{cf:Cf}{st:St}{o:O}{q:Rv}(hk:o.kind≠2)(h4:o.kind≠4)(h:opX E cf st o=some q) : ∃ r s,q = .val r s∧opD E st o=some (r,s):=by
 cases o<;>first
  | (exfalso;simp[O.kind]at hk;done)
  | (exfalso;simp[O.kind]at h4;done)
  | (simp only[opX,zB]at h;obtain⟨⟨r,s⟩,h1,h2⟩:=h;exact⟨r,s,h2.symm,h1⟩)
theorem opX_of_val{E:Env}{cf:Cf}{st:St}{o:O}{r:Option D}{s:St}(hk:o.kind≠2)(h4:o.kind≠4)(h:opD E st o=some (r,s)):opX E cf st o=some (.val r s):=by
 cases o<;>first
  | (exfalso;simp[O.kind]at hk;done)
  | (exfalso;simp[O.kind]at h4;done)
  | (simp only[opX,h];rfl)
section
variable {P:Program} {E:Env} {cf:Cf} {ti:Ti} {nt:Nat} {ops:Array Oper} {S0:G} {st0:St} {M:List Nat} {L:List (Nat×OpC)} {T:Nat→St} {c0 m0 m:Nat} {a:Act}
variable (hti:TiOk P ti) (hd:Drw P E cf ti nt ops S0 st0 M L T c0 m0 m) (hq:CfFr cf) (hcf:CfOk P E cf) (hct:CfTm cf) (hg0:GlOk S0 E) (hown : ∀ b,S0.ρ b≤S0.nx) (hnm : ∀ k,c0≤k→k<m0→S0.nx≤(T k).nx) (hn:nt≤a.tmps.size)
theorem Drw.step(hti:TiOk P ti)(hd:Drw P E cf ti nt ops S0 st0 M L T c0 m0 m)(hq:CfFr cf)(hcf:CfOk P E cf)(hct:CfTm cf)(hg0:GlOk S0 E)(hown : ∀ b,S0.ρ b≤S0.nx)(hnm : ∀ k,c0≤k→k<m0→S0.nx≤(T k).nx)(hn:nt≤a.tmps.size){D:Nat→Prop}{a':Act}{w':World}(hat:At S0 st0 ops L T c0 m0 m a D a' w'){k:Nat}{p:Nat×OpC}(hp:L[k]?=some p)(hnD : ¬ D p.1)(hed : ∀ o,ops[p.1]?=some o → ∀ e∈edgesAny o,D e)(Q:Exit→Act→World→Prop) :
  wpOp P ops Q p.1 (At S0 st0 ops L T c0 m0 m a (fun i=>D i∨i=p.1)) a' w':=by
 obtain⟨S,K,rfl,hext,hsz,hdf,hcl,hK0,hKm,hloud,hinv,hpend,hs1,hs2⟩:=hat
 obtain⟨o,ho,htr⟩:=hd.tr k p hp
 obtain⟨hdst,hdok,htrO,htrG⟩:=trOne_dst htr
 have hkm:=hd.lt hp
 -- what lies ahead has been done
 have ahead : ∀ i,(M.getD p.1 0).testBit i=true→D i:=fun i hi=>hd.bel p.1 o i ho hi D hcl (hed o ho)
 have pair : ∀ {k':Nat} {p':Nat×OpC},L[k']?=some p'→k'<k→pairOk M p' p=true:=fun hp' hlt=>pairsOk_get hd.pairs hp' hp hlt
 -- the slots that are read
 have hfr:FrameRep S (kept (usesC p.2) (T k).tm) a'.tmps:=by
  intro t d ht
  rw[get_kept]at ht
  split at ht
  ·next hu=>
   have hu:=has_mem.1 hu
   by_cases hex : ∃ (k':Nat) (p':Nat×OpC),L[k']?=some p'∧p'.2.dst=some t
   ·obtain⟨k',p',hp',ht'⟩:=hex
    have hne:k'≠k:=by
     rintro rfl
     rw[hp]at hp';injection hp' with hp';subst hp'
     have:=pairsOk_self hd.pairs hp
     rw[ht']at this
     have h2:=dstIn_some.2 hu
     rw[this]at h2;simp at h2
    have hlt:k'<k:=by
     rcases Nat.lt_or_gt_of_ne hne with h | h
     ·exact h
     ·have:=pairsOk_get hd.pairs hp hp' h
      simp only[pairOk,zG,ht',dstIn_some.2 hu]at this
      simp at this
    have hpr:=pair hp' hlt
    simp only[pairOk,zG,ht',dstIn_some.2 hu]at hpr
    have hb:(M.getD p.1 0).testBit p'.1=true:=by
     have:=hpr.1.2
     simpa using this
    refine hs2 k' p' t d hp' (ahead _ hb) ht' ?_
    rw[← hd.keep_dst hq hp' ht' hlt (by omega)]
    exact ht
   ·refine hs1 t d (fun k' p' hp' ht'=>hex ⟨k',p',hp',ht'⟩) ?_
    rw[← hd.keep_other hq (k:=k) (by omega) (fun k' p' hp' ht'=>hex ⟨k',p',hp',ht'⟩)]
    exact ht
  ·simp at ht
 have hsame:Same (usesC p.2) (T k).tm (kept (usesC p.2) (T k).tm):=Same.kept
 have hsame':Same p.2.op.uses (T k).tm (kept (usesC p.2) (T k).tm):=fun t ht=>hsame t (List.mem_append_left _ ht)
 have hg:=hg0.ext hext
 have hn':nt≤a'.tmps.size:=by rw[hsz];exact hn
 -- a loud operation's place
 have hplace:p.2.op.kind=2→m0≤k∧K≤k∧Eqv (T K) (T k) ∧ ∀ (k':Nat) (p':Nat×OpC),L[k']?=some p'→m0≤k'→p'.2.op.kind=2→((D p'.1∨p'.1=p.1)↔k'<k+1):=by
  intro h2
  have hm0:m0≤k:=by
   rcases Nat.lt_or_ge k m0 with h | h
   ·rcases Nat.lt_or_ge k c0 with h' | h'
    ·have:=hd.k0 k p hp h';omega
    ·have:=(hd.kc k p hp h' h).1;omega
   ·exact h
  have hKk:K≤k:=by
   rcases Nat.lt_or_ge k K with h | h
   ·exact(hnD ((hloud k p hp hm0 h2).2 h)).elim
   ·exact h
  have before : ∀ (k':Nat) (p':Nat×OpC),L[k']?=some p'→k'<k→p'.2.op.kind=2→D p'.1:=by
   intro k' p' hp' hlt h2'
   have:=pair hp' hlt
   simp only[pairOk,zG,h2,h2']at this
   exact ahead _ (by simpa using this.2)
  refine⟨hm0,hKk,?_,fun k' p' hp' hm' h2'=>⟨fun h => ?_,fun h => ?_⟩⟩
  ·have:=hd.still hq (k:=K) (j:=k - K) (by omega) (fun k' p' h3 h4 hp'=>by
    have h5:=hd.k1 k' p' hp' (by omega)
    have h6:p'.2.op.kind≠2:=fun h7=>by
     have:=(hloud k' p' hp' (by omega) h7).1 (before k' p' hp' (by omega) h7)
     omega
    omega)
   have e:K+(k - K)=k:=by omega
   rw[e]at this;exact this
  ·rcases h with h | h
   ·have:=(hloud k' p' hp' hm' h2').1 h;omega
   ·by_cases he:k'=k
    ·omega
    ·exact(hd.idx_ne hp' hp he h).elim
  ·by_cases he:k'=k
   ·subst he
    rw[hp]at hp';injection hp' with hp';subst hp'
    exact .inr rfl
   ·exact .inl (before k' p' hp' (by omega) h2')
 have hloud':p.2.op.kind≠2 → ∀ (k':Nat) (p':Nat×OpC),L[k']?=some p'→m0≤k'→p'.2.op.kind=2→((D p'.1∨p'.1=p.1)↔k'<K):=by
  intro h2 k' p' hp' hm' h2'
  refine⟨fun h => ?_,fun h => .inl ((hloud k' p' hp' hm' h2').2 h)⟩
  rcases h with h | h
  ·exact(hloud k' p' hp' hm' h2').1 h
  ·by_cases he:k'=k
   ·subst he
    rw[hp]at hp';injection hp' with hp';subst hp'
    exact(h2 h2').elim
   ·exact(hd.idx_ne hp' hp he h).elim
 -- the end of the step
 have fin : ∀ (S':G) (K':Nat) (v:Value),Ext S0 S'→(∀ d u,Rep S d u→Rep S' d u)→Inv S' (T K')→m0≤K'→K'≤m →
   (∀ (k':Nat) (p':Nat×OpC),L[k']?=some p'→m0≤k'→p'.2.op.kind=2→((D p'.1∨p'.1=p.1)↔k'<K')) →
   (∀ (k':Nat) (p':Nat×OpC),L[k']?=some p'→c0≤k'→k'<m0 → ¬ (D p'.1∨p'.1=p.1)→S'.μ (T k').nx=none) →
   (∀ t d,p.2.dst=some t→get (T m).tm t=some d→Rep S' d v) →
   At S0 st0 ops L T c0 m0 m a (fun i=>D i∨i=p.1) (a'.put o.dst v) S'.w:=by
  intro S' K' v he hlift hi' h1 h2 h3 h4 h5
  refine⟨S',K',rfl,he,by rw[put_size];exact hsz,by rw[put_defers];exact hdf,?_,h1,h2,h3,hi',h4,?_,?_⟩
  ·intro j oj hj hD e hee
   rcases hD with hD | rfl
   ·exact .inl (hcl j oj hj hD e hee)
   ·exact .inl (hed oj hj e hee)
  ·intro t d hno hget
   obtain⟨u,hu,hr⟩:=hs1 t d hno hget
   exact⟨u,by rw[put_other _ _ _ (by rw[← hdst];exact hno k p hp)];exact hu,hlift _ _ hr⟩
  ·intro k' p' t d hp' hD ht hget
   by_cases hkk:k'=k
   ·subst hkk
    rw[hp]at hp';injection hp' with hp';subst hp'
    refine⟨v,?_,h5 t d ht hget⟩
    rw[← hdst,ht]
    refine put_self _ _ _ ?_
    rw[← hdst,ht]at hdok
    simp[dstOk]at hdok
    omega
   ·have hD:D p'.1:=hD.resolve_right (fun h=>hd.idx_ne hp' hp hkk h)
    obtain⟨u,hu,hr⟩:=hs2 k' p' t d hp' hD ht hget
    exact⟨u,by rw[put_other _ _ _ (by rw[← hdst];exact hd.dst_ne hp' hp hkk ht)];exact hu,hlift _ _ hr⟩
 -- the operation
 have hrun:=hd.run k p hp
 unfold opC at hrun
 unfold wpOp
 simp only[ho]
 split at hrun
 ·next hw=>
  have hw':wants (kept (usesC p.2) (T k).tm) p.2.gd=some true:=(wants_same hsame).trans hw
  rw[if_pos (wanted_sound (st:={ T K with tm:=kept (usesC p.2) (T k).tm }) hfr htrG hw')]
  refine .inl ?_
  simp only[opR,zB]at hrun
  obtain⟨q,hq1,hq2⟩:=hrun
  -- what the slot holds in the end
  have hval : ∀ r s,q = .val r s → ∀ t d,p.2.dst=some t→get (T m).tm t=some d→r=some d:=by
   intro r s hqe t d ht hget
   subst hqe
   injection hq2 with hq2
   rw[← hd.keep_dst hq hp ht (Nat.lt_succ_self k) (by omega),← hq2,ht]at hget
   cases r with
   | none=>
    have:get (del s.tm t) t=some d:=hget
    rw[get_del,if_pos rfl]at this;simp at this
   | some e=>
    have:get (put s.tm t e) t=some d:=hget
    rw[get_put,if_pos rfl]at this;exact this
  by_cases h2:p.2.op.kind=2
  ·obtain⟨hm0,hKk,heq,hl⟩:=hplace h2
   have : ∃ r s,q = .val r s:=by
    cases q with
    | val r s=>exact⟨r,s,rfl⟩
    | pan d s=>cases hq2
   obtain⟨r,s,rfl⟩:=this
   have hx:=opX_loud hct h2 hq1 hsame'
   have hi2:Inv S { T k with tm:=kept (usesC p.2) (T k).tm }:=(hinv.eqv heq).tm _
   refine opX_sound hti hi2 hfr hg hcf htrO hx _ Q ?_
   intro S' v he hi' hr
   injection hq2 with hq2
   refine fin S' (k+1) v (hext.trans he) (fun d u h=>h.ext he) ?_ (by omega) (by omega) hl ?_ (fun t d ht hget=>hr d (hval r s rfl t d ht hget))
   ·rw[← hq2]
    exact(hi'.eqv (Eqv.tm s _).symm).eqv (Eqv.set _ _ _)
   ·intro k' p' hp' hc1 hc2 hno
    have h6:=hpend k' p' hp' hc1 hc2 (fun h=>hno (.inl h))
    obtain⟨z,at_,_,_,hT,_⟩:=hd.made hp' hc1 hc2
    have hmem:(T (k'+1)).mem (T k').nx=some (.row z false):=by rw[hT,← (Eqv.set _ _ _).1];exact upd_self _ _ _
    have hth:=hd.there hp' hc1 hc2 hmem (by rw[hT,← (Eqv.set _ _ _).2.2];exact Nat.lt_succ_self _) hK0 hKm
    exact(he.mu1 _ (hinv.ob _ _ hth).1).trans h6
  ·have h4:p.2.op.kind≠4:=by
    rcases Nat.lt_or_ge k c0 with h | h
    ·have:=hd.k0 k p hp h;omega
    ·rcases Nat.lt_or_ge k m0 with h' | h'
     ·have:=(hd.kc k p hp h h').1;omega
     ·have:=hd.k1 k p hp h';omega
   obtain⟨r,s,rfl,hop⟩:=opX_val h2 h4 hq1
   have hi2:Inv S { T K with tm:=kept (usesC p.2) (T k).tm }:=hinv.tm _
   by_cases h3:p.2.op.kind=3
   ·have hc:c0≤k∧k<m0:=by
     refine⟨?_,?_⟩
     ·rcases Nat.lt_or_ge k c0 with h | h
      ·have:=hd.k0 k p hp h;omega
      ·exact h
     ·rcases Nat.lt_or_ge k m0 with h | h
      ·exact h
      ·have:=hd.k1 k p hp h;omega
    obtain⟨z,at_,hat,hz,hT,hall⟩:=hd.made hp hc.1 hc.2
    have hop2:=hall { T K with tm:=kept (usesC p.2) (T k).tm } hsame'
    have hy:=opD_sound hti hi2 hfr hg htrO hop2
    have hmem:(T (k+1)).mem (T k).nx=some (.row z false):=by rw[hT,← (Eqv.set _ _ _).1];exact upd_self _ _ _
    have hth:=hd.there hp hc.1 hc.2 hmem (by rw[hT,← (Eqv.set _ _ _).2.2];exact Nat.lt_succ_self _) hK0 hKm
    obtain⟨v,S',hx,he',hi',hrv,hnx',hmu',hrep⟩:=late_row hi2 hext hown hz hth (hpend k p hp hc.1 hc.2 hnD) (hnm k hc.1 hc.2) hat hy
    have hr:r=some (at_ (T k).nx):=by
     have h5:=hall (T k) (fun _ _=>rfl)
     rw[hop]at h5
     injection h5 with h5;injection h5
    unfold Oper.wp
    rw[hx,Oper.upon_value]
    refine fin S' K v he' hrep (hi'.eqv (Eqv.tm _ _).symm) hK0 hKm (hloud' h2) ?_ (fun t d ht hget => ?_)
    ·intro k' p' hp' hc1 hc2 hno
     have h6:=hpend k' p' hp' hc1 hc2 (fun h=>hno (.inl h))
     obtain⟨z',at',_,_,hT',_⟩:=hd.made hp' hc1 hc2
     have hmem':(T (k'+1)).mem (T k').nx=some (.row z' false):=by rw[hT',← (Eqv.set _ _ _).1];exact upd_self _ _ _
     have hth':=hd.there hp' hc1 hc2 hmem' (by rw[hT',← (Eqv.set _ _ _).2.2];exact Nat.lt_succ_self _) hK0 hKm
     have hkk:k'≠k:=by
      rintro rfl
      rw[hp]at hp';injection hp' with hp';subst hp'
      exact hno (.inr rfl)
     have hne:(T k').nx≠(T k).nx:=by
      have inc : ∀ {k1 k2:Nat},c0≤k1→k1<k2→k2≤m0→(T k1).nx<(T k2).nx:=by
       intro k1 k2 g1 g2 g3
       have step : ∀ j,k1+1+j≤m0→(T k1).nx<(T (k1+1+j)).nx:=by
        intro j
        induction j with
        | zero=>
         intro _
         have hlt:k1<L.length:=by rw[hd.len];have:=hd.m0m;omega
         obtain⟨_,_,_,_,hT2,_⟩:=hd.made (zL hlt) g1 (by omega)
         show _<(T (k1+1)).nx
         rw[hT2,← (Eqv.set _ _ _).2.2];exact Nat.lt_succ_self _
        | succ j ih=>
         intro hj
         have:=ih (by omega)
         have hlt:k1+1+j<L.length:=by rw[hd.len];have:=hd.m0m;omega
         obtain⟨_,_,_,_,hT2,_⟩:=hd.made (zL hlt) (by omega) (by omega)
         have hT3:(T (k1+1+(j+1))).nx=(T (k1+1+j)).nx+1:=by
          show(T (k1+1+j+1)).nx=_
          rw[hT2,← (Eqv.set _ _ _).2.2];rfl
         omega
       have:=step (k2 - (k1+1)) (by omega)
       have e:k1+1+(k2 - (k1+1))=k2:=by omega
       rw[e]at this;exact this
      rcases Nat.lt_or_gt_of_ne hkk with h | h
      ·have:=inc hc1 h (by omega);omega
      ·have:=inc hc.1 h (by omega);omega
     exact(hmu' _ hne (hinv.ob _ _ hth').1).trans h6
    ·have h5:=hval r s rfl t d ht hget
     rw[hr]at h5
     injection h5 with h5
     rw[← h5];exact hrv
   ·have hk1:p.2.op.kind≤1:=by
     rcases Nat.lt_or_ge k c0 with h | h
     ·have:=hd.k0 k p hp h;omega
     ·rcases Nat.lt_or_ge k m0 with h' | h'
      ·exact(h3 (hd.kc k p hp h h').1).elim
      ·have:=hd.k1 k p hp h';omega
    obtain⟨rfl,hall⟩:=opD_quiet hk1 hop
    have hop2:=hall { T K with tm:=kept (usesC p.2) (T k).tm } hsame' (fun h1=>by
     have hm0:m0≤k:=by
      rcases Nat.lt_or_ge k m0 with h | h
      ·rcases Nat.lt_or_ge k c0 with h' | h'
       ·have:=hd.k0 k p hp h';omega
       ·exact(h3 (hd.kc k p hp h' h).1).elim
      ·exact h
     show(T K).mem=_
     rw[hd.mem K hK0 hKm,hd.mem k hm0 (by omega)])
    refine opX_sound hti hi2 hfr hg hcf htrO (opX_of_val h2 h4 hop2) _ Q ?_
    intro S' v he hi' hr
    refine fin S' K v (hext.trans he) (fun d u h=>h.ext he) (hi'.eqv (Eqv.tm _ _).symm) hK0 hKm (hloud' h2) ?_ (fun t d ht hget=>hr d (hval r _ rfl t d ht hget))
    intro k' p' hp' hc1 hc2 hno
    have h6:=hpend k' p' hp' hc1 hc2 (fun h=>hno (.inl h))
    obtain⟨z,at_,_,_,hT,_⟩:=hd.made hp' hc1 hc2
    have hmem:(T (k'+1)).mem (T k').nx=some (.row z false):=by rw[hT,← (Eqv.set _ _ _).1];exact upd_self _ _ _
    have hth:=hd.there hp' hc1 hc2 hmem (by rw[hT,← (Eqv.set _ _ _).2.2];exact Nat.lt_succ_self _) hK0 hKm
    exact(he.mu1 _ (hinv.ob _ _ hth).1).trans h6
 ·next hw=>
  have hw':wants (kept (usesC p.2) (T k).tm) p.2.gd=some false:=(wants_same hsame).trans hw
  rw[if_neg (by rw[wanted_sound (st:={ T K with tm:=kept (usesC p.2) (T k).tm }) hfr htrG hw'];simp)]
  injection hrun with hrun;injection hrun with hrun
  have hT:T (k+1)=(T k).set p.2.dst (some .off):=hrun.symm
  have hnone : ∀ t d,p.2.dst=some t→get (T m).tm t=some d→Rep S d undef:=by
   intro t d ht hget
   rw[← hd.keep_dst hq hp ht (Nat.lt_succ_self k) (by omega),hT,ht]at hget
   have:get (put (T k).tm t .off) t=some d:=hget
   rw[get_put,if_pos rfl]at this;injection this with this;subst this;exact .off
  by_cases h2:p.2.op.kind=2
  ·obtain⟨hm0,hKk,heq,hl⟩:=hplace h2
   refine fin S (k+1) undef hext (fun d u h=>h) ?_ (by omega) (by omega) hl (fun k' p' hp' h1 h2 hno=>hpend k' p' hp' h1 h2 (fun h=>hno (.inl h))) hnone
   rw[hT]
   exact(hinv.eqv heq).eqv (Eqv.set _ _ (some .off))
  ·exact fin S K undef hext (fun d u h=>h) hinv hK0 hKm (hloud' h2) (fun k' p' hp' h1 h2 hno=>hpend k' p' hp' h1 h2 (fun h=>hno (.inl h))) hnone
 ·simp at hrun
end
end Go.Ev
end
section
namespace Go.Ev
def unl(ops:Array Oper)(listed:Array Bool):Nat:=(List.range ops.size).countP fun i => !listed.getD i true
theorem countP_less{α:Type}{l:List α}{f g:α→Bool}(h : ∀ x,g x=true→f x=true){p:α}(hp:p∈l)(hf:f p=true)(hg:g p=false):l.countP g+1≤l.countP f:=by
 induction l with
 | nil=>simp at hp
 | cons x r ih=>
  simp only[List.countP_cons]
  have hm:r.countP g≤r.countP f:=List.countP_mono_left (fun x _=>h x)
  rcases List.mem_cons.1 hp with rfl | hp
  ·rw[hf,hg];simp;omega
  ·have:=ih hp
   cases hgx:g x with
   | false=>simp;omega
   | true=>rw[h x hgx];simp;omega
theorem unl_set{ops:Array Oper}{listed:Array Bool}{i:Nat}(hi:i<ops.size)(hs:listed.size=ops.size)(h:listed.getD i true=false):unl ops (listed.setIfInBounds i true)+1≤unl ops listed:=by
 refine countP_less (p:=i) ?_ (List.mem_range.2 hi) (by rw[h];rfl) ?_
 ·intro x hx
  by_cases e:i=x
  ·subst e;rw[h];rfl
  ·rw[getD_set_ne true e]at hx;exact hx
 ·have:i<listed.size:=by omega
  simp[this]
theorem unl_pos{ops:Array Oper}{listed:Array Bool}{i:Nat}(hi:i<ops.size)(h:listed.getD i true=false):1≤unl ops listed:=by
 unfold unl
 exact List.countP_pos_iff.2 ⟨i,List.mem_range.2 hi,by simp only[h];rfl⟩
theorem edges_iff{o:Oper}{listed:Array Bool}:(∀ e∈o.after,Region.binds .any e=true→listed.getD e.on false=true) ↔ ∀ e∈edgesAny o,listed.getD e false=true:=by
 unfold edgesAny
 constructor
 ·intro h e he
  obtain⟨x,hx,rfl⟩:=List.mem_map.1 he
  rw[List.mem_filter]at hx
  exact h x (Array.mem_toList_iff.1 hx.1) hx.2
 ·intro h e he hb
  exact h e.on (List.mem_map.2 ⟨e,List.mem_filter.2 ⟨Array.mem_toList_iff.2 he,hb⟩,rfl⟩)
theorem getD_not{listed:Array Bool}{i:Nat}(hi:i<listed.size):listed.getD i true=false ↔ ¬ listed.getD i false=true:=by
 simp[hi]
/-- an operation that reads slots alone: whatever the others do, it yields what the slots say -/
def ZOk(E:Env)(c:OpC)(tm:Tm):Prop:=
 (wants tm c.gd=some true ∧ ∃ r,(∀ st2:St,Same c.op.uses tm st2.tm→opD E st2 c.op=some (r,st2)) ∧ ∀ t d,c.dst=some t→get tm t=some d→r=some d) ∨
 (wants tm c.gd=some false ∧ ∀ t d,c.dst=some t→get tm t=some d→d = .off)
theorem store_tm{E:Env}{cf:Cf}{c:OpC}{st:St}{q:Rs}(hs:isStore c.op=true)(hd:c.dst=none)(h:opC E cf c st=some q) :
  ∃ st',q = .ok st'∧st'.tm=st.tm ∧ ∀ tm,Same (usesC c) st.tm tm→opC E cf c { st with tm:=tm }=some (.ok { st' with tm:=tm }):=by
 obtain⟨dst,op,gd⟩:=c
 simp only at hs hd
 subst hd
 cases op<;>first | (exfalso;simp[isStore]at hs;done) | skip
 next sz x y=>
 unfold opC at h
 simp only at h
 split at h
 ·next hw=>
  simp only[opR,opX,opD,zB,zA]at h
  obtain⟨rv,⟨⟨r',s'⟩,⟨d,hd,z,hz,h⟩,rfl⟩,rfl⟩:=h
  split at h
  ·next k off=>
   split at h
   ·next hl=>
    simp only[zB,Prod.mk.injEq]at h
    obtain⟨s2,hs2,rfl,rfl⟩:=h
    refine⟨s2,rfl,?_,fun tm hsm => ?_⟩
    ·have:=storeD_tm st st.tm k off z.cells
     rw[show({ st with tm:=st.tm }:St)=st from rfl,hs2]at this
     simp only[zC,Option.some.injEq]at this
     rw[this]
    ·unfold opC
     have hw2:wants tm gd=some true:=(wants_same (c:=⟨none,.store sz x y,gd⟩) hsm).trans hw
     simp only[hw2,opR,opX,opD]
     have hsm2:Same (x.uses++y.uses) st.tm tm:=fun t ht=>hsm t (List.mem_append_left _ ht)
     rw[ev_same hsm2.left,ev_same hsm2.right,hd,hz]
     simp only[zD]
     rw[if_pos hl,storeD_tm,hs2]
     rfl
   ·simp at h
  ·simp at h
 ·next hw=>
  injection h with h;subst h
  refine⟨st,rfl,rfl,fun tm hsm => ?_⟩
  unfold opC
  have hw2:wants tm gd=some false:=(wants_same (c:=⟨none,.store sz x y,gd⟩) hsm).trans hw
  simp only[hw2]
  rfl
 ·simp at h
theorem set_listed{listed:Array Bool}{i:Nat}(hi:i<listed.size)(j:Nat):(listed.setIfInBounds i true).getD j false=true↔listed.getD j false=true∨j=i:=by
 by_cases e:i=j
 ·subst e;simp[hi]
 ·rw[getD_set_ne false e]
  exact⟨.inl,fun h=>h.resolve_right (fun h=>e h.symm)⟩
theorem ready_nil{ops:Array Oper}(hback : ∀ j o,ops[j]?=some o → ∀ e∈edgesAny o,e<j){listed:Array Bool}(hls:listed.size=ops.size)(h:Region.ready .any ops listed=[]) : ∀ i,i<ops.size→listed.getD i false=true:=by
 have key : ∀ n i,i≤n→i<ops.size→listed.getD i false=true:=by
  intro n
  induction n with
  | zero=>
   intro i hin him
   refine Classical.byContradiction fun hl => ?_
   have h0:i=0:=by omega
   subst h0
   have hoi:ops[0]?=some ops[0]:=Array.getElem?_eq_getElem (by omega)
   have:0∈Region.ready .any ops listed:=mem_ready.2 ⟨(getD_not (by omega)).2 hl,_,hoi,edges_iff.2 fun e he=>by have:=hback 0 _ hoi e he;omega⟩
   rw[h]at this;simp at this
  | succ n ihn=>
   intro i hin him
   refine Classical.byContradiction fun hl => ?_
   have hoi:ops[i]?=some ops[i]:=Array.getElem?_eq_getElem (by omega)
   have:i∈Region.ready .any ops listed:=mem_ready.2 ⟨(getD_not (by omega)).2 hl,_,hoi,edges_iff.2 fun e he=>by
    have h1:=hback i _ hoi e he
    exact ihn e (by omega) (by omega)⟩
   rw[h]at this;simp at this
 exact fun i hi=>key i i (zR _) hi
section
variable {P:Program} {E:Env} {cf:Cf} {ti:Ti} {nt:Nat} {ops:Array Oper}
variable (hti:TiOk P ti) (hq:CfFr cf) (hcf:CfOk P E cf)
theorem lin_done{l0 rs:List (Nat×OpC)}{st:St}{S:G}{a:Act}{listed:Array Bool}{r:Rs}{Q:Exit→Act→World→Prop}(hall : ∀ i,i<ops.size→listed.getD i false=true)(htr : ∀ p∈rs,∃ o,ops[p.1]?=some o∧trOne ti nt ops o=some p.2)(hnl : ∀ p∈rs,¬ listed.getD p.1 false=true)
  (hi:Inv S st) (hfr : ∀ t d,get st.tm t=some d→(∀ z∈l0,¬ listed.getD z.1 false=true→z.2.dst≠some t) → ∃ v,a.tmps[t]?=some v∧Rep S d v) (hrun:runOps E cf (rs.map (·.2)) st=some r) (hQ:AfterR S a r Q) (hZtr : ∀ z∈l0,∃ o,ops[z.1]?=some o∧trOne ti nt ops o=some z.2):Q .normal a S.w:=by
 cases rs with
 | cons p rs=>
  obtain⟨o,ho,_⟩:=htr p (by simp)
  exact(hnl p (by simp) (hall _ (Array.getElem?_eq_some_iff.1 ho).1)).elim
 | nil=>
  injection hrun with hrun;subst hrun
  refine hQ S a (.refl S) hi (fun t d ht=>hfr t d ht fun z hzm hzn => ?_) rfl rfl
  obtain⟨o,ho,_⟩:=hZtr z hzm
  exact(hzn (hall _ (Array.getElem?_eq_some_iff.1 ho).1)).elim
/-- the last operations, in their order; others that read slots alone come whenever they may -/
theorem last_sound(hti:TiOk P ti)(hq:CfFr cf)(hcf:CfOk P E cf){M:List Nat}(hM:Bel ops M)(hback : ∀ j o,ops[j]?=some o → ∀ e∈edgesAny o,e<j){l0 F:List (Nat×OpC)}(hZtr : ∀ z∈l0,∃ o,ops[z.1]?=some o∧trOne ti nt ops o=some z.2)(hZk : ∀ z∈l0,z.2.op.kind=0)
  (hZp : ∀ z∈l0,∀ z'∈l0,∀ t,z'.2.dst=some t→t∈usesC z.2→(M.getD z.1 0).testBit z'.1=true) {r:Rs} (Q:Exit→Act→World→Prop) :
  ∀ (fuel:Nat) (rs:List (Nat×OpC)) (st:St) (S:G) (a:Act) (listed:Array Bool),restOk M l0 F rs=true→(∀ p∈rs,∃ o,ops[p.1]?=some o∧trOne ti nt ops o=some p.2)→(∀ z∈l0,∀ p∈rs,z.1≠p.1) →
   (∀ i,i<ops.size→listed.getD i false=true∨(∃ p∈rs,p.1=i) ∨ ∃ z∈l0,z.1=i)→(∀ p∈rs,¬ listed.getD p.1 false=true)→Closed ops (fun i=>listed.getD i false=true)→Inv S st→GlOk S E →
   (∀ t d,get st.tm t=some d→(∀ z∈l0,¬ listed.getD z.1 false=true→z.2.dst≠some t) → ∃ v,a.tmps[t]?=some v∧Rep S d v)→(∀ z∈l0,¬ listed.getD z.1 false=true→ZOk E z.2 st.tm)→nt≤a.tmps.size →
   runOps E cf (rs.map (·.2)) st=some r→AfterR S a r Q→listed.size=ops.size→unl ops listed≤fuel→wpAny P .any ops Q fuel listed a S.w:=by
 intro fuel
 induction fuel with
 | zero=>
  intro rs st S a listed hro htr hdis hcov hnl hcl hi hg hfr hz hn hrun hQ hls hunl
  have hall : ∀ i,i<ops.size→listed.getD i false=true:=by
   intro i hi
   refine Classical.byContradiction fun h => ?_
   have:=unl_pos hi ((getD_not (by omega)).2 h);omega
  refine⟨?_,lin_done hall htr hnl hi hfr hrun hQ hZtr⟩
  apply List.eq_nil_iff_forall_not_mem.2
  intro i hi2
  obtain⟨h1,o,ho,_⟩:=mem_ready.1 hi2
  have hlt:i<ops.size:=(Array.getElem?_eq_some_iff.1 ho).1
  exact(getD_not (by omega)).1 h1 (hall i hlt)
 | succ fuel ih=>
  intro rs st S a listed hro htr hdis hcov hnl hcl hi hg hfr hz hn hrun hQ hls hunl
  refine⟨fun h=>lin_done (ready_nil hback hls h) htr hnl hi hfr hrun hQ hZtr,fun i hi2 => ?_⟩
  obtain⟨h1,oi,hoi,h2⟩:=mem_ready.1 hi2
  have h2:=edges_iff.1 h2
  have hlt:i<ops.size:=(Array.getElem?_eq_some_iff.1 hoi).1
  have hil:i<listed.size:=by omega
  have hnl1:=(getD_not hil).1 h1
  have hu:=unl_set hlt hls h1
  have ahead : ∀ j,(M.getD i 0).testBit j=true→listed.getD j false=true:=fun j hj=>hM i oi j hoi hj _ hcl h2
  have hcl':Closed ops (fun j=>(listed.setIfInBounds i true).getD j false=true):=by
   intro j o hj hD e he
   rcases(set_listed hil j).1 hD with h | rfl
   ·exact(set_listed hil e).2 (.inl (hcl j o hj h e he))
   ·rw[hoi]at hj;injection hj with hj;subst hj
    exact(set_listed hil e).2 (.inl (h2 e he))
  rcases hcov i hlt with h | ⟨p,hp,rfl⟩ | ⟨z,hzm,rfl⟩
  ·exact(hnl1 h).elim
  ·cases rs with
   | nil=>simp at hp
   | cons p0 rs=>
    have hro0:=hro
    simp only[restOk,zG,List.all_eq_true]at hro
    have hp0:p=p0:=by
     rcases List.mem_cons.1 hp with h | h
     ·exact h
     ·exact(hnl p0 (by simp) (ahead _ (hro.1.1.2 p h))).elim
    subst hp0
    obtain⟨o,ho,hc⟩:=htr p (by simp)
    simp only[List.map_cons,runOps]at hrun
    have hne : ∀ q∈rs,q.1≠p.1:=by
     intro q hq e
     have h3:=hro.1.2
     have:(rs.any fun q=>Nat.beq q.1 p.1)=true:=List.any_eq_true.2 ⟨q,hq,by simp[e]⟩
     rw[this]at h3
     simp at h3
    have hcov' : ∀ j,j<ops.size→(listed.setIfInBounds p.1 true).getD j false=true∨(∃ q∈rs,q.1=j) ∨ ∃ z∈l0,z.1=j:=by
     intro j hj
     rcases hcov j hj with h | ⟨q,hq,rfl⟩ | h
     ·exact .inl ((set_listed hil j).2 (.inl h))
     ·rcases List.mem_cons.1 hq with rfl | hq
      ·exact .inl ((set_listed hil _).2 (.inr rfl))
      ·exact .inr (.inl ⟨q,hq,rfl⟩)
     ·exact .inr (.inr h)
    have hnl' : ∀ q∈rs,¬ (listed.setIfInBounds p.1 true).getD q.1 false=true:=by
     intro q hq h
     rcases(set_listed hil _).1 h with h | h
     ·exact hnl q (by simp[hq]) h
     ·exact hne q hq h
    have hpn : ∀ z∈l0,¬ (listed.setIfInBounds p.1 true).getD z.1 false=true → ¬ listed.getD z.1 false=true:=fun z _ h h'=>h ((set_listed hil _).2 (.inl h'))
    have hpn2 : ∀ z∈l0,¬ listed.getD z.1 false=true → ¬ (listed.setIfInBounds p.1 true).getD z.1 false=true:=by
     intro z hzm h h'
     rcases(set_listed hil _).1 h' with h' | h'
     ·exact h h'
     ·exact hdis z hzm p (by simp) h'
    by_cases hpend : ∃ z∈l0,¬ listed.getD z.1 false=true
    ·have hfl : ∀ z∈l0,¬ listed.getD z.1 false=true→floatOk p.2 z.2=true:=by
      intro z hzm h
      rcases(restOk_mem hro0 (p:=p) (by simp)).2 z hzm with h' | h'
      ·exact(h (ahead _ h')).elim
      ·exact h'
     obtain⟨z0,hz0,hz0n⟩:=hpend
     have h3:=hfl z0 hz0 hz0n
     simp only[floatOk,zG]at h3
     have hpd:p.2.dst=none:=by simpa using h3.1.2
     have hod:o.dst=none:=by rw[← (trOne_dst hc).1];exact hpd
     split at hrun
     ·next st' he=>
      obtain⟨st'',e1,e2,e3⟩:=store_tm h3.1.1 hpd he
      injection e1 with e1;subst e1
      have hfr2:FrameRep S (kept (usesC p.2) st.tm) a.tmps:=by
       intro t d ht
       rw[get_kept]at ht
       split at ht
       ·next hus=>
        refine hfr t d ht (fun z hzm hzn hzd => ?_)
        have h4:=hfl z hzm hzn
        simp only[floatOk,zG,hzd,dstIn]at h4
        rw[hus]at h4;simp at h4
       ·simp at ht
      refine opC_sound hti (hi.tm (kept (usesC p.2) st.tm)) hg hcf hq hfr2 ho hc hn (e3 _ Same.kept) _ Q ?_
      intro S' v hext hi' _
      refine ih rs st' S' _ _ hro.2 (fun q hq=>htr q (by simp[hq])) (fun z hzm q hq=>hdis z hzm q (by simp[hq])) hcov' hnl' hcl' (hi'.tm st'.tm) (hg.ext hext) ?_ ?_ (by rw[put_size];exact hn) hrun (hQ.shift hext (put_size _ _ _) (put_defers _ _ _)) (by simpa using hls) (by omega)
      ·intro t d ht hno
       rw[e2]at ht
       obtain⟨u,hu1,hu2⟩:=hfr t d ht (fun z hzm hzn=>hno z hzm (hpn2 z hzm hzn))
       exact⟨u,by rw[hod];exact hu1,hu2.ext hext⟩
      ·intro z hzm hzn
       rw[e2]
       exact hz z hzm (hpn z hzm hzn)
     ·next hne2=>
      obtain⟨st'',e1,_,_⟩:=store_tm h3.1.1 hpd hrun
      subst e1
      exact(hne2 _ hrun).elim
    ·have hzl : ∀ z∈l0,listed.getD z.1 false=true:=fun z hzm=>Classical.byContradiction fun h=>hpend ⟨z,hzm,h⟩
     have hf:FrameRep S st.tm a.tmps:=fun t d ht=>hfr t d ht (fun z hzm hzn=>(hzn (hzl z hzm)).elim)
     split at hrun
     ·next st' he=>
      refine opC_sound hti hi hg hcf hq hf ho hc hn he _ Q ?_
      intro S' v hext hi' hf'
      refine ih rs st' S' _ _ hro.2 (fun q hq=>htr q (by simp[hq])) (fun z hzm q hq=>hdis z hzm q (by simp[hq])) hcov' hnl' hcl' hi' (hg.ext hext) (fun t d ht _=>hf' t d ht) (fun z hzm hzn=>(hpn z hzm hzn (hzl z hzm)).elim) (by rw[put_size];exact hn) hrun (hQ.shift hext (put_size _ _ _) (put_defers _ _ _)) (by simpa using hls) (by omega)
     ·next hne=>
      cases r with
      | ok st'=>exact(hne st' hrun).elim
      | pan d st'=>
       refine opC_sound hti hi hg hcf hq hf ho hc hn hrun _ Q ?_
       intro S' v hext hi' hr
       exact hQ S' a v hext hi' rfl hr
  ·obtain⟨o,ho,hc⟩:=hZtr z hzm
   obtain⟨hdst,hdok,_,_⟩:=trOne_dst hc
   have hfr2:FrameRep S (kept (usesC z.2) st.tm) a.tmps:=by
    intro t d ht
    rw[get_kept]at ht
    split at ht
    ·next hus=>
     refine hfr t d ht (fun z' hzm' hzn hzd => ?_)
     exact hzn (ahead _ (hZp z hzm z' hzm' t hzd (has_mem.1 hus)))
    ·simp at ht
   have hsame:Same (usesC z.2) st.tm (kept (usesC z.2) st.tm):=Same.kept
   have hrun2 : ∃ r2,opC E cf z.2 { st with tm:=kept (usesC z.2) st.tm }=some (.ok (St.set { st with tm:=kept (usesC z.2) st.tm } z.2.dst r2)) ∧ ∀ t d,z.2.dst=some t→get st.tm t=some d→r2=some d:=by
    have hk:=hZk z hzm
    rcases hz z hzm hnl1 with⟨hw,r2,hall,hv⟩ | ⟨hw,hv⟩
    ·refine⟨r2,?_,hv⟩
     unfold opC
     have:wants (kept (usesC z.2) st.tm) z.2.gd=some true:=(wants_same hsame).trans hw
     simp only[this,opR]
     rw[opX_of_val (by omega) (by omega) (hall { st with tm:=kept (usesC z.2) st.tm } (fun t ht=>hsame t (List.mem_append_left _ ht)))]
     rfl
    ·refine⟨some .off,?_,fun t d h1 h2=>by rw[hv t d h1 h2]⟩
     unfold opC
     have:wants (kept (usesC z.2) st.tm) z.2.gd=some false:=(wants_same hsame).trans hw
     simp only[this]
     rfl
   obtain⟨r2,hrun2,hv2⟩:=hrun2
   refine opC_sound hti (hi.tm (kept (usesC z.2) st.tm)) hg hcf hq hfr2 ho hc hn hrun2 _ Q ?_
   intro S' v hext hi' hf'
   have hi'':Inv S' st:=((hi'.eqv (Eqv.set _ _ _).symm).eqv (Eqv.tm st _).symm)
   refine ih rs st S' _ _ hro htr hdis ?_ ?_ hcl' hi'' (hg.ext hext) ?_ ?_ (by rw[put_size];exact hn) hrun (hQ.shift hext (put_size _ _ _) (put_defers _ _ _)) (by simpa using hls) (by omega)
   ·intro j hj
    rcases hcov j hj with h | h | h
    ·exact .inl ((set_listed hil j).2 (.inl h))
    ·exact .inr (.inl h)
    ·exact .inr (.inr h)
   ·intro p hp h
    rcases(set_listed hil _).1 h with h | h
    ·exact hnl p hp h
    ·exact hdis z hzm p hp h.symm
   ·intro t d ht hno
    by_cases e:z.2.dst=some t
    ·have h5:=hv2 t d e ht
     refine hf' t d ?_
     rw[e,h5]
     show get (put _ t d) t=_
     rw[get_put,if_pos rfl]
    ·obtain⟨u,hu1,hu2⟩:=hfr t d ht (fun z' hzm' hzn hzd=>by
      refine hno z' hzm' (fun h => ?_) hzd
      rcases(set_listed hil _).1 h with h | h
      ·exact hzn h
      ·obtain⟨o',ho',hc'⟩:=hZtr z' hzm'
       rw[h,ho]at ho';injection ho' with ho';subst ho'
       rw[hc]at hc';injection hc' with hc'
       exact e (by rw[hc'];exact hzd))
     exact⟨u,by rw[put_other _ _ _ (by rw[← hdst];exact e)];exact hu1,hu2.ext hext⟩
   ·intro z' hzm' hzn
    exact hz z' hzm' (fun h=>hzn ((set_listed hil _).2 (.inl h)))
variable {S0:G} {st0:St} {M:List Nat} {L:List (Nat×OpC)} {T:Nat→St} {c0 m0 m:Nat} {a:Act}
variable (hd:Drw P E cf ti nt ops S0 st0 M L T c0 m0 m) (hct:CfTm cf) (hg0:GlOk S0 E) (hown : ∀ b,S0.ρ b≤S0.nx) (hnm : ∀ k,c0≤k→k<m0→S0.nx≤(T k).nx) (hn:nt≤a.tmps.size)
theorem Drw.zok(hq:CfFr cf)(hd:Drw P E cf ti nt ops S0 st0 M L T c0 m0 m){k:Nat}{p:Nat×OpC}(hp:L[k]?=some p)(k0:p.2.op.kind=0):ZOk E p.2 (T m).tm:=by
 have hkm:=hd.lt hp
 have hs:Same (usesC p.2) (T m).tm (T k).tm:=by
  intro t ht
  have:=hd.keep hq (t:=t) (k:=k) (j:=m - k) (by omega) (fun k' q h1 h2 hq' hdst=>by
   by_cases e:k'=k
   ·subst e
    rw[hp]at hq';injection hq' with hq';subst hq'
    have:=pairsOk_self hd.pairs hp
    rw[hdst,dstIn_some.2 ht]at this;simp at this
   ·have:=pairsOk_get hd.pairs hp hq' (by omega)
    simp only[pairOk,zG,hdst,dstIn_some.2 ht]at this
    simp at this)
  rw[show k+(m - k)=m by omega]at this;exact this.symm
 have hrun:=hd.run k p hp
 unfold opC at hrun
 rw[wants_same hs]at hrun
 split at hrun
 ·next hw=>
  refine .inl ⟨hw,?_⟩
  simp only[opR,zB]at hrun
  obtain⟨q,hq1,hq2⟩:=hrun
  obtain⟨r,s,rfl,hop⟩:=opX_val (by omega) (by omega) hq1
  obtain⟨rfl,hall⟩:=opD_quiet (by omega) hop
  refine⟨r,fun st2 h2=>hall st2 (fun t ht=>(h2 t ht).trans (hs t (List.mem_append_left _ ht)).symm) (fun h1=>by omega),fun t d ht hget => ?_⟩
  injection hq2 with hq2
  rw[← hd.keep_dst hq hp ht (Nat.lt_succ_self k) (by omega),← hq2,ht]at hget
  cases r with
  | none=>
   have:get (del (T k).tm t) t=some d:=hget
   rw[get_del,if_pos rfl]at this;simp at this
  | some e=>
   have:get (put (T k).tm t e) t=some d:=hget
   rw[get_put,if_pos rfl]at this;exact this
 ·next hw=>
  refine .inr ⟨hw,fun t d ht hget => ?_⟩
  injection hrun with hrun;injection hrun with hrun
  rw[← hd.keep_dst hq hp ht (Nat.lt_succ_self k) (by omega),← hrun,ht]at hget
  have:get (put (T k).tm t .off) t=some d:=hget
  rw[get_put,if_pos rfl]at this;injection this with this;exact this.symm
 ·simp at hrun
theorem first_sound(hti:TiOk P ti)(hq:CfFr cf)(hcf:CfOk P E cf)(hd:Drw P E cf ti nt ops S0 st0 M L T c0 m0 m)(hct:CfTm cf)(hg0:GlOk S0 E)(hown : ∀ b,S0.ρ b≤S0.nx)(hnm : ∀ k,c0≤k→k<m0→S0.nx≤(T k).nx)(hn:nt≤a.tmps.size)(hback : ∀ j o,ops[j]?=some o → ∀ e∈edgesAny o,e<j){l0 F rs:List (Nat×OpC)}(hZ : ∀ z,z∈l0↔z∈L∧z.2.op.kind=0)(hF : ∀ z,z∈F↔z∈L∧z.2.op.kind≠0)(hro:restOk M l0 F rs=true)(hrtr : ∀ p∈rs,∃ o,ops[p.1]?=some o∧trOne ti nt ops o=some p.2)
  (hdis : ∀ z∈L,∀ p∈rs,z.1≠p.1) (hcov : ∀ i,i<ops.size→(∃ p∈L,p.1=i) ∨ ∃ p∈rs,p.1=i) {r:Rs} (Q:Exit→Act→World→Prop)
  (hrun:runOps E cf (rs.map (·.2)) (T m)=some r) (hQ:AfterR S0 a r Q) :
  ∀ (fuel:Nat) (a':Act) (w':World) (listed:Array Bool),listed.size=ops.size→At S0 st0 ops L T c0 m0 m a (fun i=>listed.getD i false=true) a' w'→(∀ p∈rs,¬ listed.getD p.1 false=true)→unl ops listed≤fuel→wpAny P .any ops Q fuel listed a' w':=by
 have hget : ∀ {p:Nat×OpC},p∈L → ∃ k:Nat,L[k]?=some p:=fun hp=>List.mem_iff_getElem?.1 hp
 have h0 : ∀ {z:Nat×OpC},z∈l0 → ∃ k:Nat,L[k]?=some z:=fun hz=>hget ((hZ _).1 hz).1
 have hgo : ∀ (fuel:Nat) (a':Act) (w':World) (listed:Array Bool),listed.size=ops.size→At S0 st0 ops L T c0 m0 m a (fun i=>listed.getD i false=true) a' w'→(∀ p∈rs,¬ listed.getD p.1 false=true)→unl ops listed≤fuel →
   (∀ p∈F,listed.getD p.1 false=true)→wpAny P .any ops Q fuel listed a' w':=by
  intro fuel a' w' listed hls hat hno hunl hall
  obtain⟨S,K,rfl,hext,hsz,hdf,hcl,hK0,hKm,hloud,hinv,hpend,hs1,hs2⟩:=hat
  refine last_sound hti hq hcf hd.bel hback (l0:=l0) (F:=F) (fun z hz => ?_) (fun z hz => ?_) (fun z hz z' hz' t ht hu => ?_) Q fuel rs (T m) S a' listed hro hrtr (fun z hz p hp=>hdis z ((hZ z).1 hz).1 p hp) (fun i hi => ?_) hno hcl ?_ (hg0.ext hext) ?_ (fun z hz _ => ?_) (by omega) hrun (hQ.shift hext hsz hdf) hls hunl
  ·obtain⟨k,hk⟩:=h0 hz
   exact hd.tr k z hk
  ·exact((hZ z).1 hz).2
  ·obtain⟨k,hk⟩:=h0 hz
   obtain⟨k',hk'⟩:=h0 hz'
   rcases Nat.lt_trichotomy k' k with h | h | h
   ·have:=pairsOk_get hd.pairs hk' hk h
    simp only[pairOk,zG,ht,dstIn_some.2 hu]at this
    have:=this.1.2
    simpa using this
   ·subst h
    rw[hk]at hk';injection hk' with hk';subst hk'
    have:=pairsOk_self hd.pairs hk
    rw[ht,dstIn_some.2 hu]at this;simp at this
   ·have:=pairsOk_get hd.pairs hk hk' h
    simp only[pairOk,zG,ht,dstIn_some.2 hu]at this
    simp at this
  ·rcases hcov i hi with⟨p,hp,rfl⟩ | h
   ·by_cases hk:p.2.op.kind=0
    ·exact .inr (.inr ⟨p,(hZ p).2 ⟨hp,hk⟩,rfl⟩)
    ·exact .inl (hall p ((hF p).2 ⟨hp,hk⟩))
   ·exact .inr (.inl h)
  ·have:=hd.still hq (k:=K) (j:=m - K) (by omega) (fun k' p' h3 h4 hp'=>by
    have h5:=hd.k1 k' p' hp' (by omega)
    have h6:p'.2.op.kind≠2:=fun h7=>by
     have:=(hloud k' p' hp' (by omega) h7).1 (hall _ ((hF p').2 ⟨List.mem_of_getElem? hp',by omega⟩))
     omega
    omega)
   have e:K+(m - K)=m:=by omega
   rw[e]at this
   exact hinv.eqv this
  ·intro t d ht hnz
   by_cases hex : ∃ (k':Nat) (p':Nat×OpC),L[k']?=some p'∧p'.2.dst=some t
   ·obtain⟨k',p',hp',ht'⟩:=hex
    refine hs2 k' p' t d hp' ?_ ht' ht
    by_cases h:p'.2.op.kind=0
    ·refine Classical.byContradiction fun hn' => ?_
     exact hnz p' ((hZ p').2 ⟨List.mem_of_getElem? hp',h⟩) hn' ht'
    ·exact hall p' ((hF p').2 ⟨List.mem_of_getElem? hp',h⟩)
   ·refine hs1 t d (fun k' p' hp' ht'=>hex ⟨k',p',hp',ht'⟩) ?_
    rw[← hd.keep_other hq (zR m) (fun k' p' hp' ht'=>hex ⟨k',p',hp',ht'⟩)]
    exact ht
  ·obtain⟨k,hk⟩:=h0 hz
   exact hd.zok hq hk ((hZ z).1 hz).2
 have hLt : ∀ {p:Nat×OpC},p∈L→p.1<ops.size:=by
  intro p hp
  obtain⟨k,hk⟩:=hget hp
  obtain⟨o,ho,_⟩:=hd.tr k p hk
  exact(Array.getElem?_eq_some_iff.1 ho).1
 intro fuel
 induction fuel with
 | zero=>
  intro a' w' listed hls hat hno hunl
  refine hgo 0 a' w' listed hls hat hno hunl (fun p hp => ?_)
  refine Classical.byContradiction fun h => ?_
  have:=unl_pos (hLt (p:=p) ((hF _).1 hp).1) ((getD_not (by have:=hLt (p:=p) ((hF _).1 hp).1;omega)).2 h)
  omega
 | succ fuel ih=>
  intro a' w' listed hls hat hno hunl
  by_cases hall : ∀ p∈F,listed.getD p.1 false=true
  ·exact hgo (fuel+1) a' w' listed hls hat hno hunl hall
  ·refine⟨fun hnil => ?_,fun i hi => ?_⟩
   ·exact(hall fun p hp=>ready_nil hback hls hnil p.1 (hLt ((hF _).1 hp).1)).elim
   ·obtain⟨h1',oi,hoi,h2⟩:=mem_ready.1 hi
    have hlt:i<ops.size:=(Array.getElem?_eq_some_iff.1 hoi).1
    have h2:=edges_iff.1 h2
    have hcl:Closed ops (fun i=>listed.getD i false=true):=by
     obtain⟨S,K,_,_,_,_,hcl,_⟩:=hat
     exact hcl
    rcases hcov i hlt with⟨p,hp,rfl⟩ | ⟨p,hp,rfl⟩
    ·obtain⟨k,hp'⟩:=hget hp
     have hnD:=(getD_not (by omega)).1 h1'
     have:=hd.step hti hq hcf hct hg0 hown hnm hn hat hp' hnD (fun o ho e he=>by rw[hoi]at ho;injection ho with ho;subst ho;exact h2 e he) Q
     refine wpOp_mono (fun a'' w'' hat' => ?_) this
     have hu:=unl_set hlt hls h1'
     refine ih a'' w'' _ (by simpa using hls) ?_ ?_ (by omega)
     ·have:(fun i=>(listed.setIfInBounds p.1 true).getD i false=true)=fun i=>listed.getD i false=true∨i=p.1:=by
       funext j
       exact propext (set_listed (by omega) j)
      rw[this];exact hat'
     ·intro q hq' h
      rcases(set_listed (by omega) _).1 h with h | h
      ·exact hno q hq' h
      ·exact hdis p hp q hq' h.symm
    ·exact(hall fun q hq'=>hd.bel p.1 oi q.1 hoi ((restOk_mem hro hp).1 q hq') _ hcl h2).elim
end
section
variable {P:Program} {E:Env} {ti:Ti} {st:St} {S:G} {a:Act} (hti:TiOk P ti) (hmix:P.follows .mixedOrders=true) (hi:Inv S st) (hg:GlOk S E)
theorem draw_sound(hti:TiOk P ti)(hmix:P.follows .mixedOrders=true)(hi:Inv S st)(hg:GlOk S E){cf:Cf}(hcf:CfOk P E cf)(hq:CfFr cf)(hct:CfTm cf)(hf:FrameRep S st.tm a.tmps){id:Nat}{ops:Array Oper}{nt:Nat}{h:List Nat×List Nat×List Nat}{a0 a1 b:List OpC}(ht:trD ti nt ops h=some (a0,a1,b))(hn:nt≤a.tmps.size)
  {s1 s2:St} (h1:runOps E cf a0 st=some (.ok s1)) (h2:runStill E cf a1 s1=some s2) {r:Rs} (hr:runOps E cf b s2=some r) (Q:Exit→Act→World→Prop) (hQ:AfterR S a r Q):(Code.region id ops true).wp P Q a S.w:=by
 simp only[trD,zA]at ht
 obtain⟨cl,hcl,l0,hl0,lc,hlc,l1,hl1,rs,hrs,ht⟩:=ht
 split at ht
 ·next hok=>
  simp only[Option.some.injEq,Prod.mk.injEq]at ht
  obtain⟨rfl,rfl,rfl⟩:=ht
  simp only[drawOk,zG,List.all_eq_true,Nat.ble_eq,List.mem_range]at hok
  obtain⟨⟨⟨⟨⟨⟨⟨o1,o2⟩,o3⟩,o4⟩,o6⟩,o7⟩,o8⟩,o9⟩:=hok
  generalize hm:l0.length+(lc.length+l1.length)=m at *
  generalize hMe:masks ops.toList []=M at *
  have hM:Bel ops M:=by
   rw[← hMe]
   refine masks_bel (acc:=[]) (by simp) ?_
   intro j o i _ hb
   simp at hb
  have hback : ∀ j o,ops[j]?=some o → ∀ e∈edgesAny o,e<j:=by
   intro j o hj e he
   have hjl:j<ops.size:=(Array.getElem?_eq_some_iff.1 hj).1
   have:=o8 j hjl
   rw[hj]at this
   have:=List.all_eq_true.1 this e he
   simpa using this
  have h2':=runStill_ok h2
  have hrun:runOps E cf ((l0++(lc++l1)).map (·.2)) st=some (.ok s2):=by
   have:(l0++(lc++l1)).map (·.2)=(l0++lc).map (·.2)++l1.map (·.2):=by simp
   rw[this,runOps_append,h1];exact h2'.1
  have hw:SameW S.w { S.w with drawn:=S.w.drawn+1 }:=SameW.drew S.w
  have hx0:=Ext.same (S:=S) hw
  have hi0:=hi.same hw
  have hd:Drw P E cf ti nt ops { S with w:={ S.w with drawn:=S.w.drawn+1 } } st M (l0++(lc++l1)) (stAt E cf ((l0++(lc++l1)).map (·.2)) st) l0.length (l0.length+lc.length) m:=by
   have get0 : ∀ (k:Nat) (p:Nat×OpC),(l0++(lc++l1))[k]?=some p→(k<l0.length∧p∈l0)∨(l0.length≤k∧k<l0.length+lc.length∧p∈lc)∨(l0.length+lc.length≤k∧p∈l1):=by
    intro k p hp
    rw[List.getElem?_append]at hp
    split at hp
    ·exact .inl ⟨by assumption,List.mem_of_getElem? hp⟩
    ·rw[List.getElem?_append]at hp
     split at hp
     ·exact .inr (.inl ⟨by omega,by omega,List.mem_of_getElem? hp⟩)
     ·exact .inr (.inr ⟨by omega,List.mem_of_getElem? hp⟩)
   refine⟨by simp;omega,by omega,by omega,hM,o4,fun k p hp => ?_,fun k p hp => ?_,fun k p hp hk => ?_,fun k p hp h1 h2 => ?_,fun k p hp h1 => ?_,fun k h3 h4 => ?_,?_⟩
   ·have:cl[p.1]?=some p.2:=by
     rcases get0 k p hp with h | h | h
     ·exact pickC_get hl0 h.2
     ·exact pickC_get hlc h.2.2
     ·exact pickC_get hl1 h.2
    obtain⟨o,ho,htr⟩:=trOps_get hcl this
    exact⟨o,by simpa using ho,htr⟩
   ·exact stAt_step hrun (by rw[List.getElem?_map,hp];rfl)
   ·rcases get0 k p hp with h | h | h
    ·exact zJ (o1 p h.2)
    ·omega
    ·omega
   ·rcases get0 k p hp with h | h | h
    ·omega
    ·have:=o2 p h.2.2
     exact⟨zJ this.1.1,by simpa using this.1.2,this.2⟩
    ·omega
   ·rcases get0 k p hp with h | h | h
    ·omega
    ·omega
    ·exact o3 p h.2
   ·have e1:(l0++(lc++l1)).map (·.2)=(l0++lc).map (·.2)++l1.map (·.2):=by simp
    have key : ∀ j,(stAt E cf ((l0++(lc++l1)).map (·.2)) st (l0.length+lc.length+j)).mem=s1.mem:=by
     intro j
     have:=stAt_append h1 h2'.1 j
     rw[e1]
     have e2:((l0++lc).map (·.2)).length=l0.length+lc.length:=by simp
     rw[e2]at this
     rw[this];exact h2'.2 j
    have k1:=key (k - (l0.length+lc.length))
    have k2:=key 0
    have e3:l0.length+lc.length+(k - (l0.length+lc.length))=k:=by omega
    rw[e3]at k1
    exact k1.trans k2.symm
   ·simp[stAt,runOps]
  obtain⟨S1,hw1,he1,hi1,hn1,_⟩:=hd.begin hq hi0
  refine wp_region_any hmix ?_
  have hTm:stAt E cf ((l0++(lc++l1)).map (·.2)) st m=s2:=stAt_end hrun (by simp;omega)
  refine first_sound hti hq hcf hd hct (hg.ext hx0) hi0.own (fun k h1 h2=>(hn1 k h1 h2).2) hn hback (rs:=rs) (fun z=>by rw[List.mem_filter];exact and_congr_right fun _=>⟨zJ,fun h=>by rw[h];rfl⟩) (fun z=>by rw[List.mem_filter];refine and_congr_right fun _ => ?_;cases z.2.op.kind<;>simp[Nat.beq]) o9 (fun p hp => ?_) (fun z hz p hp he => ?_) (fun i hi => ?_) Q (by rw[hTm];exact hr) (hQ.shift hx0 rfl rfl) ops.size a _ (Array.replicate ops.size false) (by simp) ?_ ?_ ?_
  ·obtain⟨o,ho,htr⟩:=trOps_get hcl (pickC_get hrs hp)
   exact⟨o,by simpa using ho,htr⟩
  ·have:=o7 p hp
   rw[inL_iff.2 ⟨z,hz,he⟩]at this
   simp at this
  ·have:=o6 i hi
   rw[Bool.or_eq_true,inL_iff,inL_iff]at this
   exact this
  ·have hnone : ∀ i,(Array.replicate ops.size false).getD i false=true→False:=by
    intro i h
    rw[Array.getD_eq_getD_getElem?,Array.getElem?_replicate]at h
    split at h<;>simp at h
   refine⟨S1,l0.length+lc.length,hw1,he1,rfl,rfl,fun j o _ h=>(hnone j h).elim,zR _,by omega,fun k p hp hk h2=>⟨fun h=>(hnone _ h).elim,fun h=>by omega⟩,hi1,fun k p hp h1 h2 _=>(hn1 k h1 h2).1,fun t d _ hget => ?_,fun k p t d _ h=>(hnone _ h).elim⟩
   obtain⟨v,hv,hr⟩:=hf t d hget
   exact⟨v,hv,(hr.ext hx0).ext he1⟩
  ·intro p hp h
   rw[Array.getD_eq_getD_getElem?,Array.getElem?_replicate]at h
   split at h<;>simp at h
  ·unfold unl
   exact Nat.le_trans List.countP_le_length (by simp)
 ·simp at ht
end
end Go.Ev
end
section
namespace Go.Ev
/-- kp: which slots are read behind a region; dp: how a drawn region is cut -/
def trC(ti:Ti)(nt:Nat)(kp:Nat→List Nat)(dp:Nat→List Nat×List Nat×List Nat):Code→Option C
 | .skip=>some .skip
 | .label _=>some .skip
 | .region id ops false=>(trOps ti nt ops ops.toList).map fun l => .reg l (kp id)
 | .region id ops true=>(trD ti nt ops (dp id)).map fun p => .drw p.1 p.2.1 p.2.2 (kp id)
 | .seq a b=>(trC ti nt kp dp a).bind fun x=>(trC ti nt kp dp b).map fun y => .seq x y
 | .cond c a b=>(trX c).bind fun c=>(trC ti nt kp dp a).bind fun x=>(trC ti nt kp dp b).map fun y => .cond c x y
 | .block id c=>(trC ti nt kp dp c).map (.blk id)
 | .loop c=>(trC ti nt kp dp c).map .loop
 | .scope c=>trC ti nt kp dp c
 | .exit id=>some (.exit id)
 | .ret=>some .ret
 | _=>none
/-- an ending of some code -/
def Ends(S:G)(a:Act)(e:Ex)(st':St)(Q:Exit→Act→World→Prop):Prop:=
 match e with
 | .nrm=>After S a st' (Q .normal)
 | .ext id=>After S a st' (Q (.exit id))
 | .ret=>After S a st' (Q .ret)
 | .pan d=>AfterP S a d st' Q
theorem Ends.shift{S S':G}{a a':Act}{e:Ex}{st:St}{Q:Exit→Act→World→Prop}(h:Ends S a e st Q)(he:Ext S S')(hs:a'.tmps.size=a.tmps.size)(hd:a'.defers=a.defers):Ends S' a' e st Q:=by
 cases e<;>first | exact After.shift h he hs hd | exact AfterP.shift h he hd
section
variable {P:Program} {E:Env} {ti:Ti} (hti:TiOk P ti) (hmix:P.follows .mixedOrders=true)
theorem exec_sound(hti:TiOk P ti)(hmix:P.follows .mixedOrders=true){cf:Cf}(hcf:CfOk P E cf)(hq:CfFr cf)(hct:CfTm cf)(n:Nat){nt:Nat}{kp:Nat→List Nat}{dp:Nat→List Nat×List Nat×List Nat}{c:Code}{cc:C}(ht:trC ti nt kp dp c=some cc){st st':St}{S:G}{a:Act}(hi:Inv S st)(hf:FrameRep S st.tm a.tmps)(hg:GlOk S E)
  (hn:nt≤a.tmps.size) {e:Ex} (h:exec E cf n cc st=some (e,st')) (Q:Exit→Act→World→Prop) (hQ:Ends S a e st' Q):c.wp P Q a S.w:=by
 induction c generalizing cc st st' S a e Q with
 | skip=>
  injection ht with ht;subst ht
  simp only[exec,Option.some.injEq,Prod.mk.injEq]at h
  obtain⟨rfl,rfl⟩:=h
  exact wp_skip (hQ S a (.refl S) hi hf rfl rfl)
 | label l=>
  injection ht with ht;subst ht
  simp only[exec,Option.some.injEq,Prod.mk.injEq]at h
  obtain⟨rfl,rfl⟩:=h
  exact wp_label (hQ S a (.refl S) hi hf rfl rfl)
 | region id ops draw=>
  cases draw with
  | false=>
   simp only[trC,zB]at ht
   obtain⟨l,hl,rfl⟩:=ht
   simp only[exec]at h
   refine wp_region ?_
   have hr:List.range ops.size=List.range' 0 ops.toList.length:=by rw[List.range_eq_range'];simp
   rw[hr]
   split at h
   ·next s he=>
    simp only[Option.some.injEq,Prod.mk.injEq]at h
    obtain⟨rfl,rfl⟩:=h
    refine ops_sound hti hi hg hcf hq hf (k:=0) (by simp) hl hn he Q ?_
    intro S' a' hx hi' hf' h1 h2
    refine hQ S' a' hx (hi'.tm _) ?_ h1 h2
    intro t d hd
    rw[get_kept]at hd
    split at hd
    ·exact hf' t d hd
    ·simp at hd
   ·next d s he=>
    simp only[Option.some.injEq,Prod.mk.injEq]at h
    obtain⟨rfl,rfl⟩:=h
    exact ops_sound hti hi hg hcf hq hf (k:=0) (by simp) hl hn he Q hQ
   ·simp at h
  | true=>
   simp only[trC,zB]at ht
   obtain⟨⟨a0,a1,b⟩,hl,rfl⟩:=ht
   simp only[exec]at h
   split at h
   ·next s1 h1=>
    split at h
    ·next s2 h2=>
     split at h
     ·next s he=>
      simp only[Option.some.injEq,Prod.mk.injEq]at h
      obtain⟨rfl,rfl⟩:=h
      refine draw_sound hti hmix hi hg hcf hq hct hf hl hn h1 h2 he Q ?_
      intro S' a' hx hi' hf' h1 h2
      refine hQ S' a' hx (hi'.tm _) ?_ h1 h2
      intro t d hd
      rw[get_kept]at hd
      split at hd
      ·exact hf' t d hd
      ·simp at hd
     ·next d s he=>
      simp only[Option.some.injEq,Prod.mk.injEq]at h
      obtain⟨rfl,rfl⟩:=h
      exact draw_sound hti hmix hi hg hcf hq hct hf hl hn h1 h2 he Q hQ
     ·simp at h
    ·simp at h
   ·simp at h
 | seq x y ihx ihy=>
  simp only[trC,zA,zB]at ht
  obtain⟨cx,hx,cy,hy,rfl⟩:=ht
  simp only[exec]at h
  refine wp_seq ?_
  split at h
  ·next s he=>
   refine ihx hx hi hf hg hn he _ ?_
   intro S' a' hext hi' hf' h1 h2
   exact ihy hy hi' hf' (hg.ext hext) (by omega) h Q (hQ.shift hext h1 h2)
  ·next hne=>
   refine ihx hx hi hf hg hn h _ ?_
   cases e with
   | nrm=>exact(hne st' h).elim
   | ext id=>exact hQ
   | ret=>exact hQ
   | pan d=>exact hQ
 | cond c x y ihx ihy=>
  simp only[trC,zA,zB]at ht
  obtain⟨c',hc,cx,hx,cy,hy,rfl⟩:=ht
  simp only[exec]at h
  split at h
  ·next hb=>exact wp_cond_true ((Rep.ev hf hg hc hb).bool_inv rfl) (ihx hx hi hf hg hn h Q hQ)
  ·next hb=>exact wp_cond_false ((Rep.ev hf hg hc hb).bool_inv rfl) (ihy hy hi hf hg hn h Q hQ)
  ·simp at h
 | block id c ih=>
  simp only[trC,zB]at ht
  obtain⟨cx,hx,rfl⟩:=ht
  simp only[exec]at h
  refine wp_block ?_
  split at h
  ·next i s he=>
   refine ih hx hi hf hg hn he _ ?_
   split at h
   ·next hid=>
    subst hid
    simp only[Option.some.injEq,Prod.mk.injEq]at h
    obtain⟨rfl,rfl⟩:=h
    intro S' a' hext hi' hf' h1 h2
    show if i=i then _ else _
    rw[if_pos rfl]
    exact hQ S' a' hext hi' hf' h1 h2
   ·next hid=>
    simp only[Option.some.injEq,Prod.mk.injEq]at h
    obtain⟨rfl,rfl⟩:=h
    intro S' a' hext hi' hf' h1 h2
    show if i=id then _ else _
    rw[if_neg hid]
    exact hQ S' a' hext hi' hf' h1 h2
  ·next hne=>
   refine ih hx hi hf hg hn h _ ?_
   cases e with
   | nrm=>exact hQ
   | ext i=>exact(hne i st' h).elim
   | ret=>exact hQ
   | pan d=>exact hQ
 | loop c ih=>
  simp only[trC,zB]at ht
  obtain⟨cx,hx,rfl⟩:=ht
  simp only[exec]at h
  refine wp_loop_rounds n ?_
  have key : ∀ m {st S} {a:Act},Inv S st→FrameRep S st.tm a.tmps→GlOk S E→nt≤a.tmps.size→loopN (exec E cf n cx) m st=some (e,st')→Ends S a e st' Q→Code.rounds P c Q m a S.w:=by
   intro m
   induction m with
   | zero=>intro st S a _ _ _ _ h;simp[loopN]at h
   | succ m ihm=>
    intro st S a hi hf hg hn h hQ
    rw[rounds_succ]
    simp only[loopN]at h
    split at h
    ·next s he=>
     refine ih hx hi hf hg hn he _ ?_
     intro S' a' hext hi' hf' h1 h2
     exact ihm hi' hf' (hg.ext hext) (by omega) h (hQ.shift hext h1 h2)
    ·next hne=>
     refine ih hx hi hf hg hn h _ ?_
     cases e with
     | nrm=>exact(hne st' h).elim
     | ext id=>exact hQ
     | ret=>exact hQ
     | pan d=>exact hQ
  exact key n hi hf hg hn h hQ
 | scope c ih=>
  simp only[trC]at ht
  refine wp_scope_straight ?_
  refine ih ht hi hf hg hn h _ ?_
  cases e<;>exact hQ
 | exit id=>
  injection ht with ht;subst ht
  simp only[exec,Option.some.injEq,Prod.mk.injEq]at h
  obtain⟨rfl,rfl⟩:=h
  exact wp_exit (hQ S a (.refl S) hi hf rfl rfl)
 | ret=>
  injection ht with ht;subst ht
  simp only[exec,Option.some.injEq,Prod.mk.injEq]at h
  obtain⟨rfl,rfl⟩:=h
  exact wp_ret (hQ S a (.refl S) hi hf rfl rfl)
 | goto l=>simp[trC]at ht
 | refuse s=>simp[trC]at ht
 | rangeFunc f p x y _ _=>simp[trC]at ht
end
end Go.Ev
end
section
namespace Go.Ev
/-- nobody's block becomes a lineage's -/
theorem new_own{S S0:G}{st:St}(h:Inv S st)(e:Ext S0 S)(hnx:S0.nx≤S.nx){b off n c sz:Nat}{cs:Array Value}{t:TypeId}(hh:S.w.heap[b]?=some (.cells cs t (0,0)))(h0:S.ρ b=0)(hb:S0.w.heap.size≤b)
  (hφ:S.φ b=off+n * sz) (hn:n≤c) (hs:off+c * sz≤cs.size) :
  ∃ S':G,S'.w=S.w∧Ext S0 S'∧Inv S' { st with tip:=upd st.tip st.nx n,nx:=st.nx+1 }∧st.nx<S'.nx∧S'.hd st.nx n=some (some ⟨b,off,none⟩,c,sz)∧(∀ d v,Rep S d v→Rep S' d v):=by
 let S1:G:={ S with hd:=fun g m=>if g=S.nx then(if m=n then some (some ⟨b,off,none⟩,c,sz)else none)else S.hd g m,nx:=S.nx+1 }
 have he1:Ext S S1:={ Ext.refl S with
   hd:=fun g m x hg hx=>by show(if g=S.nx then _ else _)=_;rw[if_neg (by omega)];exact hx
   nx:=by show S.nx≤S.nx+1;omega }
 let S2:G:={ S1 with ρ:=fun b'=>if b'=b then S.nx+1 else S.ρ b' }
 have hrep : ∀ d v,Rep S d v→Rep S2 d v:=fun d v hr=>(hr.ext he1).rho _
 have hlt:=lt_of_heap hh
 refine⟨S2,rfl,?_,?_,by show st.nx<S.nx+1;rw[h.nx];omega,by show(if st.nx=S.nx then(if n=n then _ else none)else _)=_;rw[if_pos h.nx,if_pos rfl],hrep⟩
 ·have e2:=e.trans he1
  exact { e2 with
   role:=fun b' hb'=>by
    show(if b'=b then S.nx+1 else S.ρ b')=_
    rw[if_neg (by omega)];exact e2.role b' hb'
   free:=fun b' hb' h0'=>e2.free b' hb' h0'
   shape:=e2.shape }
 ·refine⟨by show st.nx+1=S.nx+1;rw[h.nx],fun k o hk => ?_,fun g m hg => ?_,fun b' hb' => ?_,dis_tip h n,fun b' => ?_⟩
  ·obtain⟨h1,h2⟩:=h.ob k o hk
   refine⟨by show k<S.nx+1;omega,fun b' hb' => ?_⟩
   obtain⟨h3,h4⟩:=h2 b' hb'
   have hne:b'≠b:=by rintro rfl;omega
   refine⟨by show(if b'=b then _ else S.ρ b')=_;rw[if_neg hne];exact h3,?_⟩
   cases h4 with
   | row xs fz c t hb hr h0 h1=>exact .row xs fz c t hb ⟨hr.1,fun j d v hd hv=>hrep d v (hr.2 j d v hd hv)⟩ h0 h1
   | iter s pos hb=>exact .iter s pos hb
   | bld t' e' s p v hb' hp hφ0 hown hne' hg=>
    refine .bld t' e' s p v hb' hp hφ0 hown hne' (fun g hgg=>⟨?_,(hg g hgg).2⟩)
    have hgb:g≠b:=by rintro rfl;have:=(hg g hgg).1;omega
    show(if g=b then _ else S.ρ g)=(if b'=b then _ else S.ρ b')
    rw[if_neg hgb,if_neg hne];exact(hg g hgg).1
  ·have hg1:upd st.tip st.nx n g=some m:=hg
   by_cases h2:g=st.nx
   ·subst h2
    rw[upd_self]at hg1
    injection hg1 with hg1
    subst hg1
    refine⟨by show st.nx<S.nx+1;rw[h.nx];omega,fun n' hn' => ?_,some ⟨b,off,none⟩,c,sz,?_,hn,.inr ⟨b,off,cs,t,rfl,?_,hφ,hh,hs⟩⟩
    ·show(if st.nx=S.nx then(if n'=n then _ else none)else _)=none
     rw[if_pos h.nx,if_neg (by omega)]
    ·show(if st.nx=S.nx then(if n=n then _ else none)else _)=_
     rw[if_pos h.nx,if_pos rfl]
    ·show(if b=b then S.nx+1 else _)=_;rw[if_pos rfl,h.nx]
   ·rw[upd_ne _ _ h2]at hg1
    obtain⟨k1,k2,A,c',sz',k3,k4,k5⟩:=h.tip g m hg1
    have hgne:g≠S.nx:=by omega
    refine⟨by show g<S.nx+1;omega,fun n' hn' => ?_,A,c',sz',?_,k4,k5.imp id ?_⟩
    ·show(if g=S.nx then _ else _)=none;rw[if_neg hgne];exact k2 n' hn'
    ·show(if g=S.nx then _ else _)=_;rw[if_neg hgne];exact k3
    ·rintro⟨b2,off2,cs2,t2,a1,a2,a3⟩
     refine⟨b2,off2,cs2,t2,a1,?_,a3⟩
     show(if b2=b then _ else S.ρ b2)=_
     rw[if_neg (by rintro rfl;omega)];exact a2
  ·have:=h.out b' hb'
   refine⟨this.1,?_⟩
   show(if b'=b then _ else S.ρ b')=0
   have hb2:S.w.heap.size≤b':=hb'
   rw[if_neg (by omega)];exact this.2
  ·show(if b'=b then S.nx+1 else S.ρ b')≤S.nx+1
   split
   ·exact zR _
   ·have:=h.own b';omega
theorem leave_sound{S1 S:G}{st s:St}{tm:Tm}(h1:Inv S1 st)(he:Ext S1 S)(hs:Inv S s)(hfr:Fr { st with tm:=tm,lo:=st.nx,lw:=st.nx } s)(fn:Fn){d:D}{v:Value}(hr:Rep S d v) :
  ∃ S',S'.w=S.w∧Ext S1 S'∧Inv S' (leave fn st s d).2∧Rep S' (leave fn st s d).1 v:=by
 have hund : ∃ S',S'.w=S.w∧Ext S1 S'∧Inv S' { s with tm:=st.tm,lo:=st.lo,lw:=if s.lw<st.lw then s.lw else st.lw }∧Rep S' .und v:=
  ⟨S,rfl,he,⟨hs.nx,hs.ob,hs.tip,hs.out,hs.dis,hs.own⟩,.und v⟩
 have hlo:s.lo=st.nx:=hfr.lo
 have keep : ∀ l,¬ (frz s l).lw<s.lo→(∀ j,j<st.nx→(frz s l).mem j=st.mem j)∧(∀ j,j<st.nx→(frz s l).tip j=st.tip j):=by
  intro l hl
  have h2:=hfr.trans (Fr.frz s l)
  exact⟨fun j hj=>h2.mem j hj (by omega),fun j hj=>h2.tip j hj (by omega)⟩
 unfold leave
 split
 ·split
  ·next g sz n xs=>
   split
   ·next hc=>
    obtain⟨ht,hp,hlw,hg⟩:=hc
    obtain⟨S2,hw2,he2,hi2,hz⟩:=freeze_all hs (refsL xs)
    have hr2:=hr.ext he2
    have hcl:Rep S2 ((D.sl (.ln g sz) n xs).cl s.mem) v:=hr2.cl hi2 s.mem (fun k hk xs' fz' hm=>hz k xs' fz' hm (.inl (by simpa[D.refs]using hk)))
    obtain⟨hm,htp⟩:=keep _ hlw
    have hb:=h1.back (he.trans he2) hi2 hm htp
    have hcl3:Rep (S2.cut S1.nx) (.sl .no n (clL s.mem xs)) v:=Rep.cut (S:=S1) (by simpa[D.cl,D.pure]using hp) (by simpa[D.cl]using hcl)
    have hx3:=(he.trans he2).cut h1.own
    have htz:(frz s (refsL xs)).tip g=some n:=by
     have : ∀ l (s:St),(frz s l).tip=s.tip:=by
      intro l
      induction l with
      | nil=>intro s;rfl
      | cons k r ih=>intro s;simp only[frz];split<;>rw[ih]<;>rfl
     rw[this];exact ht
    obtain⟨hg2,htop,A',c',sz',hhd,hnc,hsafe⟩:=hi2.tip g n htz
    cases hr2 with
    | sl _ _ _ A c b off us hc hA hu hrr hφ hgg=>
     have heq:(A',c',sz')=(A,c,sz):=by
      have:=hgg.2;rw[hhd]at this;injection this
     simp only[Prod.mk.injEq]at heq
     obtain⟨rfl,rfl,rfl⟩:=heq
     have hnx:S1.nx=st.nx:=h1.nx.symm
     rcases hsafe with hfull | ⟨b2,off2,cs2,t2,ha2,hρ2,hφ2,hh2,hs2⟩
     ·subst hfull
      obtain⟨S4,hw4,he4,hi4,hlt4,hhd4⟩:=tip_full hb n sz' A'
      refine⟨S4,hw4.trans hw2,hx3.trans he4,hi4,?_⟩
      have:=hcl3.ext he4
      cases this with
      | sl _ _ _ A c b off us hc hA hu hrr hφ hgg=>exact .sl _ _ _ _ _ b off us hc hA hu hrr hφ ⟨hlt4,hhd4⟩
     ·subst ha2
      have hb2:S1.w.heap.size≤b2:=by
       rcases Nat.lt_or_ge b2 S1.w.heap.size with hlt | hge
       ·have h5:=(he.trans he2).role b2 hlt
        have h6:=h1.own b2
        omega
       ·exact hge
      have h0:(S2.cut S1.nx).ρ b2=0:=by show(if S2.ρ b2≤S1.nx then _ else 0)=0;rw[if_neg (by omega)]
      obtain⟨S4,hw4,he4,hi4,hlt4,hhd4,hrep⟩:=new_own hb hx3 (zR _) hh2 h0 hb2 hφ2 hnc hs2
      refine⟨S4,hw4.trans hw2,he4,hi4,?_⟩
      have:=hrep _ _ hcl3
      cases this with
      | sl _ _ _ A c b off us hc hA hu hrr hφ hgg=>exact .sl _ _ _ _ _ b off us hc hA hu hrr hφ ⟨hlt4,hhd4⟩
   ·exact hund
  ·next n xs=>
   split
   ·next hc=>
    obtain⟨hp,hlw⟩:=hc
    obtain⟨S2,hw2,he2,hi2,hz⟩:=freeze_all hs (refsL xs)
    have hr2:=hr.ext he2
    have hcl:Rep S2 ((D.sl .full n xs).cl s.mem) v:=hr2.cl hi2 s.mem (fun k hk xs' fz' hm=>hz k xs' fz' hm (.inl (by simpa[D.refs]using hk)))
    obtain⟨hm,htp⟩:=keep _ hlw
    have hcl3:Rep (S2.cut S1.nx) (.sl .no n (clL s.mem xs)) v:=Rep.cut (S:=S1) (by simpa[D.cl,D.pure]using hp) (by simpa[D.cl]using hcl)
    refine⟨S2.cut S1.nx,hw2,(he.trans he2).cut h1.own,h1.back (he.trans he2) hi2 hm htp,?_⟩
    have hnc : ∃ A c,v = .slice A n c∧n=c:=by
     cases hr2 with
     | sl _ _ _ A c b off us hc hA hu hrr hφ hgg=>exact⟨A,c,rfl,hgg⟩
    obtain⟨A0,c0,rfl,hnc⟩:=hnc
    cases hcl3 with
    | sl _ _ _ A c b off us hc hA hu hrr hφ hgg=>exact .sl .full _ _ _ _ b off us hc hA hu hrr hφ hnc
   ·exact hund
  ·exact hund
 ·split
  ·exact⟨S,rfl,he,⟨hs.nx,hs.ob,hs.tip,hs.out,hs.dis,hs.own⟩,hr⟩
  ·obtain⟨S2,hw2,he2,hi2,hz⟩:=freeze_all hs d.refs
   have hcl:Rep S2 (d.cl s.mem) v:=(hr.ext he2).cl hi2 s.mem (fun k hk xs' fz' hm=>hz k xs' fz' hm (.inl hk))
   split
   ·next hc=>
    simp only[zG,decide_eq_true_eq]at hc
    obtain⟨hp,hlw⟩:=hc
    obtain⟨hm,htp⟩:=keep _ hlw
    exact⟨S2.cut S1.nx,hw2,(he.trans he2).cut h1.own,h1.back (he.trans he2) hi2 hm htp,Rep.cut (S:=S1) hp hcl⟩
   ·exact⟨S2,hw2,he.trans he2,⟨hi2.nx,hi2.ob,hi2.tip,hi2.out,hi2.dis,hi2.own⟩,hcl⟩
theorem get_params(i:Nat)(ds:List D)(t:Nat):get (params i ds) t=if i≤t then ds[t - i]? else none:=by
 induction ds generalizing i with
 | nil=>simp[params,get]
 | cons d r ih=>
  simp only[params,get]
  by_cases h:i=t
  ·subst h;simp
  ·rw[if_neg h,ih]
   by_cases h2:i≤t
   ·rw[if_pos (by omega),if_pos h2]
    have:t - i=(t - (i+1))+1:=by omega
    rw[this];simp
   ·rw[if_neg (by omega),if_neg h2]
/-- the functions that are told stand for the program's -/
structure EnvOk(P:Program)(ti:Ti)(E:Env):Prop where
 fns : ∀ f fn,E.fn f=some fn → ∃ g c kp dp,P.funcs[f]?=some g∧(g.name == "runtime.NumGoroutine")=false∧g.body=some c∧trC ti g.ntmps kp dp c=some fn.body∧trRes ti g.results.toList=some fn.res
 eff : ∀ f e,E.ext f=some (.eff e) → ∀ ds st d st' (S:G) (vs:List Value),effD e ds st=some (d,st')→Inv S st→RepL S ds vs →
  Does P f vs.toArray S.w fun e w' => ∃ S',S'.w=w'∧Ext S S'∧Inv S' st' ∧ ∃ v,e = .returned v∧Rep S' d v
 ext : ∀ f h,E.ext f=some (.fn h) → ∀ ds0 ds d,h ds0 ds=some d → ∀ (S:G) (st:St) (vs:List Value),Inv S st→RepL S ds0 vs→RepL S ds vs→GlOk S E →
  Does P f vs.toArray S.w fun e w' => ∃ S',S'.w=w'∧Ext S S'∧Inv S' (told st d).2 ∧ ∃ v,e = .returned v∧Rep S' (told st d).1 v
theorem Does.mono{P:Program}{f:Nat}{args:Array Value}{w:World}{R R':Ending→World→Prop}(h:Does P f args w R)(hr : ∀ e w',R e w'→R' e w'):Does P f args w R':=by
 rcases h with⟨h1,h2⟩ | ⟨v,w',h1,h2⟩
 ·exact .inl ⟨h1,Calls.mono h2 hr⟩
 ·exact .inr ⟨v,w',h1,hr _ _ h2⟩
section
variable {P:Program} {E:Env} {ti:Ti} (hti:TiOk P ti) (hmix:P.follows .mixedOrders=true) (hE:EnvOk P ti E)
theorem call_sound(hti:TiOk P ti)(hmix:P.follows .mixedOrders=true)(hE:EnvOk P ti E)(n:Nat):CfOk P E (call E n):=by
 induction n with
 | zero=>intro f ds st o st' h;simp[call]at h
 | succ n ih=>
  intro f ds st o st' h S vs hi hr hg
  simp only[call]at h
  split at h
  ·next e hx=>
   simp only[zB,Prod.mk.injEq]at h
   obtain⟨⟨d,s⟩,hd,rfl,rfl⟩:=h
   refine(hE.eff f e hx ds st d s S vs hd hi hr).mono ?_
   rintro e w' ⟨S',hw',he',hi',v,rfl,hv⟩
   exact⟨S',hw',he',hi',_,rfl,hv⟩
  ·next g hx=>
   simp only[zB,Prod.mk.injEq]at h
   obtain⟨d,hd,rfl,rfl⟩:=h
   obtain⟨S2,hw2,he2,hi2,hz⟩:=freeze_all hi (refsL ds)
   have hcl:RepL S2 (clL st.mem ds) vs:=(hr.ext he2).cl hi2 st.mem (fun k hk xs' fz' hm=>hz k xs' fz' hm (.inl hk))
   have:=hE.ext f g hx _ _ d hd S2 _ vs hi2 (hr.ext he2) hcl (hg.ext he2)
   rw[hw2]at this
   refine this.mono ?_
   rintro e w' ⟨S',hw',he',hi',v,rfl,hv⟩
   exact⟨S',hw',he2.trans he',hi',_,rfl,hv⟩
  ·simp only[zA]at h
   obtain⟨fn,hfn,h⟩:=h
   obtain⟨g,c,kp,dp,hP,hname,hbody,htr,hres⟩:=hE.fns f fn hfn
   -- the caller's state at home, what is handed over
   obtain⟨S1,ds1,hw1,he1,hi1,hr1,hen⟩ : ∃ (S1:G) (ds1:List D),S1.w=S.w∧Ext S S1∧Inv S1 (home fn ds st)∧RepL S1 ds1 vs∧enter fn ds st={ home fn ds st with tm:=params 0 ds1,lo:=st.nx,lw:=st.nx }:=by
    unfold home enter
    split
    ·exact⟨S,ds,rfl,.refl S,hi,hr,rfl⟩
    ·obtain⟨S2,hw2,he2,hi2,hz⟩:=freeze_all hi (refsL ds)
     exact⟨S2,clL st.mem ds,hw2,he2,hi2,(hr.ext he2).cl hi2 st.mem (fun k hk xs' fz' hm=>hz k xs' fz' hm (.inl hk)),rfl⟩
   have hnx:(home fn ds st).nx=st.nx:=(Fr.home fn ds st).2
   rw[hen]at h
   rw[← hnx]at h
   generalize hst1:home fn ds st=st1 at *
   refine .inl ⟨by
     have hn:g.name ≠ "runtime.NumGoroutine" := by simpa using hname
     simp[callFunc,hP,hn,hbody],?_⟩
   refine calls_of_wp hP hbody ?_
   rw[← hw1]
   have hi0:Inv S1 { st1 with tm:=params 0 ds1,lo:=st1.nx,lw:=st1.nx }:=⟨hi1.nx,hi1.ob,hi1.tip,hi1.out,hi1.dis,hi1.own⟩
   have hf0:FrameRep S1 (params 0 ds1) (vs.toArray++Array.replicate (g.ntmps - vs.toArray.size) undef):=by
    intro t d ht
    rw[get_params]at ht
    simp only[Nat.zero_le,if_true,Nat.sub_zero]at ht
    obtain⟨v,hv,hrv⟩:=hr1.get ht
    refine⟨v,?_,hrv⟩
    have hlt:t<vs.length:=by
     rcases Nat.lt_or_ge t vs.length with h | h
     ·exact h
     ·rw[List.getElem?_eq_none h]at hv;simp at hv
    rw[Array.getElem?_append_left (by simpa using hlt)]
    simpa using hv
   have hsz:g.ntmps≤(vs.toArray++Array.replicate (g.ntmps - vs.toArray.size) undef).size:=by simp;omega
   have leaveR : ∀ {s:St} {S':G} {l:List D} {a':Act},exec E (call E n) n fn.body { st1 with tm:=params 0 ds1,lo:=st1.nx,lw:=st1.nx }=some (.nrm,s)∨exec E (call E n) n fn.body { st1 with tm:=params 0 ds1,lo:=st1.nx,lw:=st1.nx }=some (.ret,s) →
     resOf s fn.res=some l→Ext S1 S'→Inv S' s→FrameRep S' s.tm a'.tmps → ∃ v,(results g a'.tmps).run P S'.w = .ok v S'.w ∧
      ∃ S'':G,S''.w=S'.w∧Ext S S''∧Inv S'' (leave fn st1 s (one l)).2∧outR (.ret (leave fn st1 s (one l)).1) S'' (.returned v):=by
    intro s S' l a' hex hl hext hi' hf'
    obtain⟨v,hrun,hv⟩:=results_sound hti hi' hf' hres hl
    have hfr:Fr { st1 with tm:=params 0 ds1,lo:=st1.nx,lw:=st1.nx } s:=by rcases hex with h | h<;>exact Fr.exec Fq.call h
    obtain⟨S'',hw'',he'',hi'',hr''⟩:=leave_sound hi1 hext hi' hfr fn hv
    exact⟨v,hrun,S'',hw'',he1.trans he'',hi'',_,rfl,hr''⟩
   split at h
   ·next s he=>
    simp only[zB,Prod.mk.injEq]at h
    obtain⟨l,hl,rfl,rfl⟩:=h
    refine exec_sound hti hmix ih Fq.call (call_tm E n) n htr hi0 hf0 (hg.ext he1) hsz he _ ?_
    intro S' a' hext hi' hf' h1 h2
    obtain⟨v,hrun,hR⟩:=leaveR (.inl he) hl hext hi' hf'
    exact⟨h2,v,hrun,hR⟩
   ·next s he=>
    simp only[zB,Prod.mk.injEq]at h
    obtain⟨l,hl,rfl,rfl⟩:=h
    refine exec_sound hti hmix ih Fq.call (call_tm E n) n htr hi0 hf0 (hg.ext he1) hsz he _ ?_
    intro S' a' hext hi' hf' h1 h2
    obtain⟨v,hrun,hR⟩:=leaveR (.inr he) hl hext hi' hf'
    exact⟨h2,v,hrun,hR⟩
   ·next d s he=>
    simp only[Option.some.injEq,Prod.mk.injEq]at h
    obtain⟨rfl,rfl⟩:=h
    refine exec_sound hti hmix ih Fq.call (call_tm E n) n htr hi0 hf0 (hg.ext he1) hsz he _ ?_
    intro S' a' v hext hi' h2 hv
    have hfr:Fr { st1 with tm:=params 0 ds1,lo:=st1.nx,lw:=st1.nx } s:=Fr.exec Fq.call he
    obtain⟨S'',hw'',he'',hi'',hr''⟩:=leave_sound hi1 hext hi' hfr fn hv
    exact⟨h2,S'',hw'',he1.trans he'',hi'',_,v,rfl,rfl,hr''⟩
   ·simp at h
end
end Go.Ev
end
section
namespace Go.Ev
/-- what a run comes to, whatever the fuel -/
noncomputable def callL(E:Env):Cf:=fun f ds st=>open Classical in
 if h : ∃ r,∃ n,call E n f ds st=some r then some h.choose else none
theorem call_uniq{E:Env}{f:Nat}{ds:List D}{st:St}{n m:Nat}{r q:Out×St}(h:call E n f ds st=some r)(k:call E m f ds st=some q):r=q:=by
 have a:=call_mono E (Nat.le_max_left n m) f ds st r h
 have b:=call_mono E (Nat.le_max_right n m) f ds st q k
 rw[a]at b;injection b
theorem callL_iff{E:Env}{f:Nat}{ds:List D}{st:St}{r:Out×St}:callL E f ds st=some r ↔ ∃ n,call E n f ds st=some r:=by
 unfold callL
 constructor
 ·intro h
  split at h
  ·next hx=>injection h with h;rw[← h];exact hx.choose_spec
  ·simp at h
 ·rintro⟨n,h⟩
  have hx : ∃ r,∃ n,call E n f ds st=some r:=⟨r,n,h⟩
  rw[dif_pos hx]
  obtain⟨m,hm⟩:=hx.choose_spec
  rw[call_uniq hm h]
theorem callL_le(E:Env)(n:Nat):CfLe (call E n) (callL E):=fun _ _ _ _ h=>callL_iff.2 ⟨n,h⟩
noncomputable def execL(E:Env)(c:C)(st:St):Option (Ex×St):=open Classical in
 if h : ∃ r,∃ n,exec E (callL E) n c st=some r then some h.choose else none
theorem exec_uniq{E:Env}{cf:Cf}{c:C}{st:St}{n m:Nat}{r q:Ex×St}(h:exec E cf n c st=some r)(k:exec E cf m c st=some q):r=q:=by
 have a:=exec_mono (cf:=cf) (fun _ _ _ _ h=>h) (Nat.le_max_left n m) h
 have b:=exec_mono (cf:=cf) (fun _ _ _ _ h=>h) (Nat.le_max_right n m) k
 rw[a]at b;injection b
theorem execL_iff{E:Env}{c:C}{st:St}{r:Ex×St}:execL E c st=some r ↔ ∃ n,exec E (callL E) n c st=some r:=by
 unfold execL
 constructor
 ·intro h
  split at h
  ·next hx=>injection h with h;rw[← h];exact hx.choose_spec
  ·simp at h
 ·rintro⟨n,h⟩
  have hx : ∃ r,∃ n,exec E (callL E) n c st=some r:=⟨r,n,h⟩
  rw[dif_pos hx]
  obtain⟨m,hm⟩:=hx.choose_spec
  rw[exec_uniq hm h]
theorem opt_ext{α:Type}{x y:Option α}(h : ∀ r,x=some r↔y=some r):x=y:=by
 cases x with
 | none=>
  cases y with
  | none=>rfl
  | some b=>have:=(h b).2 rfl;simp at this
 | some a=>exact((h a).1 rfl).symm
section
variable {E:Env}
/-- a code that has no loop of its own at its head -/
theorem execL_of{c:C}{st:St}{x:Option (Ex×St)}(h : ∀ n,exec E (callL E) n c st=x):execL E c st=x:=
 opt_ext fun r=>execL_iff.trans ⟨fun⟨n,hn⟩=>(h n).symm.trans hn,fun hx=>⟨0,(h 0).trans hx⟩⟩
theorem execL_skip(st:St):execL E .skip st=some (.nrm,st):=execL_of fun _=>rfl
theorem execL_exit(id:Nat)(st:St):execL E (.exit id) st=some (.ext id,st):=execL_of fun _=>rfl
theorem execL_ret(st:St):execL E .ret st=some (.ret,st):=execL_of fun _=>rfl
theorem execL_reg(ops:List OpC)(keep:List Nat)(st:St):execL E (.reg ops keep) st=match runOps E (callL E) ops st with
  | some (.ok st')=>some (.nrm,{ st' with tm:=kept keep st'.tm })
  | some (.pan d st')=>some (.pan d,st')
  | none=>none:=execL_of fun _=>rfl
theorem execL_drw(a0 a1 b:List OpC)(keep:List Nat)(st:St):execL E (.drw a0 a1 b keep) st=match runOps E (callL E) a0 st with
  | some (.ok s1)=>match runStill E (callL E) a1 s1 with
   | some s2=>match runOps E (callL E) b s2 with
    | some (.ok st')=>some (.nrm,{ st' with tm:=kept keep st'.tm })
    | some (.pan d st')=>some (.pan d,st')
    | none=>none
   | none=>none
  | _=>none:=execL_of fun _=>rfl
theorem exec_up{n m:Nat}(h:n≤m){c:C}{st:St}{r:Ex×St}(k:exec E (callL E) n c st=some r):exec E (callL E) m c st=some r:=exec_mono (fun _ _ _ _ h=>h) h k
theorem execL_seq(a b:C)(st:St):execL E (.seq a b) st=match execL E a st with
  | some (.nrm,s)=>execL E b s
  | r=>r:=by
 refine opt_ext fun r=>⟨fun h => ?_,fun h => ?_⟩
 ·obtain⟨n,hn⟩:=execL_iff.1 h
  simp only[exec]at hn
  split at hn
  ·next s he=>rw[execL_iff.2 ⟨n,he⟩];exact execL_iff.2 ⟨n,hn⟩
  ·next hne=>
   rw[execL_iff.2 ⟨n,hn⟩]
   obtain⟨e,s⟩:=r
   cases e with
   | nrm=>exact(hne s hn).elim
   | _=>rfl
 ·split at h
  ·next s he=>
   obtain⟨n,hn⟩:=execL_iff.1 he
   obtain⟨m,hm⟩:=execL_iff.1 h
   refine execL_iff.2 ⟨max n m,?_⟩
   simp only[exec]
   rw[exec_up (Nat.le_max_left n m) hn]
   exact exec_up (Nat.le_max_right n m) hm
  ·next hne=>
   obtain⟨n,hn⟩:=execL_iff.1 h
   refine execL_iff.2 ⟨n,?_⟩
   simp only[exec]
   rw[hn]
   obtain⟨e,s⟩:=r
   cases e with
   | nrm=>exact(hne s h).elim
   | _=>rfl
theorem execL_cond(c:X)(a b:C)(st:St):execL E (.cond c a b) st=match ev E st.tm c with
  | some (.bool true)=>execL E a st
  | some (.bool false)=>execL E b st
  | _=>none:=by
 refine opt_ext fun r=>⟨fun h => ?_,fun h => ?_⟩
 ·obtain⟨n,hn⟩:=execL_iff.1 h
  simp only[exec]at hn
  split at hn
  ·next hb=>rw[hb];exact execL_iff.2 ⟨n,hn⟩
  ·next hb=>rw[hb];exact execL_iff.2 ⟨n,hn⟩
  ·simp at hn
 ·split at h
  ·next hb=>
   obtain⟨n,hn⟩:=execL_iff.1 h
   exact execL_iff.2 ⟨n,by simp only[exec];rw[hb];exact hn⟩
  ·next hb=>
   obtain⟨n,hn⟩:=execL_iff.1 h
   exact execL_iff.2 ⟨n,by simp only[exec];rw[hb];exact hn⟩
  ·simp at h
def blkE(id:Nat):Option (Ex×St)→Option (Ex×St)
 | some (.ext i,st')=>if i=id then some (.nrm,st')else some (.ext i,st')
 | r=>r
theorem execL_blk(id:Nat)(c:C)(st:St):execL E (.blk id c) st=blkE id (execL E c st):=by
 have key : ∀ n,exec E (callL E) n (.blk id c) st=blkE id (exec E (callL E) n c st):=by
  intro n
  simp only[exec,blkE]
  split<;>simp_all
 refine opt_ext fun r=>⟨fun h => ?_,fun h => ?_⟩
 ·obtain⟨n,hn⟩:=execL_iff.1 h
  rw[key]at hn
  cases hc:exec E (callL E) n c st with
  | none=>rw[hc]at hn;simp[blkE]at hn
  | some q=>rw[execL_iff.2 ⟨n,hc⟩,← hc];exact hn
 ·cases hc:execL E c st with
  | none=>rw[hc]at h;simp[blkE]at h
  | some q=>
   obtain⟨n,hn⟩:=execL_iff.1 hc
   exact execL_iff.2 ⟨n,by rw[key,hn,← hc];exact h⟩
/-- a loop: one round, and on -/
theorem execL_loop(c:C)(st:St):execL E (.loop c) st=match execL E c st with
  | some (.nrm,s)=>execL E (.loop c) s
  | r=>r:=by
 refine opt_ext fun r=>⟨fun h => ?_,fun h => ?_⟩
 ·obtain⟨n,hn⟩:=execL_iff.1 h
  simp only[exec]at hn
  cases n with
  | zero=>simp[loopN]at hn
  | succ n=>
   simp only[loopN]at hn
   split at hn
   ·next s he=>
    rw[execL_iff.2 ⟨n+1,he⟩]
    refine execL_iff.2 ⟨n+1,?_⟩
    simp only[exec]
    exact loopN_mono (fun _ _ h=>h) (Nat.le_succ n) hn
   ·next hne=>
    rw[execL_iff.2 ⟨n+1,hn⟩]
    obtain⟨e,s⟩:=r
    cases e with
    | nrm=>exact(hne s hn).elim
    | _=>rfl
 ·split at h
  ·next s he=>
   obtain⟨n,hn⟩:=execL_iff.1 he
   obtain⟨m,hm⟩:=execL_iff.1 h
   refine execL_iff.2 ⟨max n m+1,?_⟩
   simp only[exec,loopN]
   rw[exec_up (by omega:n≤max n m+1) hn]
   simp only[exec]at hm
   exact loopN_mono (fun st r h=>exec_up (by omega:m≤max n m+1) h) (by omega) hm
  ·next hne=>
   obtain⟨n,hn⟩:=execL_iff.1 h
   refine execL_iff.2 ⟨n+1,?_⟩
   simp only[exec,loopN]
   rw[exec_up (by omega:n≤n+1) hn]
   obtain⟨e,s⟩:=r
   cases e with
   | nrm=>exact(hne s h).elim
   | _=>rfl
/-! a run asks for finitely many calls -/
theorem opX_fin{st:St}{o:O}{r:Rv}(h:opX E (callL E) st o=some r) : ∃ n,opX E (call E n) st o=some r:=by
 cases o
 case call f xs=>
  simp only[opX,zA,zB]at h ⊢
  obtain⟨l,hl,q,hq,h⟩:=h
  obtain⟨n,hn⟩:=callL_iff.1 hq
  exact⟨n,l,hl,q,hn,h⟩
 case callv g xs=>
  simp only[opX]at h ⊢
  split at h
  ·simp only[zA,zB]at h ⊢
   obtain⟨l,hl,q,hq,h⟩:=h
   obtain⟨n,hn⟩:=callL_iff.1 hq
   exact⟨n,l,hl,q,hn,h⟩
  ·simp at h
 all_goals exact⟨0,h⟩
theorem opC_fin{st:St}{o:OpC}{r:Rs}(h:opC E (callL E) o st=some r) : ∃ n,opC E (call E n) o st=some r:=by
 unfold opC at h ⊢
 split at h
 ·simp only[opR,zB]at h ⊢
  obtain⟨q,hq,h⟩:=h
  obtain⟨n,hn⟩:=opX_fin hq
  exact⟨n,q,hn,h⟩
 ·exact⟨0,h⟩
 ·exact⟨0,h⟩
theorem runOps_fin{l:List OpC}{st:St}{r:Rs}(h:runOps E (callL E) l st=some r) : ∃ n,runOps E (call E n) l st=some r:=by
 induction l generalizing st with
 | nil=>exact⟨0,h⟩
 | cons o l ih=>
  simp only[runOps]at h
  split at h
  ·next s he=>
   obtain⟨n,hn⟩:=opC_fin he
   obtain⟨m,hm⟩:=ih h
   refine⟨max n m,?_⟩
   simp only[runOps]
   rw[opC_mono (call_mono E (Nat.le_max_left n m)) hn]
   exact runOps_mono (call_mono E (Nat.le_max_right n m)) hm
  ·next hne=>
   obtain⟨n,hn⟩:=opC_fin h
   refine⟨n,?_⟩
   simp only[runOps]
   rw[hn]
   cases r with
   | ok s=>exact(hne s h).elim
   | pan d s=>rfl
theorem runStill_fin{l:List OpC}{st s:St}(h:runStill E (callL E) l st=some s) : ∃ n,runStill E (call E n) l st=some s:=by
 induction l generalizing st with
 | nil=>exact⟨0,h⟩
 | cons o l ih=>
  simp only[runStill]at h
  split at h
  ·next s' he=>
   split at h
   ·next hm'=>
    obtain⟨n,hn⟩:=opC_fin he
    obtain⟨m,hm⟩:=ih h
    refine⟨max n m,?_⟩
    simp only[runStill]
    rw[opC_mono (call_mono E (Nat.le_max_left n m)) hn]
    simp only[hm',if_true]
    exact runStill_mono (call_mono E (Nat.le_max_right n m)) hm
   ·simp at h
  ·simp at h
theorem exec_fin{k:Nat}{c:C}{st:St}{r:Ex×St}(h:exec E (callL E) k c st=some r) : ∃ n,exec E (call E n) n c st=some r:=by
 have up : ∀ {n m:Nat} {c:C} {st:St} {r:Ex×St},n≤m→exec E (call E n) n c st=some r→exec E (call E m) m c st=some r:=
  fun h k=>exec_mono (call_mono E h) h k
 induction c generalizing st r with
 | skip=>exact⟨0,h⟩
 | reg ops keep=>
  simp only[exec]at h ⊢
  split at h
  ·next s he=>obtain⟨n,hn⟩:=runOps_fin he;exact⟨n,by rw[hn];exact h⟩
  ·next d s he=>obtain⟨n,hn⟩:=runOps_fin he;exact⟨n,by rw[hn];exact h⟩
  ·simp at h
 | drw a0 a1 b keep=>
  simp only[exec]at h ⊢
  split at h
  ·next s1 h1=>
   split at h
   ·next s2 h2=>
    obtain⟨n1,e1⟩:=runOps_fin h1
    obtain⟨n2,e2⟩:=runStill_fin h2
    have hx : ∃ q,runOps E (callL E) b s2=some q:=by
     cases hb:runOps E (callL E) b s2 with
     | none=>rw[hb]at h;simp at h
     | some q=>exact⟨q,rfl⟩
    obtain⟨q,hq⟩:=hx
    obtain⟨n3,e3⟩:=runOps_fin hq
    refine⟨max n1 (max n2 n3),?_⟩
    rw[runOps_mono (call_mono E (by omega)) e1]
    simp only[runStill_mono (call_mono E (by omega:n2≤max n1 (max n2 n3))) e2]
    rw[runOps_mono (call_mono E (by omega:n3≤max n1 (max n2 n3))) e3]
    rw[hq]at h;exact h
   ·simp at h
  ·simp at h
 | seq a b iha ihb=>
  simp only[exec]at h
  split at h
  ·next s he=>
   obtain⟨n,hn⟩:=iha he
   obtain⟨m,hm⟩:=ihb h
   refine⟨max n m,?_⟩
   simp only[exec]
   rw[up (Nat.le_max_left n m) hn]
   exact up (Nat.le_max_right n m) hm
  ·next hne=>
   obtain⟨n,hn⟩:=iha h
   refine⟨n,?_⟩
   simp only[exec]
   rw[hn]
   obtain⟨e,s⟩:=r
   cases e with
   | nrm=>exact(hne s h).elim
   | _=>rfl
 | cond c a b iha ihb=>
  simp only[exec]at h ⊢
  split at h
  ·next hb=>obtain⟨n,hn⟩:=iha h;exact⟨n,hn⟩
  ·next hb=>obtain⟨n,hn⟩:=ihb h;exact⟨n,hn⟩
  ·simp at h
 | blk id c ih=>
  simp only[exec]at h
  split at h
  ·next i s he=>
   obtain⟨n,hn⟩:=ih he
   exact⟨n,by simp only[exec];rw[hn];exact h⟩
  ·next hne=>
   obtain⟨n,hn⟩:=ih h
   refine⟨n,?_⟩
   simp only[exec]
   rw[hn]
   obtain⟨e,s⟩:=r
   cases e with
   | ext i=>exact(hne i s h).elim
   | _=>rfl
 | loop c ih=>
  simp only[exec]at h
  have key : ∀ j {st r},loopN (exec E (callL E) k c) j st=some r → ∃ n,exec E (call E n) n (.loop c) st=some r:=by
   intro j
   induction j with
   | zero=>intro st r h;simp[loopN]at h
   | succ j ihj=>
    intro st r h
    simp only[loopN]at h
    split at h
    ·next s he=>
     obtain⟨n,hn⟩:=ih he
     obtain⟨m,hm⟩:=ihj h
     refine⟨max n m+1,?_⟩
     simp only[exec,loopN]
     rw[up (by omega:n≤max n m+1) hn]
     simp only[exec]at hm
     exact loopN_mono (fun st r h=>up (by omega:m≤max n m+1) h) (by omega) hm
    ·next hne=>
     obtain⟨n,hn⟩:=ih h
     refine⟨n+1,?_⟩
     simp only[exec,loopN]
     rw[up (by omega:n≤n+1) hn]
     obtain⟨e,s⟩:=r
     cases e with
     | nrm=>exact(hne s h).elim
     | _=>rfl
  exact key k h
 | exit id=>exact⟨0,h⟩
 | ret=>exact⟨0,h⟩
/-- a call's equation -/
theorem callL_fn{f:Nat}(hx:E.ext f=none){fn:Fn}(hf:E.fn f=some fn)(ds:List D)(st:St):callL E f ds st=match execL E fn.body (enter fn ds st)with
  | some (.nrm,s) | some (.ret,s)=>(resOf s fn.res).map fun l=>((.ret (leave fn (home fn ds st) s (one l)).1,(leave fn (home fn ds st) s (one l)).2):Out×St)
  | some (.pan d,s)=>some (.pan (leave fn (home fn ds st) s d).1,(leave fn (home fn ds st) s d).2)
  | _=>none:=by
 have key : ∀ n r,exec E (call E n) n fn.body (enter fn ds st)=some r→execL E fn.body (enter fn ds st)=some r:=
  fun n r h=>execL_iff.2 ⟨n,exec_mono (callL_le E n) (zR n) h⟩
 refine opt_ext fun r=>⟨fun h => ?_,fun h => ?_⟩
 ·obtain⟨n,hn⟩:=callL_iff.1 h
  cases n with
  | zero=>simp[call]at hn
  | succ n=>
   simp only[call,hx,hf,zD]at hn
   cases he:exec E (call E n) n fn.body (enter fn ds st)with
   | none=>rw[he]at hn;simp at hn
   | some q=>rw[key n q he];rw[he]at hn;exact hn
 ·cases he:execL E fn.body (enter fn ds st)with
  | none=>rw[he]at h;simp at h
  | some q=>
   obtain⟨k,hk⟩:=execL_iff.1 he
   obtain⟨n,hn⟩:=exec_fin hk
   refine callL_iff.2 ⟨n+1,?_⟩
   simp only[call,hx,hf,zD]
   rw[hn];rw[he]at h;exact h
theorem callL_eff{f:Nat}{e:Eff}(hx:E.ext f=some (.eff e))(ds:List D)(st:St):callL E f ds st=(effD e ds st).map fun q=>(.ret q.1,q.2):=by
 refine opt_ext fun r=>⟨fun h => ?_,fun h => ?_⟩
 ·obtain⟨n,hn⟩:=callL_iff.1 h
  cases n with
  | zero=>simp[call]at hn
  | succ n=>simp only[call,hx]at hn;exact hn
 ·exact callL_iff.2 ⟨1,by simp only[call,hx];exact h⟩
theorem callL_ext{f:Nat}{g:List D→List D→Option D}(hx:E.ext f=some (.fn g))(ds:List D)(st:St):callL E f ds st=(g ds (clL st.mem ds)).map fun d=>(.ret (told (frz st (refsL ds)) d).1,(told (frz st (refsL ds)) d).2):=by
 refine opt_ext fun r=>⟨fun h => ?_,fun h => ?_⟩
 ·obtain⟨n,hn⟩:=callL_iff.1 h
  cases n with
  | zero=>simp[call]at hn
  | succ n=>simp only[call,hx]at hn;exact hn
 ·exact callL_iff.2 ⟨1,by simp only[call,hx];exact h⟩
end
theorem callL_sound{P:Program}{E:Env}{ti:Ti}(hti:TiOk P ti)(hmix:P.follows .mixedOrders=true)(hE:EnvOk P ti E):CfOk P E (callL E):=by
 intro f ds st o st' h
 obtain⟨n,hn⟩:=callL_iff.1 h
 exact call_sound hti hmix hE n f ds st o st' hn
end Go.Ev
end
section
namespace Go.Ev
/-- nothing is ours yet; all that lies in memory stays -/
def G0(W:World):G:={ w:=W,φ:=fun b=>match W.heap[b]? with | some (.cells c _ _)=>c.size | _=>0,μ:=fun _=>none,hd:=fun _ _=>none,ρ:=fun _=>0,nx:=0 }
def St0:St:={ tm:=[],mem:=fun _=>none,tip:=fun _=>none,nx:=0,lo:=0,lw:=0 }
theorem inv0(W:World):Inv (G0 W) St0 where
 nx:=rfl
 ob k o h:=by simp[St0]at h
 tip g n h:=by simp[St0]at h
 out b hb:=by
  have hb:W.heap.size≤b:=hb
  refine⟨?_,rfl⟩
  show(match W.heap[b]? with | some (.cells c _ _)=>c.size | _=>0)=0
  rw[Array.getElem?_eq_none hb]
 dis k o h:=rfl
 own b:=zR _
theorem below0{W:World}{S':G}(h:Ext (G0 W) S'):RowKit.Below W.heap.size W S'.w where
 os:=h.os
 tape:=h.tape
 output:=h.output
 size:=h.size
 block b hb:=(h.free b hb rfl).1
/-- cells that lie in memory at the start -/
theorem phi0{W:World}{b off n:Nat}(h : ∀ j,j<n → ∃ u,W.cell? ⟨b,off+j,none⟩=some u):n=0∨off+n≤(G0 W).φ b:=by
 cases n with
 | zero=>exact .inl rfl
 | succ n=>
  refine .inr ?_
  obtain⟨u,hu⟩:=h n (Nat.lt_succ_self n)
  show _≤(match W.heap[b]? with | some (.cells c _ _)=>c.size | _=>0)
  simp only[World.cell?]at hu
  cases hb:W.heap[b]? with
  | none=>rw[hb]at hu;simp at hu
  | some o=>
   rw[hb]at hu
   cases o<;>first
    | (simp at hu;done)
    | (next c e fr=>
      have:(c[off+n]?)=some u:=hu
      have:=(Array.getElem?_eq_some_iff.1 this).1
      show off+(n+1)≤c.size
      omega)
theorem Does.calls{P:Program}{f:Nat}{args:Array Value}{w:World}{R:Ending→World→Prop}{g:Func}{c:Code}(hP:P.funcs[f]?=some g) (hn:(g.name == "runtime.NumGoroutine")=false) (hb:g.body=some c) (h:Does P f args w R):Calls P f args w R:=by
 rcases h with⟨_,h⟩ | ⟨v,w',h,_⟩
 ·exact h
 ·have hn:g.name ≠ "runtime.NumGoroutine" := by simpa using hn
  simp[callFunc,hP,hn,hb]at h
/-- a law's walk -/
theorem law_walk{P:Program}{E:Env}{ti:Ti}(hti:TiOk P ti)(hmix:P.follows .mixedOrders=true)(hE:EnvOk P ti E){f:Nat}{fn:Fn}(hx:E.ext f=none)(hf:E.fn f=some fn){W:World}{ds:List D}{vs:List Value}(hr:RepL (G0 W) ds vs)(hg:GlOk (G0 W) E)
  {st':St} (h:callL E f ds St0=some (.ret (.bool true),st')):Calls P f vs.toArray W fun e w'=>e = .returned (.bool true)∧RowKit.Below W.heap.size W w':=by
 obtain⟨g,c,kp,dp,hP,hn,hb,_,_⟩:=hE.fns f fn hf
 have:=(callL_sound hti hmix hE f ds St0 _ st' h (G0 W) vs (inv0 W) hr hg).calls hP hn hb
 refine Calls.mono this ?_
 rintro e w' ⟨S',rfl,he,hi,ho⟩
 refine⟨?_,below0 he⟩
 cases e with
 | returned v=>
  obtain⟨d,hd,hv⟩:=ho
  injection hd with hd
  subst hd
  rw[hv.bool_inv rfl]
 | panicked ch=>
  obtain⟨d,v,hd,_⟩:=ho
  cases hd
 | outgrown=>exact ho.elim
end Go.Ev
end
section
namespace Go.Ev
def look:List (Nat×Fn)→Nat→Option Fn
 | [],_=>none
 | p::r,f=>if f=p.1 then some p.2 else look r f
/-- a function of the table stands for the program's -/
def Good(P:Program)(ti:Ti)(f:Nat)(fn:Fn):Prop:=
 ∃ g c kp dp,P.funcs[f]?=some g∧(g.name == "runtime.NumGoroutine")=false∧g.body=some c∧trC ti g.ntmps kp dp c=some fn.body∧trRes ti g.results.toList=some fn.res
def Goods(P:Program)(ti:Ti)(l:List (Nat×Fn)):Prop := ∀ p∈l,Good P ti p.1 p.2
theorem Goods.nil(P:Program)(ti:Ti):Goods P ti []:=fun p hp=>by simp at hp
theorem Goods.cons{P:Program}{ti:Ti}{f:Nat}{fn:Fn}{l:List (Nat×Fn)}(h:Good P ti f fn)(hl:Goods P ti l):Goods P ti ((f,fn)::l):=by
 intro p hp
 rcases List.mem_cons.1 hp with rfl | hp
 ·exact h
 ·exact hl p hp
theorem look_mem{l:List (Nat×Fn)}{f:Nat}{fn:Fn}(h:look l f=some fn):(f,fn)∈l:=by
 induction l with
 | nil=>simp[look]at h
 | cons p r ih=>
  simp only[look]at h
  split at h
  ·next e=>injection h with h;subst e h;simp
  ·exact zP _ (ih h)
theorem envOk_of{P:Program}{ti:Ti}{E:Env}{l:List (Nat×Fn)}(hl:Goods P ti l)(hE:E.fn=look l)
  (hf : ∀ f e,E.ext f=some (.eff e) → ∀ ds st d st' (S:G) (vs:List Value),effD e ds st=some (d,st')→Inv S st→RepL S ds vs →
   Does P f vs.toArray S.w fun e w' => ∃ S',S'.w=w'∧Ext S S'∧Inv S' st' ∧ ∃ v,e = .returned v∧Rep S' d v)
  (hx : ∀ f h,E.ext f=some (.fn h) → ∀ ds0 ds d,h ds0 ds=some d → ∀ (S:G) (st:St) (vs:List Value),Inv S st→RepL S ds0 vs→RepL S ds vs→GlOk S E →
   Does P f vs.toArray S.w fun e w' => ∃ S',S'.w=w'∧Ext S S'∧Inv S' (told st d).2 ∧ ∃ v,e = .returned v∧Rep S' (told st d).1 v):EnvOk P ti E where
 fns f fn h:=by rw[hE]at h;exact hl _ (look_mem h)
 eff:=hf
 ext:=hx
end Go.Ev
end
section
namespace Go.Ev
def Wp(E:Env)(c:C)(st:St)(Q:Ex→St→Prop):Prop := ∃ e s,execL E c st=some (e,s)∧Q e s
def Nxt(K:St→Prop)(Q:Ex→St→Prop):Ex→St→Prop
 | .nrm,s=>K s
 | e,s=>Q e s
def Out1(id:Nat)(Q:Ex→St→Prop):Ex→St→Prop
 | .ext i,s=>if i=id then Q .nrm s else Q (.ext i) s
 | e,s=>Q e s
section
variable {E:Env} {st:St} {Q:Ex→St→Prop}
theorem Wp.mono{c:C}{Q':Ex→St→Prop}(h:Wp E c st Q)(hq : ∀ e s,Q e s→Q' e s):Wp E c st Q':=
 let ⟨e,s,h1,h2⟩:=h;⟨e,s,h1,hq _ _ h2⟩
theorem Wp.skip(h:Q .nrm st):Wp E .skip st Q:=⟨_,_,execL_skip st,h⟩
theorem Wp.exit{id:Nat}(h:Q (.ext id) st):Wp E (.exit id) st Q:=⟨_,_,execL_exit id st,h⟩
theorem Wp.ret(h:Q .ret st):Wp E .ret st Q:=⟨_,_,execL_ret st,h⟩
theorem Wp.reg{ops:List OpC}{keep:List Nat}{s:St}(h:runOps E (callL E) ops st=some (.ok s))(hq:Q .nrm { s with tm:=kept keep s.tm }):Wp E (.reg ops keep) st Q:=
 ⟨_,_,by rw[execL_reg,h],hq⟩
theorem Wp.drw{a0 a1 b:List OpC}{keep:List Nat}{s1 s2 s:St}(h1:runOps E (callL E) a0 st=some (.ok s1))(h2:runStill E (callL E) a1 s1=some s2)(h:runOps E (callL E) b s2=some (.ok s))
  (hq:Q .nrm { s with tm:=kept keep s.tm }):Wp E (.drw a0 a1 b keep) st Q:=
 ⟨_,_,by rw[execL_drw,h1];simp only[h2,h],hq⟩
theorem Wp.seq{a b:C}(h:Wp E a st (Nxt (fun s=>Wp E b s Q) Q)):Wp E (.seq a b) st Q:=by
 obtain⟨e,s,h1,h2⟩:=h
 cases e with
 | nrm=>
  obtain⟨e',s',h3,h4⟩:=h2
  exact⟨e',s',by rw[execL_seq,h1];exact h3,h4⟩
 | ext i=>exact⟨_,s,by rw[execL_seq,h1],h2⟩
 | ret=>exact⟨_,s,by rw[execL_seq,h1],h2⟩
 | pan d=>exact⟨_,s,by rw[execL_seq,h1],h2⟩
theorem Wp.cond{c:X}{a b:C}{t:Bool}(hc:ev E st.tm c=some (.bool t))(h1:t=true→Wp E a st Q)(h2:t=false→Wp E b st Q):Wp E (.cond c a b) st Q:=by
 cases t with
 | true=>obtain⟨e,s,h3,h4⟩:=h1 rfl;exact⟨e,s,by rw[execL_cond,hc];exact h3,h4⟩
 | false=>obtain⟨e,s,h3,h4⟩:=h2 rfl;exact⟨e,s,by rw[execL_cond,hc];exact h3,h4⟩
theorem Wp.blk{id:Nat}{c:C}(h:Wp E c st (Out1 id Q)):Wp E (.blk id c) st Q:=by
 obtain⟨e,s,h1,h2⟩:=h
 cases e with
 | ext i=>
  by_cases hi:i=id
  ·subst hi
   have h2:if i=i then Q .nrm s else Q (.ext i) s:=h2
   rw[if_pos rfl]at h2
   exact⟨.nrm,s,by rw[execL_blk,h1];simp[blkE],h2⟩
  ·have h2:if i=id then Q .nrm s else Q (.ext i) s:=h2
   rw[if_neg hi]at h2
   exact⟨.ext i,s,by rw[execL_blk,h1];simp[blkE,hi],h2⟩
 | nrm=>exact⟨_,s,by rw[execL_blk,h1];rfl,h2⟩
 | ret=>exact⟨_,s,by rw[execL_blk,h1];rfl,h2⟩
 | pan d=>exact⟨_,s,by rw[execL_blk,h1];rfl,h2⟩
/-- a loop: its states are told by some data, which go down -/
theorem Wp.loop{c:C}{α:Type}(f:α→St)(I:α→Prop)(μ:α→Nat)(x:α)(hx:st=f x)(h0:I x)
  (h : ∀ x,I x→Wp E c (f x) (Nxt (fun s => ∃ y,s=f y∧I y∧μ y<μ x) Q)):Wp E (.loop c) st Q:=by
 have key : ∀ n x,μ x=n→I x→Wp E (.loop c) (f x) Q:=by
  intro n
  induction n using Nat.strongRecOn with
  | _ n ih=>
   intro x hn hI
   obtain⟨e,s,h1,h2⟩:=h x hI
   cases e with
   | nrm=>
    obtain⟨y,rfl,hy,hlt⟩:=h2
    obtain⟨e',s',h3,h4⟩:=ih (μ y) (by omega) y rfl hy
    exact⟨e',s',by rw[execL_loop,h1];exact h3,h4⟩
   | ext i=>exact⟨_,s,by rw[execL_loop,h1],h2⟩
   | ret=>exact⟨_,s,by rw[execL_loop,h1],h2⟩
   | pan d=>exact⟨_,s,by rw[execL_loop,h1],h2⟩
 rw[hx]
 exact key _ x rfl h0
end
end Go.Ev
end
section
namespace Go.Ev
inductive V where
 | bool (b:Bool)
 | int (k:IntKind) (n:Int)
 | float (k:FloatKind) (b:Nat)
 | str (s:List UInt8)
 | nilp | nilf | nili
 | sl (xs:List V)
 | agg (xs:List V)
 | tup (xs:List V)
 | fn (f:Nat) (cap:List V)
 | iface (t:Nat) (x:V)
mutual
def V.toD:V→D
 | .bool b => .bool b
 | .int k n => .int k n
 | .float k b => .float k b
 | .str s => .str s
 | .nilp => .nilp
 | .nilf => .nilf
 | .nili => .nili
 | .sl xs => .sl .no xs.length (flatD xs)
 | .agg xs => .agg (toDL xs)
 | .tup xs => .tup (toDL xs)
 | .fn f c => .fn f (toDL c)
 | .iface t x => .iface t x.toD
def toDL:List V→List D
 | []=>[]
 | x::r=>x.toD::toDL r
def flatD:List V→List D
 | []=>[]
 | x::r=>x.toD.cells++flatD r
end
def V.parts:V→List V
 | .agg xs=>xs
 | x=>[x]
def V.one:V→Bool
 | .agg _ | .tup _=>false
 | _=>true
def allOneV:List V→Bool
 | []=>true
 | x::r=>x.one && allOneV r
/-- so many cells -/
def okN(n:Nat)(x:V):Bool:=Nat.beq x.parts.length n && allOneV x.parts
def szOk(sz:Nat):List V→Bool
 | []=>true
 | x::r=>okN sz x && szOk sz r
def tst{ρ:Type}(b:Bool)(k:Option ρ):Option ρ:=match b with | true=>k | false=>none
def asBool:V→Option Bool
 | .bool b=>some b
 | _=>none
def asStr:V→Option (List UInt8)
 | .str s=>some s
 | _=>none
def asSl(sz:Nat):V→Option (List V)
 | .sl xs=>match szOk sz xs with | true=>some xs | false=>none
 | _=>none
def asFn:V→Option (Nat×List V)
 | .fn f c=>some (f,c)
 | _=>none
def fldV(x:V)(i:Nat):Option V:=x.parts[i]?
def fldA(x:V)(i:Nat):Option V:=match x with | .agg xs=>xs[i]? | _=>none
def subV(x:V)(off sz:Nat):V := .agg ((x.parts.drop off).take sz)
def subA(x:V)(off sz:Nat):Option V:=match x with | .agg xs=>if off+sz≤xs.length then some (.agg ((xs.drop off).take sz))else none | _=>none
def intV:BinOp→IntKind→Int→Int→Option V
 | .add,k,a,b=>some (.int k (k.wrap (a+b)))
 | .sub,k,a,b=>some (.int k (k.wrap (a - b)))
 | .mul,k,a,b=>some (.int k (k.wrap (a * b)))
 | .quo,k,a,b=>if b=0 then none else some (.int k (k.wrap (a.tdiv b)))
 | .rem,k,a,b=>if b=0 then none else some (.int k (a.tmod b))
 | .and,k,a,b=>some (.int k (bits .and k a b))
 | .or,k,a,b=>some (.int k (bits .or k a b))
 | .xor,k,a,b=>some (.int k (bits .xor k a b))
 | .andNot,k,a,b=>some (.int k (bits .andNot k a b))
 | .eql,_,a,b=>some (.bool (a == b))
 | .neq,_,a,b=>some (.bool (a != b))
 | .lss,_,a,b=>some (.bool (decide (a<b)))
 | .leq,_,a,b=>some (.bool (decide (a≤b)))
 | .gtr,_,a,b=>some (.bool (decide (a > b)))
 | .geq,_,a,b=>some (.bool (decide (a ≥ b)))
 | .shl,k,a,b=>if b<0 then none else some (.int k (k.wrap (a * 2 ^ Nat.min b.toNat k.bits)))
 | .shr,k,a,b=>if b<0 then none else some (.int k (a.fdiv (2 ^ Nat.min b.toNat k.bits)))
def strV:BinOp→List UInt8→List UInt8→Option V
 | .add,a,b=>if a.length+b.length≤9223372036854775807 then some (.str (a++b))else none
 | .eql,a,b=>some (.bool (a == b))
 | .neq,a,b=>some (.bool (!(a == b)))
 | .lss,a,b=>some (.bool (Op.bytesLess a b))
 | .leq,a,b=>some (.bool (Op.bytesLess a b || a == b))
 | .gtr,a,b=>some (.bool !(Op.bytesLess a b || a == b))
 | .geq,a,b=>some (.bool !(Op.bytesLess a b))
 | _,_,_=>none
def binV(op:BinOp):V→V→Option V
 | .int k a,.int k' b=>if isShift op || decide (k=k')then intV op k a b else none
 | .str a,.str b=>strV op a b
 | .float k a,.float k' b=>if k=k' then(cmpF k op a b).map .bool else none
 | _,_=>none
def unV:UnOp→V→Option V
 | .neg,.int k n=>some (.int k (k.wrap (0 - n)))
 | .xor,.int k n=>some (.int k (bits .xor k (if k.signed then -1 else k.max) n))
 | .not,.bool b=>some (.bool !b)
 | _,_=>none
def inilV(neg:Bool):V→Option V
 | .nili=>some (.bool (!neg))
 | .iface _ _=>some (.bool neg)
 | _=>none
def cviV(k:IntKind):V→Option V
 | .int _ n=>some (.int k (k.wrap n))
 | _=>none
def cmsV:V→Option V
 | .str s=>some (.str s)
 | _=>none
def asBytesV:List V→Option (List UInt8)
 | []=>some []
 | .int .u8 n::r=>(asBytesV r).bind fun l=>some (UInt8.ofNat n.toNat::l)
 | _=>none
def ofBytesV(l:List UInt8):List V:=l.map fun b => .int .u8 b.toNat
def bndV(d:Option V)(dflt:Nat):Option Nat:=
 match d with
 | none=>some dflt
 | some (.int _ i)=>if 0≤i then some i.toNat else none
 | some _=>none
/-- low and high of a slice expression of what has n elements -/
def bnd2(l h:Option V)(n:Nat):Option (Nat×Nat):=
 (bndV l 0).bind fun l'=>(bndV h n).bind fun h'=>if l'≤h'∧h'≤n then some (l',h')else none
/-- low and high, the most as high as high -/
def bnd3(l h m:Option V)(n:Nat):Option (Nat×Nat):=
 (bndV l 0).bind fun l'=>(bndV h n).bind fun h'=>(bndV m n).bind fun m'=>if h.isSome=true∧l'≤h'∧h'=m'∧m'≤n then some (l',h')else none
/-- low, high and the most, of what has room for c -/
def bndR(l h m:Option V)(n c:Nat):Option (Nat×Nat×Nat):=
 (bndV l 0).bind fun l'=>(bndV h n).bind fun h'=>(bndV m c).bind fun m'=>if(m.isNone=true∨h.isSome=true)∧l'≤h'∧h'≤m'∧m'≤c then some (l',h',m')else none
def slsV(x:V)(l h:Option V):Option V:=
 match x with
 | .str s=>(bnd2 l h s.length).bind fun q=>some (.str ((s.drop q.1).take (q.2 - q.1)))
 | _=>none
def idxV(i:V)(n:Nat):Option Nat:=
 match i with
 | .int _ i=>if 0≤i∧i<n then some i.toNat else none
 | _=>none
def ixaV(ag:Bool)(n sz:Nat)(x i:V):Option V:=
 match x with
 | .agg xs=>(idxV i n).bind fun i=>if ag then(if(i+1) * sz≤xs.length then some (.agg ((xs.drop (i * sz)).take sz))else none)else xs[i * sz]?
 | _=>none
def ixsV(x i:V):Option V:=
 match x with
 | .str s=>(idxV i s.length).bind fun i=>(s[i]?).bind fun b=>some (.int .u8 b.toNat)
 | _=>none
def extV(x:V)(i:Nat):Option V:=match x with | .tup xs=>xs[i]? | _=>none
def lenV:V→Option Nat
 | .sl xs=>some xs.length
 | _=>none
def lnsV:V→Option Nat
 | .str s=>some s.length
 | _=>none
def minV:V→List V→Option V
 | .int k x,[]=>some (.int k x)
 | .int k x,.int k' y::r=>if k=k' then minV (.int k (if y<x then y else x)) r else none
 | _,_=>none
def maxV:V→List V→Option V
 | .int k x,[]=>some (.int k x)
 | .int k x,.int k' y::r=>if k=k' then maxV (.int k (if x<y then y else x)) r else none
 | _,_=>none
def mksV(bytes:Nat)(n c:V):Option (Nat×Nat):=
 match n,c with
 | .int .i64 n,.int .i64 c=>if 0≤n∧n≤c∧c * bytes≤140737488355328∧c≤140737488355328 then some (n.toNat,c.toNat)else none
 | _,_=>none
def appOk(bytes n m:Nat):Bool:=decide ((n+m) * bytes≤140737488355328) && decide (n+m≤140737488355328)
def apzV(bytes:Nat):V→Option Nat
 | .int .i64 m=>if 0≤m∧m≤140737488355328∧m.toNat * bytes≤140737488355328 then some m.toNat else none
 | _=>none
/-- an element of cells -/
def mkEl:List V→V
 | [x]=>x
 | xs => .agg xs
/-- what a closure has caught: a value, a cell of a row -/
inductive CP where
 | v (x:V) | p (k off:Nat)
/-- what a slot or a cell holds: a value; a slice whose end is its own (a lineage, the cells of an element); one that has no room; an address in a row of cells; one in a row of elements; a slice into a row of elements; an address in cells that never change; one in an element of a slice; a closure -/
inductive PS where
 | v (x:V)
 | own (id sz:Nat) (xs:List V)
 | full (xs:List V)
 | ptr (k off:Nat)
 | ptrA (k sz i off:Nat)
 | ref (k sz off n c:Nat) (z:Bool)
 | el (cs:List V)
 | elx (sz:Nat) (x:V) (off:Nat)
 | fn (f:Nat) (cap:List CP)
inductive PD where
 | s (p:PS) | agg (ps:List PS)
/-- a row of elements: may be stored in; was handed over, so far as we know, or for sure: nothing is stored in it any more -/
inductive Fz where
 | no | may | yes
inductive RowC where
 | box (n:Nat) (x:V)
 | cells (ps:List PS)
 | arr (fz:Fz) (sz:Nat) (xs:List V)
 | iter (s:List UInt8) (pos:Nat)
 | bld (t e:Nat) (s:List UInt8)
 | dead
/-- ro: nothing is stored in it now -/
structure Row where
 ro:Bool
 c:RowC
abbrev PTm:=List (Nat×Bool×PD)
/-- lim: slices of lineages below it are not appended to now -/
structure PSt where
 tm:PTm
 rows:List Row
 ni:Nat
 lim:Nat
/-- o: a slice that may be appended to, whose room goes over; g: the result may be appended to; u: the first argument has no room -/
inductive PA where
 | v (x:V) | p (j off:Nat) | fn (f:Nat) (cap:List CP) | o (sz:Nat) (xs:List V) | g | u
abbrev PcT:=Nat→List PA→List (Bool×Nat×V)→Option (V×List V)
/-- how a function is called: as any; its result may be appended to; its first argument may be appended to, and its room goes over; its first argument is a slice that has no room; so, and the result may be appended to -/
inductive Md where
 | pl | gv (sz:Nat) | raw (sz:Nat) | ful | gvf (sz:Nat) | eff (e:Eff)
/-- tx: functions whose answer is told -/
structure Gl where
 g:Nat→Option (List V)
 md:Nat→Md
 tx:Nat→Option (List V→Option V)
def getP:PTm→Nat→Option PD
 | [],_=>none
 | (i,_,d)::r,t=>match Nat.beq i t with | true=>some d | false=>getP r t
/-- a slot is written: none that is held -/
def putP:PTm→Nat→PD→Option PTm
 | [],t,d=>some [(t,false,d)]
 | (i,f,e)::r,t,d=>match Nat.beq i t with
  | true=>match f with | true=>none | false=>some ((t,false,d)::r)
  | false=>match putP r t d with | some r'=>some ((i,f,e)::r') | none=>none
def delP:PTm→Nat→Option PTm
 | [],_=>some []
 | (i,f,e)::r,t=>match Nat.beq i t with
  | true=>match f with | true=>none | false=>delP r t
  | false=>match delP r t with | some r'=>some ((i,f,e)::r') | none=>none
def hasB:List Nat→Nat→Bool
 | [],_=>false
 | i::r,t=>match Nat.beq i t with | true=>true | false=>hasB r t
def keptP(l:List Nat):PTm→PTm
 | []=>[]
 | (i,e)::r=>match hasB l i with | true=>(i,e)::keptP l r | false=>keptP l r
def setR(rows:List Row)(k:Nat)(r:Row):List Row:=rows.set k r
/-- a row that may be written -/
def rowW(p:PSt)(k:Nat):Option RowC:=match p.rows[k]? with | some ⟨false,c⟩=>some c | _=>none
def rowR(p:PSt)(k:Nat):Option RowC:=match p.rows[k]? with | some ⟨_,c⟩=>some c | none=>none
def PSt.setR(p:PSt)(k:Nat)(c:RowC):PSt:={ p with rows:=p.rows.set k ⟨false,c⟩ }
def PSt.newR(p:PSt)(c:RowC):PSt:={ p with rows:=p.rows++[⟨false,c⟩] }
def PS.strip(id:Nat):PS→PS
 | .own i sz xs=>match Nat.beq i id with | true => .v (.sl xs) | false => .own i sz xs
 | q=>q
def stripL(id:Nat):List PS→List PS
 | []=>[]
 | q::r=>q.strip id::stripL id r
def PD.strip(id:Nat):PD→PD
 | .s q => .s (q.strip id)
 | .agg ps => .agg (stripL id ps)
def RowC.strip(id:Nat):RowC→RowC
 | .cells ps => .cells (stripL id ps)
 | c=>c
def stripT(id:Nat):PTm→PTm
 | []=>[]
 | (i,f,d)::r=>(i,f,d.strip id)::stripT id r
def stripR(id:Nat):List Row→List Row
 | []=>[]
 | ⟨f,c⟩::r=>⟨f,c.strip id⟩::stripR id r
def PSt.strip(p:PSt)(id:Nat):PSt:={ p with tm:=stripT id p.tm,rows:=stripR id p.rows }
/-- a value out of a handle that hangs on no row -/
def PS.pure:PS→Option V
 | .v x=>some x
 | .own _ _ xs=>some (.sl xs)
 | .full xs=>some (.sl xs)
 | .fn f cap=>match cap with | []=>some (.fn f []) | _=>none
 | _=>none
def pureL':List PS→Option (List V)
 | []=>some []
 | q::r=>match q.pure with | some x=>(match pureL' r with | some l=>some (x::l) | none=>none) | none=>none
def PD.pureV:PD→Option V
 | .s q=>q.pure
 | .agg ps=>match pureL' ps with | some l=>some (.agg l) | none=>none
/-- the same, slices into rows told in place -/
def PS.outV(p:PSt):PS→Option V
 | .ref k _ off n _ _=>match rowR p k with | some (.arr _ _ xs)=>some (.sl ((xs.drop off).take n)) | _=>none
 | q=>q.pure
def outL(p:PSt):List PS→Option (List V)
 | []=>some []
 | q::r=>match q.outV p with | some x=>(match outL p r with | some l=>some (x::l) | none=>none) | none=>none
def PD.outV(p:PSt):PD→Option V
 | .s q=>q.outV p
 | .agg ps=>match outL p ps with | some l=>some (.agg l) | none=>none
def PS.refs:PS→List (Nat×Bool)
 | .ref k _ _ _ _ z=>[(k,z)]
 | _=>[]
def refsS:List PS→List (Nat×Bool)
 | []=>[]
 | q::r=>q.refs++refsS r
def PD.refs:PD→List (Nat×Bool)
 | .s q=>q.refs
 | .agg ps=>refsS ps
/-- values alone -/
def allV:List PS→Option (List V)
 | []=>some []
 | .v x::r=>match allV r with | some l=>some (x::l) | none=>none
 | _=>none
def PS.oneP:PS→Bool
 | .v x=>x.one
 | _=>true
def allP:List PS→Bool
 | []=>true
 | q::r=>q.oneP && allP r
def mkAgg(ps:List PS):PD:=match allV ps with | some l => .s (.v (.agg l)) | none => .agg ps
mutual
def ofD:D→Option V
 | .bool b=>some (.bool b)
 | .int k n=>some (.int k n)
 | .float k b=>some (.float k b)
 | .str s=>some (.str s)
 | .nilp=>some .nilp
 | .nilf=>some .nilf
 | .nili=>some .nili
 | .agg ds=>match ofDL ds with | some l=>some (.agg l) | none=>none
 | .fn f c=>match c with | []=>some (.fn f []) | _=>none
 | .iface t d=>match ofD d with | some x=>some (.iface t x) | none=>none
 | _=>none
def ofDL:List D→Option (List V)
 | []=>some []
 | d::r=>match ofD d with | some x=>(match ofDL r with | some l=>some (x::l) | none=>none) | none=>none
end
def constS:D→Option PS
 | .sl .full 0 []=>some (.full [])
 | .fn f []=>some (.fn f [])
 | d=>match ofD d with | some x=>some (.v x) | none=>none
def constL:List D→Option (List PS)
 | []=>some []
 | d::r=>match constS d with | some x=>(match constL r with | some l=>some (x::l) | none=>none) | none=>none
def constP:D→Option PD
 | .agg ds=>match constL ds with | some l=>(match allP l with | true=>some (mkAgg l) | false=>none) | none=>none
 | d=>match constS d with | some q=>some (.s q) | none=>none
/-- an element's zero cells -/
def zeroL(z:List D):Option (List V):=
 match constL z with
 | some l=>match allP l with
  | true=>match pureL' l with
   | some l=>match Nat.blt 0 l.length with | true=>some l | false=>none
   | none=>none
  | false=>none
 | none=>none
/-- an array of bytes -/
def allU8:List D→Bool
 | []=>true
 | d::r=>match d with | .int .u8 (.ofNat 0)=>allU8 r | _=>false
def bytesZ(z:List D):Option Nat:=match allU8 z with
 | true=>match Nat.blt 2 z.length with | true=>some z.length | false=>none
 | false=>none
def evH(gl:Gl)(p:PSt):X→Option PD
 | .s t=>getP p.tm t
 | .k d=>constP d
 | .g n=>match gl.g n with | some cs=>some (.s (.el cs)) | none=>none
/-- an operand that is a value -/
def evV(gl:Gl)(p:PSt)(x:X):Option V:=match evH gl p x with | some (.s (.v x))=>some x | _=>none
def evVL(gl:Gl)(p:PSt):List X→Option (List V)
 | []=>some []
 | x::r=>match evV gl p x with | some d=>(match evVL gl p r with | some l=>some (d::l) | none=>none) | none=>none
def evVO(gl:Gl)(p:PSt):Option X→Option (Option V)
 | none=>some none
 | some x=>match evV gl p x with | some d=>some (some d) | none=>none
def evHL(gl:Gl)(p:PSt):List X→Option (List PD)
 | []=>some []
 | x::r=>match evH gl p x with | some d=>(match evHL gl p r with | some l=>some (d::l) | none=>none) | none=>none
section
variable {ρ:Type}
/-- a value's cells, one by one, from cell i on -/
def cellsFrom(x:V)(i:Nat):Nat→(List PS→Option ρ)→Option ρ
 | 0,K=>K []
 | n+1,K=>(fldV x i).bind fun c=>cellsFrom x (i+1) n fun l=>K (.v c::l)
def cellsK(n:Nat)(d:PD)(K:List PS→Option ρ):Option ρ:=
 match d with
 | .s (.v x)=>tst (okN n x) (cellsFrom x 0 n K)
 | .s (.el _) | .s (.elx _ _ _)=>none
 | .s q=>match Nat.beq n 1 with | true=>K [q] | false=>none
 | .agg ps=>match Nat.beq ps.length n with | true=>K ps | false=>none
def setL{α:Type}(xs:List α)(o:Nat)(ys:List α):List α:=xs.take o++ys++xs.drop (o+ys.length)
def buildK(gl:Gl)(p:PSt)(cells:List PS):List (Nat×Nat×X)→(List PS→Option ρ)→Option ρ
 | [],K=>K cells
 | (o,n,x)::r,K=>match evH gl p x with
  | some d=>match Nat.ble (o+n) cells.length with
   | true=>cellsK n d fun cs=>buildK gl p (setL cells o cs) r K
   | false=>none
  | none=>none
/-- an element is laid, or a part of it -/
def elK(sz:Nat)(els:List V)(o n:Nat)(x:V)(K:List V→Option ρ):Option ρ:=
 match Nat.beq n sz && Nat.beq (o % sz) 0 with
 | true=>match Nat.beq sz 1 with
  | true=>tst (okN 1 x) ((fldV x 0).bind fun c=>K (els.set (o / sz) c))
  | false=>tst (okN sz x) (K (els.set (o / sz) x))
 | false=>match Nat.beq sz 1 with
  | true=>none
  | false=>match els[o / sz]? with
   | some (.agg xs)=>match Nat.ble (o % sz+n) xs.length && Nat.blt 0 n with
    | true=>tst (okN n x) (K (els.set (o / sz) (.agg (setL xs (o % sz) x.parts))))
    | false=>none
   | _=>none
def litK(gl:Gl)(p:PSt)(sz:Nat)(els:List V):List (Nat×Nat×X)→(List V→Option ρ)→Option ρ
 | [],K=>K els
 | (o,n,x)::r,K=>match evH gl p x with
  | some d=>match d.pureV with
   | some x=>match Nat.blt (o / sz) els.length with
    | true=>elK sz els o n x fun els=>litK gl p sz els r K
    | false=>none
   | none=>none
  | none=>none
/-- a slice's elements -/
def slK(sz:Nat)(p:PSt)(d:PD)(K:List V→Option ρ):Option ρ:=
 match d with
 | .s (.v x)=>(asSl sz x).bind K
 | .s (.own _ _ xs)=>tst (szOk sz xs) (K xs)
 | .s (.full xs)=>tst (szOk sz xs) (K xs)
 | .s (.ref k sz' off n _ _)=>match rowR p k with
  | some (.arr _ _ xs)=>match Nat.beq sz' sz with | true=>K ((xs.drop off).take n) | false=>none
  | _=>none
 | _=>none
/-- elements to be copied: a text's bytes, too -/
def asEl(sz:Nat):V→Option (List V)
 | .sl xs=>match szOk sz xs with | true=>some xs | false=>none
 | .str s=>match Nat.beq sz 1 with | true=>some (ofBytesV s) | false=>none
 | _=>none
def srcK(sz:Nat)(p:PSt)(d:PD)(K:List V→Option ρ):Option ρ:=
 match d with
 | .s (.v x)=>(asEl sz x).bind K
 | d=>slK sz p d K
def loadK(p:PSt)(ag:Bool)(sz:Nat)(d:PD)(K:PD→Option ρ):Option ρ:=
 match d with
 | .s (.ptr k off)=>match rowR p k with
  | some (.box n x)=>match ag with
   | true=>tst (Nat.ble (off+sz) n) (match Nat.beq sz n && Nat.blt 1 n with | true=>K (.s (.v x)) | false=>K (.s (.v (subV x off sz))))
   | false=>(fldV x off).bind fun c=>K (.s (.v c))
  | some (.cells ps)=>match ag with
   | true=>match Nat.ble (off+sz) ps.length with | true=>K (mkAgg ((ps.drop off).take sz)) | false=>none
   | false=>match ps[off]? with | some q=>K (.s q) | none=>none
  | _=>none
 | .s (.ptrA k sz' i off)=>match rowR p k with
  | some (.arr _ _ xs)=>match ag with
   | true=>match Nat.ble (off+sz) sz' with
    | true=>(xs[i]?).bind fun x=>match Nat.beq sz sz' && Nat.blt 1 sz' with | true=>K (.s (.v x)) | false=>K (.s (.v (subV x off sz)))
    | false=>none
   | false=>(xs[i]?).bind fun x=>(fldV x off).bind fun c=>K (.s (.v c))
  | _=>none
 | .s (.elx sz' x off)=>match ag with
  | true=>match Nat.ble (off+sz) sz' with
   | true=>match Nat.beq sz sz' && Nat.blt 1 sz' with | true=>K (.s (.v x)) | false=>K (.s (.v (subV x off sz)))
   | false=>none
  | false=>(fldV x off).bind fun c=>K (.s (.v c))
 | .s (.el cs)=>match ag with
  | true=>tst (Nat.ble sz cs.length) (K (.s (.v (.agg (cs.take sz)))))
  | false=>(cs[0]?).bind fun c=>K (.s (.v c))
 | _=>none
/-- a value that goes over into a row's cells -/
def storeK(p:PSt)(sz:Nat)(a v:PD)(K:PSt→Option ρ):Option ρ:=
 match a with
 | .s (.ptr k off)=>match rowW p k with
  | some (.box n x)=>match Nat.beq off 0 && Nat.beq sz n && Nat.blt 1 n with
   | true=>match v with
    | .s (.v y)=>tst (okN n y) (K (p.setR k (.box n y)))
    | v=>cellsK n v fun cs=>K (p.setR k (.cells cs))
   | false=>match Nat.ble (off+sz) n with
    | true=>cellsFrom x 0 n fun xs=>cellsK sz v fun cs=>K (p.setR k (.cells (setL xs off cs)))
    | false=>none
  | some (.cells ps)=>match Nat.beq off 0 && Nat.beq sz ps.length && Nat.blt 1 sz with
   | true=>match v with
    | .s (.v y)=>tst (okN sz y) (K (p.setR k (.box sz y)))
    | v=>cellsK sz v fun cs=>K (p.setR k (.cells cs))
   | false=>match Nat.ble (off+sz) ps.length with
    | true=>cellsK sz v fun cs=>K (p.setR k (.cells (setL ps off cs)))
    | false=>none
  | _=>none
 | .s (.ptrA k sz' i off)=>match rowW p k with
  | some (.arr .no _ xs)=>match v.pureV with
   | some y=>match Nat.beq off 0 && Nat.beq sz sz' with
    | true=>match Nat.beq sz 1 with
     | true=>tst (okN 1 y) ((fldV y 0).bind fun c=>K (p.setR k (.arr .no sz' (xs.set i c))))
     | false=>tst (okN sz y) (K (p.setR k (.arr .no sz' (xs.set i y))))
    | false=>match Nat.ble (off+sz) sz' && Nat.blt 0 sz with
     | true=>(xs[i]?).bind fun e=>tst (okN sz y) (K (p.setR k (.arr .no sz' (xs.set i (.agg (setL e.parts off y.parts))))))
     | false=>none
   | none=>none
  | _=>none
 | _=>none
/-- m elements ys behind a slice -/
def appK(p:PSt)(sz bytes:Nat)(s:PD)(ys:List V)(K:PD→PSt→Option ρ):Option ρ:=
 match s with
 | .s (.full xs)=>match Nat.blt 0 sz with
  | true=>tst (szOk sz xs) (tst (appOk bytes xs.length ys.length) (K (.s (.own p.ni sz (xs++ys))) { p with ni:=p.ni+1 }))
  | false=>none
 | .s (.own id sz' xs)=>match Nat.beq sz sz' && Nat.blt 0 sz && Nat.ble p.lim id with
  | true=>tst (appOk bytes xs.length ys.length) (K (.s (.own id sz (xs++ys))) (p.strip id))
  | false=>none
 | .s (.ref k sz' off n c z)=>match Nat.beq sz sz' && Nat.blt 0 sz with
  | true=>match rowR p k with
   | some (.arr fz _ xs)=>tst (appOk bytes n ys.length) (if n+ys.length≤c∧(z=false∨0<c)then
     (match rowW p k with
     | some (.arr .no _ _)=>K (.s (.ref k sz off (n+ys.length) c z)) (p.setR k (.arr fz sz (setL xs (off+n) ys)))
     | _=>none)
    else K (.s (.own p.ni sz ((xs.drop off).take n++ys))) { p with ni:=p.ni+1 })
   | _=>none
  | false=>none
 | _=>none
/-- a slice of an array -/
def slaK(p:PSt)(n sz:Nat)(l h m:Option V)(d:PD)(K:PD→Option ρ):Option ρ:=
 match d with
 | .s q=>match q with
  | .ptr k o=>match rowR p k with
   | some (.arr _ sz' xs)=>match Nat.beq o 0 && Nat.beq sz sz' with
    | true=>tst (Nat.ble n xs.length) ((bndR l h m n n).bind fun q=>K (.s (.ref k sz q.1 (q.2.1 - q.1) (q.2.2 - q.1) true)))
    | false=>none
   | _=>none
  | _=>none
 | .agg _=>none
/- what goes over into a call: values; the rows that are pointed to, in the order in which they are met -/
def place(k:Nat)(l:List Nat):Nat×List Nat:=match l.findIdx? (fun j=>Nat.beq j k)with | some j=>(j,l) | none=>(l.length,l++[k])
def capA(ks:List Nat):List CP→List CP×List Nat
 | []=>([],ks)
 | .v x::r=>(.v x::(capA ks r).1,(capA ks r).2)
 | .p k off::r=>(.p (place k ks).1 off::(capA (place k ks).2 r).1,(capA (place k ks).2 r).2)
/-- a row that is handed over: it is held from now on; z: it may be that nothing is handed over -/
def freeze(p:PSt)(kz:Nat×Bool):Option PSt:=match p.rows[kz.1]? with
 | some ⟨_,.arr .yes _ _⟩=>some p
 | some ⟨false,.arr .may sz xs⟩=>match kz.2 with | true=>some p | false=>some { p with rows:=p.rows.set kz.1 ⟨false,.arr .yes sz xs⟩ }
 | some ⟨false,.arr .no sz xs⟩=>match kz.2 with | true=>some { p with rows:=p.rows.set kz.1 ⟨false,.arr .may sz xs⟩ } | false=>some { p with rows:=p.rows.set kz.1 ⟨false,.arr .yes sz xs⟩ }
 | _=>none
def freezeL(p:PSt):List (Nat×Bool)→Option PSt
 | []=>some p
 | k::r=>match freeze p k with | some p'=>freezeL p' r | none=>none
def argA(p:PSt)(ks:List Nat)(d:PD):Option (PA×List Nat×PSt):=
 match d with
 | .s (.ptr k off)=>some (.p (place k ks).1 off,(place k ks).2,p)
 | .s (.fn f cap)=>some (.fn f (capA ks cap).1,(capA ks cap).2,p)
 | d=>match d.outV p with
  | some x=>match freezeL p d.refs with | some p'=>some (.v x,ks,p') | none=>none
  | none=>none
def argsA(p:PSt)(ks:List Nat):List PD→Option (List PA×List Nat×PSt)
 | []=>some ([],ks,p)
 | d::r=>match argA p ks d with
  | some (a,ks',p')=>match argsA p' ks' r with | some (l,ks'',p'')=>some (a::l,ks'',p'') | none=>none
  | none=>none
/-- what a row holds, as a value, and how many cells -/
def rowV:RowC→Option (Nat×V)
 | .box n x=>match Nat.beq n 1 with | true=>none | false=>some (n,x)
 | .cells ps=>match pureL' ps with | some l=>some (ps.length,mkEl l) | none=>none
 | _=>none
def parsA(p:PSt):List Nat→Option (List (Bool×Nat×V))
 | []=>some []
 | k::r=>match p.rows[k]? with
  | some ⟨ro,c⟩=>match rowV c with
   | some (n,x)=>match parsA p r with | some l=>some ((ro,n,x)::l) | none=>none
   | none=>none
  | none=>none
def parC(n:Nat)(x:V):RowC:=match Nat.beq n 1 with | true => .cells [.v x] | false => .box n x
/-- the rows as the callee left them -/
def backK(p:PSt)(ys:List V)(j:Nat):List Nat→(PSt→Option ρ)→Option ρ
 | [],K=>K p
 | k::r,K=>match p.rows[k]? with
  | some ⟨true,_⟩=>backK p ys (j+1) r K
  | some ⟨false,c⟩=>match rowV c with
   | some (n,_)=>(ys[j]?).bind fun y=>backK (p.setR k (parC n y)) ys (j+1) r K
   | none=>none
  | none=>none
def callN(pc:PcT)(f:Nat)(ds:List PD)(p:PSt)(K:PD→PSt→Option ρ):Option ρ:=
 match argsA p [] ds with
 | some (as,ks,p')=>match parsA p' ks with
  | some pars=>(pc f as pars).bind fun r=>backK p' r.2 0 ks fun p''=>K (.s (.v r.1)) p''
  | none=>none
 | none=>none
def valsP:List PD→Option (List V)
 | []=>some []
 | d::r=>match d.pureV with | some x=>(match valsP r with | some l=>some (x::l) | none=>none) | none=>none
def slV:V→Option (List V)
 | .sl xs=>some xs
 | _=>none
def callG(pc:PcT)(sz f:Nat)(ds:List PD)(p:PSt)(K:PD→PSt→Option ρ):Option ρ:=
 match argsA p [] ds with
 | some (as,[],p')=>(pc f (.g::as) []).bind fun r=>(slV r.1).bind fun xs=>K (.s (.own p'.ni sz xs)) { p' with ni:=p'.ni+1 }
 | _=>none
def callW(pc:PcT)(sz f:Nat)(ds:List PD)(p:PSt)(K:PD→PSt→Option ρ):Option ρ:=
 match ds with
 | .s (.own id sz' ys)::r=>match Nat.beq sz sz' with
  | true=>match valsP r with
   | some xs=>(pc f (.o sz ys::xs.map PA.v) []).bind fun q=>K (.s (.v q.1)) (p.strip id)
   | none=>none
  | false=>none
 | .s (.full ys)::r=>match valsP r with
  | some xs=>tst (szOk sz ys) ((pc f (.o sz ys::xs.map PA.v) []).bind fun q=>K (.s (.v q.1)) (p.strip p.ni))
  | none=>none
 | _=>none
/-- a slice that has no room -/
def fulP(d:PD)(k:Option ρ):Option ρ:=
 match d with
 | .s (.full _)=>k
 | .s (.ref _ _ _ n c _)=>tst (Nat.beq n c) k
 | _=>none
def callF(pc:PcT)(f:Nat)(ds:List PD)(p:PSt)(K:PD→PSt→Option ρ):Option ρ:=
 match ds with
 | d::r=>fulP d (match argsA p [] (d::r)with
  | some (as,[],p')=>(pc f (.u::as) []).bind fun q=>K (.s (.v q.1)) p'
  | _=>none)
 | []=>none
def asByte:V→Option UInt8
 | .int .u8 n=>if 0≤n∧n<256 then some (UInt8.ofNat n.toNat)else none
 | _=>none
/-- what a told function does to a builder -/
def effK(e:Eff)(ds:List PD)(p:PSt)(K:PD→PSt→Option ρ):Option ρ:=
 match e with
 | .ws t e=>match ds with
  | [.s (.ptr k 0),.s (.v x)]=>match rowW p k with
   | some (.bld t' e' r)=>match Nat.beq t' t && Nat.beq e' e with
    | true=>(asStr x).bind fun s=>tst (decide (r.length+s.length≤140737488355328)) (K (.s (.v (.tup [.int .i64 (s.length:Nat),.nili]))) (p.setR k (.bld t e (r++s))))
    | false=>none
   | _=>none
  | _=>none
 | .wb t e=>match ds with
  | [.s (.ptr k 0),.s (.v x)]=>match rowW p k with
   | some (.bld t' e' r)=>match Nat.beq t' t && Nat.beq e' e with
    | true=>(asByte x).bind fun c=>tst (decide (r.length+1≤140737488355328)) (K (.s (.v .nili)) (p.setR k (.bld t e (r++[c]))))
    | false=>none
   | _=>none
  | _=>none
 | .bs t e=>match ds with
  | [.s (.ptr k 0)]=>match rowW p k with
   | some (.bld t' e' r)=>match Nat.beq t' t && Nat.beq e' e with
    | true=>K (.s (.v (.str r))) (p.setR k .dead)
    | false=>none
   | _=>none
  | _=>none
def callK(md:Nat→Md)(pc:PcT)(f:Nat)(ds:List PD)(p:PSt)(K:PD→PSt→Option ρ):Option ρ:=
 match md f with
 | .pl=>callN pc f ds p K
 | .gv sz=>callG pc sz f ds p K
 | .raw sz=>callW pc sz f ds p K
 | .ful=>callF pc f ds p K
 | .gvf sz=>match ds with
  | d::r=>fulP d (callG pc sz f (d::r) p K)
  | []=>none
 | .eff e=>effK e ds p K
def capD:CP→PD
 | .v x => .s (.v x)
 | .p k off => .s (.ptr k off)
def mkCap:List PD→Option (List CP)
 | []=>some []
 | .s (.v x)::r=>match mkCap r with | some l=>some (.v x::l) | none=>none
 | .s (.ptr k off)::r=>match mkCap r with | some l=>some (.p k off::l) | none=>none
 | _=>none
/-- an operation: what it yields, and the state behind it -/
def popK(gl:Gl)(pc:PcT)(p:PSt)(o:O)(K:Option PD→PSt→Option ρ):Option ρ:=
 match o with
 | .mv x=>match evH gl p x with | some d=>K (some d) p | none=>none
 | .pick c a b=>match evV gl p c with
  | some c=>match evV gl p a with
   | some x=>match evV gl p b with
    | some y=>(asBool c).bind fun c=>K (some (.s (.v (if c then x else y)))) p
    | none=>none
   | none=>none
  | none=>none
 | .alloc z=>match bytesZ z with
  | some n=>K (some (.s (.ptr p.rows.length 0))) (p.newR (.arr .no 1 (List.replicate n (.int .u8 0))))
  | none=>match constL z with
   | some l=>match allP l with
    | true=>K (some (.s (.ptr p.rows.length 0))) (p.newR (.cells l))
    | false=>none
   | none=>none
 | .build z ps=>match constL z with
  | some l=>match allP l with
   | true=>buildK gl p l ps fun cs=>K (some (mkAgg cs)) p
   | false=>none
  | none=>none
 | .lit n z ps=>match zeroL z with
  | some l=>litK gl p l.length (List.replicate n (mkEl l)) ps fun els=>K (some (.s (.full els))) p
  | none=>none
 | .load ag sz a=>match evH gl p a with | some d=>loadK p ag sz d fun v=>K (some v) p | none=>none
 | .store sz a v=>match evH gl p a with
  | some d=>match evH gl p v with | some v=>storeK p sz d v fun p'=>K none p' | none=>none
  | none=>none
 | .chk x=>match evH gl p x with
  | some (.s (.ptr k off))=>K (some (.s (.ptr k off))) p
  | some (.s (.ptrA k sz i off))=>K (some (.s (.ptrA k sz i off))) p
  | some (.s (.el cs))=>K (some (.s (.el cs))) p
  | some (.s (.elx sz x off))=>K (some (.s (.elx sz x off))) p
  | some (.s (.fn f c))=>K (some (.s (.fn f c))) p
  | _=>none
 | .bin op x y=>match evV gl p x with
  | some x=>match evV gl p y with | some y=>(binV op x y).bind fun d=>K (some (.s (.v d))) p | none=>none
  | none=>none
 | .beq neg x y=>match evV gl p x with
  | some x=>match evV gl p y with
   | some y=>(asBool x).bind fun a=>(asBool y).bind fun b=>K (some (.s (.v (.bool (match neg with | true => !(a == b) | false=>a == b))))) p
   | none=>none
  | none=>none
 | .inil neg x=>match evV gl p x with | some x=>(inilV neg x).bind fun d=>K (some (.s (.v d))) p | none=>none
 | .un op x=>match evV gl p x with | some x=>(unV op x).bind fun d=>K (some (.s (.v d))) p | none=>none
 | .cvi k x=>match evV gl p x with | some x=>(cviV k x).bind fun d=>K (some (.s (.v d))) p | none=>none
 | .cms x=>match evV gl p x with | some x=>(cmsV x).bind fun d=>K (some (.s (.v d))) p | none=>none
 | .cbs x=>match evH gl p x with
  | some d=>slK 1 p d fun xs=>(asBytesV xs).bind fun s=>K (some (.s (.v (.str s)))) p
  | none=>none
 | .csb x=>match evV gl p x with | some x=>(asStr x).bind fun s=>K (some (.s (.v (.sl (ofBytesV s))))) p | none=>none
 | .ifc t x=>match evH gl p x with
  | some d=>match d.pureV with | some x=>K (some (.s (.v (.iface t x)))) p | none=>none
  | none=>none
 | .mkf f cap=>match evHL gl p cap with
  | some l=>match mkCap l with
   | some l=>K (some (.s (.fn f l))) p
   | none=>none
  | none=>none
 | .mks z bytes n c=>match zeroL z with
  | some l=>match evV gl p n with
   | some n=>match evV gl p c with
    | some c=>(mksV bytes n c).bind fun q=>K (some (.s (.ref p.rows.length l.length 0 q.1 q.2 false))) (p.newR (.arr .no l.length (List.replicate q.2 (mkEl l))))
    | none=>none
   | none=>none
  | none=>none
 | .slc sz x l h m=>match evH gl p x with
  | some d=>match evVO gl p l with
   | some l=>match evVO gl p h with
    | some h=>match evVO gl p m with
     | some m=>match d with
      | .s (.ref k sz' off n c _)=>match Nat.beq sz' sz with
       | true=>(bndR l h m n c).bind fun q=>K (some (.s (.ref k sz (off+q.1) (q.2.1 - q.1) (q.2.2 - q.1) true))) p
       | false=>none
      | d=>slK sz p d fun xs=>match m with
       | none=>(bnd2 l h xs.length).bind fun q=>K (some (.s (.v (.sl ((xs.drop q.1).take (q.2 - q.1)))))) p
       | some m=>(bnd3 l h (some m) xs.length).bind fun q=>K (some (.s (.full ((xs.drop q.1).take (q.2 - q.1))))) p
     | none=>none
    | none=>none
   | none=>none
  | none=>none
 | .sla n sz x l h m=>match evH gl p x with
  | some d=>match evVO gl p l with
   | some l=>match evVO gl p h with
    | some h=>match evVO gl p m with
     | some m=>slaK p n sz l h m d fun d=>K (some d) p
     | none=>none
    | none=>none
   | none=>none
  | none=>none
 | .sls x l h=>match evV gl p x with
  | some x=>match evVO gl p l with
   | some l=>match evVO gl p h with
    | some h=>(slsV x l h).bind fun d=>K (some (.s (.v d))) p
    | none=>none
   | none=>none
  | none=>none
 | .fad off x=>match evH gl p x with
  | some (.s (.ptr k o))=>K (some (.s (.ptr k (o+off)))) p
  | some (.s (.ptrA k sz i o))=>K (some (.s (.ptrA k sz i (o+off)))) p
  | some (.s (.el cs))=>K (some (.s (.el (cs.drop off)))) p
  | some (.s (.elx sz x o))=>K (some (.s (.elx sz x (o+off)))) p
  | _=>none
 | .fld ag off sz x=>match evH gl p x with
  | some (.s (.v x))=>match ag with
   | true=>(subA x off sz).bind fun d=>K (some (.s (.v d))) p
   | false=>(fldA x off).bind fun d=>K (some (.s (.v d))) p
  | some (.agg ps)=>match ag with
   | true=>match Nat.ble (off+sz) ps.length with | true=>K (some (mkAgg ((ps.drop off).take sz))) p | false=>none
   | false=>match ps[off]? with | some q=>K (some (.s q)) p | none=>none
  | _=>none
 | .iad sz x i=>match evH gl p x with
  | some d=>match evV gl p i with
   | some i=>match d with
    | .s (.ref k sz' off n _ _)=>match Nat.beq sz' sz && Nat.blt 0 sz with
     | true=>(idxV i n).bind fun i=>K (some (.s (.ptrA k sz (off+i) 0))) p
     | false=>none
    | d=>slK sz p d fun xs=>(idxV i xs.length).bind fun i=>(xs[i]?).bind fun e=>K (some (.s (.elx sz e 0))) p
   | none=>none
  | none=>none
 | .iaa n sz x i=>match evH gl p x with
  | some d=>match evV gl p i with
   | some i=>(idxV i n).bind fun i=>match d with
    | .s (.ptr k o)=>match rowR p k with
     | some (.arr _ sz' xs)=>match Nat.beq o 0 && Nat.beq sz sz' with
      | true=>tst (Nat.blt i xs.length) (K (some (.s (.ptrA k sz i 0))) p)
      | false=>none
     | _=>K (some (.s (.ptr k (o+i * sz)))) p
    | .s (.el cs)=>K (some (.s (.el (cs.drop (i * sz))))) p
    | _=>none
   | none=>none
  | none=>none
 | .ixa ag n sz x i=>match evV gl p x with
  | some x=>match evV gl p i with | some i=>(ixaV ag n sz x i).bind fun d=>K (some (.s (.v d))) p | none=>none
  | none=>none
 | .ixs x i=>match evV gl p x with
  | some x=>match evV gl p i with | some i=>(ixsV x i).bind fun d=>K (some (.s (.v d))) p | none=>none
  | none=>none
 | .ext x i=>match evV gl p x with | some x=>(extV x i).bind fun d=>K (some (.s (.v d))) p | none=>none
 | .len x=>match evH gl p x with
  | some (.s (.v x))=>(lenV x).bind fun n=>K (some (.s (.v (.int .i64 n)))) p
  | some (.s (.own _ _ xs))=>K (some (.s (.v (.int .i64 xs.length)))) p
  | some (.s (.full xs))=>K (some (.s (.v (.int .i64 xs.length)))) p
  | some (.s (.ref _ _ _ n _ _))=>K (some (.s (.v (.int .i64 n)))) p
  | _=>none
 | .lns x=>match evV gl p x with | some x=>(lnsV x).bind fun n=>K (some (.s (.v (.int .i64 n)))) p | none=>none
 | .cap x=>match evH gl p x with
  | some (.s (.full xs))=>K (some (.s (.v (.int .i64 xs.length)))) p
  | some (.s (.ref _ _ _ _ c _))=>K (some (.s (.v (.int .i64 c)))) p
  | _=>none
 | .app sz bytes s x=>match evH gl p s with
  | some s=>match evH gl p x with
   | some d=>srcK sz p d fun ys=>appK p sz bytes s ys fun d p'=>K (some d) p'
   | none=>none
  | none=>none
 | .apz z bytes s x=>match zeroL z with
  | some l=>match evH gl p s with
   | some s=>match evV gl p x with
    | some x=>(apzV bytes x).bind fun m=>appK p l.length bytes s (List.replicate m (mkEl l)) fun d p'=>K (some d) p'
    | none=>none
   | none=>none
  | none=>none
 | .cpy sz d s=>match evH gl p d with
  | some d=>match evH gl p s with
   | some s=>srcK sz p s fun ys=>match d with
    | .s (.ref k sz' off n _ _)=>match rowW p k with
     | some (.arr .no _ xs)=>match Nat.beq sz' sz with
      | true=>K (some (.s (.v (.int .i64 (Nat.min ys.length n:Nat))))) (p.setR k (.arr .no sz (setL xs off (ys.take (Nat.min ys.length n)))))
      | false=>none
     | _=>none
    | .s (.full [])=>K (some (.s (.v (.int .i64 0)))) p
    | _=>none
   | none=>none
  | none=>none
 | .min xs=>match evVL gl p xs with
  | some (x::r)=>(minV x r).bind fun d=>K (some (.s (.v d))) p
  | _=>none
 | .max xs=>match evVL gl p xs with
  | some (x::r)=>(maxV x r).bind fun d=>K (some (.s (.v d))) p
  | _=>none
 | .call f xs=>match evHL gl p xs with | some ds=>callK gl.md pc f ds p fun d p'=>K (some d) p' | none=>none
 | .callv g xs=>match evH gl p g with
  | some (.s (.fn f cap))=>match evHL gl p xs with | some ds=>callN pc f (ds++cap.map capD) p fun d p'=>K (some d) p' | none=>none
  | some (.s (.v x))=>match evHL gl p xs with
   | some ds=>(asFn x).bind fun q=>match q.2 with | []=>callN pc q.1 ds p fun d p'=>K (some d) p' | _=>none
   | none=>none
  | _=>none
 | .nbl t e=>K (some (.s (.ptr p.rows.length 0))) (p.newR (.bld t e []))
 | .rng x=>match evV gl p x with | some x=>(asStr x).bind fun s=>K (some (.s (.ptr p.rows.length 0))) (p.newR (.iter s 0)) | none=>none
 | .nxt x=>match evH gl p x with
  | some (.s (.ptr k 0))=>match rowW p k with
   | some (.iter s pos)=>if pos<s.length then
     K (some (.s (.v (.tup [.bool true,.int .i64 pos,.int .i32 (Utf8.decode ⟨s.toArray⟩ pos).1])))) (p.setR k (.iter s (pos+(Utf8.decode ⟨s.toArray⟩ pos).2)))
    else K (some (.s (.v (.tup [.bool false])))) p
   | _=>none
  | _=>none
 | _=>none
end
end Go.Ev
end
