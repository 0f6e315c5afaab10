/- The machines Ev and Pv, part 4: an abstract machine over the translated code, proved sound once. -/
import Derived.Test.YtfodpklkdecpkaaKEvC
set_option linter.all false
open Option renaming bind_eq_some_iff->zA,map_eq_some_iff->zB,map_some->zC,bind_some->zD,bind_assoc->zE
open Bool renaming false_eq_true->zF,and_eq_true->zG,true_eq_false->zX
open Nat renaming eq_of_beq_eq_true->zJ,lt_of_lt_of_le->zK,le_refl->zR,le_of_ble_eq_true->zT,mul_le_mul_right->zW
open List renaming getElem?_eq_getElem->zL,mem_cons_of_mem->zP,mem_cons->zS,drop_zero->zU
namespace Go.Ev
section
section
variable {ρ:Nat->Nat} {τ:Nat->Option Nat} {p:PSt} {st:St} {ρ':Type} {r:ρ'}
theorem rkOf_setR{p:PSt}{k:Nat}{c c':RowC}(hk:p.rows[k]?=some ⟨false,c⟩)(h1 : ∀ f s x,c ≠ .arr f s x)(h2 : ∀ f s x,c' ≠ .arr f s x):rkOf (p.setR k c').rows k=rkOf p.rows k:=by
 have hself:(p.setR k c').rows[k]?=some ⟨false,c'⟩:=by simp[PSt.setR,yb (getElem?_lt hk)]
 simp only[rkOf,hself,hk];cases c<;>cases c'<;>first | rfl | exact(h1 _ _ _ rfl).elim | exact(h2 _ _ _ rfl).elim
theorem rkOf_setA{p:PSt}{k:Nat}{f f':Fz}{sz:Nat}{xs ys:List V}(hk:p.rows[k]?=some ⟨false,.arr f sz xs⟩)(hl:ys.length=xs.length):rkOf (p.setR k (.arr f' sz ys)).rows k=rkOf p.rows k:=by
 have hself:(p.setR k (.arr f' sz ys)).rows[k]?=some ⟨false,.arr f' sz ys⟩:=by simp[PSt.setR,yb (getElem?_lt hk)]
 simp only[rkOf,hself,hk,hl]
def isApp:O->Bool
 | .app _ _ _ _ | .apz _ _ _ _=>true
 | _=>false
theorem popC{E:Env}{gl:Gl}{pc:PcT}(hg:GlR E gl)(hS:Sim ρ τ p st){o:O}(ho:isApp o=true){K:Option PD->PSt->Option ρ'}(h:popK gl pc p o K=some r) :
  ∃ d p',K d p'=some r /\ ∃ e st' ρ1 τ1,opD E st o=some (e,st')/\RO (cxOf ρ1 τ1 p' st') d e/\Goes ρ τ p st ρ1 τ1 p' st'/\st'.tm=st.tm /\ ∀ x0,SoftIn x0 τ p st->ρ1=ρ/\Soft x0 τ p st τ1 p' st':=by
 cases o<;>simp[isApp]at ho<;>simp only[popK]at h;case app sz bytes s x=>
  split at h<;>try contradiction
  next s hs=>
   obtain⟨e1,he1,hr1⟩:=evH_ok hg hS hs;split at h<;>try contradiction
   next d hd=>obtain⟨e2,he2,hr2⟩:=evH_ok hg hS hd;obtain⟨ys,h1,h2,ds,h3,h4⟩:=srcK_ok hS hr2 h;obtain⟨d,p',h1,e',st',ρ1,τ1,h6,h7,h8,h9,h10⟩:=appK_ok hS hr1 h2 h4 h1;refine⟨_,_,h1,some e',st',ρ1,τ1,?_,h7,h8,h9,h10⟩;simp[opD,he1,he2,h3,allOne_flat h2 h4,h6]
 case apz z bytes s x=>
  split at h<;>try contradiction
  split at h<;>try contradiction
  split at h<;>try contradiction
  next l hl _ s hs _ x hx=>
   rw[zA]at h;obtain⟨m,hm,h⟩:=h;obtain⟨hzl,hzo,hone,hz,hel⟩:=zeroL_ok hl;obtain⟨e1,he1,hr1⟩:=evH_ok hg hS hs;obtain⟨e2,he2,hr2⟩:=evV_ok hg hS hx;have hzlen:z.length=l.length:=by have:=congrArg List.length hzl;rw[cl0L_len,toDL_len]at this;exact this
   have hok:okN l.length (mkEl l)=true:=okN_mk (by rw[hel]) (by rw[hel];exact hone);unfold apzV at hm;split at hm<;>try contradiction
   split at hm<;>try contradiction
   next n hcond=>injection hm with hm;subst hm;obtain⟨d,p',h1,e',st',ρ1,τ1,h6,h7,h8,h9,h10⟩:=appK_ok hS hr1 (szOk_rep hok) (rep_flat hzl hel _) h;refine⟨_,_,h1,some e',st',ρ1,τ1,?_,h7,h8,h9,h10⟩;rw[List.length_replicate,<- hzlen]at h6;simp only[opD,he1,he2,cl0_int hr2,zD];rw[zb ⟨hcond.1,hcond.2.1,hcond.2.2,hzo⟩,h6];rfl
theorem allU8_ok : ∀ {z:List D},allU8 z=true->cl0L z=flatD (List.replicate z.length (.int .u8 0))/\szOk 1 (List.replicate z.length (.int .u8 0))=true
 | [],_=>⟨rfl,rfl⟩
 | d::r,h=>by
  unfold allU8 at h;split at h
  ·obtain⟨h1,h2⟩:=allU8_ok h;refine⟨?_,?_⟩
   ·simp only[cl0L,D.cl0,zm,List.replicate_succ,flatD,V.toD,D.cells,h1];rfl
   ·simp only[zm,List.replicate_succ,szOk,h2];rfl
  ·contradiction
theorem bytesZ_ok{z:List D}{n:Nat}(h:bytesZ z=some n):cl0L z=flatD (List.replicate n (.int .u8 0))/\szOk 1 (List.replicate n (.int .u8 0))=true:=by
 unfold bytesZ at h;split at h<;>try contradiction
 next h1=>
  split at h<;>try contradiction
  injection h with h;subst h;exact allU8_ok h1
theorem popB{E:Env}{gl:Gl}{pc:PcT}(hg:GlR E gl)(hS:Sim ρ τ p st){o:O}(hc1 : ∀ f xs,o ≠ .call f xs)(hc2 : ∀ f xs,o ≠ .callv f xs){K:Option PD->PSt->Option ρ'}(h:popK gl pc p o K=some r) :
  ∃ d p',K d p'=some r /\ ∃ e st' ρ1 τ1,opD E st o=some (e,st')/\RO (cxOf ρ1 τ1 p' st') d e/\Goes ρ τ p st ρ1 τ1 p' st'/\st'.tm=st.tm:=by
 by_cases hq:quiet o=true
 ·obtain⟨d,h1,e,h2,h3⟩:=popA hg hS hq h;exact⟨some d,p,h1,some e,st,ρ,τ,h2,h3,.refl hS,rfl⟩
 cases o<;>simp[quiet]at hq<;>simp only[popK]at h<;>try contradiction
 case alloc z=>
  split at h
  ·next n hn=>
   obtain⟨h2,h3⟩:=bytesZ_ok hn;obtain⟨hgo,hlen⟩:=newR_goes (o := .row z false) (c := .arr .no 1 (List.replicate n (.int .u8 0))) hS ⟨z,false,rfl,rfl,h2,h3⟩;refine⟨_,_,h,some (.ptr st.nx 0),_,_,_,rfl,?_,hgo,rfl⟩;refine⟨by show p.rows.length<(p.newR _).rows.length;rw[hlen];omega,?_⟩;show D.ptr st.nx 0 = .ptr (if p.rows.length=p.rows.length then st.nx else _) 0;rw[zb rfl]
  split at h<;>try contradiction
  split at h<;>try contradiction
  next l hl _ h1=>obtain⟨hgo,hlen⟩:=newR_goes (o := .row z false) (c := .cells l) hS ⟨z,rfl,constL_ok hl,constL_one hl h1⟩;refine⟨_,_,h,some (.ptr st.nx 0),_,_,_,rfl,?_,hgo,rfl⟩;refine⟨by show p.rows.length<(p.newR _).rows.length;rw[hlen];omega,?_⟩;show D.ptr st.nx 0 = .ptr (if p.rows.length=p.rows.length then st.nx else _) 0;rw[zb rfl]
 case store sz a v=>
  split at h<;>try contradiction
  split at h<;>try contradiction
  next d hd _ v hv=>obtain⟨e,he,hr⟩:=evH_ok hg hS hd;obtain⟨e2,he2,hr2⟩:=evH_ok hg hS hv;obtain⟨p',h1,k,off,st',rfl,h2,h3,h4,h5⟩:=storeK_ok hS hr hr2 h;have hst:st'.tm=st.tm:=(Fq.storeD h3).tm;exact⟨none,p',h1,none,st',ρ,τ,by simp[opD,he,he2,h2,h3],trivial,h4,hst⟩
 case mks z bytes n c=>
  split at h<;>try contradiction
  split at h<;>try contradiction
  split at h<;>try contradiction
  next l hl _ n hn _ c hc=>
   rw[zA]at h;obtain⟨q,hq,h⟩:=h;obtain⟨hzl,hzo,hone,hz,hel⟩:=zeroL_ok hl;obtain⟨e1,he1,hr1⟩:=evV_ok hg hS hn;obtain⟨e2,he2,hr2⟩:=evV_ok hg hS hc;unfold mksV at hq;split at hq<;>try contradiction
   next _ _ n c=>
    split at hq<;>try contradiction
    next hcond=>
     injection hq with hq;subst hq;have hzlen:z.length=l.length:=by have:=congrArg List.length hzl;rw[cl0L_len,toDL_len]at this;exact this
     have hok:okN l.length (mkEl l)=true:=okN_mk (by rw[hel]) (by rw[hel];exact hone);obtain⟨hgo,hlen⟩:=newR_goes (o := .row (rep c.toNat z) false) (c := .arr .no l.length (List.replicate c.toNat (mkEl l))) hS ⟨_,_,rfl,rfl,rep_flat hzl hel _,szOk_rep hok⟩;refine⟨_,_,h,some (.ref st.nx 0 n.toNat c.toNat z.length),_,_,_,?_,?_,hgo,rfl⟩
     ·simp only[opD,he1,he2,cl0_int hr1,cl0_int hr2];rw[zb ⟨hcond.1,hcond.2.1,hcond.2.2.1,hcond.2.2.2,hzo,by omega⟩]
     ·refine⟨by show p.rows.length<(p.newR _).rows.length;rw[hlen];omega,by simp only;unfold rcap;omega,.inl ⟨?_,.inl rfl⟩,fun s len hs => ?_⟩
      ·show D.ref st.nx 0 _ _ _ = .ref (if p.rows.length=p.rows.length then st.nx else _) _ _ _ _;rw[zb rfl,Nat.zero_mul,hzlen]
      ·have hs:rkOf (p.newR (.arr .no l.length (List.replicate c.toNat (mkEl l)))).rows p.rows.length=some (s,len):=hs;simp[rkOf,PSt.newR]at hs;obtain⟨rfl,rfl⟩:=hs;exact⟨rfl,by simp only;omega⟩
 case apr sz bytes x=>
  split at h<;>try contradiction
  next d hd=>
   obtain⟨e,he,hr⟩:=evH_ok hg hS hd;obtain⟨ys,h1,h2,⟨ds,h3,h4⟩,_⟩:=slK_ok hS hr h;obtain⟨hcnd,h1⟩:=tst_some h1;simp only[zG,Nat.blt_eq,appOk,zH,zk]at hcnd;obtain⟨⟨hy0,hs0⟩,hb1,hb2⟩:=hcnd;have hl:ds.length=ys.length*sz:=by have:=congrArg List.length h4;rw[cl0L_len,flatD_len h2]at this;exact this
   obtain⟨hgo,hlen⟩:=newR_goes (o := .row ds false) (c := .arr .no sz ys) hS ⟨_,_,rfl,rfl,h4,h2⟩;refine⟨_,_,h1,some (.ref st.nx 0 ys.length rcap sz),_,_,_,?_,?_,hgo,rfl⟩
   ·simp only[opD,he,zD,h3];rw[zb ⟨allOne_flat h2 h4,hy0,hs0,hl,hb1,hb2⟩]
   ·refine⟨by show p.rows.length<(p.newR _).rows.length;rw[hlen];omega,⟨rcap,⟨zR _,by unfold rcap;omega⟩,?_⟩,fun s len hs => ?_⟩
    ·show D.ref st.nx 0 _ _ _ = .ref (if p.rows.length=p.rows.length then st.nx else _) _ _ _ _;rw[zb rfl]
    ·have hs:rkOf (p.newR (.arr .no sz ys)).rows p.rows.length=some (s,len):=hs;simp[rkOf,PSt.newR]at hs;obtain⟨rfl,rfl⟩:=hs;exact⟨rfl,zR _⟩
 case app sz bytes s x=>
  split at h<;>try contradiction
  next s hs=>
   obtain⟨e1,he1,hr1⟩:=evH_ok hg hS hs;split at h<;>try contradiction
   next d hd=>obtain⟨e2,he2,hr2⟩:=evH_ok hg hS hd;obtain⟨ys,h1,h2,ds,h3,h4⟩:=srcK_ok hS hr2 h;obtain⟨d,p',h1,e',st',ρ1,τ1,h6,h7,h8,h9,h10⟩:=appK_ok hS hr1 h2 h4 h1;refine⟨_,_,h1,some e',st',ρ1,τ1,?_,h7,h8,h9⟩;simp[opD,he1,he2,h3,allOne_flat h2 h4,h6]
 case apz z bytes s x=>
  split at h<;>try contradiction
  split at h<;>try contradiction
  split at h<;>try contradiction
  next l hl _ s hs _ x hx=>
   rw[zA]at h;obtain⟨m,hm,h⟩:=h;obtain⟨hzl,hzo,hone,hz,hel⟩:=zeroL_ok hl;obtain⟨e1,he1,hr1⟩:=evH_ok hg hS hs;obtain⟨e2,he2,hr2⟩:=evV_ok hg hS hx;have hzlen:z.length=l.length:=by have:=congrArg List.length hzl;rw[cl0L_len,toDL_len]at this;exact this
   have hok:okN l.length (mkEl l)=true:=okN_mk (by rw[hel]) (by rw[hel];exact hone);unfold apzV at hm;split at hm<;>try contradiction
   split at hm<;>try contradiction
   next n hcond=>injection hm with hm;subst hm;obtain⟨d,p',h1,e',st',ρ1,τ1,h6,h7,h8,h9,h10⟩:=appK_ok hS hr1 (szOk_rep hok) (rep_flat hzl hel _) h;refine⟨_,_,h1,some e',st',ρ1,τ1,?_,h7,h8,h9⟩;rw[List.length_replicate,<- hzlen]at h6;simp only[opD,he1,he2,cl0_int hr2,zD];rw[zb ⟨hcond.1,hcond.2.1,hcond.2.2,hzo⟩,h6];rfl
 case cpy sz d s=>
  split at h<;>try contradiction
  split at h<;>try contradiction
  next d hd _ s hs=>
   obtain⟨e1,he1,hr1⟩:=evH_ok hg hS hd;obtain⟨e2,he2,hr2⟩:=evH_ok hg hS hs;obtain⟨ys,h1,h2,es,h3,h4⟩:=srcK_ok hS hr2 h;have hesl:es.length=ys.length*sz:=by have:=congrArg List.length h4;rw[cl0L_len,flatD_len h2]at this;exact this
   split at h1<;>try contradiction
   ·next k sz' off n c z=>
    split at h1<;>try contradiction
    split at h1<;>try contradiction
    next szr xs hw _ hsz=>
     have hsz:=zJ hsz;subst hsz;have hr':=rowW_some hw;obtain⟨o,ho,ds,b,rfl,hfz,hds,hszx⟩:=hS.rows k _ hr';rcases ho with ho | ho
     ·contradiction
     have hfz:b=false:=hfz;subst hfz;obtain⟨hk,hn,hdd,hrk⟩:=hr1;obtain⟨hs',hlen⟩:=hrk _ _ (rk_arr hr' rfl);subst hs';have hl:ds.length=xs.length*szr:=by have:=congrArg List.length hds;rw[cl0L_len,flatD_len hszx]at this;exact this
     have hmn:Nat.min ys.length n<=ys.length/\Nat.min ys.length n<=n:=⟨Nat.min_le_left _ _,Nat.min_le_right _ _⟩
     generalize hmm:Nat.min ys.length n=m at *;have hyl:(ys.take m).length=m:=by rw[zn];omega
     have hlx:off+(ys.take m).length<=xs.length:=by rw[hyl];omega
     have het:cl0L (es.take (m*szr))=flatD (ys.take m):=by rw[cl0L_take,h4,flatD_take h2]
     have hetl:(es.take (m*szr)).length=m*szr:=by rw[zn,hesl];exact Nat.min_eq_left (zW _ hmn.1)
     have hml:off*szr+m*szr<=ds.length:=by rw[hl,<- zy];exact zW _ (by omega)
     rcases hdd with⟨rfl,_⟩ | ⟨rfl,rfl,_⟩
     ·have hgo:=setR_goes hS (c' := .arr .no szr (setL xs off (ys.take m))) (o := .row (setAt ds (off*szr) (es.take (m*szr))) false) hr' (rkOf_setA hr' (setL_len hlx)) ⟨_,_,rfl,rfl,setAt_flat2 hszx (szOk_take h2 _) hds het _ hlx,szOk_setL hszx (szOk_take h2 _) _⟩;refine⟨_,_,h1,some (.int .i64 (m:Nat)),_,ρ,τ,?_,rfl,hgo,rfl⟩;have ho:st.mem ((cxOf ρ τ p st).ρ k)=some (.row ds false):=ho;simp only[opD,he1,he2,h3,zD,hmm];rw[zb ⟨trivial,by omega⟩];simp only[storeD,ho,hetl];rw[zb ⟨hml,allOne_take (allOne_flat h2 h4) _⟩];rfl
     ·have hm0:m=0:=by omega
      subst hm0;have hsame:setL xs off (ys.take 0)=xs:=by simp[setL,List.take_append_drop]
      rw[hsame]at h1;refine⟨_,_,h1,some (.int .i64 0),st,ρ,τ,?_,rfl,?_,rfl⟩
      ·simp only[opD,he1,he2,h3,zD]
      ·have:p.setR k (.arr .no szr xs)=p:=by
        have:p.rows.set k ⟨false,.arr .no szr xs⟩=p.rows:=by
         apply List.ext_getElem?;intro i;by_cases hi:i=k
         ·subst hi;rw[yb (getElem?_lt hr'),hr']
         ·rw[yc (fun e=>hi e.symm)]
        simp only[PSt.setR,this]
       rw[this];exact .refl hS
   ·obtain⟨ds,rfl,hds⟩:=hr1;have:ds=[]:=by
     cases ds with
     | nil=>rfl
     | cons a b=>simp[cl0L,flatD]at hds
    subst this;refine⟨_,_,h1,some (.int .i64 0),st,ρ,τ,?_,rfl,.refl hS,rfl⟩;simp only[opD,he1,he2,h3,zD,List.length_nil]
 case nbl t e=>obtain⟨hgo,hlen⟩:=newR_goes (o := .bld t e []) (c := .bld t e []) hS rfl;refine⟨_,_,h,some (.ptr st.nx 0),_,_,_,rfl,?_,hgo,rfl⟩;refine⟨by show p.rows.length<(p.newR _).rows.length;rw[hlen];omega,?_⟩;show D.ptr st.nx 0 = .ptr (if p.rows.length=p.rows.length then st.nx else _) 0;rw[zb rfl]
 case rng x=>
  split at h<;>try contradiction
  next x hx=>rw[zA]at h;obtain⟨s,hs,h⟩:=h;obtain⟨e1,he1,hr1⟩:=evV_ok hg hS hx;have:=asStr_ok hs hr1;subst this;obtain⟨hgo,hlen⟩:=newR_goes (o := .iter s 0) (c := .iter s 0) hS rfl;refine⟨_,_,h,some (.ptr st.nx 0),_,_,_,by simp[opD,he1],?_,hgo,rfl⟩;refine⟨by show p.rows.length<(p.newR _).rows.length;rw[hlen];omega,?_⟩;show D.ptr st.nx 0 = .ptr (if p.rows.length=p.rows.length then st.nx else _) 0;rw[zb rfl]
 case nxt x=>
  split at h<;>try contradiction
  next k hd=>
   split at h<;>try contradiction
   next s pos hw=>
    obtain⟨e1,he1,hr1⟩:=evH_ok hg hS hd;obtain⟨hk,rfl⟩:=hr1;have hr':=rowW_some hw;obtain⟨o,ho,rfl⟩:=hS.rows k _ hr';rcases ho with ho | ho
    ·contradiction
    have ho:st.mem ((cxOf ρ τ p st).ρ k)=some (.iter s pos):=ho;split at h
    ·next hlt=>
     have hgo:=setR_goes hS (c' := .iter s (pos+(Utf8.decode ⟨s.toArray⟩ pos).2)) (o := .iter s (pos+(Utf8.decode ⟨s.toArray⟩ pos).2)) hr' (rkOf_setR hr' (by simp) (by simp)) rfl;refine⟨_,_,h,some (.tup [.bool true,.int .i64 pos,.int .i32 (Utf8.decode ⟨s.toArray⟩ pos).1]),_,ρ,τ,?_,rfl,hgo,rfl⟩;simp only[opD,he1,ho];rw[zb hlt];rfl
    ·next hlt=>
     refine⟨_,_,h,some (.tup [.bool false]),st,ρ,τ,?_,rfl,.refl hS,rfl⟩;simp only[opD,he1,ho];rw[za hlt]
 case call f xs=>exact(hc1 f xs rfl).elim
 case callv f xs=>exact(hc2 f xs rfl).elim
theorem getF_put{tm tm':PTm}{t:Nat}{d:PD}(h:putP tm t d=some tm')(u:Nat):getF tm' u=(if u=t then some (false,d)else getF tm u)/\(∀ f e,getF tm t=some (f,e)->f=false):=by
 induction tm generalizing tm' with
 | nil=>
  simp only[putP,zh]at h;subst h;refine⟨?_,fun f e h=>by simp[getF]at h⟩;simp only[getF];by_cases e:u=t
  ·subst e;rw[Nat.beq_refl,zb rfl]
  ·rw[za e];have:t.beq u=false:=by
    cases hb:t.beq u with
    | false=>rfl
    | true=>exact(e (zJ hb).symm).elim
   rw[this]
 | cons a s ih=>
  obtain⟨i,f,e⟩:=a;have bne : ∀ {a b:Nat},a≠b->a.beq b=false:=by
   intro a b hab;cases hb:a.beq b with
   | false=>rfl
   | true=>exact(hab (zJ hb)).elim
  simp only[putP]at h;split at h
  ·next hi=>
   have hi:=zJ hi;subst hi;split at h<;>try contradiction
   injection h with h;subst h;refine⟨?_,fun f e h=>by simp only[getF,Nat.beq_refl,zh,zi]at h;exact h.1.symm⟩;by_cases hu:u=i
   ·subst hu;simp only[getF,Nat.beq_refl,zb]
   ·simp only[getF,bne (fun h=>hu h.symm),za hu]
  ·next hi=>
   have hi:i≠t:=fun e=>by subst e;rw[Nat.beq_refl]at hi;contradiction
   split at h<;>try contradiction
   next r' hr=>
    injection h with h;subst h;obtain⟨h1,h2⟩:=ih hr;refine⟨?_,?_⟩
    ·simp only[getF];by_cases hiu:i=u
     ·subst hiu;rw[Nat.beq_refl,za hi]
     ·rw[bne hiu];exact h1
    ·intro f' e' h;simp only[getF,bne hi]at h;exact h2 f' e' h
theorem getF_del{tm tm':PTm}{t:Nat}(h:delP tm t=some tm')(u:Nat):getF tm' u=(if u=t then none else getF tm u)/\(∀ f e,getF tm t=some (f,e)->f=false):=by
 induction tm generalizing tm' with
 | nil=>simp only[delP,zh]at h;subst h;refine⟨?_,fun f e h=>by simp[getF]at h⟩;simp[getF]
 | cons a s ih=>
  obtain⟨i,f,e⟩:=a;have bne : ∀ {a b:Nat},a≠b->a.beq b=false:=by
   intro a b hab;cases hb:a.beq b with
   | false=>rfl
   | true=>exact(hab (zJ hb)).elim
  simp only[delP]at h;split at h
  ·next hi=>
   have hi:=zJ hi;subst hi;split at h<;>try contradiction
   obtain⟨h1,h2⟩:=ih h;refine⟨?_,fun f e h=>by simp only[getF,Nat.beq_refl,zh,zi]at h;exact h.1.symm⟩;rw[h1];by_cases hu:u=i
   ·rw[zb hu,zb hu]
   ·simp only[getF,bne (fun h=>hu h.symm),za hu]
  ·next hi=>
   have hi:i≠t:=fun e=>by subst e;rw[Nat.beq_refl]at hi;contradiction
   split at h<;>try contradiction
   next r' hr=>
    injection h with h;subst h;obtain⟨h1,h2⟩:=ih hr;refine⟨?_,?_⟩
    ·simp only[getF];by_cases hiu:i=u
     ·subst hiu;rw[Nat.beq_refl,za hi]
     ·rw[bne hiu];exact h1
    ·intro f' e' h;simp only[getF,bne hi]at h;exact h2 f' e' h
theorem tm_goes(hS:Sim ρ τ p st){tm:PTm}{tm':Tm}(h1 : ∀ t f d,getF tm t=some (f,d) -> ∃ e,get tm' t=some e/\RP (cxOf ρ τ p st) d e)
  (h2 : ∀ t d,getF tm t=some (true,d)->getF p.tm t=some (true,d)/\get tm' t=get st.tm t):Goes ρ τ p st ρ τ { p with tm:=tm } { st with tm:=tm' } where
 sim:=⟨h1,hS.nx,hS.rows,hS.inj,hS.lin,hS.linj⟩
 nx:=zR _
 lo:=rfl
 len:=zR _
 ρs _ _:=rfl
 ρn k h1 h2:=absurd h2 (Nat.not_lt.2 h1)
 τn i l h := .inl ⟨i,h⟩
 wf hw:=⟨fun t d h=>hw.1 t d (h2 t d h).1,hw.2⟩
 ro _ _ _ h _:=h
 rof _ r' _ h hr:=⟨r',h,hr⟩
 rk _ _ := .inl rfl
 mem _ _ _:=rfl
 tip _ _ _:=rfl
 lw _ h _ _ _:=h
 flg _ t d h:=h2 t d h
theorem setP_goes(hS:Sim ρ τ p st){dst:Option Nat}{d:Option PD}{e:Option D}(hr:RO (cxOf ρ τ p st) d e){p':PSt}(h:setP p dst d=some p'):Goes ρ τ p st ρ τ p' (st.set dst e):=by
 unfold setP at h;split at h
 ·injection h with h;subst h;have:st.set none e=st:=by cases e<;>rfl
  rw[this];exact .refl hS
 ·next t=>
  split at h
  ·next d=>
   split at h<;>try contradiction
   next tm hp=>
    injection h with h;subst h;cases e with
    | none=>exact hr.elim
    | some e=>
     refine tm_goes hS (tm':=Ev.put st.tm t e) (fun u f d' hu => ?_) (fun u d' hu => ?_)
     ·rw[(getF_put hp u).1]at hu;rw[get_put];split at hu
      ·next h=>injection hu with hu;injection hu with h3 h4;subst h4;rw[zb h];exact⟨e,rfl,hr⟩
      ·next h=>rw[za h];exact hS.tm u f d' hu
     ·rw[(getF_put hp u).1]at hu;split at hu
      ·injection hu with hu;injection hu with h3 h4;contradiction
      ·next h=>exact⟨hu,by rw[get_put,za h]⟩
  ·split at h<;>try contradiction
   next tm hp=>
    injection h with h;subst h;cases e with
    | some e=>exact hr.elim
    | none=>
     refine tm_goes hS (tm':=Ev.del st.tm t) (fun u f d' hu => ?_) (fun u d' hu => ?_)
     ·rw[(getF_del hp u).1]at hu;rw[get_del];split at hu
      ·contradiction
      ·next h=>rw[za h];exact hS.tm u f d' hu
     ·rw[(getF_del hp u).1]at hu;split at hu
      ·contradiction
      ·next h=>exact⟨hu,by rw[get_del,za h]⟩
theorem has_B(l:List Nat)(t:Nat):hasB l t=has l t:=by
 induction l with
 | nil=>rfl
 | cons i r ih=>
  simp only[hasB,has];by_cases h:i=t
  ·subst h;rw[Nat.beq_refl,zb rfl]
  ·have:i.beq t=false:=by
    cases hb:i.beq t with
    | false=>rfl
    | true=>exact(h (zJ hb)).elim
   rw[this,za h];exact ih
theorem getF_kept(l:List Nat)(tm:PTm)(u:Nat):getF (keptP l tm) u=if has l u then getF tm u else none:=by
 induction tm with
 | nil=>simp[keptP,getF]
 | cons a s ih=>
  obtain⟨i,f,e⟩:=a;simp only[keptP,getF,has_B];cases h:has l i with
  | true=>
   simp only[getF];cases hb:i.beq u with
   | true=>have:=zJ hb;subst this;rw[h,zb rfl]
   | false=>exact ih
  | false=>
   simp only;rw[ih];cases hb:i.beq u with
   | true=>have:=zJ hb;subst this;rw[h];rfl
   | false=>rfl
theorem kept_goes(hS:Sim ρ τ p st)(l:List Nat):Goes ρ τ p st ρ τ { p with tm:=keptP l p.tm } { st with tm:=kept l st.tm }:=by
 refine tm_goes hS (fun u f d hu => ?_) (fun u d hu => ?_)
 ·rw[getF_kept]at hu;rw[get_kept];split at hu<;>try contradiction
  next h=>rw[zb h];exact hS.tm u f d hu
 ·rw[getF_kept]at hu;split at hu<;>try contradiction
  next h=>exact⟨hu,by rw[get_kept,zb h]⟩
end
end
section
def rowOf(m:Mem)(k:Nat):Option (List D):=match m k with | some (.row xs _)=>some xs | _=>none
mutual
theorem cl_row{m m':Mem}(h : ∀ k,rowOf m k=rowOf m' k) : ∀ d:D,d.cl m=d.cl m'
 | .und=>rfl
 | .off=>rfl
 | .bool _=>rfl
 | .int _ _=>rfl
 | .float _ _=>rfl
 | .str _=>rfl
 | .nilp=>rfl
 | .nilf=>rfl
 | .nili=>rfl
 | .sl g n xs=>by simp only[D.cl,clL_row h xs]
 | .ref k off n c sz=>by have:=h k;simp only[D.cl];unfold rowOf at this;split at this<;>split at this<;>simp_all
 | .ptr _ _=>rfl
 | .el _=>rfl
 | .agg xs=>by simp only[D.cl,clL_row h xs]
 | .tup xs=>by simp only[D.cl,clL_row h xs]
 | .fn _ _=>rfl
 | .iface t d=>by simp only[D.cl,cl_row h d]
theorem clL_row{m m':Mem}(h : ∀ k,rowOf m k=rowOf m' k) : ∀ l:List D,clL m l=clL m' l
 | []=>rfl
 | d::r=>by simp only[clL,cl_row h d,clL_row h r]
end
theorem rowOf_frz(st:St)(l:List Nat)(k:Nat):rowOf (frz st l).mem k=rowOf st.mem k:=by
 induction l generalizing st with
 | nil=>rfl
 | cons j r ih=>
  simp only[frz];split
  ·next xs b hj=>
   rw[ih];show rowOf (upd st.mem j _) k=_;unfold rowOf upd;by_cases e:k=j
   ·subst e;rw[zb rfl,hj]
   ·rw[za e]
  ·exact ih st
theorem frz_other(st:St)(l:List Nat)(b:Nat)(h:b ∉ l):(frz st l).mem b=st.mem b:=by
 induction l generalizing st with
 | nil=>rfl
 | cons k r ih=>
  have h1:b≠k:=fun e=>h (by rw[e];exact zz)
  have h2:b ∉ r:=fun hm=>h (zP _ hm)
  simp only[frz];split
  ·rw[ih _ h2];show upd st.mem k _ b=_;unfold upd;rw[za h1]
  ·exact ih _ h2
theorem frz_append(st:St)(a b:List Nat):frz st (a++b)=frz (frz st a) b:=by
 induction a generalizing st with
 | nil=>rfl
 | cons j r ih=>simp only[List.cons_append,frz];split<;>exact ih _
def RA(ρ:Nat->Nat)(np:Nat):PA->D->Prop
 | .v x,d=>d=x.toD
 | .p j off,d=>j<np/\d = .ptr (ρ j) off
 | .fn f cap,d => ∃ es,d = .fn f es/\RCL ρ np cap es
 | .o _ _,_=>False
 | .g,_=>False
 | .u,_=>False
def RAL(ρ:Nat->Nat)(np:Nat):List PA->List D->Prop
 | [],[]=>True
 | a::r,d::s=>RA ρ np a d/\RAL ρ np r s
 | _,_=>False
def RPar(n:Nat)(x:V)(o:Ob):Prop := ∃ cs,o = .row cs false/\cl0L cs=toDL x.parts/\okN n x=true/\(n=1->x.one=true)
structure CallGoes(ρ:Nat->Nat)(pars:List (Bool×Nat×V))(ys:List V)(st st1 st':St):Prop where
 tm:st'.tm=st.tm
 lo:st'.lo=st.lo
 nx:st.nx<=st'.nx
 mem : ∀ b,b<st.nx->(∀ (j:Nat) (e:Bool×Nat×V),pars[j]?=some e->ρ j=b->e.1=true)->st'.mem b=st1.mem b
 tip : ∀ l,l<st.nx->st'.tip l=st.tip l
 lw : ∀ m,m<=st1.lw->m<=st.nx->(∀ (j:Nat) (e:Bool×Nat×V),pars[j]?=some e->e.1=false->m<=ρ j)->m<=st'.lw
 par : ∀ (j:Nat) (e:Bool×Nat×V),pars[j]?=some e -> ∃ y o,ys[j]?=some y/\st'.mem (ρ j)=some o/\RPar e.2.1 y o
 still:(∀ (j:Nat) (e:Bool×Nat×V),pars[j]?=some e->e.1=true)->st'=st1
def PcN(E:Env)(pc:PcT):Prop := ∀ f as pars r,pc f as pars=some r -> ∀ (ρ:Nat->Nat) (st:St) (ds:List D),
 RAL ρ pars.length as (clL st.mem ds) ->
 (∀ (j:Nat) (e:Bool×Nat×V),pars[j]?=some e->ρ j<st.nx /\ ∃ o,(frz st (refsL ds)).mem (ρ j)=some o/\RPar e.2.1 e.2.2 o) ->
 (∀ i j,i<pars.length->j<pars.length->ρ i=ρ j->i=j) ->
 ∃ st',callL E f ds st=some (.ret r.1.toD,st')/\CallGoes ρ pars r.2 st (frz st (refsL ds)) st'
def TipOf(sz n:Nat)(st:St)(g:Tg):Prop:=g = .full \/ ∃ l,g = .ln l sz/\l<st.nx/\st.tip l=some n
structure RawGoes(sz:Nat)(g:Tg)(st st':St):Prop where
 tm:st'.tm=st.tm
 lo:st'.lo=st.lo
 nx:st.nx<=st'.nx
 mem : ∀ b,b<st.nx->st'.mem b=st.mem b
 tip : ∀ l,l<st.nx->g ≠ .ln l sz->st'.tip l=st.tip l
 lw : ∀ m,m<=st.lw->m<=st.nx->(∀ l,g = .ln l sz->m<=l)->m<=st'.lw
def PcGAt(E:Env)(pc:PcT)(f sz:Nat)(ds:List D):Prop := ∀ as q,pc f (.g::as) []=some q -> ∀ (ρ:Nat->Nat) (st:St),RAL ρ 0 as (clL st.mem ds) ->
 ∃ ys cs,q.1 = .sl ys/\cl0L cs=flatD ys/\szOk sz ys=true /\ ∃ g st',callL E f ds st=some (.ret (.sl g ys.length cs),st') /\
  (g = .full/\st'=frz st (refsL ds)\/g = .ln (frz st (refsL ds)).nx sz/\st'={ frz st (refsL ds)with tip:=upd (frz st (refsL ds)).tip (frz st (refsL ds)).nx ys.length,nx:=(frz st (refsL ds)).nx+1 })
def PcG(E:Env)(md:Nat->Md)(pc:PcT):Prop := ∀ f sz ds,md f = .gv sz->PcGAt E pc f sz ds
def PcW(E:Env)(md:Nat->Md)(pc:PcT):Prop := ∀ f sz ys xs q,md f = .raw sz->pc f (.o sz ys::xs.map PA.v) []=some q -> ∀ (st:St) (g:Tg) (cs es:List D),cl0L cs=flatD ys->szOk sz ys=true->TipOf sz ys.length st g->cl0L es=toDL xs ->
 ∃ d st',callL E f (.sl g ys.length cs::es) st=some (.ret d,st')/\d.cl0=q.1.toD/\RawGoes sz g st st'
def roomless:D->Bool
 | .sl .full _ _=>true
 | .ref _ _ n c _=>Nat.beq n c
 | _=>false
def PcF(E:Env)(md:Nat->Md)(pc:PcT):Prop := ∀ f as q,md f = .ful->pc f (.u::as) []=some q -> ∀ (ρ:Nat->Nat) (st:St) (d:D) (ds:List D),roomless d=true->RAL ρ 0 as (clL st.mem (d::ds)) ->
 callL E f (d::ds) st=some (.ret q.1.toD,frz st (refsL (d::ds)))
def PcH(E:Env)(md:Nat->Md)(pc:PcT):Prop := ∀ f sz d ds,md f = .gvf sz->roomless d=true->PcGAt E pc f sz (d::ds)
structure PcOk(E:Env)(md:Nat->Md)(pc:PcT):Prop where
 n:PcN E pc
 g:PcG E md pc
 w:PcW E md pc
 f:PcF E md pc
 h:PcH E md pc
 e : ∀ f e,md f = .eff e->E.ext f=some (.eff e)
section
variable {ρ:Nat->Nat} {τ:Nat->Option Nat} {p:PSt} {st:St} {ρ':Type} {r:ρ'}
theorem freeze_goes0(hS:Sim ρ τ p st){k sz off n c:Nat}{z:Bool}{e:D}(hk:k<p.rows.length)(hdd:e = .ref ((cxOf ρ τ p st).ρ k) (off*sz) n c sz/\(z=false\/0<c)\/c=0/\e = .sl .full 0 []/\z=true){p':PSt}(h:freeze p (k,z)=some p') :
  Goes ρ τ p st ρ τ p' (frz st e.refs)/\Le (cxOf ρ τ p st) (cxOf ρ τ p' (frz st e.refs))/\p'.tm=p.tm/\p'.rows.length=p.rows.length/\(∀ (j:Nat) (r':Row),p'.rows[j]?=some r'->r'.c.isArr=false->p.rows[j]?=some r') /\
   (∀ (j:Nat) (r':Row),p.rows[j]?=some r'->r'.c.isArr=false->p'.rows[j]?=some r'):=by
 -- the row's turn
 have key : ∀ {f f':Fz} {b b':Bool} {s:Nat} {xs:List V} {ds:List D},p.rows[k]?=some ⟨false,.arr f s xs⟩->st.mem (ρ k)=some (.row ds b)->cl0L ds=flatD xs->szOk s xs=true->f'.ok b' ->
   Goes ρ τ p st ρ τ (p.setR k (.arr f' s xs)) (st.setOb (ρ k) (.row ds b'))/\Le (cxOf ρ τ p st) (cxOf ρ τ (p.setR k (.arr f' s xs)) (st.setOb (ρ k) (.row ds b'))):=by
  intro f f' b b' s xs ds hkk hm h1 h2 h3;have hrk2:=rkOf_setA (f':=f') hkk (ys:=xs) rfl;refine⟨setR_goes hS hkk hrk2 ⟨ds,b',rfl,h3,h1,h2⟩,fun _ _=>rfl,by simp[cxOf,PSt.setR],fun j _ => .inl ?_,fun i l h=>⟨h,rfl⟩,zR _⟩;by_cases e:j=k
  ·subst e;exact hrk2
  ·show rkOf (p.setR k _).rows j=rkOf p.rows j;simp only[rkOf,PSt.setR,yc (fun h=>e h.symm)]
 have other : ∀ {f f':Fz} {s:Nat} {xs:List V},p.rows[k]?=some ⟨false,.arr f s xs⟩->(∀ (j:Nat) (r':Row),(p.setR k (.arr f' s xs)).rows[j]?=some r'->r'.c.isArr=false->p.rows[j]?=some r') /\
   (∀ (j:Nat) (r':Row),p.rows[j]?=some r'->r'.c.isArr=false->(p.setR k (.arr f' s xs)).rows[j]?=some r'):=by
  intro f f' s xs hkk;refine⟨fun j r' hj hr' => ?_,fun j r' hj hr' => ?_⟩
  ·by_cases e:j=k
   ·subst e;simp[PSt.setR,yb hk]at hj;subst hj;simp[RowC.isArr]at hr'
   ·simpa[PSt.setR,yc (fun h=>e h.symm)]using hj
  ·by_cases e:j=k
   ·subst e;rw[hkk]at hj;injection hj with hj;subst hj;simp[RowC.isArr]at hr'
   ·simpa[PSt.setR,yc (fun h=>e h.symm)]using hj
 have lenS : ∀ c,(p.setR k c).rows.length=p.rows.length:=fun c=>by simp[PSt.setR]
 have frz1 : ∀ {ds b},st.mem (ρ k)=some (.row ds b)->frz st [ρ k]=st.setOb (ρ k) (.row ds true):=by intro ds b hm;simp only[frz,hm]
 have row : ∀ {rr:Row} {f:Fz} {s:Nat} {xs:List V},p.rows[k]?=some rr->rr.c = .arr f s xs -> ∃ ds b,st.mem (ρ k)=some (.row ds b)/\f.ok b/\cl0L ds=flatD xs/\szOk s xs=true:=by
  intro rr f s xs hkk hc;obtain⟨o,ho,h2⟩:=hS.rows k _ hkk;rw[hc]at h2;obtain⟨ds,b,rfl,h3,h4,h5⟩:=h2;rcases ho with ho | ho
  ·rw[hc]at ho;contradiction
  ·exact⟨ds,b,ho,h3,h4,h5⟩
 unfold freeze at h;split at h<;>try contradiction
 ·next ro s xs hkk=>
  injection h with h;subst h;obtain⟨ds,b,ho,h3,h4,h5⟩:=row hkk rfl;have h3:b=true:=h3;subst h3;rcases hdd with⟨rfl,_⟩ | ⟨_,rfl,_⟩
  ·-- it is held already: nothing turns but the mark of what has been touched
   have hmem : ∀ b,upd st.mem (ρ k) (.row ds true) b=st.mem b:=by
    intro b;unfold upd;split
    ·next e=>rw[e];exact ho.symm
    ·rfl
   have hst:frz st (D.refs (.ref ((cxOf ρ τ p st).ρ k) (off*sz) n c sz))={ st with lw:=if ρ k<st.lw then ρ k else st.lw }:=by show frz st [ρ k]=_;rw[frz1 ho];show({ st.touch (ρ k)with mem:=upd st.mem (ρ k) (.row ds true) }:St)=_;rw[funext hmem];rfl
   rw[hst];refine⟨⟨⟨hS.tm,hS.nx,hS.rows,hS.inj,hS.lin,hS.linj⟩,zR _,rfl,zR _,fun _ _=>rfl,fun j h1 h2=>absurd h2 (Nat.not_lt.2 h1),fun i l h => .inl ⟨i,h⟩,fun h=>h,fun _ _ _ h _=>h,fun _ r' _ h hr=>⟨r',h,hr⟩,fun _ _ => .inl rfl,fun _ _ _=>rfl,fun _ _ _=>rfl,fun m h1 _ h6 _ => ?_,fun _ t d h=>⟨h,rfl⟩⟩,⟨fun _ _=>rfl,zR _,fun _ _ => .inl rfl,fun i l h=>⟨h,rfl⟩,zR _⟩,rfl,rfl,fun _ _ h _=>h,fun _ _ h _=>h⟩;have:=h6 k _ hkk (.inr rfl);show m<=if ρ k<st.lw then ρ k else st.lw
   split<;>omega
  ·exact⟨.refl hS,⟨fun _ _=>rfl,zR _,fun _ _ => .inl rfl,fun i l h=>⟨h,rfl⟩,zR _⟩,rfl,rfl,fun _ _ h _=>h,fun _ _ h _=>h⟩
 ·next s xs hkk=>
  obtain⟨ds,b,ho,h3,h4,h5⟩:=row hkk rfl;cases z with
  | true=>
   injection h with h;subst h;rcases hdd with⟨rfl,_⟩ | ⟨_,rfl,_⟩
   ·have hst:frz st (D.refs (.ref ((cxOf ρ τ p st).ρ k) (off*sz) n c sz))=st.setOb (ρ k) (.row ds true):=frz1 ho;rw[hst];have hp:p.setR k (.arr .may s xs)=p:=by
     have:p.rows.set k ⟨false,.arr .may s xs⟩=p.rows:=by
      apply List.ext_getElem?;intro i;by_cases hi:i=k
      ·subst hi;rw[yb (getElem?_lt hkk),hkk]
      ·rw[yc (fun e=>hi e.symm)]
     simp only[PSt.setR,this]
    obtain⟨h6,h7⟩:=key (f' := .may) (b':=true) hkk ho h4 h5 trivial;rw[hp]at h6 h7;exact⟨h6,h7,rfl,rfl,fun _ _ h _=>h,fun _ _ h _=>h⟩
   ·exact⟨.refl hS,⟨fun _ _=>rfl,zR _,fun _ _ => .inl rfl,fun i l h=>⟨h,rfl⟩,zR _⟩,rfl,rfl,fun _ _ h _=>h,fun _ _ h _=>h⟩
  | false=>
   injection h with h;subst h;rcases hdd with⟨rfl,_⟩ | ⟨_,rfl,h8⟩
   ·have hst:frz st (D.refs (.ref ((cxOf ρ τ p st).ρ k) (off*sz) n c sz))=st.setOb (ρ k) (.row ds true):=frz1 ho;rw[hst];obtain⟨h6,h7⟩:=key (f' := .yes) (b':=true) hkk ho h4 h5 rfl;obtain⟨h9,h10⟩:=other (f' := .yes) hkk;exact⟨h6,h7,rfl,lenS _,h9,h10⟩
   ·contradiction
 ·next s xs hkk=>
  obtain⟨ds,b,ho,h3,h4,h5⟩:=row hkk rfl;cases z with
  | true=>
   injection h with h;subst h;obtain⟨h9,h10⟩:=other (f' := .may) hkk;rcases hdd with⟨rfl,_⟩ | ⟨_,rfl,_⟩
   ·have hst:frz st (D.refs (.ref ((cxOf ρ τ p st).ρ k) (off*sz) n c sz))=st.setOb (ρ k) (.row ds true):=frz1 ho;rw[hst];obtain⟨h6,h7⟩:=key (f' := .may) (b':=true) hkk ho h4 h5 trivial;exact⟨h6,h7,rfl,lenS _,h9,h10⟩
   ·obtain⟨h6,h7⟩:=key (f' := .may) (b':=b) hkk ho h4 h5 trivial;have hsame:st.setOb (ρ k) (.row ds b)={ st with lw:=if ρ k<st.lw then ρ k else st.lw }:=by
     show({ st.touch (ρ k)with mem:=upd st.mem (ρ k) (.row ds b) }:St)=_;have hmem : ∀ j,upd st.mem (ρ k) (.row ds b) j=st.mem j:=by
      intro j;unfold upd;split
      ·next e=>rw[e];exact ho.symm
      ·rfl
     rw[funext hmem];rfl
    rw[hsame]at h6 h7;refine⟨⟨⟨h6.sim.tm,h6.sim.nx,h6.sim.rows,h6.sim.inj,h6.sim.lin,h6.sim.linj⟩,h6.nx,h6.lo,h6.len,h6.ρs,h6.ρn,h6.τn,h6.wf,h6.ro,h6.rof,h6.rk,fun _ _ _=>rfl,fun _ _ _=>rfl,fun m h1 _ _ _=>h1,h6.flg⟩,⟨h7.ρ,h7.m,h7.rk,h7.τ,h7.ni⟩,rfl,lenS _,h9,h10⟩
  | false=>
   injection h with h;subst h;rcases hdd with⟨rfl,_⟩ | ⟨_,rfl,h8⟩
   ·have hst:frz st (D.refs (.ref ((cxOf ρ τ p st).ρ k) (off*sz) n c sz))=st.setOb (ρ k) (.row ds true):=frz1 ho;rw[hst];obtain⟨h6,h7⟩:=key (f' := .yes) (b':=true) hkk ho h4 h5 rfl;obtain⟨h9,h10⟩:=other (f' := .yes) hkk;exact⟨h6,h7,rfl,lenS _,h9,h10⟩
   ·contradiction
theorem freeze_goes(hS:Sim ρ τ p st){k sz off n c:Nat}{z:Bool}{e:D}(hr:RS (cxOf ρ τ p st) (.ref k sz off n c z) e){p':PSt}(h:freeze p (k,z)=some p') :
  Goes ρ τ p st ρ τ p' (frz st e.refs)/\Le (cxOf ρ τ p st) (cxOf ρ τ p' (frz st e.refs))/\p'.tm=p.tm/\p'.rows.length=p.rows.length/\(∀ (j:Nat) (r':Row),p'.rows[j]?=some r'->r'.c.isArr=false->p.rows[j]?=some r') /\
   (∀ (j:Nat) (r':Row),p.rows[j]?=some r'->r'.c.isArr=false->p'.rows[j]?=some r'):=freeze_goes0 hS hr.1 hr.2.2.1 h
theorem freeze_goesU(hS:Sim ρ τ p st){k sz n:Nat}{e:D}(hr:RS (cxOf ρ τ p st) (.uref k sz n) e){p':PSt}(h:freeze p (k,false)=some p') :
  Goes ρ τ p st ρ τ p' (frz st e.refs)/\Le (cxOf ρ τ p st) (cxOf ρ τ p' (frz st e.refs))/\p'.tm=p.tm/\p'.rows.length=p.rows.length/\(∀ (j:Nat) (r':Row),p'.rows[j]?=some r'->r'.c.isArr=false->p.rows[j]?=some r') /\
   (∀ (j:Nat) (r':Row),p.rows[j]?=some r'->r'.c.isArr=false->p'.rows[j]?=some r'):=by
 obtain⟨h1,⟨cp,_,h2⟩,_⟩:=hr;exact freeze_goes0 hS (off:=0) (n:=n) (sz:=sz) (c:=cp) h1 (.inl ⟨by rw[Nat.zero_mul];exact h2,.inl rfl⟩) h
theorem Le.refl(c:Cx):Le c c:=⟨fun _ _=>rfl,zR _,fun _ _ => .inl rfl,fun _ _ h=>⟨h,rfl⟩,zR _⟩
theorem Le.trans{a b c:Cx}(h:Le a b)(k:Le b c):Le a c where
 ρ j hj:=by rw[k.ρ j (zK hj h.m),h.ρ j hj]
 m:=zp h.m k.m
 rk j hj:=by
  rcases k.rk j (zK hj h.m)with e | e
  ·rw[e];exact h.rk j hj
  ·exact .inr e
 τ i l hi:=by obtain⟨h1,h2⟩:=h.τ i l hi;obtain⟨h3,h4⟩:=k.τ i l h1;exact⟨h3,h4.trans h2⟩
 ni:=zp h.ni k.ni
structure Held(ρ:Nat->Nat)(τ:Nat->Option Nat)(p:PSt)(st:St)(p':PSt)(st':St):Prop where
 goes:Goes ρ τ p st ρ τ p' st'
 le:Le (cxOf ρ τ p st) (cxOf ρ τ p' st')
 tm:p'.tm=p.tm
 len:p'.rows.length=p.rows.length
 to : ∀ (j:Nat) (r':Row),p'.rows[j]?=some r'->r'.c.isArr=false->p.rows[j]?=some r'
 fro : ∀ (j:Nat) (r':Row),p.rows[j]?=some r'->r'.c.isArr=false->p'.rows[j]?=some r'
 ni:p'.ni=p.ni
 big : ∀ b,st.nx<=b->st'.mem b=st.mem b
 nx:st'.nx=st.nx
theorem freeze_ni{p p':PSt}{kz:Nat×Bool}(h:freeze p kz=some p'):p'.ni=p.ni:=by
 unfold freeze at h;split at h<;>try contradiction
 ·injection h with h;subst h;rfl
 ·split at h<;>(injection h with h;subst h;rfl)
 ·split at h<;>(injection h with h;subst h;rfl)
theorem Held.refl(hS:Sim ρ τ p st):Held ρ τ p st p st:=⟨.refl hS,.refl _,rfl,rfl,fun _ _ h _=>h,fun _ _ h _=>h,rfl,fun _ _=>rfl,rfl⟩
theorem Held.trans{p1 p2:PSt}{st1 st2:St}(hw:Wf p)(h:Held ρ τ p st p1 st1)(k:Held ρ τ p1 st1 p2 st2):Held ρ τ p st p2 st2:=
 ⟨.trans hw h.goes k.goes,h.le.trans k.le,k.tm.trans h.tm,k.len.trans h.len,fun j r' h1 h2=>h.to j r' (k.to j r' h1 h2) h2,fun j r' h1 h2=>k.fro j r' (h.fro j r' h1 h2) h2,k.ni.trans h.ni,fun b hb=>(k.big b (by rw[h.nx];exact hb)).trans (h.big b hb),k.nx.trans h.nx⟩
theorem outS_ok(hS:Sim ρ τ p st){q:PS}{e:D}(hr:RS (cxOf ρ τ p st) q e){x:V}(h:q.outV p=some x):e.cl st.mem=x.toD:=by
 cases q;case ref k sz off n c z=>
  simp only[PS.outV]at h;split at h<;>try contradiction
  next fz szr xs hrr=>
   injection h with h;subst h;obtain⟨rr,hr1,hr2⟩:=rowR_some hrr;obtain⟨hk,hn,hdd,hrk⟩:=hr;have hn1:=hn.1;obtain⟨hs,hlen⟩:=hrk _ _ (rk_arr hr1 hr2);subst hs;obtain⟨o,ho,ds,b,rfl,hfz,hds,hsz⟩:=hS.row hrr (by simp);have ho:st.mem ((cxOf ρ τ p st).ρ k)=some (.row ds b):=ho;have hl:ds.length=xs.length*szr:=by have:=congrArg List.length hds;rw[cl0L_len,flatD_len hsz]at this;exact this
   have hll:((xs.drop off).take n).length=n:=by rw[zn,zo];omega
   rcases hdd with⟨rfl,_⟩ | ⟨rfl,rfl,_⟩
   ·have hm:(off+n)*szr<=xs.length*szr:=zW _ (by omega);rw[zy]at hm;simp only[D.cl,ho,V.toD,hll];rw[zb ⟨hn.1,by omega⟩,cl0L_take,cl0L_drop,hds,flatD_drop hsz,flatD_take (szOk_drop hsz _)]
   ·have:n=0:=by omega
    subst this;simp[D.cl,clL,V.toD,flatD]
 case uref k sz n=>
  simp only[PS.outV]at h;split at h<;>try contradiction
  next fz szr xs hrr=>
   injection h with h;subst h;obtain⟨rr,hr1,hr2⟩:=rowR_some hrr;obtain⟨hk,⟨cp,hcp,rfl⟩,hrk⟩:=hr;obtain⟨hs,hlen⟩:=hrk _ _ (rk_arr hr1 hr2);subst hs;obtain⟨o,ho,ds,b,rfl,hfz,hds,hsz⟩:=hS.row hrr (by simp);have ho:st.mem ((cxOf ρ τ p st).ρ k)=some (.row ds b):=ho;have hl:ds.length=xs.length*szr:=by have:=congrArg List.length hds;rw[cl0L_len,flatD_len hsz]at this;exact this
   have hll:(xs.take n).length=n:=by rw[zn];omega
   have hm:n*szr<=xs.length*szr:=zW _ hlen;simp only[D.cl,ho,V.toD,hll];rw[zb ⟨hcp.2,by omega⟩,zU,cl0L_take,hds,flatD_take hsz]
 all_goals exact(cl_of (PS.pure_ok hr h) _).1
theorem outL_ok(hS:Sim ρ τ p st){ps:List PS}{es:List D}(hr:RSL (cxOf ρ τ p st) ps es){l:List V}(h:outL p ps=some l):clL st.mem es=toDL l:=by
 induction ps generalizing es l with
 | nil=>cases es with
  | nil=>simp[outL]at h;subst h;rfl
  | cons d s=>exact hr.elim
 | cons q r ih=>cases es with
  | nil=>exact hr.elim
  | cons d s=>
   simp only[outL]at h;split at h<;>try contradiction
   split at h<;>try contradiction
   next x hx _ l' hl=>injection h with h;subst h;simp only[clL,toDL,outS_ok hS hr.1 hx,ih hr.2 hl]
theorem outV_ok(hS:Sim ρ τ p st){q:PD}{e:D}(hr:RP (cxOf ρ τ p st) q e){x:V}(h:q.outV p=some x):e.cl st.mem=x.toD:=by
 cases q with
 | s q=>exact outS_ok hS hr h
 | agg ps=>
  obtain⟨es,rfl,h1,_⟩:=hr;simp only[PD.outV]at h;split at h<;>try contradiction
  next l hl=>injection h with h;subst h;simp only[D.cl,V.toD,outL_ok hS h1 hl]
theorem freezeS_ok(hS:Sim ρ τ p st){q:PS}{e:D}(hr:RS (cxOf ρ τ p st) q e){x:V}(ho:q.outV p=some x){p':PSt}(h:freezeL p q.refs=some p'):Held ρ τ p st p' (frz st e.refs):=by
 cases q;case ref k sz off n c z=>
  simp only[PS.refs,freezeL]at h;split at h<;>try contradiction
  next p1 h1=>
   injection h with h;subst h;obtain⟨h2,h3,h4,h5,h6,h7⟩:=freeze_goes hS hr h1;refine⟨h2,h3,h4,h5,h6,h7,freeze_ni h1,fun b hb=>frz_other st _ b (fun hm => ?_),nx_frz _ _⟩;obtain⟨hk,hn,hdd,hrk⟩:=hr;rcases hdd with⟨rfl,_⟩ | ⟨_,rfl,_⟩
   ·simp only[D.refs,zS,List.not_mem_nil,or_false]at hm;have:=hS.nx k hk;subst hm;exact absurd this (Nat.not_lt.2 hb)
   ·simp[D.refs,refsL]at hm
 case uref k sz n=>
  simp only[PS.refs,freezeL]at h;split at h<;>try contradiction
  next p1 h1=>injection h with h;subst h;obtain⟨h2,h3,h4,h5,h6,h7⟩:=freeze_goesU hS hr h1;refine⟨h2,h3,h4,h5,h6,h7,freeze_ni h1,fun b hb=>frz_other st _ b (fun hm => ?_),nx_frz _ _⟩;obtain⟨hk,⟨cp,_,rfl⟩,_⟩:=hr;simp only[D.refs,zS,List.not_mem_nil,or_false]at hm;have:=hS.nx k hk;subst hm;exact absurd this (Nat.not_lt.2 hb)
 all_goals
  simp only[PS.refs,freezeL,zh]at h;subst h;have:=PS.pure_ok hr ho;rw[(cl_of this st.mem).2];exact .refl hS
theorem freezeL_append(p:PSt)(a b:List (Nat×Bool)):freezeL p (a++b)=(freezeL p a).bind fun p'=>freezeL p' b:=by
 induction a generalizing p with
 | nil=>rfl
 | cons k r ih=>
  simp only[List.cons_append,freezeL];split
  ·exact ih _
  ·rfl
def SameRows(p p':PSt):Prop := ∀ k:Nat,(∃ r r':Row,p.rows[k]?=some r/\p'.rows[k]?=some r'/\((∃ f f' s xs,r.c = .arr f s xs/\r'.c = .arr f' s xs)\/r=r'))\/p.rows[k]?=none/\p'.rows[k]?=none
theorem outS_held{p':PSt}(h:SameRows p p')(q:PS):q.outV p'=q.outV p:=by
 cases q;case ref k sz off n c z=>
  simp only[PS.outV,rowR];rcases h k with⟨r,r',h1,h2,⟨f,f',s,xs,h3,h4⟩ | h3⟩ | ⟨h1,h2⟩
  ·obtain⟨ro,c⟩:=r;obtain⟨ro',c'⟩:=r';simp only at h3 h4;subst h3;subst h4;simp only[h1,h2]
  ·subst h3;rw[h1,h2]
  ·rw[h1,h2]
 case uref k sz n=>
  simp only[PS.outV,rowR];rcases h k with⟨r,r',h1,h2,⟨f,f',s,xs,h3,h4⟩ | h3⟩ | ⟨h1,h2⟩
  ·obtain⟨ro,c⟩:=r;obtain⟨ro',c'⟩:=r';simp only at h3 h4;subst h3;subst h4;simp only[h1,h2]
  ·subst h3;rw[h1,h2]
  ·rw[h1,h2]
 all_goals rfl
theorem SameRows.refl(p:PSt):SameRows p p:=fun k=>by
 cases h:p.rows[k]? with
 | none=>exact .inr ⟨rfl,rfl⟩
 | some r=>exact .inl ⟨r,r,rfl,rfl,.inr rfl⟩
theorem freeze_same{p p':PSt}{kz:Nat×Bool}(h:freeze p kz=some p'):SameRows p p':=by
 intro j;have key : ∀ {f f':Fz} {s:Nat} {xs:List V},p.rows[kz.1]?=some ⟨false,.arr f s xs⟩->p'={ p with rows:=p.rows.set kz.1 ⟨false,.arr f' s xs⟩ } ->
   (∃ r r':Row,p.rows[j]?=some r/\p'.rows[j]?=some r'/\((∃ f f' s xs,r.c = .arr f s xs/\r'.c = .arr f' s xs)\/r=r'))\/p.rows[j]?=none/\p'.rows[j]?=none:=by
  intro f f' s xs hk he;subst he;by_cases e:j=kz.1
  ·subst e;exact .inl ⟨_,⟨false,.arr f' s xs⟩,hk,by simp[yb (getElem?_lt hk)],.inl ⟨f,f',s,xs,rfl,rfl⟩⟩
  ·simp only[yc (fun h=>e h.symm)];exact SameRows.refl p j
 unfold freeze at h;split at h<;>try contradiction
 ·injection h with h;subst h;exact SameRows.refl p j
 ·next hk=>
  split at h
  ·injection h with h;subst h;exact SameRows.refl p j
  ·injection h with h;exact key hk h.symm
 ·next hk=>
  split at h
  ·injection h with h;exact key hk h.symm
  ·injection h with h;exact key hk h.symm
theorem freezeL_same{p p':PSt}{l:List (Nat×Bool)}(h:freezeL p l=some p') : ∀ q:PS,q.outV p'=q.outV p:=by
 induction l generalizing p with
 | nil=>simp only[freezeL,zh]at h;subst h;intro q;rfl
 | cons k r ih=>
  simp only[freezeL]at h;split at h<;>try contradiction
  next p1 h1=>intro q;rw[ih h q,outS_held (freeze_same h1)]
theorem freezeSL_ok(hS:Sim ρ τ p st)(hw:Wf p){ps:List PS}{es:List D}(hr:RSL (cxOf ρ τ p st) ps es){l:List V}(ho:outL p ps=some l){p':PSt}(h:freezeL p (refsS ps)=some p'):Held ρ τ p st p' (frz st (refsL es)):=by
 induction ps generalizing es l p st with
 | nil=>cases es with
  | nil=>simp only[refsS,freezeL,zh]at h;subst h;exact .refl hS
  | cons d s=>exact hr.elim
 | cons q r ih=>cases es with
  | nil=>exact hr.elim
  | cons d s=>
   simp only[outL]at ho;split at ho<;>try contradiction
   split at ho<;>try contradiction
   next x hx _ l' hl=>
    simp only[refsS,freezeL_append,zA]at h;obtain⟨p1,h1,h2⟩:=h;have hh:=freezeS_ok hS hr.1 hx h1;have hl1:outL p1 r=some l':=by
     have hs:=freezeL_same h1;have : ∀ ps:List PS,outL p1 ps=outL p ps:=by
      intro ps;induction ps with
      | nil=>rfl
      | cons q r ih=>simp only[outL,hs,ih]
     rw[this];exact hl
    simp only[refsL,frz_append];exact hh.trans hw (ih hh.goes.sim (hh.goes.wf hw) (RSL.le hh.le hr.2) hl1 h2)
theorem freezeP_ok(hS:Sim ρ τ p st)(hw:Wf p){q:PD}{e:D}(hr:RP (cxOf ρ τ p st) q e){x:V}(ho:q.outV p=some x){p':PSt}(h:freezeL p q.refs=some p'):Held ρ τ p st p' (frz st e.refs):=by
 cases q with
 | s q=>exact freezeS_ok hS hr ho h
 | agg ps=>
  obtain⟨es,rfl,h1,_⟩:=hr;simp only[PD.outV]at ho;split at ho<;>try contradiction
  next l hl=>simp only[D.refs];exact freezeSL_ok hS hw h1 hl h
end
end
section
section
variable {ρ:Nat->Nat} {τ:Nat->Option Nat} {p:PSt} {st:St} {ρ':Type} {r:ρ'}
theorem place_ok(k:Nat)(ks:List Nat):(place k ks).2[(place k ks).1]?=some k/\(∃ e,(place k ks).2=ks++e)/\(ks.Nodup->(place k ks).2.Nodup) /\ ∀ j∈(place k ks).2,j∈ks\/j=k:=by
 unfold place;cases h:ks.findIdx? (fun j=>j.beq k)with
 | some j=>simp only;obtain⟨h1,h2,_⟩:=List.findIdx?_eq_some_iff_getElem.1 h;have h2:=zJ h2;exact⟨by rw[zL h1,h2],⟨[],by simp⟩,id,fun j hj => .inl hj⟩
 | none=>
  simp only;have h1:=List.findIdx?_eq_none_iff.1 h;refine⟨by simp,⟨[k],rfl⟩,fun hn => ?_,fun j hj => ?_⟩
  ·rw[List.nodup_append];refine⟨hn,by simp,?_⟩;intro a ha b hb;simp at hb;subst hb;intro e;subst e;have:=h1 a ha;rw[Nat.beq_refl]at this;contradiction
  ·simpa using hj
structure Ks(n:Nat)(ks ks':List Nat):Prop where
 ext : ∃ e,ks'=ks++e
 nd:ks.Nodup->ks'.Nodup
 lt:(∀ j∈ks,j<n) -> ∀ j∈ks',j<n
theorem Ks.refl(n:Nat)(ks:List Nat):Ks n ks ks:=⟨⟨[],by simp⟩,id,id⟩
theorem Ks.trans{n:Nat}{a b c:List Nat}(h:Ks n a b)(k:Ks n b c):Ks n a c:=by refine⟨?_,fun x=>k.nd (h.nd x),fun x=>k.lt (h.lt x)⟩;obtain⟨e,rfl⟩:=h.ext;obtain⟨f,rfl⟩:=k.ext;exact⟨e++f,by rw[zq]⟩
theorem place_Ks{n k:Nat}(hk:k<n)(ks:List Nat):Ks n ks (place k ks).2:=by
 obtain⟨_,h2,h3,h4⟩:=place_ok k ks;refine⟨h2,h3,fun h j hj => ?_⟩;rcases h4 j hj with h5 | h5
 ·exact h j h5
 ·rw[h5];exact hk
def at0(ρ:Nat->Nat)(ks:List Nat)(j:Nat):Nat:=ρ (ks.getD j 0)
theorem at0_ok{ρ:Nat->Nat}{ks e:List Nat}{j k:Nat}(h:ks[j]?=some k):at0 ρ (ks++e) j=ρ k/\j<(ks++e).length:=by have hj:=getElem?_lt h;refine⟨?_,by simp;omega⟩;unfold at0;rw[List.getD_eq_getElem?_getD,zt hj,h];rfl
theorem capA_ok{m:Nat}{ks:List Nat}{cap:List CP}{ds:List D}(h:RCL ρ m cap ds):Ks m ks (capA ks cap).2 /\ ∀ e,RCL (at0 ρ ((capA ks cap).2++e)) ((capA ks cap).2++e).length (capA ks cap).1 ds:=by
 induction cap generalizing ks ds with
 | nil=>cases ds with
  | nil=>exact⟨.refl _ _,fun e=>trivial⟩
  | cons d s=>exact h.elim
 | cons q r ih=>cases ds with
  | nil=>exact h.elim
  | cons d s=>
   cases q with
   | v x=>obtain⟨h1,h2⟩:=ih (ks:=ks) h.2;exact⟨h1,fun e=>⟨h.1,h2 e⟩⟩
   | p k off=>obtain⟨h1,h2⟩:=ih (ks:=(place k ks).2) h.2;refine⟨(place_Ks h.1.1 ks).trans h1,fun e=>⟨?_,h2 e⟩⟩;obtain⟨f,hf⟩:=h1.ext;simp only[capA];rw[hf,zq];obtain⟨h3,h4⟩:=at0_ok (ρ:=ρ) (e:=f++e) (place_ok k ks).1;exact⟨h4,by rw[h3];exact h.1.2⟩
theorem argA_ok(hS:Sim ρ τ p st)(hw:Wf p){ks:List Nat}{d:PD}{e:D}(hr:RP (cxOf ρ τ p st) d e){a:PA}{ks':List Nat}{p':PSt}(h:argA p ks d=some (a,ks',p')) :
  Ks p.rows.length ks ks'/\Held ρ τ p st p' (frz st e.refs) /\ ∀ f,RA (at0 ρ (ks'++f)) (ks'++f).length a (e.cl st.mem):=by
 unfold argA at h;split at h
 ·next k off=>
  injection h with h;simp only[zi]at h;obtain⟨rfl,rfl,rfl⟩:=h;obtain⟨hk,rfl⟩:=hr;refine⟨place_Ks hk ks,.refl hS,fun f => ?_⟩;obtain⟨h3,h4⟩:=at0_ok (ρ:=ρ) (e:=f) (place_ok k ks).1;exact⟨h4,by rw[h3];rfl⟩
 ·next f cap=>
  injection h with h;simp only[zi]at h;obtain⟨rfl,rfl,rfl⟩:=h;obtain⟨ds,rfl,h1⟩:=hr;obtain⟨h2,h3⟩:=capA_ok (ks:=ks) h1;exact⟨h2,.refl hS,fun g=>⟨ds,rfl,h3 g⟩⟩
 ·split at h<;>try contradiction
  split at h<;>try contradiction
  next x hx _ p1 hp=>injection h with h;simp only[zi]at h;obtain⟨rfl,rfl,rfl⟩:=h;exact⟨.refl _ _,freezeP_ok hS hw hr hx hp,fun g=>outV_ok hS hr hx⟩
theorem argsA_ok(hS:Sim ρ τ p st)(hw:Wf p){ks:List Nat}{ds:List PD}{es:List D}(hr:RPL (cxOf ρ τ p st) ds es){as:List PA}{ks':List Nat}{p':PSt}(h:argsA p ks ds=some (as,ks',p')) :
  Ks p.rows.length ks ks'/\Held ρ τ p st p' (frz st (refsL es)) /\ ∀ f,RAL (at0 ρ (ks'++f)) (ks'++f).length as (clL st.mem es):=by
 induction ds generalizing es as ks p st with
 | nil=>cases es with
  | nil=>simp only[argsA,zh,zi]at h;obtain⟨rfl,rfl,rfl⟩:=h;exact⟨.refl _ _,.refl hS,fun f=>trivial⟩
  | cons d s=>exact hr.elim
 | cons d r ih=>cases es with
  | nil=>exact hr.elim
  | cons e s=>
   simp only[argsA]at h;split at h<;>try contradiction
   next a ks1 p1 h1=>
    split at h<;>try contradiction
    next l ks2 p2 h2=>
     injection h with h;simp only[zi]at h;obtain⟨rfl,rfl,rfl⟩:=h;obtain⟨h3,h4,h5⟩:=argA_ok hS hw hr.1 h1;obtain⟨h6,h7,h8⟩:=ih h4.goes.sim (h4.goes.wf hw) (RPL.le h4.le hr.2) h2;rw[h4.len]at h6;refine⟨h3.trans h6,by simp only[refsL,frz_append];exact h4.trans hw h7,fun f=>⟨?_,?_⟩⟩
     ·obtain⟨g,hg⟩:=h6.ext;rw[hg,zq];exact h5 (g++f)
     ·have:=h8 f;rw[clL_row (fun k=>rowOf_frz st e.refs k)]at this;exact this
theorem rowV_ok{c:Cx}{rc:RowC}{o:Ob}(h:RW c rc o){n:Nat}{x:V}(k:rowV rc=some (n,x)):RPar n x o:=by
 unfold rowV at k;split at k<;>try contradiction
 ·split at k<;>try contradiction
  next hn=>injection k with k;simp only[zi]at k;obtain⟨rfl,rfl⟩:=k;obtain⟨ds,rfl,h1,h2⟩:=h;exact⟨ds,rfl,h1,h2,fun e=>by subst e;contradiction⟩
 ·split at k<;>try contradiction
  next ps _ l hl=>
   injection k with k;simp only[zi]at k;obtain⟨rfl,rfl⟩:=k;obtain⟨ds,rfl,h1,h2⟩:=h;have h3:=pureL_ok h1 hl;have h4:=allOneV_of h3 h2;have h5:=mkEl_parts h4;have h6:l.length=ps.length:=by rw[RSL_len h1,len_of h3]
   refine⟨ds,rfl,by rw[h5];exact h3,okN_mk (by rw[h5];exact h6) (by rw[h5];exact h4),fun e => ?_⟩
   match l,h4,h6 with
   | [x],h4,_=>simpa[mkEl,allOneV]using h4
   | [],_,h6=>simp at h6;omega
   | _::_::_,_,h6=>simp at h6;omega
theorem rowV_arr{rc:RowC}{n:Nat}{x:V}(k:rowV rc=some (n,x)):rc.isArr=false/\rc ≠ .dead:=by
 unfold rowV at k;split at k<;>try contradiction
 ·exact⟨rfl,by simp⟩
 ·exact⟨rfl,by simp⟩
theorem parC_ok{c:Cx}{n:Nat}{x:V}{o:Ob}(h:RPar n x o):RW c (parC n x) o:=by
 obtain⟨cs,rfl,h1,h2,h3⟩:=h;unfold parC;split
 ·next hn=>
  have hn:=zJ hn;have hx:=h3 hn;have hp:x.parts=[x]:=by cases x<;>first | rfl | simp[V.one]at hx
  rw[hp]at h1;refine⟨cs,rfl,?_,allOne_of h1 (by simp[allOneV,hx])⟩;have:=RSL_v (c:=c) h1;simpa using this
 ·exact⟨cs,rfl,h1,h2⟩
theorem parC_arr(n:Nat)(x:V):(parC n x).isArr=false/\(parC n x).hasOwn=false:=by unfold parC;split<;>exact⟨rfl,rfl⟩
theorem parsA_ok{ks:List Nat}{pars:List (Bool×Nat×V)}(h:parsA p ks=some pars):pars.length=ks.length /\ ∀ (j:Nat) (e:Bool×Nat×V),pars[j]?=some e -> ∃ k rw,ks[j]?=some k/\p.rows[k]?=some rw/\rw.ro=e.1/\rowV rw.c=some (e.2.1,e.2.2):=by
 induction ks generalizing pars with
 | nil=>simp only[parsA,zh]at h;subst h;exact⟨rfl,fun j e h=>by simp at h⟩
 | cons k r ih=>
  simp only[parsA]at h;split at h<;>try contradiction
  split at h<;>try contradiction
  split at h<;>try contradiction
  next ro c hk _ n x hx _ l hl=>
   injection h with h;subst h;obtain⟨h1,h2⟩:=ih hl;refine⟨by simp[h1],fun j e hj => ?_⟩;cases j with
   | zero=>simp at hj;subst hj;exact⟨k,⟨ro,c⟩,by simp,hk,rfl,hx⟩
   | succ j=>simpa using h2 j e (by simpa using hj)
theorem backK_ok{ys:List V}{j:Nat}{ks:List Nat}(hn:ks.Nodup){K:PSt->Option ρ'}(h:backK p ys j ks K=some r) :
  ∃ p',K p'=some r/\p'.tm=p.tm/\(p'.ni=p.ni/\p'.lim=p.lim)/\p'.rows.length=p.rows.length/\(∀ k,k ∉ ks->p'.rows[k]?=p.rows[k]?) /\
   ∀ (i k:Nat) (rw:Row),ks[i]?=some k->p.rows[k]?=some rw->(rw.ro=true->p'.rows[k]?=some rw)/\(rw.ro=false -> ∃ n x y,rowV rw.c=some (n,x)/\ys[j+i]?=some y/\p'.rows[k]?=some ⟨false,parC n y⟩):=by
 induction ks generalizing p j with
 | nil=>exact⟨p,h,rfl,⟨rfl,rfl⟩,rfl,fun _ _=>rfl,fun i k rw h=>by simp at h⟩
 | cons k0 ks ih=>
  rw[List.nodup_cons]at hn;simp only[backK]at h;split at h<;>try contradiction
  ·next c hk=>
   obtain⟨p',h1,h2,h3,h4,h5,h6⟩:=ih hn.2 h;refine⟨p',h1,h2,h3,h4,fun k hk'=>h5 k (fun hm=>hk' (zP _ hm)),fun i k rw hi hr => ?_⟩;cases i with
   | zero=>simp at hi;subst hi;rw[hk]at hr;injection hr with hr;subst hr;exact⟨fun _=>by rw[h5 k0 hn.1];exact hk,fun h=>by contradiction⟩
   | succ i=>have:=h6 i k rw (by simpa using hi) hr;rw[Nat.add_right_comm]at this;exact this
  ·next c hk=>
   split at h<;>try contradiction
   next n x hx=>
    rw[zA]at h;obtain⟨y,hy,h⟩:=h;obtain⟨p',h1,h2,h3,h4,h5,h6⟩:=ih hn.2 h;have hlen:(p.setR k0 (parC n y)).rows.length=p.rows.length:=by simp[PSt.setR]
    have hself:(p.setR k0 (parC n y)).rows[k0]?=some ⟨false,parC n y⟩:=by simp[PSt.setR,yb (getElem?_lt hk)]
    have hoth : ∀ k,k≠k0->(p.setR k0 (parC n y)).rows[k]?=p.rows[k]?:=fun k hk=>by simp[PSt.setR,yc (fun h=>hk h.symm)]
    refine⟨p',h1,h2,h3,by rw[h4,hlen],fun k hk' => ?_,fun i k rw hi hr => ?_⟩
    ·rw[h5 k (fun hm=>hk' (zP _ hm)),hoth k (fun e=>hk' (by rw[e];exact zz))]
    ·cases i with
     | zero=>simp at hi;subst hi;rw[hk]at hr;injection hr with hr;subst hr;exact⟨fun h=>by contradiction,fun _=>⟨n,x,y,hx,hy,by rw[h5 k0 hn.1];exact hself⟩⟩
     | succ i=>
      have hi:ks[i]?=some k:=by simpa using hi
      have hne:k≠k0:=fun e=>by subst e;exact hn.1 (List.mem_of_getElem? hi)
      have:=h6 i k rw hi (by rw[hoth k hne];exact hr);rw[Nat.add_right_comm]at this;exact this
theorem rkOf_none{rows:List Row}{k:Nat}{rw:Row}(h:rows[k]?=some rw)(ha:rw.c.isArr=false):rkOf rows k=none:=by obtain⟨ro,c⟩:=rw;unfold rkOf;rw[h];cases c<;>first | rfl | simp[RowC.isArr]at ha
theorem freeze_lim{p p':PSt}{kz:Nat×Bool}(h:freeze p kz=some p'):p'.lim=p.lim:=by
 unfold freeze at h;split at h<;>try contradiction
 ·injection h with h;subst h;rfl
 ·split at h<;>(injection h with h;subst h;rfl)
 ·split at h<;>(injection h with h;subst h;rfl)
theorem freezeL_lim{p p':PSt}{l:List (Nat×Bool)}(h:freezeL p l=some p'):p'.lim=p.lim:=by
 induction l generalizing p with
 | nil=>simp only[freezeL,zh]at h;rw[h]
 | cons k r ih=>
  simp only[freezeL]at h;split at h<;>try contradiction
  next p1 h1=>exact(ih h).trans (freeze_lim h1)
theorem argsA_lim{p:PSt}{ks:List Nat}{ds:List PD}{as:List PA}{ks':List Nat}{p':PSt}(h:argsA p ks ds=some (as,ks',p')):p'.lim=p.lim:=by
 induction ds generalizing as ks ks' p p' with
 | nil=>simp only[argsA,zh,zi]at h;rw[h.2.2]
 | cons d r ih=>
  simp only[argsA]at h;split at h<;>try contradiction
  next a ks1 p1 h1=>
   split at h<;>try contradiction
   next l ks2 p2 h2=>
    injection h with h;simp only[zi]at h;rw[<- h.2.2];refine(ih h2).trans ?_;unfold argA at h1;split at h1
    ·injection h1 with h1;simp only[zi]at h1;rw[h1.2.2]
    ·injection h1 with h1;simp only[zi]at h1;rw[h1.2.2]
    ·split at h1<;>try contradiction
     split at h1<;>try contradiction
     next hp=>injection h1 with h1;simp only[zi]at h1;obtain⟨_,_,rfl⟩:=h1;exact freezeL_lim hp
theorem callN_ok{E:Env}{pc:PcT}(hpc:PcN E pc)(hS:Sim ρ τ p st)(hw:Wf p){f:Nat}{ds:List PD}{es:List D}(hr:RPL (cxOf ρ τ p st) ds es){K:PD->PSt->Option ρ'}(h:callN pc f ds p K=some r) :
  ∃ d p',K d p'=some r /\ ∃ e st',callL E f es st=some (.ret e,st')/\RP (cxOf ρ τ p' st') d e/\Goes ρ τ p st ρ τ p' st'/\st'.tm=st.tm/\p'.tm=p.tm /\
   ((∀ (k:Nat) (rw:Row),p.rows[k]?=some rw->rw.ro=true)->p'.rows=p.rows/\p'.ni=p.ni/\st'.mem=st.mem/\st'.tip=st.tip/\st'.nx=st.nx)/\p'.lim=p.lim:=by
 unfold callN at h;split at h<;>try contradiction
 next as ks p1 h1=>
  split at h<;>try contradiction
  next pars h2=>
   rw[zA]at h;obtain⟨q,hq,h⟩:=h;obtain⟨h3,h4,h5⟩:=argsA_ok hS hw hr h1;have hnd:=h3.nd List.nodup_nil;have hlt:=h3.lt (fun j hj=>by simp at hj);obtain⟨h6,h7⟩:=parsA_ok h2;have hS1:=h4.goes.sim;have h8:=h5 [];rw[List.append_nil,<- h6]at h8;have hnx1:(frz st (refsL es)).nx=st.nx:=nx_frz _ _;have hat : ∀ j k,ks[j]?=some k->at0 ρ ks j=ρ k:=fun j k hj=>by
    have:=(at0_ok (ρ:=ρ) (e:=[]) hj).1
    rwa [List.append_nil]at this
   obtain⟨st',h9,h10⟩:=hpc f as pars q hq (at0 ρ ks) st es h8 (fun j e hj=>by
     obtain⟨k,rw',hk1,hk2,hk3,hk4⟩:=h7 j e hj;rw[hat j k hk1];obtain⟨o,ho1,ho2⟩:=hS1.rows k rw' hk2;refine⟨hS.nx k (hlt k (List.mem_of_getElem? hk1)),o,?_,rowV_ok ho2 hk4⟩;rcases ho1 with ho1 | ho1
     ·exact((rowV_arr hk4).2 ho1).elim
     ·exact ho1) (fun i j hi hj hij=>by
     rw[h6]at hi hj;obtain⟨a,ha⟩:=get_lt hi;obtain⟨b,hb⟩:=get_lt hj;rw[hat i a ha,hat j b hb]at hij;have:=hS.inj a b (hlt a (List.mem_of_getElem? ha)) (hlt b (List.mem_of_getElem? hb)) hij;subst this;exact(List.getElem?_inj hi hnd).1 (ha.trans hb.symm))
   obtain⟨p',h11,h12,⟨h13,h13'⟩,h14,h15,h16⟩:=backK_ok hnd h
   -- what is behind the call
   have hmem : ∀ b,b<st.nx->(∀ (k:Nat) (rw:Row),k∈ks->p1.rows[k]?=some rw->ρ k=b->rw.ro=true)->st'.mem b=(frz st (refsL es)).mem b:=by intro b hb hk;refine h10.mem b hb (fun j e hj hjb => ?_);obtain⟨k,rw',hk1,hk2,hk3,hk4⟩:=h7 j e hj;rw[hat j k hk1]at hjb;rw[<- hk3];exact hk k rw' (List.mem_of_getElem? hk1) hk2 hjb
   have hkidx : ∀ k,k∈ks -> ∃ (j:Nat) (e:Bool×Nat×V),ks[j]?=some k/\pars[j]?=some e:=by
    intro k hk;obtain⟨j,hj⟩:=List.getElem?_of_mem hk;have:j<pars.length:=by rw[h6];exact getElem?_lt hj
    exact⟨j,pars[j],hj,zL this⟩
   have hrow : ∀ (k:Nat) (rw':Row),p'.rows[k]?=some rw'->(∃ rw,p1.rows[k]?=some rw/\rw=rw'/\(k∈ks->rw.ro=true)) \/
     ∃ (j n:Nat) (x y:V) (o:Ob) (rw:Row),ks[j]?=some k/\p1.rows[k]?=some rw/\rw.ro=false/\rowV rw.c=some (n,x)/\rw'=⟨false,parC n y⟩/\st'.mem (ρ k)=some o/\RPar n y o:=by
    intro k rw' hk;by_cases hm:k∈ks
    ·obtain⟨j,e,hj,hje⟩:=hkidx k hm;obtain⟨k',rw,hk1,hk2,hk3,hk4⟩:=h7 j e hje;rw[hj]at hk1;injection hk1 with hk1;subst hk1;obtain⟨h17,h18⟩:=h16 j k rw hj hk2;cases hro:rw.ro with
     | true=>left;rw[h17 hro]at hk;injection hk with hk;exact⟨rw,hk2,hk,fun _=>hro⟩
     | false=>right;obtain⟨n,x,y,h19,h20,h21⟩:=h18 hro;obtain⟨y',o,h22,h23,h24⟩:=h10.par j e hje;rw[zk]at h20;rw[h20]at h22;injection h22 with h22;subst h22;rw[hk4]at h19;simp only[zh,zi]at h19;rw[h21]at hk;injection hk with hk;refine⟨j,n,x,y,o,rw,hj,hk2,hro,by rw[hk4,<- h19.1,<- h19.2],hk.symm,by rw[<- hat j k hj];exact h23,by rw[<- h19.1];exact h24⟩
    ·left;rw[h15 k hm]at hk;exact⟨rw',hk,rfl,fun h=>(hm h).elim⟩
   have hrk : ∀ k,rkOf p'.rows k=rkOf p1.rows k:=by
    intro k;cases hk:p'.rows[k]? with
    | none=>
     have:p1.rows[k]?=none:=by rw[List.getElem?_eq_none_iff]at hk ⊢;omega
     simp only[rkOf,hk,this]
    | some rw'=>
     rcases hrow k rw' hk with⟨rw,h17,rfl,_⟩ | ⟨j,n,x,y,o,rw,_,h18,_,h19,rfl,_,_⟩
     ·simp only[rkOf,hk,h17]
     ·rw[rkOf_none hk (parC_arr n y).1,rkOf_none h18 (rowV_arr h19).1]
   have htip : ∀ l,l<st.nx->st'.tip l=st.tip l:=h10.tip;have htip1:(frz st (refsL es)).tip=st.tip:=by
    have : ∀ (l:List Nat) (s:St),(frz s l).tip=s.tip:=by
     intro l;induction l with
     | nil=>intro s;rfl
     | cons k r ih=>intro s;simp only[frz];split<;>rw[ih];rfl
    exact this _ _
   have hle:Le (cxOf ρ τ p1 (frz st (refsL es))) (cxOf ρ τ p' st'):=
    ⟨fun _ _=>rfl,by simp[cxOf,h14],fun k _ => .inl (hrk k),fun i l hi=>⟨hi,by have hi:τ i=some l:=hi;show st'.tip l=(frz st (refsL es)).tip l;rw[htip l (hS.lin i l hi).2,htip1]⟩,by simp[cxOf,h13]⟩
   have hgo:Goes ρ τ p1 (frz st (refsL es)) ρ τ p' st':=by
    refine⟨⟨fun t f d ht => ?_,fun k hk => ?_,fun k rw' hk => ?_,fun a b ha hb => ?_,fun i l h => ?_,hS1.linj⟩,by rw[hnx1];exact h10.nx,?_,by omega,fun _ _=>rfl,fun k hk1 hk2=>by omega,fun i l h => .inl ⟨i,h⟩,fun hw=>⟨fun t d ht=>hw.1 t d (by rw[<- h12];exact ht),fun k rw' hk hro => ?_⟩,fun hw k rw hk hro => ?_,fun k rw' hkl hk hro => ?_,fun k _ => .inl (hrk k),fun b hb hb2 => ?_,fun l hl _ => ?_,fun m hm1 hm2 hm3 _ => ?_,fun _ t d ht=>⟨by rw[<- h12];exact ht,by rw[h10.tm,tm_frz]⟩⟩
    ·rw[h12]at ht;obtain⟨e,he1,he2⟩:=hS1.tm t f d ht;exact⟨e,by rw[h10.tm];rw[tm_frz]at he1;exact he1,RP.le hle he2⟩
    ·exact zK (hS.nx k (by have:=h4.len;omega)) h10.nx
    ·rcases hrow k rw' hk with⟨rw,h17,rfl,h18⟩ | ⟨j,n,x,y,o,rw,_,_,_,_,rfl,h19,h20⟩
     ·obtain⟨o,ho1,ho2⟩:=hS1.rows k rw h17;refine⟨o,?_,RW.le hle ho2⟩;rcases ho1 with ho1 | ho1
      ·exact .inl ho1
      ·right;have hkl:k<p.rows.length:=by rw[<- h4.len];exact getElem?_lt h17
       rw[hmem (ρ k) (hS.nx k hkl) ?_]
       ·exact ho1
       ·intro k2 rw2 hk2 hr2 he;have:=hS.inj k2 k (hlt k2 hk2) hkl he;subst this;rw[h17]at hr2;injection hr2 with hr2;subst hr2;exact h18 hk2
     ·exact⟨o,.inr h19,parC_ok h20⟩
    ·rw[h14]at ha hb;exact hS1.inj a b ha hb
    ·obtain⟨h17,h18⟩:=hS1.lin i l h;rw[hnx1]at h18;exact⟨by rw[h13];exact h17,zK h18 h10.nx⟩
    ·rw[h10.lo];exact(h4.goes.lo).symm
    ·rcases hrow k rw' hk with⟨rw,h17,rfl,_⟩ | ⟨j,n,x,y,o,rw,_,_,_,_,rfl,_,_⟩
     ·exact hw.2 k rw h17 hro
     ·exact(parC_arr n y).2
    ·by_cases hm:k∈ks
     ·obtain⟨j,e,hj,hje⟩:=hkidx k hm;exact(h16 j k rw hj hk).1 hro
     ·rw[h15 k hm];exact hk
    ·rcases hrow k rw' hk with⟨rw,h17,rfl,_⟩ | ⟨j,n,x,y,o,rw,_,_,_,_,rfl,_,_⟩
     ·exact⟨rw,h17,hro⟩
     ·contradiction
    ·rw[hnx1]at hb;exact hmem b hb (fun k rw _ hk he=>hb2 k rw hk he)
    ·rw[hnx1]at hl;rw[htip l hl,htip1]
    ·rw[hnx1]at hm2;refine h10.lw m hm1 hm2 (fun j e hj hje => ?_);obtain⟨k,rw',hk1,hk2,hk3,hk4⟩:=h7 j e hj;rw[hat j k hk1];exact hm3 k rw' hk2 (.inl (by rw[hk3];exact hje))
   refine⟨_,p',h11,_,st',h9,RV_toD q.1,h4.goes.trans hw hgo,h10.tm,by rw[h12,h4.tm],fun hall => ?_,h13'.trans (argsA_lim h1)⟩
   -- nothing turns where all rows are held
   have hall1 : ∀ (k:Nat) (rw:Row),p1.rows[k]?=some rw->rw.ro=true:=by
    intro k rw hk;have hk':k<p.rows.length:=by rw[<- h4.len];exact getElem?_lt hk
    obtain⟨r0,hr0⟩:=get_lt hk';have hro:=hall k r0 hr0;have:=h4.goes.ro hw k r0 hr0 hro;rw[hk]at this;injection this with this;subst this;exact hro
   have hst:st'=frz st (refsL es):=h10.still (fun j e hj=>by obtain⟨k,rw',hk1,hk2,hk3,hk4⟩:=h7 j e hj;rw[<- hk3];exact hall1 k rw' hk2);have hrows1:p1.rows=p.rows:=by
    apply List.ext_getElem?;intro k;cases hk:p.rows[k]? with
    | none=>rw[List.getElem?_eq_none_iff]at hk ⊢;have:=h4.len;omega
    | some r0=>exact h4.goes.ro hw k r0 hk (hall k r0 hk)
   have hrows2:p'.rows=p1.rows:=by
    apply List.ext_getElem?;intro k;cases hk:p1.rows[k]? with
    | none=>rw[List.getElem?_eq_none_iff]at hk ⊢;omega
    | some r0=>exact hgo.ro (h4.goes.wf hw) k r0 hk (hall1 k r0 hk)
   have hm:(frz st (refsL es)).mem=st.mem:=by
    funext b;rcases zj b st.nx with hb | hb
    ·exact h4.goes.mem b hb (fun k rw hk _=>hall k rw hk)
    ·exact h4.big b hb
   rw[hst];exact⟨by rw[hrows2,hrows1],by rw[h13,h4.ni],hm,htip1,hnx1⟩
theorem far_goes(hS:Sim ρ τ p st){id:Nat}{st':St}(htm:st'.tm=st.tm)(hmem : ∀ b,b<st.nx->st'.mem b=st.mem b)(hlo:st'.lo=st.lo)(hnx:st.nx<=st'.nx)
  (htip : ∀ j,j<st.nx->τ id≠some j->st'.tip j=st.tip j) (hlw : ∀ m,m<=st.lw->m<=st.nx->(∀ l,τ id=some l->m<=l)->m<=st'.lw):Goes ρ τ p st ρ τ (p.strip id) st':=by
 have hlen:(p.strip id).rows.length=p.rows.length:=stripR_len id p.rows;have hrof : ∀ (j:Nat) (r':Row),j<p.rows.length->(p.strip id).rows[j]?=some r'->r'.ro=true -> ∃ r:Row,p.rows[j]?=some r/\r.ro=true:=by intro j r' _ hj hr;simp only[PSt.strip,stripR_get,zB]at hj;obtain⟨r0,h1,rfl⟩:=hj;exact⟨r0,h1,hr⟩
 have hle:LeS id (cxOf ρ τ p st) (cxOf ρ τ (p.strip id) st'):=
  ⟨fun _ _=>rfl,by simp[cxOf,hlen],fun k _ => .inl (strip_rk id p.rows k),fun i j hi hj=>⟨hj,htip j (hS.lin i j hj).2 (fun e=>hi (hS.linj i id j hj e))⟩,zR _⟩
 refine⟨⟨fun t f d ht => ?_,fun j hj => ?_,fun j r hj => ?_,fun a b ha hb h => ?_,fun i j h => ?_,hS.linj⟩,hnx,hlo,by omega,fun _ _=>rfl,fun j h1 h2=>by omega,fun i j h => .inl ⟨i,h⟩,fun hw=>⟨fun t d ht => ?_,fun j r hj hr => ?_⟩,fun hw j r hj hr => ?_,hrof,fun j _ => .inl (strip_rk id p.rows j),fun b hb hr=>hmem b hb,fun j hj hn=>htip j hj (hn id),fun m h1 h2 h3 h4=>hlw m h1 h2 (fun l h=>h4 id l h),fun hw t d ht => ?_⟩
 ·simp only[PSt.strip,getF_strip,zB]at ht;obtain⟨⟨f',d'⟩,h1,h2⟩:=ht;simp only[zi]at h2;obtain⟨rfl,rfl⟩:=h2;obtain⟨e,h3,h4⟩:=hS.tm t f' d' h1;exact⟨e,by rw[htm];exact h3,RP.leS hle h4⟩
 ·rw[hlen]at hj;exact zK (hS.nx j hj) hnx
 ·have hjl:j<p.rows.length:=by rw[<- hlen];exact getElem?_lt hj
  simp only[PSt.strip,stripR_get,zB]at hj;obtain⟨r',h1,rfl⟩:=hj;obtain⟨o,h2,h3⟩:=hS.rows j r' h1;refine⟨o,?_,RW.leS hle h3⟩;rcases h2 with h2 | h2
  ·left;simp only[h2,RowC.strip]
  ·right;rw[hmem _ (hS.nx j hjl)];exact h2
 ·rw[hlen]at ha hb;exact hS.inj a b ha hb h
 ·obtain⟨h1,h2⟩:=hS.lin i j h;exact⟨h1,zK h2 hnx⟩
 ·simp only[PSt.strip,getF_strip,zB]at ht;obtain⟨⟨f',d'⟩,h1,h2⟩:=ht;simp only[zi]at h2;obtain⟨rfl,rfl⟩:=h2;rw[PD.strip_noOwn (hw.1 t d' h1)];exact hw.1 t d' h1
 ·simp only[PSt.strip,stripR_get,zB]at hj;obtain⟨r',h1,rfl⟩:=hj;have:=hw.2 j r' h1 hr;simp only;rw[RowC.strip_noOwn this];exact this
 ·simp only[PSt.strip,stripR_get,hj,zC,RowC.strip_noOwn (hw.2 j r hj hr)]
 ·simp only[PSt.strip,getF_strip,zB]at ht;obtain⟨⟨f',d'⟩,h1,h2⟩:=ht;simp only[zi]at h2;obtain⟨rfl,rfl⟩:=h2;rw[PD.strip_noOwn (hw.1 t d' h1)];exact⟨h1,by rw[htm]⟩
theorem ni_goes(hS:Sim ρ τ p st):Goes ρ τ p st ρ τ { p with ni:=p.ni+1 } st:=by
 have hle:Le (cxOf ρ τ p st) (cxOf ρ τ { p with ni:=p.ni+1 } st):=⟨fun _ _=>rfl,zR _,fun k _ => .inl rfl,fun i j h=>⟨h,rfl⟩,Nat.le_succ _⟩
 refine⟨⟨fun t f d ht => ?_,hS.nx,fun j r hj => ?_,hS.inj,fun i j h => ?_,hS.linj⟩,zR _,rfl,zR _,fun _ _=>rfl,fun j h1 h2=>absurd h2 (Nat.not_lt.2 h1),fun i j h => .inl ⟨i,h⟩,fun hw=>hw,fun _ _ _ h _=>h,fun _ r' _ h hr=>⟨r',h,hr⟩,fun _ _ => .inl rfl,fun b _ _=>rfl,fun j hj _=>rfl,fun m h1 _ _ _=>h1,fun _ t d h=>⟨h,rfl⟩⟩
 ·obtain⟨e,h1,h2⟩:=hS.tm t f d ht;exact⟨e,h1,RP.le hle h2⟩
 ·obtain⟨o,h1,h2⟩:=hS.rows j r hj;exact⟨o,h1,RW.le hle h2⟩
 ·obtain⟨h1,h2⟩:=hS.lin i j h;exact⟨Nat.lt_succ_of_lt h1,h2⟩
theorem callG_ok{E:Env}{pc:PcT}(hS:Sim ρ τ p st)(hw:Wf p){f sz:Nat}{ds:List PD}{es:List D}(hpc:PcGAt E pc f sz es)(hr:RPL (cxOf ρ τ p st) ds es){K:PD->PSt->Option ρ'}(h:callG pc sz f ds p K=some r) :
  ∃ d p',K d p'=some r /\ ∃ e st' τ1,callL E f es st=some (.ret e,st')/\RP (cxOf ρ τ1 p' st') d e/\Goes ρ τ p st ρ τ1 p' st'/\st'.tm=st.tm /\ ∀ x0,SoftIn x0 τ p st->Soft x0 τ p st τ1 p' st':=by
 unfold callG at h;split at h<;>try contradiction
 next as p1 h1=>
  rw[zA]at h;obtain⟨q,hq,h⟩:=h;rw[zA]at h;obtain⟨xs,hxs,h⟩:=h;obtain⟨h3,h4,h5⟩:=argsA_ok hS hw hr h1;have h6:=h5 [];obtain⟨ys,cs,hq1,hcs,hsz,g,st',hcall,hg⟩:=hpc as q hq _ st h6;have hxy:xs=ys:=by rw[hq1]at hxs;simp only[slV,zh]at hxs;exact hxs.symm
  subst hxy;have hm:AllRo p->p1.rows=p.rows/\(frz st (refsL es)).mem=st.mem:=by
   intro ha;refine⟨?_,?_⟩
   ·apply List.ext_getElem?;intro k;cases hk:p.rows[k]? with
    | none=>rw[List.getElem?_eq_none_iff]at hk ⊢;have:=h4.len;omega
    | some r0=>exact h4.goes.ro hw k r0 hk (ha k r0 hk)
   ·funext b;rcases zj b st.nx with hb | hb
    ·exact h4.goes.mem b hb (fun k rw hk _=>ha k rw hk)
    ·exact h4.big b hb
  have hnx:(frz st (refsL es)).nx=st.nx:=nx_frz _ _;have htp:(frz st (refsL es)).tip=st.tip:=by
   have : ∀ (l:List Nat) (s:St),(frz s l).tip=s.tip:=by
    intro l;induction l with
    | nil=>intro s;rfl
    | cons k r ih=>intro s;simp only[frz];split<;>rw[ih];rfl
   exact this _ _
  have hlm:p1.lim=p.lim:=argsA_lim h1;rcases hg with⟨rfl,rfl⟩ | ⟨rfl,rfl⟩
  ·exact⟨_,_,h,_,_,τ,hcall,⟨_,_,rfl,hcs,hsz,yd _,.inl rfl⟩,h4.goes.trans hw (ni_goes h4.goes.sim),tm_frz _ _,fun x0 hi=>⟨(hm hi.ro).1,hlm,by show p.ni<=p1.ni+1;rw[h4.ni];omega,(hm hi.ro).2,fun _ _=>rfl,hi.hi,fun l _=>by rw[htp]⟩⟩
  ·refine⟨_,_,h,_,_,fun i=>if i=p1.ni then some (frz st (refsL es)).nx else τ i,hcall,⟨_,_,rfl,hcs,hsz,yd _,.inr ⟨_,rfl,?_,?_⟩⟩,h4.goes.trans hw (strip_none h4.goes.sim rfl rfl rfl (Nat.le_succ _) (yd _) (zR _) (fun j hj => ?_) rfl),tm_frz _ _,fun x0 hi=>⟨(hm hi.ro).1,hlm,by show p.ni<=p1.ni+1;rw[h4.ni];omega,(hm hi.ro).2,fun i h => ?_,fun i l h1 h2 => ?_,fun l hl => ?_⟩⟩
   ·show(if p1.ni=p1.ni then some (frz st (refsL es)).nx else τ p1.ni)=_;rw[zb rfl]
   ·show upd _ _ _ _=_;unfold upd;rw[zb rfl]
   ·show upd _ _ _ j=_;unfold upd;rw[za hj]
   ·have:=hi.lim;have:=h4.ni;show(if i=p1.ni then _ else _)=_;rw[za (by omega)]
   ·have h2:(if i=p1.ni then some (frz st (refsL es)).nx else τ i)=some l:=h2;split at h2
    ·injection h2 with h2;have:=hi.nx;omega
    ·exact hi.hi i l h1 h2
   ·have:=hi.nx;show upd (frz st (refsL es)).tip (frz st (refsL es)).nx _ l=_;unfold upd;rw[za (by omega),htp]
theorem valsP_ok{c:Cx}{ds:List PD}{es:List D}(hr:RPL c ds es){xs:List V}(h:valsP ds=some xs):cl0L es=toDL xs:=by
 induction ds generalizing es xs with
 | nil=>cases es with
  | nil=>simp[valsP]at h;subst h;rfl
  | cons _ _=>exact hr.elim
 | cons d s ih=>cases es with
  | nil=>exact hr.elim
  | cons e t=>
   simp only[valsP]at h;split at h<;>try contradiction
   split at h<;>try contradiction
   next x hx _ l hl=>injection h with h;subst h;simp only[cl0L,toDL,PD.pure_ok hr.1 hx,ih hr.2 hl]
theorem callW_ok{E:Env}{md:Nat->Md}{pc:PcT}(hpc:PcW E md pc)(hS:Sim ρ τ p st){f sz:Nat}(hf:md f = .raw sz){ds:List PD}{es:List D}(hr:RPL (cxOf ρ τ p st) ds es){K:PD->PSt->Option ρ'}(h:callW pc sz f ds p K=some r) :
  ∃ d p',K d p'=some r /\ ∃ e st',callL E f es st=some (.ret e,st')/\RP (cxOf ρ τ p' st') d e/\Goes ρ τ p st ρ τ p' st'/\st'.tm=st.tm:=by
 unfold callW at h;split at h<;>try contradiction
 ·next id sz' ys rest=>
  split at h<;>try contradiction
  next hsz=>
   have hsz:=zJ hsz;subst hsz;split at h<;>try contradiction
   next xs hxs=>
    rw[zA]at h;obtain⟨q,hq,h⟩:=h;cases es with
    | nil=>exact hr.elim
    | cons e es=>
     obtain⟨⟨g,cs,rfl,hcs,hz,hid,hg⟩,hr2⟩:=hr;have hvs:=valsP_ok hr2 hxs;have htip:TipOf sz ys.length st g:=by
      rcases hg with hg | ⟨l,hg,hτ,ht⟩
      ·exact .inl hg
      ·exact .inr ⟨l,hg,(hS.lin id l hτ).2,ht⟩
     obtain⟨d,st',hc,hd,hgo⟩:=hpc f sz ys xs q hf hq st g cs es hcs hz htip hvs;have hgl : ∀ l,g = .ln l sz->τ id=some l:=by
      intro l e;rcases hg with hg | ⟨l',hg,hτ,_⟩
      ·rw[hg]at e;contradiction
      ·rw[hg]at e;injection e with e;subst e;exact hτ
     refine⟨_,_,h,d,st',hc,hd,far_goes hS hgo.tm hgo.mem hgo.lo hgo.nx (fun j hj hne=>hgo.tip j hj (fun e=>hne (hgl j e))) (fun m h1 h2 h3=>hgo.lw m h1 h2 (fun l e=>h3 l (hgl l e))),hgo.tm⟩
 ·next ys rest=>
  split at h<;>try contradiction
  next xs hxs=>
   obtain⟨hz,h⟩:=tst_some h;rw[zA]at h;obtain⟨q,hq,h⟩:=h;cases es with
   | nil=>exact hr.elim
   | cons e es=>obtain⟨⟨cs,rfl,hcs⟩,hr2⟩:=hr;have hvs:=valsP_ok hr2 hxs;obtain⟨d,st',hc,hd,hgo⟩:=hpc f sz ys xs q hf hq st .full cs es hcs hz (.inl rfl) hvs;refine⟨_,_,h,d,st',hc,hd,far_goes hS hgo.tm hgo.mem hgo.lo hgo.nx (fun j hj _=>hgo.tip j hj (by simp)) (fun m h1 h2 _=>hgo.lw m h1 h2 (fun l e=>by simp at e)),hgo.tm⟩
theorem argsA_still(hS:Sim ρ τ p st)(hw:Wf p){ds:List PD}{es:List D}(hr:RPL (cxOf ρ τ p st) ds es){as:List PA}{p1:PSt}(h1:argsA p [] ds=some (as,[],p1)):AllRo p->p1.rows=p.rows/\(frz st (refsL es)).mem=st.mem:=by
 intro ha;obtain⟨h3,h4,h5⟩:=argsA_ok hS hw hr h1;refine⟨?_,?_⟩
 ·apply List.ext_getElem?;intro k;cases hk:p.rows[k]? with
  | none=>rw[List.getElem?_eq_none_iff]at hk ⊢;have:=h4.len;omega
  | some r0=>exact h4.goes.ro hw k r0 hk (ha k r0 hk)
 ·funext b;rcases zj b st.nx with hb | hb
  ·exact h4.goes.mem b hb (fun k rw hk _=>ha k rw hk)
  ·exact h4.big b hb
theorem fulP_ok{c:Cx}{d:PD}{e:D}(hr:RP c d e){k:Option ρ'}(h:fulP d k=some r):roomless e=true/\k=some r:=by
 unfold fulP at h;split at h<;>try contradiction
 ·obtain⟨cs,rfl,_⟩:=hr;exact⟨rfl,h⟩
 ·obtain⟨h1,h⟩:=tst_some h;refine⟨?_,h⟩;obtain⟨_,_,hdd,_⟩:=hr;rcases hdd with⟨rfl,_⟩ | ⟨_,rfl,_⟩
  ·exact h1
  ·rfl
theorem callF_ok{E:Env}{md:Nat->Md}{pc:PcT}(hpc:PcF E md pc)(hS:Sim ρ τ p st)(hw:Wf p){f:Nat}(hf:md f = .ful){ds:List PD}{es:List D}(hr:RPL (cxOf ρ τ p st) ds es){K:PD->PSt->Option ρ'}(h:callF pc f ds p K=some r) :
  ∃ d p',K d p'=some r /\ ∃ e st',callL E f es st=some (.ret e,st')/\RP (cxOf ρ τ p' st') d e/\Goes ρ τ p st ρ τ p' st'/\st'.tm=st.tm /\ ∀ x0,SoftIn x0 τ p st->Soft x0 τ p st τ p' st':=by
 unfold callF at h;split at h<;>try contradiction
 next d ds=>
  cases es with
  | nil=>exact hr.elim
  | cons e es=>
   obtain⟨hrm,h⟩:=fulP_ok hr.1 h;split at h<;>try contradiction
   next as p1 h1=>
    rw[zA]at h;obtain⟨q,hq,h⟩:=h;obtain⟨h3,h4,h5⟩:=argsA_ok hS hw hr h1;have h6:=h5 [];have hcall:=hpc f as q hf hq _ st e es hrm h6;have hm:=argsA_still hS hw hr h1;have htp:(frz st (refsL (e::es))).tip=st.tip:=by
     have : ∀ (l:List Nat) (s:St),(frz s l).tip=s.tip:=by
      intro l;induction l with
      | nil=>intro s;rfl
      | cons k r ih=>intro s;simp only[frz];split<;>rw[ih];rfl
     exact this _ _
    have hlm:p1.lim=p.lim:=argsA_lim h1;exact⟨_,_,h,_,_,hcall,toD_cl0 _,h4.goes,tm_frz _ _,fun x0 hi=>⟨(hm hi.ro).1,hlm,by rw[h4.ni];exact zR _,(hm hi.ro).2,fun _ _=>rfl,hi.hi,fun l _=>by rw[htp]⟩⟩
theorem callN_soft{τ:Nat->Option Nat}{p p':PSt}{st st':St}(h7:(∀ (k:Nat) (rw:Row),p.rows[k]?=some rw->rw.ro=true)->p'.rows=p.rows/\p'.ni=p.ni/\st'.mem=st.mem/\st'.tip=st.tip/\st'.nx=st.nx)(h8:p'.lim=p.lim){x0:Nat}(hi:SoftIn x0 τ p st):Soft x0 τ p st τ p' st':=by obtain⟨a,b,c,d,e⟩:=h7 hi.ro;exact⟨a,h8,by rw[b];exact zR _,c,fun _ _=>rfl,hi.hi,fun l _=>by rw[d]⟩
theorem asByte_ok{x:V}{c:UInt8}(h:asByte x=some c) : ∃ n,x = .int .u8 n/\0<=n/\n<256/\c=UInt8.ofNat n.toNat:=by
 unfold asByte at h;split at h<;>try contradiction
 next n=>
  split at h<;>try contradiction
  next hn=>injection h with h;exact⟨n,rfl,hn.1,hn.2,h.symm⟩
theorem int_cl0{d:D}{k:IntKind}{n:Int}(h:d.cl0=(V.int k n).toD):d = .int k n:=by cases d<;>simp[D.cl0,V.toD]at h;obtain⟨rfl,rfl⟩:=h;rfl
theorem effK_ok{E:Env}{f:Nat}{ef:Eff}(hx:E.ext f=some (.eff ef))(hS:Sim ρ τ p st){ds:List PD}{es:List D}(hr:RPL (cxOf ρ τ p st) ds es){K:PD->PSt->Option ρ'}(h:effK ef ds p K=some r) :
  ∃ d p',K d p'=some r /\ ∃ e st',callL E f es st=some (.ret e,st')/\RP (cxOf ρ τ p' st') d e/\Goes ρ τ p st ρ τ p' st'/\st'.tm=st.tm /\
   ∀ x0,SoftIn x0 τ p st->Soft x0 τ p st τ p' st':=by
 have two : ∀ {k:Nat} {x:V},ds=[.s (.ptr k 0),.s (.v x)] -> ∃ d2,es=[.ptr (ρ k) 0,d2]/\d2.cl0=x.toD:=by
  intro k x hd;subst hd
  match es,hr with
  | [d1,d2],⟨h1,h2,_⟩=>exact⟨d2,by rw[h1.2];rfl,h2⟩
  | [_],⟨_,h2⟩=>exact h2.elim
  | _::_::_::_,⟨_,_,h3⟩=>exact h3.elim
 have hard : ∀ {k:Nat} {c:RowC} {p':PSt} {st':St},p.rows[k]?=some ⟨false,c⟩ -> ∀ x0,SoftIn x0 τ p st->Soft x0 τ p st τ p' st':=by intro k c p' st' hk x0 hi;have:=hi.ro k _ hk;simp at this
 cases ef with
 | ws t e=>
  simp only[effK]at h;split at h<;>try contradiction
  next k x=>
   obtain⟨d2,rfl,h2⟩:=two rfl;split at h<;>try contradiction
   next t' e' s hw=>
    split at h<;>try contradiction
    next hc=>
     simp only[zG]at hc;have h3:=zJ hc.1;subst h3;have h4:=zJ hc.2;subst h4;rw[zA]at h;obtain⟨u,hu,h⟩:=h;obtain⟨hlen,h⟩:=tst_some h;have hlen:=of_decide_eq_true hlen;have:=asStr_ok hu h2;subst this;have hr':=rowW_some hw;obtain⟨o,ho,rfl⟩:=hS.rows k _ hr';rcases ho with ho | ho
     ·contradiction
     have hgo:=setR_goes hS (c' := .bld t' e' (s++u)) (o := .bld t' e' (s++u)) hr' (rkOf_setR hr' (by simp) (by simp)) rfl;refine⟨_,_,h,.tup [.int .i64 (u.length:Nat),.nili],_,?_,rfl,hgo,rfl,hard hr'⟩;rw[callL_eff hx];simp only[effD,ho];rw[zb ⟨trivial,trivial,hlen⟩];rfl
 | wb t e=>
  simp only[effK]at h;split at h<;>try contradiction
  next k x=>
   obtain⟨d2,rfl,h2⟩:=two rfl;split at h<;>try contradiction
   next t' e' s hw=>
    split at h<;>try contradiction
    next hc=>
     simp only[zG]at hc;have h3:=zJ hc.1;subst h3;have h4:=zJ hc.2;subst h4;rw[zA]at h;obtain⟨u,hu,h⟩:=h;obtain⟨hlen,h⟩:=tst_some h;have hlen:=of_decide_eq_true hlen;obtain⟨n,rfl,hn0,hn1,rfl⟩:=asByte_ok hu;have:=int_cl0 h2;subst this;have hr':=rowW_some hw;obtain⟨o,ho,rfl⟩:=hS.rows k _ hr';rcases ho with ho | ho
     ·contradiction
     have hgo:=setR_goes hS (c' := .bld t' e' (s++[UInt8.ofNat n.toNat])) (o := .bld t' e' (s++[UInt8.ofNat n.toNat])) hr' (rkOf_setR hr' (by simp) (by simp)) rfl;refine⟨_,_,h,.nili,_,?_,rfl,hgo,rfl,hard hr'⟩;rw[callL_eff hx];simp only[effD,ho];rw[zb ⟨trivial,trivial,hlen,hn0,hn1⟩];rfl
 | bs t e=>
  simp only[effK]at h;split at h<;>try contradiction
  next k=>
   obtain⟨rfl⟩:es=[.ptr (ρ k) 0]:=by
    match es,hr with
    | [d1],⟨h1,_⟩=>rw[h1.2];rfl
    | _::_::_,⟨_,h2⟩=>exact h2.elim
   split at h<;>try contradiction
   next t' e' s hw=>
    split at h<;>try contradiction
    next hc=>
     simp only[zG]at hc;have h3:=zJ hc.1;subst h3;have h4:=zJ hc.2;subst h4;have hr':=rowW_some hw;obtain⟨o,ho,rfl⟩:=hS.rows k _ hr';rcases ho with ho | ho
     ·contradiction
     have hgo:=gone_goes hS hr' (rkOf_setR hr' (by simp) (by simp));refine⟨_,_,h,.str s,_,?_,rfl,hgo,rfl,hard hr'⟩;rw[callL_eff hx];simp only[effD,ho];rw[zb ⟨trivial,trivial⟩];rfl
theorem callK_ok{E:Env}{md:Nat->Md}{pc:PcT}(hpc:PcOk E md pc)(hS:Sim ρ τ p st)(hw:Wf p){f:Nat}{ds:List PD}{es:List D}(hr:RPL (cxOf ρ τ p st) ds es){K:PD->PSt->Option ρ'}(h:callK md pc f ds p K=some r) :
  ∃ d p',K d p'=some r /\ ∃ e st' τ1,callL E f es st=some (.ret e,st')/\RP (cxOf ρ τ1 p' st') d e/\Goes ρ τ p st ρ τ1 p' st'/\st'.tm=st.tm /\
   ((∀ sz,md f ≠ .raw sz) -> ∀ x0,SoftIn x0 τ p st->Soft x0 τ p st τ1 p' st'):=by
 unfold callK at h;split at h
 ·next hf=>
  obtain⟨d,p',h1,e,st',h2,h3,h4,h5,h6,h7,h8⟩:=callN_ok hpc.n hS hw hr h;exact⟨d,p',h1,e,st',τ,h2,h3,h4,h5,fun _ x0 ha=>callN_soft h7 h8 ha⟩
 ·next sz hf=>
  obtain⟨d,p',h1,e,st',τ1,h2,h3,h4,h5,h6⟩:=callG_ok hS hw (hpc.g f sz es hf) hr h;exact⟨d,p',h1,e,st',τ1,h2,h3,h4,h5,fun _=>h6⟩
 ·next sz hf=>
  obtain⟨d,p',h1,e,st',h2,h3,h4,h5⟩:=callW_ok hpc.w hS hf hr h;exact⟨d,p',h1,e,st',τ,h2,h3,h4,h5,fun hm=>(hm sz hf).elim⟩
 ·next hf=>
  obtain⟨d,p',h1,e,st',h2,h3,h4,h5,h6⟩:=callF_ok hpc.f hS hw hf hr h;exact⟨d,p',h1,e,st',τ,h2,h3,h4,h5,fun _=>h6⟩
 ·next sz hf=>
  split at h<;>try contradiction
  next d0 r0=>
   cases es with
   | nil=>exact hr.elim
   | cons e0 es=>obtain⟨hrm,h⟩:=fulP_ok hr.1 h;obtain⟨d,p',h1,e,st',τ1,h2,h3,h4,h5,h6⟩:=callG_ok hS hw (hpc.h f sz e0 es hf hrm) hr h;exact⟨d,p',h1,e,st',τ1,h2,h3,h4,h5,fun _=>h6⟩
 ·next ef hf=>
  obtain⟨d,p',h1,e,st',h2,h3,h4,h5,h6⟩:=effK_ok (hpc.e f ef hf) hS hr h;exact⟨d,p',h1,e,st',τ,h2,h3,h4,h5,fun _=>h6⟩
end
end
section
section
variable {ρ:Nat->Nat} {τ:Nat->Option Nat} {p:PSt} {st:St} {ρ':Type} {r:ρ'}
theorem opX_nc{E:Env}{cf:Cf}{st:St}{o:O}(h1 : ∀ f xs,o ≠ .call f xs)(h2 : ∀ f xs,o ≠ .callv f xs)(h3 : ∀ x,o ≠ .pan x):opX E cf st o=(opD E st o).map fun p => .val p.1 p.2:=by cases o<;>first | rfl | exact(h1 _ _ rfl).elim | exact(h2 _ _ rfl).elim | exact(h3 _ rfl).elim
theorem RPL_append{c:Cx}{a b:List PD}{d e:List D}(h:RPL c a d)(k:RPL c b e):RPL c (a++b) (d++e):=by
 induction a generalizing d with
 | nil=>cases d with | nil=>simpa using k | cons _ _=>exact h.elim
 | cons x r ih=>cases d with
  | nil=>exact h.elim
  | cons y s=>exact⟨h.1,ih h.2⟩
theorem RPL_cap{c:Cx}{cap:List CP}{ds:List D}(h:RCL c.ρ c.m cap ds):RPL c (cap.map capD) ds:=by
 induction cap generalizing ds with
 | nil=>cases ds with | nil=>trivial | cons _ _=>exact h.elim
 | cons q r ih=>cases ds with
  | nil=>exact h.elim
  | cons d s=>cases q<;>exact⟨h.1,ih h.2⟩
theorem popX{E:Env}{gl:Gl}{pc:PcT}(hg:GlR E gl)(hpc:PcOk E gl.md pc)(hS:Sim ρ τ p st)(hw:Wf p){o:O}{K:Option PD->PSt->Option ρ'}(h:popK gl pc p o K=some r) :
  ∃ d p',K d p'=some r /\ ∃ e st' ρ1 τ1,opX E (callL E) st o=some (.val e st')/\RO (cxOf ρ1 τ1 p' st') d e/\Goes ρ τ p st ρ1 τ1 p' st'/\st'.tm=st.tm /\
   (still gl.md o=true -> ∀ x0,SoftIn x0 τ p st->ρ1=ρ/\Soft x0 τ p st τ1 p' st'):=by
 have callN : ∀ {f:Nat} {ds:List PD} {es:List D},RPL (cxOf ρ τ p st) ds es->callN pc f ds p (fun d p'=>K (some d) p')=some r->opX E (callL E) st o=((callL E f es st).map outV) ->
   ∃ d p',K d p'=some r /\ ∃ e st' ρ1 τ1,opX E (callL E) st o=some (.val e st')/\RO (cxOf ρ1 τ1 p' st') d e/\Goes ρ τ p st ρ1 τ1 p' st'/\st'.tm=st.tm /\
    (still gl.md o=true -> ∀ x0,SoftIn x0 τ p st->ρ1=ρ/\Soft x0 τ p st τ1 p' st'):=by
  intro f ds es hr hk he;obtain⟨d,p',h1,e,st',h2,h3,h4,h5,h6,h7,h8⟩:=callN_ok hpc.n hS hw hr hk;exact⟨some d,p',h1,some e,st',ρ,τ,by rw[he,h2];rfl,h3,h4,h5,fun _ x0 ha=>⟨rfl,callN_soft h7 h8 ha⟩⟩
 by_cases hc1 : ∃ f xs,o = .call f xs
 ·obtain⟨f,xs,rfl⟩:=hc1;simp only[popK]at h;split at h<;>try contradiction
  next ds hds=>obtain⟨es,h1,h2⟩:=evHL_ok hg hS hds;obtain⟨d,p',h3,e,st',τ1,h4,h5,h6,h7,h8⟩:=callK_ok hpc hS hw h2 h;refine⟨some d,p',h3,some e,st',ρ,τ1,by simp[opX,h1,h4,outV],h5,h6,h7,fun hs x0 ha=>⟨rfl,h8 (fun sz hm => ?_) x0 ha⟩⟩;simp[still,hm]at hs
 by_cases hc2 : ∃ f xs,o = .callv f xs
 ·obtain⟨g,xs,rfl⟩:=hc2;simp only[popK]at h;split at h<;>try contradiction
  ·next f cap hf=>
   split at h<;>try contradiction
   next hlt=>
   split at h<;>try contradiction
   next ds hds=>obtain⟨e,he,hr⟩:=evH_ok hg hS hf;obtain⟨cs,rfl,hcs⟩:=hr;obtain⟨es,h1,h2⟩:=evHL_ok hg hS hds;exact callN (RPL_append h2 (RPL_cap hcs)) h (by rw[Nat.blt_eq]at hlt;simp[opX,he,h1,hlt])
  ·next x hx=>
   split at h<;>try contradiction
   next ds hds=>
    rw[zA]at h;obtain⟨q,hq,h⟩:=h;obtain⟨e,he,hr⟩:=evH_ok hg hS hx;have hfn:=asFn_ok hq hr;subst hfn;split at h<;>try contradiction
    next hq2=>
     split at h<;>try contradiction
     next hlt=>
     obtain⟨es,h1,h2⟩:=evHL_ok hg hS hds;exact callN h2 h (by rw[Nat.blt_eq]at hlt;simp[opX,he,h1,hq2,toDL,hlt])
 have hc1 : ∀ f xs,o ≠ .call f xs:=fun f xs e=>hc1 ⟨f,xs,e⟩
 have hc2 : ∀ f xs,o ≠ .callv f xs:=fun f xs e=>hc2 ⟨f,xs,e⟩
 have hc3 : ∀ x,o ≠ .pan x:=fun x e=>by subst e;simp[popK]at h
 by_cases hq:quiet o=true
 ·obtain⟨d,h1,e,h2,h3⟩:=popA hg hS hq h;exact⟨some d,p,h1,some e,st,ρ,τ,by rw[opX_nc hc1 hc2 hc3,h2];rfl,h3,.refl hS,rfl,fun _ x0 hi=>⟨rfl,.refl hi⟩⟩
 by_cases hap:isApp o=true
 ·obtain⟨d,p',h1,e,st',ρ1,τ1,h2,h3,h4,h5,h6⟩:=popC hg hS hap h;exact⟨d,p',h1,e,st',ρ1,τ1,by rw[opX_nc hc1 hc2 hc3,h2];rfl,h3,h4,h5,fun _=>h6⟩
 ·obtain⟨d,p',h1,e,st',ρ1,τ1,h2,h3,h4,h5⟩:=popB hg hS hc1 hc2 h;refine⟨d,p',h1,e,st',ρ1,τ1,by rw[opX_nc hc1 hc2 hc3,h2];rfl,h3,h4,h5,fun hs => ?_⟩;exfalso;cases o<;>simp[quiet,still,isApp]at hq hs hap
  ·exact hc1 _ _ rfl
  ·exact hc2 _ _ rfl
theorem popS{E:Env}{gl:Gl}{pc:PcT}(hg:GlR E gl)(hpc:PcOk E gl.md pc)(hS:Sim ρ τ p st)(hw:Wf p){o:O}{dst:Option Nat}{K:PSt->Option ρ'}(h:(popK gl pc p o fun r p'=>match setP p' dst r with | some p''=>K p'' | none=>none)=some r) :
  ∃ p',K p'=some r /\ ∃ st' ρ1 τ1,opR E (callL E) dst st o=some (.ok st')/\Goes ρ τ p st ρ1 τ1 p' st'/\(∀ t,dst≠some t->get st'.tm t=get st.tm t) /\
   (still gl.md o=true -> ∀ x0,SoftIn x0 τ p st->ρ1=ρ/\Soft x0 τ p st τ1 p' st'):=by
 obtain⟨d,p',h1,e,st',ρ1,τ1,h2,h3,h4,h5,h6⟩:=popX hg hpc hS hw h;split at h1<;>try contradiction
 next p'' hp=>
  have h7:=setP_goes h4.sim h3 hp;refine⟨p'',h1,st'.set dst e,ρ1,τ1,by simp[opR,h2,Rv.to],h4.trans hw h7,fun t ht => ?_,fun hs x0 ha => ?_⟩
  ·rw[<- h5];cases e with
   | none=>cases dst with
    | none=>rfl
    | some u=>show get (Ev.del st'.tm u) t=_;rw[get_del,za (fun e=>ht (by rw[e]))]
   | some e=>cases dst with
    | none=>rfl
    | some u=>show get (Ev.put st'.tm u e) t=_;rw[get_put,za (fun e=>ht (by rw[e]))]
  ·obtain⟨rfl,h9⟩:=h6 hs x0 ha;have hrow:p''.rows=p'.rows/\p''.ni=p'.ni/\p''.lim=p'.lim:=by
    unfold setP at hp;split at hp
    ·injection hp with hp;subst hp;exact⟨rfl,rfl,rfl⟩
    ·split at hp<;>(split at hp<;>try contradiction)<;>(injection hp with hp;subst hp;exact⟨rfl,rfl,rfl⟩)
   have hst:(st'.set dst e).mem=st'.mem/\(st'.set dst e).tip=st'.tip/\(st'.set dst e).nx=st'.nx:=by cases e<;>cases dst<;>exact⟨rfl,rfl,rfl⟩
   exact⟨rfl,hrow.1.trans h9.rows,hrow.2.2.trans h9.lim,by rw[hrow.2.1];exact h9.ni,hst.1.trans h9.mem,h9.τ,h9.hi,fun l hl=>by rw[hst.2.1];exact h9.tip l hl⟩
theorem setP_off(hS:Sim ρ τ p st){dst:Option Nat}{p':PSt}(h:setP p dst none=some p'):Goes ρ τ p st ρ τ p' (st.put dst .off):=by
 unfold setP at h;split at h
 ·injection h with h;subst h;exact .refl hS
 ·next t=>
  simp only at h;split at h<;>try contradiction
  next tm hp=>
   injection h with h;subst h;refine tm_goes hS (tm':=Ev.put st.tm t .off) (fun u f d' hu => ?_) (fun u d' hu => ?_)
   ·rw[(getF_del hp u).1]at hu;rw[get_put];split at hu
    ·contradiction
    ·next h=>rw[za h];exact hS.tm u f d' hu
   ·rw[(getF_del hp u).1]at hu;split at hu
    ·contradiction
    ·next h=>exact⟨hu,by rw[get_put,za h]⟩
theorem pone_ok{E:Env}{gl:Gl}{pc:PcT}(hg:GlR E gl)(hpc:PcOk E gl.md pc)(hS:Sim ρ τ p st)(hw:Wf p){o:OpC}{K:PSt->Option ρ'}(h:pone gl pc o p K=some r) :
  ∃ p',K p'=some r /\ ∃ st' ρ1 τ1,opC E (callL E) o st=some (.ok st')/\Goes ρ τ p st ρ1 τ1 p' st'/\(still gl.md o.op=true -> ∀ x0,SoftIn x0 τ p st->ρ1=ρ/\Soft x0 τ p st τ1 p' st'):=by
 unfold pone at h;split at h
 ·next hgd=>
  obtain⟨p',h1,st',ρ1,τ1,h2,h3,_,h4⟩:=popS hg hpc hS hw h;exact⟨p',h1,st',ρ1,τ1,by simp[opC,wants,hgd,h2],h3,h4⟩
 ·next t b hgd=>
  split at h<;>try contradiction
  next c hc=>
   rw[zA]at h;obtain⟨cb,hcb,h⟩:=h;obtain⟨e,he,hr⟩:=evV_ok (E:=E) hg hS hc;have:=asBool_ok hcb hr;subst this;have he:get st.tm t=some (.bool cb):=he;split at h
   ·next hcb2=>
    obtain⟨p',h1,st',ρ1,τ1,h2,h3,_,h4⟩:=popS hg hpc hS hw h;refine⟨p',h1,st',ρ1,τ1,?_,h3,h4⟩;subst hcb2;simp[opC,wants,hgd,he,h2]
   ·next hcb2=>
    split at h<;>try contradiction
    next p'' hp=>
     have h7:=setP_off hS hp;refine⟨p'',h,st.put o.dst .off,ρ,τ,?_,h7,fun _ x0 hi=>⟨rfl,?_⟩⟩
     ·have:(cb==b)=false:=by cases cb<;>cases b<;>simp_all
      simp only[opC,wants,hgd,he,this]
     ·have hrow:p''.rows=p.rows/\p''.ni=p.ni/\p''.lim=p.lim:=by
       unfold setP at hp;split at hp
       ·injection hp with hp;subst hp;exact⟨rfl,rfl,rfl⟩
       ·split at hp<;>(split at hp<;>try contradiction)<;>(injection hp with hp;subst hp;exact⟨rfl,rfl,rfl⟩)
      refine⟨hrow.1,hrow.2.2,by rw[hrow.2.1];exact zR _,?_,fun _ _=>rfl,hi.hi,fun l _ => ?_⟩<;>cases o.dst<;>rfl
theorem freshD_ok{tm:PTm}{l:List Nat}(h:freshD tm l=true){t:Nat}{f:Bool}{d:PD}(ht:getF tm t=some (f,d)):t ∉ l:=by
 induction l with
 | nil=>simp
 | cons u r ih=>
  simp only[freshD,zG]at h;intro hm;rcases List.mem_cons.1 hm with rfl | hm
  ·rw[ht]at h;exact absurd h.1 (by simp)
  ·exact ih h.2 hm
theorem callL_fr(E:Env):CfFr (callL E):=by intro f ds st o st' h;obtain⟨m,hm⟩:=callL_iff.1 h;exact Fq.call f ds st o st' hm
theorem run_other{E:Env}{l:List OpC}{st st':St}(h:runOps E (callL E) l st=some (.ok st')){t:Nat}(ht : ∀ o∈l,o.dst≠some t):get st'.tm t=get st.tm t:=by
 induction l generalizing st with
 | nil=>simp only[runOps,zh,Rs.ok.injEq]at h;rw[h]
 | cons o r ih=>
  simp only[runOps]at h;cases ho:opC E (callL E) o st with
  | none=>rw[ho]at h;simp at h
  | some q=>cases q with
   | pan d s=>rw[ho]at h;simp at h
   | ok s=>rw[ho]at h;rw[ih h (fun o' ho'=>ht o' (zP _ ho')),opC_other (callL_fr E) ho (ht o zz)]
theorem regd_dst(g:Option (Nat×Bool))(o:OpC):(regd g o).dst=o.dst:=by unfold regd;split<;>rfl
theorem erase_dst{g:Option (Nat×Bool)}{l:PO}{t:Nat}(ht:t ∉ dstsP l) : ∀ o∈eraseG g l,o.dst≠some t:=by
 induction l generalizing g with
 | nil=>intro o ho;simp[eraseG]at ho
 | one o r ih=>
  simp only[dstsP,zr,not_or]at ht;intro o' ho';simp only[eraseG,zS]at ho';rcases ho' with rfl | ho'
  ·rw[regd_dst];intro e;rw[e]at ht;simp at ht
  ·exact ih ht.2 o' ho'
 | box n dst x r ih=>
  simp only[dstsP,zS,not_or]at ht;intro o' ho';simp only[eraseG,zS]at ho';rcases ho' with rfl | ho'
  ·intro e;injection e with e;exact ht.1 e.symm
  ·exact ih ht.2 o' ho'
 | grp c w ops dst a b r ih1 ih2=>
  simp only[dstsP,zr,zS,not_or]at ht;intro o' ho';simp only[eraseG,zr,zS]at ho';rcases ho' with ho' | rfl | ho'
  ·exact ih1 ht.1 o' ho'
  ·intro e;injection e with e;exact ht.2.1 e.symm
  ·exact ih2 ht.2.2 o' ho'
theorem guard_yes{E:Env}{c:Nat}{w:Bool}{l:PO}(hc:c ∉ dstsP l){st:St}(hg:get st.tm c=some (.bool w)):runOps E (callL E) (eraseG (some (c,w)) l) st=runOps E (callL E) (eraseG none l) st:=by
 have one : ∀ (d:Option Nat) (op:O) (st:St),get st.tm c=some (.bool w)->opC E (callL E) ⟨d,op,some (c,w)⟩ st=opC E (callL E) ⟨d,op,none⟩ st:=by intro d op st hg;simp only[opC,wants,hg,BEq.rfl]
 induction l generalizing st with
 | nil=>rfl
 | one o r ih=>
  simp only[dstsP,zr,not_or]at hc;simp only[eraseG,runOps];have ho:opC E (callL E) (regd (some (c,w)) o) st=opC E (callL E) (regd none o) st:=by
   unfold regd;cases o.gd with
   | none=>exact one _ _ st hg
   | some _=>rfl
  rw[ho];cases h:opC E (callL E) (regd none o) st with
  | none=>rfl
  | some q=>cases q with
   | pan d s=>rfl
   | ok s=>refine ih hc.2 ?_;rw[opC_other (callL_fr E) h ?_];exact hg;rw[regd_dst];intro e;rw[e]at hc;simp at hc
 | box n dst x r ih=>
  simp only[dstsP,zS,not_or]at hc;simp only[eraseG,runOps];rw[one _ _ st hg];cases h:opC E (callL E) ⟨some dst,.box x,none⟩ st with
  | none=>rfl
  | some q=>cases q with
   | pan d s=>rfl
   | ok s=>refine ih hc.2 ?_;rw[opC_other (callL_fr E) h (fun e=>hc.1 (by injection e with e;exact e.symm))];exact hg
 | grp c2 w2 ops dst a b r ih1 ih2=>
  simp only[dstsP,zr,zS,not_or]at hc;simp only[eraseG];rw[runOps_append,runOps_append];cases h:runOps E (callL E) (eraseG (some (c2,w2)) ops) st with
  | none=>rfl
  | some q=>cases q with
   | pan d s=>rfl
   | ok s=>
    have hs:get s.tm c=some (.bool w):=by rw[run_other h (erase_dst hc.1)];exact hg
    simp only[runOps];rw[one _ _ s hs];cases h2:opC E (callL E) ⟨some dst,pickO c2 w2 a b,none⟩ s with
    | none=>rfl
    | some q=>cases q with
     | pan d s=>rfl
     | ok s2=>refine ih2 hc.2.2 ?_;rw[opC_other (callL_fr E) h2 (fun e=>hc.2.1 (by injection e with e;exact e.symm))];exact hs
def Not(st:St)(c:Nat)(w:Bool):Prop:=(∃ b,b≠w/\get st.tm c=some (.bool b))\/get st.tm c=some .off
theorem hasB_mem{l:List Nat}{t:Nat}:hasB l t=true↔t∈l:=by
 induction l with
 | nil=>simp[hasB]
 | cons i r ih=>
  simp only[hasB,zS];cases hb:i.beq t with
  | true=>have:=zJ hb;subst this;simp
  | false=>
   have:t≠i:=fun e=>by subst e;rw[Nat.beq_refl]at hb;contradiction
   simp[this,ih]
theorem runStill_append{E:Env}{cf:Cf}(a b:List OpC)(st:St):runStill E cf (a++b) st=(runStill E cf a st).bind fun s=>runStill E cf b s:=by
 induction a generalizing st with
 | nil=>rfl
 | cons o r ih=>
  simp only[List.cons_append,runStill];cases opC E cf o st with
  | none=>rfl
  | some q=>cases q with
   | ok s=>
    simp only;split
    ·exact ih s
    ·rfl
   | pan d s=>rfl
theorem still_other{E:Env}{l:List OpC}{st st':St}(h:runStill E (callL E) l st=some st'){t:Nat}(ht : ∀ o∈l,o.dst≠some t):get st'.tm t=get st.tm t:=by
 induction l generalizing st with
 | nil=>simp only[runStill,zh]at h;rw[h]
 | cons o r ih=>
  simp only[runStill]at h;cases ho:opC E (callL E) o st with
  | none=>rw[ho]at h;simp at h
  | some q=>cases q with
   | pan d s=>rw[ho]at h;simp at h
   | ok s=>
    rw[ho]at h;simp only at h;split at h<;>try contradiction
    rw[ih h (fun o' ho'=>ht o' (zP _ ho')),opC_other (callL_fr E) ho (ht o zz)]
theorem still_yes{E:Env}{c:Nat}{w:Bool}{l:PO}(hc:c ∉ dstsP l){st s:St}(hg:get st.tm c=some (.bool w))(h:runStill E (callL E) (eraseG none l) st=some s):runStill E (callL E) (eraseG (some (c,w)) l) st=some s:=by
 have one : ∀ (d:Option Nat) (op:O) (st:St),get st.tm c=some (.bool w)->opC E (callL E) ⟨d,op,some (c,w)⟩ st=opC E (callL E) ⟨d,op,none⟩ st:=by intro d op st hg;simp only[opC,wants,hg,BEq.rfl]
 induction l generalizing st with
 | nil=>exact h
 | one o r ih=>
  simp only[dstsP,zr,not_or]at hc;simp only[eraseG,runStill]at h ⊢;have ho:opC E (callL E) (regd (some (c,w)) o) st=opC E (callL E) (regd none o) st:=by
   unfold regd;cases o.gd with
   | none=>exact one _ _ st hg
   | some _=>rfl
  rw[ho];cases hh:opC E (callL E) (regd none o) st with
  | none=>rw[hh]at h;simp at h
  | some q=>cases q with
   | pan d s=>rw[hh]at h;simp at h
   | ok s1=>
    rw[hh]at h;simp only at h ⊢;split at h<;>try contradiction
    next hm=>rw[zb hm];refine ih hc.2 ?_ h;rw[opC_other (callL_fr E) hh ?_];exact hg;rw[regd_dst];intro e;rw[e]at hc;simp at hc
 | box n dst x r ih=>
  simp only[dstsP,zS,not_or]at hc;simp only[eraseG,runStill]at h ⊢;rw[one _ _ st hg];cases hh:opC E (callL E) ⟨some dst,.box x,none⟩ st with
  | none=>rw[hh]at h;simp at h
  | some q=>cases q with
   | pan d s=>rw[hh]at h;simp at h
   | ok s1=>
    rw[hh]at h;simp only at h ⊢;split at h<;>try contradiction
    next hm=>rw[zb hm];refine ih hc.2 ?_ h;rw[opC_other (callL_fr E) hh (fun e=>hc.1 (by injection e with e;exact e.symm))];exact hg
 | grp c2 w2 ops dst a b r ih1 ih2=>
  simp only[dstsP,zr,zS,not_or]at hc;simp only[eraseG]at h ⊢;rw[runStill_append,zA]at h ⊢;obtain⟨s1,h1,h2⟩:=h;refine⟨s1,h1,?_⟩;have hs:get s1.tm c=some (.bool w):=by rw[still_other h1 (erase_dst hc.1)];exact hg
  simp only[runStill]at h2 ⊢;rw[one _ _ s1 hs];cases hh:opC E (callL E) ⟨some dst,pickO c2 w2 a b,none⟩ s1 with
  | none=>rw[hh]at h2;simp at h2
  | some q=>cases q with
   | pan d s=>rw[hh]at h2;simp at h2
   | ok s2=>
    rw[hh]at h2;simp only at h2 ⊢;split at h2<;>try contradiction
    next hm=>rw[zb hm];refine ih2 hc.2.2 ?_ h2;rw[opC_other (callL_fr E) hh (fun e=>hc.2.1 (by injection e with e;exact e.symm))];exact hs
theorem guard_no{E:Env}{cf:Cf}{l:PO}{c:Nat}{w:Bool}{W:List Nat}(hn:nestO W l=true){st:St}(hg:Not st c w)(hW : ∀ t∈W,get st.tm t=some .off) :
  ∃ tm,(runOps E cf (eraseG (some (c,w)) l) st=some (.ok { st with tm:=tm })/\runStill E cf (eraseG (some (c,w)) l) st=some { st with tm:=tm })/\(∀ t,t ∉ dstsP l->get tm t=get st.tm t) /\ ∀ t,t∈dstsP l->get tm t=some .off:=by
 have one : ∀ {c:Nat} {w:Bool} (d:Option Nat) (op:O) (st:St),Not st c w->opC E cf ⟨d,op,some (c,w)⟩ st=some (.ok (st.put d .off)):=by
  intro c w d op st hg;rcases hg with⟨b,hb,hg⟩ | hg
  ·have hbw:(b==w)=false:=by cases b<;>cases w<;>simp_all
   simp only[opC,wants,hg,hbw]
  ·simp only[opC,wants,hg]
 have put1 : ∀ (d:Option Nat) (st:St) (t:Nat),get (st.put d .off).tm t=if d=some t then some .off else get st.tm t:=by
  intro d st t;cases d with
  | none=>rfl
  | some u=>
   show get (Ev.put st.tm u .off) t=_;rw[get_put];by_cases e:t=u
   ·subst e;simp
   ·rw[za e,za (fun h=>e (by injection h with h;exact h.symm))]
 have keep : ∀ {c:Nat} {w:Bool} (d:Option Nat) (st:St),Not st c w->Not (st.put d .off) c w:=by
  intro c w d st hg;unfold Not;rw[put1];by_cases e:d=some c
  ·rw[zb e];exact .inr rfl
  ·rw[za e];exact hg
 have stput : ∀ (d:Option Nat) (st:St),∃ tm,st.put d .off={ st with tm:=tm }:=by intro d st;cases d<;>exact⟨_,rfl⟩
 have offs : ∀ (d:Option Nat) (st:St) (W:List Nat),(∀ t∈W,get st.tm t=some .off) -> ∀ t∈(match d with | some t=>[t] | none=>[])++W,get (st.put d .off).tm t=some .off:=by
  intro d st W hW t ht;rw[put1];split
  ·rfl
  ·next hne=>
   rcases List.mem_append.1 ht with ht | ht
   ·exfalso;cases d with
    | none=>simp at ht
    | some u=>simp at ht;exact hne (by rw[ht])
   ·exact hW t ht
 induction l generalizing st W c w with
 | nil=>exact⟨st.tm,⟨rfl,rfl⟩,fun _ _=>rfl,fun t ht=>by simp[dstsP]at ht⟩
 | one o r ih=>
  simp only[nestO,zG]at hn;cases hgd:o.gd with
  | some _=>rw[hgd]at hn;simp at hn
  | none=>
   obtain⟨tm,h1,h2,h3⟩:=ih hn.2 (keep o.dst st hg) (offs o.dst st W hW);obtain⟨tm',hst⟩:=stput o.dst st;refine⟨tm,?_,fun t ht => ?_,fun t ht => ?_⟩
   ·rw[hst]at h1;refine⟨?_,?_⟩
    ·simp only[eraseG,runOps,regd,hgd,one _ _ st hg];rw[hst];exact h1.1
    ·simp only[eraseG,runStill,regd,hgd,one _ _ st hg];rw[hst,zb rfl];exact h1.2
   ·simp only[dstsP,zr,not_or]at ht;rw[h2 t ht.2,put1,za];intro e;rw[e]at ht;simp at ht
   ·by_cases hm:t∈dstsP r
    ·exact h3 t hm
    ·rw[h2 t hm];simp only[dstsP,zr]at ht;rcases ht with ht | ht
     ·rw[put1,zb];cases hd:o.dst with
      | none=>rw[hd]at ht;simp at ht
      | some u=>rw[hd]at ht;simp at ht;rw[ht]
     ·exact(hm ht).elim
 | box n dst x r ih=>
  simp only[nestO]at hn;obtain⟨tm,h1,h2,h3⟩:=ih hn (keep (some dst) st hg) (offs (some dst) st W hW);refine⟨tm,?_,fun t ht => ?_,fun t ht => ?_⟩
  ·refine⟨?_,?_⟩
   ·simp only[eraseG,runOps,one _ _ st hg];exact h1.1
   ·simp only[eraseG,runStill,one _ _ st hg];rw[zb (show(st.put (some dst) .off).mem=st.mem from rfl)];exact h1.2
  ·simp only[dstsP,zS,not_or]at ht;rw[h2 t ht.2,put1,za];intro e;injection e with e;exact ht.1 e.symm
  ·by_cases hm:t∈dstsP r
   ·exact h3 t hm
   ·rw[h2 t hm];simp only[dstsP,zS]at ht;rcases ht with rfl | ht
    ·rw[put1,zb rfl]
    ·exact(hm ht).elim
 | grp c2 w2 ops dst a b r ih1 ih2=>
  simp only[nestO,zG]at hn;have hc2:=hW c2 (hasB_mem.1 hn.1.1);obtain⟨tm1,h1,h2,h3⟩:=ih1 (c:=c2) (w:=w2) hn.1.2 (.inr hc2) (fun t ht=>by simp at ht);have hg1:Not { st with tm:=tm1 } c w:=by
   unfold Not;by_cases hm:c∈dstsP ops
   ·exact .inr (h3 c hm)
   ·show(∃ b,b≠w/\get tm1 c=some (.bool b))\/get tm1 c=some .off;rw[h2 c hm];exact hg
  have hW1 : ∀ t∈W,get ({ st with tm:=tm1 }:St).tm t=some .off:=by
   intro t ht;show get tm1 t=_;by_cases hm:t∈dstsP ops
   ·exact h3 t hm
   ·rw[h2 t hm];exact hW t ht
  obtain⟨tm,h4,h5,h6⟩:=ih2 hn.2 (keep (some dst) _ hg1) (offs (some dst) _ W hW1);refine⟨tm,?_,fun t ht => ?_,fun t ht => ?_⟩
  ·refine⟨?_,?_⟩
   ·simp only[eraseG];rw[runOps_append,h1.1];simp only[runOps,one _ _ _ hg1];exact h4.1
   ·simp only[eraseG];rw[runStill_append,h1.2];simp only[zD,runStill,one _ _ _ hg1];rw[zb (show(({ st with tm:=tm1 }:St).put (some dst) .off).mem=st.mem from rfl)];exact h4.2
  ·simp only[dstsP,zr,zS,not_or]at ht;rw[h5 t ht.2.2,put1,za]
   ·exact h2 t ht.1
   ·intro e;injection e with e;exact ht.2.1 e.symm
  ·by_cases hm:t∈dstsP r
   ·exact h6 t hm
   ·rw[h5 t hm,put1];split
    ·rfl
    ·next hne=>
     simp only[dstsP,zr,zS]at ht;rcases ht with ht | rfl | ht
     ·exact h3 t ht
     ·exact(hne rfl).elim
     ·exact(hm ht).elim
theorem RS.sealOf{c c':Cx}(h1:c'.ρ=c.ρ)(h2:c'.m=c.m)(h3 : ∀ k,c'.rk k=c.rk k){q:PS}{d:D}(hr:RS c q d):RS c' q.sealOf d:=by
 cases q with
 | own i sz xs=>obtain⟨g,ds,rfl,h4,_⟩:=hr;show(D.sl _ _ _).cl0=_;simp only[D.cl0,V.toD,h4]
 | v x=>exact hr
 | full xs=>exact hr
 | ptr k off=>exact⟨by rw[h2];exact hr.1,by rw[h1];exact hr.2⟩
 | ptrA k sz i off=>exact⟨by rw[h2];exact hr.1,by rw[h1];exact hr.2.1,fun s n hs=>hr.2.2 s n (by rw[<- h3];exact hs)⟩
 | ref k sz off n cp z=>exact⟨by rw[h2];exact hr.1,hr.2.1,by rw[h1];exact hr.2.2.1,fun s n hs=>hr.2.2.2 s n (by rw[<- h3];exact hs)⟩
 | uref k sz n=>exact⟨by rw[h2];exact hr.1,by rw[h1];exact hr.2.1,fun s n hs=>hr.2.2 s n (by rw[<- h3];exact hs)⟩
 | el cs=>exact hr
 | elx sz x off=>exact hr
 | fn f cap=>obtain⟨ds,h4,h5⟩:=hr;exact⟨ds,h4,by rw[h1,h2];exact h5⟩
theorem RSL.sealOf{c c':Cx}(h1:c'.ρ=c.ρ)(h2:c'.m=c.m)(h3 : ∀ k,c'.rk k=c.rk k){ps:List PS}{ds:List D}(hr:RSL c ps ds):RSL c' (sealL ps) ds:=by
 induction ps generalizing ds with
 | nil=>cases ds with | nil=>trivial | cons _ _=>exact hr.elim
 | cons q r ih=>cases ds with
  | nil=>exact hr.elim
  | cons d s=>exact⟨RS.sealOf h1 h2 h3 hr.1,ih hr.2⟩
theorem seal_own1(q:PS):hasOwnL [q.sealOf]=false:=by cases q<;>rfl
theorem seal_own(ps:List PS):hasOwnL (sealL ps)=false:=by
 induction ps with
 | nil=>rfl
 | cons q r ih=>rw[sealL,hasOwn_cons,seal_own1,ih];rfl
theorem getF_seal(tm:PTm)(t:Nat):getF (sealT tm) t=(getF tm t).map fun q=>(q.1,q.2.sealOf):=by
 induction tm with
 | nil=>rfl
 | cons e r ih=>
  obtain⟨i,f,d⟩:=e;simp only[sealT,getF];cases i.beq t
  ·exact ih
  ·rfl
theorem sealR_get(rows:List Row)(k:Nat):(sealR rows)[k]?=(rows[k]?).map fun r=>⟨true,r.c.sealC⟩:=by
 induction rows generalizing k with
 | nil=>simp[sealR]
 | cons r s ih=>obtain⟨f,c⟩:=r;cases c<;>cases k<;>simp_all [sealR,RowC.sealC]
theorem sealR_len(rows:List Row):(sealR rows).length=rows.length:=by
 induction rows with
 | nil=>rfl
 | cons r s ih=>obtain⟨f,c⟩:=r;cases c<;>simp_all [sealR]
theorem seal_rk(rows:List Row)(k:Nat):rkOf (sealR rows) k=rkOf rows k:=by
 simp only[rkOf,sealR_get];cases h:rows[k]? with
 | none=>rfl
 | some r=>obtain⟨f,c⟩:=r;cases c<;>rfl
theorem seal_sim(hS:Sim ρ τ p st):Sim ρ (fun _=>none) p.sealOf st where
 tm t f d h:=by
  simp only[PSt.sealOf,getF_seal,zB]at h;obtain⟨⟨f',d'⟩,h1,h2⟩:=h;simp only[zi]at h2;obtain⟨rfl,rfl⟩:=h2;obtain⟨e,h3,h4⟩:=hS.tm t f' d' h1;refine⟨e,h3,?_⟩;cases d' with
  | s q=>exact RS.sealOf (c:=cxOf ρ τ p st) (c':=cxOf ρ (fun _=>none) p.sealOf st) rfl (sealR_len p.rows) (seal_rk p.rows) h4
  | agg ps=>obtain⟨ds,h5,h6,h7⟩:=h4;exact⟨ds,h5,RSL.sealOf (c:=cxOf ρ τ p st) (c':=cxOf ρ (fun _=>none) p.sealOf st) rfl (sealR_len p.rows) (seal_rk p.rows) h6,h7⟩
 nx k hk:=hS.nx k (by rwa [PSt.sealOf,sealR_len]at hk)
 rows k r hk:=by
  simp only[PSt.sealOf,sealR_get,zB]at hk;obtain⟨r',h1,rfl⟩:=hk;obtain⟨o,h2,h3⟩:=hS.rows k r' h1;obtain⟨f,c⟩:=r';refine⟨o,?_,?_⟩
  ·rcases h2 with h2 | h2
   ·left;simp only at h2;subst h2;rfl
   ·exact .inr h2
  ·cases c with
   | cells ps=>obtain⟨ds,h5,h6,h7⟩:=h3;exact⟨ds,h5,RSL.sealOf (c:=cxOf ρ τ p st) (c':=cxOf ρ (fun _=>none) p.sealOf st) rfl (sealR_len p.rows) (seal_rk p.rows) h6,h7⟩
   | _=>exact h3
 inj j k hj hk:=hS.inj j k (by rwa [PSt.sealOf,sealR_len]at hj) (by rwa [PSt.sealOf,sealR_len]at hk)
 lin i l h:=by contradiction
 linj i j l h:=by contradiction
theorem PD.seal_own(d:PD):d.sealOf.hasOwn=false:=by
 cases d with
 | s q=>exact seal_own1 q
 | agg ps=>exact Ev.seal_own ps
theorem seal_wf(p:PSt):Wf p.sealOf:=by
 refine⟨fun t d h => ?_,fun k r hk _ => ?_⟩
 ·simp only[PSt.sealOf,getF_seal,zB]at h;obtain⟨⟨f',d'⟩,h1,h2⟩:=h;simp only[zi]at h2;obtain⟨_,rfl⟩:=h2;exact PD.seal_own d'
 ·simp only[PSt.sealOf,sealR_get,zB]at hk;obtain⟨r',h1,rfl⟩:=hk;obtain⟨f,c⟩:=r';cases c with
  | cells ps=>exact seal_own ps
  | _=>rfl
theorem unseal_goes(hS:Sim ρ τ p st){ρ1:Nat->Nat}{τ1:Nat->Option Nat}{p1:PSt}{st1:St}(h:Goes ρ (fun _=>none) p.sealOf st ρ1 τ1 p1 st1)(ht : ∀ t f d,getF p.tm t=some (f,d)->get st1.tm t=get st.tm t):Goes ρ τ p st ρ τ p st1:=by
 have hmem : ∀ b,b<st.nx->st1.mem b=st.mem b:=by intro b hb;refine h.mem b hb (fun k r hk _ => ?_);simp only[PSt.sealOf,sealR_get,zB]at hk;obtain⟨r',_,rfl⟩:=hk;rfl
 have htip : ∀ l,l<st.nx->st1.tip l=st.tip l:=fun l hl=>h.tip l hl (fun i=>by simp)
 have hle:Le (cxOf ρ τ p st) (cxOf ρ τ p st1):=⟨fun _ _=>rfl,zR _,fun _ _ => .inl rfl,fun i l hi=>⟨hi,htip l (hS.lin i l hi).2⟩,zR _⟩
 refine⟨⟨fun t f d hd => ?_,fun k hk=>zK (hS.nx k hk) h.nx,fun k r hk => ?_,hS.inj,fun i l hi=>⟨(hS.lin i l hi).1,zK (hS.lin i l hi).2 h.nx⟩,hS.linj⟩,h.nx,h.lo,zR _,fun _ _=>rfl,fun k h1 h2=>absurd h2 (Nat.not_lt.2 h1),fun i l h => .inl ⟨i,h⟩,fun h=>h,fun _ _ _ h _=>h,fun _ r' _ h hr=>⟨r',h,hr⟩,fun _ _ => .inl rfl,fun b hb _=>hmem b hb,fun l hl _=>htip l hl,fun m h1 h2 h3 h4 => ?_,fun _ t d hd=>⟨hd,ht t true d hd⟩⟩
 ·obtain⟨e,h1,h2⟩:=hS.tm t f d hd;exact⟨e,by rw[ht t f d hd];exact h1,RP.le hle h2⟩
 ·obtain⟨o,h1,h2⟩:=hS.rows k r hk;refine⟨o,?_,RW.le hle h2⟩;rcases h1 with h1 | h1
  ·exact .inl h1
  ·right;rw[hmem _ (hS.nx k (getElem?_lt hk))];exact h1
 ·refine h.lw m h1 h2 (fun k r hk hr => ?_) (fun i l hi=>by contradiction);simp only[PSt.sealOf,sealR_get,zB]at hk;obtain⟨r',hk',rfl⟩:=hk;refine h3 k r' hk' (.inr ?_);rcases hr with hr | hr
  ·contradiction
  ·obtain⟨f,c⟩:=r';cases c<;>simp_all [RowC.sealC,RowC.isArr]
theorem evH_same{E:Env}{gl:Gl}{tm:Tm}{x:X}{d:PD}(h:evH gl p x=some d)(ht : ∀ t f d,getF p.tm t=some (f,d)->get tm t=get st.tm t):ev E tm x=ev E st.tm x:=by
 cases x with
 | s t=>simp only[evH,getF_getP,zB]at h;obtain⟨⟨f,d'⟩,h1,_⟩:=h;exact ht t f d' h1
 | k c=>rfl
 | g n=>rfl
theorem prunK_ok{E:Env}{gl:Gl}{pc:PcT}(hg:GlR E gl)(hpc:PcOk E gl.md pc)(l:PO) : ∀ {ρ':Type} {r:ρ'} {ρ:Nat->Nat} {τ:Nat->Option Nat} {p:PSt} {st:St} {K:PSt->Option ρ'},Sim ρ τ p st->Wf p->prunK gl pc l p K=some r ->
  ∃ p',K p'=some r /\ ∃ st' ρ1 τ1,runOps E (callL E) (eraseO l) st=some (.ok st')/\Goes ρ τ p st ρ1 τ1 p' st':=by
 induction l with
 | nil=>intro _ r ρ τ p st K hS hw h;exact⟨p,h,st,ρ,τ,rfl,.refl hS⟩
 | one o s ih=>
  intro _ r ρ τ p st K hS hw h;simp only[prunK]at h;obtain⟨p1,h1,st1,ρ1,τ1,h2,h3,_⟩:=pone_ok hg hpc hS hw h;obtain⟨p',h4,st',ρ2,τ2,h5,h6⟩:=ih h3.sim (h3.wf hw) h1;refine⟨p',h4,st',ρ2,τ2,?_,h3.trans hw h6⟩;have ho:regd none o=o:=by obtain⟨d,op,gd⟩:=o;cases gd<;>rfl
  simp only[eraseO,eraseG,runOps,ho,h2];exact h5
 | box n dst x s ih=>
  intro _ r ρ τ p st K hS hw h;simp only[prunK]at h;split at h<;>try contradiction
  next d hd=>
    obtain⟨e,he,hr⟩:=evH_ok (E:=E) hg hS hd;have key : ∃ c,(match setP (p.newR c) (some dst) (some (.s (.ptr p.rows.length 0)))with | some p'=>prunK gl pc s p' K | none=>none)=some r/\allOne e.cells=true/\RW ⟨fun k=>if k=p.rows.length then st.nx else ρ k,τ,p.rows.length+1,rkOf (p.newR c).rows,st.tip,p.ni⟩ c (.row e.cells false):=by
     unfold cellsK1 at h;split at h
     ·split at h
      ·next x=>
       obtain⟨h1,h2⟩:=tst_some h;have hc:=cells_ok (show e.cl0=x.toD from hr);exact⟨_,h2,allOne_of hc (okN_one h1),_,rfl,hc,h1⟩
      ·obtain⟨cs,h1,h2,h3,h4,h5⟩:=cellsK_ok hr h;exact⟨_,h1,h4,_,rfl,RSL.le (newR_le _) h3,h4⟩
     ·obtain⟨cs,h1,h2,h3,h4,h5⟩:=cellsK_ok hr h;exact⟨_,h1,h4,_,rfl,RSL.le (newR_le _) h3,h4⟩
    obtain⟨c,h1,h2,h4⟩:=key;split at h1<;>try contradiction
    next p1 hp1=>
     obtain⟨hgo,hlen⟩:=newR_goes hS h4;have hro:RO (cxOf (fun k=>if k=p.rows.length then st.nx else ρ k) τ (p.newR c) (st.newOb (.row e.cells false))) (some (.s (.ptr p.rows.length 0))) (some (.ptr st.nx 0)):=by refine⟨by show p.rows.length<(p.newR _).rows.length;rw[hlen];omega,?_⟩;show D.ptr st.nx 0 = .ptr (if p.rows.length=p.rows.length then st.nx else _) 0;rw[zb rfl]
     have h5:=setP_goes hgo.sim hro hp1;obtain⟨p',h6,st',ρ2,τ2,h7,h8⟩:=ih h5.sim (h5.wf (hgo.wf hw)) h1;refine⟨p',h6,st',ρ2,τ2,?_,hgo.trans hw (h5.trans (hgo.wf hw) h8)⟩;have hop:opC E (callL E) ⟨some dst,.box x,none⟩ st=some (.ok ((st.newOb (.row e.cells false)).set (some dst) (some (.ptr st.nx 0)))):=by simp[opC,wants,opR,opX,opD,he,h2,Rv.to]
     simp only[eraseO,eraseG,runOps,hop];exact h7
 | grp c w ops dst a b s ih1 ih2=>
  intro _ r ρ τ p st K hS hw h;simp only[prunK]at h;split at h<;>try contradiction
  split at h<;>try contradiction
  split at h<;>try contradiction
  split at h<;>try contradiction
  next cv hc _ bd hb _ bv hbv _ hfr=>
   simp only[zG]at hfr;obtain⟨hfr,hnest⟩:=hfr;rw[zA]at h;obtain⟨cb,hcb,h⟩:=h;rw[zA]at h;obtain⟨x,hx,h⟩:=h;split at h<;>try contradiction
   next p1 hp1=>
    obtain⟨ec,hec,hrc⟩:=evV_ok (E:=E) hg hS hc;have:=asBool_ok hcb hrc;subst this;have hec:get st.tm c=some (.bool cb):=hec;have hcF : ∃ f d,getF p.tm c=some (f,d):=by
     unfold evV at hc;split at hc<;>try contradiction
     next y hy=>simp only[evH,getF_getP,zB]at hy;obtain⟨⟨f,d'⟩,h1,_⟩:=hy;exact⟨f,d',h1⟩
    obtain⟨fc,dc,hcF⟩:=hcF;have hcd:=freshD_ok hfr hcF;have hsame : ∀ {tm:Tm},(∀ t,t ∉ dstsP ops->get tm t=get st.tm t) -> ∀ t f d,getF p.tm t=some (f,d)->get tm t=get st.tm t:=
     fun h t f d ht=>h t (freshD_ok hfr ht)
    -- the state behind the group, and what the choice yields there
    have key : ∃ st1 e,runOps E (callL E) (eraseG (some (c,w)) ops) st=some (.ok st1)/\Goes ρ τ p st ρ τ p st1/\get st1.tm c=some (.bool cb)/\ev E st1.tm (if cb=w then a else b)=some e/\e.cl0=x.toD:=by
     split at hx
     ·next hcw=>
      subst hcw;obtain⟨p',h1,st1,ρ1,τ1,h2,h3⟩:=ih1 (seal_sim hS) (seal_wf p) hx;have h4 : ∀ t,t ∉ dstsP ops->get st1.tm t=get st.tm t:=fun t ht=>run_other h2 (erase_dst ht)
      split at h1<;>try contradiction
      next da hda=>obtain⟨e,he,hr⟩:=evH_ok (E:=E) hg h3.sim hda;exact⟨st1,e,by rw[guard_yes hcd hec];exact h2,unseal_goes hS h3 (hsame h4),by rw[h4 c hcd];exact hec,by rw[zb rfl];exact he,PD.pure_ok hr h1⟩
     ·next hcw=>
      injection hx with hx;subst hx;obtain⟨tm,h1,h2,_⟩:=guard_no (E:=E) (cf:=callL E) (w:=w) hnest (.inl ⟨cb,hcw,hec⟩) (fun t ht=>by simp at ht);obtain⟨e,he,hr⟩:=evH_ok (E:=E) hg hS hb;have ht:=hsame h2;refine⟨_,e,h1.1,?_,by show get tm c=_;rw[h2 c hcd];exact hec,by rw[za hcw];show ev E tm b=_;rw[evH_same (st:=st) hb ht];exact he,PD.pure_ok hr hbv⟩;have:=tm_goes hS (tm:=p.tm) (tm':=tm) (fun t f d hd=>by rw[ht t f d hd];exact hS.tm t f d hd) (fun t d hd=>⟨hd,ht t true d hd⟩);exact this
    obtain⟨st1,e,h1,h2,h3,h4,h5⟩:=key;have h6:=setP_goes (e:=some e) h2.sim (show RO _ (some (.s (.v x))) (some e)from h5) hp1;obtain⟨p',h7,st',ρ2,τ2,h8,h9⟩:=ih2 h6.sim (h6.wf (h2.wf hw)) h;refine⟨p',h7,st',ρ2,τ2,?_,h2.trans hw (h6.trans (h2.wf hw) h9)⟩;simp only[eraseO,eraseG];rw[runOps_append,h1];have hp:opC E (callL E) ⟨some dst,pickO c w a b,none⟩ st1=some (.ok (st1.set (some dst) (some e))):=by have h3':ev E st1.tm (.s c)=some (.bool cb):=h3;cases w<;>cases cb<;>simp only[zb,za,zF,zX,not_false_eq_true]at h4<;>simp[opC,wants,opR,opX,opD,h3',h4,Rv.to,pickO]
    simp only[runOps,hp];exact h8
end
end
section
def Vals(v:Nat->V)(i:Nat)(l:List V):Prop := ∀ (j:Nat) (x:V),l[j]?=some x->v (i+j)=x
theorem Vals.app{v:Nat->V}{i:Nat}{a b:List V}(h:Vals v i (a++b)):Vals v i a/\Vals v (i+a.length) b:=by refine⟨fun j x hj=>h j x (by rw[zt (getElem?_lt hj)];exact hj),fun j x hj => ?_⟩;rw[Nat.add_assoc];exact h _ x (by rw[List.getElem?_append_right (Nat.le_add_right _ _),Nat.add_sub_cancel_left];exact hj)
theorem Vals.vec(l:List V):Vals (vec l) 0 l:=fun j x hj=>by show(l.getD (0+j) .nilp)=x;rw[zk,List.getD_eq_getElem?_getD,hj];rfl
def pushIds:List (Option Nat)->List Nat->List Nat
 | [],s=>s
 | none::r,s=>pushIds r s
 | some i::r,s=>pushIds r (i::s)
def Fresh:List (Option Nat)->List Nat->Prop
 | [],_=>True
 | none::r,s=>Fresh r s
 | some i::r,s=>i ∉ s/\Fresh r (i::s)
theorem pushIds_app(a b:List (Option Nat))(s:List Nat):pushIds (a++b) s=pushIds b (pushIds a s):=by
 induction a generalizing s with
 | nil=>rfl
 | cons x r ih=>cases x<;>exact ih _
theorem Fresh.app{a b:List (Option Nat)}{s:List Nat}(h:Fresh a s)(k:Fresh b (pushIds a s)):Fresh (a++b) s:=by
 induction a generalizing s with
 | nil=>exact k
 | cons x r ih=>cases x with
  | none=>exact ih (s:=s) h k
  | some i=>exact⟨h.1,ih h.2 k⟩
theorem Fresh.notin{a:List (Option Nat)}{s:List Nat}(h:Fresh a s){j i:Nat}(hj:a[j]?=some (some i)):i ∉ s:=by
 induction a generalizing s j with
 | nil=>simp at hj
 | cons x r ih=>cases x with
  | none=>cases j with
   | zero=>simp at hj
   | succ j=>exact ih (s:=s) h (by simpa using hj)
  | some a=>cases j with
   | zero=>simp at hj;subst hj;exact h.1
   | succ j=>exact fun hm=>ih h.2 (by simpa using hj) (zP _ hm)
theorem Fresh.inj{a:List (Option Nat)}{s:List Nat}(h:Fresh a s){j k i:Nat}(hj:a[j]?=some (some i))(hk:a[k]?=some (some i)):j=k:=by
 induction a generalizing s j k with
 | nil=>simp at hj
 | cons x r ih=>
  cases j with
  | zero=>cases k with
   | zero=>rfl
   | succ k=>simp at hj;subst hj;exact(Fresh.notin h.2 (by simpa using hk) zz).elim
  | succ j=>cases k with
   | zero=>simp at hk;subst hk;exact(Fresh.notin h.2 (by simpa using hj) zz).elim
   | succ k=>
    have hr : ∃ s',Fresh r s':=by cases x with
     | none=>exact⟨s,h⟩
     | some i=>exact⟨_,h.2⟩
    obtain⟨s',hr⟩:=hr;exact congrArg Nat.succ (ih hr (by simpa using hj) (by simpa using hk))
structure CxOk(c c':Cx):Prop where
 ρ : ∀ k,k<c'.m->c'.ρ k=c.ρ k
 m:c'.m<=c.m
 rk : ∀ k,k<c'.m->c'.rk k=c.rk k\/c'.rk k=none
 tip:c'.tip=c.tip
def IdsOk(c c':Cx)(ni:Nat)(idl:List (Option Nat)):Prop := ∀ (j:Nat) (o:Option Nat),idl[j]?=some o->c'.τ (ni+j)=o.bind c.τ/\ni+j<c'.ni
theorem IdsOk.app{c c':Cx}{ni:Nat}{a b:List (Option Nat)}(h:IdsOk c c' ni (a++b)):IdsOk c c' ni a/\IdsOk c c' (ni+a.length) b:=by refine⟨fun j x hj=>h j x (by rw[zt (getElem?_lt hj)];exact hj),fun j x hj => ?_⟩;rw[Nat.add_assoc];exact h _ x (by rw[List.getElem?_append_right (Nat.le_add_right _ _),Nat.add_sub_cancel_left];exact hj)
section
variable {ρ':Type} {r:ρ'}
theorem encS_ok{m:Nat}{kd:Kd}{q:PS}{ids:List Nat}{K:List V->List Nat->Option ρ'}(h:encS m kd q ids K=some r) :
  ∃ l idl,K l (pushIds idl ids)=some r/\Fresh idl ids /\ ∀ v i ni,Vals v i l->(decS kd v i ni).2=(i+l.length,ni+idl.length) /\
   ∀ (c c':Cx) (e:D),c'.m=m->RS c q e->CxOk c c'->IdsOk c c' ni idl->RS c' (decS kd v i ni).1 e:=by
 cases kd with
 | v=>
  simp only[encS]at h;split at h<;>try contradiction
  next x hx=>refine⟨[x],[],h,trivial,fun v i ni hv=>⟨rfl,fun c c' e _ hr _ _ => ?_⟩⟩;have:=hv 0 x rfl;show e.cl0=(v i).toD;rw[show v i=x from this];exact PS.pure_ok hr hx
 | own sz=>
  simp only[encS]at h;split at h<;>try contradiction
  ·next id sz' xs=>
   split at h<;>try contradiction
   next hc=>
    simp only[zG,Bool.not_eq_true']at hc;have hsz:=zJ hc.1;subst hsz;have hid:id ∉ ids:=fun hm=>by rw[hasB_mem.2 hm]at hc;simp at hc
    refine⟨[.sl xs],[some id],h,⟨hid,trivial⟩,fun v i ni hv=>⟨rfl,fun c c' e _ hr hcx hio => ?_⟩⟩;have hv0:=hv 0 _ rfl;have hv0:v i = .sl xs:=hv0;obtain⟨g,ds,h1,h2,h3,h4,h5⟩:=hr;obtain⟨h6,h7⟩:=hio 0 (some id) rfl;show RS c' (.own ni sz (v i).elems) e;rw[hv0];refine⟨g,ds,h1,h2,h3,h7,?_⟩;rcases h5 with h5 | ⟨l,h8,h9,h10⟩
    ·exact .inl h5
    ·exact .inr ⟨l,h8,by rw[show ni=ni+0 from rfl,h6];exact h9,by rw[hcx.tip];exact h10⟩
  ·next xs=>
   obtain⟨hs,h⟩:=tst_some h;refine⟨[.sl xs],[none],h,trivial,fun v i ni hv=>⟨rfl,fun c c' e _ hr hcx hio => ?_⟩⟩;have hv0:v i = .sl xs:=hv 0 _ rfl;obtain⟨ds,h1,h2⟩:=hr;obtain⟨h6,h7⟩:=hio 0 none rfl;show RS c' (.own ni sz (v i).elems) e;rw[hv0];exact⟨.full,ds,h1,h2,hs,h7,.inl rfl⟩
 | ptr k off=>
  simp only[encS]at h;split at h<;>try contradiction
  next k' off'=>
   split at h<;>try contradiction
   next hc=>simp only[zG]at hc;have h1:=zJ hc.1.1;subst h1;have h2:=zJ hc.1.2;subst h2;have h3:k<m:=zT hc.2;refine⟨[],[],h,trivial,fun v i ni hv=>⟨rfl,fun c c' e hm hr hcx hio => ?_⟩⟩;exact⟨by rw[hm];exact h3,by rw[hcx.ρ k (by rw[hm];exact h3)];exact hr.2⟩
 | ref k sz z=>
  simp only[encS]at h;split at h<;>try contradiction
  next k' sz' off n cp z'=>
   split at h<;>try contradiction
   next hc=>
    simp only[zG]at hc;have h1:=zJ hc.1.1.1;subst h1;have h2:=zJ hc.1.1.2;subst h2;have h3:k<m:=zT hc.1.2;have h4:z=z':=by simpa using hc.2
    subst h4;refine⟨[.int .i64 off,.int .i64 n,.int .i64 cp],[],h,trivial,fun v i ni hv=>⟨rfl,fun c c' e hm hr hcx hio => ?_⟩⟩;have hv0:v i = .int .i64 off:=hv 0 _ rfl;have hv1:v (i+1) = .int .i64 n:=hv 1 _ rfl;have hv2:v (i+2) = .int .i64 cp:=hv 2 _ rfl;show RS c' (.ref k sz (natV (v i)) (natV (v (i+1))) (natV (v (i+2))) z) e;rw[hv0,hv1,hv2];have hk:k<c'.m:=by rw[hm];exact h3
    refine⟨hk,hr.2.1,by rw[hcx.ρ k hk];exact hr.2.2.1,fun s n' hs => ?_⟩;rcases hcx.rk k hk with e | e
    ·exact hr.2.2.2 s n' (by rw[<- e];exact hs)
    ·rw[e]at hs;contradiction
 | same=>simp[encS]at h
theorem encL_ok{m:Nat}{kds:List Kd}{qs:List PS}{ids:List Nat}{K:List V->List Nat->Option ρ'}(h:encL m kds qs ids K=some r) :
  ∃ l idl,K l (pushIds idl ids)=some r/\Fresh idl ids /\ ∀ v i ni,Vals v i l->(decL v i ni kds).2=(i+l.length,ni+idl.length) /\
   ∀ (c c':Cx) (es:List D),c'.m=m->RSL c qs es->CxOk c c'->IdsOk c c' ni idl->RSL c' (decL v i ni kds).1 es:=by
 induction kds generalizing qs ids K with
 | nil=>
  cases qs with
  | cons _ _=>simp[encL]at h
  | nil=>exact⟨[],[],h,trivial,fun v i ni hv=>⟨rfl,fun c c' es _ hr _ _=>by cases es with | nil=>trivial | cons _ _=>exact hr.elim⟩⟩
 | cons kd rest ih=>
  cases qs with
  | nil=>simp[encL]at h
  | cons q s=>
   simp only[encL]at h;obtain⟨l1,idl1,h1,h2,h3⟩:=encS_ok h;obtain⟨l2,idl2,h4,h5,h6⟩:=ih h1;refine⟨l1++l2,idl1++idl2,by rw[pushIds_app];exact h4,h2.app h5,fun v i ni hv => ?_⟩;obtain⟨hv1,hv2⟩:=hv.app;obtain⟨h7,h8⟩:=h3 v i ni hv1;obtain⟨h9,h10⟩:=h6 v (i+l1.length) (ni+idl1.length) hv2;simp only[decL,h7];refine⟨by rw[h9];simp[Nat.add_assoc],fun c c' es hm hr hcx hio => ?_⟩;cases es with
   | nil=>exact hr.elim
   | cons e es=>obtain⟨hi1,hi2⟩:=hio.app;exact⟨h8 c c' e hm hr.1 hcx hi1,h10 c c' es hm hr.2 hcx hi2⟩
def SlotOk(strict head:Bool)(m:Nat)(p p':PSt)(ni:Nat)(idl:List (Option Nat))(t:Nat)(f:Bool)(d:PD):Prop:=
 (∃ f0 f' d',getF p.tm t=some (f0,d)/\f=(head||f0)/\getF p'.tm t=some (f',d')/\(strict=true->f'=true)/\d'.hasOwn=false) \/
 (f=false /\ ∃ dp,getF p'.tm t=some (false,dp) /\ ∀ (c c':Cx) (e:D),c'.m=m->RP c dp e->CxOk c c'->IdsOk c c' ni idl->RP c' d e)
theorem encT_ok{strict:Bool}{m:Nat}{p':PSt}{sl:List (Nat×Kd)}{ids:List Nat}{K:List V->List Nat->Option ρ'}(h:encT strict m p' sl ids K=some r) :
  ∃ l idl,K l (pushIds idl ids)=some r/\Fresh idl ids /\ ∀ head p v i ni,Vals v i l -> ∀ tm i' ni',decT head p v i ni sl=some (tm,i',ni') ->
   i'=i+l.length/\ni'=ni+idl.length /\ ∀ t f d,getF tm t=some (f,d)->SlotOk strict head m p p' ni idl t f d:=by
 have later : ∀ {strict head:Bool} {m:Nat} {p p':PSt} {ni:Nat} {a b:List (Option Nat)} {t:Nat} {f:Bool} {d:PD},SlotOk strict head m p p' (ni+a.length) b t f d->SlotOk strict head m p p' ni (a++b) t f d:=by
  intro strict head m p p' ni a b t f d hh;rcases hh with hh | ⟨h1,dp,h2,h3⟩
  ·exact .inl hh
  ·exact .inr ⟨h1,dp,h2,fun c c' e hm hr hcx hio=>h3 c c' e hm hr hcx hio.app.2⟩
 induction sl generalizing ids K with
 | nil=>refine⟨[],[],h,trivial,fun head p v i ni hv tm i' ni' hd => ?_⟩;simp only[decT,zh,zi]at hd;obtain⟨rfl,rfl,rfl⟩:=hd;exact⟨rfl,rfl,fun t f d ht=>by simp[getF]at ht⟩
 | cons a rest ih=>
  obtain⟨t0,kd⟩:=a;simp only[encT]at h;split at h<;>try contradiction
  next f' d' hF=>
   -- a kind that is encoded
   have other : ∀ {l1:List V} {idl1:List (Option Nat)} {q1:(Nat->V)->Nat->Nat->PS},f'=false->kd ≠ .same ->
     encT strict m p' rest (pushIds idl1 ids) (fun l' ids=>K (l1++l') ids)=some r->Fresh idl1 ids ->
     (∀ v i ni,Vals v i l1->(decS kd v i ni).2=(i+l1.length,ni+idl1.length) /\ ∀ (c c':Cx) (e:D),c'.m=m->RP c d' e->CxOk c c'->IdsOk c c' ni idl1->RP c' (.s (decS kd v i ni).1) e) ->
     ∃ l idl,K l (pushIds idl ids)=some r/\Fresh idl ids /\ ∀ head p v i ni,Vals v i l -> ∀ tm i' ni',decT head p v i ni ((t0,kd)::rest)=some (tm,i',ni') ->
      i'=i+l.length/\ni'=ni+idl.length /\ ∀ t f d,getF tm t=some (f,d)->SlotOk strict head m p p' ni idl t f d:=by
    intro l1 idl1 _ hf hne h1 h2 h3;obtain⟨l2,idl2,h4,h5,h6⟩:=ih h1;refine⟨l1++l2,idl1++idl2,by rw[pushIds_app];exact h4,h2.app h5,fun head p v i ni hv tm i' ni' hd => ?_⟩;obtain⟨hv1,hv2⟩:=hv.app;obtain⟨h7,h8⟩:=h3 v i ni hv1;have hd:(match decT head p v (decS kd v i ni).2.1 (decS kd v i ni).2.2 rest with | some (l,q)=>some ((t0,false,PD.s (decS kd v i ni).1)::l,q) | none=>none)=some (tm,i',ni'):=by cases kd<;>first | exact hd | exact(hne rfl).elim
    rw[h7]at hd;split at hd<;>try contradiction
    next tm2 q hq=>
     obtain⟨i2,ni2⟩:=q;obtain⟨h9,h10,h11⟩:=h6 head p v _ _ hv2 tm2 i2 ni2 hq;simp only[zh,zi]at hd;obtain⟨rfl,rfl,rfl⟩:=hd;refine⟨by rw[h9];simp[Nat.add_assoc],by rw[h10];simp[Nat.add_assoc],fun t f d ht => ?_⟩;simp only[getF]at ht;split at ht
     ·next hb=>
      have hb:=zJ hb;subst hb;simp only[zh,zi]at ht;obtain⟨rfl,rfl⟩:=ht;exact .inr ⟨rfl,d',by rw[hF,hf],fun c c' e hm hr hcx hio=>h8 c c' e hm hr hcx hio.app.1⟩
     ·exact later (h11 t f d ht)
   split at h
   ·split at h<;>try contradiction
    next hc=>
     simp only[zG,ya,Bool.not_eq_true']at hc;obtain⟨l2,idl2,h4,h5,h6⟩:=ih h;refine⟨l2,idl2,h4,h5,fun head p v i ni hv tm i' ni' hd => ?_⟩;simp only[decT]at hd;split at hd<;>try contradiction
     next f0 d0 hF0=>
      split at hd<;>try contradiction
      next tm2 q hq=>
       obtain⟨i2,ni2⟩:=q;obtain⟨h9,h10,h11⟩:=h6 head p v _ _ hv tm2 i2 ni2 hq;simp only[zh,zi]at hd;obtain⟨rfl,rfl,rfl⟩:=hd;refine⟨h9,h10,fun t f d ht => ?_⟩;simp only[getF]at ht;split at ht
       ·next hb=>
        have hb:=zJ hb;subst hb;simp only[zh,zi]at ht;obtain⟨rfl,rfl⟩:=ht;refine .inl ⟨f0,f',d',hF0,rfl,hF,fun hs => ?_,hc.2⟩;rcases hc.1 with h12 | h12
        ·rw[hs]at h12;contradiction
        ·exact h12
       ·exact h11 t f d ht
   ·next hne=>
    split at h<;>try contradiction
    next _=>
     split at h
     ·next q=>
      obtain⟨l1,idl1,h1,h2,h3⟩:=encS_ok h;exact other (q1:=fun v i ni=>(decS kd v i ni).1) rfl (fun e=>hne e) h1 h2 (fun v i ni hv=>⟨(h3 v i ni hv).1,fun c c' e hm hr hcx hio=>(h3 v i ni hv).2 c c' e hm hr hcx hio⟩)
     ·next ps=>
      split at h<;>try contradiction
      split at h<;>try contradiction
      next x hx=>refine other (l1:=[.agg x]) (idl1:=[]) (q1:=fun v i ni=>(decS .v v i ni).1) rfl (by simp) h trivial (fun v i ni hv=>⟨rfl,fun c c' e hm hr hcx hio => ?_⟩);have hv0:v i = .agg x:=hv 0 _ rfl;show e.cl0=(v i).toD;rw[hv0];obtain⟨ds,rfl,h1,_⟩:=hr;simp only[D.cl0,V.toD,pureL_ok h1 hx]
def RowOk(strict head:Bool)(m:Nat)(ni:Nat)(idl:List (Option Nat))(r0 r' q:Row):Prop:=
 (q=⟨head||r0.ro,r0.c⟩/\(strict=true->r'.ro=true)/\r'.c.hasOwn=false) \/
 (q.ro=false/\r'.ro=false/\(∀ f s x,q.c = .arr f s x -> ∃ f' x',r'.c = .arr f' s x'/\x'.length=x.length)/\(q.c = .dead\/r'.c ≠ .dead) /\ ∀ (c c':Cx) (o:Ob),c'.m=m->RW c r'.c o->CxOk c c'->IdsOk c c' ni idl->RW c' q.c o)
theorem eqFz_ok{a b:Fz}(h:eqFz a b=true):a=b:=by cases a<;>cases b<;>simp_all [eqFz]
theorem encR_ok{strict:Bool}{m:Nat}{rks:List RK}{rows:List Row}{ids:List Nat}{K:List V->List Nat->Option ρ'}(h:encR strict m rks rows ids K=some r) :
  ∃ l idl,K l (pushIds idl ids)=some r/\Fresh idl ids /\ ∀ head (rows0:List Row) v i ni,Vals v i l -> ∀ qs i' ni',decR head v i ni rks rows0=some (qs,i',ni') ->
   ni'=ni+idl.length/\qs.length=rows0.length/\qs.length<=rows.length /\ ∀ (k:Nat) (q:Row),qs[k]?=some q -> ∃ r0 r',rows0[k]?=some r0/\rows[k]?=some r'/\RowOk strict head m ni idl r0 r' q:=by
 have later : ∀ {strict head:Bool} {m:Nat} {ni:Nat} {a b:List (Option Nat)} {r0 r' q:Row},RowOk strict head m (ni+a.length) b r0 r' q->RowOk strict head m ni (a++b) r0 r' q:=by
  intro strict head m ni a b r0 r' q hh;rcases hh with hh | ⟨h1,h2,h3,h4,h5⟩
  ·exact .inl hh
  ·exact .inr ⟨h1,h2,h3,h4,fun c c' o hm hr hcx hio=>h5 c c' o hm hr hcx hio.app.2⟩
 induction rks generalizing rows ids K with
 | nil=>
  have h:K [] ids=some r:=by
   cases rows with
   | nil=>exact h
   | cons _ _=>simp only[encR]at h;split at h<;>first | exact h | contradiction
  refine⟨[],[],h,trivial,fun head rows0 v i ni hv qs i' ni' hd => ?_⟩;cases rows0 with
  | cons _ _=>simp[decR]at hd
  | nil=>simp only[decR,zh,zi]at hd;obtain⟨rfl,rfl,rfl⟩:=hd;exact⟨rfl,rfl,Nat.zero_le _,fun k q hk=>by simp at hk⟩
 | cons rk rest ih=>
  cases rows with
  | nil=>simp[encR]at h
  | cons rw s=>
   obtain⟨f,c⟩:=rw;simp only[encR]at h
   -- a kind that is encoded
   have other : ∀ {l1:List V} {idl1:List (Option Nat)},f=false ->
     encR strict m rest s (pushIds idl1 ids) (fun l' ids=>K (l1++l') ids)=some r->Fresh idl1 ids ->
     (∀ v i ni,Vals v i l1 -> ∃ cq:RowC,(∀ head (f0:Bool) (c0:RowC) rows0,decR head v i ni (rk::rest) (⟨f0,c0⟩::rows0)=match decR head v (i+l1.length) (ni+idl1.length) rest rows0 with | some (l,q)=>some (⟨false,cq⟩::l,q) | none=>none) /\
      (∀ f s x,cq = .arr f s x -> ∃ f' x',c = .arr f' s x'/\x'.length=x.length)/\(cq = .dead\/c ≠ .dead) /\ ∀ (cx c':Cx) (o:Ob),c'.m=m->RW cx c o->CxOk cx c'->IdsOk cx c' ni idl1->RW c' cq o) ->
     ∃ l idl,K l (pushIds idl ids)=some r/\Fresh idl ids /\ ∀ head (rows0:List Row) v i ni,Vals v i l -> ∀ qs i' ni',decR head v i ni (rk::rest) rows0=some (qs,i',ni') ->
      ni'=ni+idl.length/\qs.length=rows0.length/\qs.length<=(⟨f,c⟩::s).length /\ ∀ (k:Nat) (q:Row),qs[k]?=some q -> ∃ r0 r',rows0[k]?=some r0/\((⟨f,c⟩:Row)::s)[k]?=some r'/\RowOk strict head m ni idl r0 r' q:=by
    intro l1 idl1 hf h1 h2 h3;obtain⟨l2,idl2,h4,h5,h6⟩:=ih h1;refine⟨l1++l2,idl1++idl2,by rw[pushIds_app];exact h4,h2.app h5,fun head rows0 v i ni hv qs i' ni' hd => ?_⟩;obtain⟨hv1,hv2⟩:=hv.app;obtain⟨cq,h7,h8,h8',h9⟩:=h3 v i ni hv1;cases rows0 with
    | nil=>simp[decR]at hd
    | cons r0 rows0=>
     obtain⟨f0,c0⟩:=r0;rw[h7]at hd;split at hd<;>try contradiction
     next qs2 q2 hq=>
      obtain⟨i2,ni2⟩:=q2;obtain⟨h10,h11,h12,h13⟩:=h6 head rows0 v _ _ hv2 qs2 i2 ni2 hq;simp only[zh,zi]at hd;obtain⟨rfl,rfl,rfl⟩:=hd;refine⟨by rw[h10];simp[Nat.add_assoc],by simp[h11],by simp;exact h12,fun k q hk => ?_⟩;cases k with
      | zero=>simp at hk;subst hk;exact⟨⟨f0,c0⟩,⟨f,c⟩,by simp,by simp,.inr ⟨rfl,hf,h8,h8',fun cx c' o hm hr hcx hio=>h9 cx c' o hm hr hcx hio.app.1⟩⟩
      | succ k=>obtain⟨r0,r',h14,h15,h16⟩:=h13 k q (by simpa using hk);exact⟨r0,r',by simpa using h14,by simpa using h15,later h16⟩
   split at h
   ·-- untouched
    split at h<;>try contradiction
    next hc=>
     simp only[zG,ya,Bool.not_eq_true']at hc;obtain⟨l2,idl2,h4,h5,h6⟩:=ih h;refine⟨l2,idl2,h4,h5,fun head rows0 v i ni hv qs i' ni' hd => ?_⟩;cases rows0 with
     | nil=>simp[decR]at hd
     | cons r0 rows0=>
      obtain⟨f0,c0⟩:=r0;simp only[decR]at hd;split at hd<;>try contradiction
      next qs2 q2 hq=>
       obtain⟨i2,ni2⟩:=q2;obtain⟨h10,h11,h12,h13⟩:=h6 head rows0 v _ _ hv qs2 i2 ni2 hq;simp only[zh,zi]at hd;obtain⟨rfl,rfl,rfl⟩:=hd;refine⟨h10,by simp[h11],by simp;exact h12,fun k q hk => ?_⟩;cases k with
       | zero=>
        simp at hk;subst hk;refine⟨⟨f0,c0⟩,⟨f,c⟩,by simp,by simp,.inl ⟨rfl,fun hs => ?_,hc.2⟩⟩;rcases hc.1 with h14 | h14
        ·rw[hs]at h14;contradiction
        ·exact h14
       | succ k=>obtain⟨r0,r',h14,h15,h16⟩:=h13 k q (by simpa using hk);exact⟨r0,r',by simpa using h14,by simpa using h15,h16⟩
   ·-- dead
    split at h<;>try contradiction
    next _=>refine other (l1:=[]) (idl1:=[]) rfl h trivial (fun v i ni hv=>⟨.dead,fun head f0 c0 rows0=>rfl,fun f s x e=>by contradiction,.inl rfl,fun _ _ _ _ _ _ _=>trivial⟩)
   ·-- a box
    next n=>
    split at h<;>try contradiction
    next _=>
     split at h<;>try contradiction
     ·next n' x=>
      split at h<;>try contradiction
      next hn=>have hn:=zJ hn;subst hn;refine other (l1:=[x]) (idl1:=[]) rfl h trivial (fun v i ni hv=>⟨.box n (v i),fun head f0 c0 rows0=>rfl,fun f s x e=>by contradiction,.inr (by simp),fun cx c' o _ hr _ _ => ?_⟩);have hv0:v i=x:=hv 0 _ rfl;rw[hv0];exact hr
     ·next ps=>
      split at h<;>try contradiction
      next hn=>
       simp only[zG]at hn;have hn1:=zJ hn.1;split at h<;>try contradiction
       next l hl=>refine other (l1:=[.agg l]) (idl1:=[]) rfl h trivial (fun v i ni hv=>⟨.box n (v i),fun head f0 c0 rows0=>rfl,fun f s x e=>by contradiction,.inr (by simp),fun cx c' o _ hr _ _ => ?_⟩);have hv0:v i = .agg l:=hv 0 _ rfl;rw[hv0];obtain⟨ds,rfl,h1,h2⟩:=hr;have h3:=pureL_ok h1 hl;exact⟨ds,rfl,h3,okN_mk (by show l.length=n;rw[hn1,RSL_len h1,len_of h3]) (allOneV_of h3 h2)⟩
   ·-- cells
    next kds=>
    split at h<;>try contradiction
    next _=>
     split at h<;>try contradiction
     ·next ps=>
      obtain⟨l1,idl1,h1,h2,h3⟩:=encL_ok h;refine other rfl h1 h2 (fun v i ni hv=>⟨.cells (decL v i ni kds).1,fun head f0 c0 rows0 => ?_,fun f s x e=>by contradiction,.inr (by simp),fun cx c' o hm hr hcx hio => ?_⟩)
      ·have h7:=(h3 v i ni hv).1;simp only[decR];rw[h7];cases decR head v (i+l1.length) (ni+idl1.length) rest rows0<;>rfl
      ·obtain⟨ds,rfl,h4,h5⟩:=hr;exact⟨ds,rfl,(h3 v i ni hv).2 cx c' ds hm h4 hcx hio,h5⟩
     ·next n x=>
      have hh : ∃ ps,(okN n x=true->ps=x.parts.map .v)/\encL m kds ps ids (fun l ids=>encR strict m rest s ids fun l' ids=>K (l++l') ids)=some r:=by
       by_cases hx:okN n x=true
       ·exact⟨_,fun _=>rfl,cellsFrom_all hx h⟩
       ·rcases cellsFrom_ok h with⟨_,h2⟩ | ⟨_,h2⟩
        ·exact⟨_,fun h=>(hx h).elim,h2⟩
        ·exact⟨_,fun h=>(hx h).elim,h2⟩
      obtain⟨ps,hps,h⟩:=hh;obtain⟨l1,idl1,h1,h2,h3⟩:=encL_ok h;refine other rfl h1 h2 (fun v i ni hv=>⟨.cells (decL v i ni kds).1,fun head f0 c0 rows0 => ?_,fun f s x e=>by contradiction,.inr (by simp),fun cx c' o hm hr hcx hio => ?_⟩)
      ·have h7:=(h3 v i ni hv).1;simp only[decR];rw[h7];cases decR head v (i+l1.length) (ni+idl1.length) rest rows0<;>rfl
      ·obtain⟨ds,rfl,h4,h5⟩:=hr;have h6:=RSL_v (c:=cx) h4;rw[<- hps h5]at h6;exact⟨ds,rfl,(h3 v i ni hv).2 cx c' ds hm h6 hcx hio,allOne_of h4 (okN_one h5)⟩
   ·-- elements
    next fz sz=>
    split at h<;>try contradiction
    next _=>
     split at h<;>try contradiction
     next fz' sz' xs=>
      split at h<;>try contradiction
      next hc=>
       simp only[zG]at hc;have h1:=zJ hc.1;subst h1;have h2:=eqFz_ok hc.2;subst h2;refine other (l1:=[.sl xs]) (idl1:=[]) rfl h trivial (fun v i ni hv => ?_);have hv0:v i = .sl xs:=hv 0 _ rfl;refine⟨.arr fz sz (v i).elems,fun head f0 c0 rows0=>rfl,fun f s x e => ?_,.inr (by simp),fun cx c' o _ hr _ _ => ?_⟩
       ·simp only[RowC.arr.injEq]at e;obtain⟨rfl,rfl,rfl⟩:=e;exact⟨fz,xs,rfl,by rw[hv0];rfl⟩
       ·rw[hv0];exact hr
   ·-- a text that is gone through
    split at h<;>try contradiction
    next _=>
     split at h<;>try contradiction
     next x n=>refine other (l1:=[.str x,.int .i64 (n:Int)]) (idl1:=[]) rfl h trivial (fun v i ni hv => ?_);have hv0:v i = .str x:=hv 0 _ rfl;have hv1:v (i+1) = .int .i64 (n:Int):=hv 1 _ rfl;refine⟨.iter (txtV (v i)) (natV (v (i+1))),fun head f0 c0 rows0=>rfl,fun f s x e=>by contradiction,.inr (by simp),fun cx c' o _ hr _ _ => ?_⟩;rw[hv0,hv1,show natV (.int .i64 (n:Int))=n by simp[natV]];exact hr
   ·-- a builder
    split at h<;>try contradiction
    next _=>
     split at h<;>try contradiction
     next t' e' x=>
      split at h<;>try contradiction
      next hc=>simp only[zG]at hc;have h1:=zJ hc.1;subst h1;have h2:=zJ hc.2;subst h2;refine other (l1:=[.str x]) (idl1:=[]) rfl h trivial (fun v i ni hv => ?_);have hv0:v i = .str x:=hv 0 _ rfl;refine⟨.bld _ _ (txtV (v i)),fun head f0 c0 rows0=>rfl,fun f s x e=>by contradiction,.inr (by simp),fun cx c' o _ hr _ _ => ?_⟩;rw[hv0];exact hr
end
end
section
def CP.low(m:Nat):CP->Prop
 | .v _=>True
 | .p k _=>k<m
def PS.low(m:Nat):PS->Prop
 | .ptr k _=>k<m
 | .ptrA k _ _ _=>k<m
 | .ref k _ _ _ _ _=>k<m
 | .uref k _ _=>k<m
 | .fn _ cap => ∀ q∈cap,q.low m
 | _=>True
def PD.low(m:Nat):PD->Prop
 | .s q=>q.low m
 | .agg ps => ∀ q∈ps,q.low m
theorem RCL.low{ρ:Nat->Nat}{m:Nat}{cap:List CP}{ds:List D}(h:RCL ρ m cap ds) : ∀ q∈cap,q.low m:=by
 induction cap generalizing ds with
 | nil=>intro q hq;simp at hq
 | cons a r ih=>cases ds with
  | nil=>exact h.elim
  | cons d s=>
   intro q hq;rcases List.mem_cons.1 hq with rfl | hq
   ·cases q with
    | v x=>trivial
    | p k off=>exact h.1.1
   ·exact ih h.2 q hq
theorem RS.low{c:Cx}{q:PS}{d:D}(h:RS c q d):q.low c.m:=by
 cases q with
 | ptr k off=>exact h.1
 | ptrA k sz i off=>exact h.1
 | ref k sz off n cp z=>exact h.1
 | uref k sz n=>exact h.1
 | fn f cap=>obtain⟨ds,_,h⟩:=h;exact h.low
 | _=>trivial
theorem RSL.low{c:Cx}{ps:List PS}{ds:List D}(h:RSL c ps ds) : ∀ q∈ps,q.low c.m:=by
 induction ps generalizing ds with
 | nil=>intro q hq;simp at hq
 | cons a r ih=>cases ds with
  | nil=>exact h.elim
  | cons d s=>
   intro q hq;rcases List.mem_cons.1 hq with rfl | hq
   ·exact h.1.low
   ·exact ih h.2 q hq
theorem RP.low{c:Cx}{q:PD}{d:D}(h:RP c q d):q.low c.m:=by
 cases q with
 | s q=>exact RS.low h
 | agg ps=>obtain⟨ds,_,h,_⟩:=h;exact h.low
theorem RCL.at{ρ ρ':Nat->Nat}{m m':Nat}{cap:List CP}{ds:List D}(h:RCL ρ m cap ds)(hl : ∀ q∈cap,q.low m')(hρ : ∀ k,k<m'->ρ' k=ρ k):RCL ρ' m' cap ds:=by
 induction cap generalizing ds with
 | nil=>cases ds with | nil=>trivial | cons _ _=>exact h.elim
 | cons a r ih=>cases ds with
  | nil=>exact h.elim
  | cons d s=>
   refine⟨?_,ih h.2 (fun q hq=>hl q (zP _ hq))⟩;have:=hl a zz;cases a with
   | v x=>exact h.1
   | p k off=>exact⟨this,by rw[hρ k this];exact h.1.2⟩
theorem RS.at{c c':Cx}{q:PS}{d:D}(h:RS c q d)(hl:q.low c'.m)(ho:hasOwnL [q]=false)(hc:CxOk c c'):RS c' q d:=by
 cases q with
 | v x=>exact h
 | own id sz xs=>simp[hasOwnL]at ho
 | full xs=>exact h
 | ptr k off=>exact⟨hl,by rw[hc.ρ k hl];exact h.2⟩
 | ptrA k sz i off=>
  refine⟨hl,by rw[hc.ρ k hl];exact h.2.1,fun s n hs => ?_⟩;rcases hc.rk k hl with e | e
  ·exact h.2.2 s n (by rw[<- e];exact hs)
  ·rw[e]at hs;contradiction
 | ref k sz off n cp z=>
  refine⟨hl,h.2.1,by rw[hc.ρ k hl];exact h.2.2.1,fun s n hs => ?_⟩;rcases hc.rk k hl with e | e
  ·exact h.2.2.2 s n (by rw[<- e];exact hs)
  ·rw[e]at hs;contradiction
 | uref k sz n=>
  refine⟨hl,by rw[hc.ρ k hl];exact h.2.1,fun s n hs => ?_⟩;rcases hc.rk k hl with e | e
  ·exact h.2.2 s n (by rw[<- e];exact hs)
  ·rw[e]at hs;contradiction
 | el cs=>exact h
 | elx sz x off=>exact h
 | fn f cap=>obtain⟨ds,h1,h2⟩:=h;exact⟨ds,h1,RCL.at h2 hl hc.ρ⟩
theorem RSL.at{c c':Cx}{ps:List PS}{ds:List D}(h:RSL c ps ds)(hl : ∀ q∈ps,q.low c'.m)(ho:hasOwnL ps=false)(hc:CxOk c c'):RSL c' ps ds:=by
 induction ps generalizing ds with
 | nil=>cases ds with | nil=>trivial | cons _ _=>exact h.elim
 | cons a r ih=>cases ds with
  | nil=>exact h.elim
  | cons d s=>rw[hasOwn_cons,Bool.or_eq_false_iff]at ho;exact⟨RS.at h.1 (hl a zz) ho.1 hc,ih h.2 (fun q hq=>hl q (zP _ hq)) ho.2⟩
theorem RP.at{c c':Cx}{q:PD}{d:D}(h:RP c q d)(hl:q.low c'.m)(ho:q.hasOwn=false)(hc:CxOk c c'):RP c' q d:=by
 cases q with
 | s q=>exact RS.at h hl ho hc
 | agg ps=>obtain⟨ds,h1,h2,h3⟩:=h;exact⟨ds,h1,RSL.at h2 hl ho hc,h3⟩
theorem decR_len{head:Bool}{v:Nat->V}{rks:List RK}{rows:List Row}{i ni:Nat}{z:List Row×Nat×Nat}(h:decR head v i ni rks rows=some z):rks.length=rows.length:=by
 induction rks generalizing rows i ni z with
 | nil=>cases rows with | nil=>rfl | cons _ _=>simp[decR]at h
 | cons rk r ih=>cases rows with
  | nil=>simp[decR]at h
  | cons a s=>obtain⟨f,c⟩:=a;cases rk<;>simp only[decR]at h<;>split at h<;>first | contradiction | (next hq=>simp[ih hq])
structure Again(strict head:Bool)(p p' q:PSt)(τ' τ'':Nat->Option Nat):Prop where
 len:q.rows.length=p.rows.length
 le:q.rows.length<=p'.rows.length
 τn : ∀ i l,τ'' i=some l -> ∃ j,τ' j=some l
 slot : ∀ t d,getF q.tm t=some (true,d) -> ∃ f0 f',getF p.tm t=some (f0,d)/\(head||f0)=true/\getF p'.tm t=some (f',d)/\(strict=true->f'=true)/\d.hasOwn=false
 row : ∀ (k:Nat) (rq:Row),q.rows[k]?=some rq -> ∃ r0 r':Row,p.rows[k]?=some r0/\p'.rows[k]?=some r' /\
  ((rq=⟨head||r0.ro,r0.c⟩/\r0.c=r'.c/\(strict=true->r'.ro=true)/\r0.c.hasOwn=false)\/(rq.ro=false/\r'.ro=false))
 rk : ∀ k,k<q.rows.length->rkOf q.rows k=rkOf p'.rows k\/rkOf q.rows k=none
theorem encK_ok{ρ':Type}{r:ρ'}{strict:Bool}{sh:Sh}{p':PSt}{K:(Nat->V)->Option ρ'}(h:encK strict sh p' K=some r) :
  ∃ v,K v=some r /\ ∀ (head:Bool) (p q:PSt),dec head sh p v=some q -> ∀ (ρ0 ρ1:Nat->Nat) (τ0 τ1:Nat->Option Nat) (st0 st1:St),Sim ρ0 τ0 p st0->Sim ρ1 τ1 p' st1 ->
   (∀ t f' d',getF p'.tm t=some (f',d')->(strict=true->f'=true) -> ∀ f0 d,getF p.tm t=some (f0,d)->d=d') ->
   (∀ (k:Nat) (r0 r':Row),p.rows[k]?=some r0->p'.rows[k]?=some r'->(strict=true->r'.ro=true)->r0.c=r'.c) ->
   ∃ τ2,Sim ρ1 τ2 q st1/\Again strict head p p' q τ1 τ2:=by
 unfold encK at h;obtain⟨l1,idl1,h1,h2,h3⟩:=encT_ok h;obtain⟨l2,idl2,h4,h5,h6⟩:=encR_ok h1;refine⟨_,h4,fun head p q hq ρ0 ρ1 τ0 τ1 st0 st1 hS0 hS1 H1 H2 => ?_⟩;have hF:Fresh (idl1++idl2) []:=h2.app h5;unfold dec at hq;split at hq<;>try contradiction
 next tm i1 ni1 ht=>
  split at hq<;>try contradiction
  next rows i2 ni2 hr=>
   injection hq with hq;obtain⟨hv1,hv2⟩:=(Vals.vec (l1++l2)).app;rw[zk]at hv2;obtain⟨h7,h8,h9⟩:=h3 head p _ 0 0 hv1 tm i1 ni1 ht;rw[zk]at h7 h8;subst h7;subst h8;obtain⟨h10,h11,h12,h13⟩:=h6 head p.rows _ _ _ hv2 rows i2 ni2 hr;have hm:=decR_len hr;have hqr:q.rows=rows:=by rw[<- hq]
   have hqt:q.tm=tm:=by rw[<- hq]
   have hqn:q.ni=(idl1++idl2).length:=by rw[<- hq];simp[h10]
   -- the lineages
   let τ2:Nat->Option Nat:=fun i=>match(idl1++idl2)[i]? with | some (some id)=>τ1 id | _=>none
   have hτ2 : ∀ i l,τ2 i=some l -> ∃ id,(idl1++idl2)[i]?=some (some id)/\τ1 id=some l:=by
    intro i l hi;simp only[τ2]at hi;split at hi
    ·next id hid=>exact⟨id,hid,hi⟩
    ·contradiction
   have hlen:q.rows.length=p.rows.length:=by rw[hqr,h11]
   have hle:q.rows.length<=p'.rows.length:=by rw[hqr];exact h12
   have hrow : ∀ (k:Nat) (rq:Row),q.rows[k]?=some rq -> ∃ r0 r':Row,p.rows[k]?=some r0/\p'.rows[k]?=some r'/\RowOk strict head sh.rows.length idl1.length idl2 r0 r' rq:=by intro k rq hk;rw[hqr]at hk;exact h13 k rq hk
   have hrk : ∀ k,k<q.rows.length->rkOf q.rows k=rkOf p'.rows k\/rkOf q.rows k=none:=by
    intro k hk;obtain⟨rq,hrq⟩:=get_lt hk;obtain⟨r0,r',h14,h15,h16⟩:=hrow k rq hrq;rcases h16 with⟨h17,h18,h19⟩ | ⟨h17,h18,h19,_,h20⟩
    ·left;have:=H2 k r0 r' h14 h15 h18;subst h17;obtain⟨f0,c0⟩:=r0;obtain⟨f',c'⟩:=r';simp only at this;subst this;cases c0<;>simp only[rkOf,hrq,h15]
    ·obtain⟨fq,cq⟩:=rq;cases hcq:cq with
     | arr f s x=>left;obtain⟨f',x',h21,h22⟩:=h19 f s x hcq;obtain⟨f'',c'⟩:=r';simp only at h21;subst h21;subst hcq;simp only[rkOf,hrq,h15,h22]
     | _=>right;subst hcq;simp only[rkOf,hrq]
   have hcx:CxOk (cxOf ρ1 τ1 p' st1) (cxOf ρ1 τ2 q st1):=⟨fun _ _=>rfl,hle,hrk,rfl⟩
   have hcm:(cxOf ρ1 τ2 q st1).m=sh.rows.length:=by show q.rows.length=_;rw[hlen,hm]
   have hio:IdsOk (cxOf ρ1 τ1 p' st1) (cxOf ρ1 τ2 q st1) 0 (idl1++idl2):=by intro j o hj;rw[zk];refine⟨?_,by show j<q.ni;rw[hqn];exact getElem?_lt hj⟩;show τ2 j=o.bind τ1;simp only[τ2,hj];cases o<;>rfl
   have hio1:=hio.app.1;have hio2:=hio.app.2;rw[zk]at hio2;refine⟨τ2,⟨fun t f d hd => ?_,fun k hk=>hS1.nx k (zK hk hle),fun k rq hk => ?_,fun j k hj hk=>hS1.inj j k (zK hj hle) (zK hk hle),fun i l hi => ?_,fun i j l hi hj => ?_⟩,
    hlen,hle,fun i l hi => ?_,fun t d hd => ?_,fun k rq hk => ?_,hrk⟩
   ·rw[hqt]at hd;rcases h9 t f d hd with⟨f0,f',d',h14,h15,h16,h17,h18⟩ | ⟨h14,dp,h15,h16⟩
    ·have:=H1 t f' d' h16 h17 f0 d h14;subst this;obtain⟨e,he,hre⟩:=hS1.tm t f' d h16;obtain⟨e0,_,hre0⟩:=hS0.tm t f0 d h14;refine⟨e,he,RP.at hre ?_ h18 hcx⟩;have:=hre0.low;show d.low q.rows.length;rw[hlen];exact this
    ·obtain⟨e,he,hre⟩:=hS1.tm t false dp h15;exact⟨e,he,h16 _ _ e hcm hre hcx hio1⟩
   ·obtain⟨r0,r',h14,h15,h16⟩:=hrow k rq hk;rcases h16 with⟨h17,h18,h19⟩ | ⟨h17,h18,h19,h19',h20⟩
    ·have hc:=H2 k r0 r' h14 h15 h18;obtain⟨o,ho1,ho2⟩:=hS1.rows k r' h15;rw[<- hc]at ho1 ho2 h19;subst h17;refine⟨o,ho1,?_⟩;obtain⟨f0,c0⟩:=r0;simp only at ho2 h19 ⊢;cases c0 with
     | cells ps=>obtain⟨ds,h21,h22,h23⟩:=ho2;refine⟨ds,h21,RSL.at h22 ?_ h19 hcx,h23⟩;obtain⟨o0,_,ds0,_,hr0,_⟩:=hS0.rows k _ h14;have:=hr0.low;show ∀ q'∈ps,q'.low q.rows.length;rw[hlen];exact this
     | _=>exact ho2
    ·obtain⟨o,ho1,ho2⟩:=hS1.rows k r' h15;refine⟨o,?_,h20 _ _ o hcm ho2 hcx hio2⟩;rcases ho1 with ho1 | ho1
     ·rcases h19' with h21 | h21
      ·exact .inl h21
      ·exact(h21 ho1).elim
     ·exact .inr ho1
   ·obtain⟨id,h14,h15⟩:=hτ2 i l hi;exact⟨by rw[hqn];exact getElem?_lt h14,(hS1.lin id l h15).2⟩
   ·obtain⟨id,h14,h15⟩:=hτ2 i l hi;obtain⟨id',h16,h17⟩:=hτ2 j l hj;have:=hS1.linj id id' l h15 h17;subst this;exact hF.inj h14 h16
   ·obtain⟨id,_,h15⟩:=hτ2 i l hi;exact⟨id,h15⟩
   ·rw[hqt]at hd;rcases h9 t true d hd with⟨f0,f',d',h14,h15,h16,h17,h18⟩ | ⟨h14,_⟩
    ·have:=H1 t f' d' h16 h17 f0 d h14;subst this;exact⟨f0,f',h14,h15.symm,h16,h17,h18⟩
    ·contradiction
   ·obtain⟨r0,r',h14,h15,h16⟩:=hrow k rq hk;refine⟨r0,r',h14,h15,?_⟩;rcases h16 with⟨h17,h18,h19⟩ | ⟨h17,h18,_⟩
    ·have hc:=H2 k r0 r' h14 h15 h18;exact .inl ⟨h17,hc,h18,by rw[hc];exact h19⟩
    ·exact .inr ⟨h17,h18⟩
structure In(ρ:Nat->Nat)(τ:Nat->Option Nat)(p:PSt)(st:St)(ρ1:Nat->Nat)(τ1:Nat->Option Nat)(pv:PSt)(st1:St):Prop where
 sim:Sim ρ1 τ1 pv st1
 wf:Wf pv
 nx:st.nx<=st1.nx
 lo:st1.lo=st.lo
 len:pv.rows.length=p.rows.length
 ρs : ∀ k,k<p.rows.length->ρ1 k=ρ k
 τn : ∀ i l,τ1 i=some l->(∃ j,τ j=some l)\/st.nx<=l
 slots : ∀ t d,getF pv.tm t=some (true,d)->(∃ f,getF p.tm t=some (f,d))/\get st1.tm t=get st.tm t
 rows : ∀ (k:Nat) (r:Row),pv.rows[k]?=some r->r.ro=true -> ∃ f,p.rows[k]?=some ⟨f,r.c⟩
 rowf : ∀ (k:Nat) (r0 r:Row),p.rows[k]?=some r0->pv.rows[k]?=some r->r0.ro=true->r.ro=true
 rk : ∀ k,k<p.rows.length->rkOf pv.rows k=rkOf p.rows k\/rkOf pv.rows k=none
 mem : ∀ b,b<st.nx->(∀ (k:Nat) (r:Row),p.rows[k]?=some r->ρ k=b->r.ro=true)->st1.mem b=st.mem b
 tip : ∀ l,l<st.nx->(∀ i,τ i≠some l)->st1.tip l=st.tip l
 lw : ∀ m,m<=st.lw->m<=st.nx->(∀ (k:Nat) (r:Row),p.rows[k]?=some r->r.ro=false\/r.c.isArr=true->m<=ρ k)->(∀ i l,τ i=some l->m<=l)->m<=st1.lw
section
variable {ρ:Nat->Nat} {τ:Nat->Option Nat} {p:PSt} {st:St}
theorem in_enter{ρ':Type}{r:ρ'}(hS:Sim ρ τ p st){h:Sh}{K:(Nat->V)->Option ρ'}(he:encK false h p K=some r) : ∃ v,K v=some r /\ ∀ pv,dec true h p v=some pv -> ∃ τ1,In ρ τ p st ρ τ1 pv st:=by
 obtain⟨v,h1,h2⟩:=encK_ok he;refine⟨v,h1,fun pv hd => ?_⟩;obtain⟨τ1,h3,h4⟩:=h2 true p pv hd ρ ρ τ τ st st hS hS (fun t f' d' h1 _ f0 d h2=>by rw[h1]at h2;simp only[zh,zi]at h2;exact h2.2.symm) (fun k r0 r' h1 h2 _=>by rw[h1]at h2;injection h2 with h2;rw[h2]);refine⟨τ1,h3,⟨fun t d ht => ?_,fun k r hk hr => ?_⟩,zR _,rfl,h4.len,fun _ _=>rfl,fun i l hi => .inl (h4.τn i l hi),fun t d ht => ?_,fun k r hk hr => ?_,fun k r0 r hk0 hk hr => ?_,fun k hk=>h4.rk k (by rw[h4.len];exact hk),fun _ _ _=>rfl,fun _ _ _=>rfl,fun m h _ _ _=>h⟩
 ·obtain⟨_,_,_,_,_,_,h5⟩:=h4.slot t d ht;exact h5
 ·obtain⟨r0,r',h5,h6,⟨h7,h8,h9,h10⟩ | ⟨h7,_⟩⟩:=h4.row k r hk
  ·rw[h7];exact h10
  ·rw[hr]at h7;contradiction
 ·obtain⟨f0,_,h5,_⟩:=h4.slot t d ht;exact⟨⟨f0,h5⟩,rfl⟩
 ·obtain⟨r0,r',h5,h6,⟨h7,h8,h9,h10⟩ | ⟨h7,_⟩⟩:=h4.row k r hk
  ·exact⟨r0.ro,by rw[h7];exact h5⟩
  ·rw[hr]at h7;contradiction
 ·obtain⟨r0',r',h5,h6,⟨h7,h8,h9,h10⟩ | ⟨h7,h8⟩⟩:=h4.row k r hk
  ·rw[h7];rfl
  ·rw[hk0]at h6;injection h6 with h6;subst h6;rw[hr]at h8;contradiction
theorem in_step{ρ1:Nat->Nat}{τ1:Nat->Option Nat}{pv:PSt}{st1:St}(hS:Sim ρ τ p st)(h:In ρ τ p st ρ1 τ1 pv st1){ρ2:Nat->Nat}{τ2:Nat->Option Nat}{p':PSt}{st2:St}(g:Goes ρ1 τ1 pv st1 ρ2 τ2 p' st2){ρ':Type}{r:ρ'}
  {sh:Sh} {K:(Nat->V)->Option ρ'} (he:encK true sh p' K=some r) : ∃ v,K v=some r/\(∀ pw,dec true sh p v=some pw -> ∃ τ3,In ρ τ p st ρ2 τ3 pw st2) /\ ∀ q,dec false sh p v=some q -> ∃ τ3,Goes ρ τ p st ρ2 τ3 q st2:=by
 have nx:=zp h.nx g.nx;have lo:=g.lo.trans h.lo;have ρs : ∀ k,k<p.rows.length->ρ2 k=ρ k:=fun k hk=>by rw[g.ρs k (by rw[h.len];exact hk),h.ρs k hk]
 have τn : ∀ i l,τ2 i=some l->(∃ j,τ j=some l)\/st.nx<=l:=fun i l hi=>by
  rcases g.τn i l hi with⟨j,hj⟩ | hj
  ·exact h.τn j l hj
  ·exact .inr (zp h.nx hj)
 have mem : ∀ b,b<st.nx->(∀ (k:Nat) (r:Row),p.rows[k]?=some r->ρ k=b->r.ro=true)->st2.mem b=st.mem b:=by
  intro b hb hr;rw[g.mem b (zK hb h.nx) ?_,h.mem b hb hr];intro k rv hk hkb;have hkl:k<p.rows.length:=by rw[<- h.len];exact getElem?_lt hk
  obtain⟨r0,hr0⟩:=get_lt hkl;rw[h.ρs k hkl]at hkb;exact h.rowf k r0 rv hr0 hk (hr k r0 hr0 hkb)
 have tip : ∀ l,l<st.nx->(∀ i,τ i≠some l)->st2.tip l=st.tip l:=by
  intro l hl hn;rw[g.tip l (zK hl h.nx) ?_,h.tip l hl hn];intro i hi;rcases h.τn i l hi with⟨j,hj⟩ | hj
  ·exact hn j hj
  ·omega
 have lw : ∀ m,m<=st.lw->m<=st.nx->(∀ (k:Nat) (r:Row),p.rows[k]?=some r->r.ro=false\/r.c.isArr=true->m<=ρ k)->(∀ i l,τ i=some l->m<=l)->m<=st2.lw:=by
  intro m h1 h2 h3 h4;refine g.lw m (h.lw m h1 h2 h3 h4) (zp h2 h.nx) (fun k rv hk hr => ?_) (fun i l hi => ?_)
  ·have hkl:k<p.rows.length:=by rw[<- h.len];exact getElem?_lt hk
   obtain⟨r0,hr0⟩:=get_lt hkl;rw[h.ρs k hkl];refine h3 k r0 hr0 ?_;cases hro:rv.ro with
   | false=>
    left;cases hb:r0.ro with
    | false=>rfl
    | true=>have:=h.rowf k r0 rv hr0 hk hb;rw[hro]at this;contradiction
   | true=>
    obtain⟨f,hf⟩:=h.rows k rv hk hro;rw[hr0]at hf;injection hf with hf;subst hf;rcases hr with hr | hr
    ·rw[hro]at hr;contradiction
    ·exact .inr hr
  ·rcases h.τn i l hi with⟨j,hj⟩ | hj
   ·exact h4 j l hj
   ·exact zp h2 hj
 obtain⟨v,h1,h2⟩:=encK_ok he;have H1 : ∀ t f' d',getF p'.tm t=some (f',d')->(true=true->f'=true) -> ∀ f0 d,getF p.tm t=some (f0,d)->d=d':=by intro t f' d' ht hf f0 d hd;have hf:=hf rfl;subst hf;obtain⟨h3,_⟩:=g.flg h.wf t d' ht;obtain⟨⟨f,h5⟩,_⟩:=h.slots t d' h3;rw[hd]at h5;simp only[zh,zi]at h5;exact h5.2
 have H2 : ∀ (k:Nat) (r0 r':Row),p.rows[k]?=some r0->p'.rows[k]?=some r'->(true=true->r'.ro=true)->r0.c=r'.c:=by
  intro k r0 r' hk hk' hr;have hr:=hr rfl;have hkl:k<pv.rows.length:=by rw[h.len];exact getElem?_lt hk
  obtain⟨rv,hrv,hro⟩:=g.rof k r' hkl hk' hr;have h3:=g.ro h.wf k rv hrv hro;rw[hk']at h3;injection h3 with h3;subst h3;obtain⟨f,hf⟩:=h.rows k r' hrv hro;rw[hk]at hf;injection hf with hf;subst hf;rfl
 have slot : ∀ {head q τ3},Again true head p p' q τ2 τ3 -> ∀ t d,getF q.tm t=some (true,d) -> ∃ f0,getF p.tm t=some (f0,d)/\(head||f0)=true/\get st2.tm t=get st.tm t/\d.hasOwn=false:=by intro head q τ3 hA t d ht;obtain⟨f0,f',h3,h4,h5,h6,h7⟩:=hA.slot t d ht;have hf:=h6 rfl;subst hf;obtain⟨h8,h9⟩:=g.flg h.wf t d h5;obtain⟨_,h10⟩:=h.slots t d h8;exact⟨f0,h3,h4,h9.trans h10,h7⟩
 have rkq : ∀ {head q τ3},Again true head p p' q τ2 τ3 -> ∀ k,k<p.rows.length->rkOf q.rows k=rkOf p.rows k\/rkOf q.rows k=none:=by
  intro head q τ3 hA k hk;rcases hA.rk k (by rw[hA.len];exact hk)with e | e
  ·rcases g.rk k (by rw[h.len];exact hk)with e2 | e2
   ·rcases h.rk k hk with e3 | e3
    ·left;rw[e,e2,e3]
    ·right;rw[e,e2,e3]
   ·right;rw[e,e2]
  ·exact .inr e
 have τq : ∀ {head q τ3},Again true head p p' q τ2 τ3 -> ∀ i l,τ3 i=some l->(∃ j,τ j=some l)\/st.nx<=l:=by intro head q τ3 hA i l hi;obtain⟨j,hj⟩:=hA.τn i l hi;exact τn j l hj
 -- what is held from without is held at the end
 have rof : ∀ {head q τ3},Again true head p p' q τ2 τ3 -> ∀ (k:Nat) (r0 rq:Row),p.rows[k]?=some r0->q.rows[k]?=some rq->r0.ro=true->rq=⟨true,r0.c⟩:=by
  intro head q τ3 hA k r0 rq hk hq hr;obtain⟨r0',r',h5,h6,⟨h7,h8,h9,h10⟩ | ⟨h7,h8⟩⟩:=hA.row k rq hq
  ·rw[hk]at h5;injection h5 with h5;subst h5;rw[h7,hr,Bool.or_true]
  ·exfalso;have hkl:k<pv.rows.length:=by rw[h.len];exact getElem?_lt hk
   obtain⟨rv,hrv⟩:=get_lt hkl;have hro:=h.rowf k r0 rv hk hrv hr;have:=g.ro h.wf k rv hrv hro;rw[h6]at this;injection this with this;subst this;rw[hro]at h8;contradiction
 refine⟨v,h1,fun pw hd => ?_,fun q hd => ?_⟩
 ·obtain⟨τ3,h3,h4⟩:=h2 true p pw hd ρ ρ2 τ τ2 st st2 hS g.sim H1 H2;refine⟨τ3,h3,⟨fun t d ht => ?_,fun k r hk hr => ?_⟩,nx,lo,h4.len,ρs,τq h4,fun t d ht => ?_,fun k r hk hr => ?_,fun k r0 r hk0 hk hr => ?_,rkq h4,mem,tip,lw⟩
  ·obtain⟨_,_,_,_,h5⟩:=slot h4 t d ht;exact h5
  ·obtain⟨r0,r',h5,h6,⟨h7,h8,h9,h10⟩ | ⟨h7,_⟩⟩:=h4.row k r hk
   ·rw[h7];exact h10
   ·rw[hr]at h7;contradiction
  ·obtain⟨f0,h5,_,h6,_⟩:=slot h4 t d ht;exact⟨⟨f0,h5⟩,h6⟩
  ·obtain⟨r0,r',h5,h6,⟨h7,h8,h9,h10⟩ | ⟨h7,_⟩⟩:=h4.row k r hk
   ·exact⟨r0.ro,by rw[h7];exact h5⟩
   ·rw[hr]at h7;contradiction
  ·rw[rof h4 k r0 r hk0 hk hr]
 ·obtain⟨τ3,h3,h4⟩:=h2 false p q hd ρ ρ2 τ τ2 st st2 hS g.sim H1 H2;refine⟨τ3,h3,nx,lo,by rw[h4.len];exact zR _,ρs,fun k h5 h6=>by rw[h4.len]at h6;omega,τq h4,fun _=>⟨fun t d ht => ?_,fun k r hk hr => ?_⟩,fun _ k r hk hr => ?_,fun k r' hkl hk hr => ?_,rkq h4,mem,tip,lw,fun _ t d ht => ?_⟩
  ·obtain⟨_,_,_,_,h5⟩:=slot h4 t d ht;exact h5
  ·obtain⟨r0,r',h5,h6,⟨h7,h8,h9,h10⟩ | ⟨h7,_⟩⟩:=h4.row k r hk
   ·rw[h7];exact h10
   ·rw[hr]at h7;contradiction
  ·have hkl:k<q.rows.length:=by rw[h4.len];exact getElem?_lt hk
   obtain⟨rq,hrq⟩:=get_lt hkl;rw[hrq,rof h4 k r rq hk hrq hr];obtain⟨f,c⟩:=r;simp only at hr;rw[hr]
  ·obtain⟨r0,r'',h5,h6,⟨h7,h8,h9,h10⟩ | ⟨h7,_⟩⟩:=h4.row k r' hk
   ·refine⟨r0,h5,?_⟩;rw[h7]at hr;simpa using hr
   ·rw[hr]at h7;contradiction
  ·obtain⟨f0,h5,h6,h7,_⟩:=slot h4 t d ht;simp only[Bool.false_or]at h6;subst h6;exact⟨h5,h7⟩
end
end
section
theorem loopM_up{α β:Type}{f:α->Option (α ⊕ β)}{n:Nat}{a:α}{b:β}(h:loopM f n a=some b)(m:Nat):loopM f (n+m) a=some b:=by
 induction n generalizing a with
 | zero=>simp[loopM]at h
 | succ n ih=>
  rw[Nat.add_right_comm];simp only[loopM]at h ⊢;split at h
  ·next a' he=>exact ih h
  ·exact h
  ·contradiction
theorem loopM_uniq{α β:Type}{f:α->Option (α ⊕ β)}{n m:Nat}{a:α}{b c:β}(h:loopM f n a=some b)(k:loopM f m a=some c):b=c:=by have h1:=loopM_up h m;have h2:=loopM_up k n;rw[Nat.add_comm,h1]at h2;injection h2
theorem loopL_iff{α β:Type}{f:α->Option (α ⊕ β)}{a:α}{b:β}:loopL f a=some b ↔ ∃ n,loopM f n a=some b:=by
 unfold loopL;constructor
 ·intro h;split at h
  ·next hx=>
   injection h with h;exact⟨_,by rw[<- h];exact hx.choose_spec.choose_spec⟩
  ·contradiction
 ·rintro⟨n,hn⟩;have hx : ∃ n b,loopM f n a=some b:=⟨n,b,hn⟩
  rw[dif_pos hx];rw[loopM_uniq hx.choose_spec.choose_spec hn]
theorem loopL_eq{α β:Type}(f:α->Option (α ⊕ β))(a:α):loopL f a=match f a with | some (.inl a')=>loopL f a' | some (.inr b)=>some b | none=>none:=by
 apply opt_ext;intro b;rw[loopL_iff];cases he:f a with
 | none=>
  simp only[reduceCtorEq,iff_false];rintro⟨n,hn⟩;cases n with
  | zero=>simp[loopM]at hn
  | succ n=>simp[loopM,he]at hn
 | some q=>cases q with
  | inl a'=>
   rw[loopL_iff];constructor
   ·rintro⟨n,hn⟩;cases n with
    | zero=>simp[loopM]at hn
    | succ n=>simp only[loopM,he]at hn;exact⟨n,hn⟩
   ·rintro⟨n,hn⟩;exact⟨n+1,by simp only[loopM,he];exact hn⟩
  | inr c=>
   constructor
   ·rintro⟨n,hn⟩;cases n with
    | zero=>simp[loopM]at hn
    | succ n=>simp only[loopM,he]at hn;exact hn
   ·intro h;exact⟨1,by simp only[loopM,he];exact h⟩
def exOf:PEx->Ex
 | .nrm => .nrm
 | .ext i => .ext i
 | .ret => .ret
theorem findX_ok{ρ:Type}{r:ρ}{p:PSt}{v:Nat->V}{K:PEx->PSt->Option ρ}{xs:List (PEx×Sh)}{x:PEx}{j0 j:Nat}{sh:Sh}(h:findX xs x j0=some (j,sh)) :
  j0<=j/\(dspK p v K xs (j-j0)=some r -> ∃ q,dec false sh p v=some q/\K x q=some r):=by
 induction xs generalizing j0 with
 | nil=>simp[findX]at h
 | cons a rest ih=>
  obtain⟨y,sh'⟩:=a;have last:(j0,sh')=(j,sh)->x=y->j0<=j/\(dspK p v K ((y,sh')::rest) (j-j0)=some r -> ∃ q,dec false sh p v=some q/\K x q=some r):=by
   intro e e2;simp only[zi]at e;obtain⟨rfl,rfl⟩:=e;subst e2;refine⟨zR _,fun hd => ?_⟩;rw[Nat.sub_self]at hd;cases rest with
   | nil=>
    simp only[dspK]at hd;split at hd<;>try contradiction
    next q hq=>exact⟨q,hq,hd⟩
   | cons a b=>
    simp only[dspK,zb]at hd;split at hd<;>try contradiction
    next q hq=>exact⟨q,hq,hd⟩
  have next1:findX rest x (j0+1)=some (j,sh)->j0<=j/\(dspK p v K ((y,sh')::rest) (j-j0)=some r -> ∃ q,dec false sh p v=some q/\K x q=some r):=by
   intro h;obtain⟨h1,h2⟩:=ih h;refine⟨by omega,fun hd => ?_⟩;cases rest with
   | nil=>simp[findX]at h
   | cons a b=>simp only[dspK]at hd;rw[za (by omega)]at hd;refine h2 ?_;rw[show j-(j0+1)=j-j0-1 by omega];exact hd
  cases y with
  | nrm=>
   simp only[findX]at h;split at h
   ·injection h with h;exact last h rfl
   ·exact next1 h
  | ret=>
   simp only[findX]at h;split at h
   ·injection h with h;exact last h rfl
   ·exact next1 h
  | ext i=>
   simp only[findX]at h;split at h
   ·split at h
    ·next hb=>injection h with h;exact last h (by rw[zJ hb])
    ·exact next1 h
   ·exact next1 h
section
variable {E:Env} {gl:Gl} {pc:PcT}
theorem still_ok(hg:GlR E gl)(hpc:PcOk E gl.md pc)(l:PO) : ∀ {ρ':Type} {r:ρ'} {ρ:Nat->Nat} {τ:Nat->Option Nat} {p:PSt} {st:St} {K:PSt->Option ρ'},Sim ρ τ p st -> ∀ x0,SoftIn x0 τ p st->stillL gl.md l=true->prunK gl pc l p K=some r ->
  ∃ p',K p'=some r /\ ∃ st',runStill E (callL E) (eraseO l) st=some st' /\ ∃ τ1,Goes ρ τ p st ρ τ1 p' st'/\Soft x0 τ p st τ1 p' st':=by
 induction l with
 | nil=>intro _ r ρ τ p st K hS x0 hi hl h;exact⟨p,h,st,rfl,τ,.refl hS,.refl hi⟩
 | one o s ih=>
  intro _ r ρ τ p st K hS x0 hi hl h;simp only[stillL,zG]at hl;simp only[prunK]at h;obtain⟨p1,h1,st1,ρ1,τ1,h2,h3,h4⟩:=pone_ok hg hpc hS hi.wf h;obtain⟨rfl,h5⟩:=h4 hl.1 x0 hi;obtain⟨p',h6,st',h7,τ2,h8,h9⟩:=ih h3.sim x0 (h5.inn hi h3) hl.2 h1;refine⟨p',h6,st',?_,τ2,h3.trans hi.wf h8,h5.trans h9⟩;have ho:regd none o=o:=by obtain⟨d,op,gd⟩:=o;cases gd<;>rfl
  simp only[eraseO,eraseG,runStill,ho,h2];rw[zb h5.mem];exact h7
 | box n dst x r=>intro _ r ρ τ p st K hS x0 hi hl h;simp[stillL]at hl
 | grp c w ops dst a b s ih1 ih2=>
  intro _ r ρ τ p st K hS x0 hi hl h;simp only[stillL,zG]at hl;simp only[prunK]at h;split at h<;>try contradiction
  split at h<;>try contradiction
  split at h<;>try contradiction
  split at h<;>try contradiction
  next cv hc _ bd hb _ bv hbv _ hfr=>
   simp only[zG]at hfr;obtain⟨hfr,hnest⟩:=hfr;rw[zA]at h;obtain⟨cb,hcb,h⟩:=h;rw[zA]at h;obtain⟨x,hx,h⟩:=h;split at h<;>try contradiction
   next p1 hp1=>
    obtain⟨ec,hec,hrc⟩:=evV_ok (E:=E) hg hS hc;have:=asBool_ok hcb hrc;subst this;have hec:get st.tm c=some (.bool cb):=hec;have hcF : ∃ f d,getF p.tm c=some (f,d):=by
     unfold evV at hc;split at hc<;>try contradiction
     next y hy=>simp only[evH,getF_getP,zB]at hy;obtain⟨⟨f,d'⟩,h1,_⟩:=hy;exact⟨f,d',h1⟩
    obtain⟨fc,dc,hcF⟩:=hcF;have hcd:=freshD_ok hfr hcF;have hsame : ∀ {tm:Tm},(∀ t,t ∉ dstsP ops->get tm t=get st.tm t) -> ∀ t f d,getF p.tm t=some (f,d)->get tm t=get st.tm t:=
     fun h t f d ht=>h t (freshD_ok hfr ht)
    have key : ∃ st1 e,runStill E (callL E) (eraseG (some (c,w)) ops) st=some st1/\Goes ρ τ p st ρ τ p st1/\(st1.mem=st.mem /\ ∀ l,l<st.nx->st1.tip l=st.tip l)/\get st1.tm c=some (.bool cb)/\ev E st1.tm (if cb=w then a else b)=some e/\e.cl0=x.toD:=by
     split at hx
     ·next hcw=>
      subst hcw;have har:AllRo p.sealOf:=by intro k rw hk;simp only[PSt.sealOf,sealR_get,zB]at hk;obtain⟨r',_,rfl⟩:=hk;rfl
      obtain⟨p',h1,st1,h2,τ1,h3,h3'⟩:=ih1 (seal_sim hS) st.nx ⟨har,seal_wf p,hi.lim,zR _,fun i l _ h=>by contradiction⟩ hl.1 hx;have h4 : ∀ t,t ∉ dstsP ops->get st1.tm t=get st.tm t:=fun t ht=>still_other h2 (erase_dst ht)
      split at h1<;>try contradiction
      next da hda=>obtain⟨e,he,hr⟩:=evH_ok (E:=E) hg h3.sim hda;exact⟨st1,e,still_yes hcd hec h2,unseal_goes hS h3 (hsame h4),⟨h3'.mem,h3'.tip⟩,by rw[h4 c hcd];exact hec,by rw[zb rfl];exact he,PD.pure_ok hr h1⟩
     ·next hcw=>
      injection hx with hx;subst hx;obtain⟨tm,h1,h2,_⟩:=guard_no (E:=E) (cf:=callL E) (w:=w) hnest (.inl ⟨cb,hcw,hec⟩) (fun t ht=>by simp at ht);obtain⟨e,he,hr⟩:=evH_ok (E:=E) hg hS hb;have ht:=hsame h2;refine⟨_,e,h1.2,?_,⟨rfl,fun _ _=>rfl⟩,by show get tm c=_;rw[h2 c hcd];exact hec,by rw[za hcw];show ev E tm b=_;rw[evH_same (st:=st) hb ht];exact he,PD.pure_ok hr hbv⟩;have:=tm_goes hS (tm:=p.tm) (tm':=tm) (fun t f d hd=>by rw[ht t f d hd];exact hS.tm t f d hd) (fun t d hd=>⟨hd,ht t true d hd⟩);exact this
    obtain⟨st1,e,h1,h2,⟨hm1,hm2⟩,h3,h4,h5⟩:=key;have h6:=setP_goes (e:=some e) h2.sim (show RO _ (some (.s (.v x))) (some e)from h5) hp1;have hp1r:p1.rows=p.rows/\p1.ni=p.ni/\p1.lim=p.lim:=by
     simp only[setP]at hp1;split at hp1<;>try contradiction
     injection hp1 with hp1;subst hp1;exact⟨rfl,rfl,rfl⟩
    have hgo:=h2.trans hi.wf h6;have hso:Soft x0 τ p st τ p1 (st1.set (some dst) (some e)):=⟨hp1r.1,hp1r.2.2,by rw[hp1r.2.1];exact zR _,hm1,fun _ _=>rfl,hi.hi,fun l hl=>hm2 l (zK hl hi.nx)⟩
    obtain⟨p',h7,st',h8,τ2,h9,h10⟩:=ih2 h6.sim x0 (hso.inn hi hgo) hl.2 h;refine⟨p',h7,st',?_,τ2,hgo.trans hi.wf h9,hso.trans h10⟩;simp only[eraseO,eraseG];rw[runStill_append,h1];have hp:opC E (callL E) ⟨some dst,pickO c w a b,none⟩ st1=some (.ok (st1.set (some dst) (some e))):=by have h3':ev E st1.tm (.s c)=some (.bool cb):=h3;cases w<;>cases cb<;>simp only[zb,za,zF,zX,not_false_eq_true]at h4<;>simp[opC,wants,opR,opX,opD,h3',h4,Rv.to,pickO]
    simp only[zD,runStill,hp];rw[zb (show(st1.set (some dst) (some e)).mem=st1.mem from rfl)];exact h8
theorem sealR_ro(p:PSt):AllRo { p with rows:=sealR p.rows,lim:=p.ni }:=by intro k rw hk;simp only[sealR_get,zB]at hk;obtain⟨r',_,rfl⟩:=hk;rfl
theorem sealRows_sim{ρ:Nat->Nat}{τ:Nat->Option Nat}{p:PSt}{st:St}(hS:Sim ρ τ p st):Sim ρ τ { p with rows:=sealR p.rows,lim:=p.ni } st:=by
 have hle:Le (cxOf ρ τ p st) (cxOf ρ τ { p with rows:=sealR p.rows,lim:=p.ni } st):=
  ⟨fun _ _=>rfl,by simp[cxOf,sealR_len],fun k _ => .inl (seal_rk p.rows k),fun i l h=>⟨h,rfl⟩,zR _⟩
 refine⟨fun t f d h => ?_,fun k hk=>hS.nx k (by simpa[sealR_len]using hk),fun k r hk => ?_,fun j k hj hk=>hS.inj j k (by simpa[sealR_len]using hj) (by simpa[sealR_len]using hk),hS.lin,hS.linj⟩
 ·obtain⟨e,h1,h2⟩:=hS.tm t f d h;exact⟨e,h1,RP.le hle h2⟩
 ·simp only[sealR_get,zB]at hk;obtain⟨r',h1,rfl⟩:=hk;obtain⟨o,h2,h3⟩:=hS.rows k r' h1;obtain⟨f,c⟩:=r';refine⟨o,?_,?_⟩
  ·rcases h2 with h2 | h2
   ·left;simp only at h2;subst h2;rfl
   ·exact .inr h2
  ·cases c with
   | cells ps=>obtain⟨ds,h5,h6,h7⟩:=h3;exact⟨ds,h5,RSL.sealOf (c:=cxOf ρ τ p st) (c':=cxOf ρ τ { p with rows:=sealR p.rows,lim:=p.ni } st) rfl (sealR_len p.rows) (seal_rk p.rows) h6,h7⟩
   | _=>exact h3
theorem sealRows_wf{p:PSt}(hw:Wf p):Wf { p with rows:=sealR p.rows,lim:=p.ni }:=⟨hw.1,(seal_wf p).2⟩
theorem unsealRows{ρ:Nat->Nat}{τ τ1:Nat->Option Nat}{p:PSt}{st:St}(hS:Sim ρ τ p st){p1:PSt}{st1:St}(h:Goes ρ τ { p with rows:=sealR p.rows,lim:=p.ni } st ρ τ1 p1 st1)(hs:Soft st.nx τ { p with rows:=sealR p.rows,lim:=p.ni } st τ1 p1 st1):Goes ρ τ p st ρ τ1 { p1 with rows:=p.rows,lim:=p.lim } st1:=by
 have hr:p1.rows=sealR p.rows:=hs.rows;have hn:p.ni<=p1.ni:=hs.ni;have hle:Le (cxOf ρ τ1 p1 st1) (cxOf ρ τ1 { p1 with rows:=p.rows,lim:=p.lim } st1):=
  ⟨fun _ _=>rfl,by simp[cxOf,hr,sealR_len],fun k _ => .inl (by show rkOf p.rows k=rkOf p1.rows k;rw[hr,seal_rk]),fun i l h=>⟨h,rfl⟩,zR _⟩
 have hle0:Le (cxOf ρ τ p st) (cxOf ρ τ1 { p1 with rows:=p.rows,lim:=p.lim } st1):=
  ⟨fun _ _=>rfl,zR _,fun k _ => .inl rfl,fun i l h=>⟨(hs.τ i (hS.lin i l h).1).trans h,hs.tip l (hS.lin i l h).2⟩,hn⟩
 refine⟨⟨fun t f d ht => ?_,fun k hk=>zK (hS.nx k hk) h.nx,fun k r hk => ?_,hS.inj,h.sim.lin,h.sim.linj⟩,h.nx,h.lo,zR _,fun _ _=>rfl,fun k h1 h2=>absurd h2 (Nat.not_lt.2 h1),h.τn,fun hw=>⟨(h.wf ⟨hw.1,(seal_wf p).2⟩).1,hw.2⟩,fun _ _ _ h _=>h,fun _ r' _ h hr=>⟨r',h,hr⟩,fun _ _ => .inl rfl,fun b _ _=>by rw[hs.mem],fun l hl _=>hs.tip l hl,fun m h1 h2 h3 h4 => ?_,fun hw t d ht=>h.flg ⟨hw.1,(seal_wf p).2⟩ t d ht⟩
 ·obtain⟨e,h1,h2⟩:=h.sim.tm t f d ht;exact⟨e,h1,RP.le hle h2⟩
 ·obtain⟨o,h1,h2⟩:=hS.rows k r hk;exact⟨o,by rw[hs.mem];exact h1,RW.le hle0 h2⟩
 ·refine h.lw m h1 h2 (fun k r hk hro => ?_) h4;simp only[sealR_get,zB]at hk;obtain⟨r',hk',rfl⟩:=hk;refine h3 k r' hk' (.inr ?_);rcases hro with hro | hro
  ·contradiction
  ·obtain⟨f,c⟩:=r';cases c<;>simp_all [RowC.sealC,RowC.isArr]
theorem appD_mem{sz bytes:Nat}{g:Tg}{n m:Nat}{xs ys:List D}{st st':St}{d:D}(h:appD sz bytes (.sl g n xs) m ys st=some (d,st')):st'.mem=st.mem:=by
 simp only[appD]at h;split at h<;>try contradiction
 split at h<;>try contradiction
 ·injection h with h;injection h with _ h;subst h;rfl
 ·split at h<;>try contradiction
  injection h with h;injection h with _ h;subst h;rfl
theorem plainS_ok{c:Cx}{q:PS}{e:D}(hr:RS c q e)(h:plainS q=true) : ∃ x,q.pure=some x/\e.cl0=x.toD:=by
 cases q<;>simp[plainS]at h
 ·exact⟨_,rfl,PS.pure_ok hr rfl⟩
 ·exact⟨_,rfl,PS.pure_ok hr rfl⟩
 ·exact⟨_,rfl,PS.pure_ok hr rfl⟩
theorem plainPS_ok{ps:List PS}(h:plainPS ps=true) : ∃ l,pureL' ps=some l:=by
 induction ps with
 | nil=>exact⟨[],rfl⟩
 | cons q r ih=>simp only[plainPS,zG]at h;obtain⟨l,hl⟩:=ih h.2;cases q<;>simp[plainS]at h;all_goals exact⟨_,by simp only[pureL',PS.pure,hl];rfl⟩
theorem outL_plain{p:PSt}{ps:List PS}(h:plainPS ps=true):outL p ps=pureL' ps:=by
 induction ps with
 | nil=>rfl
 | cons q r ih=>simp only[plainPS,zG]at h;cases q<;>simp[plainS]at h<;>simp only[outL,pureL',PS.outV,ih h]
theorem refsS_plain{ps:List PS}(h:plainPS ps=true):refsS ps=[]:=by
 induction ps with
 | nil=>rfl
 | cons q r ih=>simp only[plainPS,zG]at h;cases q<;>simp[plainS]at h<;>simp[refsS,PS.refs,ih h]
theorem argsA_plain{p:PSt}{ds:List PD}(h:plainL ds=true) : ∃ as,argsA p [] ds=some (as,[],p):=by
 induction ds with
 | nil=>exact⟨[],rfl⟩
 | cons d r ih=>
  cases d with
  | s q=>simp only[plainL,zG]at h;obtain⟨as,ha⟩:=ih h.2;cases q<;>simp[plainS]at h;all_goals exact⟨_,by simp only[argsA,argA,PD.outV,PS.outV,PS.pure,PD.refs,PS.refs,freezeL,ha];rfl⟩
  | agg ps=>simp only[plainL,zG]at h;obtain⟨as,ha⟩:=ih h.2;obtain⟨l,hl⟩:=plainPS_ok h.1;exact⟨_,by simp only[argsA,argA,PD.outV,outL_plain h.1,hl,PD.refs,refsS_plain h.1,freezeL,ha];rfl⟩
theorem refsL_plain{c:Cx}{ds:List PD}{es:List D}(hr:RPL c ds es)(h:plainL ds=true):refsL es=[]:=by
 induction ds generalizing es with
 | nil=>cases es with
  | nil=>rfl
  | cons _ _=>exact hr.elim
 | cons d r ih=>cases es with
  | nil=>exact hr.elim
  | cons e s=>
   have key:e.refs=[]:=by
    cases d with
    | s q=>simp only[plainL,zG]at h;obtain⟨x,_,h2⟩:=plainS_ok hr.1 h.1;exact(cl_of h2 (fun _=>none)).2
    | agg ps=>
     simp only[plainL,zG]at h;obtain⟨l,hl⟩:=plainPS_ok h.1;have:(PD.agg ps).pureV=some (.agg l):=by simp only[PD.pureV,hl]
     exact(cl_of (PD.pure_ok hr.1 this) (fun _=>none)).2
   have h2:plainL r=true:=by cases d<;>simp only[plainL,zG]at h<;>exact h.2
   simp only[refsL,key,ih hr.2 h2,List.append_nil]
theorem set_mem(st:St)(dst:Option Nat)(e:Option D):(st.set dst e).mem=st.mem:=by cases e<;>cases dst<;>rfl
theorem q_mem{ρ':Type}{r:ρ'}{ρ:Nat->Nat}{τ:Nat->Option Nat}{p:PSt}{st:St}(hg:GlR E gl)(hpc:PcOk E gl.md pc)(hS:Sim ρ τ p st)(hw:Wf p){o:OpC}(hgd:o.gd=none)(hq:qOk gl p o.op=true){K:PSt->Option ρ'}(h:pone gl pc o p K=some r)
  {st':St} (he:opC E (callL E) o st=some (.ok st')):st'.mem=st.mem:=by
 have he2:opR E (callL E) o.dst st o.op=some (.ok st'):=by simpa only[opC,wants,hgd]using he
 have h2:(popK gl pc p o.op fun r p'=>match setP p' o.dst r with | some p''=>K p'' | none=>none)=some r:=by unfold pone at h;rw[hgd]at h;exact h
 unfold opR at he2;rw[zB]at he2;obtain⟨rv,hx,hrv⟩:=he2;have fin : ∀ {e st1},rv = .val e st1->st1.mem=st.mem->st'.mem=st.mem:=by intro e st1 h1 h2;subst h1;simp only[Rv.to,Rs.ok.injEq]at hrv;subst hrv;rw[set_mem,h2]
 have viaD : ∀ {e st1},opD E st o.op=some (e,st1)->(∀ f xs,o.op ≠ .call f xs)->(∀ f xs,o.op ≠ .callv f xs)->(∀ x,o.op ≠ .pan x)->st1.mem=st.mem->st'.mem=st.mem:=by intro e st1 h1 h2 h3 h4 h5;rw[opX_nc h2 h3 h4,h1]at hx;simp only[zC,zh]at hx;exact fin hx.symm h5
 cases hop:o.op;case call f xs=>
  rw[hop]at hq h2 hx;simp only[qOk]at hq;split at hq<;>try contradiction
  next hmd=>
   split at hq<;>try contradiction
   next ds hds=>simp only[popK,hds,callK,hmd]at h2;obtain⟨es,h3,h4⟩:=evHL_ok (E:=E) hg hS hds;obtain⟨as,ha⟩:=argsA_plain (p:=p) hq;have hrf:=refsL_plain h4 hq;obtain⟨h5,h6,h7⟩:=argsA_ok hS hw h4 ha;have h8:=h7 [];simp only[callN,ha,parsA]at h2;rw[zA]at h2;obtain⟨q,hq2,_⟩:=h2;obtain⟨st1,h9,h10⟩:=hpc.n f as [] q hq2 (at0 ρ ([]++[])) st es h8 (fun j e hj=>by simp at hj) (fun i j hi=>by simp at hi);have h11:=h10.still (fun j e hj=>by simp at hj);rw[hrf]at h11;simp only[opX,h3,zD,h9,zC,zh]at hx;exact fin hx.symm (by rw[h11];rfl)
 case app sz bytes s x=>
  rw[hop]at hq h2;simp only[qOk]at hq;split at hq<;>try contradiction
  next q hs=>
   obtain⟨e1,he1,hr1⟩:=evH_ok (E:=E) hg hS hs;have hsl : ∃ g n xs,e1 = .sl g n xs:=by
    cases q<;>simp at hq
    ·obtain⟨g,ds,rfl,_⟩:=hr1;exact⟨_,_,_,rfl⟩
    ·obtain⟨ds,rfl,_⟩:=hr1;exact⟨_,_,_,rfl⟩
   obtain⟨g,n,xs,rfl⟩:=hsl;rw[hop]at hx;simp only[opX,opD,he1,zD]at hx;rw[zB]at hx;obtain⟨⟨e,st1⟩,h3,h4⟩:=hx;rw[zA]at h3;obtain⟨y,_,h3⟩:=h3;rw[zA]at h3;obtain⟨pp,_,h3⟩:=h3;split at h3<;>try contradiction
   rw[zB]at h3;obtain⟨⟨d,st2⟩,h5,h6⟩:=h3;injection h6 with h6 h7;subst h7;exact fin h4.symm (appD_mem h5)
 case apz z bytes s x=>
  rw[hop]at hq h2;simp only[qOk]at hq;split at hq<;>try contradiction
  next q hs=>
   obtain⟨e1,he1,hr1⟩:=evH_ok (E:=E) hg hS hs;have hsl : ∃ g n xs,e1 = .sl g n xs:=by
    cases q<;>simp at hq
    ·obtain⟨g,ds,rfl,_⟩:=hr1;exact⟨_,_,_,rfl⟩
    ·obtain⟨ds,rfl,_⟩:=hr1;exact⟨_,_,_,rfl⟩
   obtain⟨g,n,xs,rfl⟩:=hsl;rw[hop]at hx;simp only[opX,opD,he1,zD]at hx;rw[zB]at hx;obtain⟨⟨e,st1⟩,h3,h4⟩:=hx;split at h3<;>try contradiction
   split at h3<;>try contradiction
   rw[zB]at h3;obtain⟨⟨d,st2⟩,h5,h6⟩:=h3;injection h6 with h6 h7;subst h7;exact fin h4.symm (appD_mem h5)
 all_goals
  rw[hop]at hq h2;first
   | (exfalso;revert hq;simp[qOk,quiet];done)
   | (
     obtain⟨d,_,e,h3,_⟩:=popA (E:=E) hg hS (by rfl) h2;exact viaD (by rw[hop];exact h3) (fun f xs h=>by rw[hop]at h;cases h) (fun f xs h=>by rw[hop]at h;cases h) (fun x h=>by rw[hop]at h;cases h) rfl)
theorem prunA_ok(hg:GlR E gl)(hpc:PcOk E gl.md pc)(l:PO) : ∀ {ρ':Type} {r:ρ'} {ρ:Nat->Nat} {τ:Nat->Option Nat} {p:PSt} {st:St} {K:PSt->Option ρ'},Sim ρ τ p st->Wf p->prunA gl pc l p K=some r ->
  ∃ p',K p'=some r /\ ∃ st' ρ1 τ1,runStill E (callL E) (eraseO l) st=some st'/\Goes ρ τ p st ρ1 τ1 p' st':=by
 induction l with
 | nil=>intro _ r ρ τ p st K hS hw h;exact⟨p,h,st,ρ,τ,rfl,.refl hS⟩
 | one o s ih=>
  intro _ r ρ τ p st K hS hw h;simp only[prunA]at h;split at h<;>try contradiction
  next hgd=>
   split at h<;>try contradiction
   next hq=>
    obtain⟨p1,h1,st1,ρ1,τ1,h2,h3,_⟩:=pone_ok hg hpc hS hw h;obtain⟨p',h4,st',ρ2,τ2,h5,h6⟩:=ih h3.sim (h3.wf hw) h1;refine⟨p',h4,st',ρ2,τ2,?_,h3.trans hw h6⟩;have ho:regd none o=o:=by obtain⟨d,op,gd⟩:=o;cases gd<;>rfl
    simp only[eraseO,eraseG,runStill,ho,h2];rw[zb (q_mem hg hpc hS hw hgd hq h h2)];exact h5
 | box n dst x r=>intro _ r ρ τ p st K hS hw h;simp[prunA]at h
 | grp c w ops dst a b s ih1 ih2=>intro _ r ρ τ p st K hS hw h;simp[prunA]at h
theorem sealC_own(c:RowC):c.sealC.hasOwn=false:=by
 cases c with
 | cells ps=>
  show hasOwnL (sealL ps)=false;induction ps with
  | nil=>rfl
  | cons q r ih=>cases q<;>simpa[sealL,PS.sealOf,hasOwnL]using ih
 | _=>rfl
theorem sealC_rk{rows:List Row}{k:Nat}{f f':Bool}{c:RowC}(h:rows[k]?=some ⟨f,c⟩)(j:Nat):rkOf (rows.set k ⟨f',c.sealC⟩) j=rkOf rows j:=by
 by_cases e:k=j
 ·subst e;have hlt:=getElem?_lt h;simp only[rkOf,yb hlt,h];cases c<;>rfl
 ·simp only[rkOf,yc e]
theorem setR_rk{rows:List Row}{k:Nat}{f f':Bool}{c:RowC}(h:rows[k]?=some ⟨f,c⟩)(j:Nat):rkOf (rows.set k ⟨f',c⟩) j=rkOf rows j:=by
 by_cases e:k=j
 ·subst e;have hlt:=getElem?_lt h;simp only[rkOf,yb hlt,h];cases c<;>rfl
 ·simp only[rkOf,yc e]
theorem hold_some{p p2:PSt}{k:Nat}(h:hold p k=some p2) : ∃ c,p.rows[k]?=some ⟨false,c⟩/\p2={ p with rows:=p.rows.set k ⟨true,c.sealC⟩ }:=by
 unfold hold at h;split at h
 ·next c hc=>injection h with h;exact⟨c,hc,h.symm⟩
 ·contradiction
theorem hold_sim{ρ:Nat->Nat}{τ:Nat->Option Nat}{p p2:PSt}{st:St}{k:Nat}(hS:Sim ρ τ p st)(h:hold p k=some p2):Sim ρ τ p2 st:=by
 obtain⟨c,hc,rfl⟩:=hold_some h;have hle:Le (cxOf ρ τ p st) (cxOf ρ τ { p with rows:=p.rows.set k ⟨true,c.sealC⟩ } st):=
  ⟨fun _ _=>rfl,by simp[cxOf],fun j _ => .inl (sealC_rk hc j),fun i l h=>⟨h,rfl⟩,zR _⟩
 refine⟨fun t f d h => ?_,fun j hj=>hS.nx j (by simpa using hj),fun j r hj => ?_,fun i j hi hj=>hS.inj i j (by simpa using hi) (by simpa using hj),hS.lin,hS.linj⟩
 ·obtain⟨e,h1,h2⟩:=hS.tm t f d h;exact⟨e,h1,RP.le hle h2⟩
 ·by_cases e:k=j
  ·subst e;have hj:(p.rows.set k ⟨true,c.sealC⟩)[k]?=some r:=hj;rw[yb (getElem?_lt hc)]at hj;injection hj with hj;subst hj;obtain⟨o,h2,h3⟩:=hS.rows k _ hc;refine⟨o,?_,?_⟩
   ·rcases h2 with h2 | h2
    ·left;simp only at h2;subst h2;rfl
    ·exact .inr h2
   ·cases c with
    | cells ps=>obtain⟨ds,h5,h6,h7⟩:=h3;exact⟨ds,h5,RSL.sealOf (c:=cxOf ρ τ p st) (c':=cxOf ρ τ { p with rows:=p.rows.set k ⟨true,(RowC.cells ps).sealC⟩ } st) rfl (by simp[cxOf]) (sealC_rk hc) h6,h7⟩
    | _=>exact RW.le hle h3
  ·have hj:(p.rows.set k ⟨true,c.sealC⟩)[j]?=some r:=hj;rw[yc e]at hj;obtain⟨o,h2,h3⟩:=hS.rows j r hj;exact⟨o,h2,RW.le hle h3⟩
theorem hold_wf{p p2:PSt}{k:Nat}(hw:Wf p)(h:hold p k=some p2):Wf p2:=by
 obtain⟨c,hc,rfl⟩:=hold_some h;refine⟨hw.1,fun j r hj hr => ?_⟩;by_cases e:k=j
 ·subst e;have hj:(p.rows.set k ⟨true,c.sealC⟩)[k]?=some r:=hj;rw[yb (getElem?_lt hc)]at hj;injection hj with hj;subst hj;exact sealC_own c
 ·have hj:(p.rows.set k ⟨true,c.sealC⟩)[j]?=some r:=hj;rw[yc e]at hj;exact hw.2 j r hj hr
theorem unhold_goes{ρ ρ1:Nat->Nat}{τ τ1:Nat->Option Nat}{p p2 p3:PSt}{st st1:St}{k:Nat}(hw:Wf p)(h:hold p k=some p2)(hg:Goes ρ τ p2 st ρ1 τ1 p3 st1):Goes ρ τ p st ρ1 τ1 (unhold p3 k) st1:=by
 have hw2:=hold_wf hw h;obtain⟨c,hc,rfl⟩:=hold_some h;have hlt:=getElem?_lt hc;have h0:(p.rows.set k ⟨true,c.sealC⟩)[k]?=some ⟨true,c.sealC⟩:=yb hlt;have h3:p3.rows[k]?=some ⟨true,c.sealC⟩:=hg.ro hw2 k _ h0 rfl;have hu:unhold p3 k={ p3 with rows:=p3.rows.set k ⟨false,c.sealC⟩ }:=by unfold unhold;rw[h3]
 rw[hu];have hlt3:=getElem?_lt h3;have hrk:=fun j=>setR_rk (f':=false) h3 j
 have hle:Le (cxOf ρ1 τ1 p3 st1) (cxOf ρ1 τ1 { p3 with rows:=p3.rows.set k ⟨false,c.sealC⟩ } st1):=
  ⟨fun _ _=>rfl,by simp[cxOf],fun j _ => .inl (hrk j),fun i l h=>⟨h,rfl⟩,zR _⟩
 have hset : ∀ {j:Nat} {r:Row},k≠j->(p3.rows.set k ⟨false,c.sealC⟩)[j]?=some r->p3.rows[j]?=some r:=fun e hj=>by rwa [yc e]at hj
 have h0' : ∀ {j:Nat} {r:Row},p.rows[j]?=some r->k≠j->(p.rows.set k ⟨true,c.sealC⟩)[j]?=some r:=fun hj e=>by rw[yc e];exact hj
 have hlen:p.rows.length<=p3.rows.length:=by have:=hg.len;simpa using this
 refine⟨⟨fun t f d ht => ?_,fun j hj=>hg.sim.nx j (by simpa using hj),fun j r hj => ?_,fun i j hi hj=>hg.sim.inj i j (by simpa using hi) (by simpa using hj),hg.sim.lin,hg.sim.linj⟩,hg.nx,hg.lo,by simpa using hlen,fun j hj=>hg.ρs j (by simpa using hj),fun j h1 h2=>hg.ρn j (by simpa using h1) (by simpa using h2),hg.τn,fun _ => ?_,fun _ j r hj hr => ?_,fun j r' hj h1 h2 => ?_,fun j hj => ?_,fun b hb hr => ?_,hg.tip,fun m h1 h2 h3 h4 => ?_,fun _ t d ht=>hg.flg hw2 t d ht⟩
 ·obtain⟨e,h1,h2⟩:=hg.sim.tm t f d ht;exact⟨e,h1,RP.le hle h2⟩
 ·by_cases e:k=j
  ·subst e;have hj:(p3.rows.set k ⟨false,c.sealC⟩)[k]?=some r:=hj;rw[yb hlt3]at hj;injection hj with hj;subst hj;obtain⟨o,h1,h2⟩:=hg.sim.rows k _ h3;exact⟨o,h1,RW.le hle h2⟩
  ·obtain⟨o,h1,h2⟩:=hg.sim.rows j r (hset e hj);exact⟨o,h1,RW.le hle h2⟩
 ·have hw3:=hg.wf hw2;refine⟨hw3.1,fun j r hj hr => ?_⟩;by_cases e:k=j
  ·subst e;have hj:(p3.rows.set k ⟨false,c.sealC⟩)[k]?=some r:=hj;rw[yb hlt3]at hj;injection hj with hj;subst hj;cases hr
  ·exact hw3.2 j r (hset e hj) hr
 ·have e:k≠j:=by rintro rfl;rw[hc]at hj;injection hj with hj;subst hj;cases hr
  show(p3.rows.set k ⟨false,c.sealC⟩)[j]?=some r;rw[yc e];exact hg.ro hw2 j r (h0' hj e) hr
 ·by_cases e:k=j
  ·subst e;have h1:(p3.rows.set k ⟨false,c.sealC⟩)[k]?=some r':=h1;rw[yb hlt3]at h1;injection h1 with h1;subst h1;cases h2
  ·obtain⟨r,h5,h6⟩:=hg.rof j r' (by simpa using hj) (hset e h1) h2;have h5:(p.rows.set k ⟨true,c.sealC⟩)[j]?=some r:=h5;rw[yc e]at h5;exact⟨r,h5,h6⟩
 ·have:=hg.rk j (by simpa using hj);show rkOf (p3.rows.set k ⟨false,c.sealC⟩) j=rkOf p.rows j\/rkOf (p3.rows.set k ⟨false,c.sealC⟩) j=none;rw[hrk j];rw[show rkOf ({ p with rows:=p.rows.set k ⟨true,c.sealC⟩ }:PSt).rows j=rkOf p.rows j from sealC_rk hc j]at this;exact this
 ·refine hg.mem b hb (fun j r hj hb2 => ?_);by_cases e:k=j
  ·subst e;rw[h0]at hj;injection hj with hj;subst hj;rfl
  ·have hj:(p.rows.set k ⟨true,c.sealC⟩)[j]?=some r:=hj;rw[yc e]at hj;exact hr j r hj hb2
 ·refine hg.lw m h1 h2 (fun j r hj hro => ?_) h4;by_cases e:k=j
  ·subst e;exact h3 k _ hc (.inl rfl)
  ·have hj:(p.rows.set k ⟨true,c.sealC⟩)[j]?=some r:=hj;rw[yc e]at hj;exact h3 j r hj hro
theorem loadD_mem{s s':St}{b off:Nat}(h:s'.mem b=s.mem b)(ag:Bool)(sz:Nat):loadD s' ag sz (.ptr b off)=loadD s ag sz (.ptr b off):=by
 have : ∀ n,cellsAt s' (.ptr b off) n=cellsAt s (.ptr b off) n:=fun n=>by simp only[cellsAt,h]
 unfold loadD;rw[this,this]
theorem fl_ok(hg:GlR E gl)(hpc:PcOk E gl.md pc){t a sz k b off:Nat}{ag:Bool}{v:D}{Y:List OpC}(l:PO) : ∀ {ρ':Type} {r:ρ'} {ρ:Nat->Nat} {τ:Nat->Option Nat} {p:PSt} {st:St} {K:PSt->Option ρ'},Sim ρ τ p st->Wf p->prunK gl pc l p K=some r ->
  flatO l=true->hasB (dstsP l) t=false->hasB (dstsP l) a=false->(∃ rw,p.rows[k]?=some rw/\rw.ro=true)->ρ k=b->get st.tm a=some (.ptr b off)->loadD st ag sz (.ptr b off)=some v->get st.tm t=some v ->
  ∃ p',K p'=some r /\ ∃ st' ρ1 τ1,runFl E (callL E) Y [⟨some t,.load ag sz (.s a),none⟩] (eraseO l) st=some (.ok st')/\Goes ρ τ p st ρ1 τ1 p' st':=by
 induction l with
 | nil=>intro _ r ρ τ p st K hS hw h _ _ _ _ _ _ _ _;exact⟨p,h,st,ρ,τ,rfl,.refl hS⟩
 | one o s ih=>
  intro _ r ρ τ p st K hS hw h hfl ht ha hro hb hga hld hgt;simp only[flatO,zG]at hfl;have hgd:o.gd=none:=by
   have:=hfl.1;cases hq:o.gd with
   | none=>rfl
   | some q=>rw[hq]at this;contradiction
  simp only[prunK]at h;obtain⟨p1,h1,st1,ρ1,τ1,h2,h3,_⟩:=pone_ok hg hpc hS hw h;have hno : ∀ {u:Nat},hasB (dstsP (.one o s)) u=false->o.dst≠some u/\hasB (dstsP s) u=false:=by
   intro u hu;simp only[dstsP]at hu;cases hd:o.dst with
   | none=>rw[hd]at hu;exact⟨by simp,hu⟩
   | some w=>
    rw[hd]at hu;simp only[List.cons_append,List.nil_append,hasB]at hu;split at hu
    ·contradiction
    ·next hne=>exact⟨fun e=>by injection e with e;subst e;simp at hne,hu⟩
  obtain⟨rw',hrw,hrr⟩:=hro;have hlt:k<p.rows.length:=getElem?_lt hrw;have hmem:st1.mem b=st.mem b:=by refine h3.mem b (by rw[<- hb];exact hS.nx k hlt) (fun j r0 hj hjb => ?_);have:=hS.inj j k (getElem?_lt hj) hlt (hjb.trans hb.symm);subst this;rw[hrw]at hj;injection hj with hj;subst hj;exact hrr
  have hga1:get st1.tm a=some (.ptr b off):=by rw[opC_other (callL_fr E) h2 (hno ha).1];exact hga
  have hgt1:get st1.tm t=some v:=by rw[opC_other (callL_fr E) h2 (hno ht).1];exact hgt
  have hld1:loadD st1 ag sz (.ptr b off)=some v:=(loadD_mem hmem ag sz).trans hld;obtain⟨p',h4,st',ρ2,τ2,h5,h6⟩:=ih h3.sim (h3.wf hw) h1 hfl.2 (hno ht).2 (hno ha).2 ⟨rw',h3.ro hw k rw' hrw hrr,hrr⟩ (by rw[h3.ρs k hlt];exact hb) hga1 hld1 hgt1;refine⟨p',h4,st',ρ2,τ2,?_,h3.trans hw h6⟩;have ho:regd none o=o:=by obtain⟨d,op,gd⟩:=o;cases gd<;>rfl
  simp only[eraseO,eraseG,runFl,ho,h2];rw[zb]
  ·exact h5
  ·intro z hz;obtain rfl:=List.mem_singleton.1 hz;refine .inl ⟨rfl,some v,?_,fun u d hu hd => ?_⟩
   ·simp only[opD,ev,hga1,zD,hld1,zC]
   ·injection hu with hu;subst hu;exact hgt1.symm.trans hd
 | box n dst x r=>intro _ r ρ τ p st K hS hw h hfl;simp[flatO]at hfl
 | grp c w ops dst a b s ih1 ih2=>intro _ r ρ τ p st K hS hw h hfl;simp[flatO]at hfl
theorem pexec_ok(hg:GlR E gl)(hpc:PcOk E gl.md pc)(c:PC) : ∀ {ρ':Type} {r:ρ'} {ρ:Nat->Nat} {τ:Nat->Option Nat} {p:PSt} {st:St} {K:PEx->PSt->Option ρ'},Sim ρ τ p st->Wf p->pexecK gl pc c p K=some r ->
  ∃ x p',K x p'=some r /\ ∃ st' ρ1 τ1,execL E (erase c) st=some (exOf x,st')/\Goes ρ τ p st ρ1 τ1 p' st':=by
 induction c with
 | skip=>intro _ r ρ τ p st K hS hw h;exact⟨.nrm,p,h,st,ρ,τ,execL_skip st,.refl hS⟩
 | exit id=>intro _ r ρ τ p st K hS hw h;exact⟨.ext id,p,h,st,ρ,τ,execL_exit id st,.refl hS⟩
 | ret=>intro _ r ρ τ p st K hS hw h;exact⟨.ret,p,h,st,ρ,τ,execL_ret st,.refl hS⟩
 | reg ops keep=>intro _ r ρ τ p st K hS hw h;simp only[pexecK]at h;obtain⟨p1,h1,st1,ρ1,τ1,h2,h3⟩:=prunK_ok hg hpc _ hS hw h;exact⟨.nrm,_,h1,_,ρ1,τ1,by simp only[erase,execL_reg,h2];rfl,h3.trans hw (kept_goes h3.sim keep)⟩
 | drw a0 a1 b keep=>
  intro _ r ρ τ p st K hS hw h;simp only[pexecK]at h;obtain⟨p1,h1,st1,ρ1,τ1,h2,h3⟩:=prunK_ok hg hpc _ hS hw h;split at h1<;>try contradiction
  next hst=>have hw1:=h3.wf hw;obtain⟨p2,h4,st2,h5,τ2,h6,h7⟩:=still_ok hg hpc _ (sealRows_sim h3.sim) st1.nx ⟨sealR_ro p1,sealRows_wf hw1,zR _,zR _,fun i l hi hτ=>absurd (h3.sim.lin i l hτ).1 (Nat.not_lt.2 hi)⟩ hst h1;have h8:=unsealRows h3.sim h6 h7;obtain⟨p3,h9,st3,ρ3,τ3,h10,h11⟩:=prunK_ok hg hpc _ h8.sim (h8.wf hw1) h4;exact⟨.nrm,_,h9,_,ρ3,τ3,by simp only[erase,execL_drw,runDrw,runB,runFl,h2,h5,h10];rfl,h3.trans hw (h8.trans hw1 (h11.trans (h8.wf hw1) (kept_goes h11.sim keep)))⟩
 | drq a0 a1 b keep=>intro _ r ρ τ p st K hS hw h;simp only[pexecK]at h;obtain⟨p1,h1,st1,ρ1,τ1,h2,h3⟩:=prunK_ok hg hpc _ hS hw h;have hw1:=h3.wf hw;obtain⟨p2,h4,st2,ρ2,τ2,h5,h6⟩:=prunA_ok hg hpc _ h3.sim hw1 h1;have hw2:=h6.wf hw1;obtain⟨p3,h9,st3,ρ3,τ3,h10,h11⟩:=prunK_ok hg hpc _ h6.sim hw2 h4;exact⟨.nrm,_,h9,_,ρ3,τ3,by simp only[erase,execL_drw,runDrw,runB,runFl,h2,h5,h10];rfl,h3.trans hw (h6.trans hw1 (h11.trans hw2 (kept_goes h11.sim keep)))⟩
 | drf a0 t ag sz a k b1 b keep=>
  intro _ r ρ τ p st K hS hw h;simp only[pexecK]at h;obtain⟨p0,h1,st0,ρ0,τ0,h2,h3⟩:=prunK_ok hg hpc _ hS hw h;have hw0:=h3.wf hw;obtain⟨p1,h4,st1,ρ1,τ1,h5,h6,_⟩:=pone_ok hg hpc h3.sim hw0 h1;have hw1:=h6.wf hw0;split at h4<;>try contradiction
  next k' off hga=>
   split at h4<;>try contradiction
   next hst=>
    simp only[zG,Bool.not_eq_true']at hst;obtain⟨⟨⟨⟨hkk,hta⟩,hdt⟩,hda⟩,hfl⟩:=hst;obtain rfl:=zJ hkk;split at h4<;>try contradiction
    next p2 hp2=>
     have hsim2:=hold_sim h6.sim hp2;have hw2:=hold_wf hw1 hp2;obtain⟨c,hc,hp2e⟩:=hold_some hp2;rw[getF_getP,zB]at hga;obtain⟨⟨fl,d⟩,hgf,hd⟩:=hga;simp only at hd;subst hd;obtain⟨e,he1,he2⟩:=h6.sim.tm a fl _ hgf;obtain⟨_,rfl⟩:=he2;have he1:get st1.tm a=some (.ptr (ρ1 k) off):=he1
     -- what was loaded
     have hst1 : ∃ v,st1=st0.set (some t) (some v)/\loadD st0 ag sz (.ptr (ρ1 k) off)=some v:=by
      simp only[opC,wants,opR,opX,opD,zB,zA]at h5;obtain⟨rv,⟨pr,⟨dd,hdd,vv,hvv,rfl⟩,rfl⟩,hh⟩:=h5;injection hh with hh;have h7:get st1.tm a=get st0.tm a:=by rw[<- hh,get_set,za (by intro e;injection e with e;subst e;simp at hta)]
      have h8:dd = .ptr (ρ1 k) off:=by have:get st0.tm a=some dd:=hdd;rw[<- h7,he1]at this;injection this with this;exact this.symm
      subst h8;exact⟨vv,hh.symm,hvv⟩
     obtain⟨v,hv1,hv2⟩:=hst1;have hgt:get st1.tm t=some v:=by rw[hv1,get_set,zb rfl]
     have hld:loadD st1 ag sz (.ptr (ρ1 k) off)=some v:=by rw[loadD_mem (s:=st0) (by rw[hv1];rfl)];exact hv2
     obtain⟨p3,h7,st3,ρ3,τ3,h8,h9⟩:=fl_ok (Y:=eraseO a0++[⟨some t,.load ag sz (.s a),none⟩]) hg hpc b1 hsim2 hw2 h4 hfl hdt hda ⟨_,by rw[hp2e];exact yb (getElem?_lt hc),rfl⟩ rfl he1 hld hgt;have h10:=unhold_goes hw1 hp2 h9;obtain⟨p4,h11,st4,ρ4,τ4,h12,h13⟩:=prunK_ok hg hpc _ h10.sim (h10.wf hw1) h7;refine⟨.nrm,_,h11,_,ρ4,τ4,?_,h3.trans hw (h6.trans hw0 (h10.trans hw1 (h13.trans (h10.wf hw1) (kept_goes h13.sim keep))))⟩;have hstill:runStill E (callL E) [⟨some t,.load ag sz (.s a),none⟩] st0=some st1:=by simp only[runStill,h5];rw[zb (by rw[hv1];rfl)]
     have hlo:loadsOf [⟨some t,.load ag sz (.s a),none⟩]=[⟨some t,.load ag sz (.s a),none⟩]:=rfl;simp only[erase,execL_drw,runDrw,h2,hstill,runB,hlo,h8,h12];rfl
 | seq a b iha ihb=>
  intro _ r ρ τ p st K hS hw h;simp only[pexecK]at h;obtain⟨x,p1,h1,st1,ρ1,τ1,h2,h3⟩:=iha hS hw h;cases x with
  | nrm=>obtain⟨x,p2,h4,st2,ρ2,τ2,h5,h6⟩:=ihb h3.sim (h3.wf hw) h1;exact⟨x,p2,h4,st2,ρ2,τ2,by simp only[erase,execL_seq,h2,exOf];exact h5,h3.trans hw h6⟩
  | ext i=>exact⟨.ext i,p1,h1,st1,ρ1,τ1,by simp only[erase,execL_seq,h2,exOf],h3⟩
  | ret=>exact⟨.ret,p1,h1,st1,ρ1,τ1,by simp only[erase,execL_seq,h2,exOf],h3⟩
 | cond c a b iha ihb=>
  intro _ r ρ τ p st K hS hw h;simp only[pexecK]at h;split at h<;>try contradiction
  next cv hc=>
   rw[zA]at h;obtain⟨cb,hcb,h⟩:=h;obtain⟨e,he,hr⟩:=evV_ok (E:=E) hg hS hc;have:=asBool_ok hcb hr;subst this;split at h
   ·next hb=>
    subst hb;obtain⟨x,p1,h1,st1,ρ1,τ1,h2,h3⟩:=iha hS hw h;exact⟨x,p1,h1,st1,ρ1,τ1,by simp only[erase,execL_cond,he];exact h2,h3⟩
   ·next hb=>
    have hb:cb=false:=by simpa using hb
    subst hb;obtain⟨x,p1,h1,st1,ρ1,τ1,h2,h3⟩:=ihb hS hw h;exact⟨x,p1,h1,st1,ρ1,τ1,by simp only[erase,execL_cond,he];exact h2,h3⟩
 | blk id c ih=>
  intro _ r ρ τ p st K hS hw h;simp only[pexecK]at h;obtain⟨x,p1,h1,st1,ρ1,τ1,h2,h3⟩:=ih hS hw h;cases x with
  | nrm=>exact⟨.nrm,p1,h1,st1,ρ1,τ1,by simp only[erase,execL_blk,h2,exOf,blkE],h3⟩
  | ret=>exact⟨.ret,p1,h1,st1,ρ1,τ1,by simp only[erase,execL_blk,h2,exOf,blkE],h3⟩
  | ext i=>
   simp only at h1;split at h1
   ·next hb=>
    have hb:=zJ hb;exact⟨.nrm,p1,h1,st1,ρ1,τ1,by simp only[erase,execL_blk,h2,exOf,blkE,hb,zb],h3⟩
   ·next hb=>
    have hne:i≠id:=fun e=>by subst e;rw[Nat.beq_refl]at hb;contradiction
    exact⟨.ext i,p1,h1,st1,ρ1,τ1,by simp only[erase,execL_blk,h2,exOf,blkE,za hne],h3⟩
 | cut hd xs c ih=>
  intro _ r ρ τ p st K hS hw h;simp only[pexecK]at h;obtain⟨v0,h1,h2⟩:=in_enter hS h;split at h1<;>try contradiction
  next pv hpv=>
   obtain⟨τ1,hin⟩:=h2 pv hpv;rw[zA]at h1;obtain⟨o,ho,h1⟩:=h1;obtain⟨x,p1,h3,st1,ρ1,τ2,h4,h5⟩:=ih hin.sim hin.wf ho;split at h3<;>try contradiction
   next j sh hx=>obtain⟨v,h6,_,h7⟩:=in_step hS hin h5 h3;injection h6 with h6;subst h6;obtain⟨_,h8⟩:=findX_ok (r:=r) (p:=p) (v:=v) (K:=K) hx;obtain⟨q,hq,h9⟩:=h8 h1;obtain⟨τ3,h10⟩:=h7 q hq;exact⟨x,q,h9,st1,ρ1,τ3,h4,h10⟩
 | loop hd xs c ih=>
  intro ρ' r ρ τ p st K hS hw h;simp only[pexecK]at h;obtain⟨v0,h1,h2⟩:=in_enter hS h;rw[zA]at h1;obtain⟨o,ho,h1⟩:=h1;obtain⟨n,hn⟩:=loopL_iff.1 ho;clear ho h;have key : ∀ (n:Nat) (v:Nat->V) (ρ1:Nat->Nat) (st1:St),(∀ pv,dec true hd p v=some pv -> ∃ τ1,In ρ τ p st ρ1 τ1 pv st1)->loopM (fun v:Nat->V=>match dec true hd p v with
    | some pv=>pexecK gl pc c pv fun x p'=>match x with
     | .nrm=>encK true hd p' fun v'=>some (.inl v')
     | .ext i=>match findX xs (.ext i) 0 with | some (j,sh)=>encK true sh p' fun v'=>some (.inr (j,v')) | none=>none
     | .ret=>match findX xs .ret 0 with | some (j,sh)=>encK true sh p' fun v'=>some (.inr (j,v')) | none=>none
    | none=>none) n v=some o -> ∃ x q,K x q=some r /\ ∃ st' ρ2 τ2,execL E (.loop (erase c)) st1=some (exOf x,st')/\Goes ρ τ p st ρ2 τ2 q st':=by
   intro n;induction n with
   | zero=>intro v ρ1 st1 _ h;simp[loopM]at h
   | succ n ihn=>
    intro v ρ1 st1 hin h;simp only[loopM]at h;cases hdv:dec true hd p v with
    | none=>rw[hdv]at h;contradiction
    | some pv=>
     obtain⟨τ1,hin⟩:=hin pv hdv;rw[hdv]at h;simp only at h;have leave : ∀ {x:PEx} {p1:PSt} {st2:St} {ρ2:Nat->Nat} {τ2:Nat->Option Nat} {j:Nat} {sh:Sh} {b:Nat×(Nat->V)},x ≠ .nrm->execL E (erase c) st1=some (exOf x,st2)->Goes ρ1 τ1 pv st1 ρ2 τ2 p1 st2->findX xs x 0=some (j,sh) ->
       (encK true sh p1 fun v'=>some (Sum.inr (α:=Nat->V) (j,v')))=some (.inr b)->b=o -> ∃ x q,K x q=some r /\ ∃ st' ρ2 τ2,execL E (.loop (erase c)) st1=some (exOf x,st')/\Goes ρ τ p st ρ2 τ2 q st':=by
      intro x p1 st2 ρ2 τ2 j sh b hx h4 h5 hf h6 hb;subst hb;obtain⟨v,h7,_,h8⟩:=in_step hS hin h5 h6;injection h7 with h7;injection h7 with h7;subst h7;obtain⟨_,h9⟩:=findX_ok (r:=r) (p:=p) (v:=v) (K:=K) hf;obtain⟨q,hq,h10⟩:=h9 h1;obtain⟨τ3,h11⟩:=h8 q hq;refine⟨x,q,h10,st2,ρ2,τ3,?_,h11⟩;rw[execL_loop,h4];cases x with
      | nrm=>exact(hx rfl).elim
      | ext i=>rfl
      | ret=>rfl
     split at h
     ·next a' he=>
      obtain⟨x,p1,h3,st2,ρ2,τ2,h4,h5⟩:=ih hin.sim hin.wf he;cases x with
      | nrm=>simp only at h3;obtain⟨v',h6,h7,_⟩:=in_step hS hin h5 h3;injection h6 with h6;injection h6 with h6;subst h6;obtain⟨x,q,h8,st',ρ3,τ3,h9,h10⟩:=ihn v' ρ2 st2 h7 h;refine⟨x,q,h8,st',ρ3,τ3,?_,h10⟩;rw[execL_loop,h4];exact h9
      | ext i=>
       simp only at h3;split at h3<;>try contradiction
       obtain⟨v',h6,_⟩:=encK_ok h3;simp at h6
      | ret=>
       simp only at h3;split at h3<;>try contradiction
       obtain⟨v',h6,_⟩:=encK_ok h3;simp at h6
     ·next b he=>
      obtain⟨x,p1,h3,st2,ρ2,τ2,h4,h5⟩:=ih hin.sim hin.wf he;injection h with h;cases x with
      | nrm=>simp only at h3;obtain⟨v',h6,_⟩:=encK_ok h3;simp at h6
      | ext i=>
       simp only at h3;split at h3<;>try contradiction
       next j sh hf=>exact leave (by simp) h4 h5 hf h3 h
      | ret=>
       simp only at h3;split at h3<;>try contradiction
       next j sh hf=>exact leave (by simp) h4 h5 hf h3 h
     ·contradiction
  exact key n v0 ρ st h2 hn
end
end
section
section
variable {ρ:Type}
theorem tst_nat{α:Type}(b:Bool)(k:Option α)(f:α->Option ρ):(tst b k).bind f=tst b (k.bind f):=by cases b<;>rfl
def cellsFromD(x:V)(i n:Nat):Option (List PS):=cellsFrom x i n some
theorem cellsFrom_nat'(x:V)(n:Nat) : ∀ (i:Nat) {ρ:Type} (K:List PS->Option ρ),cellsFrom x i n K=(cellsFromD x i n).bind K:=by
 unfold cellsFromD;induction n with
 | zero=>intro i _ K;rfl
 | succ n ih=>intro i _ K;simp only[cellsFrom];rw[zE];congr 1;funext c;rw[ih (i+1) (fun l=>K (.v c::l)),ih (i+1) (fun l=>some (PS.v c::l)),zE];rfl
theorem cellsFrom_nat(x:V)(i n:Nat)(K:List PS->Option ρ):cellsFrom x i n K=(cellsFromD x i n).bind K:=cellsFrom_nat' x n i K
def cellsD(n:Nat)(d:PD):Option (List PS):=cellsK n d some
theorem cellsK_nat(n:Nat)(d:PD)(K:List PS->Option ρ):cellsK n d K=(cellsD n d).bind K:=by
 unfold cellsD;cases d with
 | agg ps=>simp only[cellsK];split<;>rfl
 | s q=>cases q<;>simp only[cellsK,cellsFrom_nat,tst_nat,zE,zD]<;>first | rfl | (split<;>rfl)
def buildD(gl:Gl)(p:PSt)(cells:List PS)(ps:List (Nat×Nat×X)):Option (List PS):=buildK gl p cells ps some
theorem buildK_nat(gl:Gl)(p:PSt)(cells:List PS)(ps:List (Nat×Nat×X))(K:List PS->Option ρ):buildK gl p cells ps K=(buildD gl p cells ps).bind K:=by
 unfold buildD;induction ps generalizing cells K with
 | nil=>rfl
 | cons q r ih=>
  obtain⟨o,n,x⟩:=q;simp only[buildK];split
  ·split
   ·simp only[cellsK_nat,zE];congr 1;funext c;exact ih _ _
   ·rfl
  ·rfl
def elD(sz:Nat)(els:List V)(o n:Nat)(x:V):Option (List V):=elK sz els o n x some
theorem elK_nat(sz:Nat)(els:List V)(o n:Nat)(x:V)(K:List V->Option ρ):elK sz els o n x K=(elD sz els o n x).bind K:=by
 unfold elD elK;split
 ·split
  ·rw[tst_nat,zE];rfl
  ·rw[tst_nat];rfl
 ·split
  ·rfl
  ·split
   ·split
    ·rw[tst_nat];rfl
    ·rfl
   ·rfl
def litD(gl:Gl)(p:PSt)(sz:Nat)(els:List V)(ps:List (Nat×Nat×X)):Option (List V):=litK gl p sz els ps some
theorem litK_nat(gl:Gl)(p:PSt)(sz:Nat)(els:List V)(ps:List (Nat×Nat×X))(K:List V->Option ρ):litK gl p sz els ps K=(litD gl p sz els ps).bind K:=by
 unfold litD;induction ps generalizing els K with
 | nil=>rfl
 | cons q r ih=>
  obtain⟨o,n,x⟩:=q;simp only[litK];split
  ·split
   ·split
    ·simp only[elK_nat,zE];congr 1;funext c;exact ih _ _
    ·rfl
   ·rfl
  ·rfl
def slD(sz:Nat)(p:PSt)(d:PD):Option (List V):=slK sz p d some
theorem slK_nat(sz:Nat)(p:PSt)(d:PD)(K:List V->Option ρ):slK sz p d K=(slD sz p d).bind K:=by
 unfold slD;cases d with
 | agg ps=>rfl
 | s q=>cases q<;>simp only[slK,tst_nat,zD]<;>first | rfl | (rw[zE];rfl) | (split<;>first | rfl | (split<;>rfl)) | simp
def srcD(sz:Nat)(p:PSt)(d:PD):Option (List V):=srcK sz p d some
theorem srcK_nat(sz:Nat)(p:PSt)(d:PD)(K:List V->Option ρ):srcK sz p d K=(srcD sz p d).bind K:=by
 unfold srcD srcK;split
 ·rw[zE];rfl
 ·exact slK_nat sz p _ K
def loadD'(p:PSt)(ag:Bool)(sz:Nat)(d:PD):Option PD:=loadK p ag sz d some
theorem loadK_nat(p:PSt)(ag:Bool)(sz:Nat)(d:PD)(K:PD->Option ρ):loadK p ag sz d K=(loadD' p ag sz d).bind K:=by
 unfold loadD';cases d with
 | agg ps=>rfl
 | s q=>
  cases q<;>simp only[loadK]<;>try rfl
  all_goals (repeat' split)<;>first | rfl | (simp only[tst_nat,zE,zD]) | (simp only[tst_nat,zE,zD];congr 1;funext x;split<;>rfl)
def storeD'(p:PSt)(sz:Nat)(a v:PD):Option PSt:=storeK p sz a v some
theorem storeK_nat(p:PSt)(sz:Nat)(a v:PD)(K:PSt->Option ρ):storeK p sz a v K=(storeD' p sz a v).bind K:=by
 unfold storeD';cases a with
 | agg ps=>rfl
 | s q=>
  cases q<;>simp only[storeK]<;>try rfl
  all_goals (repeat' split)<;>first | rfl | (simp only[cellsFrom_nat,cellsK_nat,tst_nat,zE,zD])
def appD'(p:PSt)(sz bytes:Nat)(s:PD)(ys:List V):Option (PD×PSt):=appK p sz bytes s ys fun a b=>some (a,b)
theorem appK_nat(p:PSt)(sz bytes:Nat)(s:PD)(ys:List V)(K:PD->PSt->Option ρ):appK p sz bytes s ys K=(appD' p sz bytes s ys).bind fun q=>K q.1 q.2:=by
 unfold appD';cases s with
 | agg ps=>rfl
 | s q=>
  cases q<;>simp only[appK]<;>try rfl
  all_goals (repeat' split)<;>first | rfl | (simp only[tst_nat,zD];done) | (simp only[tst_nat];done) | (simp only[tst_nat];rfl) | (simp only[tst_nat];congr 1;split<;>first | rfl | (split<;>rfl))
def backD(p:PSt)(ys:List V)(j:Nat)(ks:List Nat):Option PSt:=backK p ys j ks some
theorem backK_nat(p:PSt)(ys:List V)(j:Nat)(ks:List Nat)(K:PSt->Option ρ):backK p ys j ks K=(backD p ys j ks).bind K:=by
 unfold backD;induction ks generalizing p j K with
 | nil=>rfl
 | cons k r ih=>
  simp only[backK];split
  ·exact ih _ _ _
  ·split
   ·rw[zE];congr 1;funext y;exact ih _ _ _
   ·rfl
  ·rfl
def callND(pc:PcT)(f:Nat)(ds:List PD)(p:PSt):Option (PD×PSt):=callN pc f ds p fun a b=>some (a,b)
theorem callN_nat(pc:PcT)(f:Nat)(ds:List PD)(p:PSt)(K:PD->PSt->Option ρ):callN pc f ds p K=(callND pc f ds p).bind fun q=>K q.1 q.2:=by
 unfold callND callN;split
 ·split
  ·rw[zE];congr 1;funext r;rw[backK_nat,backK_nat (K:=fun p''=>some (PD.s (.v r.1),p'')),zE];rfl
  ·rfl
 ·rfl
def callD(md:Nat->Md)(pc:PcT)(f:Nat)(ds:List PD)(p:PSt):Option (PD×PSt):=callK md pc f ds p fun a b=>some (a,b)
theorem effK_nat(e:Eff)(ds:List PD)(p:PSt)(K:PD->PSt->Option ρ):effK e ds p K=(effK e ds p fun a b=>some (a,b)).bind fun q=>K q.1 q.2:=by
 unfold effK tst
 (repeat' split)<;>first | rfl | (rw[zE];congr 1;done) | (rw[zE];congr 1;funext s;split<;>rfl)
theorem callK_nat(md:Nat->Md)(pc:PcT)(f:Nat)(ds:List PD)(p:PSt)(K:PD->PSt->Option ρ):callK md pc f ds p K=(callD md pc f ds p).bind fun q=>K q.1 q.2:=by
 unfold callD callK;split
 ·exact callN_nat _ _ _ _ _
 ·unfold callG;split
  ·rw[zE];congr 1;funext r;rw[zE];rfl
  ·rfl
 ·unfold callW;split
  ·split
   ·split
    ·rw[zE];rfl
    ·rfl
   ·rfl
  ·split
   ·unfold tst;split
    ·rw[zE];rfl
    ·rfl
   ·rfl
  ·rfl
 ·unfold callF fulP;split
  ·split
   ·split
    ·rw[zE];rfl
    ·rfl
   ·unfold tst;split
    ·split
     ·rw[zE];rfl
     ·rfl
    ·rfl
   ·rfl
  ·rfl
 ·split
  ·unfold callG fulP;split
   ·split
    ·rw[zE];congr 1;funext r;rw[zE];rfl
    ·rfl
   ·unfold tst;split
    ·split
     ·rw[zE];congr 1;funext r;rw[zE];rfl
     ·rfl
    ·rfl
   ·rfl
  ·rfl
 ·exact effK_nat _ _ _ _
theorem slaK_nat(p:PSt)(n sz:Nat)(l h m:Option V)(d:PD)(K:PD->Option ρ):slaK p n sz l h m d K=(slaK p n sz l h m d some).bind K:=by
 unfold slaK tst
 (repeat' split)<;>first | rfl | (rw[zE];rfl)
def popD(gl:Gl)(pc:PcT)(p:PSt)(o:O):Option (Option PD×PSt):=popK gl pc p o fun a b=>some (a,b)
theorem popK_nat(gl:Gl)(pc:PcT)(p:PSt)(o:O)(K:Option PD->PSt->Option ρ):popK gl pc p o K=(popD gl pc p o).bind fun q=>K q.1 q.2:=by
 unfold popD;cases o<;>simp only[popK,slaK_nat (K:=fun d=>K (some d) p),slaK_nat (K:=fun d=>some (some d,p)),buildK_nat,litK_nat,slK_nat,srcK_nat,loadK_nat,storeK_nat,appK_nat,callK_nat,callN_nat]<;>first
  | rfl
  | ((repeat' split)<;>first | rfl | (simp only[zE,zD];done) | (simp only[zE];rfl) | (simp only[zE];congr 1;done) | (simp only[zE];congr 1;funext x;unfold tst;split<;>rfl) | (simp only[zE];congr 1;funext x;split<;>first | rfl | (simp only[zE,zD];done) | (split<;>first | rfl | (simp only[zE,zD];done) | (split<;>first | rfl | (unfold tst;split<;>rfl))) ))
end
end
section
def poneD(gl:Gl)(pc:PcT)(o:OpC)(p:PSt):Option PSt:=pone gl pc o p some
theorem pone_nat(gl:Gl)(pc:PcT)(o:OpC)(p:PSt){ρ:Type}(K:PSt->Option ρ):pone gl pc o p K=(poneD gl pc o p).bind K:=by
 unfold poneD pone;simp only[popK_nat];split
 ·rw[zE];congr 1;funext q;split<;>rfl
 ·split
  ·rw[zE];congr 1;funext c;split
   ·rw[zE];congr 1;funext q;split<;>rfl
   ·split<;>rfl
  ·rfl
def cellsK1D(n:Nat)(d:PD):Option RowC:=cellsK1 n d some
theorem cellsK1_nat(n:Nat)(d:PD){ρ:Type}(K:RowC->Option ρ):cellsK1 n d K=(cellsK1D n d).bind K:=by
 unfold cellsK1D cellsK1;simp only[cellsK_nat];split
 ·split
  ·rw[tst_nat];rfl
  ·rw[zE];rfl
 ·rw[zE];rfl
def prunD(gl:Gl)(pc:PcT)(l:PO)(p:PSt):Option PSt:=prunK gl pc l p some
theorem prunK_nat(gl:Gl)(pc:PcT)(l:PO) : ∀ (p:PSt) {ρ:Type} (K:PSt->Option ρ),prunK gl pc l p K=(prunD gl pc l p).bind K:=by
 unfold prunD;induction l with
 | nil=>intro p _ K;rfl
 | one o s ih=>intro p _ K;simp only[prunK,pone_nat,zE];congr 1;funext q;exact ih q K
 | box n dst x s ih=>
  intro p _ K;simp only[prunK,cellsK1_nat];split
  ·rw[zE];congr 1;funext c;split
   ·exact ih _ K
   ·rfl
  ·rfl
 | grp c w ops dst a b s ih1 ih2=>
  intro p _ K;simp only[prunK];split
  ·split
   ·split
    ·split
     ·rw[zE];congr 1;funext c;rw[zE];congr 1;funext x;split
      ·exact ih2 _ K
      ·rfl
     ·rfl
    ·rfl
   ·rfl
  ·rfl
def prunAD(gl:Gl)(pc:PcT)(l:PO)(p:PSt):Option PSt:=prunA gl pc l p some
theorem prunA_nat(gl:Gl)(pc:PcT)(l:PO) : ∀ (p:PSt) {ρ:Type} (K:PSt->Option ρ),prunA gl pc l p K=(prunAD gl pc l p).bind K:=by
 unfold prunAD;induction l with
 | nil=>intro p _ K;rfl
 | one o s ih=>
  intro p _ K;simp only[prunA,pone_nat];split
  ·split
   ·rw[zE];congr 1;funext q;exact ih q K
   ·rfl
  ·rfl
 | box n dst x s ih=>intro p _ K;rfl
 | grp c w ops dst a b s ih1 ih2=>intro p _ K;rfl
def encSD(m:Nat)(kd:Kd)(q:PS)(ids:List Nat):Option (List V×List Nat):=encS m kd q ids fun a b=>some (a,b)
theorem encS_nat(m:Nat)(kd:Kd)(q:PS)(ids:List Nat){ρ:Type}(K:List V->List Nat->Option ρ):encS m kd q ids K=(encSD m kd q ids).bind fun q=>K q.1 q.2:=by unfold encSD;cases kd<;>simp only[encS]<;>(repeat' split)<;>first | rfl | (rw[tst_nat];rfl)
def encLD(m:Nat)(kds:List Kd)(qs:List PS)(ids:List Nat):Option (List V×List Nat):=encL m kds qs ids fun a b=>some (a,b)
theorem encL_nat(m:Nat)(kds:List Kd) : ∀ (qs:List PS) (ids:List Nat) {ρ:Type} (K:List V->List Nat->Option ρ),encL m kds qs ids K=(encLD m kds qs ids).bind fun q=>K q.1 q.2:=by
 unfold encLD;induction kds with
 | nil=>intro qs ids _ K;cases qs<;>rfl
 | cons kd r ih=>
  intro qs ids _ K;cases qs with
  | nil=>rfl
  | cons q s=>simp only[encL,encS_nat,zE];congr 1;funext a;rw[ih s a.2 (fun l' ids=>K (a.1++l') ids),ih s a.2 (fun l' ids=>some (a.1++l',ids)),zE];rfl
def encTD(strict:Bool)(m:Nat)(p:PSt)(sl:List (Nat×Kd))(ids:List Nat):Option (List V×List Nat):=encT strict m p sl ids fun a b=>some (a,b)
theorem encT_nat(strict:Bool)(m:Nat)(p:PSt)(sl:List (Nat×Kd)) : ∀ (ids:List Nat) {ρ:Type} (K:List V->List Nat->Option ρ),encT strict m p sl ids K=(encTD strict m p sl ids).bind fun q=>K q.1 q.2:=by
 unfold encTD;induction sl with
 | nil=>intro ids _ K;rfl
 | cons a r ih=>
  obtain⟨t,kd⟩:=a;intro ids _ K;simp only[encT];split
  ·split
   ·split
    ·exact ih ids K
    ·rfl
   ·split
    ·rfl
    ·split
     ·simp only[encS_nat,zE];congr 1;funext a;rw[ih a.2 (fun l' ids=>K (a.1++l') ids),ih a.2 (fun l' ids=>some (a.1++l',ids)),zE];rfl
     ·split
      ·split
       ·next x _ =>
        rw[ih ids (fun l' ids=>K (.agg x::l') ids),ih ids (fun l' ids=>some (.agg x::l',ids)),zE];rfl
       ·rfl
      ·rfl
  ·rfl
def encRD(strict:Bool)(m:Nat)(rks:List RK)(rows:List Row)(ids:List Nat):Option (List V×List Nat):=encR strict m rks rows ids fun a b=>some (a,b)
theorem encR_nat(strict:Bool)(m:Nat)(rks:List RK) : ∀ (rows:List Row) (ids:List Nat) {ρ:Type} (K:List V->List Nat->Option ρ),encR strict m rks rows ids K=(encRD strict m rks rows ids).bind fun q=>K q.1 q.2:=by
 unfold encRD;induction rks with
 | nil=>
  intro rows ids _ K;cases rows with
  | nil=>rfl
  | cons _ _=>simp only[encR];split<;>rfl
 | cons rk r ih=>
  intro rows ids _ K;cases rows with
  | nil=>rfl
  | cons a s=>
   obtain⟨f,c⟩:=a;have pre : ∀ (l:List V) (ids:List Nat),encR strict m r s ids (fun l' ids=>K (l++l') ids)=(encR strict m r s ids fun l' ids=>some (l++l',ids)).bind fun q=>K q.1 q.2:=by intro l ids;rw[ih s ids (fun l' ids=>K (l++l') ids),ih s ids (fun l' ids=>some (l++l',ids)),zE];rfl
   have pre1 : ∀ (x:V) (ids:List Nat),encR strict m r s ids (fun l' ids=>K (x::l') ids)=(encR strict m r s ids fun l' ids=>some (x::l',ids)).bind fun q=>K q.1 q.2:=fun x ids=>pre [x] ids
   simp only[encR];split
   ·split
    ·exact ih s ids K
    ·rfl
   ·split
    ·rfl
    ·exact ih s ids K
   ·split
    ·rfl
    ·split
     ·split
      ·exact pre1 _ ids
      ·rfl
     ·split
      ·split
       ·exact pre1 _ ids
       ·rfl
      ·rfl
     ·rfl
   ·split
    ·rfl
    ·split
     ·simp only[encL_nat,zE];congr 1;funext a;exact pre a.1 a.2
     ·simp only[cellsFrom_nat,encL_nat,zE];congr 1;funext ps;congr 1;funext a;exact pre a.1 a.2
     ·rfl
   ·split
    ·rfl
    ·split
     ·split
      ·exact pre1 _ ids
      ·rfl
     ·rfl
   ·split
    ·rfl
    ·split
     ·next x n=>exact pre [.str x,.int .i64 (n:Int)] ids
     ·rfl
   ·split
    ·rfl
    ·split
     ·split
      ·exact pre1 _ ids
      ·rfl
     ·rfl
def encD(strict:Bool)(sh:Sh)(p:PSt):Option (Nat->V):=encK strict sh p some
theorem encK_nat(strict:Bool)(sh:Sh)(p:PSt){ρ:Type}(K:(Nat->V)->Option ρ):encK strict sh p K=(encD strict sh p).bind K:=by unfold encD encK;simp only[encT_nat,encR_nat,zE];rfl
theorem dspK_nat(p:PSt)(v:Nat->V)(xs:List (PEx×Sh))(j:Nat){ρ:Type}(K:PEx->PSt->Option ρ):dspK p v K xs j=(dspK p v (fun a b=>some (a,b)) xs j).bind fun q=>K q.1 q.2:=by
 induction xs generalizing j with
 | nil=>rfl
 | cons a r ih=>
  obtain⟨x,sh⟩:=a;cases r with
  | nil=>simp only[dspK];split<;>rfl
  | cons b c=>
   simp only[dspK];split
   ·split<;>rfl
   ·exact ih _
noncomputable def pexecD(gl:Gl)(pc:PcT)(c:PC)(p:PSt):Option (PEx×PSt):=pexecK gl pc c p fun a b=>some (a,b)
theorem pexecK_nat(gl:Gl)(pc:PcT)(c:PC) : ∀ (p:PSt) {ρ:Type} (K:PEx->PSt->Option ρ),pexecK gl pc c p K=(pexecD gl pc c p).bind fun q=>K q.1 q.2:=by
 unfold pexecD;induction c with
 | skip=>intro p _ K;rfl
 | exit id=>intro p _ K;rfl
 | ret=>intro p _ K;rfl
 | reg ops keep=>intro p _ K;simp only[pexecK,prunK_nat,zE];rfl
 | drw a0 a1 b keep=>
  intro p _ K;simp only[pexecK,prunK_nat,zE];congr 1;funext p0;split
  ·simp only[zE];rfl
  ·rfl
 | drq a0 a1 b keep=>intro p _ K;simp only[pexecK,prunK_nat,prunA_nat,zE];rfl
 | drf a0 t ag sz a k b1 b keep=>
  intro p _ K;simp only[pexecK,prunK_nat,pone_nat,zE];congr 1;funext p0;congr 1;funext p1;split
  ·split
   ·split
    ·simp only[zE];rfl
    ·rfl
   ·rfl
  ·rfl
 | seq a b iha ihb=>
  intro p _ K;simp only[pexecK];refine(iha p _).trans ?_;refine Eq.trans ?_ (congrArg (fun z=>Option.bind z fun q:PEx×PSt=>K q.1 q.2) (iha p _).symm);simp only[zE];congr 1;funext q;obtain⟨x,p'⟩:=q;cases x with
  | nrm=>exact ihb p' K
  | ext i=>rfl
  | ret=>rfl
 | cond c a b iha ihb=>
  intro p _ K;simp only[pexecK];split
  ·rw[zE];congr 1;funext c;split
   ·exact iha p K
   ·exact ihb p K
  ·rfl
 | blk id c ih=>
  intro p _ K;simp only[pexecK];refine(ih p _).trans ?_;refine Eq.trans ?_ (congrArg (fun z=>Option.bind z fun q:PEx×PSt=>K q.1 q.2) (ih p _).symm);simp only[zE];congr 1;funext q;obtain⟨x,p'⟩:=q;cases x with
  | nrm=>rfl
  | ext i=>simp only;split<;>rfl
  | ret=>rfl
 | cut h xs c ih=>
  intro p _ K;simp only[pexecK];simp only[encK_nat,zE];congr 1;funext v0;split
  ·rw[zE];congr 1;funext o;exact dspK_nat _ _ _ _ K
  ·rfl
 | loop h xs c ih=>intro p _ K;simp only[pexecK];simp only[encK_nat,zE];congr 1;funext v0;congr 1;funext o;exact dspK_nat _ _ _ _ K
def Evt(P:Nat->Prop):Prop := ∃ n,∀ m,n<=m->P m
theorem Evt.and{P Q:Nat->Prop}(h:Evt P)(k:Evt Q):Evt fun m=>P m/\Q m:=by obtain⟨a,ha⟩:=h;obtain⟨b,hb⟩:=k;exact⟨Nat.max a b,fun m hm=>⟨ha m (zp (Nat.le_max_left a b) hm),hb m (zp (Nat.le_max_right a b) hm)⟩⟩
theorem Evt.mono{P Q:Nat->Prop}(h:Evt P)(k : ∀ m,P m->Q m):Evt Q:=by obtain⟨a,ha⟩:=h;exact⟨a,fun m hm=>k m (ha m hm)⟩
theorem Evt.all{P:Nat->Prop}(h : ∀ m,P m):Evt P:=⟨0,fun m _=>h m⟩
def Lim(pcs:Nat->PcT)(pc:PcT):Prop := ∀ f as pars r,pc f as pars=some r->Evt fun m=>pcs m f as pars=some r
section
variable {gl:Gl} {pcs:Nat->PcT} {pc:PcT}
theorem callND_lim(h:Lim pcs pc){f:Nat}{ds:List PD}{p:PSt}{z:PD×PSt}(hz:callND pc f ds p=some z):Evt fun m=>callND (pcs m) f ds p=some z:=by
 unfold callND callN at hz;split at hz<;>try contradiction
 next as ks p' h1=>
  split at hz<;>try contradiction
  next pars h2=>
   rw[zA]at hz;obtain⟨q,hq,hz⟩:=hz;refine(h f as pars q hq).mono fun m hm => ?_
   unfold callND callN;simp only[h1,h2,hm,zD];exact hz
theorem callD_lim(h:Lim pcs pc){md:Nat->Md}{f:Nat}{ds:List PD}{p:PSt}{z:PD×PSt}(hz:callD md pc f ds p=some z):Evt fun m=>callD md (pcs m) f ds p=some z:=by
 unfold callD callK at hz;split at hz
 ·next hf=>
  refine(callND_lim h hz).mono fun m hm => ?_
  unfold callD callK;simp only[hf];exact hm
 ·next sz hf=>
  unfold callG at hz;split at hz<;>try contradiction
  next as p' h1=>
   rw[zA]at hz;obtain⟨q,hq,hz⟩:=hz;refine(h f _ _ q hq).mono fun m hm => ?_
   unfold callD callK;simp only[hf,callG,h1,hm,zD];exact hz
 ·next sz hf=>
  unfold callW at hz;split at hz<;>try contradiction
  ·next id sz' ys rest=>
   split at hz<;>try contradiction
   next hsz=>
    split at hz<;>try contradiction
    next xs hxs=>
     rw[zA]at hz;obtain⟨q,hq,hz⟩:=hz;refine(h f _ _ q hq).mono fun m hm => ?_
     unfold callD callK;simp only[hf,callW,hsz,hxs,hm,zD];exact hz
  ·next ys rest=>
   split at hz<;>try contradiction
   next xs hxs=>
    obtain⟨hs,hz⟩:=tst_some hz;rw[zA]at hz;obtain⟨q,hq,hz⟩:=hz;refine(h f _ _ q hq).mono fun m hm => ?_
    unfold callD callK;simp only[hf,callW,hxs,hm,hs,tst,zD];exact hz
 ·next hf=>
  unfold callF fulP at hz;split at hz<;>try contradiction
  next d ds=>
   split at hz<;>try contradiction
   ·next ys=>
    split at hz<;>try contradiction
    next as p' h1=>
     rw[zA]at hz;obtain⟨q,hq,hz⟩:=hz;refine(h f _ _ q hq).mono fun m hm => ?_
     unfold callD callK;simp only[hf,callF,fulP,h1,hm,zD];exact hz
   ·next k sz off n c z=>
    obtain⟨hs,hz⟩:=tst_some hz;split at hz<;>try contradiction
    next as p' h1=>
     rw[zA]at hz;obtain⟨q,hq,hz⟩:=hz;refine(h f _ _ q hq).mono fun m hm => ?_
     unfold callD callK;simp only[hf,callF,fulP,h1,hm,hs,tst,zD];exact hz
 ·next sz hf=>
  split at hz<;>try contradiction
  next d ds=>
   unfold callG fulP at hz;split at hz<;>try contradiction
   ·next ys=>
    split at hz<;>try contradiction
    next as p' h1=>
     rw[zA]at hz;obtain⟨q,hq,hz⟩:=hz;refine(h f _ _ q hq).mono fun m hm => ?_
     unfold callD callK;simp only[hf,callG,fulP,h1,hm,zD];exact hz
   ·next k sz off n c z=>
    obtain⟨hs,hz⟩:=tst_some hz;split at hz<;>try contradiction
    next as p' h1=>
     rw[zA]at hz;obtain⟨q,hq,hz⟩:=hz;refine(h f _ _ q hq).mono fun m hm => ?_
     unfold callD callK;simp only[hf,callG,fulP,h1,hm,hs,tst,zD];exact hz
 ·next e hf=>
  refine .all fun m => ?_
  unfold callD callK;simp only[hf];exact hz
theorem popD_lim(h:Lim pcs pc){p:PSt}{o:O}{z:Option PD×PSt}(hz:popD gl pc p o=some z):Evt fun m=>popD gl (pcs m) p o=some z:=by
 unfold popD at hz ⊢;cases o<;>try exact .all fun m=>hz
 case call f xs=>
  simp only[popK,callK_nat]at hz ⊢;split at hz<;>try contradiction
  next ds hds=>rw[zA]at hz;obtain⟨q,hq,hz⟩:=hz;exact(callD_lim h hq).mono fun m hm=>by rw[hm];exact hz
 case callv g xs=>
  simp only[popK,callN_nat]at hz ⊢;split at hz<;>try contradiction
  ·split at hz<;>try contradiction
   next hlt=>
   split at hz<;>try contradiction
   next ds hds=>rw[zA]at hz;obtain⟨q,hq,hz⟩:=hz;exact(callND_lim h hq).mono fun m hm=>by rw[hm];exact hz
  ·split at hz<;>try contradiction
   next ds hds=>
    rw[zA]at hz;obtain⟨q,hq,hz⟩:=hz;split at hz<;>try contradiction
    next hq2=>
     split at hz<;>try contradiction
     next hlt=>
     rw[zA]at hz;obtain⟨q',hq',hz⟩:=hz;refine(callND_lim h hq').mono fun m hm => ?_
     rw[hq,zD,hq2];simp only[hlt,hm];exact hz
theorem poneD_lim(h:Lim pcs pc){o:OpC}{p z:PSt}(hz:poneD gl pc o p=some z):Evt fun m=>poneD gl (pcs m) o p=some z:=by
 unfold poneD pone at hz ⊢;simp only[popK_nat]at hz ⊢;cases hgd:o.gd with
 | none=>simp only[hgd]at hz ⊢;rw[zA]at hz;obtain⟨q,hq,hz⟩:=hz;exact(popD_lim h hq).mono fun m hm=>by rw[hm];exact hz
 | some tb=>
  obtain⟨t,b⟩:=tb;simp only[hgd]at hz ⊢;split at hz<;>try contradiction
  next c hc=>
   rw[zA]at hz;obtain⟨cb,hcb,hz⟩:=hz;simp only[hcb,zD];split at hz
   ·next hb=>
    rw[zA]at hz;obtain⟨q,hq,hz⟩:=hz;exact(popD_lim h hq).mono fun m hm=>by rw[zb hb,hm];exact hz
   ·next hb=>exact .all fun m=>by rw[za hb];exact hz
theorem prunD_lim(h:Lim pcs pc)(l:PO) : ∀ {p z:PSt},prunD gl pc l p=some z->Evt fun m=>prunD gl (pcs m) l p=some z:=by
 unfold prunD;induction l with
 | nil=>intro p z hz;exact .all fun m=>hz
 | one o s ih=>intro p z hz;simp only[prunK,pone_nat]at hz ⊢;rw[zA]at hz;obtain⟨q,hq,hz⟩:=hz;exact((poneD_lim h hq).and (ih hz)).mono fun m hm=>by rw[hm.1];exact hm.2
 | box n dst x s ih=>
  intro p z hz;simp only[prunK,cellsK1_nat]at hz ⊢;split at hz<;>try contradiction
  next d hd=>
   rw[zA]at hz;obtain⟨c,hc,hz⟩:=hz;split at hz<;>try contradiction
   next p1 hp1=>exact(ih hz).mono fun m hm=>by simp only[hc,zD,hp1];exact hm
 | grp c w ops dst a b s ih1 ih2=>
  intro p z hz;simp only[prunK]at hz ⊢;simp only[prunK_nat gl _ ops]at hz ⊢;split at hz<;>try contradiction
  split at hz<;>try contradiction
  split at hz<;>try contradiction
  split at hz<;>try contradiction
  next cv hc _ bd hb _ bv hbv _ hfr=>
   rw[zA]at hz;obtain⟨cb,hcb,hz⟩:=hz;rw[zA]at hz;obtain⟨x,hx,hz⟩:=hz;split at hz<;>try contradiction
   next p1 hp1=>
    have hx':Evt fun m=>((if cb=w then(prunD gl (pcs m) ops p.sealOf).bind fun p'=>match evH gl p' a with | some d=>d.pureV | none=>none else some bv):Option V)=some x:=by
     split at hx
     ·next hcw=>
      rw[zA]at hx;obtain⟨q,hq,hx⟩:=hx;exact(ih1 hq).mono fun m hm=>by unfold prunD;rw[zb hcw,hm];exact hx
     ·next hcw=>exact .all fun m=>by rw[za hcw];exact hx
    refine(hx'.and (ih2 hz)).mono fun m hm => ?_
    simp only[hcb,zD];rw[zA];exact⟨x,hm.1,by rw[hp1];exact hm.2⟩
theorem prunAD_lim(h:Lim pcs pc)(l:PO) : ∀ {p z:PSt},prunAD gl pc l p=some z->Evt fun m=>prunAD gl (pcs m) l p=some z:=by
 unfold prunAD;induction l with
 | nil=>intro p z hz;exact .all fun m=>hz
 | one o s ih=>
  intro p z hz;simp only[prunA,pone_nat]at hz ⊢;split at hz<;>try contradiction
  split at hz<;>try contradiction
  rw[zA]at hz;obtain⟨q,hq,hz⟩:=hz;exact((poneD_lim h hq).and (ih hz)).mono fun m hm=>by rw[hm.1];exact hm.2
 | box n dst x s ih=>intro p z hz;simp[prunA]at hz
 | grp c w ops dst a b s ih1 ih2=>intro p z hz;simp[prunA]at hz
theorem loopM_lim{α β:Type}{f:α->Option (α ⊕ β)}{fs:Nat->α->Option (α ⊕ β)}(h : ∀ a b,f a=some b->Evt fun m=>fs m a=some b){n:Nat}{a:α}{b:β}(hb:loopM f n a=some b):Evt fun m=>loopM (fs m) n a=some b:=by
 induction n generalizing a with
 | zero=>simp[loopM]at hb
 | succ n ih=>
  simp only[loopM]at hb ⊢;split at hb
  ·next a' he=>exact((h a _ he).and (ih hb)).mono fun m hm=>by rw[hm.1];exact hm.2
  ·next c he=>exact(h a _ he).mono fun m hm=>by rw[hm];exact hb
  ·contradiction
theorem pexecD_lim(h:Lim pcs pc)(c:PC) : ∀ {p:PSt} {z:PEx×PSt},pexecD gl pc c p=some z->Evt fun m=>pexecD gl (pcs m) c p=some z:=by
 unfold pexecD;induction c with
 | skip=>intro p z hz;exact .all fun m=>hz
 | exit id=>intro p z hz;exact .all fun m=>hz
 | ret=>intro p z hz;exact .all fun m=>hz
 | reg ops keep=>intro p z hz;simp only[pexecK,prunK_nat]at hz ⊢;rw[zA]at hz;obtain⟨q,hq,hz⟩:=hz;exact(prunD_lim h _ hq).mono fun m hm=>by rw[hm];exact hz
 | drw a0 a1 b keep=>
  intro p z hz;simp only[pexecK,prunK_nat]at hz ⊢;rw[zA]at hz;obtain⟨q,hq,hz⟩:=hz;split at hz<;>try contradiction
  next hst=>
   rw[zA]at hz;obtain⟨q1,hq1,hz⟩:=hz;rw[zA]at hz;obtain⟨q2,hq2,hz⟩:=hz;refine((prunD_lim h _ hq).and ((prunD_lim h _ hq1).and (prunD_lim h _ hq2))).mono fun m hm => ?_
   rw[hm.1];simp only[zD,hm.2.1,hm.2.2];exact hz
 | drq a0 a1 b keep=>
  intro p z hz;simp only[pexecK,prunK_nat,prunA_nat]at hz ⊢;rw[zA]at hz;obtain⟨q,hq,hz⟩:=hz;rw[zA]at hz;obtain⟨q1,hq1,hz⟩:=hz;rw[zA]at hz;obtain⟨q2,hq2,hz⟩:=hz;refine((prunD_lim h _ hq).and ((prunAD_lim h _ hq1).and (prunD_lim h _ hq2))).mono fun m hm => ?_
  rw[hm.1];simp only[zD,hm.2.1,hm.2.2];exact hz
 | drf a0 t ag sz a k b1 b keep=>
  intro p z hz;simp only[pexecK,prunK_nat,pone_nat]at hz ⊢;rw[zA]at hz;obtain⟨q,hq,hz⟩:=hz;rw[zA]at hz;obtain⟨q1,hq1,hz⟩:=hz;split at hz<;>try contradiction
  next k' off hk=>
   split at hz<;>try contradiction
   next hst=>
    split at hz<;>try contradiction
    next p2 hp2=>
     rw[zA]at hz;obtain⟨q2,hq2,hz⟩:=hz;rw[zA]at hz;obtain⟨q3,hq3,hz⟩:=hz;refine((prunD_lim h _ hq).and ((poneD_lim h hq1).and ((prunD_lim h _ hq2).and (prunD_lim h _ hq3)))).mono fun m hm => ?_
     rw[hm.1];simp only[zD,hm.2.1,hk,hst,hp2,hm.2.2.1,hm.2.2.2];exact hz
 | seq a b iha ihb=>
  intro p z hz;simp only[pexecK]at hz ⊢;simp only[pexecK_nat gl _ a]at hz ⊢;rw[zA]at hz;obtain⟨q,hq,hz⟩:=hz;obtain⟨x,p'⟩:=q;cases x with
  | nrm=>exact((iha hq).and (ihb hz)).mono fun m hm=>by unfold pexecD;rw[hm.1];exact hm.2
  | ext i=>exact(iha hq).mono fun m hm=>by unfold pexecD;rw[hm];exact hz
  | ret=>exact(iha hq).mono fun m hm=>by unfold pexecD;rw[hm];exact hz
 | cond c a b iha ihb=>
  intro p z hz;simp only[pexecK]at hz ⊢;split at hz<;>try contradiction
  next c hc=>
   rw[zA]at hz;obtain⟨cb,hcb,hz⟩:=hz;simp only[hcb,zD];split at hz
   ·next hb=>exact(iha hz).mono fun m hm=>by rw[zb hb];exact hm
   ·next hb=>exact(ihb hz).mono fun m hm=>by rw[za hb];exact hm
 | blk id c ih=>intro p z hz;simp only[pexecK]at hz ⊢;simp only[pexecK_nat gl _ c]at hz ⊢;rw[zA]at hz;obtain⟨q,hq,hz⟩:=hz;exact(ih hq).mono fun m hm=>by unfold pexecD;rw[hm];exact hz
 | cut hd xs c ih=>
  intro p z hz;simp only[pexecK]at hz ⊢;simp only[encK_nat,pexecK_nat gl _ c]at hz ⊢;rw[zA]at hz;obtain⟨v0,hv0,hz⟩:=hz;simp only[hv0,zD];split at hz<;>try contradiction
  next pv hpv=>
   rw[zA]at hz;obtain⟨o,ho,hz⟩:=hz;rw[zA]at ho;obtain⟨q,hq,ho⟩:=ho;refine(ih hq).mono fun m hm => ?_
   unfold pexecD;rw[hm,zD];rw[zA];exact⟨o,ho,hz⟩
 | loop hd xs c ih=>
  intro p z hz;simp only[pexecK]at hz ⊢;simp only[encK_nat,pexecK_nat gl _ c]at hz ⊢;rw[zA]at hz;obtain⟨v0,hv0,hz⟩:=hz;simp only[hv0,zD];rw[zA]at hz;obtain⟨o,ho,hz⟩:=hz;obtain⟨n,hn⟩:=loopL_iff.1 ho;refine(loopM_lim (fs:=fun m v=>match dec true hd p v with
    | some pv=>(pexecD gl (pcs m) c pv).bind fun q=>match q.1 with
     | .nrm=>(encD true hd q.2).bind fun v'=>some (.inl v')
     | .ext i=>match findX xs (.ext i) 0 with | some (j,sh)=>(encD true sh q.2).bind fun v'=>some (.inr (j,v')) | none=>none
     | .ret=>match findX xs .ret 0 with | some (j,sh)=>(encD true sh q.2).bind fun v'=>some (.inr (j,v')) | none=>none
    | none=>none) (fun v b hb => ?_) hn).mono fun m hm => ?_
  ·split at hb<;>try contradiction
   next pv hpv=>
    rw[zA]at hb;obtain⟨q,hq,hb⟩:=hb;refine(ih hq).mono fun m hm => ?_
    simp only[pexecD,hpv,hm,zD];exact hb
  ·rw[zA];exact⟨o,loopL_iff.2 ⟨n,hm⟩,hz⟩
end
end
end Go.Ev
