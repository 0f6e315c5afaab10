/- Naturals: what the program's functions yield. -/
import Derived.Test.YtfodpklkdecpkaaKPv
import Derived.Test.YtfodpklkdecpkaaKSp
set_option linter.all false
open Option renaming map_some->zC
open Bool renaming false_eq_true->zF
open List renaming getElem?_eq_getElem->zL,drop_eq_getElem_cons->zO,drop_zero->zU,take_of_length_le->zV
open Nat renaming le_refl->zR,mul_le_mul_right->zW
open Int renaming natCast_nonneg->zY
namespace Go.Ev
attribute [local irreducible] P0
theorem nnorm_loop(l:List Nat)(n:Nat)(hn:n<=l.length)(hl:l.length<=1000000):loopL (L_nat_Norm_1 (.sl (limbs l))) (vec [.int .i64 (n:Int)])=some (0,vec [.int .i64 (top l n:Nat)]):=by
 induction n with
 | zero=>apply loopL_inr;unfold L_nat_Norm_1;apply yes;simp[top]
 | succ n ih=>
  have hx:l[n]?=some l[n]:=zL (by omega);have h1:((n+1:Nat):Int)-1=n:=by omega
  have h2:(0:Int)<((n+1:Nat):Int):=by omega
  by_cases h0:l[n]=0
  ·rw[loopL_inl (a':=vec [.int .i64 (n:Int)])]
   ·rw[ih (by omega)];simp[top,hx,h0]
   ·unfold L_nat_Norm_1;simp only[vec_0,gtr_i,some_bind,asBool_b,ze,h2,zb,sub_i,h1,w64 (a:=(n:Int)) (by omega),asSl_limbs,limbs_len,idx_nat _ n l.length (by omega),limbs_get,hx,zC,fld_int,eql_i,h0];simp
  ·have ht:top l (n+1)=n+1:=by unfold top;rw[hx];split<;>simp_all
   rw[ht];apply loopL_inr;unfold L_nat_Norm_1;simp only[vec_0,gtr_i,some_bind,asBool_b,ze,h2,zb,sub_i,h1,w64 (a:=(n:Int)) (by omega),asSl_limbs,limbs_len,idx_nat _ n l.length (by omega),limbs_get,hx,zC,fld_int,eql_i];simp[h0]
theorem nnorm_ok(l:List Nat)(hl:l.length<=1000000)(hu:U32 l):P0 f_nat_Norm [.v (.sl (limbs l))] []=some (.sl (limbs (toL (nval l))),[]):=by
 rw[<- norm_toL hu];rw[eq_nat_Norm];unfold F_nat_Norm;have h:=top_le l l.length;by_cases h0:top l l.length=0
 ·have e:norm l=[]:=by rw[norm,h0];rfl
  simp only[lenV_sl,some_bind,limbs_len,nnorm_loop l l.length (zR _) hl,vec_0,h0,eql_i,asBool_b,e];simp[limbs]
 ·have hm:=mks_n 4 (top l l.length) (by omega) (by omega);have e1:Nat.min (limbs l).length (top l l.length)=top l l.length:=by rw[limbs_len];exact Nat.min_eq_right h
  simp only[lenV_sl,some_bind,limbs_len,nnorm_loop l l.length (zR _) hl,vec_0,eql_i,asBool_b];have e2 : ¬ ((top l l.length:Nat):Int)=0:=by omega
  have e3:Nat.min l.length (top l l.length)=top l l.length:=Nat.min_eq_right h;simp only[e2,zf,zF,zd,hm,some_bind,asEl_limbs,limbs_len,e3,limbs_take];rw[setL_full _ _ (by simp[limbs_len];omega)];simp only[zU,limbs_take,List.take_take,Nat.min_self];rfl
theorem nmul_in(a1:List Nat)(x i:Nat)(st:Nat->V)(q:Nat×Nat)(out0:List Nat)(hst:st 0 = .int .i64 (i:Int))(hq:q.1=out0.length)(hx:x<B32)(hb:U32 a1)(hi:i+a1.length<out0.length)(hl:out0.length<=1000000)(k:Nat) :
  ∀ (j v:Nat) (o:List Nat),j+k=a1.length->v<B32->U32 o->o.length=out0.length->(∀ t,i+j<=t->lat o t=lat out0 t) ->
   nval o+B32^(i+j)*v=nval out0+B32^i*(x*nval (a1.take j)) ->
  ∃ (v':Nat) (o':List Nat),loopL (L_nat_Mul_1 a1.length (.sl (limbs a1)) (.int .u32 (x:Int)) st q) (vec [.int .u64 (v:Int),.int .i64 (j:Int),.sl (limbs o)])=some (0,vec [.int .u64 (v':Int),.sl (limbs o')])
   /\ v'<B32/\U32 o'/\o'.length=out0.length/\(∀ t,i+a1.length<=t->lat o' t=lat out0 t)/\nval o'+B32^(i+a1.length)*v'=nval out0+B32^i*(x*nval a1):=by
 induction k with
 | zero=>
  intro j v o hj hv hu ho ht hn;have e:j=a1.length:=by omega
  subst e;refine⟨v,o,?_,hv,hu,ho,ht,by rw[List.take_length]at hn;exact hn⟩;apply loopL_inr;unfold L_nat_Mul_1;apply yes;simp
 | succ k ih=>
  intro j v o hj hv hu ho ht hn;have hB:B32=4294967296:=rfl;have hjl:j<a1.length:=by omega
  have hy:lat a1 j<B32:=lat_lt hb j;have ey:a1[j]?=some (lat a1 j):=by unfold lat;rw[zL hjl];rfl
  have hz:lat o (i+j)<B32:=lat_lt hu _;have hij:i+j<o.length:=by omega
  have ez:o[i+j]?=some (lat o (i+j)):=by unfold lat;rw[zL hij];rfl
  have hp:=prod_lt hx hy;have hBB:B32*B32=18446744073709551616:=by decide
  generalize hyy:lat a1 j=y at *;generalize hzz:lat o (i+j)=z at *;have hm:(v+x*y+z)%B32<B32:=Nat.mod_lt _ (by decide);have hd:(v+x*y+z)/B32<B32:=by rw[Nat.div_lt_iff_lt_mul (by decide)];omega
  obtain⟨v',o',h1,h2⟩:=ih (j+1) ((v+x*y+z)/B32) (o.set (i+j) ((v+x*y+z)%B32)) (by omega) hd (u32_set hu hm _) (by simp[ho])
   (fun t htt=>by rw[lat_set_ne _ _ _ _ (by omega)];exact ht t (by omega))
   (by have hs:=nval_set o (i+j) ((v+x*y+z)%B32) hij;rw[hzz]at hs;have:=mul_step hn hs;rw[show i+(j+1)=i+j+1 by omega,Nat.pow_succ,this,nval_take_succ,hyy,Nat.mul_add x,Nat.mul_add (B32^i),Nat.pow_add];rw[show x*(B32^j*y)=B32^j*(x*y) by ac_rfl,Nat.mul_assoc,<- Nat.add_assoc])
  refine⟨v',o',?_,h2⟩;rw[<- h1];apply loopL_inl;unfold L_nat_Mul_1;have c1:(j:Int)<(a1.length:Int):=by omega
  have c2:((i:Int)+(j:Int))=((i+j:Nat):Int):=by omega
  have w1:=wu64 (a:=(x:Int)) (by omega);have w2:=wu64 (a:=(y:Int)) (by omega);have w3:=wu64 (a:=(z:Int)) (by omega);have e3:(x:Int)*(y:Int)=((x*y:Nat):Int):=by simp
  have w4:=wu64 (a:=((x*y:Nat):Int)) (by omega);have e4:((x*y:Nat):Int)+(z:Int)=((x*y+z:Nat):Int):=by simp
  have w5:=wu64 (a:=((x*y+z:Nat):Int)) (by omega);have e5:(v:Int)+((x*y+z:Nat):Int)=((v+x*y+z:Nat):Int):=by omega
  have w6:=wu64 (a:=((v+x*y+z:Nat):Int)) (by omega);have w7:=w64 (a:=((i+j:Nat):Int)) (by omega);have w8:IntKind.u32.wrap ((v+x*y+z:Nat):Int)=(((v+x*y+z)%B32:Nat):Int):=by rw[IntKind.wrap_u32,hB];omega
  have w9:=w64 (a:=(j:Int)+1) (by omega);have hp2:(2:Int)^Nat.min (32:Int).toNat (IntKind.bits .u64)=4294967296:=by decide
  have e9:((v+x*y+z:Nat):Int).fdiv 4294967296=(((v+x*y+z)/B32:Nat):Int):=by rw[Int.fdiv_eq_ediv_of_nonneg _ (by decide),hB];omega
  simp only[vec_0,vec_s,lss_i,some_bind,c1,ze,asBool_b,zb,asSl_limbs,limbs_len,idx_nat _ j a1.length hjl,limbs_get,ey,zC,fld_int,cvi_i,w1,w2,mul_i,e3,w4,hst,add_i,c2,w7,hq,idx_nat _ (i+j) out0.length (by omega),
   elems_sl,zk,ez,w3,e4,w5,e5,w6,w8,okN_int,tst_t,shr_i _ _ _ _ (show(0:Int)<=32 by decide),hp2,e9,w9,limbs_set]
  rfl
theorem nmul_out(a b:List Nat)(q:Nat×Nat)(hq:q.1=a.length+b.length)(ha:U32 a)(hb:U32 b)(hl:a.length+b.length<=1000000)(k:Nat) :
  ∀ (i:Nat) (o:List Nat),i+k=a.length->U32 o->o.length=a.length+b.length->(∀ t,i+b.length<=t->lat o t=0)->nval o=nval (a.take i)*nval b ->
  ∃ o':List Nat,loopL (L_nat_Mul_2 a.length (.sl (limbs a)) (.sl (limbs b)) q) (vec [.int .i64 (i:Int),.sl (limbs o)])=some (0,vec [.sl (limbs o')])/\U32 o'/\o'.length=a.length+b.length/\nval o'=nval a*nval b:=by
 induction k with
 | zero=>
  intro i o hi hu ho hz hn;have e:i=a.length:=by omega
  subst e;refine⟨o,?_,hu,ho,by rw[List.take_length]at hn;exact hn⟩;apply loopL_inr;unfold L_nat_Mul_2;apply yes;simp
 | succ k ih=>
  intro i o hi hu ho hz hn;have hil:i<a.length:=by omega
  have hx:lat a i<B32:=lat_lt ha i;have ex:a[i]?=some (lat a i):=by unfold lat;rw[zL hil];rfl
  have c1:(i:Int)<(a.length:Int):=by omega
  have w1:=w64 (a:=(i:Int)+1) (by omega);have e1:((i+1:Nat):Int)=(i:Int)+1:=by omega
  by_cases h0:lat a i=0
  ·obtain⟨o',h1,h2⟩:=ih (i+1) o (by omega) hu ho (fun t ht=>hz t (by omega)) (by rw[nval_take_succ,h0,Nat.mul_zero,zl];exact hn);refine⟨o',?_,h2⟩;rw[<- h1];apply loopL_inl;unfold L_nat_Mul_2;have h0':((lat a i:Nat):Int)=0:=by omega
   simp only[vec_0,vec_s,lss_i,some_bind,c1,ze,asBool_b,zb,asSl_limbs,limbs_len,idx_nat _ i a.length hil,limbs_get,ex,zC,fld_int,eql_i,h0',add_i,w1,elems_sl,e1]
  ·obtain⟨v,o1,h1,h2,h3,h4,h5,h6⟩:=nmul_in b (lat a i) i (vec [.int .i64 (i:Int),.sl (limbs o)]) q o rfl (by omega) hx hb (by omega) (by omega) b.length 0 0 o (by omega) (by decide) hu rfl (fun t _=>rfl)
    (by simp[nval])
   have hib:i+b.length<o1.length:=by omega
   have hz0:lat o1 (i+b.length)=0:=by rw[h5 _ (zR _)];exact hz _ (zR _)
   obtain⟨o',g1,g2⟩:=ih (i+1) (o1.set (i+b.length) v) (by omega) (u32_set h3 h2 _) (by simp[h4,ho])
    (fun t ht=>by rw[lat_set_ne _ _ _ _ (by omega),h5 t (by omega)];exact hz t (by omega))
    (by have:=nval_set o1 (i+b.length) v hib;rw[hz0,Nat.mul_zero,zl,h6,hn]at this;rw[this,nval_take_succ,zy,Nat.mul_assoc])
   refine⟨o',?_,g2⟩;rw[<- g1];apply loopL_inl;unfold L_nat_Mul_2;have h0' : ¬ ((lat a i:Nat):Int)=0:=by omega
   have hB:B32=4294967296:=rfl;have w2:=w64 (a:=((i+b.length:Nat):Int)) (by omega);have e2:(i:Int)+(b.length:Int)=((i+b.length:Nat):Int):=by omega
   have w3:=wu32 (a:=(v:Int)) (by omega);rw[show((0:Nat):Int)=0 from rfl]at h1;simp only[vec_0,vec_s,lss_i,some_bind,c1,ze,asBool_b,zb,asSl_limbs,limbs_len,idx_nat _ i a.length hil,limbs_get,ex,zC,fld_int,eql_i,h0',zf,zF,zd,add_i,w1,elems_sl,e1,
    lenV_sl,h1,e2,w2,cvi_i,w3,hq,idx_nat _ (i+b.length) (a.length+b.length) (by omega),okN_int,tst_t,zk,limbs_set]
theorem limbs_rep(n:Nat):List.replicate n (V.int .u32 0)=limbs (List.replicate n 0):=by simp[limbs]
theorem nmul_ok(a b:List Nat)(ha:U32 a)(hb:U32 b)(hl:a.length+b.length<=1000000):P0 f_nat_Mul [.v (.sl (limbs a)),.v (.sl (limbs b))] []=some (.sl (limbs (toL (nval a*nval b))),[]):=by
 rw[eq_nat_Mul];unfold F_nat_Mul;obtain⟨o,h1,h2,h3,h4⟩:=nmul_out a b (a.length+b.length,a.length+b.length) rfl ha hb hl a.length 0 (List.replicate (a.length+b.length) 0) (by omega) (u32_rep _) (by simp) (fun t _=>lat_rep _ _) (by rw[nval_rep];simp[nval]);have e1:(a.length:Int)+(b.length:Int)=((a.length+b.length:Nat):Int):=by omega
 have w1:=w64 (a:=((a.length+b.length:Nat):Int)) (by omega);rw[show((0:Nat):Int)=0 from rfl]at h1;simp only[lenV_sl,some_bind,limbs_len,e1,w1,mks_n 4 (a.length+b.length) (by omega) (by omega),limbs_rep,h1,vec_0,elems_sl,zU,limbs_take];rw[zV (by omega),nnorm_ok o (by omega) h2,h4];rfl
theorem or_add(c x:Nat)(hx:x<B32):c*B32 ||| x=c*B32+x:=by
 have h:=Nat.two_pow_add_eq_or_of_lt (i:=32) (b:=x) (by simpa[B32]using hx) c;have e:(2:Nat)^32=B32:=by decide
 rw[e,Nat.mul_comm]at h;exact h.symm
theorem nsmall_loop(l:List Nat)(d:Nat)(q2:Nat×Nat)(hq:q2.1=l.length)(hd:0<d)(hd2:d<B32)(hl:l.length<=1000000)(hu:U32 l)(n:Nat)(hn:n<=l.length) :
  loopL (L_nat_small_1 (.sl (limbs l)) (.int .u32 (d:Int)) q2) (vec [.int .u64 ((small d (l.drop n)).2:Int),.int .i64 ((n:Int)-1),.sl (List.replicate n (.int .u32 0)++limbs (small d (l.drop n)).1)])
   = some (0,vec [.int .u64 ((small d l).2:Int),.sl (limbs (small d l).1)]):=by
 induction n with
 | zero=>apply loopL_inr;unfold L_nat_small_1;apply yes;simp
 | succ n ih=>
  have hx:l[n]?=some l[n]:=zL (by omega);have hdr:l.drop n=l[n]::l.drop (n+1):=zO (by omega);have hb:l[n]<B32:=hu _ (List.getElem_mem _);have hc:(small d (l.drop (n+1))).2<d:=small_lt d hd _;rw[<- ih (by omega)];apply loopL_inl;generalize hs:small d (l.drop (n+1))=sm at *;have hsm:small d (l.drop n)=((sm.2*B32+l[n])/d::sm.1,(sm.2*B32+l[n])%d):=by rw[hdr];simp only[small,hs]
  rw[hsm];have hlt:(sm.2*B32+l[n])/d<B32:=by
   rw[Nat.div_lt_iff_lt_mul hd];have:sm.2*B32+B32<=d*B32:=by rw[<- Nat.succ_mul];exact zW _ hc
   rw[Nat.mul_comm B32 d];omega
  have hlt2:sm.2*B32+l[n]<B32*B32:=by
   have:sm.2*B32+B32<=B32*B32:=by rw[<- Nat.succ_mul];exact zW _ (by omega)
   omega
  have h1:((n+1:Nat):Int)-1=n:=by omega
  have hp:(2:Int)^Nat.min (32:Int).toNat (IntKind.bits .u64)=(B32:Int):=by decide
  have hB:B32*B32=18446744073709551616:=by decide
  have hB2:B32=4294967296:=rfl;unfold L_nat_small_1;have ha:(sm.2:Int)*(B32:Int)=((sm.2*B32:Nat):Int):=by simp
  have hdd:((sm.2*B32+l[n]:Nat):Int).tdiv (d:Int)=(((sm.2*B32+l[n])/d:Nat):Int):=by rw[Int.tdiv_eq_ediv_of_nonneg (zY _)];simp
  have hmm:((sm.2*B32+l[n]:Nat):Int).tmod (d:Int)=(((sm.2*B32+l[n])%d:Nat):Int):=by rw[Int.tmod_eq_emod_of_nonneg (zY _)];simp
  have hd0:(d:Int)≠0:=by omega
  have hpos:(0:Int)<=n:=zY n;have hor:binV .or (.int .u64 ((sm.2*B32:Nat):Int)) (.int .u64 (l[n]:Int))=some (.int .u64 ((sm.2*B32+l[n]:Nat):Int)):=by have:=u64_or_nat (sm.2*B32) l[n] (by omega) (by omega);rw[or_add _ _ hb]at this;simp only[binV,intV,isShift,ze,Bool.or_true,zb,this]
  simp only[vec_0,vec_s,geq_i,h1,hpos,ze,some_bind,asBool_b,zb,shl_i _ _ _ _ (show(0:Int)<=32 by decide),hp,ha];rw[wu64 (a:=((sm.2*B32:Nat):Int)) (by omega)];simp only[asSl_limbs,some_bind,limbs_len,idx_nat _ n l.length (by omega),limbs_get,hx,zC,fld_int,cvi_i];rw[wu64 (a:=(l[n]:Int)) (by omega),wu64 (a:=(d:Int)) (by omega)];have hq0:(0:Int)<=(((sm.2*B32+l[n])/d:Nat):Int):=zY _;have hq1:(((sm.2*B32+l[n])/d:Nat):Int)<=4294967295:=Int.ofNat_le.2 (show _<=4294967295 from Nat.le_of_lt_succ hlt);simp only[hor,some_bind,quo_i _ _ _ hd0,rem_i _ _ _ hd0,hdd,hmm,cvi_i];rw[wu64 (a:=(((sm.2*B32+l[n])/d:Nat):Int)) ⟨hq0,Int.le_trans hq1 (by decide)⟩,wu32 (a:=(((sm.2*B32+l[n])/d:Nat):Int)) ⟨hq0,hq1⟩];simp only[hq,idx_nat _ n l.length (by omega),some_bind,okN_int,tst_t,fld_int,sub_i,elems_sl,zk,set_rep];rw[w64 (a:=(n:Int)-1) (by omega)];rfl
theorem nsmall_ok(l:List Nat)(d:Nat)(hd:0<d)(hd2:d<B32)(hl:l.length<=1000000)(hu:U32 l) :
  P0 f_nat_small [.v (.sl (limbs l)),.v (.int .u32 (d:Int))] []=some (.tup [.sl (limbs (toL (nval l/d))),.int .u32 ((nval l%d:Nat):Int)],[]):=by
 rw[eq_nat_small];unfold F_nat_small;have hlt:=small_lt d hd l;have hB2:B32=4294967296:=rfl;obtain⟨hv1,hv2⟩:=small_val d hd l;have h:=nsmall_loop l d (l.length,l.length) rfl hd hd2 hl hu l.length (zR _);simp only[List.drop_length,small,limbs,List.map_nil,List.append_nil]at h;simp only[lenV_sl,some_bind,limbs_len,mks_n 4 l.length (by omega) (by omega)];rw[w64 (a:=(l.length:Int)-1) (by omega)];simp only[limbs]at h ⊢;rw[show((0:Nat):Int)=0 from rfl]at h;rw[h];have e:List.map (fun(x:Nat)=>V.int .u32 (x:Int)) (small d l).1=limbs (small d l).1:=rfl;simp only[some_bind,vec_0,vec_s,e,elems_sl,zU,limbs_take];rw[zV (by rw[small_len];omega),nnorm_ok _ (by rw[small_len];omega) (small_u32 d hd l hu),hv1];simp only[some_bind,cvi_i];rw[wu32 (a:=((small d l).2:Int)) (by omega),hv2];rfl
end Go.Ev
