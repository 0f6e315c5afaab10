/- Numbers: what the reference's functions yield. -/
import Derived.Test.YtfodpklkdecpkaaKPv
import Derived.Test.YtfodpklkdecpkaaKSp
set_option linter.all false
open Option renaming map_some->zC
open List renaming getElem?_eq_getElem->zL,drop_eq_getElem_cons->zO,drop_zero->zU,take_of_length_le->zV
open Nat renaming le_refl->zR,mul_le_mul_right->zW
open Int renaming natCast_nonneg->zY
namespace Go.Ev
attribute [local irreducible] P0
theorem norm_loop(l:List Nat)(n:Nat)(hn:n<=l.length)(hl:l.length<=1000000):loopL (L_ref01_Norm_1 (.sl (limbs l))) (vec [.int .i64 (n:Int)])=some (0,vec [.int .i64 (top l n:Nat)]):=by
 induction n with
 | zero=>apply loopL_inr;unfold L_ref01_Norm_1;simp[top]
 | succ n ih=>
  have hx:l[n]?=some l[n]:=zL (by omega);have h1:((n+1:Nat):Int)-1=n:=by omega
  by_cases h0:l[n]=0
  ·rw[loopL_inl (a':=vec [.int .i64 (n:Int)])]
   ·rw[ih (by omega)];simp[top,hx,h0]
   ·unfold L_ref01_Norm_1;have h2:(0:Int)<((n+1:Nat):Int):=by omega
    simp only[vec_0,gtr_i,some_bind,asBool_b,ze,h2,zb,sub_i,h1,w64 (a:=(n:Int)) (by omega),asSl_limbs,limbs_len,idx_nat _ n l.length (by omega),limbs_get,hx,zC,fld_int,eql_i,h0];simp
  ·have ht:top l (n+1)=n+1:=by unfold top;rw[hx];split<;>simp_all
   rw[ht];apply loopL_inr;unfold L_ref01_Norm_1;have h2:(0:Int)<((n+1:Nat):Int):=by omega
   simp only[vec_0,gtr_i,some_bind,asBool_b,ze,h2,zb,sub_i,h1,w64 (a:=(n:Int)) (by omega),asSl_limbs,limbs_len,idx_nat _ n l.length (by omega),limbs_get,hx,zC,fld_int,eql_i];simp[h0]
theorem norm_ok(l:List Nat)(hl:l.length<=1000000):P0 f_ref01_Norm [.v (.sl (limbs l))] []=some (.sl (limbs (norm l)),[]):=by rw[eq_ref01_Norm];unfold F_ref01_Norm;have h:=top_le l l.length;simp only[lenV_sl,some_bind,limbs_len,norm_loop l l.length (zR _) hl,vec_0,asSl_limbs,bnd_to _ _ _ ⟨zY _,Int.ofNat_le.2 h⟩,Int.toNat_natCast,limbs_drop,limbs_take,zU,Nat.sub_zero,asEl_limbs,List.nil_append,List.length_nil];rw[app_ok _ _ _ (by simp;omega) (by simp;omega)];rfl
theorem small_loop(l:List Nat)(d:Nat)(q2:Nat×Nat)(hq:q2.1=l.length)(hd:0<d)(hd2:d<B32)(hl:l.length<=1000000)(hu:U32 l)(n:Nat)(hn:n<=l.length) :
  loopL (L_ref01_Small_1 (.sl (limbs l)) (.int .u32 (d:Int)) q2) (vec [.int .u64 ((small d (l.drop n)).2:Int),.int .i64 ((n:Int)-1),.sl (List.replicate n (.int .u32 0)++limbs (small d (l.drop n)).1)])
   = some (0,vec [.int .u64 ((small d l).2:Int),.sl (limbs (small d l).1)]):=by
 induction n with
 | zero=>apply loopL_inr;unfold L_ref01_Small_1;simp
 | succ n ih=>
  have hx:l[n]?=some l[n]:=zL (by omega);have hdr:l.drop n=l[n]::l.drop (n+1):=zO (by omega);have hb:l[n]<B32:=hu _ (List.getElem_mem _);have hc:(small d (l.drop (n+1))).2<d:=small_lt d hd _;rw[<- ih (by omega)];apply loopL_inl;generalize hs:small d (l.drop (n+1))=sm at *;have hsm:small d (l.drop n)=((sm.2*B32+l[n])/d::sm.1,(sm.2*B32+l[n])%d):=by rw[hdr];simp only[small,hs]
  rw[hsm];have hlt:(sm.2*B32+l[n])/d<B32:=by
   rw[Nat.div_lt_iff_lt_mul hd];have:sm.2*B32+B32<=d*B32:=by rw[<- Nat.succ_mul];exact zW _ hc
   rw[Nat.mul_comm B32 d];omega
  have hlt2:sm.2*B32+l[n]<B32*B32:=by
   have:sm.2*B32+B32<=B32*B32:=by rw[<- Nat.succ_mul];exact zW _ (by omega)
   omega
  have h1:((n+1:Nat):Int)-1=n:=by omega
  have hp:(2:Int)^Nat.min (32:Int).toNat (IntKind.bits .u64)=(B32:Int):=by decide
  have hB:B32*B32=18446744073709551616:=by decide
  have hB2:B32=4294967296:=rfl;have hBi:(B32:Int)=4294967296:=rfl;unfold L_ref01_Small_1;have ha:(sm.2:Int)*(B32:Int)=((sm.2*B32:Nat):Int):=by simp
  have hdd:((sm.2*B32+l[n]:Nat):Int).tdiv (d:Int)=(((sm.2*B32+l[n])/d:Nat):Int):=by rw[Int.tdiv_eq_ediv_of_nonneg (zY _)];simp
  have hmm:((sm.2*B32+l[n]:Nat):Int).tmod (d:Int)=(((sm.2*B32+l[n])%d:Nat):Int):=by rw[Int.tmod_eq_emod_of_nonneg (zY _)];simp
  have hd0:(d:Int)≠0:=by omega
  have hpos:(0:Int)<=n:=zY n;simp only[vec_0,vec_s,geq_i,h1,hpos,ze,some_bind,asBool_b,zb,shl_i _ _ _ _ (show(0:Int)<=32 by decide),hp,ha];rw[wu64 (a:=((sm.2*B32:Nat):Int)) (by omega)];simp only[asSl_limbs,some_bind,limbs_len,idx_nat _ n l.length (by omega),limbs_get,hx,zC,fld_int,cvi_i];rw[wu64 (a:=(l[n]:Int)) (by omega),wu64 (a:=(d:Int)) (by omega)];simp only[add_i,some_bind,<- Int.natCast_add];rw[wu64 (a:=((sm.2*B32+l[n]:Nat):Int)) (by omega)];simp only[quo_i _ _ _ hd0,rem_i _ _ _ hd0,some_bind,hdd,hmm,cvi_i];have hq0:(0:Int)<=(((sm.2*B32+l[n])/d:Nat):Int):=zY _;have hq1:(((sm.2*B32+l[n])/d:Nat):Int)<=4294967295:=Int.ofNat_le.2 (show _<=4294967295 from Nat.le_of_lt_succ hlt);rw[wu64 (a:=(((sm.2*B32+l[n])/d:Nat):Int)) ⟨hq0,Int.le_trans hq1 (by decide)⟩,wu32 (a:=(((sm.2*B32+l[n])/d:Nat):Int)) ⟨hq0,hq1⟩];simp only[hq,idx_nat _ n l.length (by omega),some_bind,okN_int,tst_t,fld_int,sub_i,elems_sl,zk,set_rep];rw[w64 (a:=(n:Int)-1) (by omega)];rfl
theorem small_ok(l:List Nat)(d:Nat)(hd:0<d)(hd2:d<B32)(hl:l.length<=1000000)(hu:U32 l) :
  P0 f_ref01_Small [.v (.sl (limbs l)),.v (.int .u32 (d:Int))] []=some (.tup [.sl (limbs (norm (small d l).1)),.int .u32 ((small d l).2:Int)],[]):=by
 rw[eq_ref01_Small];unfold F_ref01_Small;have hlt:=small_lt d hd l;have hB2:B32=4294967296:=rfl;have h:=small_loop l d (l.length,l.length) rfl hd hd2 hl hu l.length (zR _);simp only[List.drop_length,small,limbs,List.map_nil,List.append_nil]at h;simp only[lenV_sl,some_bind,limbs_len,mks_n 4 l.length (by omega) (by omega)];rw[w64 (a:=(l.length:Int)-1) (by omega)];simp only[limbs]at h ⊢;rw[show((0:Nat):Int)=0 from rfl]at h;rw[h];have e:List.map (fun(x:Nat)=>V.int .u32 (x:Int)) (small d l).1=limbs (small d l).1:=rfl;simp only[some_bind,vec_0,vec_s,e,elems_sl,zU,limbs_take];rw[zV (by rw[small_len];omega),norm_ok _ (by rw[small_len];omega)];simp only[some_bind,cvi_i];rw[wu32 (a:=((small d l).2:Int)) (by omega)];rfl
end Go.Ev
