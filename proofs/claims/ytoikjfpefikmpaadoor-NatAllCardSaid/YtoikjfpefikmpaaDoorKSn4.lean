/- Naturals: texts that are parsed. -/
import Derived.Test.YtoikjfpefikmpaaDoorKSn3
set_option linter.all false
open Option renaming bind_some→zD
open Bool renaming false_eq_true→zF,and_eq_true→zG,true_eq_false→zX
open List renaming getElem?_eq_getElem→zL,drop_eq_getElem_cons→zO,drop_eq_nil_of_le→zQ,drop_zero→zU
namespace Go.Ev
attribute [local irreducible] P0
def isDig(b:UInt8):Bool:=decide (48≤b.toNat) && decide (b.toNat≤57)
def stepD(v:Nat)(b:UInt8):Nat:=v * 10+(b.toNat - 48)
def pval(s:Str):Nat:=s.foldl stepD 0
theorem pv_app(s:Str) : ∀ v,s.foldl stepD v=v * 10 ^ s.length+pval s:=by
 induction s with
 | nil=>intro v;simp[pval]
 | cons b r ih=>
  intro v
  unfold pval
  rw[List.foldl_cons,List.foldl_cons,ih,ih (stepD 0 b),List.length_cons]
  unfold stepD
  rw[Nat.pow_succ,Nat.add_mul,Nat.add_mul,Nat.zero_mul,Nat.mul_assoc,Nat.mul_comm 10]
  omega
theorem pval_app(a b:Str):pval (a++b)=pval a * 10 ^ b.length+pval b:=by
 unfold pval
 rw[List.foldl_append,pv_app];rfl
theorem ixs_at(s:Str)(i:Nat)(h:i<s.length):ixsV (.str s) (.int .i64 (i:Int))=some (.int .u8 ((s[i].toNat:Nat):Int)):=by
 simp only[ixsV,idx_nat _ i _ h,zD,zL h]
theorem ten_lt(i:Nat):10 ^ i<B32 ^ (i+1):=by
 have h2:10<B32:=by unfold B32;omega
 refine Nat.lt_of_le_of_lt (Nat.pow_le_pow_left (Nat.le_of_lt h2) i) ?_
 exact Nat.pow_lt_pow_right (by omega) (by omega)
theorem u32_ten:U32 [10]:=u32_one (by unfold B32;omega)
theorem parse_loop(s:Str)(hl:s.length≤2000)(k:Nat) : ∀ i v,i+k=s.length→v<10 ^ i →
  loopL (L_nat_Parse_1 s.length (.str s)) (vec [.sl (limbs (toL v)),.int .i64 (i:Int)])=if(s.drop i).all isDig=true then some (0,vec [.sl (limbs (toL ((s.drop i).foldl stepD v)))])else some (1,vec [.sl [],.bool false]):=by
 induction k with
 | zero=>
  intro i v hi hv
  rw[zQ (by omega)]
  rw[if_pos (by rfl)]
  apply loopL_inr
  unfold L_nat_Parse_1
  have c1 : ¬ (i:Int)<(s.length:Int):=by omega
  simp only[tick_eq,vec_0,vec_s,lss_i,c1,decide_false,some_bind,asBool_b,zF,if_false,List.foldl_nil]
 | succ k ih=>
  intro i v hi hv
  have h1:i<s.length:=by omega
  have c1:(i:Int)<(s.length:Int):=by omega
  have hx:=ixs_at s i h1
  rw[zO h1,List.all_cons,List.foldl_cons]
  generalize s[i]=b at *
  by_cases hd:isDig b=true
  ·rw[hd,Bool.true_and]
   unfold isDig at hd
   simp only[zG,decide_eq_true_eq]at hd
   have c2 : ¬ ((b.toNat:Nat):Int)<48:=by omega
   have c3 : ¬ ((b.toNat:Nat):Int) > 57:=by omega
   have lv:(toL v).length≤3000:=len_of' (Nat.lt_trans hv (ten_lt i)) (by omega)
   have hm:=nmul_ok (toL v) [10] (u32_of _) u32_ten (by simp;omega)
   rw[nval_toL,nval_one]at hm
   have hm:P0 f_nat_Mul [.v (.sl (limbs (toL v))),.v (.sl [.int .u32 10])] []=some (.sl (limbs (toL (v * 10))),[]):=hm
   have hs:IntKind.u8.wrap (((b.toNat:Nat):Int) - 48)=((b.toNat - 48:Nat):Int):=by rw[IntKind.wrap_u8];omega
   have hw:IntKind.u32.wrap ((b.toNat - 48:Nat):Int)=((b.toNat - 48:Nat):Int):=wu32 (by omega)
   have hv1:stepD v b<10 ^ (i+1):=by unfold stepD;rw[Nat.pow_succ];omega
   have hv10:v * 10<10 ^ (i+1):=by rw[Nat.pow_succ];omega
   have lv2:(toL (v * 10)).length≤3000:=len_of' (Nat.lt_trans hv10 (ten_lt (i+1))) (by omega)
   have ha:=nadd_ok (toL (v * 10)) [b.toNat - 48] (by omega) (by simp) (u32_of _) (u32_one (by unfold B32;omega))
   rw[nval_toL,nval_one]at ha
   have ha:P0 f_nat_Add [.v (.sl (limbs (toL (v * 10)))),.v (.sl [.int .u32 ((b.toNat - 48:Nat):Int)])] []=some (.sl (limbs (toL (stepD v b))),[]):=ha
   have w:=w64 (a:=(i:Int)+1) (by omega)
   have e1:((i+1:Nat):Int)=(i:Int)+1:=by omega
   rw[← ih (i+1) (stepD v b) (by omega) hv1,e1]
   apply loopL_inl
   unfold L_nat_Parse_1
   simp only[tick_eq,vec_0,vec_s,lss_i,c1,decide_true,some_bind,asBool_b,if_true,hx,c2,decide_false,gtr_i,c3,zF,if_false,hm,sub_i,hs,cvi_i,hw,okN_int,tst_t,fld_int,ha,add_i,w]
  ·have hd':isDig b=false:=by simpa using hd
   rw[hd',Bool.false_and,if_neg (by simp)]
   unfold isDig at hd
   simp only[zG,decide_eq_true_eq]at hd
   apply loopL_inr
   unfold L_nat_Parse_1
   by_cases c2:((b.toNat:Nat):Int)<48
   ·simp only[tick_eq,vec_0,vec_s,lss_i,c1,decide_true,some_bind,asBool_b,if_true,hx,c2,zX,if_false]
   ·have c3:((b.toNat:Nat):Int) > 57:=by omega
    simp only[tick_eq,vec_0,vec_s,lss_i,c1,decide_true,some_bind,asBool_b,if_true,hx,c2,decide_false,gtr_i,c3]
def parseV(s:Str):V:=if s≠[]∧s.length≤2000∧s.all isDig=true then .tup [.sl (limbs (toL (pval s))),.bool true]else .tup [.sl [],.bool false]
theorem nparse_ok(s:Str):P0 f_nat_Parse [.v (.str s)] []=some (parseV s,[]):=by
 rw[eq_nat_Parse];unfold F_nat_Parse parseV
 by_cases h0:s=[]
 ·rw[if_neg (fun h=>h.1 h0)]
  subst h0
  simp only[tick_eq,eql_s,beq_self_eq_true,some_bind,asBool_b,zX,if_false,if_true]
 ·have hb:(s == ([]:Str))=false:=by simpa using h0
  by_cases hl:s.length≤2000
  ·have c1 : ¬ ((s.length:Nat):Int) > 2000:=by omega
   have h:=parse_loop s hl s.length 0 0 (by omega) (by decide)
   rw[zU,toL_zero,show limbs []=[]from rfl,show((0:Nat):Int)=0 from rfl]at h
   by_cases ha:s.all isDig=true
   ·rw[if_pos ⟨h0,hl,ha⟩]
    rw[if_pos ha]at h
    simp only[tick_eq,eql_s,hb,some_bind,asBool_b,zF,if_false,if_true,lns_s,c1,decide_false,h,vec_0]
    rfl
   ·rw[if_neg (fun h=>ha h.2.2)]
    rw[if_neg ha]at h
    simp only[tick_eq,eql_s,hb,some_bind,asBool_b,zF,if_false,if_true,lns_s,c1,decide_false,h,vec_0,vec_s,Nat.one_ne_zero]
  ·have c1:((s.length:Nat):Int) > 2000:=by omega
   rw[if_neg (fun h=>hl h.2.1)]
   simp only[tick_eq,eql_s,hb,some_bind,asBool_b,if_true,lns_s,c1,decide_true]
/-- digits and what they stand for -/
theorem dig_is(n:Nat):isDig (dig n)=true:=by
 unfold isDig
 rw[dig_nat]
 simp only[zG,decide_eq_true_eq]
 omega
theorem pad_is(k v:Nat):(pad k v).all isDig=true:=by
 induction k with
 | zero=>rfl
 | succ k ih=>rw[pad,List.all_cons,dig_is,ih];rfl
theorem pval_pad(k v:Nat):pval (pad k v)=v % 10 ^ k:=by
 induction k with
 | zero=>simp[pad,pval,Nat.mod_one]
 | succ k ih=>
  have h1:pad (k+1) v=[dig (v / 10 ^ k)]++pad k v:=rfl
  rw[h1,pval_app,pad_len,ih]
  have h2:pval [dig (v / 10 ^ k)]=v / 10 ^ k % 10:=by
   show stepD 0 (dig (v / 10 ^ k))=_
   unfold stepD;rw[dig_nat];omega
  rw[h2,Nat.mod_pow_succ,Nat.mul_comm];omega
def joinR(ps:List Str):Str:=ps.reverse.flatten
theorem joinR_cons(p:Str)(ps:List Str):joinR (p::ps)=joinR ps++p:=by simp[joinR]
theorem pcs_is(f n:Nat):(joinR (pcs f n)).all isDig=true:=by
 induction f generalizing n with
 | zero=>rfl
 | succ f ih=>
  unfold pcs
  split
  ·rfl
  ·rw[joinR_cons,List.all_append,ih,pad_is];rfl
theorem pval_pcs(f:Nat) : ∀ n,n<1000000000 ^ f→pval (joinR (pcs f n))=n:=by
 induction f with
 | zero=>
   intro n h;have:n=0:=by simpa using h
   subst this;rfl
 | succ f ih=>
  intro n h
  unfold pcs
  split
  ·next h0=>subst h0;rfl
  ·rw[joinR_cons,pval_app,pad_len,pval_pad]
   rw[Nat.pow_succ,Nat.mul_comm]at h
   rw[ih _ (Nat.div_lt_of_lt_mul h)]
   rw[show(10:Nat) ^ 9=1000000000 from by decide,Nat.mod_mod]
   rw[Nat.mul_comm];exact Nat.div_add_mod _ _
theorem drop0_val(s:Str):pval (s.dropWhile (· == 48))=pval s:=by
 induction s with
 | nil=>rfl
 | cons b r ih=>
  rw[List.dropWhile_cons]
  split
  ·next h=>
   have hb:b=48:=by simpa using h
   subst hb
   rw[ih]
   show pval r=([48]++r).foldl stepD 0
   rw[List.foldl_append]
   show pval r=r.foldl stepD (stepD 0 48)
   rw[pv_app]
   simp[stepD]
  ·rfl
end Go.Ev
