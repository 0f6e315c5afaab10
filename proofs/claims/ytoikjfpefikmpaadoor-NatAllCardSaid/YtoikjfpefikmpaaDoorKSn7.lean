/- Naturals: the reference's digits and texts. -/
import Derived.Test.YtoikjfpefikmpaaDoorKSn6
set_option linter.all false
open Bool renaming false_eq_true→zF,and_eq_true→zG,true_eq_false→zX
open Nat renaming lt_of_lt_of_le→zK
open List renaming getElem?_cons_zero→zM,getElem?_cons_succ→zN,drop_eq_getElem_cons→zO,drop_eq_nil_of_le→zQ,drop_zero→zU
namespace Go.Ev
attribute [local irreducible] P0
def digs:Nat→Nat→Str→Str
 | 0,_,acc=>acc
 | f+1,n,acc=>if n=0 then acc else digs f (n / 10) (dig n::acc)
theorem digs_zero(f:Nat)(acc:Str):digs f 0 acc=acc:=by
 cases f with
 | zero=>rfl
 | succ f=>unfold digs;rw[if_pos rfl]
theorem isDig_nat{b:UInt8}(h:isDig b=true):b=dig (b.toNat - 48)∧b.toNat - 48<10:=by
 unfold isDig at h
 simp only[zG,decide_eq_true_eq]at h
 refine⟨UInt8.toNat.inj ?_,by omega⟩
 rw[dig_nat];omega
theorem pval_cat(s:Str)(b:UInt8):pval (s++[b])=pval s * 10+(b.toNat - 48):=by
 unfold pval
 rw[List.foldl_append];rfl
theorem drop_nil(s:Str)(h:s.all isDig=true):s.dropWhile (· == 48)=[]↔pval s=0:=by
 constructor
 ·intro h0
  have:=drop0_val s
  rw[h0]at this
  exact this.symm
 ·intro h0
  induction s with
  | nil=>rfl
  | cons b r ih=>
   rw[List.all_cons,zG]at h
   obtain⟨h1,h2⟩:=isDig_nat h.1
   have h3:pval (b::r)=(b.toNat - 48) * 10 ^ r.length+pval r:=by
    show r.foldl stepD (stepD 0 b)=_
    rw[pv_app];congr 2;unfold stepD;omega
   rw[h3]at h0
   have h4:(b.toNat - 48) * 10 ^ r.length=0∧pval r=0:=by omega
   have h5:b.toNat - 48=0:=by
    rcases Nat.mul_eq_zero.1 h4.1 with h | h
    ·exact h
    ·have:0<10 ^ r.length:=Nat.pow_pos (by decide)
     omega
   rw[h5]at h1
   have h6:b=48:=h1
   rw[List.dropWhile_cons,h6,if_pos (by simp)]
   exact ih h.2 h4.2
theorem drop_digs(n:Nat) : ∀ (s:Str),s.length=n→s.all isDig=true → ∀ f acc,pval s<10 ^ f→s.dropWhile (· == 48)++acc=digs f (pval s) acc:=by
 induction n with
 | zero=>
  intro s hs _ f acc _
  have:s=[]:=List.length_eq_zero_iff.1 hs
  subst this
  exact(digs_zero f acc).symm
 | succ n ih=>
  intro s hs hd f acc hf
  by_cases h0:pval s=0
  ·rw[(drop_nil s hd).2 h0,h0,digs_zero];rfl
  ·cases f with
   | zero=>rw[Nat.pow_zero]at hf;omega
   | succ f=>
    rcases List.eq_nil_or_concat s with rfl | ⟨t,b,rfl⟩
    ·simp at hs
    ·rw[List.concat_eq_append]at *
     rw[List.all_append,zG]at hd
     have hb:isDig b=true:=by simpa using hd.2
     obtain⟨h1,h2⟩:=isDig_nat hb
     have hp:=pval_cat t b
     have hdv:pval (t++[b]) / 10=pval t:=by omega
     have hdm:dig (pval (t++[b]))=b:=by
      rw[h1]
      apply UInt8.toNat.inj
      rw[dig_nat,dig_nat]
      rw[← h1,hp];omega
     unfold digs
     rw[if_neg h0,hdv,hdm]
     rw[← ih t (by simpa using hs) hd.1 f (b::acc) (by rw[Nat.pow_succ]at hf;omega)]
     rw[List.dropWhile_append]
     by_cases h5:pval t=0
     ·rw[(drop_nil t hd.1).2 h5]
      have h6:(b == 48)=false:=by
       cases hbb:b == 48 with
       | false=>rfl
       | true=>
        have:b=48:=by simpa using hbb
        subst this
        exfalso;apply h0;rw[hp,h5];rfl
      rw[if_pos (show([]:Str).isEmpty=true from rfl),List.dropWhile_cons,h6]
      rfl
     ·have h6:t.dropWhile (· == 48)≠[]:=fun h=>h5 ((drop_nil t hd.1).1 h)
      have h7:(t.dropWhile (· == 48)).isEmpty=false:=by simpa using h6
      rw[h7]
      simp
theorem digits_digs(f g n:Nat)(hf:n<1000000000 ^ f)(hg:n<10 ^ g):digitsF f n=if digs g n []=[]then[48]else digs g n []:=by
 have h1:=pval_pcs f n hf
 have h2:=drop_digs _ (joinR (pcs f n)) rfl (pcs_is f n) g [] (by rw[h1];exact hg)
 rw[List.append_nil,h1]at h2
 rw[← h2];rfl
theorem ten_digit(r:Nat)(h:r<10):slsV (.str [48,49,50,51,52,53,54,55,56,57]) (some (.int .u32 (r:Int))) (some (.int .u32 ((r+1:Nat):Int)))=some (.str [dig r]):=by
 have:r=0∨r=1∨r=2∨r=3∨r=4∨r=5∨r=6∨r=7∨r=8∨r=9:=by omega
 rcases this with h | h | h | h | h | h | h | h | h | h<;>subst h<;>rfl
theorem dig_mod(n:Nat):dig (n % 10)=dig n:=by unfold dig;rw[Nat.mod_mod]
theorem addS(a b:Str)(h:a.length+b.length≤9223372036854775807):binV .add (.str a) (.str b)=some (.str (a++b)):=by
 show(if a.length+b.length≤9223372036854775807 then some (V.str (a++b))else none)=_
 rw[if_pos h]
theorem rdigits_loop(f:Nat) : ∀ (n:Nat) (acc:Str),n<10 ^ f→(toL n).length≤100000→acc.length+f≤10000000 →
  loopL L_ref01_Digits_1 (vec [.str acc,.sl (limbs (toL n))])=some (0,vec [.str (digs f n acc)]):=by
 induction f with
 | zero=>
  intro n acc hn hl ha
  have:n=0:=by simpa using hn
  subst this
  apply loopL_inr
  unfold L_ref01_Digits_1
  rw[toL_zero]
  simp only[tick_eq,vec_0,vec_s,lenV_sl,limbs_len,List.length_nil,some_bind]
  rfl
 | succ f ih=>
  intro n acc hn hl ha
  by_cases h0:n=0
  ·subst h0
   rw[digs_zero]
   apply loopL_inr
   unfold L_ref01_Digits_1
   rw[toL_zero]
   simp only[tick_eq,vec_0,vec_s,lenV_sl,limbs_len,List.length_nil,some_bind]
   rfl
  ·unfold digs
   rw[if_neg h0]
   have hne:0<(toL n).length:=List.length_pos_iff.2 (fun h=>h0 (toL_nil.1 h))
   have c1:((((toL n).length:Nat):Int) > 0):=by omega
   have hs:=rsmall_ok (toL n) 10 (by omega) (by unfold B32;omega) (by omega) (toL_u32 n)
   rw[nval_toL,show((10:Nat):Int)=10 from rfl]at hs
   have hr:n % 10<10:=Nat.mod_lt _ (by omega)
   have hw:IntKind.u32.wrap (((n % 10:Nat):Int)+1)=((n % 10+1:Nat):Int):=by rw[wu32 (by omega)];omega
   have htd:=ten_digit (n % 10) hr
   rw[dig_mod]at htd
   have had:=addS [dig n] acc (by simp;omega)
   have hl2:(toL (n / 10)).length≤100000:=by
    refine Nat.le_trans (toL_len (Nat.lt_of_le_of_lt (Nat.div_le_self _ _) ?_)) hl
    have:=nval_lt' (toL n) (toL_u32 n)
    rwa [nval_toL]at this
   have hih:=ih (n / 10) (dig n::acc) (by rw[Nat.pow_succ]at hn;omega) hl2 (by simp;omega)
   rw[← hih]
   apply loopL_inl
   unfold L_ref01_Digits_1
   have e1:[dig n]++acc=dig n::acc:=rfl
   simp only[tick_eq,vec_0,vec_s,lenV_sl,limbs_len,some_bind,c1,decide_true,if_true,hs,ext_tup,zM,zN,add_i,hw,htd,had,e1]
theorem rdigits_ok(l:List Nat)(hu:U32 l)(hl:l.length≤10000):P0 f_ref01_Digits [.v (.sl (limbs l))] []=some (.str (digitsF (2 * l.length) (nval l)),[]):=by
 rw[eq_ref01_Digits];unfold F_ref01_Digits
 have hn:=rnorm_ok l (by omega) hu
 have hlen:(toL (nval l)).length≤l.length:=toL_len (nval_lt' l hu)
 have hlt:=nval_lt l hu
 have hlt2:nval l<1000000000 ^ (2 * l.length):=by
  refine zK hlt ?_
  rw[show(1000000000:Nat)=10 ^ 9 from by decide,← Nat.pow_mul]
  exact Nat.pow_le_pow_right (by decide) (by omega)
 have h:=rdigits_loop (10 * l.length) (nval l) [] hlt (by omega) (by simp;omega)
 rw[digits_digs _ _ _ hlt2 hlt]
 generalize digs (10 * l.length) (nval l) []=r at *
 by_cases h0:r=[]
 ·subst h0
  simp only[tick_eq,hn,some_bind,h,vec_0,eql_s,beq_self_eq_true,asBool_b,if_true]
 ·have hb:(r == ([]:Str))=false:=by simpa using h0
  rw[if_neg h0]
  simp only[tick_eq,hn,some_bind,h,vec_0,eql_s,hb,asBool_b,zF,if_false]
theorem rparse_loop(s:Str)(hl:s.length≤2000)(k:Nat) : ∀ i v,i+k=s.length→v<10 ^ i →
  loopL (L_ref01_Parse_1 (.str s)) (vec [.sl (limbs (toL v)),.int .i64 (i:Int)])=if(s.drop i).all isDig=true then some (0,vec [.sl (limbs (toL ((s.drop i).foldl stepD v)))])else some (1,vec [.sl [],.bool false]):=by
 induction k with
 | zero=>
  intro i v hi hv
  rw[zQ (by omega)]
  rw[if_pos (by rfl)]
  apply loopL_inr
  unfold L_ref01_Parse_1
  have c1 : ¬ (i:Int)<(s.length:Int):=by omega
  simp only[tick_eq,vec_0,vec_s,lns_s,lss_i,c1,decide_false,some_bind,asBool_b,zF,if_false,List.foldl_nil]
 | succ k ih=>
  intro i v hi hv
  have h1:i<s.length:=by omega
  have c1:(i:Int)<(s.length:Int):=by omega
  have hx:=ixs_at s i h1
  rw[zO h1,List.all_cons,List.foldl_cons]
  generalize s[i]=b at *
  by_cases hd:isDig b=true
  ·rw[hd,Bool.true_and]
   unfold isDig at hd
   simp only[zG,decide_eq_true_eq]at hd
   have c2 : ¬ ((b.toNat:Nat):Int)<48:=by omega
   have c3 : ¬ ((b.toNat:Nat):Int) > 57:=by omega
   have lv:(toL v).length≤3000:=len_of' (Nat.lt_trans hv (ten_lt i)) (by omega)
   have hm:=rmul_ok (toL v) [10] (u32_of _) u32_ten (by simp;omega)
   rw[nval_toL,nval_one]at hm
   have hm:P0 f_ref01_Mul [.v (.sl (limbs (toL v))),.v (.sl [.int .u32 10])] []=some (.sl (limbs (toL (v * 10))),[]):=hm
   have hs:IntKind.u8.wrap (((b.toNat:Nat):Int) - 48)=((b.toNat - 48:Nat):Int):=by rw[IntKind.wrap_u8];omega
   have hw:IntKind.u32.wrap ((b.toNat - 48:Nat):Int)=((b.toNat - 48:Nat):Int):=wu32 (by omega)
   have hv1:stepD v b<10 ^ (i+1):=by unfold stepD;rw[Nat.pow_succ];omega
   have hv10:v * 10<10 ^ (i+1):=by rw[Nat.pow_succ];omega
   have lv2:(toL (v * 10)).length≤3000:=len_of' (Nat.lt_trans hv10 (ten_lt (i+1))) (by omega)
   have ha:=radd_ok (toL (v * 10)) [b.toNat - 48] (by omega) (by simp) (u32_of _) (u32_one (by unfold B32;omega))
   rw[nval_toL,nval_one]at ha
   have ha:P0 f_ref01_Add [.v (.sl (limbs (toL (v * 10)))),.v (.sl [.int .u32 ((b.toNat - 48:Nat):Int)])] []=some (.sl (limbs (toL (stepD v b))),[]):=ha
   have w:=w64 (a:=(i:Int)+1) (by omega)
   have e1:((i+1:Nat):Int)=(i:Int)+1:=by omega
   rw[← ih (i+1) (stepD v b) (by omega) hv1,e1]
   apply loopL_inl
   unfold L_ref01_Parse_1
   simp only[tick_eq,vec_0,vec_s,lns_s,lss_i,c1,decide_true,some_bind,asBool_b,if_true,hx,c2,decide_false,gtr_i,c3,zF,if_false,hm,sub_i,hs,cvi_i,hw,okN_int,tst_t,fld_int,ha,add_i,w]
  ·have hd':isDig b=false:=by simpa using hd
   rw[hd',Bool.false_and,if_neg (by simp)]
   unfold isDig at hd
   simp only[zG,decide_eq_true_eq]at hd
   apply loopL_inr
   unfold L_ref01_Parse_1
   by_cases c2:((b.toNat:Nat):Int)<48
   ·simp only[tick_eq,vec_0,vec_s,lns_s,lss_i,c1,decide_true,some_bind,asBool_b,if_true,hx,c2,zX,if_false]
   ·have c3:((b.toNat:Nat):Int) > 57:=by omega
    simp only[tick_eq,vec_0,vec_s,lns_s,lss_i,c1,decide_true,some_bind,asBool_b,if_true,hx,c2,decide_false,gtr_i,c3]
theorem rparse_ok(s:Str):P0 f_ref01_Parse [.v (.str s)] []=some (parseV s,[]):=by
 rw[eq_ref01_Parse];unfold F_ref01_Parse parseV
 by_cases h0:s=[]
 ·rw[if_neg (fun h=>h.1 h0)]
  subst h0
  simp only[tick_eq,lns_s,List.length_nil,some_bind]
  rfl
 ·have c0 : ¬ ((s.length:Nat):Int)<1:=by
   have:=List.length_pos_iff.2 h0
   omega
  by_cases hl:s.length≤2000
  ·have c1 : ¬ ((s.length:Nat):Int) > 2000:=by omega
   have h:=rparse_loop s hl s.length 0 0 (by omega) (by decide)
   rw[zU,toL_zero,show limbs []=[]from rfl,show((0:Nat):Int)=0 from rfl]at h
   by_cases ha:s.all isDig=true
   ·rw[if_pos ⟨h0,hl,ha⟩]
    rw[if_pos ha]at h
    simp only[tick_eq,lns_s,some_bind,c0,decide_false,if_true,c1,asBool_b,zF,if_false,h,vec_0]
    rfl
   ·rw[if_neg (fun h=>ha h.2.2)]
    rw[if_neg ha]at h
    simp only[tick_eq,lns_s,some_bind,c0,decide_false,if_true,c1,asBool_b,zF,if_false,h,vec_0,vec_s,Nat.one_ne_zero]
  ·have c1:((s.length:Nat):Int) > 2000:=by omega
   rw[if_neg (fun h=>hl h.2.1)]
   simp only[tick_eq,lns_s,some_bind,c0,decide_false,if_true,c1,decide_true,asBool_b]
end Go.Ev
