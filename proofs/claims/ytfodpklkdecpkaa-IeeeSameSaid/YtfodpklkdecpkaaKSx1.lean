/- The awake example of the floats' laws. -/
import Derived.Test.YtfodpklkdecpkaaKSq9
set_option linter.all false
open Bool renaming not_false->zI
open List renaming getElem?_cons_zero->zM,getElem?_cons_succ->zN
namespace Go.Ev
attribute [local irreducible] P0
theorem shortest_tenth:P0 f_ieee_Shortest [.v (Nm.mk false [1] (-1)).val] []=some (.tup [.int .i64 0,.int .u64 0,.bool false],[]):=by
 have hchk:P0 f_num_Check [.v (Nm.mk false [1] (-1)).val] []=some (.bool true,[]):=by
  rw[eq_num_Check];unfold F_num_Check;have ht:P0 f_nat_Trim [.v (.sl (limbs [1]))] []=some (.tup [.sl (limbs [1]),.int .i64 0],[]):=ntrim_ok [1] (by intro x hx;simp at hx;rw[hx];decide) (by decide);have w:IntKind.i64.wrap ((([1]:List Nat).length:Int)-1)=0:=by decide
  have i:idxV (.int .i64 0) 1=some 0:=by kernel_rfl
  have g:(limbs [1])[0]?=some (.int .u32 1):=rfl;apply yes;simp[ht,i,w64 (a:=0) (by decide),g]
 have hmul:P0 f_nat_Mul [.v (.sl (limbs [1])),.v (.sl (limbs [1]))] []=some (.sl (limbs [1]),[]):=nmul_ok [1] [1] (by intro x hx;simp at hx;rw[hx];decide) (by intro x hx;simp at hx;rw[hx];decide) (by decide);have hpow5:P0 f_nat_Pow [.v (.int .u32 5),.v (.int .i64 1)] []=some (.sl (limbs [5]),[]):=npow_ok 5 1 (by decide) (by decide);have hpow:P0 f_nat_Pow [.v (.int .u32 5),.v (.int .i64 (-1))] []=some (.sl (limbs [1]),[]):=by
  rw[eq_nat_Pow];unfold F_nat_Pow;have hnm:P0 f_nat_Norm [.v (.sl (limbs [5]))] []=some (.sl (limbs [5]),[]):=nnorm_ok [5] (by decide) (by intro x hx;simp at hx;rw[hx];decide);have hl:loopL L_nat_Pow_1 (vec [.int .i64 0,.sl (limbs [1]),.sl (limbs [5])])=some (0,vec [.sl (limbs [1])]):=npow_loop 1 0 1 5 1 1 (by decide) (by decide) (by decide) (by decide) (by decide);have e1:minV (.int .i64 (-1)) [.int .i64 1300]=some (.int .i64 (-1)):=by kernel_rfl
  have e2:maxV (.int .i64 0) [.int .i64 (-1)]=some (.int .i64 0):=by kernel_rfl
  have e3:[V.int .u32 5]=limbs [5]:=rfl;have e4:[V.int .u32 1]=limbs [1]:=rfl;apply yes;simp only[okN_int,tst_t,fld_int,some_bind,e3,e4,hnm,e1,e2,hl];simp
 have hdiv:P0 f_nat_Div [.v (.sl (limbs [1])),.v (.sl (limbs [5]))] []=some (.tup [.sl (limbs []),.sl (limbs [1])],[]):=by
  rw[eq_nat_Div];unfold F_nat_Div;have hnm:P0 f_nat_Norm [.v (.sl (limbs [5]))] []=some (.sl (limbs [5]),[]):=nnorm_ok [5] (by decide) (by intro x hx;simp at hx;rw[hx];decide);have hnm1:P0 f_nat_Norm [.v (.sl (limbs [1]))] []=some (.sl (limbs [1]),[]):=nnorm_ok [1] (by decide) (by intro x hx;simp at hx;rw[hx];decide);have hsm:P0 f_nat_small [.v (.sl (limbs [1])),.v (.int .u32 5)] []=some (.tup [.sl (limbs []),.int .u32 1],[]):=nsmall_ok [1] 5 (by decide) (by decide) (by decide) (by intro x hx;simp at hx;rw[hx];decide);have e4:[V.int .u32 1]=limbs [1]:=rfl;have i:idxV (.int .i64 0) 1=some 0:=by kernel_rfl
  have g:(limbs [5])[0]?=some (.int .u32 5):=rfl;simp only[hnm,some_bind,lenV_sl,limbs_len,asSl_limbs,zm,List.length_nil];apply yes;simp[i,g,hsm,e4,hnm1]
 have hto : ∀ {w:Int} {ex fr:Nat},Fm w ex fr->P0 f_ieee_To [.v (.int .i64 w),.v (Nm.mk false [1] (-1)).val] []=some (.tup [.int .u64 0,.bool false],[]):=fun {w ex fr} h=>by rw[eq_ieee_To];unfold F_ieee_To;have w1:IntKind.i64.wrap 1=1:=w64 (by decide);apply yes;simp[of_w h,okN_fm,hchk,hpow,hmul,w1,hpow5,hdiv]
 rw[eq_ieee_Shortest];unfold F_ieee_Shortest;have i0:idxV (.int .i64 0) 3=some 0:=by kernel_rfl
 have i1:idxV (.int .i64 1) 3=some 1:=by kernel_rfl
 have i2:idxV (.int .i64 2) 3=some 2:=by kernel_rfl
 have hz:szOk 1 [V.int .i64 16,.int .i64 32,.int .i64 64]=true:=by kernel_rfl
 have s0:loopL (L_ieee_Shortest_1 (Nm.mk false [1] (-1)).val) (vec [.int .i64 0])=loopL (L_ieee_Shortest_1 (Nm.mk false [1] (-1)).val) (vec [.int .i64 1]):=by apply loopL_inl;unfold L_ieee_Shortest_1;apply yes;simp[hz,i0,hto .w16,w64 (a:=1) (by decide)]
 have s1:loopL (L_ieee_Shortest_1 (Nm.mk false [1] (-1)).val) (vec [.int .i64 1])=loopL (L_ieee_Shortest_1 (Nm.mk false [1] (-1)).val) (vec [.int .i64 2]):=by apply loopL_inl;unfold L_ieee_Shortest_1;apply yes;simp[hz,i1,hto .w32,w64 (a:=2) (by decide)]
 have s2:loopL (L_ieee_Shortest_1 (Nm.mk false [1] (-1)).val) (vec [.int .i64 2])=loopL (L_ieee_Shortest_1 (Nm.mk false [1] (-1)).val) (vec [.int .i64 3]):=by apply loopL_inl;unfold L_ieee_Shortest_1;apply yes;simp[hz,i2,hto .w64,w64 (a:=3) (by decide)]
 have s3:loopL (L_ieee_Shortest_1 (Nm.mk false [1] (-1)).val) (vec [.int .i64 3])=some (0,vec []):=by apply loopL_inr;unfold L_ieee_Shortest_1;apply yes;simp
 simp only[okN_nm,tst_t,s0,s1,s2,s3,some_bind];simp
theorem awake3:P0 f_law03_awake [] []=some (.bool true,[]):=by
 rw[eq_law03_awake];unfold F_law03_awake;have h1:P0 f_ieee_Exact [.v (.int .i64 16),.v (.int .u64 15360)] []=some (.tup [(Nm.mk false [1] 0).val,.bool true],[]):=by
  obtain⟨m',j,a1,a2,a3,a4,a5⟩:=exact_fin .w16 15 0 (by decide) (by decide) (by decide);have hT:bitsT 5 10 15 = -10:=by decide
  have hM:bitsM 10 15 0=1024:=by decide
  rw[hT]at a4;obtain⟨b1,b2⟩:=a4 (by decide);rw[hM]at b2;have hj:j<=10:=by omega
  have hmj:j=0/\m'=1:=by
   have e:(-(-10:Int)).toNat=10:=by decide
   rw[e]at b2;have e10:(2:Nat)^10=1024:=by decide
   have hj0:j=0\/0<j:=by omega
   rcases hj0 with rfl | hj0
   ·rw[show 10-0=10 from rfl,e10]at b2;have b3:m'*1024=1*1024:=by rw[Nat.one_mul];exact b2.symm
    exact⟨rfl,Nat.eq_of_mul_eq_mul_right (by decide) b3⟩
   ·exfalso;rcases a2 with a2 | a2
    ·omega
    ·have : ∀ j:Nat,0<j->j<=10->1024=m'*2^(10-j)->m'%2=1->False:=by
      intro j h1 h2 h3 h4;have:2^(10-j)*2^j=1024:=by rw[<- Nat.pow_add,show 10-j+j=10 by omega]
      have h5:m'=2^j:=by
       have h6:2^(10-j)*m'=2^(10-j)*2^j:=by rw[this,Nat.mul_comm];exact h3.symm
       exact Nat.eq_of_mul_eq_mul_left (Nat.pow_pos (by decide)) h6
      obtain⟨i,rfl⟩ : ∃ i,j=i+1:=⟨j-1,by omega⟩
      rw[h5,Nat.pow_succ]at h4;omega
     exact this j hj0 hj b2 a2
  obtain⟨rfl,rfl⟩:=hmj;have:=a5 15360 (by decide) (by decide) (by decide);have hn:cutN 5 10 15360=false:=by decide
  have hmk:mk false (1*5^0) (-((0:Nat):Int))=(⟨false,[1],0⟩,true):=by kernel_rfl
  rw[hn,hmk]at this;exact this
 have h2:P0 f_ref02_Make [.v (.bool false),.v (.sl [.int .u32 1]),.v (.int .i64 (-1))] []=some (.tup [(Nm.mk false [1] (-1)).val,.bool true],[]):=by
  have:=rmake_ok false [1] (-1) (by intro x hx;simp at hx;rw[hx];decide) (by decide) (by decide);have hmk:mk false (nval [1]) (-1)=(⟨false,[1],-1⟩,true):=by kernel_rfl
  rw[hmk]at this;exact this
 have h3:P0 f_ieee_Kind [.v (.int .i64 64),.v (.int .u64 9223372036854775808)] []=some (.int .i64 2,[]):=by
  have:=kind_ok .w64 9223372036854775808 (by decide);have e:kindN 11 (cutE 11 52 9223372036854775808) (cutM 52 9223372036854775808)=2:=by decide
  rw[e]at this;exact this
 have i:idxV (.int .i64 0) 1=some 0:=by kernel_rfl
 have g:(limbs [1])[0]?=some (.int .u32 1):=rfl;apply yes;simp only[h1,h2,h3,shortest_tenth,some_bind,ext_tup,zM,zN,okN_nm,tst_t,asBool_b,zc,fld_nm0,fld_nm1,fld_nm2,lenV_sl,limbs_len,zm,List.length_nil,asSl_limbs,zk,i,g,fld_int,eql_i,ze,not_b,zI];simp
end Go.Ev
