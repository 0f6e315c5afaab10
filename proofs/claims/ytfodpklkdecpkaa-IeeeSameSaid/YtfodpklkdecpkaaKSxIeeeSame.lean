/- The law of floats that are the same, for all floats. -/
import Derived.Test.YtfodpklkdecpkaaKSx1
import Derived.Test.YtfodpklkdecpkaaRows
import Derived.Test.YtfodpklkdecpkaaKSp
set_option linter.all false
open Bool renaming false_eq_true->zF,not_false->zI,true_eq_false->zX
namespace Go.Ev
attribute [local irreducible] P0
def nanB(a:Nat):Bool:=FloatKind.f64.format.order a a != some .eq
theorem nan_v(a:Nat):binV .neq (.float .f64 a) (.float .f64 a)=some (.bool (nanB a)):=by show(if FloatKind.f64=FloatKind.f64 then(cmpF .f64 .neq a a).map V.bool else none)=_;rw[zb rfl];rfl
theorem isnan_f(a:Nat):P0 f_math_IsNaN [.v (.float .f64 a)] []=some (.bool (nanB a),[]):=by rw[eq_math_IsNaN];unfold F_math_IsNaN;simp only[tick_eq,nan_v,some_bind]
theorem fbits_f(a:Nat):P0 f_math_Float64bits [.v (.float .f64 a)] []=some (.int .u64 ((a:Nat):Int),[]):=by rw[tell_math_Float64bits];rfl
theorem ffrom_f(n:Int):P0 f_math_Float64frombits [.v (.int .u64 n)] []=some (.float .f64 n.toNat,[]):=by rw[tell_math_Float64frombits];rfl
theorem same_f(a b:Nat):P0 f_ieee_Same [.v (.float .f64 a),.v (.float .f64 b)] []=some (.bool ((nanB a&&nanB b)||decide ((a:Int)=(b:Int))),[]):=by
 rw[eq_ieee_Same];unfold F_ieee_Same;have h1:=isnan_f a;have h2:=isnan_f b;cases ha:nanB a with
 | false=>rw[ha]at h1;simp only[tick_eq,h1,some_bind,asBool_b,zF,zd,zc,fbits_f,eql_i,Bool.false_and,Bool.false_or]
 | true=>
  rw[ha]at h1;cases hb:nanB b with
  | false=>rw[hb]at h2;simp only[tick_eq,h1,h2,some_bind,asBool_b,zc,fbits_f,eql_i,Bool.and_false,Bool.false_or]
  | true=>rw[hb]at h2;simp only[tick_eq,h1,h2,some_bind,asBool_b,zc,zX,zd,Bool.and_true,Bool.true_or]
theorem copysign_f:P0 f_math_Copysign [.v (.float .f64 0),.v (.float .f64 13830554455654793216)] []=some (.float .f64 9223372036854775808,[]):=by
 rw[eq_math_Copysign];unfold F_math_Copysign;have e1:binV .andNot (.int .u64 ((0:Nat):Int)) (.int .u64 9223372036854775808)=some (.int .u64 0):=by kernel_rfl
 have e2:binV .and (.int .u64 ((13830554455654793216:Nat):Int)) (.int .u64 9223372036854775808)=some (.int .u64 9223372036854775808):=by kernel_rfl
 have e3:binV .or (.int .u64 0) (.int .u64 9223372036854775808)=some (.int .u64 9223372036854775808):=by kernel_rfl
 rw[fbits_f,some_bind,e1,some_bind,fbits_f,some_bind,e2,some_bind,e3,some_bind,ffrom_f,some_bind];rfl
theorem nan_f:P0 f_math_NaN [] []=some (.float .f64 9221120237041090561,[]):=by rw[eq_math_NaN];unfold F_math_NaN;rw[ffrom_f,some_bind];rfl
theorem inf_f:P0 f_math_Inf [.v (.int .i64 1)] []=some (.float .f64 9218868437227405312,[]):=by
 rw[eq_math_Inf];unfold F_math_Inf;have c:(0:Int)<=1:=by decide
 simp only[tick_eq,geq_i,c,ze,some_bind,asBool_b,zc,vec_0,ffrom_f];rfl
theorem ninf_f:P0 f_math_Inf [.v (.int .i64 (-1))] []=some (.float .f64 18442240474082181120,[]):=by
 rw[eq_math_Inf];unfold F_math_Inf;have c : ¬ (0:Int) <= -1:=by decide
 simp only[tick_eq,geq_i,c,zf,some_bind,asBool_b,zF,zd,vec_0,ffrom_f];rfl
theorem isame_law(a b:Nat):P0 f_law03_IeeeSame [.v (.float .f64 a),.v (.float .f64 b)] []=some (.bool true,[]):=by
 have s1:=same_f a b;have s2:=same_f a a;have s3:=same_f 9223372036854775808 0;have s4:=same_f 9221120237041090561 9221120237041090561;have s5:=same_f 9218868437227405312 18442240474082181120;have n3:nanB 0=false:=by kernel_rfl
 have n5:nanB 9218868437227405312=false:=by kernel_rfl
 have d2:decide ((a:Int)=(a:Int))=true:=zg rfl;have d4:decide (((9221120237041090561:Nat):Int)=((9221120237041090561:Nat):Int))=true:=zg rfl;have d3:decide (((9223372036854775808:Nat):Int)=((0:Nat):Int))=false:=by decide
 have d5:decide (((9218868437227405312:Nat):Int)=((18442240474082181120:Nat):Int))=false:=by decide
 rw[d2,Bool.or_true]at s2;rw[d4,Bool.or_true]at s4;rw[n3,Bool.and_false,d3,Bool.or_false]at s3;rw[n5,Bool.false_and,d5,Bool.or_false]at s5;have h1:=isnan_f a;have h2:=isnan_f b;rw[eq_law03_IeeeSame];unfold F_law03_IeeeSame;cases ha:nanB a with
 | false=>rw[ha]at h1 s1;rw[Bool.false_and,Bool.false_or]at s1;simp only[tick_eq,h1,some_bind,asBool_b,zF,zd,copysign_f,s1,zc,fbits_f,eql_i,beq_self_eq_true,s2,s3,not_b,zI,nan_f,s4,inf_f,ninf_f,s5,awake3]
 | true=>
  rw[ha]at h1 s1;cases hb:nanB b with
  | false=>rw[hb]at h2 s1;rw[Bool.and_false,Bool.false_or]at s1;simp only[tick_eq,h1,h2,some_bind,asBool_b,zc,copysign_f,s1,fbits_f,eql_i,beq_self_eq_true,s2,s3,not_b,zI,nan_f,s4,inf_f,ninf_f,s5,awake3]
  | true=>rw[hb]at h2 s1;rw[Bool.and_true,Bool.true_or]at s1;simp only[tick_eq,h1,h2,some_bind,asBool_b,zc,zX,zd,copysign_f,s1,beq_self_eq_true,s2,s3,not_b,zI,nan_f,s4,inf_f,ninf_f,s5,awake3]
theorem ty_float{P:Program}{n:Nat}{t:TypeId}{xs:List V}(hu:P.underlying t=some (.float .f64))(h:Ty P n t xs) : ∃ b:Nat,mkV P t xs = .float .f64 b:=by
 cases n with
 | zero=>exact h.elim
 | succ n=>unfold Ty at h;rw[hu]at h;obtain⟨b,_,rfl⟩:=h;exact⟨b,by unfold mkV isAggT;rw[hu];rfl⟩
theorem pure_IeeeSame{n0 n1:Nat}{xs ys:List V}(hx:Ty Go.Proofs.Try.prog n0 22 xs)(hy:Ty Go.Proofs.Try.prog n1 22 ys) :
  P0 f_law03_IeeeSame ([mkV Go.Proofs.Try.prog 22 xs,mkV Go.Proofs.Try.prog 22 ys].map .v) []=some (.bool true,[]):=by
 obtain⟨a,ea⟩:=ty_float Go.Proofs.Try.underlying22 hx;obtain⟨b,eb⟩:=ty_float Go.Proofs.Try.underlying22 hy;rw[ea,eb];exact isame_law a b
end Go.Ev
