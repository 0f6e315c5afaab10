/- Floats: the bits of a number. -/
import Derived.Test.YtoikjfpefikmpaaDoorKSq12
import Derived.Test.YtoikjfpefikmpaaDoorKSq9
import Derived.Test.YtoikjfpefikmpaaDoorKSp
set_option linter.all false
namespace Go.Ev
attribute [local irreducible] P0
theorem npow_neg(b:Nat)(e:Int)(hb:b<B32)(he:e<0 ∧ -9223372036854775808≤e):P0 f_nat_Pow [.v (.int .u32 (b:Int)),.v (.int .i64 e)] []=some (.sl (limbs (toL 1)),[]):=by
 rw[eq_nat_Pow];unfold F_nat_Pow
 have hnm:=nnorm_ok [b] (by simp) (fun x hx=>by simp at hx;rw[hx];exact hb)
 have hmin:minV (.int .i64 e) [.int .i64 1300]=some (.int .i64 e):=by
  simp only[minV,if_pos];congr 2;rw[if_neg (by omega)]
 have hmax:maxV (.int .i64 0) [.int .i64 e]=some (.int .i64 0):=by
  simp only[maxV,if_pos];congr 2;rw[if_neg (by omega)]
 have hb1:nval [b]=b:=by simp[nval]
 have hl:=npow_loop 1 0 1 b 1 1 (by decide) (by decide) (by decide) (by simpa using hb) (by decide)
 rw[hb1]at hnm
 simp only[okN_int,tst_t,fld_int,some_bind,limbs_one,hnm,hmin,hmax]
 rw[show([V.int .u32 1]:List V)=limbs (toL 1)from rfl]
 rw[show((0:Nat):Int)=0 from rfl]at hl
 rw[hl];simp
end Go.Ev
