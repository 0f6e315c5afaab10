/- The functions' table stands for the loaded program's. -/
import Derived.Test.YtfodpklkdecpkaaKTx
import Derived.Test.YtfodpklkdecpkaaProg
import Derived.KernelRfl
set_option linter.all false
namespace Go.Ev
open Go.Proofs.Try
theorem good_law03_IeeeSame:Plain prog (tiOf prog) f_law03_IeeeSame n_law03_IeeeSame:=
 pl1 k_law03_IeeeSame d_law03_IeeeSame func3 (by kernel_rfl)
theorem good_math_IsNaN:Plain prog (tiOf prog) f_math_IsNaN n_math_IsNaN:=
 pl1 k_math_IsNaN d_math_IsNaN func4 (by kernel_rfl)
theorem good_math_Copysign:Plain prog (tiOf prog) f_math_Copysign n_math_Copysign:=
 pl1 k_math_Copysign d_math_Copysign func5 (by kernel_rfl)
theorem good_ieee_Same:Plain prog (tiOf prog) f_ieee_Same n_ieee_Same:=
 pl1 k_ieee_Same d_ieee_Same func6 (by kernel_rfl)
theorem good_math_NaN:Plain prog (tiOf prog) f_math_NaN n_math_NaN:=
 pl1 k_math_NaN d_math_NaN func8 (by kernel_rfl)
theorem good_math_Inf:Plain prog (tiOf prog) f_math_Inf n_math_Inf:=
 pl1 k_math_Inf d_math_Inf func9 (by kernel_rfl)
theorem good_law03_awake:Plain prog (tiOf prog) f_law03_awake n_law03_awake:=
 pl1 k_law03_awake d_law03_awake func10 (by kernel_rfl)
theorem good_ieee_Exact:Plain prog (tiOf prog) f_ieee_Exact n_ieee_Exact:=
 pl1 k_ieee_Exact d_ieee_Exact func12 (by kernel_rfl)
theorem good_ref02_Make:Plain prog (tiOf prog) f_ref02_Make n_ref02_Make:=
 pl1 k_ref02_Make d_ref02_Make func13 (by kernel_rfl)
theorem good_ieee_Shortest:Plain prog (tiOf prog) f_ieee_Shortest n_ieee_Shortest:=
 pl1 k_ieee_Shortest d_ieee_Shortest func14 (by kernel_rfl)
theorem good_ieee_Kind:Plain prog (tiOf prog) f_ieee_Kind n_ieee_Kind:=
 pl1 k_ieee_Kind d_ieee_Kind func15 (by kernel_rfl)
theorem good_ieee_of:Plain prog (tiOf prog) f_ieee_of n_ieee_of:=
 pl1 k_ieee_of d_ieee_of func16 (by kernel_rfl)
theorem good_ieee_form_cut:Plain prog (tiOf prog) f_ieee_form_cut n_ieee_form_cut:=
 pl1 k_ieee_form_cut d_ieee_form_cut func17 (by kernel_rfl)
theorem good_ieee_form_least:Plain prog (tiOf prog) f_ieee_form_least n_ieee_form_least:=
 pl1 k_ieee_form_least d_ieee_form_least func18 (by kernel_rfl)
theorem good_num_Make:Plain prog (tiOf prog) f_num_Make n_num_Make:=
 pl1 k_num_Make d_num_Make func19 (by kernel_rfl)
theorem good_nat_Mul:Plain prog (tiOf prog) f_nat_Mul n_nat_Mul:=
 pl1 k_nat_Mul d_nat_Mul func20 (by kernel_rfl)
theorem good_ieee_limbs:Plain prog (tiOf prog) f_ieee_limbs n_ieee_limbs:=
 pl1 k_ieee_limbs d_ieee_limbs func21 (by kernel_rfl)
theorem good_nat_Pow:Plain prog (tiOf prog) f_nat_Pow n_nat_Pow:=
 pl1 k_nat_Pow d_nat_Pow func22 (by kernel_rfl)
theorem good_ref01_Trim:Plain prog (tiOf prog) f_ref01_Trim n_ref01_Trim:=
 pl1 k_ref01_Trim d_ref01_Trim func23 (by kernel_rfl)
theorem good_ieee_To:Plain prog (tiOf prog) f_ieee_To n_ieee_To:=
 pl1 k_ieee_To d_ieee_To func24 (by kernel_rfl)
theorem good_ieee_form_bias:Plain prog (tiOf prog) f_ieee_form_bias n_ieee_form_bias:=
 pl1 k_ieee_form_bias d_ieee_form_bias func25 (by kernel_rfl)
theorem good_nat_Trim:Plain prog (tiOf prog) f_nat_Trim n_nat_Trim:=
 pl1 k_nat_Trim d_nat_Trim func26 (by kernel_rfl)
theorem good_nat_Norm:Plain prog (tiOf prog) f_nat_Norm n_nat_Norm:=
 pl1 k_nat_Norm d_nat_Norm func27 (by kernel_rfl)
theorem good_ref01_Norm:Plain prog (tiOf prog) f_ref01_Norm n_ref01_Norm:=
 pl1 k_ref01_Norm d_ref01_Norm func28 (by kernel_rfl)
theorem good_ref01_Small:Plain prog (tiOf prog) f_ref01_Small n_ref01_Small:=
 pl1 k_ref01_Small d_ref01_Small func29 (by kernel_rfl)
theorem good_num_Check:Plain prog (tiOf prog) f_num_Check n_num_Check:=
 pl1 k_num_Check d_num_Check func30 (by kernel_rfl)
theorem good_nat_Div:Plain prog (tiOf prog) f_nat_Div n_nat_Div:=
 pl1 k_nat_Div d_nat_Div func31 (by kernel_rfl)
theorem good_ieee_odd:Plain prog (tiOf prog) f_ieee_odd n_ieee_odd:=
 pl1 k_ieee_odd d_ieee_odd func32 (by kernel_rfl)
theorem good_nat_Bits:Plain prog (tiOf prog) f_nat_Bits n_nat_Bits:=
 pl1 k_nat_Bits d_nat_Bits func33 (by kernel_rfl)
theorem good_nat_small:Plain prog (tiOf prog) f_nat_small n_nat_small:=
 pl1 k_nat_small d_nat_small func34 (by kernel_rfl)
theorem good_nat_up:Plain prog (tiOf prog) f_nat_up n_nat_up:=
 pl1 k_nat_up d_nat_up func35 (by kernel_rfl)
theorem good_nat_Cmp:Plain prog (tiOf prog) f_nat_Cmp n_nat_Cmp:=
 pl1 k_nat_Cmp d_nat_Cmp func36 (by kernel_rfl)
theorem good_nat_Sub:Plain prog (tiOf prog) f_nat_Sub n_nat_Sub:=
 pl1 k_nat_Sub d_nat_Sub func37 (by kernel_rfl)
theorem good_math_bits_Len32:Plain prog (tiOf prog) f_math_bits_Len32 n_math_bits_Len32:=
 pl1 k_math_bits_Len32 d_math_bits_Len32 func38 (by kernel_rfl)
theorem good_cmp_Compare_uint64:Plain prog (tiOf prog) f_cmp_Compare_uint64 n_cmp_Compare_uint64:=
 pl1 k_cmp_Compare_uint64 d_cmp_Compare_uint64 func39 (by kernel_rfl)
theorem good_nat_at:Plain prog (tiOf prog) f_nat_at n_nat_at:=
 pl1 k_nat_at d_nat_at func40 (by kernel_rfl)
theorem good_cmp_isNaN_uint64:Plain prog (tiOf prog) f_cmp_isNaN_uint64 n_cmp_isNaN_uint64:=
 pl1 k_cmp_isNaN_uint64 d_cmp_isNaN_uint64 func41 (by kernel_rfl)
set_option maxRecDepth 100000 in
theorem envOk:EnvOk prog (tiOf prog) E0:=
 envOk_of (l:=fnTab) (dl:=dfTab) (.cons good_law03_IeeeSame <| .cons good_math_IsNaN <| .cons good_math_Copysign <| .cons good_ieee_Same <| .cons good_math_NaN <| .cons good_math_Inf <| .cons good_law03_awake <| .cons good_ieee_Exact <| .cons good_ref02_Make <| .cons good_ieee_Shortest <| .cons good_ieee_Kind <| .cons good_ieee_of <| .cons good_ieee_form_cut <| .cons good_ieee_form_least <| .cons good_num_Make <| .cons good_nat_Mul <| .cons good_ieee_limbs <| .cons good_nat_Pow <| .cons good_ref01_Trim <| .cons good_ieee_To <| .cons good_ieee_form_bias <| .cons good_nat_Trim <| .cons good_nat_Norm <| .cons good_ref01_Norm <| .cons good_ref01_Small <| .cons good_num_Check <| .cons good_nat_Div <| .cons good_ieee_odd <| .cons good_nat_Bits <| .cons good_nat_small <| .cons good_nat_up <| .cons good_nat_Cmp <| .cons good_nat_Sub <| .cons good_math_bits_Len32 <| .cons good_cmp_Compare_uint64 <| .cons good_nat_at <| .cons good_cmp_isNaN_uint64 <| .nil _ _ _) rfl rfl effOk extOk
theorem txOk:TxOk E0 gl0 tab0:=by
 refine⟨fun f k g h hg => ?_,fun f e h => ?_⟩
 ·have hg:tx0 f=some g:=hg;unfold tx0 at hg;split at hg<;>first | contradiction | skip
  ·injection hg with hg;subst hg;exact⟨_,rfl,tells_f64b⟩
  ·injection hg with hg;subst hg;exact⟨_,rfl,tells_f64f⟩
 ·have h:md0 f = .eff e:=h;unfold md0 at h;contradiction
end Go.Ev
