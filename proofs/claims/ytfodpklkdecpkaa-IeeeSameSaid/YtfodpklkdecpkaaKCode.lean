/- The functions' code. -/
import Derived.Test.YtfodpklkdecpkaaKEvE
import Derived.Test.YtfodpklkdecpkaaKNums
import Derived.Test.YtfodpklkdecpkaaProg
import Derived.Test.YtfodpklkdecpkaaKEvF
set_option linter.all false
noncomputable section
namespace Go.Ev
open Go.Proofs.Try
@[reducible] def oq(i:Nat)(o:O)(r:PO):PO := .one ⟨some i,o,none⟩ r
@[reducible] def oz(o:O)(r:PO):PO := .one ⟨none,o,none⟩ r
@[reducible] def zt8:List D:=[.int .i64 0,.bool false,.bool false,.sl .full 0 [],.int .i64 0,.str [],.sl .full 0 [],.sl .full 0 []]
@[reducible] def kf:X := .k (.bool false)
@[reducible] def kt:X := .k (.bool true)
@[reducible] def ki(i:Int):X := .k (.int .i64 i)
@[reducible] def om(i j:Nat)(r:PO):PO := .one ⟨some i,.mv (.s j),none⟩ r
@[reducible] def ol(i j:Nat)(r:PO):PO := .one ⟨some i,.load false 1 (.s j),none⟩ r
@[reducible] def nm(i j:Nat):OpC:=⟨some i,.mv (.s j),none⟩
@[reducible] def nq(i:Nat)(o:O):OpC:=⟨some i,o,none⟩
def k_law03_IeeeSame:=kl [[0,1],[0,1,5],[0,1,5,6],[4]]
def d_law03_IeeeSame:=kd []
noncomputable def c_law03_IeeeSame:C:=cd prog f3 k_law03_IeeeSame d_law03_IeeeSame
def q_law03_IeeeSame:PC:=
 ann [] c_law03_IeeeSame .n
def p_law03_IeeeSame:PFn:=⟨[.tmp 4],q_law03_IeeeSame,false⟩
def n_law03_IeeeSame:Fn:=nf 2 p_law03_IeeeSame
def k_math_IsNaN:=kl [[0],[2]]
def d_math_IsNaN:=kd []
noncomputable def c_math_IsNaN:C:=cd prog f4 k_math_IsNaN d_math_IsNaN
def q_math_IsNaN:PC:=
 ann [] c_math_IsNaN .n
def p_math_IsNaN:PFn:=⟨[.tmp 2],q_math_IsNaN,false⟩
def n_math_IsNaN:Fn:=nf 1 p_math_IsNaN
def k_math_Copysign:=kl [[0,1],[4]]
def d_math_Copysign:=kd []
noncomputable def c_math_Copysign:C:=cd prog f5 k_math_Copysign d_math_Copysign
def q_math_Copysign:PC:=
 ann [] c_math_Copysign .n
def p_math_Copysign:PFn:=⟨[.tmp 4],q_math_Copysign,false⟩
def n_math_Copysign:Fn:=nf 2 p_math_Copysign
def k_ieee_Same:=kl [[0,1],[4]]
def d_ieee_Same:=kd []
noncomputable def c_ieee_Same:C:=cd prog f6 k_ieee_Same d_ieee_Same
def q_ieee_Same:PC:=
 ann [] c_ieee_Same .n
def p_ieee_Same:PFn:=⟨[.tmp 4],q_ieee_Same,false⟩
def n_ieee_Same:Fn:=nf 2 p_ieee_Same
def k_math_NaN:=kl [[],[0]]
def d_math_NaN:=kd []
noncomputable def c_math_NaN:C:=cd prog f8 k_math_NaN d_math_NaN
def q_math_NaN:PC:=
 ann [] c_math_NaN .n
def p_math_NaN:PFn:=⟨[.tmp 0],q_math_NaN,false⟩
def n_math_NaN:Fn:=nf 0 p_math_NaN
def k_math_Inf:=kl [[0],[0],[5],[3],[3],[2]]
def d_math_Inf:=kd []
noncomputable def c_math_Inf:C:=cd prog f9 k_math_Inf d_math_Inf
def q_math_Inf:PC:=
 ann [] c_math_Inf (.s 1 (.l (.c ⟨[(0,.same)],[]⟩ [(.nrm,⟨[(3,.v)],[]⟩)] .n)))
def p_math_Inf:PFn:=⟨[.tmp 2],q_math_Inf,false⟩
def n_math_Inf:Fn:=nf 1 p_math_Inf
def k_law03_awake:=kl [[],[1,2],[1,2,3],[1,2,7],[0]]
def d_law03_awake:=kd []
noncomputable def c_law03_awake:C:=cd prog f10 k_law03_awake d_law03_awake
def q_law03_awake:PC:=
 ann [] c_law03_awake .n
def p_law03_awake:PFn:=⟨[.tmp 0],q_law03_awake,false⟩
def n_law03_awake:Fn:=nf 0 p_law03_awake
def k_ieee_Exact:=kl [[0,1,4],[0,1,4,14],[4,5],[0,1,4,14,16],[4,5],[0,1,4,19],[1,4,6],[4,6,8,9,10],[4,6,8,9,10,34],[4,6,8,9,10],[4,6,8,9,10],[4,8,10,11],[4,8,10,11,47],[4,5],[4,8,10,11,59],[4,8,10,11],[4,8,10,11],[4,8,10,11,65],[4,5],[4,5]]
def d_ieee_Exact:=kd []
noncomputable def c_ieee_Exact:C:=cd prog f12 k_ieee_Exact d_ieee_Exact
def q_ieee_Exact:PC:=
 ann [] c_ieee_Exact (.s 3 (.b (.c ⟨[(4,.same),(6,.same),(8,.same),(9,.v),(10,.v)],[.same,.same]⟩ [(.nrm,⟨[(4,.same),(6,.same),(8,.same),(9,.v),(10,.v)],[.same,.same]⟩)] .n) (.s 1 (.l (.l (.o ⟨[(4,.same),(8,.same),(10,.v),(11,.v)],[(.cells [.v,.v,.v]),.same]⟩ [(.ext 1,⟨[(4,.same),(8,.same),(10,.v),(11,.v)],[(.box 3),.same]⟩),(.ret,⟨[(4,.same),(5,.v)],[(.box 3),.same]⟩)] .n))))))
def p_ieee_Exact:PFn:=⟨[.cell 4 true 3,.tmp 5],q_ieee_Exact,false⟩
def n_ieee_Exact:Fn:=nf 2 p_ieee_Exact
def k_ref02_Make:=kl [[0,1,2,6],[0,2,6,8,9],[0,2,6,8,9,17],[6,7],[0,2,6,8,9,45],[6,7],[6,7]]
def d_ref02_Make:=kd []
noncomputable def c_ref02_Make:C:=cd prog f13 k_ref02_Make d_ref02_Make
def q_ref02_Make:PC:=
 ann [] c_ref02_Make .n
def p_ref02_Make:PFn:=⟨[.cell 6 true 3,.tmp 7],q_ref02_Make,false⟩
def n_ref02_Make:Fn:=nf 3 p_ref02_Make
def k_ieee_Shortest:=kl [[1],[1,9,10,11],[1,9,10,11,12],[1,6,9,10,11],[1,6,7,8,9,10,11],[1,6,7,9,10,11,21],[2,3,4],[1,9,10,11],[2,3,4]]
def d_ieee_Shortest:=kd []
noncomputable def c_ieee_Shortest:C:=cd prog f14 k_ieee_Shortest d_ieee_Shortest
def q_ieee_Shortest:PC:=
 ann [(1,3)] c_ieee_Shortest (.s 0 (.l (.s 0 (.l (.o ⟨[(1,.same),(9,.same),(10,.same),(11,.v)],[.same]⟩ [(.ext 0,⟨[],[.same]⟩),(.ret,⟨[(2,.v),(3,.v),(4,.v)],[.same]⟩)] .n)))))
def p_ieee_Shortest:PFn:=⟨[.tmp 2,.tmp 3,.tmp 4],q_ieee_Shortest,false⟩
def n_ieee_Shortest:Fn:=nf 1 p_ieee_Shortest
def k_ieee_Kind:=kl [[0,1],[1,5,6],[1,5,16],[4],[5,8,9],[5,8,9,24],[4],[8,9,35],[4],[42],[4],[4]]
def d_ieee_Kind:=kd []
noncomputable def c_ieee_Kind:C:=cd prog f15 k_ieee_Kind d_ieee_Kind
def q_ieee_Kind:PC:=
 ann [] c_ieee_Kind .n
def p_ieee_Kind:PFn:=⟨[.tmp 4],q_ieee_Kind,false⟩
def n_ieee_Kind:Fn:=nf 2 p_ieee_Kind
def k_ieee_of:=kl [[0,2],[2,4],[2,4,5],[2,3],[2,4,8],[2,3],[2,11],[2,3],[2,3]]
def d_ieee_of:=kd []
noncomputable def c_ieee_of:C:=cd prog f16 k_ieee_of d_ieee_of
def q_ieee_of:PC:=
 ann [] c_ieee_of .n
def p_ieee_of:PFn:=⟨[.cell 2 true 2,.tmp 3],q_ieee_of,false⟩
def n_ieee_of:Fn:=nf 1 p_ieee_of
def k_ieee_form_cut:=kl [[1,2],[4,5,6]]
def d_ieee_form_cut:=kd [(1,[],[],[0,1,2,3,4,5,6,7,8,9,10,11,12,13,14,15,16,17,18,19,20,21,22,23,24,25,26],[])]
noncomputable def c_ieee_form_cut:C:=cd prog f17 k_ieee_form_cut d_ieee_form_cut
def q_ieee_form_cut:PC:=
 ann [(2,2)] c_ieee_form_cut .n
def p_ieee_form_cut:PFn:=⟨[.tmp 4,.tmp 5,.tmp 6],q_ieee_form_cut,false⟩
def n_ieee_form_cut:Fn:=nf 2 p_ieee_form_cut
def k_ieee_form_least:=kl [[1],[2]]
def d_ieee_form_least:=kd [(1,[],[],[0,1,2,3,4],[])]
noncomputable def c_ieee_form_least:C:=cd prog f18 k_ieee_form_least d_ieee_form_least
def q_ieee_form_least:PC:=
 ann [(1,2)] c_ieee_form_least .n
def p_ieee_form_least:PFn:=⟨[.tmp 2],q_ieee_form_least,false⟩
def n_ieee_form_least:Fn:=nf 1 p_ieee_form_least
def k_num_Make:=kl [[0,1,2,6],[0,1,2,6,8],[0,1,2,6,8,14],[6,7],[0,1,2,6,8,19],[6,7],[6,7]]
def d_num_Make:=kd []
noncomputable def c_num_Make:C:=cd prog f19 k_num_Make d_num_Make
def q_num_Make:PC:=
 ann [] c_num_Make .n
def p_num_Make:PFn:=⟨[.cell 6 true 3,.tmp 7],q_num_Make,false⟩
def n_num_Make:Fn:=nf 3 p_num_Make
def k_nat_Mul:=kl [[0,1],[0,1,5],[1,5,17,18,19],[1,5,17,18,19,20],[1,5,6,7,17,18,19],[1,5,6,7,17,18,19,25],[1,5,6,7,8,17,18,19],[1,5,6,7,8,17,18,19,26,27,28],[1,5,6,7,8,17,18,19,26,27,28,29],[1,5,6,7,8,9,10,17,18,19,26,27,28],[1,5,6,7,8,9,17,18,19,26,27,28],[1,5,6,7,8,17,18,19,26,27,28],[1,5,6,7,8,17,18,19,26,27,28],[1,5,6,7,8,17,18,19,26,27,28],[1,5,17,18,19],[1,5,17,18,19],[4]]
def d_nat_Mul:=kd []
noncomputable def c_nat_Mul:C:=cd prog f20 k_nat_Mul d_nat_Mul
def q_nat_Mul:PC:=
 ann [] c_nat_Mul (.s 2 (.l (.s 0 (.l (.o ⟨[(1,.same),(5,.same),(17,.same),(18,.same),(19,.v)],[(.arr .no 1)]⟩ [(.ext 0,⟨[(5,.same)],[(.arr .no 1)]⟩)] (.s 1 (.l (.l (.s 2 (.l (.s 0 (.l (.o ⟨[(1,.same),(5,.same),(17,.same),(18,.same),(19,.same),(6,.same),(7,.same),(8,.v),(26,.same),(27,.same),(28,.v)],[(.arr .no 1)]⟩ [(.ext 2,⟨[(1,.same),(5,.same),(17,.same),(18,.same),(19,.same),(6,.same),(8,.v)],[(.arr .no 1)]⟩)] .n)))))))))))))
def p_nat_Mul:PFn:=⟨[.tmp 4],q_nat_Mul,false⟩
def n_nat_Mul:Fn:=nf 2 p_nat_Mul
def k_ieee_limbs:=kl [[0],[2]]
def d_ieee_limbs:=kd []
noncomputable def c_ieee_limbs:C:=cd prog f21 k_ieee_limbs d_ieee_limbs
def q_ieee_limbs:PC:=
 ann [] c_ieee_limbs .n
def p_ieee_limbs:PFn:=⟨[.tmp 2],q_ieee_limbs,false⟩
def n_ieee_limbs:Fn:=nf 1 p_ieee_limbs
def k_nat_Pow:=kl [[0,1],[0,1,5],[1,5,6],[1,5,6],[1,5,6,15],[1,5,6],[1,5,6,20],[1,5,6],[1,5,6],[4]]
def d_nat_Pow:=kd []
noncomputable def c_nat_Pow:C:=cd prog f22 k_nat_Pow d_nat_Pow
def q_nat_Pow:PC:=
 ann [] c_nat_Pow (.s 2 (.l (.s 0 (.l (.o ⟨[(1,.v),(5,.v),(6,.v)],[]⟩ [(.ext 0,⟨[(5,.v)],[]⟩)] (.s 0 (.l (.c ⟨[(1,.same),(5,.v),(6,.v)],[]⟩ [(.nrm,⟨[(1,.same),(5,.v),(6,.v)],[]⟩)] (.l (.l (.c ⟨[(1,.same),(5,.v),(6,.same)],[]⟩ [(.nrm,⟨[(1,.same),(5,.v),(6,.same)],[]⟩)] .n)))))))))))
def p_nat_Pow:PFn:=⟨[.tmp 4],q_nat_Pow,false⟩
def n_nat_Pow:Fn:=nf 2 p_nat_Pow
def k_ref01_Trim:=kl [[0],[4],[4,5],[4,5,12],[4,5,6,7],[4,5,6,19],[4,5],[4,5],[2,3]]
def d_ref01_Trim:=kd []
noncomputable def c_ref01_Trim:C:=cd prog f23 k_ref01_Trim d_ref01_Trim
def q_ref01_Trim:PC:=
 ann [] c_ref01_Trim (.s 2 (.l (.l (.o ⟨[(4,.v),(5,.v)],[]⟩ [(.ext 0,⟨[(4,.v),(5,.v)],[]⟩)] .n))))
def p_ref01_Trim:PFn:=⟨[.tmp 2,.tmp 3],q_ref01_Trim,false⟩
def n_ref01_Trim:Fn:=nf 1 p_ref01_Trim
def k_ieee_To:=kl [[0,3],[3,6,7],[3,6,7,26],[3,6,7],[3,6,7,35],[4,5],[3,6,8,9],[3,6,8,9,45],[3,6,8,9],[3,6,8,58],[4,5],[3,6,8,10],[3,6,8,11,12],[3,6,8,11,12,89],[4,5],[3,6,8,11,12,13],[3,6,8,11,12,13,96],[3,6,11,12,13],[3,6,11,12,13,14],[3,6,11,12,13,14,112],[3,6,13],[3,6,13],[6,13,138],[13],[4,5]]
def d_ieee_To:=kd [(6,[],[],[0,1,2,3,4],[]),(8,[],[],[0,1,2,3,4,5,6,7,8,9,10],[]),(12,[],[],[0,1,2,3,4,5],[]),(20,[],[],[0,1,2,3,4,5,6,7,8,9,10,11,12,13,14,15,16],[])]
noncomputable def c_ieee_To:C:=cd prog f24 k_ieee_To d_ieee_To
def q_ieee_To:PC:=
 ann [(3,3)] c_ieee_To (.s 1 (.b (.c ⟨[(3,.same),(6,.same),(7,.same)],[(.box 3),.same]⟩ [(.nrm,⟨[(3,.same),(6,.same),(7,.same)],[(.cells [.v,.v,.v]),.same]⟩)] .n) (.s 1 (.b (.c ⟨[(3,.same),(6,.same),(8,.v),(9,.v)],[.same,.same]⟩ [(.nrm,⟨[(3,.same),(6,.same),(8,.v),(9,.v)],[.same,.same]⟩)] .n) (.s 4 (.b (.c ⟨[(3,.same),(6,.same),(8,.same),(11,.same),(12,.same),(13,.v)],[.same,.same]⟩ [(.nrm,⟨[(3,.same),(6,.same),(11,.same),(12,.same),(13,.v)],[.same,.same]⟩)] .n) (.s 0 (.b (.c ⟨[(3,.same),(6,.same),(11,.same),(12,.same),(13,.v),(14,.same)],[.same,.same]⟩ [(.nrm,⟨[(3,.same),(6,.same),(13,.v)],[.same,.same]⟩)] .n) (.l (.c ⟨[(3,.same),(6,.same),(13,.v)],[.same,.same]⟩ [(.nrm,⟨[(13,.v)],[.same,.same]⟩)] .n))))))))))
def p_ieee_To:PFn:=⟨[.tmp 4,.tmp 5],q_ieee_To,false⟩
def n_ieee_To:Fn:=nf 2 p_ieee_To
def k_ieee_form_bias:=kl [[1],[2]]
def d_ieee_form_bias:=kd []
noncomputable def c_ieee_form_bias:C:=cd prog f25 k_ieee_form_bias d_ieee_form_bias
def q_ieee_form_bias:PC:=
 ann [(1,2)] c_ieee_form_bias .n
def p_ieee_form_bias:PFn:=⟨[.tmp 2],q_ieee_form_bias,false⟩
def n_ieee_form_bias:Fn:=nf 1 p_ieee_form_bias
def k_nat_Trim:=kl [[0],[0],[0,4],[0,4,11],[0,4,5,6],[0,4,5,18],[0,4],[0,4],[2,3]]
def d_nat_Trim:=kd []
noncomputable def c_nat_Trim:C:=cd prog f26 k_nat_Trim d_nat_Trim
def q_nat_Trim:PC:=
 ann [] c_nat_Trim (.s 3 (.l (.l (.o ⟨[(0,.v),(4,.v)],[]⟩ [(.ext 0,⟨[(0,.v),(4,.v)],[]⟩)] .n))))
def p_nat_Trim:PFn:=⟨[.tmp 2,.tmp 3],q_nat_Trim,false⟩
def n_nat_Trim:Fn:=nf 1 p_nat_Trim
def k_nat_Norm:=kl [[0],[0,3],[0,3,16],[0,3],[0,3,20],[2],[0,4],[4],[2]]
def d_nat_Norm:=kd []
noncomputable def c_nat_Norm:C:=cd prog f27 k_nat_Norm d_nat_Norm
def q_nat_Norm:PC:=
 ann [] c_nat_Norm (.s 1 (.l (.l (.o ⟨[(0,.same),(3,.v)],[]⟩ [(.ext 0,⟨[(0,.same),(3,.v)],[]⟩)] .n))))
def p_nat_Norm:PFn:=⟨[.tmp 2],q_nat_Norm,false⟩
def n_nat_Norm:Fn:=nf 1 p_nat_Norm
def k_ref01_Norm:=kl [[0],[0,3],[0,3,15],[0,3],[2]]
def d_ref01_Norm:=kd []
noncomputable def c_ref01_Norm:C:=cd prog f28 k_ref01_Norm d_ref01_Norm
def q_ref01_Norm:PC:=
 ann [] c_ref01_Norm (.s 1 (.l (.l (.o ⟨[(0,.same),(3,.v)],[]⟩ [(.ext 0,⟨[(0,.same),(3,.v)],[]⟩)] .n))))
def p_ref01_Norm:PFn:=⟨[.tmp 2],q_ref01_Norm,false⟩
def n_ref01_Norm:Fn:=nf 1 p_ref01_Norm
def k_ref01_Small:=kl [[0,1],[0,1,6],[0,1,6,7],[0,1,6,7,8],[0,1,6,7,8,16],[0,1,6,7,8],[0,1,6,7,8],[0,1,6,7,8],[0,1,6,7,8],[4,5]]
def d_ref01_Small:=kd []
noncomputable def c_ref01_Small:C:=cd prog f29 k_ref01_Small d_ref01_Small
def q_ref01_Small:PC:=
 ann [] c_ref01_Small (.s 2 (.l (.s 0 (.l (.o ⟨[(0,.same),(1,.same),(6,.same),(7,.v),(8,.v)],[(.arr .no 1)]⟩ [(.ext 0,⟨[(6,.same),(7,.v)],[(.arr .no 1)]⟩)] .n)))))
def p_ref01_Small:PFn:=⟨[.tmp 4,.tmp 5],q_ref01_Small,false⟩
def n_ref01_Small:Fn:=nf 2 p_ref01_Small
def k_num_Check:=kl [[1],[1,3],[1,3,10],[2],[1,39],[2],[5],[2]]
def d_num_Check:=kd []
noncomputable def c_num_Check:C:=cd prog f30 k_num_Check d_num_Check
def q_num_Check:PC:=
 ann [(1,3)] c_num_Check .n
def p_num_Check:PFn:=⟨[.tmp 2],q_num_Check,false⟩
def n_num_Check:Fn:=nf 1 p_num_Check
def k_nat_Div:=kl [[0,1,5],[0,1,5],[0,1,5,13],[0,1,5,13,14],[4,5],[0,1,5,16],[6,7],[4,5],[0,1,5,8],[0,1,5,8,9],[0,1,5,8,9,37],[0,1,5,8,9],[0,1,5,8,9],[0,1,5,8,9,54],[0,1,5,8,9],[0,1,5,8,9],[4,5]]
def d_nat_Div:=kd [(15,[],[],[0,1,2,3,4,5,6,7],[])]
noncomputable def c_nat_Div:C:=cd prog f31 k_nat_Div d_nat_Div
def q_nat_Div:PC:=
 ann [] c_nat_Div (.s 3 (.l (.s 0 (.l (.o ⟨[(0,.same),(1,.same),(5,.v),(8,.same),(9,.v)],[(.arr .no 1)]⟩ [(.ext 1,⟨[(5,.v),(8,.same)],[(.arr .no 1)]⟩)] .n)))))
def p_nat_Div:PFn:=⟨[.tmp 4,.tmp 5],q_nat_Div,false⟩
def n_nat_Div:Fn:=nf 2 p_nat_Div
def k_ieee_odd:=kl [[0],[0,4],[0,4,8],[0,4],[0,4],[0,4,17],[0,4],[0,4],[2,3]]
def d_ieee_odd:=kd []
noncomputable def c_ieee_odd:C:=cd prog f32 k_ieee_odd d_ieee_odd
def q_ieee_odd:PC:=
 ann [] c_ieee_odd (.s 1 (.b (.l (.o ⟨[(0,.v),(4,.v)],[]⟩ [(.ext 0,⟨[(0,.v),(4,.v)],[]⟩)] .n)) (.l (.l (.o ⟨[(0,.v),(4,.v)],[]⟩ [(.ext 2,⟨[(0,.v),(4,.v)],[]⟩)] .n)))))
def p_ieee_odd:PFn:=⟨[.tmp 2,.tmp 3],q_ieee_odd,false⟩
def n_ieee_odd:Fn:=nf 1 p_ieee_odd
def k_nat_Bits:=kl [[0],[0,3],[0,3,15],[0,3],[0,3,19],[2],[2]]
def d_nat_Bits:=kd []
noncomputable def c_nat_Bits:C:=cd prog f33 k_nat_Bits d_nat_Bits
def q_nat_Bits:PC:=
 ann [] c_nat_Bits (.s 1 (.l (.l (.o ⟨[(0,.same),(3,.v)],[]⟩ [(.ext 0,⟨[(0,.same),(3,.v)],[]⟩)] .n))))
def p_nat_Bits:PFn:=⟨[.tmp 2],q_nat_Bits,false⟩
def n_nat_Bits:Fn:=nf 1 p_nat_Bits
def k_nat_small:=kl [[0,1],[0,1,6],[0,1,6,7],[0,1,6,7,8],[0,1,6,7,8,16],[0,1,6,7,8],[0,1,6,7,8],[0,1,6,7,8],[0,1,6,7,8],[4,5]]
def d_nat_small:=kd []
noncomputable def c_nat_small:C:=cd prog f34 k_nat_small d_nat_small
def q_nat_small:PC:=
 ann [] c_nat_small (.s 2 (.l (.s 0 (.l (.o ⟨[(0,.same),(1,.same),(6,.same),(7,.v),(8,.v)],[(.arr .no 1)]⟩ [(.ext 0,⟨[(6,.same),(7,.v)],[(.arr .no 1)]⟩)] .n)))))
def p_nat_small:PFn:=⟨[.tmp 4,.tmp 5],q_nat_small,false⟩
def n_nat_small:Fn:=nf 2 p_nat_small
def k_nat_up:=kl [[0,1],[0,1,5],[1,5,14,15,16],[1,5,14,15,16,17],[1,5,6,7,14,15,16],[5,7,14,15,16],[1,5,14,15,16],[1,5,14,15,16],[4]]
def d_nat_up:=kd []
noncomputable def c_nat_up:C:=cd prog f35 k_nat_up d_nat_up
def q_nat_up:PC:=
 ann [] c_nat_up (.s 1 (.l (.s 0 (.l (.o ⟨[(1,.v),(5,.same),(14,.same),(15,.same),(16,.v)],[(.arr .no 1)]⟩ [(.ext 0,⟨[(1,.v),(5,.same)],[(.arr .no 1)]⟩)] .n)))))
def p_nat_up:PFn:=⟨[.tmp 4],q_nat_up,false⟩
def n_nat_up:Fn:=nf 2 p_nat_up
def k_nat_Cmp:=kl [[0,1],[0,1,5],[0,1,5,14],[0,1,5],[0,1,5,6],[0,1,5,6,25],[4],[4]]
def d_nat_Cmp:=kd []
noncomputable def c_nat_Cmp:C:=cd prog f36 k_nat_Cmp d_nat_Cmp
def q_nat_Cmp:PC:=
 ann [] c_nat_Cmp (.s 0 (.l (.s 0 (.l (.o ⟨[(0,.same),(1,.same),(5,.v)],[]⟩ [(.ext 0,⟨[],[]⟩),(.ret,⟨[(4,.v)],[]⟩)] .n)))))
def p_nat_Cmp:PFn:=⟨[.tmp 4],q_nat_Cmp,false⟩
def n_nat_Cmp:Fn:=nf 2 p_nat_Cmp
def k_nat_Sub:=kl [[0,1],[0,1,12],[4],[0,1,5],[0,1,5,6],[0,1,5,6,17,18],[0,1,5,6,17,18,19],[0,1,5,6,7,17,18],[0,1,5,8,17,18],[0,1,5,8,17,18],[0,1,5,6,17,18],[0,1,5,6,17,18],[4]]
def d_nat_Sub:=kd []
noncomputable def c_nat_Sub:C:=cd prog f37 k_nat_Sub d_nat_Sub
def q_nat_Sub:PC:=
 ann [] c_nat_Sub (.s 3 (.l (.s 0 (.l (.o ⟨[(0,.same),(1,.same),(5,(.own 1)),(6,.v),(17,.same),(18,.v)],[]⟩ [(.ext 0,⟨[(5,(.own 1))],[]⟩)] .n)))))
def p_nat_Sub:PFn:=⟨[.tmp 4],q_nat_Sub,false⟩
def n_nat_Sub:Fn:=nf 2 p_nat_Sub
def k_math_bits_Len32:=kl [[0,2],[0,2,4],[0],[0,2],[0,2,8],[0,2],[0,2],[2]]
def d_math_bits_Len32:=kd []
noncomputable def c_math_bits_Len32:C:=cd prog f38 k_math_bits_Len32 d_math_bits_Len32
def q_math_bits_Len32:PC:=
 ann [] c_math_bits_Len32 (.s 0 (.b (.c ⟨[(0,.v),(2,.v)],[]⟩ [(.nrm,⟨[(0,.v),(2,.v)],[]⟩)] .n) (.l (.c ⟨[(0,.v),(2,.v)],[]⟩ [(.nrm,⟨[(0,.v),(2,.v)],[]⟩)] .n))))
def p_math_bits_Len32:PFn:=⟨[.tmp 2],q_math_bits_Len32,false⟩
def n_math_bits_Len32:Fn:=nf 1 p_math_bits_Len32
def k_cmp_Compare_uint64:=kl [[0,1],[0,1,5],[0,1,5,6],[0,1,6,11],[12],[4],[4],[0,1,13],[4],[0,1,16],[4],[19],[4],[4]]
def d_cmp_Compare_uint64:=kd []
noncomputable def c_cmp_Compare_uint64:C:=cd prog f39 k_cmp_Compare_uint64 d_cmp_Compare_uint64
def q_cmp_Compare_uint64:PC:=
 ann [] c_cmp_Compare_uint64 .n
def p_cmp_Compare_uint64:PFn:=⟨[.tmp 4],q_cmp_Compare_uint64,false⟩
def n_cmp_Compare_uint64:Fn:=nf 2 p_cmp_Compare_uint64
def k_nat_at:=kl [[0,1],[0,1,8],[4],[4]]
def d_nat_at:=kd []
noncomputable def c_nat_at:C:=cd prog f40 k_nat_at d_nat_at
def q_nat_at:PC:=
 ann [] c_nat_at .n
def p_nat_at:PFn:=⟨[.tmp 4],q_nat_at,false⟩
def n_nat_at:Fn:=nf 2 p_nat_at
def k_cmp_isNaN_uint64:=kl [[0],[2]]
def d_cmp_isNaN_uint64:=kd []
noncomputable def c_cmp_isNaN_uint64:C:=cd prog f41 k_cmp_isNaN_uint64 d_cmp_isNaN_uint64
def q_cmp_isNaN_uint64:PC:=
 ann [] c_cmp_isNaN_uint64 .n
def p_cmp_isNaN_uint64:PFn:=⟨[.tmp 2],q_cmp_isNaN_uint64,false⟩
def n_cmp_isNaN_uint64:Fn:=nf 1 p_cmp_isNaN_uint64
def tab0:Nat->Nat->Option PFn:=fun f k=>(match f with | 3=>some p_law03_IeeeSame | 4=>some p_math_IsNaN | 5=>some p_math_Copysign | 6=>some p_ieee_Same | 8=>some p_math_NaN | 9=>some p_math_Inf | 10=>some p_law03_awake | 12=>some p_ieee_Exact | 13=>some p_ref02_Make | 14=>some p_ieee_Shortest | 15=>some p_ieee_Kind | 16=>some p_ieee_of | 17=>some p_ieee_form_cut | 18=>some p_ieee_form_least | 19=>some p_num_Make | 20=>some p_nat_Mul | 21=>some p_ieee_limbs | 22=>some p_nat_Pow | 23=>some p_ref01_Trim | 24=>some p_ieee_To | 25=>some p_ieee_form_bias | 26=>some p_nat_Trim | 27=>some p_nat_Norm | 28=>some p_ref01_Norm | 29=>some p_ref01_Small | 30=>some p_num_Check | 31=>some p_nat_Div | 32=>some p_ieee_odd | 33=>some p_nat_Bits | 34=>some p_nat_small | 35=>some p_nat_up | 36=>some p_nat_Cmp | 37=>some p_nat_Sub | 38=>some p_math_bits_Len32 | 39=>some p_cmp_Compare_uint64 | 40=>some p_nat_at | 41=>some p_cmp_isNaN_uint64 | _=>none)
def fnTab:List (Nat×Fn):=[(f_law03_IeeeSame,n_law03_IeeeSame),(f_math_IsNaN,n_math_IsNaN),(f_math_Copysign,n_math_Copysign),(f_ieee_Same,n_ieee_Same),(f_math_NaN,n_math_NaN),(f_math_Inf,n_math_Inf),(f_law03_awake,n_law03_awake),(f_ieee_Exact,n_ieee_Exact),(f_ref02_Make,n_ref02_Make),(f_ieee_Shortest,n_ieee_Shortest),(f_ieee_Kind,n_ieee_Kind),(f_ieee_of,n_ieee_of),(f_ieee_form_cut,n_ieee_form_cut),(f_ieee_form_least,n_ieee_form_least),(f_num_Make,n_num_Make),(f_nat_Mul,n_nat_Mul),(f_ieee_limbs,n_ieee_limbs),(f_nat_Pow,n_nat_Pow),(f_ref01_Trim,n_ref01_Trim),(f_ieee_To,n_ieee_To),(f_ieee_form_bias,n_ieee_form_bias),(f_nat_Trim,n_nat_Trim),(f_nat_Norm,n_nat_Norm),(f_ref01_Norm,n_ref01_Norm),(f_ref01_Small,n_ref01_Small),(f_num_Check,n_num_Check),(f_nat_Div,n_nat_Div),(f_ieee_odd,n_ieee_odd),(f_nat_Bits,n_nat_Bits),(f_nat_small,n_nat_small),(f_nat_up,n_nat_up),(f_nat_Cmp,n_nat_Cmp),(f_nat_Sub,n_nat_Sub),(f_math_bits_Len32,n_math_bits_Len32),(f_cmp_Compare_uint64,n_cmp_Compare_uint64),(f_nat_at,n_nat_at),(f_cmp_isNaN_uint64,n_cmp_isNaN_uint64)]
def dfTab:List (Nat×List X×Fn):=[]
def ex0:Nat->Option Told:=fun f=>(match f with | 7=>some (.fn exF64b) | 11=>some (.fn exF64f) | _=>none)
def E0:Env:=⟨look fnTab,fun _=>none,ex0,lookQ dfTab⟩
def md0:Nat->Md:=fun f=>(match f with | _ => .pl)
def tx0:Nat->Option (List V->Option V):=fun f=>(match f with | 7=>some txF64b | 11=>some txF64f | _=>none)
def gl0:Gl:=⟨fun _=>none,md0,tx0⟩
def P0:PcT:=pcL gl0 tab0
end Go.Ev
end
