/- What the functions compute. -/
import Derived.Test.YtfodpklkdecpkaaKCode
import Derived.KernelRfl
set_option linter.all false
noncomputable section
namespace Go.Ev
def F_law03_IeeeSame(a0:V)(a1:V):Option (V×List V):=
(P0 f_math_IsNaN [.v a0] []).bind fun r1=>(asBool r1.1).bind fun b2=>((if b2=true then
(
  P0 f_math_IsNaN [.v a1] []).bind fun r3=>
  some r3.1
else some (.bool false):Option V)).bind fun x4=>(P0 f_math_Copysign [.v (.float .f64 0),.v (.float .f64 13830554455654793216)] []).bind fun r5=>(P0 f_ieee_Same [.v a0,.v a1] []).bind fun r6=>(asBool x4).bind fun b7=>((if b7=false then
(P0 f_math_Float64bits [.v a0] []).bind fun r8=>(P0 f_math_Float64bits [.v a1] []).bind fun r9=>(
  binV .eql r8.1 r9.1).bind fun x10=>
  some x10
else some (.bool true):Option V)).bind fun x11=>(asBool r6.1).bind fun b12=>(asBool x11).bind fun b13=>((if(b12==b13)=true then
(
  P0 f_ieee_Same [.v a0,.v a0] []).bind fun r14=>
  some r14.1
else some (.bool false):Option V)).bind fun x15=>(asBool x15).bind fun b16=>((if b16=true then
(P0 f_ieee_Same [.v r5.1,.v (.float .f64 0)] []).bind fun r17=>(
  unV .not r17.1).bind fun x18=>
  some x18
else some (.bool false):Option V)).bind fun x19=>(asBool x19).bind fun b20=>((if b20=true then
(P0 f_math_NaN [] []).bind fun r21=>(P0 f_math_NaN [] []).bind fun r22=>(
  P0 f_ieee_Same [.v r21.1,.v r22.1] []).bind fun r23=>
  some r23.1
else some (.bool false):Option V)).bind fun x24=>(asBool x24).bind fun b25=>((if b25=true then
(P0 f_math_Inf [.v (.int .i64 1)] []).bind fun r26=>(P0 f_math_Inf [.v (.int .i64 (-1))] []).bind fun r27=>(P0 f_ieee_Same [.v r26.1,.v r27.1] []).bind fun r28=>(
  unV .not r28.1).bind fun x29=>
  some x29
else some (.bool false):Option V)).bind fun x30=>(asBool x30).bind fun b31=>((if b31=true then
(
  P0 f_law03_awake [] []).bind fun r32=>
  some r32.1
else some (.bool false):Option V)).bind fun x33=>some (x33,[])
theorem eq_law03_IeeeSame(a0:V)(a1:V):P0 f_law03_IeeeSame [.v a0,.v a1] []=F_law03_IeeeSame a0 a1:=
 pq (fn:=p_law03_IeeeSame) (by kernel_rfl) (by kernel_rfl)
def F_math_IsNaN(a0:V):Option (V×List V):=
(
  binV .neq a0 a0).bind fun x1=>
  some (x1,[])
theorem eq_math_IsNaN(a0:V):P0 f_math_IsNaN [.v a0] []=F_math_IsNaN a0:=
 pq (fn:=p_math_IsNaN) (by kernel_rfl) (by kernel_rfl)
def F_math_Copysign(a0:V)(a1:V):Option (V×List V):=
(P0 f_math_Float64bits [.v a0] []).bind fun r1=>(binV .andNot r1.1 (.int .u64 9223372036854775808)).bind fun x2=>(P0 f_math_Float64bits [.v a1] []).bind fun r3=>(binV .and r3.1 (.int .u64 9223372036854775808)).bind fun x4=>(binV .or x2 x4).bind fun x5=>(
  P0 f_math_Float64frombits [.v x5] []).bind fun r6=>
  some (r6.1,[])
theorem eq_math_Copysign(a0:V)(a1:V):P0 f_math_Copysign [.v a0,.v a1] []=F_math_Copysign a0 a1:=
 pq (fn:=p_math_Copysign) (by kernel_rfl) (by kernel_rfl)
def F_ieee_Same(a0:V)(a1:V):Option (V×List V):=
(P0 f_math_IsNaN [.v a0] []).bind fun r1=>(asBool r1.1).bind fun b2=>((if b2=true then
(
  P0 f_math_IsNaN [.v a1] []).bind fun r3=>
  some r3.1
else some (.bool false):Option V)).bind fun x4=>(asBool x4).bind fun b5=>((if b5=false then
(P0 f_math_Float64bits [.v a0] []).bind fun r6=>(P0 f_math_Float64bits [.v a1] []).bind fun r7=>(
  binV .eql r6.1 r7.1).bind fun x8=>
  some x8
else some (.bool true):Option V)).bind fun x9=>some (x9,[])
theorem eq_ieee_Same(a0:V)(a1:V):P0 f_ieee_Same [.v a0,.v a1] []=F_ieee_Same a0 a1:=
 pq (fn:=p_ieee_Same) (by kernel_rfl) (by kernel_rfl)
def F_math_NaN:Option (V×List V):=
(
  P0 f_math_Float64frombits [.v (.int .u64 9221120237041090561)] []).bind fun r1=>
  some (r1.1,[])
theorem eq_math_NaN:P0 f_math_NaN [] []=F_math_NaN:=
 pq (fn:=p_math_NaN) (by kernel_rfl) (by kernel_rfl)
def F_math_Inf(a0:V):Option (V×List V):=
(((binV .geq a0 (.int .i64 0)).bind fun x1=>(
  asBool x1).bind fun b2=>
  if b2=true then
  some (0,(vec [.int .u64 9218868437227405312]))
else
 some (0,(vec [.int .u64 18442240474082181120])):Option (Nat×(Nat->V)))).bind fun o3=>(
  P0 f_math_Float64frombits [.v (o3.2 0)] []).bind fun r4=>
  some (r4.1,[])
theorem eq_math_Inf(a0:V):P0 f_math_Inf [.v a0] []=F_math_Inf a0:=
 pq (fn:=p_math_Inf) (by kernel_rfl) (by kernel_rfl)
def F_law03_awake:Option (V×List V):=
(P0 f_ieee_Exact [.v (.int .i64 16),.v (.int .u64 15360)] []).bind fun r1=>(extV r1.1 0).bind fun x2=>(
  extV r1.1 1).bind fun x3=>
  tst (okN 3 x2) ((P0 f_ref02_Make [.v (.bool false),.v (.sl [.int .u32 1]),.v (.int .i64 (-1))] []).bind fun r4=>(extV r4.1 0).bind fun x5=>(
  extV r4.1 1).bind fun x6=>
  tst (okN 3 x5) ((P0 f_ieee_Shortest [.v x5] []).bind fun r7=>(extV r7.1 0).bind fun x8=>(extV r7.1 1).bind fun x9=>(extV r7.1 2).bind fun x10=>(asBool x3).bind fun b11=>((if b11=true then
(fldV x2 1).bind fun c12=>(
  lenV c12).bind fun n13=>
  some (.bool ((n13:Int)==1))
else some (.bool false):Option V)).bind fun x14=>(asBool x14).bind fun b15=>((if b15=true then
(fldV x2 1).bind fun c16=>(asSl 1 c16).bind fun l17=>(idxV (.int .i64 0) (l17.length)).bind fun i18=>(l17[i18]?).bind fun e19=>(fldV e19 0).bind fun c20=>(
  binV .eql c20 (.int .u32 1)).bind fun x21=>
  some x21
else some (.bool false):Option V)).bind fun x22=>(asBool x22).bind fun b23=>((if b23=true then
(fldV x2 2).bind fun c24=>(
  binV .eql c24 (.int .i64 0)).bind fun x25=>
  some x25
else some (.bool false):Option V)).bind fun x26=>(asBool x26).bind fun b27=>((if b27=true then
(
  unV .not x10).bind fun x28=>
  some x28
else some (.bool false):Option V)).bind fun x29=>(asBool x29).bind fun b30=>((if b30=true then
(P0 f_ieee_Kind [.v (.int .i64 64),.v (.int .u64 9223372036854775808)] []).bind fun r31=>(
  binV .eql r31.1 (.int .i64 2)).bind fun x32=>
  some x32
else some (.bool false):Option V)).bind fun x33=>some (x33,[])))
theorem eq_law03_awake:P0 f_law03_awake [] []=F_law03_awake:=
 pq (fn:=p_law03_awake) (by kernel_rfl) (by kernel_rfl)
def L_ieee_Exact_1(x10:V)(v30:Nat->V):Option ((Nat->V) ⊕ (Nat×(Nat->V))):=
(binV .and (v30 0) (.int .u64 1)).bind fun x31=>(binV .eql x31 (.int .u64 0)).bind fun x32=>(
  asBool x32).bind fun b33=>
  if b33=true then
(binV .shr (v30 0) (.int .u64 1)).bind fun x34=>(binV .add (v30 1) (.int .i64 1)).bind fun x35=>(binV .eql x35 (.int .i64 0)).bind fun x36=>(
  asBool x36).bind fun b37=>
  if b37=true then
(P0 f_ieee_limbs [.v x34] []).bind fun r38=>(P0 f_num_Make [.v x10,.v r38.1,.v (.int .i64 0)] []).bind fun r39=>(extV r39.1 0).bind fun x40=>(
  extV r39.1 1).bind fun x41=>
  tst (okN 3 x40) (some (.inr (1,(vec [x41,x40]))))
else
 some (.inl (vec [x34,x35,(v30 2),(v30 3),(v30 4)]))
else
 some (.inr (0,(vec [(v30 0),(v30 1),.agg [(v30 2),(v30 3),(v30 4)]])))
def F_ieee_Exact(a0:V)(a1:V):Option (V×List V):=
(P0 f_ieee_Kind [.v a0,.v a1] []).bind fun r1=>(binV .eql r1.1 (.int .i64 2)).bind fun x2=>(
  asBool x2).bind fun b3=>
  if b3=true then
  some ((.tup [(.agg [.bool false,.sl [],.int .i64 0]),.bool true]),[])
else
(binV .eql r1.1 (.int .i64 1)).bind fun x4=>(
  asBool x4).bind fun b5=>
  if b5=true then
(P0 f_ieee_of [.v a0] []).bind fun r6=>(extV r6.1 0).bind fun x7=>(
  extV r6.1 1).bind fun x8=>
  tst (okN 2 x7) ((P0 f_ieee_form_cut [.v x7,.v a1] []).bind fun r9=>(extV r9.1 0).bind fun x10=>(extV r9.1 1).bind fun x11=>(extV r9.1 2).bind fun x12=>(((binV .gtr x11 (.int .i64 0)).bind fun x13=>(
  asBool x13).bind fun b14=>
  if b14=true then
(fldV x7 1).bind fun c15=>(binV .shl (.int .u64 1) c15).bind fun x16=>(binV .or x12 x16).bind fun x17=>(
  binV .sub x11 (.int .i64 1)).bind fun x18=>
  some (0,(vec [x18,x17]))
else
 some (0,(vec [x11,x12])):Option (Nat×(Nat->V)))).bind fun o19=>(P0 f_ieee_form_least [.v x7] []).bind fun r20=>(binV .add (o19.2 0) r20.1).bind fun x21=>(binV .geq x21 (.int .i64 0)).bind fun x22=>(
  asBool x22).bind fun b23=>
  if b23=true then
(P0 f_ieee_limbs [.v (o19.2 1)] []).bind fun r24=>(P0 f_nat_Pow [.v (.int .u32 2),.v x21] []).bind fun r25=>(P0 f_nat_Mul [.v r24.1,.v r25.1] []).bind fun r26=>(P0 f_num_Make [.v x10,.v r26.1,.v (.int .i64 0)] []).bind fun r27=>(extV r27.1 0).bind fun x28=>(
  extV r27.1 1).bind fun x29=>
  tst (okN 3 x28) (some ((.tup [x28,x29]),[]))
else
(
  loopL (L_ieee_Exact_1 x10) (vec [(o19.2 1),x21,.bool false,.sl [],.int .i64 0])).bind fun o42=>
  if o42.1=0 then
(P0 f_ieee_limbs [.v (o42.2 0)] []).bind fun r43=>(unV .neg (o42.2 1)).bind fun x44=>(P0 f_nat_Pow [.v (.int .u32 5),.v x44] []).bind fun r45=>(P0 f_nat_Mul [.v r43.1,.v r45.1] []).bind fun r46=>(P0 f_num_Make [.v x10,.v r46.1,.v (o42.2 1)] []).bind fun r47=>(extV r47.1 0).bind fun x48=>(
  extV r47.1 1).bind fun x49=>
  tst (okN 3 x48) (some ((.tup [x48,x49]),[]))
else
 some ((.tup [(o42.2 1),(o42.2 0)]),[]))
else
 some ((.tup [(.agg [.bool false,.sl [],.int .i64 0]),.bool false]),[])
theorem eq_ieee_Exact(a0:V)(a1:V):P0 f_ieee_Exact [.v a0,.v a1] []=F_ieee_Exact a0 a1:=
 pq (fn:=p_ieee_Exact) (by kernel_rfl) (by kernel_rfl)
def F_ref02_Make(a0:V)(a1:V)(a2:V):Option (V×List V):=
(P0 f_ref01_Trim [.v a1] []).bind fun r1=>(extV r1.1 0).bind fun x2=>(extV r1.1 1).bind fun x3=>(
  lenV x2).bind fun n4=>
  if((n4:Int)==0)=true then
  some ((.tup [(.agg [.bool false,.sl [],.int .i64 0]),.bool true]),[])
else
(lenV x2).bind fun n5=>((if(decide ((n5:Int)>90))=false then
(
  binV .lss a2 (.int .i64 (-1099511627776))).bind fun x6=>
  some x6
else some (.bool true):Option V)).bind fun x7=>(asBool x7).bind fun b8=>((if b8=false then
(
  binV .gtr a2 (.int .i64 1099511627776)).bind fun x9=>
  some x9
else some (.bool true):Option V)).bind fun x10=>(asBool x10).bind fun b11=>((if b11=false then
(
  binV .gtr x3 (.int .i64 1099511627776)).bind fun x12=>
  some x12
else some (.bool true):Option V)).bind fun x13=>(asBool x13).bind fun b14=>((if b14=false then
(binV .add a2 x3).bind fun x15=>(
  binV .lss x15 (.int .i64 (-1200))).bind fun x16=>
  some x16
else some (.bool true):Option V)).bind fun x17=>(asBool x17).bind fun b18=>((if b18=false then
(binV .add a2 x3).bind fun x19=>(
  binV .gtr x19 (.int .i64 1200)).bind fun x20=>
  some x20
else some (.bool true):Option V)).bind fun x21=>(
  asBool x21).bind fun b22=>
  if b22=true then
  some ((.tup [(.agg [.bool false,.sl [],.int .i64 0]),.bool false]),[])
else
(
  binV .add a2 x3).bind fun x23=>
  tst (okN 1 a0) ((fldV a0 0).bind fun c24=>
  tst (okN 1 x2) ((fldV x2 0).bind fun c25=>
  tst (okN 1 x23) ((fldV x23 0).bind fun c26=>
  tst (okN 3 (.agg [c24,c25,c26])) (some ((.tup [.agg [c24,c25,c26],.bool true]),[])))))
theorem eq_ref02_Make(a0:V)(a1:V)(a2:V):P0 f_ref02_Make [.v a0,.v a1,.v a2] []=F_ref02_Make a0 a1 a2:=
 pq (fn:=p_ref02_Make) (by kernel_rfl) (by kernel_rfl)
def L_ieee_Shortest_1(a0:V)(v1:Nat->V):Option ((Nat->V) ⊕ (Nat×(Nat->V))):=
(binV .lss (v1 0) (.int .i64 (((List.length (α:=V) [.int .i64 16,.int .i64 32,.int .i64 64]):Nat):Int))).bind fun x2=>(
  asBool x2).bind fun b3=>
  if b3=true then
  tst (szOk 1 [.int .i64 16,.int .i64 32,.int .i64 64]) ((idxV (v1 0) (List.length (α:=V) [.int .i64 16,.int .i64 32,.int .i64 64])).bind fun i4=>(([.int .i64 16,.int .i64 32,.int .i64 64]:List V)[i4]?).bind fun e5=>(fldV e5 0).bind fun c6=>(P0 f_ieee_To [.v c6,.v a0] []).bind fun r7=>(extV r7.1 0).bind fun x8=>(extV r7.1 1).bind fun x9=>(
  asBool x9).bind fun b10=>
  if b10=true then
  some (.inr (1,(vec [c6,x8,.bool true])))
else
(
  binV .add (v1 0) (.int .i64 1)).bind fun x11=>
  some (.inl (vec [x11])))
else
 some (.inr (0,(vec [])))
def F_ieee_Shortest(a0:V):Option (V×List V):=
 tst (okN 3 a0) ((loopL (L_ieee_Shortest_1 a0) (vec [.int .i64 0])).bind fun o12=>
 if o12.1=0 then
 some ((.tup [.int .i64 0,.int .u64 0,.bool false]),[])
else
 some ((.tup [(o12.2 0),(o12.2 1),(o12.2 2)]),[]))
theorem eq_ieee_Shortest(a0:V):P0 f_ieee_Shortest [.v a0] []=F_ieee_Shortest a0:=
 pq (fn:=p_ieee_Shortest) (by kernel_rfl) (by kernel_rfl)
def F_ieee_Kind(a0:V)(a1:V):Option (V×List V):=
(P0 f_ieee_of [.v a0] []).bind fun r1=>(extV r1.1 0).bind fun x2=>(
  extV r1.1 1).bind fun x3=>
  tst (okN 2 x2) ((unV .not x3).bind fun x4=>(
  asBool x4).bind fun b5=>
  if b5=true then
  some ((.int .i64 0),[])
else
(P0 f_ieee_form_cut [.v x2,.v a1] []).bind fun r6=>(extV r6.1 0).bind fun x7=>(extV r6.1 1).bind fun x8=>(extV r6.1 2).bind fun x9=>(fldV x2 0).bind fun c10=>(binV .shl (.int .i64 1) c10).bind fun x11=>(binV .sub x11 (.int .i64 1)).bind fun x12=>(binV .eql x8 x12).bind fun x13=>(asBool x13).bind fun b14=>((if b14=true then
(
  binV .neq x9 (.int .u64 0)).bind fun x15=>
  some x15
else some (.bool false):Option V)).bind fun x16=>(
  asBool x16).bind fun b17=>
  if b17=true then
  some ((.int .i64 4),[])
else
(fldV x2 0).bind fun c18=>(binV .shl (.int .i64 1) c18).bind fun x19=>(binV .sub x19 (.int .i64 1)).bind fun x20=>(binV .eql x8 x20).bind fun x21=>(
  asBool x21).bind fun b22=>
  if b22=true then
  some ((.int .i64 3),[])
else
(binV .eql x8 (.int .i64 0)).bind fun x23=>(asBool x23).bind fun b24=>((if b24=true then
(
  binV .eql x9 (.int .u64 0)).bind fun x25=>
  some x25
else some (.bool false):Option V)).bind fun x26=>(
  asBool x26).bind fun b27=>
  if b27=true then
  some ((.int .i64 2),[])
else
 some ((.int .i64 1),[]))
theorem eq_ieee_Kind(a0:V)(a1:V):P0 f_ieee_Kind [.v a0,.v a1] []=F_ieee_Kind a0 a1:=
 pq (fn:=p_ieee_Kind) (by kernel_rfl) (by kernel_rfl)
def F_ieee_of(a0:V):Option (V×List V):=
(binV .eql a0 (.int .i64 16)).bind fun x1=>(
  asBool x1).bind fun b2=>
  if b2=true then
  some ((.tup [.agg [.int .i64 5,.int .i64 10],.bool true]),[])
else
(binV .eql a0 (.int .i64 32)).bind fun x3=>(
  asBool x3).bind fun b4=>
  if b4=true then
  some ((.tup [.agg [.int .i64 8,.int .i64 23],.bool true]),[])
else
(binV .eql a0 (.int .i64 64)).bind fun x5=>(
  asBool x5).bind fun b6=>
  if b6=true then
  some ((.tup [.agg [.int .i64 11,.int .i64 52],.bool true]),[])
else
 some ((.tup [.agg [.int .i64 0,.int .i64 0],.bool false]),[])
theorem eq_ieee_of(a0:V):P0 f_ieee_of [.v a0] []=F_ieee_of a0:=
 pq (fn:=p_ieee_of) (by kernel_rfl) (by kernel_rfl)
def F_ieee_form_cut(a0:V)(a1:V):Option (V×List V):=
 tst (okN 2 a0) ((fldV a0 0).bind fun c1=>(fldV a0 1).bind fun c2=>(binV .add c1 c2).bind fun x3=>(binV .shr a1 x3).bind fun x4=>(binV .and x4 (.int .u64 1)).bind fun x5=>(binV .neq x5 (.int .u64 0)).bind fun x6=>(fldV a0 1).bind fun c7=>(binV .shr a1 c7).bind fun x8=>(fldV a0 0).bind fun c9=>(binV .shl (.int .u64 1) c9).bind fun x10=>(binV .sub x10 (.int .u64 1)).bind fun x11=>(binV .and x8 x11).bind fun x12=>(cviV .i64 x12).bind fun x13=>(fldV a0 1).bind fun c14=>(binV .shl (.int .u64 1) c14).bind fun x15=>(binV .sub x15 (.int .u64 1)).bind fun x16=>(
  binV .and a1 x16).bind fun x17=>
  some ((.tup [x6,x13,x17]),[]))
theorem eq_ieee_form_cut(a0:V)(a1:V):P0 f_ieee_form_cut [.v a0,.v a1] []=F_ieee_form_cut a0 a1:=
 pq (fn:=p_ieee_form_cut) (by kernel_rfl) (by kernel_rfl)
def F_ieee_form_least(a0:V):Option (V×List V):=
 tst (okN 2 a0) ((P0 f_ieee_form_bias [.v a0] []).bind fun r1=>(binV .sub (.int .i64 1) r1.1).bind fun x2=>(fldV a0 1).bind fun c3=>(
  binV .sub x2 c3).bind fun x4=>
  some (x4,[]))
theorem eq_ieee_form_least(a0:V):P0 f_ieee_form_least [.v a0] []=F_ieee_form_least a0:=
 pq (fn:=p_ieee_form_least) (by kernel_rfl) (by kernel_rfl)
def F_num_Make(a0:V)(a1:V)(a2:V):Option (V×List V):=
(P0 f_nat_Trim [.v a1] []).bind fun r1=>(extV r1.1 0).bind fun x2=>(extV r1.1 1).bind fun x3=>(
  lenV x2).bind fun n4=>
  if((n4:Int)==0)=true then
  some ((.tup [(.agg [.bool false,.sl [],.int .i64 0]),.bool true]),[])
else
(lenV x2).bind fun n5=>((if(decide ((n5:Int)>90))=false then
(binV .sub (.int .i64 1200) x3).bind fun x6=>(
  binV .gtr a2 x6).bind fun x7=>
  some x7
else some (.bool true):Option V)).bind fun x8=>(asBool x8).bind fun b9=>((if b9=false then
(binV .sub (.int .i64 (-1200)) x3).bind fun x10=>(
  binV .lss a2 x10).bind fun x11=>
  some x11
else some (.bool true):Option V)).bind fun x12=>(
  asBool x12).bind fun b13=>
  if b13=true then
  some ((.tup [(.agg [.bool false,.sl [],.int .i64 0]),.bool false]),[])
else
(
  binV .add a2 x3).bind fun x14=>
  tst (okN 1 a0) ((fldV a0 0).bind fun c15=>
  tst (okN 1 x2) ((fldV x2 0).bind fun c16=>
  tst (okN 1 x14) ((fldV x14 0).bind fun c17=>
  tst (okN 3 (.agg [c15,c16,c17])) (some ((.tup [.agg [c15,c16,c17],.bool true]),[])))))
theorem eq_num_Make(a0:V)(a1:V)(a2:V):P0 f_num_Make [.v a0,.v a1,.v a2] []=F_num_Make a0 a1 a2:=
 pq (fn:=p_num_Make) (by kernel_rfl) (by kernel_rfl)
def L_nat_Mul_1(n15:Nat)(a1:V)(c11:V)(v5:Nat->V)(q3:Nat×Nat)(v16:Nat->V):Option ((Nat->V) ⊕ (Nat×(Nat->V))):=
(binV .lss (v16 1) (.int .i64 ((n15:Nat):Int))).bind fun x17=>(
  asBool x17).bind fun b18=>
  if b18=true then
(asSl 1 a1).bind fun l19=>(idxV (v16 1) (l19.length)).bind fun i20=>(l19[i20]?).bind fun e21=>(fldV e21 0).bind fun c22=>(cviV .u64 c11).bind fun x23=>(cviV .u64 c22).bind fun x24=>(binV .mul x23 x24).bind fun x25=>(binV .add (v5 0) (v16 1)).bind fun x26=>(idxV x26 q3.1).bind fun i27=>((V.elems (v16 2))[(0+i27)]?).bind fun e28=>(fldV e28 0).bind fun c29=>(cviV .u64 c29).bind fun x30=>(binV .add x25 x30).bind fun x31=>(binV .add (v16 0) x31).bind fun x32=>(binV .add (v5 0) (v16 1)).bind fun x33=>(cviV .u32 x32).bind fun x34=>(
  idxV x33 q3.1).bind fun i35=>
  tst (okN 1 x34) ((fldV x34 0).bind fun c36=>(binV .shr x32 (.int .u64 32)).bind fun x37=>(
  binV .add (v16 1) (.int .i64 1)).bind fun x38=>
  some (.inl (vec [x37,x38,(.sl ((V.elems (v16 2)).set (0+i35) c36))])))
else
 some (.inr (0,(vec [(v16 0),(.sl (V.elems (v16 2)))])))
def L_nat_Mul_2(n4:Nat)(a0:V)(a1:V)(q3:Nat×Nat)(v5:Nat->V):Option ((Nat->V) ⊕ (Nat×(Nat->V))):=
(binV .lss (v5 0) (.int .i64 ((n4:Nat):Int))).bind fun x6=>(
  asBool x6).bind fun b7=>
  if b7=true then
(asSl 1 a0).bind fun l8=>(idxV (v5 0) (l8.length)).bind fun i9=>(l8[i9]?).bind fun e10=>(fldV e10 0).bind fun c11=>(binV .eql c11 (.int .u32 0)).bind fun x12=>(
  asBool x12).bind fun b13=>
  if b13=true then
(
  binV .add (v5 0) (.int .i64 1)).bind fun x14=>
  some (.inl (vec [x14,(.sl (V.elems (v5 1)))]))
else
(lenV a1).bind fun n15=>(loopL (L_nat_Mul_1 n15 a1 c11 v5 q3) (vec [.int .u64 0,.int .i64 0,(.sl (V.elems (v5 1)))])).bind fun o39=>(lenV a1).bind fun n40=>(binV .add (v5 0) (.int .i64 ((n40:Nat):Int))).bind fun x41=>(cviV .u32 (o39.2 0)).bind fun x42=>(
  idxV x41 q3.1).bind fun i43=>
  tst (okN 1 x42) ((fldV x42 0).bind fun c44=>(
  binV .add (v5 0) (.int .i64 1)).bind fun x45=>
  some (.inl (vec [x45,(.sl ((V.elems (o39.2 1)).set (0+i43) c44))])))
else
 some (.inr (0,(vec [(.sl (V.elems (v5 1)))])))
def F_nat_Mul(a0:V)(a1:V):Option (V×List V):=
(lenV a0).bind fun n1=>(lenV a1).bind fun n2=>(mksV 4 (.int .i64 (IntKind.wrap .i64 (((n1:Nat):Int)+((n2:Nat):Int)))) (.int .i64 (IntKind.wrap .i64 (((n1:Nat):Int)+((n2:Nat):Int))))).bind fun q3=>(lenV a0).bind fun n4=>(loopL (L_nat_Mul_2 n4 a0 a1 q3) (vec [.int .i64 0,(.sl (List.replicate q3.2 (.int .u32 0)))])).bind fun o46=>(
  P0 f_nat_Norm [.v (.sl (((V.elems (o46.2 0)).drop 0).take q3.1))] []).bind fun r47=>
  some (r47.1,[])
theorem eq_nat_Mul(a0:V)(a1:V):P0 f_nat_Mul [.v a0,.v a1] []=F_nat_Mul a0 a1:=
 pq (fn:=p_nat_Mul) (by kernel_rfl) (by kernel_rfl)
def F_ieee_limbs(a0:V):Option (V×List V):=
(cviV .u32 a0).bind fun x1=>(binV .shr a0 (.int .u64 32)).bind fun x2=>(
  cviV .u32 x2).bind fun x3=>
  tst (okN 1 x1) ((fldV x1 0).bind fun c4=>
  tst (okN 1 x3) ((fldV x3 0).bind fun c5=>(
  P0 f_nat_Norm [.v (.sl [c4,c5])] []).bind fun r6=>
  some (r6.1,[])))
theorem eq_ieee_limbs(a0:V):P0 f_ieee_limbs [.v a0] []=F_ieee_limbs a0:=
 pq (fn:=p_ieee_limbs) (by kernel_rfl) (by kernel_rfl)
def L_nat_Pow_1(v5:Nat->V):Option ((Nat->V) ⊕ (Nat×(Nat->V))):=
(binV .gtr (v5 0) (.int .i64 0)).bind fun x6=>(
  asBool x6).bind fun b7=>
  if b7=true then
(((((binV .and (v5 0) (.int .i64 1)).bind fun x8=>(binV .neq x8 (.int .i64 0)).bind fun x9=>(
  asBool x9).bind fun b10=>
  if b10=true then
(
  P0 f_nat_Mul [.v (v5 1),.v (v5 2)] []).bind fun r11=>
  some (0,(vec [r11.1]))
else
 some (0,(vec [(v5 1)])):Option (Nat×(Nat->V)))).bind fun o12=>(
  P0 f_nat_Mul [.v (v5 2),.v (v5 2)] []).bind fun r13=>
  some (0,(vec [(o12.2 0),r13.1])):Option (Nat×(Nat->V)))).bind fun o14=>(
  binV .shr (v5 0) (.int .u64 1)).bind fun x15=>
  some (.inl (vec [x15,(o14.2 0),(o14.2 1)]))
else
 some (.inr (0,(vec [(v5 1)])))
def F_nat_Pow(a0:V)(a1:V):Option (V×List V):=
 tst (okN 1 a0) ((fldV a0 0).bind fun c1=>(P0 f_nat_Norm [.v (.sl [c1])] []).bind fun r2=>(minV a1 [.int .i64 1300]).bind fun x3=>(maxV (.int .i64 0) [x3]).bind fun x4=>(
  loopL (L_nat_Pow_1) (vec [x4,.sl [.int .u32 1],r2.1])).bind fun o16=>
  some ((o16.2 0),[]))
theorem eq_nat_Pow(a0:V)(a1:V):P0 f_nat_Pow [.v a0,.v a1] []=F_nat_Pow a0 a1:=
 pq (fn:=p_nat_Pow) (by kernel_rfl) (by kernel_rfl)
def L_ref01_Trim_1(v2:Nat->V):Option ((Nat->V) ⊕ (Nat×(Nat->V))):=
(
  lenV (v2 0)).bind fun n3=>
  if(decide ((n3:Int)>0))=true then
(P0 f_ref01_Small [.v (v2 0),.v (.int .u32 10)] []).bind fun r4=>(extV r4.1 0).bind fun x5=>(extV r4.1 1).bind fun x6=>(binV .neq x6 (.int .u32 0)).bind fun x7=>(
  asBool x7).bind fun b8=>
  if b8=true then
  some (.inr (0,(vec [(v2 0),(v2 1)])))
else
(
  binV .add (v2 1) (.int .i64 1)).bind fun x9=>
  some (.inl (vec [x5,x9]))
else
 some (.inr (0,(vec [(v2 0),(v2 1)])))
def F_ref01_Trim(a0:V):Option (V×List V):=
(P0 f_ref01_Norm [.v a0] []).bind fun r1=>(
  loopL (L_ref01_Trim_1) (vec [r1.1,.int .i64 0])).bind fun o10=>
  some ((.tup [(o10.2 0),(o10.2 1)]),[])
theorem eq_ref01_Trim(a0:V):P0 f_ref01_Trim [.v a0] []=F_ref01_Trim a0:=
 pq (fn:=p_ref01_Trim) (by kernel_rfl) (by kernel_rfl)
def F_ieee_To(a0:V)(a1:V):Option (V×List V):=
 tst (okN 3 a1) ((P0 f_ieee_of [.v a0] []).bind fun r1=>(extV r1.1 0).bind fun x2=>(
  extV r1.1 1).bind fun x3=>
  tst (okN 2 x2) ((((unV .not x3).bind fun x4=>(asBool x4).bind fun b5=>((if b5=false then
(P0 f_num_Check [.v a1] []).bind fun r6=>(
  unV .not r6.1).bind fun x7=>
  some x7
else some (.bool true):Option V)).bind fun x8=>(
  asBool x8).bind fun b9=>
  if b9=true then
  some (0,(vec [.bool false,.sl [],.int .i64 0]))
else
(fldV a1 0).bind fun c10=>(fldV a1 1).bind fun c11=>(
  fldV a1 2).bind fun c12=>
  some (0,(vec [c10,c11,c12])):Option (Nat×(Nat->V)))).bind fun o13=>(unV .not x3).bind fun x14=>(asBool x14).bind fun b15=>((if b15=false then
(
  lenV (o13.2 1)).bind fun n16=>
  some (.bool ((n16:Int)==0))
else some (.bool true):Option V)).bind fun x17=>(
  asBool x17).bind fun b18=>
  if b18=true then
  some ((.tup [.int .u64 0,x3]),[])
else
(P0 f_nat_Pow [.v (.int .u32 5),.v (o13.2 2)] []).bind fun r19=>(P0 f_nat_Mul [.v (o13.2 1),.v r19.1] []).bind fun r20=>(((binV .lss (o13.2 2) (.int .i64 0)).bind fun x21=>(
  asBool x21).bind fun b22=>
  if b22=true then
(unV .neg (o13.2 2)).bind fun x23=>(P0 f_nat_Pow [.v (.int .u32 5),.v x23] []).bind fun r24=>(P0 f_nat_Div [.v (o13.2 1),.v r24.1] []).bind fun r25=>(extV r25.1 0).bind fun x26=>(
  extV r25.1 1).bind fun x27=>
  some (0,(vec [x26,x27]))
else
 some (0,(vec [r20.1,.sl []])):Option (Nat×(Nat->V)))).bind fun o28=>(
  lenV (o28.2 1)).bind fun n29=>
  if(decide ((n29:Int)>0))=true then
  some ((.tup [.int .u64 0,.bool false]),[])
else
(P0 f_ieee_odd [.v (o28.2 0)] []).bind fun r30=>(extV r30.1 0).bind fun x31=>(extV r30.1 1).bind fun x32=>(binV .add (o13.2 2) x32).bind fun x33=>(P0 f_nat_Bits [.v x31] []).bind fun r34=>(fldV x2 1).bind fun c35=>(binV .add c35 (.int .i64 1)).bind fun x36=>(binV .gtr r34.1 x36).bind fun x37=>(asBool x37).bind fun b38=>((if b38=false then
(P0 f_ieee_form_least [.v x2] []).bind fun r39=>(
  binV .lss x33 r39.1).bind fun x40=>
  some x40
else some (.bool true):Option V)).bind fun x41=>(asBool x41).bind fun b42=>((if b42=false then
(binV .add x33 r34.1).bind fun x43=>(binV .sub x43 (.int .i64 1)).bind fun x44=>(P0 f_ieee_form_bias [.v x2] []).bind fun r45=>(
  binV .gtr x44 r45.1).bind fun x46=>
  some x46
else some (.bool true):Option V)).bind fun x47=>(
  asBool x47).bind fun b48=>
  if b48=true then
  some ((.tup [.int .u64 0,.bool false]),[])
else
(asSl 1 x31).bind fun l49=>(idxV (.int .i64 0) (l49.length)).bind fun i50=>(l49[i50]?).bind fun e51=>(fldV e51 0).bind fun c52=>(cviV .u64 c52).bind fun x53=>(
  ((lenV x31).bind fun n54=>
  if(decide ((n54:Int)>1))=true then
(asSl 1 x31).bind fun l55=>(idxV (.int .i64 1) (l55.length)).bind fun i56=>(l55[i56]?).bind fun e57=>(fldV e57 0).bind fun c58=>(cviV .u64 c58).bind fun x59=>(binV .shl x59 (.int .u64 32)).bind fun x60=>(
  binV .or x53 x60).bind fun x61=>
  some (0,(vec [x61]))
else
 some (0,(vec [x53])):Option (Nat×(Nat->V)))).bind fun o62=>(binV .add x33 r34.1).bind fun x63=>(binV .sub x63 (.int .i64 1)).bind fun x64=>(P0 f_ieee_form_bias [.v x2] []).bind fun r65=>(binV .add x64 r65.1).bind fun x66=>(((binV .geq x66 (.int .i64 1)).bind fun x67=>(
  asBool x67).bind fun b68=>
  if b68=true then
(fldV x2 1).bind fun c69=>(binV .add c69 (.int .i64 1)).bind fun x70=>(binV .sub x70 r34.1).bind fun x71=>(binV .shl (o62.2 0) x71).bind fun x72=>(fldV x2 1).bind fun c73=>(binV .shl (.int .u64 1) c73).bind fun x74=>(binV .sub x74 (.int .u64 1)).bind fun x75=>(binV .and x72 x75).bind fun x76=>(cviV .u64 x66).bind fun x77=>(fldV x2 1).bind fun c78=>(binV .shl x77 c78).bind fun x79=>(
  binV .or x76 x79).bind fun x80=>
  some (0,(vec [x80]))
else
(P0 f_ieee_form_least [.v x2] []).bind fun r81=>(binV .sub x33 r81.1).bind fun x82=>(
  binV .shl (o62.2 0) x82).bind fun x83=>
  some (0,(vec [x83])):Option (Nat×(Nat->V)))).bind fun o84=>(
  ((asBool (o13.2 0)).bind fun b85=>
  if b85=true then
(fldV x2 0).bind fun c86=>(fldV x2 1).bind fun c87=>(binV .add c86 c87).bind fun x88=>(binV .shl (.int .u64 1) x88).bind fun x89=>(
  binV .or (o84.2 0) x89).bind fun x90=>
  some (0,(vec [x90]))
else
 some (0,(vec [(o84.2 0)])):Option (Nat×(Nat->V)))).bind fun o91=>
 some ((.tup [(o91.2 0),.bool true]),[])))
theorem eq_ieee_To(a0:V)(a1:V):P0 f_ieee_To [.v a0,.v a1] []=F_ieee_To a0 a1:=
 pq (fn:=p_ieee_To) (by kernel_rfl) (by kernel_rfl)
def F_ieee_form_bias(a0:V):Option (V×List V):=
 tst (okN 2 a0) ((fldV a0 0).bind fun c1=>(binV .sub c1 (.int .i64 1)).bind fun x2=>(binV .shl (.int .i64 1) x2).bind fun x3=>(
  binV .sub x3 (.int .i64 1)).bind fun x4=>
  some (x4,[]))
theorem eq_ieee_form_bias(a0:V):P0 f_ieee_form_bias [.v a0] []=F_ieee_form_bias a0:=
 pq (fn:=p_ieee_form_bias) (by kernel_rfl) (by kernel_rfl)
def L_nat_Trim_1(v2:Nat->V):Option ((Nat->V) ⊕ (Nat×(Nat->V))):=
(
  lenV (v2 0)).bind fun n3=>
  if(decide ((n3:Int)>0))=true then
(P0 f_nat_small [.v (v2 0),.v (.int .u32 10)] []).bind fun r4=>(extV r4.1 0).bind fun x5=>(extV r4.1 1).bind fun x6=>(binV .neq x6 (.int .u32 0)).bind fun x7=>(
  asBool x7).bind fun b8=>
  if b8=true then
  some (.inr (0,(vec [(v2 0),(v2 1)])))
else
(
  binV .add (v2 1) (.int .i64 1)).bind fun x9=>
  some (.inl (vec [x5,x9]))
else
 some (.inr (0,(vec [(v2 0),(v2 1)])))
def F_nat_Trim(a0:V):Option (V×List V):=
(P0 f_nat_Norm [.v a0] []).bind fun r1=>(
  loopL (L_nat_Trim_1) (vec [r1.1,.int .i64 0])).bind fun o10=>
  some ((.tup [(o10.2 0),(o10.2 1)]),[])
theorem eq_nat_Trim(a0:V):P0 f_nat_Trim [.v a0] []=F_nat_Trim a0:=
 pq (fn:=p_nat_Trim) (by kernel_rfl) (by kernel_rfl)
def L_nat_Norm_1(a0:V)(v2:Nat->V):Option ((Nat->V) ⊕ (Nat×(Nat->V))):=
(binV .gtr (v2 0) (.int .i64 0)).bind fun x3=>(asBool x3).bind fun b4=>((if b4=true then
(binV .sub (v2 0) (.int .i64 1)).bind fun x5=>(asSl 1 a0).bind fun l6=>(idxV x5 (l6.length)).bind fun i7=>(l6[i7]?).bind fun e8=>(fldV e8 0).bind fun c9=>(
  binV .eql c9 (.int .u32 0)).bind fun x10=>
  some x10
else some (.bool false):Option V)).bind fun x11=>(
  asBool x11).bind fun b12=>
  if b12=true then
(
  binV .sub (v2 0) (.int .i64 1)).bind fun x13=>
  some (.inl (vec [x13]))
else
 some (.inr (0,(vec [(v2 0)])))
def F_nat_Norm(a0:V):Option (V×List V):=
(lenV a0).bind fun n1=>(loopL (L_nat_Norm_1 a0) (vec [(.int .i64 ((n1:Nat):Int))])).bind fun o14=>(binV .eql (o14.2 0) (.int .i64 0)).bind fun x15=>(
  asBool x15).bind fun b16=>
  if b16=true then
  some ((.sl []),[])
else
(mksV 4 (o14.2 0) (o14.2 0)).bind fun q17=>(
  asEl 1 a0).bind fun l18=>
  some ((.sl (((setL (List.replicate q17.2 (.int .u32 0)) 0 (l18.take (Nat.min (l18.length) q17.1))).drop 0).take q17.1)),[])
theorem eq_nat_Norm(a0:V):P0 f_nat_Norm [.v a0] []=F_nat_Norm a0:=
 pq (fn:=p_nat_Norm) (by kernel_rfl) (by kernel_rfl)
def L_ref01_Norm_1(a0:V)(v2:Nat->V):Option ((Nat->V) ⊕ (Nat×(Nat->V))):=
(binV .gtr (v2 0) (.int .i64 0)).bind fun x3=>(asBool x3).bind fun b4=>((if b4=true then
(binV .sub (v2 0) (.int .i64 1)).bind fun x5=>(asSl 1 a0).bind fun l6=>(idxV x5 (l6.length)).bind fun i7=>(l6[i7]?).bind fun e8=>(fldV e8 0).bind fun c9=>(
  binV .eql c9 (.int .u32 0)).bind fun x10=>
  some x10
else some (.bool false):Option V)).bind fun x11=>(
  asBool x11).bind fun b12=>
  if b12=true then
(
  binV .sub (v2 0) (.int .i64 1)).bind fun x13=>
  some (.inl (vec [x13]))
else
 some (.inr (0,(vec [(v2 0)])))
def F_ref01_Norm(a0:V):Option (V×List V):=
(lenV a0).bind fun n1=>(loopL (L_ref01_Norm_1 a0) (vec [(.int .i64 ((n1:Nat):Int))])).bind fun o14=>(asSl 1 a0).bind fun l15=>(bnd2 none (some (o14.2 0)) (l15.length)).bind fun q16=>(
  asEl 1 (.sl ((l15.drop q16.1).take (q16.2-q16.1)))).bind fun l17=>
  tst (appOk 4 (List.length (α:=V) []) (l17.length)) (some ((.sl (([]:List V)++l17)),[]))
theorem eq_ref01_Norm(a0:V):P0 f_ref01_Norm [.v a0] []=F_ref01_Norm a0:=
 pq (fn:=p_ref01_Norm) (by kernel_rfl) (by kernel_rfl)
def L_ref01_Small_1(a0:V)(a1:V)(q2:Nat×Nat)(v4:Nat->V):Option ((Nat->V) ⊕ (Nat×(Nat->V))):=
(binV .geq (v4 1) (.int .i64 0)).bind fun x5=>(
  asBool x5).bind fun b6=>
  if b6=true then
(binV .shl (v4 0) (.int .u64 32)).bind fun x7=>(asSl 1 a0).bind fun l8=>(idxV (v4 1) (l8.length)).bind fun i9=>(l8[i9]?).bind fun e10=>(fldV e10 0).bind fun c11=>(cviV .u64 c11).bind fun x12=>(binV .add x7 x12).bind fun x13=>(cviV .u64 a1).bind fun x14=>(binV .quo x13 x14).bind fun x15=>(cviV .u32 x15).bind fun x16=>(
  idxV (v4 1) q2.1).bind fun i17=>
  tst (okN 1 x16) ((fldV x16 0).bind fun c18=>(cviV .u64 a1).bind fun x19=>(binV .rem x13 x19).bind fun x20=>(
  binV .sub (v4 1) (.int .i64 1)).bind fun x21=>
  some (.inl (vec [x20,x21,(.sl ((V.elems (v4 2)).set (0+i17) c18))])))
else
 some (.inr (0,(vec [(v4 0),(.sl (V.elems (v4 2)))])))
def F_ref01_Small(a0:V)(a1:V):Option (V×List V):=
(lenV a0).bind fun n1=>(mksV 4 (.int .i64 ((n1:Nat):Int)) (.int .i64 ((n1:Nat):Int))).bind fun q2=>(lenV a0).bind fun n3=>(loopL (L_ref01_Small_1 a0 a1 q2) (vec [.int .u64 0,(.int .i64 (IntKind.wrap .i64 (((n3:Nat):Int)-1))),(.sl (List.replicate q2.2 (.int .u32 0)))])).bind fun o22=>(P0 f_ref01_Norm [.v (.sl (((V.elems (o22.2 1)).drop 0).take q2.1))] []).bind fun r23=>(
  cviV .u32 (o22.2 0)).bind fun x24=>
  some ((.tup [r23.1,x24]),[])
theorem eq_ref01_Small(a0:V)(a1:V):P0 f_ref01_Small [.v a0,.v a1] []=F_ref01_Small a0 a1:=
 pq (fn:=p_ref01_Small) (by kernel_rfl) (by kernel_rfl)
def F_num_Check(a0:V):Option (V×List V):=
 tst (okN 3 a0) ((fldV a0 1).bind fun c1=>(
  lenV c1).bind fun n2=>
  if((n2:Int)==0)=true then
(fldV a0 0).bind fun c3=>(unV .not c3).bind fun x4=>(asBool x4).bind fun b5=>((if b5=true then
(fldV a0 2).bind fun c6=>(
  binV .eql c6 (.int .i64 0)).bind fun x7=>
  some x7
else some (.bool false):Option V)).bind fun x8=>some (x8,[])
else
((if(decide ((n2:Int)>90))=false then
(fldV a0 1).bind fun c9=>(asSl 1 c9).bind fun l10=>(idxV (.int .i64 (IntKind.wrap .i64 (((n2:Nat):Int)-1))) (l10.length)).bind fun i11=>(l10[i11]?).bind fun e12=>(fldV e12 0).bind fun c13=>(
  binV .eql c13 (.int .u32 0)).bind fun x14=>
  some x14
else some (.bool true):Option V)).bind fun x15=>(asBool x15).bind fun b16=>((if b16=false then
(fldV a0 2).bind fun c17=>(
  binV .lss c17 (.int .i64 (-1200))).bind fun x18=>
  some x18
else some (.bool true):Option V)).bind fun x19=>(asBool x19).bind fun b20=>((if b20=false then
(fldV a0 2).bind fun c21=>(
  binV .gtr c21 (.int .i64 1200)).bind fun x22=>
  some x22
else some (.bool true):Option V)).bind fun x23=>(
  asBool x23).bind fun b24=>
  if b24=true then
  some ((.bool false),[])
else
(fldV a0 1).bind fun c25=>(P0 f_nat_Trim [.v c25] []).bind fun r26=>(extV r26.1 0).bind fun x27=>(extV r26.1 1).bind fun x28=>(
  binV .eql x28 (.int .i64 0)).bind fun x29=>
  some (x29,[]))
theorem eq_num_Check(a0:V):P0 f_num_Check [.v a0] []=F_num_Check a0:=
 pq (fn:=p_num_Check) (by kernel_rfl) (by kernel_rfl)
def L_nat_Div_1(a0:V)(r1:V×List V)(q13:Nat×Nat)(v16:Nat->V):Option ((Nat->V) ⊕ (Nat×(Nat->V))):=
(binV .geq (v16 1) (.int .i64 0)).bind fun x17=>(
  asBool x17).bind fun b18=>
  if b18=true then
(binV .quo (v16 1) (.int .i64 32)).bind fun x19=>(asSl 1 a0).bind fun l20=>(idxV x19 (l20.length)).bind fun i21=>(l20[i21]?).bind fun e22=>(fldV e22 0).bind fun c23=>(binV .rem (v16 1) (.int .i64 32)).bind fun x24=>(binV .shr c23 x24).bind fun x25=>(binV .and x25 (.int .u32 1)).bind fun x26=>(P0 f_nat_up [.v (v16 0),.v x26] []).bind fun r27=>(P0 f_nat_Cmp [.v r27.1,.v r1.1] []).bind fun r28=>(binV .geq r28.1 (.int .i64 0)).bind fun x29=>(
  asBool x29).bind fun b30=>
  if b30=true then
(P0 f_nat_Sub [.v r27.1,.v r1.1] []).bind fun r31=>(binV .quo (v16 1) (.int .i64 32)).bind fun x32=>(idxV x32 q13.1).bind fun i33=>((V.elems (v16 2))[(0+i33)]?).bind fun e34=>(fldV e34 0).bind fun c35=>(binV .rem (v16 1) (.int .i64 32)).bind fun x36=>(binV .shl (.int .u32 1) x36).bind fun x37=>(binV .or c35 x37).bind fun x38=>(
  idxV x32 q13.1).bind fun i39=>
  tst (okN 1 x38) ((fldV x38 0).bind fun c40=>(
  binV .sub (v16 1) (.int .i64 1)).bind fun x41=>
  some (.inl (vec [r31.1,x41,(.sl ((V.elems (v16 2)).set (0+i39) c40))])))
else
(
  binV .sub (v16 1) (.int .i64 1)).bind fun x42=>
  some (.inl (vec [r27.1,x42,(.sl (V.elems (v16 2)))]))
else
 some (.inr (0,(vec [(v16 0),(.sl (V.elems (v16 2)))])))
def F_nat_Div(a0:V)(a1:V):Option (V×List V):=
(P0 f_nat_Norm [.v a1] []).bind fun r1=>(
  lenV r1.1).bind fun n2=>
  if((n2:Int)==0)=true then
  some ((.tup [.sl [],.sl []]),[])
else
 if((n2:Int)==1)=true then
(asSl 1 r1.1).bind fun l3=>(idxV (.int .i64 0) (l3.length)).bind fun i4=>(l3[i4]?).bind fun e5=>(fldV e5 0).bind fun c6=>(P0 f_nat_small [.v a0,.v c6] []).bind fun r7=>(extV r7.1 0).bind fun x8=>(
  extV r7.1 1).bind fun x9=>
  tst (okN 1 x9) ((fldV x9 0).bind fun c10=>(
  P0 f_nat_Norm [.v (.sl [c10])] []).bind fun r11=>
  some ((.tup [x8,r11.1]),[]))
else
(lenV a0).bind fun n12=>(mksV 4 (.int .i64 ((n12:Nat):Int)) (.int .i64 ((n12:Nat):Int))).bind fun q13=>(P0 f_nat_Bits [.v a0] []).bind fun r14=>(binV .sub r14.1 (.int .i64 1)).bind fun x15=>(loopL (L_nat_Div_1 a0 r1 q13) (vec [.sl [],x15,(.sl (List.replicate q13.2 (.int .u32 0)))])).bind fun o43=>(
  P0 f_nat_Norm [.v (.sl (((V.elems (o43.2 1)).drop 0).take q13.1))] []).bind fun r44=>
  some ((.tup [r44.1,(o43.2 0)]),[])
theorem eq_nat_Div(a0:V)(a1:V):P0 f_nat_Div [.v a0,.v a1] []=F_nat_Div a0 a1:=
 pq (fn:=p_nat_Div) (by kernel_rfl) (by kernel_rfl)
def L_nat_small_1(a0:V)(a1:V)(q2:Nat×Nat)(v4:Nat->V):Option ((Nat->V) ⊕ (Nat×(Nat->V))):=
(binV .geq (v4 1) (.int .i64 0)).bind fun x5=>(
  asBool x5).bind fun b6=>
  if b6=true then
(binV .shl (v4 0) (.int .u64 32)).bind fun x7=>(asSl 1 a0).bind fun l8=>(idxV (v4 1) (l8.length)).bind fun i9=>(l8[i9]?).bind fun e10=>(fldV e10 0).bind fun c11=>(cviV .u64 c11).bind fun x12=>(binV .or x7 x12).bind fun x13=>(cviV .u64 a1).bind fun x14=>(binV .quo x13 x14).bind fun x15=>(cviV .u32 x15).bind fun x16=>(
  idxV (v4 1) q2.1).bind fun i17=>
  tst (okN 1 x16) ((fldV x16 0).bind fun c18=>(cviV .u64 a1).bind fun x19=>(binV .rem x13 x19).bind fun x20=>(
  binV .sub (v4 1) (.int .i64 1)).bind fun x21=>
  some (.inl (vec [x20,x21,(.sl ((V.elems (v4 2)).set (0+i17) c18))])))
else
 some (.inr (0,(vec [(v4 0),(.sl (V.elems (v4 2)))])))
def F_nat_small(a0:V)(a1:V):Option (V×List V):=
(lenV a0).bind fun n1=>(mksV 4 (.int .i64 ((n1:Nat):Int)) (.int .i64 ((n1:Nat):Int))).bind fun q2=>(lenV a0).bind fun n3=>(loopL (L_nat_small_1 a0 a1 q2) (vec [.int .u64 0,(.int .i64 (IntKind.wrap .i64 (((n3:Nat):Int)-1))),(.sl (List.replicate q2.2 (.int .u32 0)))])).bind fun o22=>(P0 f_nat_Norm [.v (.sl (((V.elems (o22.2 1)).drop 0).take q2.1))] []).bind fun r23=>(
  cviV .u32 (o22.2 0)).bind fun x24=>
  some ((.tup [r23.1,x24]),[])
theorem eq_nat_small(a0:V)(a1:V):P0 f_nat_small [.v a0,.v a1] []=F_nat_small a0 a1:=
 pq (fn:=p_nat_small) (by kernel_rfl) (by kernel_rfl)
theorem tell_math_Float64bits(a1:List PA):P0 f_math_Float64bits a1 []=tellK txF64b (.pl) a1 []:=pcL_tell (gl:=gl0) (tab:=tab0) (f:=f_math_Float64bits) a1 [] rfl rfl
theorem tell_math_Float64frombits(a1:List PA):P0 f_math_Float64frombits a1 []=tellK txF64f (.pl) a1 []:=pcL_tell (gl:=gl0) (tab:=tab0) (f:=f_math_Float64frombits) a1 [] rfl rfl
end Go.Ev
end
