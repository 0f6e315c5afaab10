/- What the functions compute. -/
import Derived.Test.YtoikjfpefikmpaaDoorKCode
import Derived.KernelRfl
set_option linter.all false
namespace Go.Ev
noncomputable def L_law01_NatDigits_1(r3:V×List V)(v8:Nat→V):Option ((Nat→V) ⊕ (Nat×(Nat→V))):=
(binV .lss (v8 1) r3.1).bind fun x9=>
(
  asBool x9).bind fun b10=>
  if b10=true then
(binV .add (v8 0) (.str [48])).bind fun x11=>
(
  binV .add (v8 1) (.int .i64 1)).bind fun x12=>
  some (.inl (vec [x11,x12]))
else
 some (.inr (0,(vec [(v8 0)])))
noncomputable def F_law01_NatDigits(a0:V)(a1:V):Option (V×List V):=
(
  lenV a0).bind fun n1=>
  if(decide ((((n1:Nat):Int):Int) > 25))=true then
(
  P0 f_law01_awake [] []).bind fun r2=>
  some (r2.1,[])
else
(P0 f_law00_Place [.v a1,.v (.int .i64 30)] []).bind fun r3=>
(P0 f_nat_Digits [.v a0] []).bind fun r4=>
(P0 f_nat_Parse [.v r4.1] []).bind fun r5=>
(extV r5.1 0).bind fun x6=>
(extV r5.1 1).bind fun x7=>
(loopL (L_law01_NatDigits_1 r3) (vec [(.str []),(.int .i64 0)])).bind fun o13=>
(binV .add (o13.2 0) r4.1).bind fun x14=>
(P0 f_nat_Parse [.v x14] []).bind fun r15=>
(extV r15.1 0).bind fun x16=>
(extV r15.1 1).bind fun x17=>
(binV .add r4.1 (o13.2 0)).bind fun x18=>
(P0 f_nat_Parse [.v x18] []).bind fun r19=>
(extV r19.1 0).bind fun x20=>
(extV r19.1 1).bind fun x21=>
(P0 f_nat_Trim [.v x20] []).bind fun r22=>
(extV r22.1 0).bind fun x23=>
(extV r22.1 1).bind fun x24=>
(P0 f_nat_Trim [.v a0] []).bind fun r25=>
(extV r25.1 0).bind fun x26=>
(extV r25.1 1).bind fun x27=>
(unV .not x7).bind fun x28=>
(asBool x28).bind fun b29=>
((if b29=false then
(
  unV .not x17).bind fun x30=>
  some x30
else some (.bool true):Option V)).bind fun x31=>
(asBool x31).bind fun b32=>
((if b32=false then
(
  unV .not x21).bind fun x33=>
  some x33
else some (.bool true):Option V)).bind fun x34=>
(asBool x34).bind fun b35=>
((if b35=false then
(P0 f_nat_Cmp [.v x6,.v a0] []).bind fun r36=>
(
  binV .neq r36.1 (.int .i64 0)).bind fun x37=>
  some x37
else some (.bool true):Option V)).bind fun x38=>
(asBool x38).bind fun b39=>
((if b39=false then
(P0 f_law00_SameLimbs [.v x6,.v x16] []).bind fun r40=>
(
  unV .not r40.1).bind fun x41=>
  some x41
else some (.bool true):Option V)).bind fun x42=>
(asBool x42).bind fun b43=>
((if b43=false then
(P0 f_law00_SameLimbs [.v x23,.v x26] []).bind fun r44=>
(
  unV .not r44.1).bind fun x45=>
  some x45
else some (.bool true):Option V)).bind fun x46=>
(
  asBool x46).bind fun b47=>
  if b47=true then
  some ((.bool false),[])
else
(lenV x26).bind fun n48=>
((if((((n48:Nat):Int):Int) == 0)=true then
(
  binV .eql x24 (.int .i64 0)).bind fun x49=>
  some x49
else some (.bool false):Option V)).bind fun x50=>
(asBool x50).bind fun b51=>
((if b51=true then
(
  binV .eql x27 (.int .i64 0)).bind fun x52=>
  some x52
else some (.bool false):Option V)).bind fun x53=>
(asBool x53).bind fun b54=>
((if b54=false then
(binV .add x27 r3.1).bind fun x55=>
(
  binV .eql x24 x55).bind fun x56=>
  some x56
else some (.bool true):Option V)).bind fun x57=>
(asBool x57).bind fun b58=>
((if b58=true then
(P0 f_nat_Pow [.v (.int .u32 10),.v r3.1] []).bind fun r59=>
(P0 f_nat_Mul [.v x6,.v r59.1] []).bind fun r60=>
(P0 f_nat_Cmp [.v x20,.v r60.1] []).bind fun r61=>
(
  binV .eql r61.1 (.int .i64 0)).bind fun x62=>
  some x62
else some (.bool false):Option V)).bind fun x63=>
(asBool x63).bind fun b64=>
((if b64=true then
(
  P0 f_law01_awake [] []).bind fun r65=>
  some r65.1
else some (.bool false):Option V)).bind fun x66=>
 some (x66,[])
theorem eq_law01_NatDigits(a0:V)(a1:V):P0 f_law01_NatDigits [.v a0,.v a1] []=F_law01_NatDigits a0 a1:=
 (pcL_eq (fn:=p_law01_NatDigits) (by kernel_rfl) _ _).trans (by kernel_rfl)
noncomputable def F_law01_awake:Option (V×List V):=
(P0 f_nat_Trim [.v (.sl [(.int .u32 1200)])] []).bind fun r1=>
(extV r1.1 0).bind fun x2=>
(extV r1.1 1).bind fun x3=>
(lenV x2).bind fun n4=>
((if((((n4:Nat):Int):Int) == 1)=true then
(asSl 1 x2).bind fun l5=>
(idxV (.int .i64 0) (l5.length)).bind fun i6=>
(l5[i6]?).bind fun e7=>
(fldV e7 0).bind fun c8=>
(
  binV .eql c8 (.int .u32 12)).bind fun x9=>
  some x9
else some (.bool false):Option V)).bind fun x10=>
(asBool x10).bind fun b11=>
((if b11=true then
(
  binV .eql x3 (.int .i64 2)).bind fun x12=>
  some x12
else some (.bool false):Option V)).bind fun x13=>
(asBool x13).bind fun b14=>
((if b14=true then
(P0 f_nat_Digits [.v (.sl [(.int .u32 0),(.int .u32 1)])] []).bind fun r15=>
(
  binV .eql r15.1 (.str [52,50,57,52,57,54,55,50,57,54])).bind fun x16=>
  some x16
else some (.bool false):Option V)).bind fun x17=>
 some (x17,[])
theorem eq_law01_awake:P0 f_law01_awake [] []=F_law01_awake:=
 (pcL_eq (fn:=p_law01_awake) (by kernel_rfl) _ _).trans (by kernel_rfl)
noncomputable def L_nat_Cmp_1(a0:V)(a1:V)(v5:Nat→V):Option ((Nat→V) ⊕ (Nat×(Nat→V))):=
(binV .geq (v5 0) (.int .i64 0)).bind fun x6=>
(
  asBool x6).bind fun b7=>
  if b7=true then
(P0 f_nat_at [.v a0,.v (v5 0)] []).bind fun r8=>
(P0 f_nat_at [.v a1,.v (v5 0)] []).bind fun r9=>
(P0 f_cmp_Compare_uint64 [.v r8.1,.v r9.1] []).bind fun r10=>
(binV .neq r10.1 (.int .i64 0)).bind fun x11=>
(
  asBool x11).bind fun b12=>
  if b12=true then
  some (.inr (1,(vec [r10.1])))
else
(
  binV .sub (v5 0) (.int .i64 1)).bind fun x13=>
  some (.inl (vec [x13]))
else
 some (.inr (0,(vec [])))
noncomputable def F_nat_Cmp(a0:V)(a1:V):Option (V×List V):=
(lenV a0).bind fun n1=>
(lenV a1).bind fun n2=>
(maxV (.int .i64 ((n1:Nat):Int)) [(.int .i64 ((n2:Nat):Int))]).bind fun x3=>
(binV .sub x3 (.int .i64 1)).bind fun x4=>
(
  loopL (L_nat_Cmp_1 a0 a1) (vec [x4])).bind fun o14=>
  if o14.1=0 then
  some ((.int .i64 0),[])
else
 some ((o14.2 0),[])
theorem eq_nat_Cmp(a0:V)(a1:V):P0 f_nat_Cmp [.v a0,.v a1] []=F_nat_Cmp a0 a1:=
 (pcL_eq (fn:=p_nat_Cmp) (by kernel_rfl) _ _).trans (by kernel_rfl)
noncomputable def F_law00_Place(a0:V)(a1:V):Option (V×List V):=
(binV .rem a0 a1).bind fun x1=>
(binV .lss x1 (.int .i64 0)).bind fun x2=>
(
  asBool x2).bind fun b3=>
  if b3=true then
(
  binV .add x1 a1).bind fun x4=>
  some (x4,[])
else
 some (x1,[])
theorem eq_law00_Place(a0:V)(a1:V):P0 f_law00_Place [.v a0,.v a1] []=F_law00_Place a0 a1:=
 (pcL_eq (fn:=p_law00_Place) (by kernel_rfl) _ _).trans (by kernel_rfl)
noncomputable def L_nat_Add_1(x4:V)(a0:V)(a1:V)(v5:Nat→V):Option ((Nat→V) ⊕ (Nat×(Nat→V))):=
(binV .lss (v5 2) x4).bind fun x6=>
(
  asBool x6).bind fun b7=>
  if b7=true then
(P0 f_nat_at [.v a0,.v (v5 2)] []).bind fun r8=>
(P0 f_nat_at [.v a1,.v (v5 2)] []).bind fun r9=>
(binV .add r8.1 r9.1).bind fun x10=>
(binV .add (v5 1) x10).bind fun x11=>
(
  cviV .u32 x11).bind fun x12=>
  tst (okN 1 x12) ((fldV x12 0).bind fun c13=>
  tst (szOk 1 [c13]) (tst (appOk 4 ((V.elems (v5 0)).length) (List.length (α:=V) [c13])) ((binV .shr x11 (.int .u64 32)).bind fun x14=>
(
  binV .add (v5 2) (.int .i64 1)).bind fun x15=>
  some (.inl (vec [(.sl ((V.elems (v5 0))++([c13]:List V))),x14,x15])))))
else
 some (.inr (0,(vec [(.sl (V.elems (v5 0)))])))
noncomputable def F_nat_Add(a0:V)(a1:V):Option (V×List V):=
(lenV a0).bind fun n1=>
(lenV a1).bind fun n2=>
(maxV (.int .i64 ((n1:Nat):Int)) [(.int .i64 ((n2:Nat):Int))]).bind fun x3=>
(binV .add x3 (.int .i64 1)).bind fun x4=>
(loopL (L_nat_Add_1 x4 a0 a1) (vec [(.sl []),(.int .u64 0),(.int .i64 0)])).bind fun o16=>
(
  P0 f_nat_Norm [.v (.sl (V.elems (o16.2 0)))] []).bind fun r17=>
  some (r17.1,[])
theorem eq_nat_Add(a0:V)(a1:V):P0 f_nat_Add [.v a0,.v a1] []=F_nat_Add a0 a1:=
 (pcL_eq (fn:=p_nat_Add) (by kernel_rfl) _ _).trans (by kernel_rfl)
noncomputable def L_law00_SameLimbs_1(a0:V)(a1:V)(v3:Nat→V):Option ((Nat→V) ⊕ (Nat×(Nat→V))):=
(lenV a0).bind fun n4=>
(binV .lss (v3 0) (.int .i64 ((n4:Nat):Int))).bind fun x5=>
(
  asBool x5).bind fun b6=>
  if b6=true then
(asSl 1 a0).bind fun l7=>
(idxV (v3 0) (l7.length)).bind fun i9=>
(l7[i9]?).bind fun e10=>
(fldV e10 0).bind fun c11=>
(asSl 1 a1).bind fun l12=>
(idxV (v3 0) (l12.length)).bind fun i13=>
(l12[i13]?).bind fun e14=>
(fldV e14 0).bind fun c15=>
(binV .neq c11 c15).bind fun x16=>
(
  asBool x16).bind fun b17=>
  if b17=true then
  some (.inr (1,(vec [(.bool false)])))
else
(
  binV .add (v3 0) (.int .i64 1)).bind fun x18=>
  some (.inl (vec [x18]))
else
 some (.inr (0,(vec [])))
noncomputable def F_law00_SameLimbs(a0:V)(a1:V):Option (V×List V):=
(lenV a0).bind fun n1=>
(
  lenV a1).bind fun n2=>
  if((((n1:Nat):Int):Int) != ((n2:Nat):Int))=true then
  some ((.bool false),[])
else
(
  loopL (L_law00_SameLimbs_1 a0 a1) (vec [(.int .i64 0)])).bind fun o19=>
  if o19.1=0 then
  some ((.bool true),[])
else
 some ((o19.2 0),[])
theorem eq_law00_SameLimbs(a0:V)(a1:V):P0 f_law00_SameLimbs [.v a0,.v a1] []=F_law00_SameLimbs a0 a1:=
 (pcL_eq (fn:=p_law00_SameLimbs) (by kernel_rfl) _ _).trans (by kernel_rfl)
noncomputable def L_nat_Norm_1(a0:V)(v2:Nat→V):Option ((Nat→V) ⊕ (Nat×(Nat→V))):=
(binV .gtr (v2 0) (.int .i64 0)).bind fun x3=>
(asBool x3).bind fun b4=>
((if b4=true then
(binV .sub (v2 0) (.int .i64 1)).bind fun x5=>
(asSl 1 a0).bind fun l6=>
(idxV x5 (l6.length)).bind fun i7=>
(l6[i7]?).bind fun e8=>
(fldV e8 0).bind fun c9=>
(
  binV .eql c9 (.int .u32 0)).bind fun x10=>
  some x10
else some (.bool false):Option V)).bind fun x11=>
(
  asBool x11).bind fun b12=>
  if b12=true then
(
  binV .sub (v2 0) (.int .i64 1)).bind fun x13=>
  some (.inl (vec [x13]))
else
 some (.inr (0,(vec [(v2 0)])))
noncomputable def F_nat_Norm(a0:V):Option (V×List V):=
(lenV a0).bind fun n1=>
(loopL (L_nat_Norm_1 a0) (vec [(.int .i64 ((n1:Nat):Int))])).bind fun o14=>
(binV .eql (o14.2 0) (.int .i64 0)).bind fun x15=>
(
  asBool x15).bind fun b16=>
  if b16=true then
  some ((.sl []),[])
else
(mksV 4 (o14.2 0) (o14.2 0)).bind fun q17=>
(
  asEl 1 a0).bind fun l18=>
  some ((.sl (((setL (List.replicate q17.2 (.int .u32 0)) 0 (l18.take (Nat.min (l18.length) q17.1))).drop 0).take q17.1)),[])
theorem eq_nat_Norm(a0:V):P0 f_nat_Norm [.v a0] []=F_nat_Norm a0:=
 (pcL_eq (fn:=p_nat_Norm) (by kernel_rfl) _ _).trans (by kernel_rfl)
noncomputable def L_nat_Digits_1(v7:Nat→V):Option ((Nat→V) ⊕ (Nat×(Nat→V))):=
(binV .lss (v7 2) (.int .i64 9)).bind fun x8=>
(
  asBool x8).bind fun b9=>
  if b9=true then
(binV .sub (.int .i64 8) (v7 2)).bind fun x10=>
(binV .rem (v7 1) (.int .u32 10)).bind fun x11=>
(binV .add (.int .u32 48) x11).bind fun x12=>
(cviV .u8 x12).bind fun x13=>
(
  idxV x10 9).bind fun i14=>
  tst (Nat.blt i14 ((V.elems (v7 3)).length)) (tst (okN 1 x13) ((fldV x13 0).bind fun c15=>
(binV .quo (v7 1) (.int .u32 10)).bind fun x16=>
(
  binV .add (v7 2) (.int .i64 1)).bind fun x17=>
  some (.inl (vec [(.sl (V.elems (v7 0))),x16,x17,(.sl ((V.elems (v7 3)).set i14 c15))]))))
else
 some (.inr (0,(vec [(.sl (V.elems (v7 0))),(.sl (V.elems (v7 3)))])))
noncomputable def L_nat_Digits_2(v2:Nat→V):Option ((Nat→V) ⊕ (Nat×(Nat→V))):=
(
  lenV (v2 0)).bind fun n3=>
  if(decide ((((n3:Nat):Int):Int) > 0))=true then
(P0 f_nat_small [.v (v2 0),.v (.int .u32 1000000000)] []).bind fun r4=>
(extV r4.1 0).bind fun x5=>
(extV r4.1 1).bind fun x6=>
(
  loopL (L_nat_Digits_1) (vec [(.sl (V.elems (v2 1))),x6,(.int .i64 0),(.sl (List.replicate 9 (V.int .u8 0)))])).bind fun o18=>
  tst (Nat.ble 9 ((V.elems (o18.2 1)).length)) ((bndR none none none 9 9).bind fun q19=>
(
  asBytesV (((V.elems (o18.2 1)).drop q19.1).take (q19.2.1 - q19.1))).bind fun s20=>
  tst (szOk 1 [(.str s20)]) (tst (appOk 16 ((V.elems (o18.2 0)).length) (List.length (α:=V) [(.str s20)])) (some (.inl (vec [x5,(.sl ((V.elems (o18.2 0))++([(.str s20)]:List V)))])))))
else
 some (.inr (0,(vec [(.sl (V.elems (v2 1)))])))
noncomputable def L_nat_Digits_3(o21:Nat×(Nat→V))(v22:Nat→V):Option ((Nat→V) ⊕ (Nat×(Nat→V))):=
(binV .lss (v22 1) (.int .i64 ((((V.elems (o21.2 0)).length):Nat):Int))).bind fun x23=>
(
  asBool x23).bind fun b24=>
  if b24=true then
(
  binV .sub (.int .i64 (IntKind.wrap .i64 (((((V.elems (v22 0)).length):Nat):Int) - 1))) (v22 1)).bind fun x25=>
  tst (szOk 1 (V.elems (v22 0))) ((idxV x25 ((V.elems (v22 0)).length)).bind fun i26=>
((V.elems (v22 0))[i26]?).bind fun e27=>
(fldV e27 0).bind fun c28=>
(
  asStr c28).bind fun s29=>
  tst (decide (List.length (α:=UInt8) (txtV (v22 2))+List.length (α:=UInt8) s29≤140737488355328)) ((binV .add (v22 1) (.int .i64 1)).bind fun x30=>
  some (.inl (vec [(.sl (V.elems (v22 0))),x30,(.str ((txtV (v22 2))++s29))]))))
else
 some (.inr (0,(vec [(.str (txtV (v22 2)))])))
noncomputable def F_nat_Digits(a0:V):Option (V×List V):=
(P0 f_nat_Norm [.v a0] []).bind fun r1=>
(loopL (L_nat_Digits_2) (vec [r1.1,(.sl [])])).bind fun o21=>
(loopL (L_nat_Digits_3 o21) (vec [(.sl (V.elems (o21.2 0))),(.int .i64 0),(.str ([]:List UInt8))])).bind fun o31=>
(P0 f_strings_TrimLeft [.v (.str (txtV (o31.2 0))),.v (.str [48])] []).bind fun r32=>
(binV .neq r32.1 (.str [])).bind fun x33=>
(
  asBool x33).bind fun b34=>
  if b34=true then
  some (r32.1,[])
else
 some ((.str [48]),[])
theorem eq_nat_Digits(a0:V):P0 f_nat_Digits [.v a0] []=F_nat_Digits a0:=
 (pcL_eq (fn:=p_nat_Digits) (by kernel_rfl) _ _).trans (by kernel_rfl)
noncomputable def L_nat_Mul_1(n15:Nat)(a1:V)(c11:V)(v5:Nat→V)(q3:Nat×Nat)(v16:Nat→V):Option ((Nat→V) ⊕ (Nat×(Nat→V))):=
(binV .lss (v16 1) (.int .i64 ((n15:Nat):Int))).bind fun x17=>
(
  asBool x17).bind fun b18=>
  if b18=true then
(asSl 1 a1).bind fun l19=>
(idxV (v16 1) (l19.length)).bind fun i20=>
(l19[i20]?).bind fun e21=>
(fldV e21 0).bind fun c22=>
(cviV .u64 c11).bind fun x23=>
(cviV .u64 c22).bind fun x24=>
(binV .mul x23 x24).bind fun x25=>
(binV .add (v5 0) (v16 1)).bind fun x26=>
(idxV x26 q3.1).bind fun i27=>
((V.elems (v16 2))[(0+i27)]?).bind fun e28=>
(fldV e28 0).bind fun c29=>
(cviV .u64 c29).bind fun x30=>
(binV .add x25 x30).bind fun x31=>
(binV .add (v16 0) x31).bind fun x32=>
(binV .add (v5 0) (v16 1)).bind fun x33=>
(cviV .u32 x32).bind fun x34=>
(
  idxV x33 q3.1).bind fun i35=>
  tst (okN 1 x34) ((fldV x34 0).bind fun c36=>
(binV .shr x32 (.int .u64 32)).bind fun x37=>
(
  binV .add (v16 1) (.int .i64 1)).bind fun x38=>
  some (.inl (vec [x37,x38,(.sl ((V.elems (v16 2)).set (0+i35) c36))])))
else
 some (.inr (0,(vec [(v16 0),(.sl (V.elems (v16 2)))])))
noncomputable def L_nat_Mul_2(n4:Nat)(a0:V)(a1:V)(q3:Nat×Nat)(v5:Nat→V):Option ((Nat→V) ⊕ (Nat×(Nat→V))):=
(binV .lss (v5 0) (.int .i64 ((n4:Nat):Int))).bind fun x6=>
(
  asBool x6).bind fun b7=>
  if b7=true then
(asSl 1 a0).bind fun l8=>
(idxV (v5 0) (l8.length)).bind fun i9=>
(l8[i9]?).bind fun e10=>
(fldV e10 0).bind fun c11=>
(binV .eql c11 (.int .u32 0)).bind fun x12=>
(
  asBool x12).bind fun b13=>
  if b13=true then
(
  binV .add (v5 0) (.int .i64 1)).bind fun x14=>
  some (.inl (vec [x14,(.sl (V.elems (v5 1)))]))
else
(lenV a1).bind fun n15=>
(loopL (L_nat_Mul_1 n15 a1 c11 v5 q3) (vec [(.int .u64 0),(.int .i64 0),(.sl (V.elems (v5 1)))])).bind fun o39=>
(lenV a1).bind fun n40=>
(binV .add (v5 0) (.int .i64 ((n40:Nat):Int))).bind fun x41=>
(cviV .u32 (o39.2 0)).bind fun x42=>
(
  idxV x41 q3.1).bind fun i43=>
  tst (okN 1 x42) ((fldV x42 0).bind fun c44=>
(
  binV .add (v5 0) (.int .i64 1)).bind fun x45=>
  some (.inl (vec [x45,(.sl ((V.elems (o39.2 1)).set (0+i43) c44))])))
else
 some (.inr (0,(vec [(.sl (V.elems (v5 1)))])))
noncomputable def F_nat_Mul(a0:V)(a1:V):Option (V×List V):=
(lenV a0).bind fun n1=>
(lenV a1).bind fun n2=>
(mksV 4 (.int .i64 (IntKind.wrap .i64 (((n1:Nat):Int)+((n2:Nat):Int)))) (.int .i64 (IntKind.wrap .i64 (((n1:Nat):Int)+((n2:Nat):Int))))).bind fun q3=>
(lenV a0).bind fun n4=>
(loopL (L_nat_Mul_2 n4 a0 a1 q3) (vec [(.int .i64 0),(.sl (List.replicate q3.2 (.int .u32 0)))])).bind fun o46=>
(
  P0 f_nat_Norm [.v (.sl (((V.elems (o46.2 0)).drop 0).take q3.1))] []).bind fun r47=>
  some (r47.1,[])
theorem eq_nat_Mul(a0:V)(a1:V):P0 f_nat_Mul [.v a0,.v a1] []=F_nat_Mul a0 a1:=
 (pcL_eq (fn:=p_nat_Mul) (by kernel_rfl) _ _).trans (by kernel_rfl)
noncomputable def L_nat_Pow_1(v5:Nat→V):Option ((Nat→V) ⊕ (Nat×(Nat→V))):=
(binV .gtr (v5 0) (.int .i64 0)).bind fun x6=>
(
  asBool x6).bind fun b7=>
  if b7=true then
(((((binV .and (v5 0) (.int .i64 1)).bind fun x8=>
(binV .neq x8 (.int .i64 0)).bind fun x9=>
(
  asBool x9).bind fun b10=>
  if b10=true then
(
  P0 f_nat_Mul [.v (v5 1),.v (v5 2)] []).bind fun r11=>
  some (0,(vec [r11.1]))
else
 some (0,(vec [(v5 1)])):Option (Nat×(Nat→V)))).bind fun o12=>
(
  P0 f_nat_Mul [.v (v5 2),.v (v5 2)] []).bind fun r13=>
  some (0,(vec [(o12.2 0),r13.1])):Option (Nat×(Nat→V)))).bind fun o14=>
(
  binV .shr (v5 0) (.int .u64 1)).bind fun x15=>
  some (.inl (vec [x15,(o14.2 0),(o14.2 1)]))
else
 some (.inr (0,(vec [(v5 1)])))
noncomputable def F_nat_Pow(a0:V)(a1:V):Option (V×List V):=
 tst (okN 1 a0) ((fldV a0 0).bind fun c1=>
(P0 f_nat_Norm [.v (.sl [c1])] []).bind fun r2=>
(minV a1 [(.int .i64 1300)]).bind fun x3=>
(maxV (.int .i64 0) [x3]).bind fun x4=>
(
  loopL (L_nat_Pow_1) (vec [x4,(.sl [(.int .u32 1)]),r2.1])).bind fun o16=>
  some ((o16.2 0),[]))
theorem eq_nat_Pow(a0:V)(a1:V):P0 f_nat_Pow [.v a0,.v a1] []=F_nat_Pow a0 a1:=
 (pcL_eq (fn:=p_nat_Pow) (by kernel_rfl) _ _).trans (by kernel_rfl)
noncomputable def L_nat_Parse_1(n6:Nat)(a0:V)(v7:Nat→V):Option ((Nat→V) ⊕ (Nat×(Nat→V))):=
(binV .lss (v7 1) (.int .i64 ((n6:Nat):Int))).bind fun x8=>
(
  asBool x8).bind fun b9=>
  if b9=true then
(ixsV a0 (v7 1)).bind fun x10=>
(binV .lss x10 (.int .u8 48)).bind fun x11=>
(asBool x11).bind fun b12=>
((if b12=false then
(ixsV a0 (v7 1)).bind fun x13=>
(
  binV .gtr x13 (.int .u8 57)).bind fun x14=>
  some x14
else some (.bool true):Option V)).bind fun x15=>
(
  asBool x15).bind fun b16=>
  if b16=true then
  some (.inr (1,(vec [(.sl []),(.bool false)])))
else
(P0 f_nat_Mul [.v (v7 0),.v (.sl [(.int .u32 10)])] []).bind fun r17=>
(ixsV a0 (v7 1)).bind fun x18=>
(binV .sub x18 (.int .u8 48)).bind fun x19=>
(
  cviV .u32 x19).bind fun x20=>
  tst (okN 1 x20) ((fldV x20 0).bind fun c21=>
(P0 f_nat_Add [.v r17.1,.v (.sl [c21])] []).bind fun r22=>
(
  binV .add (v7 1) (.int .i64 1)).bind fun x23=>
  some (.inl (vec [r22.1,x23])))
else
 some (.inr (0,(vec [(v7 0)])))
noncomputable def F_nat_Parse(a0:V):Option (V×List V):=
(binV .eql a0 (.str [])).bind fun x1=>
(asBool x1).bind fun b2=>
((if b2=false then
(
  lnsV a0).bind fun n3=>
  some (.bool (decide ((((n3:Nat):Int):Int) > 2000)))
else some (.bool true):Option V)).bind fun x4=>
(
  asBool x4).bind fun b5=>
  if b5=true then
  some ((.tup [(.sl []),(.bool false)]),[])
else
(lnsV a0).bind fun n6=>
(
  loopL (L_nat_Parse_1 n6 a0) (vec [(.sl []),(.int .i64 0)])).bind fun o24=>
  if o24.1=0 then
  some ((.tup [(o24.2 0),(.bool true)]),[])
else
 some ((.tup [(o24.2 0),(o24.2 1)]),[])
theorem eq_nat_Parse(a0:V):P0 f_nat_Parse [.v a0] []=F_nat_Parse a0:=
 (pcL_eq (fn:=p_nat_Parse) (by kernel_rfl) _ _).trans (by kernel_rfl)
noncomputable def L_nat_Trim_1(v2:Nat→V):Option ((Nat→V) ⊕ (Nat×(Nat→V))):=
(
  lenV (v2 0)).bind fun n3=>
  if(decide ((((n3:Nat):Int):Int) > 0))=true then
(P0 f_nat_small [.v (v2 0),.v (.int .u32 10)] []).bind fun r4=>
(extV r4.1 0).bind fun x5=>
(extV r4.1 1).bind fun x6=>
(binV .neq x6 (.int .u32 0)).bind fun x7=>
(
  asBool x7).bind fun b8=>
  if b8=true then
  some (.inr (0,(vec [(v2 0),(v2 1)])))
else
(
  binV .add (v2 1) (.int .i64 1)).bind fun x9=>
  some (.inl (vec [x5,x9]))
else
 some (.inr (0,(vec [(v2 0),(v2 1)])))
noncomputable def F_nat_Trim(a0:V):Option (V×List V):=
(P0 f_nat_Norm [.v a0] []).bind fun r1=>
(
  loopL (L_nat_Trim_1) (vec [r1.1,(.int .i64 0)])).bind fun o10=>
  some ((.tup [(o10.2 0),(o10.2 1)]),[])
theorem eq_nat_Trim(a0:V):P0 f_nat_Trim [.v a0] []=F_nat_Trim a0:=
 (pcL_eq (fn:=p_nat_Trim) (by kernel_rfl) _ _).trans (by kernel_rfl)
noncomputable def F_cmp_Compare_uint64(a0:V)(a1:V):Option (V×List V):=
(P0 f_cmp_isNaN_uint64 [.v a0] []).bind fun r1=>
(P0 f_cmp_isNaN_uint64 [.v a1] []).bind fun r2=>
(
  asBool r1.1).bind fun b3=>
  if b3=true then
(
  asBool r2.1).bind fun b4=>
  if b4=true then
  some ((.int .i64 0),[])
else
 some ((.int .i64 (-1)),[])
else
(
  asBool r2.1).bind fun b5=>
  if b5=true then
  some ((.int .i64 1),[])
else
(binV .lss a0 a1).bind fun x6=>
(
  asBool x6).bind fun b7=>
  if b7=true then
  some ((.int .i64 (-1)),[])
else
(binV .gtr a0 a1).bind fun x8=>
(
  asBool x8).bind fun b9=>
  if b9=true then
  some ((.int .i64 1),[])
else
 some ((.int .i64 0),[])
theorem eq_cmp_Compare_uint64(a0:V)(a1:V):P0 f_cmp_Compare_uint64 [.v a0,.v a1] []=F_cmp_Compare_uint64 a0 a1:=
 (pcL_eq (fn:=p_cmp_Compare_uint64) (by kernel_rfl) _ _).trans (by kernel_rfl)
noncomputable def F_nat_at(a0:V)(a1:V):Option (V×List V):=
(lenV a0).bind fun n1=>
(binV .lss a1 (.int .i64 ((n1:Nat):Int))).bind fun x2=>
(
  asBool x2).bind fun b3=>
  if b3=true then
(asSl 1 a0).bind fun l4=>
(idxV a1 (l4.length)).bind fun i5=>
(l4[i5]?).bind fun e6=>
(fldV e6 0).bind fun c7=>
(
  cviV .u64 c7).bind fun x8=>
  some (x8,[])
else
 some ((.int .u64 0),[])
theorem eq_nat_at(a0:V)(a1:V):P0 f_nat_at [.v a0,.v a1] []=F_nat_at a0 a1:=
 (pcL_eq (fn:=p_nat_at) (by kernel_rfl) _ _).trans (by kernel_rfl)
noncomputable def L_nat_small_1(a0:V)(a1:V)(q2:Nat×Nat)(v4:Nat→V):Option ((Nat→V) ⊕ (Nat×(Nat→V))):=
(binV .geq (v4 1) (.int .i64 0)).bind fun x5=>
(
  asBool x5).bind fun b6=>
  if b6=true then
(binV .shl (v4 0) (.int .u64 32)).bind fun x7=>
(asSl 1 a0).bind fun l8=>
(idxV (v4 1) (l8.length)).bind fun i9=>
(l8[i9]?).bind fun e10=>
(fldV e10 0).bind fun c11=>
(cviV .u64 c11).bind fun x12=>
(binV .or x7 x12).bind fun x13=>
(cviV .u64 a1).bind fun x14=>
(binV .quo x13 x14).bind fun x15=>
(cviV .u32 x15).bind fun x16=>
(
  idxV (v4 1) q2.1).bind fun i17=>
  tst (okN 1 x16) ((fldV x16 0).bind fun c18=>
(cviV .u64 a1).bind fun x19=>
(binV .rem x13 x19).bind fun x20=>
(
  binV .sub (v4 1) (.int .i64 1)).bind fun x21=>
  some (.inl (vec [x20,x21,(.sl ((V.elems (v4 2)).set (0+i17) c18))])))
else
 some (.inr (0,(vec [(v4 0),(.sl (V.elems (v4 2)))])))
noncomputable def F_nat_small(a0:V)(a1:V):Option (V×List V):=
(lenV a0).bind fun n1=>
(mksV 4 (.int .i64 ((n1:Nat):Int)) (.int .i64 ((n1:Nat):Int))).bind fun q2=>
(lenV a0).bind fun n3=>
(loopL (L_nat_small_1 a0 a1 q2) (vec [(.int .u64 0),(.int .i64 (IntKind.wrap .i64 (((n3:Nat):Int) - 1))),(.sl (List.replicate q2.2 (.int .u32 0)))])).bind fun o22=>
(P0 f_nat_Norm [.v (.sl (((V.elems (o22.2 1)).drop 0).take q2.1))] []).bind fun r23=>
(
  cviV .u32 (o22.2 0)).bind fun x24=>
  some ((.tup [r23.1,x24]),[])
theorem eq_nat_small(a0:V)(a1:V):P0 f_nat_small [.v a0,.v a1] []=F_nat_small a0 a1:=
 (pcL_eq (fn:=p_nat_small) (by kernel_rfl) _ _).trans (by kernel_rfl)
noncomputable def F_strings_TrimLeft(a0:V)(a1:V):Option (V×List V):=
(binV .eql a0 (.str [])).bind fun x1=>
(asBool x1).bind fun b2=>
((if b2=false then
(
  binV .eql a1 (.str [])).bind fun x3=>
  some x3
else some (.bool true):Option V)).bind fun x4=>
(
  asBool x4).bind fun b5=>
  if b5=true then
  some (a0,[])
else
(lnsV a1).bind fun n6=>
((if((((n6:Nat):Int):Int) == 1)=true then
(ixsV a1 (.int .i64 0)).bind fun x7=>
(
  binV .lss x7 (.int .u8 128)).bind fun x8=>
  some x8
else some (.bool false):Option V)).bind fun x9=>
(
  asBool x9).bind fun b10=>
  if b10=true then
(ixsV a1 (.int .i64 0)).bind fun x11=>
(
  P0 f_strings_trimLeftByte [.v a0,.v x11] []).bind fun r12=>
  some (r12.1,[])
else
(P0 f_strings_makeASCIISet [.v a1] []).bind fun r13=>
(extV r13.1 0).bind fun x14=>
(
  extV r13.1 1).bind fun x15=>
  tst (okN 256 x14) ((asBool x15).bind fun b16=>
  if b16=true then
(P0 f_strings_trimLeftASCII [.v a0,.p 0 0] [(false,256,x14)]).bind fun r17=>
(
  r17.2[0]?).bind fun y18=>
  some (r17.1,[])
else
(
  P0 f_strings_trimLeftUnicode [.v a0,.v a1] []).bind fun r19=>
  some (r19.1,[]))
theorem eq_strings_TrimLeft(a0:V)(a1:V):P0 f_strings_TrimLeft [.v a0,.v a1] []=F_strings_TrimLeft a0 a1:=
 (pcL_eq (fn:=p_strings_TrimLeft) (by kernel_rfl) _ _).trans (by kernel_rfl)
noncomputable def F_cmp_isNaN_uint64(a0:V):Option (V×List V):=
(
  binV .neq a0 a0).bind fun x1=>
  some (x1,[])
theorem eq_cmp_isNaN_uint64(a0:V):P0 f_cmp_isNaN_uint64 [.v a0] []=F_cmp_isNaN_uint64 a0:=
 (pcL_eq (fn:=p_cmp_isNaN_uint64) (by kernel_rfl) _ _).trans (by kernel_rfl)
noncomputable def L_strings_trimLeftByte_1(a1:V)(v1:Nat→V):Option ((Nat→V) ⊕ (Nat×(Nat→V))):=
(lnsV (v1 0)).bind fun n2=>
((if(decide ((((n2:Nat):Int):Int) > 0))=true then
(ixsV (v1 0) (.int .i64 0)).bind fun x3=>
(
  binV .eql x3 a1).bind fun x4=>
  some x4
else some (.bool false):Option V)).bind fun x5=>
(
  asBool x5).bind fun b6=>
  if b6=true then
(
  slsV (v1 0) (some (.int .i64 1)) none).bind fun x7=>
  some (.inl (vec [x7]))
else
 some (.inr (0,(vec [(v1 0)])))
noncomputable def F_strings_trimLeftByte(a0:V)(a1:V):Option (V×List V):=
(
  loopL (L_strings_trimLeftByte_1 a1) (vec [a0])).bind fun o8=>
  some ((o8.2 0),[])
theorem eq_strings_trimLeftByte(a0:V)(a1:V):P0 f_strings_trimLeftByte [.v a0,.v a1] []=F_strings_trimLeftByte a0 a1:=
 (pcL_eq (fn:=p_strings_trimLeftByte) (by kernel_rfl) _ _).trans (by kernel_rfl)
end Go.Ev
