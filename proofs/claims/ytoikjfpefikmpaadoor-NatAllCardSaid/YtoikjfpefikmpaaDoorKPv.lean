/- What the functions compute. -/
import Derived.Test.YtoikjfpefikmpaaDoorKCode
import Derived.KernelRfl
set_option linter.all false
namespace Go.Ev
noncomputable def F_law01_NatAll(a0:V)(a1:V)(a2:V)(a3:V)(a4:V):Option (V×List V):=
(P0 f_law01_few [.v a0,.v a1] []).bind fun r1=>
(unV .not r1.1).bind fun x2=>
(asBool x2).bind fun b3=>
((if b3=false then
(
  lnsV a4).bind fun n4=>
  some (.bool (decide ((((n4:Nat):Int):Int) > 300)))
else some (.bool true):Option V)).bind fun x5=>
(asBool x5).bind fun b6=>
((if b6=false then
(binV .gtr a3 (.int .i64 40)).bind fun x7=>
(asBool x7).bind fun b8=>
((if b8=true then
(
  binV .lss a3 (.int .i64 1300)).bind fun x9=>
  some x9
else some (.bool false):Option V)).bind fun x10=>
 some x10
else some (.bool true):Option V)).bind fun x11=>
(
  asBool x11).bind fun b12=>
  if b12=true then
(
  P0 f_law01_awake [] []).bind fun r13=>
  some (r13.1,[])
else
(P0 f_law00_Limbs [.g,.v a0] []).bind fun r14=>
(slV r14.1).bind fun l15=>
(P0 f_law00_Limbs [.g,.v a1] []).bind fun r16=>
(slV r16.1).bind fun l17=>
(P0 f_nat_Div [.v (.sl l15),.v (.sl l17)] []).bind fun r18=>
(extV r18.1 0).bind fun x19=>
(extV r18.1 1).bind fun x20=>
(P0 f_ref01_Div [.v a0,.v a1] []).bind fun r21=>
(extV r21.1 0).bind fun x22=>
(extV r21.1 1).bind fun x23=>
(P0 f_nat_Trim [.v (.sl l15)] []).bind fun r24=>
(extV r24.1 0).bind fun x25=>
(extV r24.1 1).bind fun x26=>
(P0 f_ref01_Trim [.v a0] []).bind fun r27=>
(extV r27.1 0).bind fun x28=>
(extV r27.1 1).bind fun x29=>
(P0 f_nat_Parse [.v a4] []).bind fun r30=>
(extV r30.1 0).bind fun x31=>
(extV r30.1 1).bind fun x32=>
(P0 f_ref01_Parse [.v a4] []).bind fun r33=>
(extV r33.1 0).bind fun x34=>
(extV r33.1 1).bind fun x35=>
(P0 f_law00_SameLimbs [.v x19,.v x22] []).bind fun r36=>
(unV .not r36.1).bind fun x37=>
(asBool x37).bind fun b38=>
((if b38=false then
(P0 f_law00_SameLimbs [.v x20,.v x23] []).bind fun r39=>
(
  unV .not r39.1).bind fun x40=>
  some x40
else some (.bool true):Option V)).bind fun x41=>
(asBool x41).bind fun b42=>
((if b42=false then
(P0 f_law00_SameLimbs [.v x25,.v x28] []).bind fun r43=>
(
  unV .not r43.1).bind fun x44=>
  some x44
else some (.bool true):Option V)).bind fun x45=>
(asBool x45).bind fun b46=>
((if b46=false then
(
  binV .neq x26 x29).bind fun x47=>
  some x47
else some (.bool true):Option V)).bind fun x48=>
(asBool x48).bind fun b49=>
((if b49=false then
(P0 f_law00_SameLimbs [.v x31,.v x34] []).bind fun r50=>
(
  unV .not r50.1).bind fun x51=>
  some x51
else some (.bool true):Option V)).bind fun x52=>
(asBool x52).bind fun b53=>
((if b53=false then
(asBool x32).bind fun b54=>
(
  asBool x35).bind fun b55=>
  some (.bool (!(b54 == b55)))
else some (.bool true):Option V)).bind fun x56=>
(asBool x56).bind fun b57=>
((if b57=false then
(P0 f_nat_Cmp [.v (.sl l15),.v (.sl l17)] []).bind fun r58=>
(P0 f_ref01_Cmp [.v a0,.v a1] []).bind fun r59=>
(
  binV .neq r58.1 r59.1).bind fun x60=>
  some x60
else some (.bool true):Option V)).bind fun x61=>
(asBool x61).bind fun b62=>
((if b62=false then
(P0 f_nat_Bits [.v (.sl l15)] []).bind fun r63=>
(P0 f_ref01_Bits [.v a0] []).bind fun r64=>
(
  binV .neq r63.1 r64.1).bind fun x65=>
  some x65
else some (.bool true):Option V)).bind fun x66=>
(
  asBool x66).bind fun b67=>
  if b67=true then
  some ((.bool false),[])
else
(binV .lss a3 (.int .i64 40)).bind fun x68=>
(asBool x68).bind fun b69=>
((if b69=true then
(P0 f_nat_Pow [.v a2,.v a3] []).bind fun r70=>
(P0 f_ref01_Pow [.v a2,.v a3] []).bind fun r71=>
(P0 f_law00_SameLimbs [.v r70.1,.v r71.1] []).bind fun r72=>
(
  unV .not r72.1).bind fun x73=>
  some x73
else some (.bool false):Option V)).bind fun x74=>
(
  asBool x74).bind fun b75=>
  if b75=true then
  some ((.bool false),[])
else
(P0 f_nat_Norm [.v (.sl l15)] []).bind fun r76=>
(P0 f_ref01_Norm [.v a0] []).bind fun r77=>
(P0 f_law00_SameLimbs [.v r76.1,.v r77.1] []).bind fun r78=>
(asBool r78.1).bind fun b79=>
((if b79=true then
(P0 f_nat_Add [.v (.sl l15),.v (.sl l17)] []).bind fun r80=>
(P0 f_ref01_Add [.v a0,.v a1] []).bind fun r81=>
(
  P0 f_law00_SameLimbs [.v r80.1,.v r81.1] []).bind fun r82=>
  some r82.1
else some (.bool false):Option V)).bind fun x83=>
(asBool x83).bind fun b84=>
((if b84=true then
(P0 f_nat_Sub [.v (.sl l15),.v (.sl l17)] []).bind fun r85=>
(P0 f_ref01_Sub [.v a0,.v a1] []).bind fun r86=>
(
  P0 f_law00_SameLimbs [.v r85.1,.v r86.1] []).bind fun r87=>
  some r87.1
else some (.bool false):Option V)).bind fun x88=>
(asBool x88).bind fun b89=>
((if b89=true then
(P0 f_nat_Mul [.v (.sl l15),.v (.sl l17)] []).bind fun r90=>
(P0 f_ref01_Mul [.v a0,.v a1] []).bind fun r91=>
(
  P0 f_law00_SameLimbs [.v r90.1,.v r91.1] []).bind fun r92=>
  some r92.1
else some (.bool false):Option V)).bind fun x93=>
(asBool x93).bind fun b94=>
((if b94=true then
(P0 f_nat_Digits [.v (.sl l15)] []).bind fun r95=>
(P0 f_ref01_Digits [.v a0] []).bind fun r96=>
(
  binV .eql r95.1 r96.1).bind fun x97=>
  some x97
else some (.bool false):Option V)).bind fun x98=>
(asBool x98).bind fun b99=>
((if b99=true then
(
  P0 f_law00_SameLimbs [.v (.sl l15),.v a0] []).bind fun r100=>
  some r100.1
else some (.bool false):Option V)).bind fun x101=>
(asBool x101).bind fun b102=>
((if b102=true then
(
  P0 f_law00_SameLimbs [.v (.sl l17),.v a1] []).bind fun r103=>
  some r103.1
else some (.bool false):Option V)).bind fun x104=>
(asBool x104).bind fun b105=>
((if b105=true then
(
  P0 f_law01_awake [] []).bind fun r106=>
  some r106.1
else some (.bool false):Option V)).bind fun x107=>
 some (x107,[])
theorem eq_law01_NatAll(a0:V)(a1:V)(a2:V)(a3:V)(a4:V):P0 f_law01_NatAll [.v a0,.v a1,.v a2,.v a3,.v a4] []=F_law01_NatAll a0 a1 a2 a3 a4:=
 (pcL_eq (fn:=p_law01_NatAll) (by kernel_rfl) _ _).trans (by kernel_rfl)
noncomputable def F_law01_few(a0:V)(a1:V):Option (V×List V):=
(lenV a0).bind fun n1=>
((if(decide ((((n1:Nat):Int):Int)≤25))=true then
(
  lenV a1).bind fun n2=>
  some (.bool (decide ((((n2:Nat):Int):Int)≤25)))
else some (.bool false):Option V)).bind fun x3=>
 some (x3,[])
theorem eq_law01_few(a0:V)(a1:V):P0 f_law01_few [.v a0,.v a1] []=F_law01_few a0 a1:=
 (pcL_eq (fn:=p_law01_few) (by kernel_rfl) _ _).trans (by kernel_rfl)
noncomputable def F_law01_awake:Option (V×List V):=
(P0 f_nat_Trim [.v (.sl [(.int .u32 1200)])] []).bind fun r1=>
(extV r1.1 0).bind fun x2=>
(extV r1.1 1).bind fun x3=>
(lenV x2).bind fun n4=>
((if((((n4:Nat):Int):Int) == 1)=true then
(asSl 1 x2).bind fun l5=>
(idxV (.int .i64 0) (l5.length)).bind fun i6=>
(l5[i6]?).bind fun e7=>
(fldV e7 0).bind fun c8=>
(
  binV .eql c8 (.int .u32 12)).bind fun x9=>
  some x9
else some (.bool false):Option V)).bind fun x10=>
(asBool x10).bind fun b11=>
((if b11=true then
(
  binV .eql x3 (.int .i64 2)).bind fun x12=>
  some x12
else some (.bool false):Option V)).bind fun x13=>
(asBool x13).bind fun b14=>
((if b14=true then
(P0 f_nat_Digits [.v (.sl [(.int .u32 0),(.int .u32 1)])] []).bind fun r15=>
(
  binV .eql r15.1 (.str [52,50,57,52,57,54,55,50,57,54])).bind fun x16=>
  some x16
else some (.bool false):Option V)).bind fun x17=>
 some (x17,[])
theorem eq_law01_awake:P0 f_law01_awake [] []=F_law01_awake:=
 (pcL_eq (fn:=p_law01_awake) (by kernel_rfl) _ _).trans (by kernel_rfl)
noncomputable def L_nat_Cmp_1(a0:V)(a1:V)(v5:Nat→V):Option ((Nat→V) ⊕ (Nat×(Nat→V))):=
(binV .geq (v5 0) (.int .i64 0)).bind fun x6=>
(
  asBool x6).bind fun b7=>
  if b7=true then
(P0 f_nat_at [.v a0,.v (v5 0)] []).bind fun r8=>
(P0 f_nat_at [.v a1,.v (v5 0)] []).bind fun r9=>
(P0 f_cmp_Compare_uint64 [.v r8.1,.v r9.1] []).bind fun r10=>
(binV .neq r10.1 (.int .i64 0)).bind fun x11=>
(
  asBool x11).bind fun b12=>
  if b12=true then
  some (.inr (1,(vec [r10.1])))
else
(
  binV .sub (v5 0) (.int .i64 1)).bind fun x13=>
  some (.inl (vec [x13]))
else
 some (.inr (0,(vec [])))
noncomputable def F_nat_Cmp(a0:V)(a1:V):Option (V×List V):=
(lenV a0).bind fun n1=>
(lenV a1).bind fun n2=>
(maxV (.int .i64 ((n1:Nat):Int)) [(.int .i64 ((n2:Nat):Int))]).bind fun x3=>
(binV .sub x3 (.int .i64 1)).bind fun x4=>
(
  loopL (L_nat_Cmp_1 a0 a1) (vec [x4])).bind fun o14=>
  if o14.1=0 then
  some ((.int .i64 0),[])
else
 some ((o14.2 0),[])
theorem eq_nat_Cmp(a0:V)(a1:V):P0 f_nat_Cmp [.v a0,.v a1] []=F_nat_Cmp a0 a1:=
 (pcL_eq (fn:=p_nat_Cmp) (by kernel_rfl) _ _).trans (by kernel_rfl)
noncomputable def F_law00_Limbs(a0:V):Option (V×List V):=
(
  asEl 1 a0).bind fun l1=>
  tst (appOk 4 (List.length (α:=V) []) (l1.length)) (some ((.sl (([]:List V)++l1)),[]))
theorem eq_law00_Limbs(a0:V):P0 f_law00_Limbs [.g,.v a0] []=F_law00_Limbs a0:=
 (pcL_eq (fn:=p_law00_Limbs) (by kernel_rfl) _ _).trans (by kernel_rfl)
noncomputable def L_nat_Add_1(x4:V)(a0:V)(a1:V)(v5:Nat→V):Option ((Nat→V) ⊕ (Nat×(Nat→V))):=
(binV .lss (v5 2) x4).bind fun x6=>
(
  asBool x6).bind fun b7=>
  if b7=true then
(P0 f_nat_at [.v a0,.v (v5 2)] []).bind fun r8=>
(P0 f_nat_at [.v a1,.v (v5 2)] []).bind fun r9=>
(binV .add r8.1 r9.1).bind fun x10=>
(binV .add (v5 1) x10).bind fun x11=>
(
  cviV .u32 x11).bind fun x12=>
  tst (okN 1 x12) ((fldV x12 0).bind fun c13=>
  tst (szOk 1 [c13]) (tst (appOk 4 ((V.elems (v5 0)).length) (List.length (α:=V) [c13])) ((binV .shr x11 (.int .u64 32)).bind fun x14=>
(
  binV .add (v5 2) (.int .i64 1)).bind fun x15=>
  some (.inl (vec [(.sl ((V.elems (v5 0))++([c13]:List V))),x14,x15])))))
else
 some (.inr (0,(vec [(.sl (V.elems (v5 0)))])))
noncomputable def F_nat_Add(a0:V)(a1:V):Option (V×List V):=
(lenV a0).bind fun n1=>
(lenV a1).bind fun n2=>
(maxV (.int .i64 ((n1:Nat):Int)) [(.int .i64 ((n2:Nat):Int))]).bind fun x3=>
(binV .add x3 (.int .i64 1)).bind fun x4=>
(loopL (L_nat_Add_1 x4 a0 a1) (vec [(.sl []),(.int .u64 0),(.int .i64 0)])).bind fun o16=>
(
  P0 f_nat_Norm [.v (.sl (V.elems (o16.2 0)))] []).bind fun r17=>
  some (r17.1,[])
theorem eq_nat_Add(a0:V)(a1:V):P0 f_nat_Add [.v a0,.v a1] []=F_nat_Add a0 a1:=
 (pcL_eq (fn:=p_nat_Add) (by kernel_rfl) _ _).trans (by kernel_rfl)
noncomputable def L_law00_SameLimbs_1(a0:V)(a1:V)(v3:Nat→V):Option ((Nat→V) ⊕ (Nat×(Nat→V))):=
(lenV a0).bind fun n4=>
(binV .lss (v3 0) (.int .i64 ((n4:Nat):Int))).bind fun x5=>
(
  asBool x5).bind fun b6=>
  if b6=true then
(asSl 1 a0).bind fun l7=>
(idxV (v3 0) (l7.length)).bind fun i9=>
(l7[i9]?).bind fun e10=>
(fldV e10 0).bind fun c11=>
(asSl 1 a1).bind fun l12=>
(idxV (v3 0) (l12.length)).bind fun i13=>
(l12[i13]?).bind fun e14=>
(fldV e14 0).bind fun c15=>
(binV .neq c11 c15).bind fun x16=>
(
  asBool x16).bind fun b17=>
  if b17=true then
  some (.inr (1,(vec [(.bool false)])))
else
(
  binV .add (v3 0) (.int .i64 1)).bind fun x18=>
  some (.inl (vec [x18]))
else
 some (.inr (0,(vec [])))
noncomputable def F_law00_SameLimbs(a0:V)(a1:V):Option (V×List V):=
(lenV a0).bind fun n1=>
(
  lenV a1).bind fun n2=>
  if((((n1:Nat):Int):Int) != ((n2:Nat):Int))=true then
  some ((.bool false),[])
else
(
  loopL (L_law00_SameLimbs_1 a0 a1) (vec [(.int .i64 0)])).bind fun o19=>
  if o19.1=0 then
  some ((.bool true),[])
else
 some ((o19.2 0),[])
theorem eq_law00_SameLimbs(a0:V)(a1:V):P0 f_law00_SameLimbs [.v a0,.v a1] []=F_law00_SameLimbs a0 a1:=
 (pcL_eq (fn:=p_law00_SameLimbs) (by kernel_rfl) _ _).trans (by kernel_rfl)
noncomputable def L_nat_Norm_1(a0:V)(v2:Nat→V):Option ((Nat→V) ⊕ (Nat×(Nat→V))):=
(binV .gtr (v2 0) (.int .i64 0)).bind fun x3=>
(asBool x3).bind fun b4=>
((if b4=true then
(binV .sub (v2 0) (.int .i64 1)).bind fun x5=>
(asSl 1 a0).bind fun l6=>
(idxV x5 (l6.length)).bind fun i7=>
(l6[i7]?).bind fun e8=>
(fldV e8 0).bind fun c9=>
(
  binV .eql c9 (.int .u32 0)).bind fun x10=>
  some x10
else some (.bool false):Option V)).bind fun x11=>
(
  asBool x11).bind fun b12=>
  if b12=true then
(
  binV .sub (v2 0) (.int .i64 1)).bind fun x13=>
  some (.inl (vec [x13]))
else
 some (.inr (0,(vec [(v2 0)])))
noncomputable def F_nat_Norm(a0:V):Option (V×List V):=
(lenV a0).bind fun n1=>
(loopL (L_nat_Norm_1 a0) (vec [(.int .i64 ((n1:Nat):Int))])).bind fun o14=>
(binV .eql (o14.2 0) (.int .i64 0)).bind fun x15=>
(
  asBool x15).bind fun b16=>
  if b16=true then
  some ((.sl []),[])
else
(mksV 4 (o14.2 0) (o14.2 0)).bind fun q17=>
(
  asEl 1 a0).bind fun l18=>
  some ((.sl (((setL (List.replicate q17.2 (.int .u32 0)) 0 (l18.take (Nat.min (l18.length) q17.1))).drop 0).take q17.1)),[])
theorem eq_nat_Norm(a0:V):P0 f_nat_Norm [.v a0] []=F_nat_Norm a0:=
 (pcL_eq (fn:=p_nat_Norm) (by kernel_rfl) _ _).trans (by kernel_rfl)
noncomputable def L_nat_Bits_1(a0:V)(v2:Nat→V):Option ((Nat→V) ⊕ (Nat×(Nat→V))):=
(binV .geq (v2 0) (.int .i64 0)).bind fun x3=>
(asBool x3).bind fun b4=>
((if b4=true then
(asSl 1 a0).bind fun l5=>
(idxV (v2 0) (l5.length)).bind fun i6=>
(l5[i6]?).bind fun e7=>
(fldV e7 0).bind fun c8=>
(
  binV .eql c8 (.int .u32 0)).bind fun x9=>
  some x9
else some (.bool false):Option V)).bind fun x10=>
(
  asBool x10).bind fun b11=>
  if b11=true then
(
  binV .sub (v2 0) (.int .i64 1)).bind fun x12=>
  some (.inl (vec [x12]))
else
 some (.inr (0,(vec [(v2 0)])))
noncomputable def F_nat_Bits(a0:V):Option (V×List V):=
(lenV a0).bind fun n1=>
(loopL (L_nat_Bits_1 a0) (vec [(.int .i64 (IntKind.wrap .i64 (((n1:Nat):Int) - 1)))])).bind fun o13=>
(binV .lss (o13.2 0) (.int .i64 0)).bind fun x14=>
(
  asBool x14).bind fun b15=>
  if b15=true then
  some ((.int .i64 0),[])
else
(binV .mul (.int .i64 32) (o13.2 0)).bind fun x16=>
(asSl 1 a0).bind fun l17=>
(idxV (o13.2 0) (l17.length)).bind fun i18=>
(l17[i18]?).bind fun e19=>
(fldV e19 0).bind fun c20=>
(P0 f_math_bits_Len32 [.v c20] []).bind fun r21=>
(
  binV .add x16 r21.1).bind fun x22=>
  some (x22,[])
theorem eq_nat_Bits(a0:V):P0 f_nat_Bits [.v a0] []=F_nat_Bits a0:=
 (pcL_eq (fn:=p_nat_Bits) (by kernel_rfl) _ _).trans (by kernel_rfl)
noncomputable def L_nat_Digits_1(v7:Nat→V):Option ((Nat→V) ⊕ (Nat×(Nat→V))):=
(binV .lss (v7 2) (.int .i64 9)).bind fun x8=>
(
  asBool x8).bind fun b9=>
  if b9=true then
(binV .sub (.int .i64 8) (v7 2)).bind fun x10=>
(binV .rem (v7 1) (.int .u32 10)).bind fun x11=>
(binV .add (.int .u32 48) x11).bind fun x12=>
(cviV .u8 x12).bind fun x13=>
(
  idxV x10 9).bind fun i14=>
  tst (Nat.blt i14 ((V.elems (v7 3)).length)) (tst (okN 1 x13) ((fldV x13 0).bind fun c15=>
(binV .quo (v7 1) (.int .u32 10)).bind fun x16=>
(
  binV .add (v7 2) (.int .i64 1)).bind fun x17=>
  some (.inl (vec [(.sl (V.elems (v7 0))),x16,x17,(.sl ((V.elems (v7 3)).set i14 c15))]))))
else
 some (.inr (0,(vec [(.sl (V.elems (v7 0))),(.sl (V.elems (v7 3)))])))
noncomputable def L_nat_Digits_2(v2:Nat→V):Option ((Nat→V) ⊕ (Nat×(Nat→V))):=
(
  lenV (v2 0)).bind fun n3=>
  if(decide ((((n3:Nat):Int):Int) > 0))=true then
(P0 f_nat_small [.v (v2 0),.v (.int .u32 1000000000)] []).bind fun r4=>
(extV r4.1 0).bind fun x5=>
(extV r4.1 1).bind fun x6=>
(
  loopL (L_nat_Digits_1) (vec [(.sl (V.elems (v2 1))),x6,(.int .i64 0),(.sl (List.replicate 9 (V.int .u8 0)))])).bind fun o18=>
  tst (Nat.ble 9 ((V.elems (o18.2 1)).length)) ((bndR none none none 9 9).bind fun q19=>
(
  asBytesV (((V.elems (o18.2 1)).drop q19.1).take (q19.2.1 - q19.1))).bind fun s20=>
  tst (szOk 1 [(.str s20)]) (tst (appOk 16 ((V.elems (o18.2 0)).length) (List.length (α:=V) [(.str s20)])) (some (.inl (vec [x5,(.sl ((V.elems (o18.2 0))++([(.str s20)]:List V)))])))))
else
 some (.inr (0,(vec [(.sl (V.elems (v2 1)))])))
noncomputable def L_nat_Digits_3(o21:Nat×(Nat→V))(v22:Nat→V):Option ((Nat→V) ⊕ (Nat×(Nat→V))):=
(binV .lss (v22 1) (.int .i64 ((((V.elems (o21.2 0)).length):Nat):Int))).bind fun x23=>
(
  asBool x23).bind fun b24=>
  if b24=true then
(
  binV .sub (.int .i64 (IntKind.wrap .i64 (((((V.elems (v22 0)).length):Nat):Int) - 1))) (v22 1)).bind fun x25=>
  tst (szOk 1 (V.elems (v22 0))) ((idxV x25 ((V.elems (v22 0)).length)).bind fun i26=>
((V.elems (v22 0))[i26]?).bind fun e27=>
(fldV e27 0).bind fun c28=>
(
  asStr c28).bind fun s29=>
  tst (decide (List.length (α:=UInt8) (txtV (v22 2))+List.length (α:=UInt8) s29≤140737488355328)) ((binV .add (v22 1) (.int .i64 1)).bind fun x30=>
  some (.inl (vec [(.sl (V.elems (v22 0))),x30,(.str ((txtV (v22 2))++s29))]))))
else
 some (.inr (0,(vec [(.str (txtV (v22 2)))])))
noncomputable def F_nat_Digits(a0:V):Option (V×List V):=
(P0 f_nat_Norm [.v a0] []).bind fun r1=>
(loopL (L_nat_Digits_2) (vec [r1.1,(.sl [])])).bind fun o21=>
(loopL (L_nat_Digits_3 o21) (vec [(.sl (V.elems (o21.2 0))),(.int .i64 0),(.str ([]:List UInt8))])).bind fun o31=>
(P0 f_strings_TrimLeft [.v (.str (txtV (o31.2 0))),.v (.str [48])] []).bind fun r32=>
(binV .neq r32.1 (.str [])).bind fun x33=>
(
  asBool x33).bind fun b34=>
  if b34=true then
  some (r32.1,[])
else
 some ((.str [48]),[])
theorem eq_nat_Digits(a0:V):P0 f_nat_Digits [.v a0] []=F_nat_Digits a0:=
 (pcL_eq (fn:=p_nat_Digits) (by kernel_rfl) _ _).trans (by kernel_rfl)
noncomputable def L_nat_Sub_1(x6:V)(a0:V)(a1:V)(v7:Nat→V):Option ((Nat→V) ⊕ (Nat×(Nat→V))):=
(binV .lss (v7 2) x6).bind fun x8=>
(
  asBool x8).bind fun b9=>
  if b9=true then
(P0 f_nat_at [.v a0,.v (v7 2)] []).bind fun r10=>
(P0 f_nat_at [.v a1,.v (v7 2)] []).bind fun r11=>
(binV .sub r10.1 r11.1).bind fun x12=>
(binV .sub x12 (v7 1)).bind fun x13=>
(
  cviV .u32 x13).bind fun x14=>
  tst (okN 1 x14) ((fldV x14 0).bind fun c15=>
  tst (szOk 1 [c15]) (tst (appOk 4 ((V.elems (v7 0)).length) (List.length (α:=V) [c15])) ((binV .shr x13 (.int .u64 63)).bind fun x16=>
(
  binV .add (v7 2) (.int .i64 1)).bind fun x17=>
  some (.inl (vec [(.sl ((V.elems (v7 0))++([c15]:List V))),x16,x17])))))
else
 some (.inr (0,(vec [(.sl (V.elems (v7 0)))])))
noncomputable def F_nat_Sub(a0:V)(a1:V):Option (V×List V):=
(P0 f_nat_Cmp [.v a0,.v a1] []).bind fun r1=>
(binV .lss r1.1 (.int .i64 0)).bind fun x2=>
(
  asBool x2).bind fun b3=>
  if b3=true then
  some ((.sl []),[])
else
(lenV a0).bind fun n4=>
(lenV a1).bind fun n5=>
(maxV (.int .i64 ((n4:Nat):Int)) [(.int .i64 ((n5:Nat):Int))]).bind fun x6=>
(loopL (L_nat_Sub_1 x6 a0 a1) (vec [(.sl []),(.int .u64 0),(.int .i64 0)])).bind fun o18=>
(
  P0 f_nat_Norm [.v (.sl (V.elems (o18.2 0)))] []).bind fun r19=>
  some (r19.1,[])
theorem eq_nat_Sub(a0:V)(a1:V):P0 f_nat_Sub [.v a0,.v a1] []=F_nat_Sub a0 a1:=
 (pcL_eq (fn:=p_nat_Sub) (by kernel_rfl) _ _).trans (by kernel_rfl)
noncomputable def L_nat_Mul_1(n15:Nat)(a1:V)(c11:V)(v5:Nat→V)(q3:Nat×Nat)(v16:Nat→V):Option ((Nat→V) ⊕ (Nat×(Nat→V))):=
(binV .lss (v16 1) (.int .i64 ((n15:Nat):Int))).bind fun x17=>
(
  asBool x17).bind fun b18=>
  if b18=true then
(asSl 1 a1).bind fun l19=>
(idxV (v16 1) (l19.length)).bind fun i20=>
(l19[i20]?).bind fun e21=>
(fldV e21 0).bind fun c22=>
(cviV .u64 c11).bind fun x23=>
(cviV .u64 c22).bind fun x24=>
(binV .mul x23 x24).bind fun x25=>
(binV .add (v5 0) (v16 1)).bind fun x26=>
(idxV x26 q3.1).bind fun i27=>
((V.elems (v16 2))[(0+i27)]?).bind fun e28=>
(fldV e28 0).bind fun c29=>
(cviV .u64 c29).bind fun x30=>
(binV .add x25 x30).bind fun x31=>
(binV .add (v16 0) x31).bind fun x32=>
(binV .add (v5 0) (v16 1)).bind fun x33=>
(cviV .u32 x32).bind fun x34=>
(
  idxV x33 q3.1).bind fun i35=>
  tst (okN 1 x34) ((fldV x34 0).bind fun c36=>
(binV .shr x32 (.int .u64 32)).bind fun x37=>
(
  binV .add (v16 1) (.int .i64 1)).bind fun x38=>
  some (.inl (vec [x37,x38,(.sl ((V.elems (v16 2)).set (0+i35) c36))])))
else
 some (.inr (0,(vec [(v16 0),(.sl (V.elems (v16 2)))])))
noncomputable def L_nat_Mul_2(n4:Nat)(a0:V)(a1:V)(q3:Nat×Nat)(v5:Nat→V):Option ((Nat→V) ⊕ (Nat×(Nat→V))):=
(binV .lss (v5 0) (.int .i64 ((n4:Nat):Int))).bind fun x6=>
(
  asBool x6).bind fun b7=>
  if b7=true then
(asSl 1 a0).bind fun l8=>
(idxV (v5 0) (l8.length)).bind fun i9=>
(l8[i9]?).bind fun e10=>
(fldV e10 0).bind fun c11=>
(binV .eql c11 (.int .u32 0)).bind fun x12=>
(
  asBool x12).bind fun b13=>
  if b13=true then
(
  binV .add (v5 0) (.int .i64 1)).bind fun x14=>
  some (.inl (vec [x14,(.sl (V.elems (v5 1)))]))
else
(lenV a1).bind fun n15=>
(loopL (L_nat_Mul_1 n15 a1 c11 v5 q3) (vec [(.int .u64 0),(.int .i64 0),(.sl (V.elems (v5 1)))])).bind fun o39=>
(lenV a1).bind fun n40=>
(binV .add (v5 0) (.int .i64 ((n40:Nat):Int))).bind fun x41=>
(cviV .u32 (o39.2 0)).bind fun x42=>
(
  idxV x41 q3.1).bind fun i43=>
  tst (okN 1 x42) ((fldV x42 0).bind fun c44=>
(
  binV .add (v5 0) (.int .i64 1)).bind fun x45=>
  some (.inl (vec [x45,(.sl ((V.elems (o39.2 1)).set (0+i43) c44))])))
else
 some (.inr (0,(vec [(.sl (V.elems (v5 1)))])))
noncomputable def F_nat_Mul(a0:V)(a1:V):Option (V×List V):=
(lenV a0).bind fun n1=>
(lenV a1).bind fun n2=>
(mksV 4 (.int .i64 (IntKind.wrap .i64 (((n1:Nat):Int)+((n2:Nat):Int)))) (.int .i64 (IntKind.wrap .i64 (((n1:Nat):Int)+((n2:Nat):Int))))).bind fun q3=>
(lenV a0).bind fun n4=>
(loopL (L_nat_Mul_2 n4 a0 a1 q3) (vec [(.int .i64 0),(.sl (List.replicate q3.2 (.int .u32 0)))])).bind fun o46=>
(
  P0 f_nat_Norm [.v (.sl (((V.elems (o46.2 0)).drop 0).take q3.1))] []).bind fun r47=>
  some (r47.1,[])
theorem eq_nat_Mul(a0:V)(a1:V):P0 f_nat_Mul [.v a0,.v a1] []=F_nat_Mul a0 a1:=
 (pcL_eq (fn:=p_nat_Mul) (by kernel_rfl) _ _).trans (by kernel_rfl)
noncomputable def L_nat_Pow_1(v5:Nat→V):Option ((Nat→V) ⊕ (Nat×(Nat→V))):=
(binV .gtr (v5 0) (.int .i64 0)).bind fun x6=>
(
  asBool x6).bind fun b7=>
  if b7=true then
(((((binV .and (v5 0) (.int .i64 1)).bind fun x8=>
(binV .neq x8 (.int .i64 0)).bind fun x9=>
(
  asBool x9).bind fun b10=>
  if b10=true then
(
  P0 f_nat_Mul [.v (v5 1),.v (v5 2)] []).bind fun r11=>
  some (0,(vec [r11.1]))
else
 some (0,(vec [(v5 1)])):Option (Nat×(Nat→V)))).bind fun o12=>
(
  P0 f_nat_Mul [.v (v5 2),.v (v5 2)] []).bind fun r13=>
  some (0,(vec [(o12.2 0),r13.1])):Option (Nat×(Nat→V)))).bind fun o14=>
(
  binV .shr (v5 0) (.int .u64 1)).bind fun x15=>
  some (.inl (vec [x15,(o14.2 0),(o14.2 1)]))
else
 some (.inr (0,(vec [(v5 1)])))
noncomputable def F_nat_Pow(a0:V)(a1:V):Option (V×List V):=
 tst (okN 1 a0) ((fldV a0 0).bind fun c1=>
(P0 f_nat_Norm [.v (.sl [c1])] []).bind fun r2=>
(minV a1 [(.int .i64 1300)]).bind fun x3=>
(maxV (.int .i64 0) [x3]).bind fun x4=>
(
  loopL (L_nat_Pow_1) (vec [x4,(.sl [(.int .u32 1)]),r2.1])).bind fun o16=>
  some ((o16.2 0),[]))
theorem eq_nat_Pow(a0:V)(a1:V):P0 f_nat_Pow [.v a0,.v a1] []=F_nat_Pow a0 a1:=
 (pcL_eq (fn:=p_nat_Pow) (by kernel_rfl) _ _).trans (by kernel_rfl)
noncomputable def L_nat_Parse_1(n6:Nat)(a0:V)(v7:Nat→V):Option ((Nat→V) ⊕ (Nat×(Nat→V))):=
(binV .lss (v7 1) (.int .i64 ((n6:Nat):Int))).bind fun x8=>
(
  asBool x8).bind fun b9=>
  if b9=true then
(ixsV a0 (v7 1)).bind fun x10=>
(binV .lss x10 (.int .u8 48)).bind fun x11=>
(asBool x11).bind fun b12=>
((if b12=false then
(ixsV a0 (v7 1)).bind fun x13=>
(
  binV .gtr x13 (.int .u8 57)).bind fun x14=>
  some x14
else some (.bool true):Option V)).bind fun x15=>
(
  asBool x15).bind fun b16=>
  if b16=true then
  some (.inr (1,(vec [(.sl []),(.bool false)])))
else
(P0 f_nat_Mul [.v (v7 0),.v (.sl [(.int .u32 10)])] []).bind fun r17=>
(ixsV a0 (v7 1)).bind fun x18=>
(binV .sub x18 (.int .u8 48)).bind fun x19=>
(
  cviV .u32 x19).bind fun x20=>
  tst (okN 1 x20) ((fldV x20 0).bind fun c21=>
(P0 f_nat_Add [.v r17.1,.v (.sl [c21])] []).bind fun r22=>
(
  binV .add (v7 1) (.int .i64 1)).bind fun x23=>
  some (.inl (vec [r22.1,x23])))
else
 some (.inr (0,(vec [(v7 0)])))
noncomputable def F_nat_Parse(a0:V):Option (V×List V):=
(binV .eql a0 (.str [])).bind fun x1=>
(asBool x1).bind fun b2=>
((if b2=false then
(
  lnsV a0).bind fun n3=>
  some (.bool (decide ((((n3:Nat):Int):Int) > 2000)))
else some (.bool true):Option V)).bind fun x4=>
(
  asBool x4).bind fun b5=>
  if b5=true then
  some ((.tup [(.sl []),(.bool false)]),[])
else
(lnsV a0).bind fun n6=>
(
  loopL (L_nat_Parse_1 n6 a0) (vec [(.sl []),(.int .i64 0)])).bind fun o24=>
  if o24.1=0 then
  some ((.tup [(o24.2 0),(.bool true)]),[])
else
 some ((.tup [(o24.2 0),(o24.2 1)]),[])
theorem eq_nat_Parse(a0:V):P0 f_nat_Parse [.v a0] []=F_nat_Parse a0:=
 (pcL_eq (fn:=p_nat_Parse) (by kernel_rfl) _ _).trans (by kernel_rfl)
noncomputable def L_nat_Trim_1(v2:Nat→V):Option ((Nat→V) ⊕ (Nat×(Nat→V))):=
(
  lenV (v2 0)).bind fun n3=>
  if(decide ((((n3:Nat):Int):Int) > 0))=true then
(P0 f_nat_small [.v (v2 0),.v (.int .u32 10)] []).bind fun r4=>
(extV r4.1 0).bind fun x5=>
(extV r4.1 1).bind fun x6=>
(binV .neq x6 (.int .u32 0)).bind fun x7=>
(
  asBool x7).bind fun b8=>
  if b8=true then
  some (.inr (0,(vec [(v2 0),(v2 1)])))
else
(
  binV .add (v2 1) (.int .i64 1)).bind fun x9=>
  some (.inl (vec [x5,x9]))
else
 some (.inr (0,(vec [(v2 0),(v2 1)])))
noncomputable def F_nat_Trim(a0:V):Option (V×List V):=
(P0 f_nat_Norm [.v a0] []).bind fun r1=>
(
  loopL (L_nat_Trim_1) (vec [r1.1,(.int .i64 0)])).bind fun o10=>
  some ((.tup [(o10.2 0),(o10.2 1)]),[])
theorem eq_nat_Trim(a0:V):P0 f_nat_Trim [.v a0] []=F_nat_Trim a0:=
 (pcL_eq (fn:=p_nat_Trim) (by kernel_rfl) _ _).trans (by kernel_rfl)
noncomputable def L_nat_Div_1(a0:V)(r1:V×List V)(q13:Nat×Nat)(v16:Nat→V):Option ((Nat→V) ⊕ (Nat×(Nat→V))):=
(binV .geq (v16 1) (.int .i64 0)).bind fun x17=>
(
  asBool x17).bind fun b18=>
  if b18=true then
(binV .quo (v16 1) (.int .i64 32)).bind fun x19=>
(asSl 1 a0).bind fun l20=>
(idxV x19 (l20.length)).bind fun i21=>
(l20[i21]?).bind fun e22=>
(fldV e22 0).bind fun c23=>
(binV .rem (v16 1) (.int .i64 32)).bind fun x24=>
(binV .shr c23 x24).bind fun x25=>
(binV .and x25 (.int .u32 1)).bind fun x26=>
(P0 f_nat_up [.v (v16 0),.v x26] []).bind fun r27=>
(P0 f_nat_Cmp [.v r27.1,.v r1.1] []).bind fun r28=>
(binV .geq r28.1 (.int .i64 0)).bind fun x29=>
(
  asBool x29).bind fun b30=>
  if b30=true then
(P0 f_nat_Sub [.v r27.1,.v r1.1] []).bind fun r31=>
(binV .quo (v16 1) (.int .i64 32)).bind fun x32=>
(idxV x32 q13.1).bind fun i33=>
((V.elems (v16 2))[(0+i33)]?).bind fun e34=>
(fldV e34 0).bind fun c35=>
(binV .rem (v16 1) (.int .i64 32)).bind fun x36=>
(binV .shl (.int .u32 1) x36).bind fun x37=>
(binV .or c35 x37).bind fun x38=>
(
  idxV x32 q13.1).bind fun i39=>
  tst (okN 1 x38) ((fldV x38 0).bind fun c40=>
(
  binV .sub (v16 1) (.int .i64 1)).bind fun x41=>
  some (.inl (vec [r31.1,x41,(.sl ((V.elems (v16 2)).set (0+i39) c40))])))
else
(
  binV .sub (v16 1) (.int .i64 1)).bind fun x42=>
  some (.inl (vec [r27.1,x42,(.sl (V.elems (v16 2)))]))
else
 some (.inr (0,(vec [(v16 0),(.sl (V.elems (v16 2)))])))
noncomputable def F_nat_Div(a0:V)(a1:V):Option (V×List V):=
(P0 f_nat_Norm [.v a1] []).bind fun r1=>
(
  lenV r1.1).bind fun n2=>
  if((((n2:Nat):Int):Int) == 0)=true then
  some ((.tup [(.sl []),(.sl [])]),[])
else
 if((((n2:Nat):Int):Int) == 1)=true then
(asSl 1 r1.1).bind fun l3=>
(idxV (.int .i64 0) (l3.length)).bind fun i4=>
(l3[i4]?).bind fun e5=>
(fldV e5 0).bind fun c6=>
(P0 f_nat_small [.v a0,.v c6] []).bind fun r7=>
(extV r7.1 0).bind fun x8=>
(
  extV r7.1 1).bind fun x9=>
  tst (okN 1 x9) ((fldV x9 0).bind fun c10=>
(
  P0 f_nat_Norm [.v (.sl [c10])] []).bind fun r11=>
  some ((.tup [x8,r11.1]),[]))
else
(lenV a0).bind fun n12=>
(mksV 4 (.int .i64 ((n12:Nat):Int)) (.int .i64 ((n12:Nat):Int))).bind fun q13=>
(P0 f_nat_Bits [.v a0] []).bind fun r14=>
(binV .sub r14.1 (.int .i64 1)).bind fun x15=>
(loopL (L_nat_Div_1 a0 r1 q13) (vec [(.sl []),x15,(.sl (List.replicate q13.2 (.int .u32 0)))])).bind fun o43=>
(
  P0 f_nat_Norm [.v (.sl (((V.elems (o43.2 1)).drop 0).take q13.1))] []).bind fun r44=>
  some ((.tup [r44.1,(o43.2 0)]),[])
theorem eq_nat_Div(a0:V)(a1:V):P0 f_nat_Div [.v a0,.v a1] []=F_nat_Div a0 a1:=
 (pcL_eq (fn:=p_nat_Div) (by kernel_rfl) _ _).trans (by kernel_rfl)
noncomputable def L_ref01_Div_1(a0:V)(a1:V)(q4:Nat×Nat)(v7:Nat→V):Option ((Nat→V) ⊕ (Nat×(Nat→V))):=
(binV .geq (v7 1) (.int .i64 0)).bind fun x8=>
(
  asBool x8).bind fun b9=>
  if b9=true then
(P0 f_ref01_Shift [.v (v7 0),.v (.int .i64 1)] []).bind fun r10=>
(((binV .quo (v7 1) (.int .i64 32)).bind fun x11=>
(asSl 1 a0).bind fun l12=>
(idxV x11 (l12.length)).bind fun i13=>
(l12[i13]?).bind fun e14=>
(fldV e14 0).bind fun c15=>
(binV .rem (v7 1) (.int .i64 32)).bind fun x16=>
(cviV .u64 x16).bind fun x17=>
(binV .shr c15 x17).bind fun x18=>
(binV .and x18 (.int .u32 1)).bind fun x19=>
(binV .eql x19 (.int .u32 1)).bind fun x20=>
(
  asBool x20).bind fun b21=>
  if b21=true then
(
  P0 f_ref01_Add [.v r10.1,.v (.sl [(.int .u32 1)])] []).bind fun r22=>
  some (0,(vec [r22.1]))
else
 some (0,(vec [r10.1])):Option (Nat×(Nat→V)))).bind fun o23=>
(P0 f_ref01_Cmp [.v (o23.2 0),.v a1] []).bind fun r24=>
(binV .geq r24.1 (.int .i64 0)).bind fun x25=>
(
  asBool x25).bind fun b26=>
  if b26=true then
(P0 f_ref01_Sub [.v (o23.2 0),.v a1] []).bind fun r27=>
(binV .quo (v7 1) (.int .i64 32)).bind fun x28=>
(binV .quo (v7 1) (.int .i64 32)).bind fun x29=>
(idxV x29 q4.1).bind fun i30=>
((V.elems (v7 2))[(0+i30)]?).bind fun e31=>
(fldV e31 0).bind fun c32=>
(binV .rem (v7 1) (.int .i64 32)).bind fun x33=>
(cviV .u64 x33).bind fun x34=>
(binV .shl (.int .u32 1) x34).bind fun x35=>
(binV .or c32 x35).bind fun x36=>
(
  idxV x28 q4.1).bind fun i37=>
  tst (okN 1 x36) ((fldV x36 0).bind fun c38=>
(
  binV .sub (v7 1) (.int .i64 1)).bind fun x39=>
  some (.inl (vec [r27.1,x39,(.sl ((V.elems (v7 2)).set (0+i37) c38))])))
else
(
  binV .sub (v7 1) (.int .i64 1)).bind fun x40=>
  some (.inl (vec [(o23.2 0),x40,(.sl (V.elems (v7 2)))]))
else
 some (.inr (0,(vec [(v7 0),(.sl (V.elems (v7 2)))])))
noncomputable def F_ref01_Div(a0:V)(a1:V):Option (V×List V):=
(P0 f_ref01_Norm [.v a1] []).bind fun r1=>
(
  lenV r1.1).bind fun n2=>
  if((((n2:Nat):Int):Int) == 0)=true then
  some ((.tup [(.sl []),(.sl [])]),[])
else
(lenV a0).bind fun n3=>
(mksV 4 (.int .i64 ((n3:Nat):Int)) (.int .i64 ((n3:Nat):Int))).bind fun q4=>
(P0 f_ref01_Bits [.v a0] []).bind fun r5=>
(binV .sub r5.1 (.int .i64 1)).bind fun x6=>
(loopL (L_ref01_Div_1 a0 a1 q4) (vec [(.sl []),x6,(.sl (List.replicate q4.2 (.int .u32 0)))])).bind fun o41=>
(
  P0 f_ref01_Norm [.v (.sl (((V.elems (o41.2 1)).drop 0).take q4.1))] []).bind fun r42=>
  some ((.tup [r42.1,(o41.2 0)]),[])
theorem eq_ref01_Div(a0:V)(a1:V):P0 f_ref01_Div [.v a0,.v a1] []=F_ref01_Div a0 a1:=
 (pcL_eq (fn:=p_ref01_Div) (by kernel_rfl) _ _).trans (by kernel_rfl)
noncomputable def L_ref01_Trim_1(v2:Nat→V):Option ((Nat→V) ⊕ (Nat×(Nat→V))):=
(
  lenV (v2 0)).bind fun n3=>
  if(decide ((((n3:Nat):Int):Int) > 0))=true then
(P0 f_ref01_Small [.v (v2 0),.v (.int .u32 10)] []).bind fun r4=>
(extV r4.1 0).bind fun x5=>
(extV r4.1 1).bind fun x6=>
(binV .neq x6 (.int .u32 0)).bind fun x7=>
(
  asBool x7).bind fun b8=>
  if b8=true then
  some (.inr (0,(vec [(v2 0),(v2 1)])))
else
(
  binV .add (v2 1) (.int .i64 1)).bind fun x9=>
  some (.inl (vec [x5,x9]))
else
 some (.inr (0,(vec [(v2 0),(v2 1)])))
noncomputable def F_ref01_Trim(a0:V):Option (V×List V):=
(P0 f_ref01_Norm [.v a0] []).bind fun r1=>
(
  loopL (L_ref01_Trim_1) (vec [r1.1,(.int .i64 0)])).bind fun o10=>
  some ((.tup [(o10.2 0),(o10.2 1)]),[])
theorem eq_ref01_Trim(a0:V):P0 f_ref01_Trim [.v a0] []=F_ref01_Trim a0:=
 (pcL_eq (fn:=p_ref01_Trim) (by kernel_rfl) _ _).trans (by kernel_rfl)
noncomputable def L_ref01_Parse_1(a0:V)(v5:Nat→V):Option ((Nat→V) ⊕ (Nat×(Nat→V))):=
(lnsV a0).bind fun n6=>
(binV .lss (v5 1) (.int .i64 ((n6:Nat):Int))).bind fun x7=>
(
  asBool x7).bind fun b8=>
  if b8=true then
(ixsV a0 (v5 1)).bind fun x9=>
(binV .lss x9 (.int .u8 48)).bind fun x10=>
(asBool x10).bind fun b11=>
((if b11=false then
(ixsV a0 (v5 1)).bind fun x12=>
(
  binV .gtr x12 (.int .u8 57)).bind fun x13=>
  some x13
else some (.bool true):Option V)).bind fun x14=>
(
  asBool x14).bind fun b15=>
  if b15=true then
  some (.inr (1,(vec [(.sl []),(.bool false)])))
else
(P0 f_ref01_Mul [.v (v5 0),.v (.sl [(.int .u32 10)])] []).bind fun r16=>
(ixsV a0 (v5 1)).bind fun x17=>
(binV .sub x17 (.int .u8 48)).bind fun x18=>
(
  cviV .u32 x18).bind fun x19=>
  tst (okN 1 x19) ((fldV x19 0).bind fun c20=>
(P0 f_ref01_Add [.v r16.1,.v (.sl [c20])] []).bind fun r21=>
(
  binV .add (v5 1) (.int .i64 1)).bind fun x22=>
  some (.inl (vec [r21.1,x22])))
else
 some (.inr (0,(vec [(v5 0)])))
noncomputable def F_ref01_Parse(a0:V):Option (V×List V):=
(lnsV a0).bind fun n1=>
((if(decide ((((n1:Nat):Int):Int)<1))=false then
(
  lnsV a0).bind fun n2=>
  some (.bool (decide ((((n2:Nat):Int):Int) > 2000)))
else some (.bool true):Option V)).bind fun x3=>
(
  asBool x3).bind fun b4=>
  if b4=true then
  some ((.tup [(.sl []),(.bool false)]),[])
else
(
  loopL (L_ref01_Parse_1 a0) (vec [(.sl []),(.int .i64 0)])).bind fun o23=>
  if o23.1=0 then
  some ((.tup [(o23.2 0),(.bool true)]),[])
else
 some ((.tup [(o23.2 0),(o23.2 1)]),[])
theorem eq_ref01_Parse(a0:V):P0 f_ref01_Parse [.v a0] []=F_ref01_Parse a0:=
 (pcL_eq (fn:=p_ref01_Parse) (by kernel_rfl) _ _).trans (by kernel_rfl)
noncomputable def L_ref01_Cmp_1(a0:V)(a1:V)(v5:Nat→V):Option ((Nat→V) ⊕ (Nat×(Nat→V))):=
(binV .geq (v5 0) (.int .i64 0)).bind fun x6=>
(
  asBool x6).bind fun b7=>
  if b7=true then
(P0 f_ref01_limb [.v a0,.v (v5 0)] []).bind fun r8=>
(P0 f_ref01_limb [.v a1,.v (v5 0)] []).bind fun r9=>
(binV .lss r8.1 r9.1).bind fun x10=>
(
  asBool x10).bind fun b11=>
  if b11=true then
  some (.inr (1,(vec [(.int .i64 (-1))])))
else
(P0 f_ref01_limb [.v a0,.v (v5 0)] []).bind fun r12=>
(P0 f_ref01_limb [.v a1,.v (v5 0)] []).bind fun r13=>
(binV .gtr r12.1 r13.1).bind fun x14=>
(
  asBool x14).bind fun b15=>
  if b15=true then
  some (.inr (1,(vec [(.int .i64 1)])))
else
(
  binV .sub (v5 0) (.int .i64 1)).bind fun x16=>
  some (.inl (vec [x16]))
else
 some (.inr (0,(vec [])))
noncomputable def F_ref01_Cmp(a0:V)(a1:V):Option (V×List V):=
(lenV a0).bind fun n1=>
(lenV a1).bind fun n2=>
(maxV (.int .i64 ((n1:Nat):Int)) [(.int .i64 ((n2:Nat):Int))]).bind fun x3=>
(binV .sub x3 (.int .i64 1)).bind fun x4=>
(
  loopL (L_ref01_Cmp_1 a0 a1) (vec [x4])).bind fun o17=>
  if o17.1=0 then
  some ((.int .i64 0),[])
else
 some ((o17.2 0),[])
theorem eq_ref01_Cmp(a0:V)(a1:V):P0 f_ref01_Cmp [.v a0,.v a1] []=F_ref01_Cmp a0 a1:=
 (pcL_eq (fn:=p_ref01_Cmp) (by kernel_rfl) _ _).trans (by kernel_rfl)
noncomputable def L_ref01_Bits_1(r1:V×List V)(v3:Nat→V):Option ((Nat→V) ⊕ (Nat×(Nat→V))):=
(binV .gtr (v3 0) (.int .i64 0)).bind fun x4=>
(asBool x4).bind fun b5=>
((if b5=true then
(binV .sub (v3 0) (.int .i64 1)).bind fun x6=>
(binV .quo x6 (.int .i64 32)).bind fun x7=>
(asSl 1 r1.1).bind fun l8=>
(idxV x7 (l8.length)).bind fun i9=>
(l8[i9]?).bind fun e10=>
(fldV e10 0).bind fun c11=>
(binV .sub (v3 0) (.int .i64 1)).bind fun x12=>
(binV .rem x12 (.int .i64 32)).bind fun x13=>
(cviV .u64 x13).bind fun x14=>
(binV .shr c11 x14).bind fun x15=>
(binV .and x15 (.int .u32 1)).bind fun x16=>
(
  binV .eql x16 (.int .u32 0)).bind fun x17=>
  some x17
else some (.bool false):Option V)).bind fun x18=>
(
  asBool x18).bind fun b19=>
  if b19=true then
(
  binV .sub (v3 0) (.int .i64 1)).bind fun x20=>
  some (.inl (vec [x20]))
else
 some (.inr (0,(vec [(v3 0)])))
noncomputable def F_ref01_Bits(a0:V):Option (V×List V):=
(P0 f_ref01_Norm [.v a0] []).bind fun r1=>
(lenV r1.1).bind fun n2=>
(
  loopL (L_ref01_Bits_1 r1) (vec [(.int .i64 (IntKind.wrap .i64 (32 * ((n2:Nat):Int))))])).bind fun o21=>
  some ((o21.2 0),[])
theorem eq_ref01_Bits(a0:V):P0 f_ref01_Bits [.v a0] []=F_ref01_Bits a0:=
 (pcL_eq (fn:=p_ref01_Bits) (by kernel_rfl) _ _).trans (by kernel_rfl)
noncomputable def L_ref01_Pow_1(a1:V)(a0:V)(v1:Nat→V):Option ((Nat→V) ⊕ (Nat×(Nat→V))):=
(minV a1 [(.int .i64 1300)]).bind fun x2=>
(binV .lss (v1 1) x2).bind fun x3=>
(
  asBool x3).bind fun b4=>
  if b4=true then
  tst (okN 1 a0) ((fldV a0 0).bind fun c5=>
(P0 f_ref01_Mul [.v (v1 0),.v (.sl [c5])] []).bind fun r6=>
(
  binV .add (v1 1) (.int .i64 1)).bind fun x7=>
  some (.inl (vec [r6.1,x7])))
else
 some (.inr (0,(vec [(v1 0)])))
noncomputable def F_ref01_Pow(a0:V)(a1:V):Option (V×List V):=
(
  loopL (L_ref01_Pow_1 a1 a0) (vec [(.sl [(.int .u32 1)]),(.int .i64 0)])).bind fun o8=>
  some ((o8.2 0),[])
theorem eq_ref01_Pow(a0:V)(a1:V):P0 f_ref01_Pow [.v a0,.v a1] []=F_ref01_Pow a0 a1:=
 (pcL_eq (fn:=p_ref01_Pow) (by kernel_rfl) _ _).trans (by kernel_rfl)
noncomputable def L_ref01_Norm_1(a0:V)(v2:Nat→V):Option ((Nat→V) ⊕ (Nat×(Nat→V))):=
(binV .gtr (v2 0) (.int .i64 0)).bind fun x3=>
(asBool x3).bind fun b4=>
((if b4=true then
(binV .sub (v2 0) (.int .i64 1)).bind fun x5=>
(asSl 1 a0).bind fun l6=>
(idxV x5 (l6.length)).bind fun i7=>
(l6[i7]?).bind fun e8=>
(fldV e8 0).bind fun c9=>
(
  binV .eql c9 (.int .u32 0)).bind fun x10=>
  some x10
else some (.bool false):Option V)).bind fun x11=>
(
  asBool x11).bind fun b12=>
  if b12=true then
(
  binV .sub (v2 0) (.int .i64 1)).bind fun x13=>
  some (.inl (vec [x13]))
else
 some (.inr (0,(vec [(v2 0)])))
noncomputable def F_ref01_Norm(a0:V):Option (V×List V):=
(lenV a0).bind fun n1=>
(loopL (L_ref01_Norm_1 a0) (vec [(.int .i64 ((n1:Nat):Int))])).bind fun o14=>
(asSl 1 a0).bind fun l15=>
(bnd2 none (some (o14.2 0)) (l15.length)).bind fun q16=>
(
  asEl 1 (.sl ((l15.drop q16.1).take (q16.2 - q16.1)))).bind fun l17=>
  tst (appOk 4 (List.length (α:=V) []) (l17.length)) (some ((.sl (([]:List V)++l17)),[]))
theorem eq_ref01_Norm(a0:V):P0 f_ref01_Norm [.v a0] []=F_ref01_Norm a0:=
 (pcL_eq (fn:=p_ref01_Norm) (by kernel_rfl) _ _).trans (by kernel_rfl)
noncomputable def L_ref01_Add_1(a0:V)(a1:V)(v1:Nat→V):Option ((Nat→V) ⊕ (Nat×(Nat→V))):=
(lenV a0).bind fun n2=>
(lenV a1).bind fun n3=>
(maxV (.int .i64 ((n2:Nat):Int)) [(.int .i64 ((n3:Nat):Int))]).bind fun x4=>
(binV .leq (v1 2) x4).bind fun x5=>
(
  asBool x5).bind fun b6=>
  if b6=true then
(P0 f_ref01_limb [.v a0,.v (v1 2)] []).bind fun r7=>
(binV .add (v1 1) r7.1).bind fun x8=>
(P0 f_ref01_limb [.v a1,.v (v1 2)] []).bind fun r9=>
(binV .add x8 r9.1).bind fun x10=>
(
  cviV .u32 x10).bind fun x11=>
  tst (okN 1 x11) ((fldV x11 0).bind fun c12=>
  tst (szOk 1 [c12]) (tst (appOk 4 ((V.elems (v1 0)).length) (List.length (α:=V) [c12])) ((binV .shr x10 (.int .u64 32)).bind fun x13=>
(
  binV .add (v1 2) (.int .i64 1)).bind fun x14=>
  some (.inl (vec [(.sl ((V.elems (v1 0))++([c12]:List V))),x13,x14])))))
else
 some (.inr (0,(vec [(.sl (V.elems (v1 0)))])))
noncomputable def F_ref01_Add(a0:V)(a1:V):Option (V×List V):=
(loopL (L_ref01_Add_1 a0 a1) (vec [(.sl []),(.int .u64 0),(.int .i64 0)])).bind fun o15=>
(
  P0 f_ref01_Norm [.v (.sl (V.elems (o15.2 0)))] []).bind fun r16=>
  some (r16.1,[])
theorem eq_ref01_Add(a0:V)(a1:V):P0 f_ref01_Add [.v a0,.v a1] []=F_ref01_Add a0 a1:=
 (pcL_eq (fn:=p_ref01_Add) (by kernel_rfl) _ _).trans (by kernel_rfl)
noncomputable def L_ref01_Sub_1(a0:V)(a1:V)(v4:Nat→V):Option ((Nat→V) ⊕ (Nat×(Nat→V))):=
(lenV a0).bind fun n5=>
(binV .lss (v4 2) (.int .i64 ((n5:Nat):Int))).bind fun x6=>
(
  asBool x6).bind fun b7=>
  if b7=true then
(P0 f_ref01_limb [.v a0,.v (v4 2)] []).bind fun r8=>
(P0 f_ref01_limb [.v a1,.v (v4 2)] []).bind fun r9=>
(binV .sub r8.1 r9.1).bind fun x10=>
(binV .sub x10 (v4 1)).bind fun x11=>
(
  cviV .u32 x11).bind fun x12=>
  tst (okN 1 x12) ((fldV x12 0).bind fun c13=>
  tst (szOk 1 [c13]) (tst (appOk 4 ((V.elems (v4 0)).length) (List.length (α:=V) [c13])) ((binV .shr x11 (.int .u64 63)).bind fun x14=>
(
  binV .add (v4 2) (.int .i64 1)).bind fun x15=>
  some (.inl (vec [(.sl ((V.elems (v4 0))++([c13]:List V))),x14,x15])))))
else
 some (.inr (0,(vec [(.sl (V.elems (v4 0)))])))
noncomputable def F_ref01_Sub(a0:V)(a1:V):Option (V×List V):=
(P0 f_ref01_Cmp [.v a0,.v a1] []).bind fun r1=>
(binV .lss r1.1 (.int .i64 0)).bind fun x2=>
(
  asBool x2).bind fun b3=>
  if b3=true then
  some ((.sl []),[])
else
(loopL (L_ref01_Sub_1 a0 a1) (vec [(.sl []),(.int .u64 0),(.int .i64 0)])).bind fun o16=>
(
  P0 f_ref01_Norm [.v (.sl (V.elems (o16.2 0)))] []).bind fun r17=>
  some (r17.1,[])
theorem eq_ref01_Sub(a0:V)(a1:V):P0 f_ref01_Sub [.v a0,.v a1] []=F_ref01_Sub a0 a1:=
 (pcL_eq (fn:=p_ref01_Sub) (by kernel_rfl) _ _).trans (by kernel_rfl)
noncomputable def L_ref01_Mul_1(a1:V)(v4:Nat→V)(q3:Nat×Nat)(a0:V)(v8:Nat→V):Option ((Nat→V) ⊕ (Nat×(Nat→V))):=
(lenV a1).bind fun n9=>
(binV .leq (v8 1) (.int .i64 ((n9:Nat):Int))).bind fun x10=>
(
  asBool x10).bind fun b11=>
  if b11=true then
(binV .add (v4 0) (v8 1)).bind fun x12=>
(idxV x12 q3.1).bind fun i13=>
((V.elems (v8 2))[(0+i13)]?).bind fun e14=>
(fldV e14 0).bind fun c15=>
(cviV .u64 c15).bind fun x16=>
(binV .add (v8 0) x16).bind fun x17=>
(P0 f_ref01_limb [.v a0,.v (v4 0)] []).bind fun r18=>
(P0 f_ref01_limb [.v a1,.v (v8 1)] []).bind fun r19=>
(binV .mul r18.1 r19.1).bind fun x20=>
(binV .add x17 x20).bind fun x21=>
(binV .add (v4 0) (v8 1)).bind fun x22=>
(cviV .u32 x21).bind fun x23=>
(
  idxV x22 q3.1).bind fun i24=>
  tst (okN 1 x23) ((fldV x23 0).bind fun c25=>
(binV .shr x21 (.int .u64 32)).bind fun x26=>
(
  binV .add (v8 1) (.int .i64 1)).bind fun x27=>
  some (.inl (vec [x26,x27,(.sl ((V.elems (v8 2)).set (0+i24) c25))])))
else
 some (.inr (0,(vec [(.sl (V.elems (v8 2)))])))
noncomputable def L_ref01_Mul_2(a0:V)(a1:V)(q3:Nat×Nat)(v4:Nat→V):Option ((Nat→V) ⊕ (Nat×(Nat→V))):=
(lenV a0).bind fun n5=>
(binV .lss (v4 0) (.int .i64 ((n5:Nat):Int))).bind fun x6=>
(
  asBool x6).bind fun b7=>
  if b7=true then
(loopL (L_ref01_Mul_1 a1 v4 q3 a0) (vec [(.int .u64 0),(.int .i64 0),(.sl (V.elems (v4 1)))])).bind fun o28=>
(
  binV .add (v4 0) (.int .i64 1)).bind fun x29=>
  some (.inl (vec [x29,(.sl (V.elems (o28.2 0)))]))
else
 some (.inr (0,(vec [(.sl (V.elems (v4 1)))])))
noncomputable def F_ref01_Mul(a0:V)(a1:V):Option (V×List V):=
(lenV a0).bind fun n1=>
(lenV a1).bind fun n2=>
(mksV 4 (.int .i64 (IntKind.wrap .i64 ((IntKind.wrap .i64 (((n1:Nat):Int)+((n2:Nat):Int)))+1))) (.int .i64 (IntKind.wrap .i64 ((IntKind.wrap .i64 (((n1:Nat):Int)+((n2:Nat):Int)))+1)))).bind fun q3=>
(loopL (L_ref01_Mul_2 a0 a1 q3) (vec [(.int .i64 0),(.sl (List.replicate q3.2 (.int .u32 0)))])).bind fun o30=>
(
  P0 f_ref01_Norm [.v (.sl (((V.elems (o30.2 0)).drop 0).take q3.1))] []).bind fun r31=>
  some (r31.1,[])
theorem eq_ref01_Mul(a0:V)(a1:V):P0 f_ref01_Mul [.v a0,.v a1] []=F_ref01_Mul a0 a1:=
 (pcL_eq (fn:=p_ref01_Mul) (by kernel_rfl) _ _).trans (by kernel_rfl)
noncomputable def L_ref01_Digits_1(v2:Nat→V):Option ((Nat→V) ⊕ (Nat×(Nat→V))):=
(
  lenV (v2 1)).bind fun n3=>
  if(decide ((((n3:Nat):Int):Int) > 0))=true then
(P0 f_ref01_Small [.v (v2 1),.v (.int .u32 10)] []).bind fun r4=>
(extV r4.1 0).bind fun x5=>
(extV r4.1 1).bind fun x6=>
(binV .add x6 (.int .u32 1)).bind fun x7=>
(slsV (.str [48,49,50,51,52,53,54,55,56,57]) (some x6) (some x7)).bind fun x8=>
(
  binV .add x8 (v2 0)).bind fun x9=>
  some (.inl (vec [x9,x5]))
else
 some (.inr (0,(vec [(v2 0)])))
noncomputable def F_ref01_Digits(a0:V):Option (V×List V):=
(P0 f_ref01_Norm [.v a0] []).bind fun r1=>
(loopL (L_ref01_Digits_1) (vec [(.str []),r1.1])).bind fun o10=>
(binV .eql (o10.2 0) (.str [])).bind fun x11=>
(
  asBool x11).bind fun b12=>
  if b12=true then
  some ((.str [48]),[])
else
 some ((o10.2 0),[])
theorem eq_ref01_Digits(a0:V):P0 f_ref01_Digits [.v a0] []=F_ref01_Digits a0:=
 (pcL_eq (fn:=p_ref01_Digits) (by kernel_rfl) _ _).trans (by kernel_rfl)
noncomputable def F_cmp_Compare_uint64(a0:V)(a1:V):Option (V×List V):=
(P0 f_cmp_isNaN_uint64 [.v a0] []).bind fun r1=>
(P0 f_cmp_isNaN_uint64 [.v a1] []).bind fun r2=>
(
  asBool r1.1).bind fun b3=>
  if b3=true then
(
  asBool r2.1).bind fun b4=>
  if b4=true then
  some ((.int .i64 0),[])
else
 some ((.int .i64 (-1)),[])
else
(
  asBool r2.1).bind fun b5=>
  if b5=true then
  some ((.int .i64 1),[])
else
(binV .lss a0 a1).bind fun x6=>
(
  asBool x6).bind fun b7=>
  if b7=true then
  some ((.int .i64 (-1)),[])
else
(binV .gtr a0 a1).bind fun x8=>
(
  asBool x8).bind fun b9=>
  if b9=true then
  some ((.int .i64 1),[])
else
 some ((.int .i64 0),[])
theorem eq_cmp_Compare_uint64(a0:V)(a1:V):P0 f_cmp_Compare_uint64 [.v a0,.v a1] []=F_cmp_Compare_uint64 a0 a1:=
 (pcL_eq (fn:=p_cmp_Compare_uint64) (by kernel_rfl) _ _).trans (by kernel_rfl)
noncomputable def F_nat_at(a0:V)(a1:V):Option (V×List V):=
(lenV a0).bind fun n1=>
(binV .lss a1 (.int .i64 ((n1:Nat):Int))).bind fun x2=>
(
  asBool x2).bind fun b3=>
  if b3=true then
(asSl 1 a0).bind fun l4=>
(idxV a1 (l4.length)).bind fun i5=>
(l4[i5]?).bind fun e6=>
(fldV e6 0).bind fun c7=>
(
  cviV .u64 c7).bind fun x8=>
  some (x8,[])
else
 some ((.int .u64 0),[])
theorem eq_nat_at(a0:V)(a1:V):P0 f_nat_at [.v a0,.v a1] []=F_nat_at a0 a1:=
 (pcL_eq (fn:=p_nat_at) (by kernel_rfl) _ _).trans (by kernel_rfl)
noncomputable def F_math_bits_Len32(a0:V):Option (V×List V):=
(((binV .geq a0 (.int .u32 65536)).bind fun x1=>
(
  asBool x1).bind fun b2=>
  if b2=true then
(
  binV .shr a0 (.int .u64 16)).bind fun x3=>
  some (0,(vec [x3,(.int .i64 16)]))
else
 some (0,(vec [a0,(.int .i64 0)])):Option (Nat×(Nat→V)))).bind fun o4=>
(((binV .geq (o4.2 0) (.int .u32 256)).bind fun x5=>
(
  asBool x5).bind fun b6=>
  if b6=true then
(binV .shr (o4.2 0) (.int .u64 8)).bind fun x7=>
(
  binV .add (o4.2 1) (.int .i64 8)).bind fun x8=>
  some (0,(vec [x7,x8]))
else
 some (0,(vec [(o4.2 0),(o4.2 1)])):Option (Nat×(Nat→V)))).bind fun o9=>
(cviV .u8 (o9.2 0)).bind fun x10=>
(ixsV (.str [0,1,2,2,3,3,3,3,4,4,4,4,4,4,4,4,5,5,5,5,5,5,5,5,5,5,5,5,5,5,5,5,6,6,6,6,6,6,6,6,6,6,6,6,6,6,6,6,6,6,6,6,6,6,6,6,6,6,6,6,6,6,6,6,7,7,7,7,7,7,7,7,7,7,7,7,7,7,7,7,7,7,7,7,7,7,7,7,7,7,7,7,7,7,7,7,7,7,7,7,7,7,7,7,7,7,7,7,7,7,7,7,7,7,7,7,7,7,7,7,7,7,7,7,7,7,7,7,8,8,8,8,8,8,8,8,8,8,8,8,8,8,8,8,8,8,8,8,8,8,8,8,8,8,8,8,8,8,8,8,8,8,8,8,8,8,8,8,8,8,8,8,8,8,8,8,8,8,8,8,8,8,8,8,8,8,8,8,8,8,8,8,8,8,8,8,8,8,8,8,8,8,8,8,8,8,8,8,8,8,8,8,8,8,8,8,8,8,8,8,8,8,8,8,8,8,8,8,8,8,8,8,8,8,8,8,8,8,8,8,8,8,8,8,8,8,8,8,8,8,8,8,8,8,8,8]) x10).bind fun x11=>
(cviV .i64 x11).bind fun x12=>
(
  binV .add (o9.2 1) x12).bind fun x13=>
  some (x13,[])
theorem eq_math_bits_Len32(a0:V):P0 f_math_bits_Len32 [.v a0] []=F_math_bits_Len32 a0:=
 (pcL_eq (fn:=p_math_bits_Len32) (by kernel_rfl) _ _).trans (by kernel_rfl)
noncomputable def L_nat_small_1(a0:V)(a1:V)(q2:Nat×Nat)(v4:Nat→V):Option ((Nat→V) ⊕ (Nat×(Nat→V))):=
(binV .geq (v4 1) (.int .i64 0)).bind fun x5=>
(
  asBool x5).bind fun b6=>
  if b6=true then
(binV .shl (v4 0) (.int .u64 32)).bind fun x7=>
(asSl 1 a0).bind fun l8=>
(idxV (v4 1) (l8.length)).bind fun i9=>
(l8[i9]?).bind fun e10=>
(fldV e10 0).bind fun c11=>
(cviV .u64 c11).bind fun x12=>
(binV .or x7 x12).bind fun x13=>
(cviV .u64 a1).bind fun x14=>
(binV .quo x13 x14).bind fun x15=>
(cviV .u32 x15).bind fun x16=>
(
  idxV (v4 1) q2.1).bind fun i17=>
  tst (okN 1 x16) ((fldV x16 0).bind fun c18=>
(cviV .u64 a1).bind fun x19=>
(binV .rem x13 x19).bind fun x20=>
(
  binV .sub (v4 1) (.int .i64 1)).bind fun x21=>
  some (.inl (vec [x20,x21,(.sl ((V.elems (v4 2)).set (0+i17) c18))])))
else
 some (.inr (0,(vec [(v4 0),(.sl (V.elems (v4 2)))])))
noncomputable def F_nat_small(a0:V)(a1:V):Option (V×List V):=
(lenV a0).bind fun n1=>
(mksV 4 (.int .i64 ((n1:Nat):Int)) (.int .i64 ((n1:Nat):Int))).bind fun q2=>
(lenV a0).bind fun n3=>
(loopL (L_nat_small_1 a0 a1 q2) (vec [(.int .u64 0),(.int .i64 (IntKind.wrap .i64 (((n3:Nat):Int) - 1))),(.sl (List.replicate q2.2 (.int .u32 0)))])).bind fun o22=>
(P0 f_nat_Norm [.v (.sl (((V.elems (o22.2 1)).drop 0).take q2.1))] []).bind fun r23=>
(
  cviV .u32 (o22.2 0)).bind fun x24=>
  some ((.tup [r23.1,x24]),[])
theorem eq_nat_small(a0:V)(a1:V):P0 f_nat_small [.v a0,.v a1] []=F_nat_small a0 a1:=
 (pcL_eq (fn:=p_nat_small) (by kernel_rfl) _ _).trans (by kernel_rfl)
noncomputable def F_strings_TrimLeft(a0:V)(a1:V):Option (V×List V):=
(binV .eql a0 (.str [])).bind fun x1=>
(asBool x1).bind fun b2=>
((if b2=false then
(
  binV .eql a1 (.str [])).bind fun x3=>
  some x3
else some (.bool true):Option V)).bind fun x4=>
(
  asBool x4).bind fun b5=>
  if b5=true then
  some (a0,[])
else
(lnsV a1).bind fun n6=>
((if((((n6:Nat):Int):Int) == 1)=true then
(ixsV a1 (.int .i64 0)).bind fun x7=>
(
  binV .lss x7 (.int .u8 128)).bind fun x8=>
  some x8
else some (.bool false):Option V)).bind fun x9=>
(
  asBool x9).bind fun b10=>
  if b10=true then
(ixsV a1 (.int .i64 0)).bind fun x11=>
(
  P0 f_strings_trimLeftByte [.v a0,.v x11] []).bind fun r12=>
  some (r12.1,[])
else
(P0 f_strings_makeASCIISet [.v a1] []).bind fun r13=>
(extV r13.1 0).bind fun x14=>
(
  extV r13.1 1).bind fun x15=>
  tst (okN 256 x14) ((asBool x15).bind fun b16=>
  if b16=true then
(P0 f_strings_trimLeftASCII [.v a0,.p 0 0] [(false,256,x14)]).bind fun r17=>
(
  r17.2[0]?).bind fun y18=>
  some (r17.1,[])
else
(
  P0 f_strings_trimLeftUnicode [.v a0,.v a1] []).bind fun r19=>
  some (r19.1,[]))
theorem eq_strings_TrimLeft(a0:V)(a1:V):P0 f_strings_TrimLeft [.v a0,.v a1] []=F_strings_TrimLeft a0 a1:=
 (pcL_eq (fn:=p_strings_TrimLeft) (by kernel_rfl) _ _).trans (by kernel_rfl)
noncomputable def L_nat_up_1(n4:Nat)(a0:V)(q3:Nat×Nat)(v5:Nat→V):Option ((Nat→V) ⊕ (Nat×(Nat→V))):=
(binV .lss (v5 1) (.int .i64 ((n4:Nat):Int))).bind fun x6=>
(
  asBool x6).bind fun b7=>
  if b7=true then
(asSl 1 a0).bind fun l8=>
(idxV (v5 1) (l8.length)).bind fun i9=>
(l8[i9]?).bind fun e10=>
(fldV e10 0).bind fun c11=>
(binV .shl c11 (.int .u64 1)).bind fun x12=>
(binV .or x12 (v5 0)).bind fun x13=>
(
  idxV (v5 1) q3.1).bind fun i14=>
  tst (okN 1 x13) ((fldV x13 0).bind fun c15=>
(binV .shr c11 (.int .u64 31)).bind fun x16=>
(
  binV .add (v5 1) (.int .i64 1)).bind fun x17=>
  some (.inl (vec [x16,x17,(.sl ((V.elems (v5 2)).set (0+i14) c15))])))
else
 some (.inr (0,(vec [(v5 0),(.sl (V.elems (v5 2)))])))
noncomputable def F_nat_up(a0:V)(a1:V):Option (V×List V):=
(lenV a0).bind fun n1=>
(lenV a0).bind fun n2=>
(mksV 4 (.int .i64 ((n1:Nat):Int)) (.int .i64 (IntKind.wrap .i64 (((n2:Nat):Int)+1)))).bind fun q3=>
(lenV a0).bind fun n4=>
(
  loopL (L_nat_up_1 n4 a0 q3) (vec [a1,(.int .i64 0),(.sl (List.replicate q3.2 (.int .u32 0)))])).bind fun o18=>
  tst (okN 1 (o18.2 0)) ((fldV (o18.2 0) 0).bind fun c19=>
  tst (szOk 1 [c19]) (tst (appOk 4 q3.1 (List.length (α:=V) [c19])) (if q3.1+(List.length (α:=V) [c19])≤q3.2∧(false=false∨0<q3.2)then
(
  P0 f_nat_Norm [.v (.sl (((setL (V.elems (o18.2 1)) (0+q3.1) [c19]).drop 0).take (q3.1+(List.length (α:=V) [c19]))))] []).bind fun r20=>
  some (r20.1,[])
else
(
  P0 f_nat_Norm [.v (.sl ((((V.elems (o18.2 1)).drop 0).take q3.1)++([c19]:List V)))] []).bind fun r21=>
  some (r21.1,[]))))
theorem eq_nat_up(a0:V)(a1:V):P0 f_nat_up [.v a0,.v a1] []=F_nat_up a0 a1:=
 (pcL_eq (fn:=p_nat_up) (by kernel_rfl) _ _).trans (by kernel_rfl)
noncomputable def L_ref01_Shift_1(a0:V)(a1:V)(q5:Nat×Nat)(v6:Nat→V):Option ((Nat→V) ⊕ (Nat×(Nat→V))):=
(lenV a0).bind fun n7=>
(binV .lss (v6 0) (.int .i64 ((n7:Nat):Int))).bind fun x8=>
(
  asBool x8).bind fun b9=>
  if b9=true then
(asSl 1 a0).bind fun l10=>
(idxV (v6 0) (l10.length)).bind fun i11=>
(l10[i11]?).bind fun e12=>
(fldV e12 0).bind fun c13=>
(cviV .u64 c13).bind fun x14=>
(binV .rem a1 (.int .i64 32)).bind fun x15=>
(cviV .u64 x15).bind fun x16=>
(binV .shl x14 x16).bind fun x17=>
(binV .quo a1 (.int .i64 32)).bind fun x18=>
(binV .add (v6 0) x18).bind fun x19=>
(binV .quo a1 (.int .i64 32)).bind fun x20=>
(binV .add (v6 0) x20).bind fun x21=>
(idxV x21 q5.1).bind fun i22=>
((V.elems (v6 1))[(0+i22)]?).bind fun e23=>
(fldV e23 0).bind fun c24=>
(cviV .u32 x17).bind fun x25=>
(binV .or c24 x25).bind fun x26=>
(
  idxV x19 q5.1).bind fun i27=>
  tst (okN 1 x26) ((fldV x26 0).bind fun c28=>
(binV .quo a1 (.int .i64 32)).bind fun x29=>
(binV .add (v6 0) x29).bind fun x30=>
(binV .add x30 (.int .i64 1)).bind fun x31=>
(binV .quo a1 (.int .i64 32)).bind fun x32=>
(binV .add (v6 0) x32).bind fun x33=>
(binV .add x33 (.int .i64 1)).bind fun x34=>
(idxV x34 q5.1).bind fun i35=>
(((V.elems (v6 1)).set (0+i27) c28)[(0+i35)]?).bind fun e36=>
(fldV e36 0).bind fun c37=>
(binV .shr x17 (.int .u64 32)).bind fun x38=>
(cviV .u32 x38).bind fun x39=>
(binV .or c37 x39).bind fun x40=>
(
  idxV x31 q5.1).bind fun i41=>
  tst (okN 1 x40) ((fldV x40 0).bind fun c42=>
(
  binV .add (v6 0) (.int .i64 1)).bind fun x43=>
  some (.inl (vec [x43,(.sl (((V.elems (v6 1)).set (0+i27) c28).set (0+i41) c42))]))))
else
 some (.inr (0,(vec [(.sl (V.elems (v6 1)))])))
noncomputable def F_ref01_Shift(a0:V)(a1:V):Option (V×List V):=
(lenV a0).bind fun n1=>
(binV .quo a1 (.int .i64 32)).bind fun x2=>
(binV .add (.int .i64 ((n1:Nat):Int)) x2).bind fun x3=>
(binV .add x3 (.int .i64 1)).bind fun x4=>
(mksV 4 x4 x4).bind fun q5=>
(loopL (L_ref01_Shift_1 a0 a1 q5) (vec [(.int .i64 0),(.sl (List.replicate q5.2 (.int .u32 0)))])).bind fun o44=>
(
  P0 f_ref01_Norm [.v (.sl (((V.elems (o44.2 0)).drop 0).take q5.1))] []).bind fun r45=>
  some (r45.1,[])
theorem eq_ref01_Shift(a0:V)(a1:V):P0 f_ref01_Shift [.v a0,.v a1] []=F_ref01_Shift a0 a1:=
 (pcL_eq (fn:=p_ref01_Shift) (by kernel_rfl) _ _).trans (by kernel_rfl)
noncomputable def L_ref01_Small_1(a0:V)(a1:V)(q2:Nat×Nat)(v4:Nat→V):Option ((Nat→V) ⊕ (Nat×(Nat→V))):=
(binV .geq (v4 1) (.int .i64 0)).bind fun x5=>
(
  asBool x5).bind fun b6=>
  if b6=true then
(binV .shl (v4 0) (.int .u64 32)).bind fun x7=>
(asSl 1 a0).bind fun l8=>
(idxV (v4 1) (l8.length)).bind fun i9=>
(l8[i9]?).bind fun e10=>
(fldV e10 0).bind fun c11=>
(cviV .u64 c11).bind fun x12=>
(binV .add x7 x12).bind fun x13=>
(cviV .u64 a1).bind fun x14=>
(binV .quo x13 x14).bind fun x15=>
(cviV .u32 x15).bind fun x16=>
(
  idxV (v4 1) q2.1).bind fun i17=>
  tst (okN 1 x16) ((fldV x16 0).bind fun c18=>
(cviV .u64 a1).bind fun x19=>
(binV .rem x13 x19).bind fun x20=>
(
  binV .sub (v4 1) (.int .i64 1)).bind fun x21=>
  some (.inl (vec [x20,x21,(.sl ((V.elems (v4 2)).set (0+i17) c18))])))
else
 some (.inr (0,(vec [(v4 0),(.sl (V.elems (v4 2)))])))
noncomputable def F_ref01_Small(a0:V)(a1:V):Option (V×List V):=
(lenV a0).bind fun n1=>
(mksV 4 (.int .i64 ((n1:Nat):Int)) (.int .i64 ((n1:Nat):Int))).bind fun q2=>
(lenV a0).bind fun n3=>
(loopL (L_ref01_Small_1 a0 a1 q2) (vec [(.int .u64 0),(.int .i64 (IntKind.wrap .i64 (((n3:Nat):Int) - 1))),(.sl (List.replicate q2.2 (.int .u32 0)))])).bind fun o22=>
(P0 f_ref01_Norm [.v (.sl (((V.elems (o22.2 1)).drop 0).take q2.1))] []).bind fun r23=>
(
  cviV .u32 (o22.2 0)).bind fun x24=>
  some ((.tup [r23.1,x24]),[])
theorem eq_ref01_Small(a0:V)(a1:V):P0 f_ref01_Small [.v a0,.v a1] []=F_ref01_Small a0 a1:=
 (pcL_eq (fn:=p_ref01_Small) (by kernel_rfl) _ _).trans (by kernel_rfl)
noncomputable def F_ref01_limb(a0:V)(a1:V):Option (V×List V):=
(lenV a0).bind fun n1=>
(binV .lss a1 (.int .i64 ((n1:Nat):Int))).bind fun x2=>
(
  asBool x2).bind fun b3=>
  if b3=true then
(asSl 1 a0).bind fun l4=>
(idxV a1 (l4.length)).bind fun i5=>
(l4[i5]?).bind fun e6=>
(fldV e6 0).bind fun c7=>
(
  cviV .u64 c7).bind fun x8=>
  some (x8,[])
else
 some ((.int .u64 0),[])
theorem eq_ref01_limb(a0:V)(a1:V):P0 f_ref01_limb [.v a0,.v a1] []=F_ref01_limb a0 a1:=
 (pcL_eq (fn:=p_ref01_limb) (by kernel_rfl) _ _).trans (by kernel_rfl)
noncomputable def F_cmp_isNaN_uint64(a0:V):Option (V×List V):=
(
  binV .neq a0 a0).bind fun x1=>
  some (x1,[])
theorem eq_cmp_isNaN_uint64(a0:V):P0 f_cmp_isNaN_uint64 [.v a0] []=F_cmp_isNaN_uint64 a0:=
 (pcL_eq (fn:=p_cmp_isNaN_uint64) (by kernel_rfl) _ _).trans (by kernel_rfl)
noncomputable def L_strings_trimLeftByte_1(a1:V)(v1:Nat→V):Option ((Nat→V) ⊕ (Nat×(Nat→V))):=
(lnsV (v1 0)).bind fun n2=>
((if(decide ((((n2:Nat):Int):Int) > 0))=true then
(ixsV (v1 0) (.int .i64 0)).bind fun x3=>
(
  binV .eql x3 a1).bind fun x4=>
  some x4
else some (.bool false):Option V)).bind fun x5=>
(
  asBool x5).bind fun b6=>
  if b6=true then
(
  slsV (v1 0) (some (.int .i64 1)) none).bind fun x7=>
  some (.inl (vec [x7]))
else
 some (.inr (0,(vec [(v1 0)])))
noncomputable def F_strings_trimLeftByte(a0:V)(a1:V):Option (V×List V):=
(
  loopL (L_strings_trimLeftByte_1 a1) (vec [a0])).bind fun o8=>
  some ((o8.2 0),[])
theorem eq_strings_trimLeftByte(a0:V)(a1:V):P0 f_strings_trimLeftByte [.v a0,.v a1] []=F_strings_trimLeftByte a0 a1:=
 (pcL_eq (fn:=p_strings_trimLeftByte) (by kernel_rfl) _ _).trans (by kernel_rfl)
end Go.Ev
