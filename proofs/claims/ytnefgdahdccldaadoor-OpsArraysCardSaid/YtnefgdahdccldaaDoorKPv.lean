/- What the functions compute. -/
import Derived.Test.YtnefgdahdccldaaDoorKCode
import Derived.KernelRfl
set_option linter.all false
namespace Go.Ev
noncomputable def wi(x2:V)(v3:Nat→V):Option ((Nat→V) ⊕ (Nat×(Nat→V))):=
(ze .lss (v3 1) x2).bind fun x4=>
(
  asBool x4).bind fun b5=>
  if b5=true then
(ze .add (v3 1) (.int .i64 1)).bind fun x6=>
(
  JB (.str [48,49,50,51,52,53,54,55,56,57]) (some (v3 1)) (some x6)).bind fun x7=>
  tst (okN 1 x7) ((zn x7 0).bind fun c8=>
  tst (okN 8 (.agg [(.int .i64 4),(.bool false),(.bool false),(.sl []),(.int .i64 0),c8,(.sl []),(.sl [])])) (tst (yc 8 [(.agg [(.int .i64 4),(.bool false),(.bool false),(.sl []),(.int .i64 0),c8,(.sl []),(.sl [])])]) (tst (wy 120 ((V.elems (v3 9)).length) (List.length (α:=V) [(.agg [(.int .i64 4),(.bool false),(.bool false),(.sl []),(.int .i64 0),c8,(.sl []),(.sl [])])])) (tst (okN 1 (v3 1)) ((zn (v3 1) 0).bind fun c9=>
  tst (yc 1 [c9]) (tst (wy 8 ((V.elems (v3 0)).length) (List.length (α:=V) [c9])) ((ze .add (v3 1) (.int .i64 1)).bind fun x10=>
  some (.inl (vec [(.sl ((V.elems (v3 0))++([c9]:List V))),x10,(v3 2),(v3 3),(v3 4),(.sl (V.elems (v3 5))),(v3 6),(v3 7),(.sl (V.elems (v3 8))),(.sl ((V.elems (v3 9))++([(.agg [(.int .i64 4),(.bool false),(.bool false),(.sl []),(.int .i64 0),c8,(.sl []),(.sl [])])]:List V)))])))))))))
else
 some (.inr (0,(vec [(.sl (V.elems (v3 0))),(v3 2),(v3 3),(v3 4),(.sl (V.elems (v3 5))),(v3 6),(v3 7),(.sl (V.elems (v3 8))),(.sl (V.elems (v3 9)))])))
noncomputable def vp(x57:V)(v65:Nat→V):Option ((Nat→V) ⊕ (Nat×(Nat→V))):=
(ze .lss (v65 1) (.int .i64 ((((V.elems (v65 0)).length):Nat):Int))).bind fun x66=>
(
  asBool x66).bind fun b67=>
  if b67=true then
(zn x57 7).bind fun c68=>
(xk 8 c68).bind fun l69=>
(xP (v65 1) (l69.length)).bind fun i70=>
(l69[i70]?).bind fun e71=>
(
  zn e71 5).bind fun c72=>
  tst (yc 1 (V.elems (v65 0))) ((xP (v65 1) ((V.elems (v65 0)).length)).bind fun i73=>
((V.elems (v65 0))[i73]?).bind fun e74=>
(
  zn e74 0).bind fun c75=>
  tst (yc 1 (V.elems (v65 0))) ((xP (v65 1) ((V.elems (v65 0)).length)).bind fun i76=>
((V.elems (v65 0))[i76]?).bind fun e77=>
(zn e77 0).bind fun c78=>
(ze .add c78 (.int .i64 1)).bind fun x79=>
(JB (.str [48,49,50,51,52,53,54,55,56,57]) (some c75) (some x79)).bind fun x80=>
(ze .neq c72 x80).bind fun x81=>
(
  asBool x81).bind fun b82=>
  if b82=true then
  some (.inr (1,(vec [(.bool false),(v65 2),(v65 3),(v65 4),(.sl (V.elems (v65 5))),(v65 6),(v65 7),(.sl (V.elems (v65 8))),(.sl (V.elems (v65 9))),(v65 10),(.sl (V.elems (v65 11))),(.sl (V.elems (v65 12))),(v65 13),(v65 14),(v65 15),(.sl (V.elems (v65 16))),(v65 17),(v65 18),(.sl (V.elems (v65 19))),(.sl (V.elems (v65 20)))])))
else
(
  ze .add (v65 1) (.int .i64 1)).bind fun x83=>
  some (.inl (vec [(.sl (V.elems (v65 0))),x83,(v65 2),(v65 3),(v65 4),(.sl (V.elems (v65 5))),(v65 6),(v65 7),(.sl (V.elems (v65 8))),(.sl (V.elems (v65 9))),(v65 10),(.sl (V.elems (v65 11))),(.sl (V.elems (v65 12))),(v65 13),(v65 14),(v65 15),(.sl (V.elems (v65 16))),(v65 17),(v65 18),(.sl (V.elems (v65 19))),(.sl (V.elems (v65 20)))]))))
else
 some (.inr (0,(vec [(v65 2),(v65 3),(v65 4),(.sl (V.elems (v65 5))),(v65 6),(v65 7),(.sl (V.elems (v65 8))),(.sl (V.elems (v65 9))),(v65 10),(.sl (V.elems (v65 11))),(.sl (V.elems (v65 12))),(v65 13),(v65 14),(v65 15),(.sl (V.elems (v65 16))),(v65 17),(v65 18),(.sl (V.elems (v65 19))),(.sl (V.elems (v65 20)))])))
noncomputable def Yr(a0:V)(a1:V)(a2:V)(a3:V):Option (V×List V):=
(P0 yC [.v a0,.v (.int .i64 9)] []).bind fun r1=>
(ze .add (.int .i64 1) r1.1).bind fun x2=>
(yk (wi x2) (vec [(.sl []),(.int .i64 0),(.int .i64 6),(.bool false),(.bool false),(.sl []),(.int .i64 0),(.str []),(.sl []),(.sl [])])).bind fun o11=>
(P0 yC [.v a1,.v x2] []).bind fun r12=>
(P0 yC [.v a2,.v x2] []).bind fun r13=>
(ze .add r12.1 (.int .i64 1)).bind fun x14=>
(
  JB (.str [48,49,50,51,52,53,54,55,56,57]) (some r12.1) (some x14)).bind fun x15=>
  tst (okN 1 x15) ((zn x15 0).bind fun c16=>
(ze .add r13.1 (.int .i64 1)).bind fun x17=>
(
  JB (.str [48,49,50,51,52,53,54,55,56,57]) (some r13.1) (some x17)).bind fun x18=>
  tst (okN 1 x18) ((zn x18 0).bind fun c19=>
  tst (yc 1 (V.elems (o11.2 0))) ((kT none (some r12.1) ((V.elems (o11.2 0)).length)).bind fun q20=>
(
  Y0 1 (.sl (((V.elems (o11.2 0)).drop q20.1).take (q20.2 - q20.1)))).bind fun l21=>
  tst (wy 8 (List.length (α:=V) []) (l21.length)) ((ze .add r12.1 (.int .i64 1)).bind fun x22=>
  tst (yc 1 (V.elems (o11.2 0))) ((kT (some x22) none ((V.elems (o11.2 0)).length)).bind fun q23=>
(
  Y0 1 (.sl (((V.elems (o11.2 0)).drop q23.1).take (q23.2 - q23.1)))).bind fun l24=>
  tst (wy 8 ((([]:List V)++l21).length) (l24.length)) (tst (yc 1 ((([]:List V)++l21)++l24)) ((kT none (some r13.1) (((([]:List V)++l21)++l24).length)).bind fun q25=>
(
  Y0 1 (.sl ((((([]:List V)++l21)++l24).drop q25.1).take (q25.2 - q25.1)))).bind fun l26=>
  tst (wy 8 (List.length (α:=V) []) (l26.length)) (tst (okN 1 r12.1) ((zn r12.1 0).bind fun c27=>
  tst (yc 1 [c27]) (tst (wy 8 ((([]:List V)++l26).length) (List.length (α:=V) [c27])) (tst (yc 1 ((([]:List V)++l21)++l24)) ((kT (some r13.1) none (((([]:List V)++l21)++l24).length)).bind fun q28=>
(
  Y0 1 (.sl ((((([]:List V)++l21)++l24).drop q28.1).take (q28.2 - q28.1)))).bind fun l29=>
  tst (wy 8 (((([]:List V)++l26)++([c27]:List V)).length) (l29.length)) (tst (yc 1 [c19]) (tst (yc 1 [c16]) ((((P0 yC [.v a3,.v (.int .i64 4)] []).bind fun r30=>
(ze .eql r30.1 (.int .i64 0)).bind fun x31=>
(
  asBool x31).bind fun b32=>
  if b32=true then
(ze .add r12.1 (.int .i64 1)).bind fun x33=>
(
  JB (.str [48,49,50,51,52,53,54,55,56,57]) (some r12.1) (some x33)).bind fun x34=>
  tst (okN 1 x34) ((zn x34 0).bind fun c35=>
  tst (yc 1 [c35]) (some (0,(vec [(.sl ((([]:List V)++l21)++l24)),(o11.2 1),(o11.2 2),(o11.2 3),(.sl (V.elems (o11.2 4))),(o11.2 5),(o11.2 6),(.sl (V.elems (o11.2 7))),(.sl (V.elems (o11.2 8))),(.int .i64 2),(.sl [c35]),(.sl []),(.int .i64 0),(.bool false),(.bool false),(.sl []),(.int .i64 0),(.str []),(.sl []),(.sl [])]))))
else
(ze .eql r30.1 (.int .i64 1)).bind fun x36=>
(
  asBool x36).bind fun b37=>
  if b37=true then
(ze .add r12.1 (.int .i64 1)).bind fun x38=>
(
  JB (.str [48,49,50,51,52,53,54,55,56,57]) (some r12.1) (some x38)).bind fun x39=>
  tst (okN 1 x39) ((zn x39 0).bind fun c40=>
  tst (yc 1 (V.elems (o11.2 0))) (tst (wy 8 (List.length (α:=V) []) ((V.elems (o11.2 0)).length)) (tst (okN 1 r12.1) ((zn r12.1 0).bind fun c41=>
  tst (yc 1 [c41]) (tst (wy 8 ((([]:List V)++(V.elems (o11.2 0))).length) (List.length (α:=V) [c41])) (tst (yc 1 [(.str [45])]) (tst (yc 1 [c40]) (some (0,(vec [(.sl ((([]:List V)++(V.elems (o11.2 0)))++([c41]:List V))),(o11.2 1),(o11.2 2),(o11.2 3),(.sl (V.elems (o11.2 4))),(o11.2 5),(o11.2 6),(.sl (V.elems (o11.2 7))),(.sl (V.elems (o11.2 8))),(.int .i64 5),(.sl [(.str [45])]),(.sl [c40]),(.int .i64 0),(.bool false),(.bool false),(.sl []),(.int .i64 0),(.str []),(.sl []),(.sl [])]))))))))))
else
(ze .eql r30.1 (.int .i64 2)).bind fun x42=>
(
  asBool x42).bind fun b43=>
  if b43=true then
(ze .add r13.1 (.int .i64 1)).bind fun x44=>
(
  JB (.str [48,49,50,51,52,53,54,55,56,57]) (some r13.1) (some x44)).bind fun x45=>
  tst (okN 1 x45) ((zn x45 0).bind fun c46=>
(ze .add r12.1 (.int .i64 1)).bind fun x47=>
(
  JB (.str [48,49,50,51,52,53,54,55,56,57]) (some r12.1) (some x47)).bind fun x48=>
  tst (okN 1 x48) ((zn x48 0).bind fun c49=>
  tst (yc 1 (V.elems (o11.2 0))) ((kT none (some r13.1) ((V.elems (o11.2 0)).length)).bind fun q50=>
(
  Y0 1 (.sl (((V.elems (o11.2 0)).drop q50.1).take (q50.2 - q50.1)))).bind fun l51=>
  tst (wy 8 (List.length (α:=V) []) (l51.length)) (tst (okN 1 r12.1) ((zn r12.1 0).bind fun c52=>
  tst (yc 1 [c52]) (tst (wy 8 ((([]:List V)++l51).length) (List.length (α:=V) [c52])) (tst (yc 1 (V.elems (o11.2 0))) ((kT (some r13.1) none ((V.elems (o11.2 0)).length)).bind fun q53=>
(
  Y0 1 (.sl (((V.elems (o11.2 0)).drop q53.1).take (q53.2 - q53.1)))).bind fun l54=>
  tst (wy 8 (((([]:List V)++l51)++([c52]:List V)).length) (l54.length)) (tst (yc 1 [c46]) (some (0,(vec [(.sl (((([]:List V)++l51)++([c52]:List V))++l54)),(o11.2 1),(o11.2 2),(o11.2 3),(.sl (V.elems (o11.2 4))),(o11.2 5),(o11.2 6),(.sl (V.elems (o11.2 7))),(.sl (V.elems (o11.2 8))),(.int .i64 1),(.sl [c46]),(.sl []),(.int .i64 4),(.bool false),(.bool false),(.sl []),(.int .i64 0),c49,(.sl []),(.sl [])]))))))))))))
else
 some (0,(vec [(.sl (((([]:List V)++l26)++([c27]:List V))++l29)),(o11.2 1),(o11.2 2),(o11.2 3),(.sl (V.elems (o11.2 4))),(o11.2 5),(o11.2 6),(.sl (V.elems (o11.2 7))),(.sl (V.elems (o11.2 8))),(.int .i64 4),(.sl [c19]),(.sl [c16]),(.int .i64 0),(.bool false),(.bool false),(.sl []),(.int .i64 0),(.str []),(.sl []),(.sl [])])):Option (Nat×(Nat→V)))).bind fun o55=>
(P0 xU [.v (.agg [(o55.2 1),(o55.2 2),(o55.2 3),(.sl (V.elems (o55.2 4))),(o55.2 5),(o55.2 6),(.sl (V.elems (o55.2 7))),(.sl (V.elems (o55.2 8)))]),.v (.agg [(o55.2 9),(.sl (V.elems (o55.2 10))),(.sl (V.elems (o55.2 11))),(o55.2 12),(o55.2 13),(o55.2 14),(.sl (V.elems (o55.2 15))),(o55.2 16),(o55.2 17),(.sl (V.elems (o55.2 18))),(.sl (V.elems (o55.2 19)))])] []).bind fun r56=>
(zj r56.1 0).bind fun x57=>
(
  zj r56.1 1).bind fun x58=>
  tst (okN 8 x57) ((unV .not x58).bind fun x59=>
(asBool x59).bind fun b60=>
((if b60=false then
(zn x57 7).bind fun c61=>
(
  yX c61).bind fun n62=>
  some (.bool ((((n62:Nat):Int):Int) != ((((V.elems (o55.2 0)).length):Nat):Int)))
else some (.bool true):Option V)).bind fun x63=>
(
  asBool x63).bind fun b64=>
  if b64=true then
  some ((.bool false),[])
else
(
  yk (vp x57) (vec [(.sl (V.elems (o55.2 0))),(.int .i64 0),(o55.2 1),(o55.2 2),(o55.2 3),(.sl (V.elems (o55.2 4))),(o55.2 5),(o55.2 6),(.sl (V.elems (o55.2 7))),(.sl (V.elems (o55.2 8))),(o55.2 9),(.sl (V.elems (o55.2 10))),(.sl (V.elems (o55.2 11))),(o55.2 12),(o55.2 13),(o55.2 14),(.sl (V.elems (o55.2 15))),(o55.2 16),(o55.2 17),(.sl (V.elems (o55.2 18))),(.sl (V.elems (o55.2 19)))])).bind fun o84=>
  if o84.1=0 then
(
  P0 vm [] []).bind fun r85=>
  some (r85.1,[])
else
 some ((o84.2 0),[])))))))))))))))))
theorem Qv(a0:V)(a1:V)(a2:V)(a3:V):P0 xX [.v a0,.v a1,.v a2,.v a3] []=Yr a0 a1 a2 a3:=
 (z6 (fn:=Yg) _ _ (by kernel_rfl)).trans (by kernel_rfl)
noncomputable def V7(a0:V)(a1:V):Option (V×List V):=
(ze .rem a0 a1).bind fun x1=>
(ze .lss x1 (.int .i64 0)).bind fun x2=>
(
  asBool x2).bind fun b3=>
  if b3=true then
(
  ze .add x1 a1).bind fun x4=>
  some (x4,[])
else
 some (x1,[])
theorem zb5(a0:V)(a1:V):P0 yC [.v a0,.v a1] []=V7 a0 a1:=
 (z6 (fn:=VO) _ _ (by kernel_rfl)).trans (by kernel_rfl)
noncomputable def zez(a0:V)(a1:V):Option (V×List V):=
 tst (okN 8 a0) (tst (okN 11 a1) ((P0 vi [.v a0,.v a1] []).bind fun r1=>
(zj r1.1 0).bind fun x2=>
(
  asBool x2).bind fun b3=>
  if b3=true then
(
  zj r1.1 1).bind fun x4=>
  tst (okN 8 x4) ((P0 vC [.p 0 0,.p 1 0,.v .nili] [(false,8,x4),(false,1,(.bool true))]).bind fun r5=>
(r5.2[0]?).bind fun y6=>
(
  r5.2[1]?).bind fun y7=>
  some ((.tup [y6,y7]),[]))
else
(zj r1.1 1).bind fun x8=>
(P0 vC [.p 0 0,.p 1 0,.v x8] [(false,8,(.agg [(.int .i64 0),(.bool false),(.bool false),(.sl []),(.int .i64 0),(.str []),(.sl []),(.sl [])])),(false,1,(.bool false))]).bind fun r9=>
(r9.2[0]?).bind fun y10=>
(
  r9.2[1]?).bind fun y11=>
  some ((.tup [y10,y11]),[])))
theorem zjK(a0:V)(a1:V):P0 xU [.v a0,.v a1] []=zez a0 a1:=
 (z6 (fn:=ze1) _ _ (by kernel_rfl)).trans (by kernel_rfl)
noncomputable def V2:Option (V×List V):=
(P0 vB [.v (.agg [(.int .i64 7),(.bool false),(.bool false),(.sl []),(.int .i64 0),(.str []),(.sl [(.str [97])]),(.sl [(.agg [(.int .i64 6),(.bool false),(.bool false),(.sl []),(.int .i64 0),(.str []),(.sl []),(.sl [(.agg [(.int .i64 1),(.bool false),(.bool false),(.sl []),(.int .i64 0),(.str []),(.sl []),(.sl [])])])])])]),.v (.sl [(.agg [(.int .i64 1),(.sl [(.str [97]),(.str [45])]),(.sl []),(.int .i64 2),(.bool false),(.bool false),(.sl []),(.int .i64 0),(.str []),(.sl []),(.sl [])])]),.v (.int .i64 100)] []).bind fun r1=>
(zj r1.1 0).bind fun x2=>
(zj r1.1 1).bind fun x3=>
(
  zj r1.1 2).bind fun x4=>
  tst (okN 8 x2) ((ze .eql x4 (.int .i64 0)).bind fun x5=>
(asBool x5).bind fun b6=>
((if b6=true then
(
  ze .eql x3 (.int .i64 (-1))).bind fun x7=>
  some x7
else some (.bool false):Option V)).bind fun x8=>
(asBool x8).bind fun b9=>
((if b9=true then
(zn x2 7).bind fun c10=>
(
  yX c10).bind fun n11=>
  some (.bool ((((n11:Nat):Int):Int) == 1))
else some (.bool false):Option V)).bind fun x12=>
(asBool x12).bind fun b13=>
((if b13=true then
(zn x2 7).bind fun c14=>
(xk 8 c14).bind fun l15=>
(xP (.int .i64 0) (l15.length)).bind fun i17=>
(l15[i17]?).bind fun e18=>
(zn e18 7).bind fun c19=>
(
  yX c19).bind fun n20=>
  some (.bool ((((n20:Nat):Int):Int) == 2))
else some (.bool false):Option V)).bind fun x21=>
(asBool x21).bind fun b22=>
((if b22=true then
(zn x2 7).bind fun c23=>
(xk 8 c23).bind fun l24=>
(xP (.int .i64 0) (l24.length)).bind fun i25=>
(l24[i25]?).bind fun e26=>
(zn e26 7).bind fun c27=>
(xk 8 c27).bind fun l28=>
(xP (.int .i64 1) (l28.length)).bind fun i29=>
(l28[i29]?).bind fun e30=>
(zn e30 0).bind fun c31=>
(
  ze .eql c31 (.int .i64 2)).bind fun x32=>
  some x32
else some (.bool false):Option V)).bind fun x33=>
 some (x33,[]))
theorem zdd:P0 vm [] []=V2:=
 (z6 (fn:=V3) _ _ (by kernel_rfl)).trans (by kernel_rfl)
noncomputable def v6(n8:Nat)(a1:V)(a2:V)(v9:Nat→V):Option ((Nat→V) ⊕ (Nat×(Nat→V))):=
(ze .lss (v9 0) (.int .i64 ((n8:Nat):Int))).bind fun x10=>
(
  asBool x10).bind fun b11=>
  if b11=true then
(xk 11 a1).bind fun l12=>
(xP (v9 0) (l12.length)).bind fun i13=>
(
  l12[i13]?).bind fun e14=>
  tst (okN 11 e14) ((P0 xU [.v (v9 1),.v e14] []).bind fun r15=>
(zj r15.1 0).bind fun x16=>
(
  zj r15.1 1).bind fun x17=>
  tst (okN 8 x16) ((unV .not x17).bind fun x18=>
(
  asBool x18).bind fun b19=>
  if b19=true then
  some (.inr (1,(vec [(v9 0),(.int .i64 5),(v9 1),(.int .i64 0),(.bool false),(.bool false),(.sl []),(.int .i64 0),(.str []),(.sl []),(.sl [])])))
else
(P0 jc [.v x16,.v a2] []).bind fun r20=>
(unV .not r20.1).bind fun x21=>
(
  asBool x21).bind fun b22=>
  if b22=true then
  some (.inr (1,(vec [(v9 0),(.int .i64 4),(v9 1),(.int .i64 0),(.bool false),(.bool false),(.sl []),(.int .i64 0),(.str []),(.sl []),(.sl [])])))
else
 tst (okN 8 x16) ((ze .add (v9 0) (.int .i64 1)).bind fun x23=>
 some (.inl (vec [x23,x16,(v9 2),(v9 3),(v9 4),(v9 5),(v9 6),(v9 7),(v9 8),(v9 9)])))))
else
 some (.inr (0,(vec [(v9 1),(.agg [(v9 2),(v9 3),(v9 4),(v9 5),(v9 6),(v9 7),(v9 8),(v9 9)])])))
noncomputable def KN(a0:V)(a1:V)(a2:V):Option (V×List V):=
 tst (okN 8 a0) ((P0 xj [.v a0] []).bind fun r1=>
(unV .not r1.1).bind fun x2=>
(asBool x2).bind fun b3=>
((if b3=false then
(P0 qq [.v a1] []).bind fun r4=>
(
  unV .not r4.1).bind fun x5=>
  some x5
else some (.bool true):Option V)).bind fun x6=>
(
  asBool x6).bind fun b7=>
  if b7=true then
  some ((.tup [(.agg [(.int .i64 0),(.bool false),(.bool false),(.sl []),(.int .i64 0),(.str []),(.sl []),(.sl [])]),(.int .i64 (-1)),(.int .i64 1)]),[])
else
(yX a1).bind fun n8=>
(
  yk (v6 n8 a1 a2) (vec [(.int .i64 0),a0,(.int .i64 0),(.bool false),(.bool false),(.sl []),(.int .i64 0),(.str []),(.sl []),(.sl [])])).bind fun o24=>
  if o24.1=0 then
  tst (okN 8 (o24.2 0)) (some ((.tup [(o24.2 0),(.int .i64 (-1)),(.int .i64 0)]),[]))
else
 some ((.tup [(.agg [(o24.2 3),(o24.2 4),(o24.2 5),(o24.2 6),(o24.2 7),(o24.2 8),(o24.2 9),(o24.2 10)]),(o24.2 0),(o24.2 1)]),[]))
theorem zgh(a0:V)(a1:V)(a2:V):P0 vB [.v a0,.v a1,.v a2] []=KN a0 a1 a2:=
 (z6 (fn:=zal) _ _ (by kernel_rfl)).trans (by kernel_rfl)
noncomputable def W0(a0:V)(a1:V)(a2:V):Option (V×List V):=
(VS true a2).bind fun x1=>
(
  asBool x1).bind fun b2=>
  if b2=true then
(zqZ 52 true a2).bind fun x3=>
(zj x3 0).bind fun x4=>
(
  zj x3 1).bind fun x5=>
  tst (okN 0 x4) ((unV .not x5).bind fun x6=>
(
  asBool x6).bind fun b7=>
  if b7=true then
(VS true a2).bind fun x8=>
(
  asBool x8).bind fun b9=>
  if b9=true then
  none
else
 none
else
 some ((.tup []),[(.agg [(.int .i64 0),(.bool false),(.bool false),(.sl []),(.int .i64 0),(.str []),(.sl []),(.sl [])]),(.bool false)]))
else
 some ((.tup []),[a0,a1])
theorem Q3(a0:V)(a1:V)(a2:V):P0 vC [.p 0 0,.p 1 0,.v a2] [(false,8,a0),(false,1,a1)]=W0 a0 a1 a2:=
 (z6 (fn:=K7) _ _ (by kernel_rfl)).trans (by kernel_rfl)
noncomputable def ZC(a0:V)(a1:V):Option (V×List V):=
 tst (okN 8 a0) (tst (okN 11 a1) ((zn a1 0).bind fun c1=>
(ze .eql c1 (.int .i64 1)).bind fun x2=>
(
  asBool x2).bind fun b3=>
  if b3=true then
(zn a1 1).bind fun c4=>
(P0 qD [.v a0,.v c4,.v (We a1 3 8)] []).bind fun r5=>
(zj r5.1 0).bind fun x6=>
(
  asBool x6).bind fun b7=>
  if b7=true then
(
  zj r5.1 1).bind fun x8=>
  tst (okN 8 x8) (some ((.tup [(.bool true),x8]),[]))
else
(
  zj r5.1 1).bind fun x9=>
  some ((.tup [(.bool false),x9]),[])
else
(ze .eql c1 (.int .i64 2)).bind fun x10=>
(
  asBool x10).bind fun b11=>
  if b11=true then
(zn a1 1).bind fun c12=>
(P0 vE [.v a0,.v c12] []).bind fun r13=>
(zj r13.1 0).bind fun x14=>
(
  asBool x14).bind fun b15=>
  if b15=true then
(
  zj r13.1 1).bind fun x16=>
  tst (okN 8 x16) (some ((.tup [(.bool true),x16]),[]))
else
(
  zj r13.1 1).bind fun x17=>
  some ((.tup [(.bool false),x17]),[])
else
(ze .eql c1 (.int .i64 3)).bind fun x18=>
(
  asBool x18).bind fun b19=>
  if b19=true then
(zn a1 1).bind fun c20=>
(P0 wu [.v a0,.v c20,.v (We a1 3 8)] []).bind fun r21=>
(zj r21.1 0).bind fun x22=>
(
  asBool x22).bind fun b23=>
  if b23=true then
(
  zj r21.1 1).bind fun x24=>
  tst (okN 8 x24) (some ((.tup [(.bool true),x24]),[]))
else
(
  zj r21.1 1).bind fun x25=>
  some ((.tup [(.bool false),x25]),[])
else
(ze .eql c1 (.int .i64 4)).bind fun x26=>
(
  asBool x26).bind fun b27=>
  if b27=true then
(zn a1 2).bind fun c28=>
(zn a1 1).bind fun c29=>
(P0 Zs [.v a0,.v c28,.v c29] []).bind fun r30=>
(zj r30.1 0).bind fun x31=>
(
  asBool x31).bind fun b32=>
  if b32=true then
(
  zj r30.1 1).bind fun x33=>
  tst (okN 8 x33) (some ((.tup [(.bool true),x33]),[]))
else
(
  zj r30.1 1).bind fun x34=>
  some ((.tup [(.bool false),x34]),[])
else
(ze .eql c1 (.int .i64 5)).bind fun x35=>
(
  asBool x35).bind fun b36=>
  if b36=true then
(zn a1 1).bind fun c37=>
(zn a1 2).bind fun c38=>
(P0 xr [.v a0,.v c38] []).bind fun r39=>
(zj r39.1 0).bind fun x40=>
(
  asBool x40).bind fun b41=>
  if b41=true then
(zj r39.1 1).bind fun x42=>
(P0 qD [.v a0,.v c37,.v x42] []).bind fun r43=>
(zj r43.1 0).bind fun x44=>
(
  asBool x44).bind fun b45=>
  if b45=true then
(
  zj r43.1 1).bind fun x46=>
  tst (okN 8 x46) (some ((.tup [(.bool true),x46]),[]))
else
(
  zj r43.1 1).bind fun x47=>
  some ((.tup [(.bool false),x47]),[])
else
(
  zj r39.1 1).bind fun x48=>
  some ((.tup [(.bool false),x48]),[])
else
(zn a1 0).bind fun c49=>
(ze .eql c49 (.int .i64 6)).bind fun x50=>
(
  asBool x50).bind fun b51=>
  if b51=true then
(
  asBool x50).bind fun b52=>
  if b52=true then
(
  asBool x50).bind fun b53=>
  if b53=true then
(zn a1 1).bind fun c54=>
(
  asBool x50).bind fun b55=>
  if b55=true then
(
  asBool x50).bind fun b56=>
  if b56=true then
(
  asBool x50).bind fun b57=>
  if b57=true then
(P0 xr [.v a0,.v c54] []).bind fun r58=>
(zj r58.1 0).bind fun x59=>
(
  asBool x59).bind fun b60=>
  if b60=true then
(zj r58.1 1).bind fun x61=>
(asBool x50).bind fun b62=>
((if b62=true then
(
  P0 wq [.v x61,.v (We a1 3 8)] []).bind fun r63=>
  some r63.1
else some (.bool false):Option V)).bind fun x64=>
(P0 zt [.v x64] []).bind fun r65=>
(zj r65.1 0).bind fun x66=>
(
  asBool x66).bind fun b67=>
  if b67=true then
(
  zj r65.1 1).bind fun x68=>
  tst (okN 8 a0) (some ((.tup [(.bool true),a0]),[]))
else
(
  zj r65.1 1).bind fun x69=>
  some ((.tup [(.bool false),x69]),[])
else
(
  zj r58.1 1).bind fun x70=>
  some ((.tup [(.bool false),x70]),[])
else
(asBool x50).bind fun b71=>
((if b71=true then
(P0 wr [.v a0,.v c54] []).bind fun r72=>
(
  P0 wq [.v r72.1,.v (We a1 3 8)] []).bind fun r73=>
  some r73.1
else some (.bool false):Option V)).bind fun x74=>
(P0 zt [.v x74] []).bind fun r75=>
(zj r75.1 0).bind fun x76=>
(
  asBool x76).bind fun b77=>
  if b77=true then
(
  zj r75.1 1).bind fun x78=>
  tst (okN 8 a0) (some ((.tup [(.bool true),a0]),[]))
else
(
  zj r75.1 1).bind fun x79=>
  some ((.tup [(.bool false),x79]),[])
else
(
  asBool x50).bind fun b80=>
  if b80=true then
(P0 xr [.v a0,.v c54] []).bind fun r81=>
(zj r81.1 0).bind fun x82=>
(
  asBool x82).bind fun b83=>
  if b83=true then
(zj r81.1 1).bind fun x84=>
(asBool x50).bind fun b85=>
(
  (if b85=true then
  none
else some (.bool false):Option V)).bind fun x86=>
(P0 zt [.v x86] []).bind fun r87=>
(zj r87.1 0).bind fun x88=>
(
  asBool x88).bind fun b89=>
  if b89=true then
(
  zj r87.1 1).bind fun x90=>
  tst (okN 8 a0) (some ((.tup [(.bool true),a0]),[]))
else
(
  zj r87.1 1).bind fun x91=>
  some ((.tup [(.bool false),x91]),[])
else
(
  zj r81.1 1).bind fun x92=>
  some ((.tup [(.bool false),x92]),[])
else
(asBool x50).bind fun b93=>
((if b93=true then
(
  P0 wr [.v a0,.v c54] []).bind fun r94=>
  none
else some (.bool false):Option V)).bind fun x95=>
(P0 zt [.v x95] []).bind fun r96=>
(zj r96.1 0).bind fun x97=>
(
  asBool x97).bind fun b98=>
  if b98=true then
(
  zj r96.1 1).bind fun x99=>
  tst (okN 8 a0) (some ((.tup [(.bool true),a0]),[]))
else
(
  zj r96.1 1).bind fun x100=>
  some ((.tup [(.bool false),x100]),[])
else
(
  asBool x50).bind fun b101=>
  if b101=true then
  none
else
(
  asBool x50).bind fun b102=>
  if b102=true then
(P0 xr [.v a0,.v c54] []).bind fun r103=>
(zj r103.1 0).bind fun x104=>
(
  asBool x104).bind fun b105=>
  if b105=true then
(zj r103.1 1).bind fun x106=>
(asBool x50).bind fun b107=>
(
  (if b107=true then
  none
else some (.bool false):Option V)).bind fun x108=>
(P0 zt [.v x108] []).bind fun r109=>
(zj r109.1 0).bind fun x110=>
(
  asBool x110).bind fun b111=>
  if b111=true then
(
  zj r109.1 1).bind fun x112=>
  tst (okN 8 a0) (some ((.tup [(.bool true),a0]),[]))
else
(
  zj r109.1 1).bind fun x113=>
  some ((.tup [(.bool false),x113]),[])
else
(
  zj r103.1 1).bind fun x114=>
  some ((.tup [(.bool false),x114]),[])
else
(asBool x50).bind fun b115=>
((if b115=true then
(
  P0 wr [.v a0,.v c54] []).bind fun r116=>
  none
else some (.bool false):Option V)).bind fun x117=>
(P0 zt [.v x117] []).bind fun r118=>
(zj r118.1 0).bind fun x119=>
(
  asBool x119).bind fun b120=>
  if b120=true then
(
  zj r118.1 1).bind fun x121=>
  tst (okN 8 a0) (some ((.tup [(.bool true),a0]),[]))
else
(
  zj r118.1 1).bind fun x122=>
  some ((.tup [(.bool false),x122]),[])
else
(
  asBool x50).bind fun b123=>
  if b123=true then
(
  asBool x50).bind fun b124=>
  if b124=true then
(
  asBool x50).bind fun b125=>
  if b125=true then
  none
else
(asBool x50).bind fun b126=>
(
  (if b126=true then
  none
else some (.bool false):Option V)).bind fun x127=>
(P0 zt [.v x127] []).bind fun r128=>
(zj r128.1 0).bind fun x129=>
(
  asBool x129).bind fun b130=>
  if b130=true then
(
  zj r128.1 1).bind fun x131=>
  tst (okN 8 a0) (some ((.tup [(.bool true),a0]),[]))
else
(
  zj r128.1 1).bind fun x132=>
  some ((.tup [(.bool false),x132]),[])
else
(
  asBool x50).bind fun b133=>
  if b133=true then
  none
else
(asBool x50).bind fun b134=>
(
  (if b134=true then
  none
else some (.bool false):Option V)).bind fun x135=>
(P0 zt [.v x135] []).bind fun r136=>
(zj r136.1 0).bind fun x137=>
(
  asBool x137).bind fun b138=>
  if b138=true then
(
  zj r136.1 1).bind fun x139=>
  tst (okN 8 a0) (some ((.tup [(.bool true),a0]),[]))
else
(
  zj r136.1 1).bind fun x140=>
  some ((.tup [(.bool false),x140]),[])
else
(
  asBool x50).bind fun b141=>
  if b141=true then
  none
else
(
  asBool x50).bind fun b142=>
  if b142=true then
  none
else
(asBool x50).bind fun b143=>
(
  (if b143=true then
  none
else some (.bool false):Option V)).bind fun x144=>
(P0 zt [.v x144] []).bind fun r145=>
(zj r145.1 0).bind fun x146=>
(
  asBool x146).bind fun b147=>
  if b147=true then
(
  zj r145.1 1).bind fun x148=>
  tst (okN 8 a0) (some ((.tup [(.bool true),a0]),[]))
else
(
  zj r145.1 1).bind fun x149=>
  some ((.tup [(.bool false),x149]),[])
else
(
  asBool x50).bind fun b150=>
  if b150=true then
  none
else
(
  asBool x50).bind fun b151=>
  if b151=true then
(
  asBool x50).bind fun b152=>
  if b152=true then
(
  asBool x50).bind fun b153=>
  if b153=true then
  none
else
(asBool x50).bind fun b154=>
(
  (if b154=true then
  none
else some (.bool false):Option V)).bind fun x155=>
(P0 zt [.v x155] []).bind fun r156=>
(zj r156.1 0).bind fun x157=>
(
  asBool x157).bind fun b158=>
  if b158=true then
(
  zj r156.1 1).bind fun x159=>
  tst (okN 8 a0) (some ((.tup [(.bool true),a0]),[]))
else
(
  zj r156.1 1).bind fun x160=>
  some ((.tup [(.bool false),x160]),[])
else
(
  asBool x50).bind fun b161=>
  if b161=true then
  none
else
(asBool x50).bind fun b162=>
(
  (if b162=true then
  none
else some (.bool false):Option V)).bind fun x163=>
(P0 zt [.v x163] []).bind fun r164=>
(zj r164.1 0).bind fun x165=>
(
  asBool x165).bind fun b166=>
  if b166=true then
(
  zj r164.1 1).bind fun x167=>
  tst (okN 8 a0) (some ((.tup [(.bool true),a0]),[]))
else
(
  zj r164.1 1).bind fun x168=>
  some ((.tup [(.bool false),x168]),[])
else
(
  asBool x50).bind fun b169=>
  if b169=true then
  none
else
(
  asBool x50).bind fun b170=>
  if b170=true then
  none
else
(asBool x50).bind fun b171=>
(
  (if b171=true then
  none
else some (.bool false):Option V)).bind fun x172=>
(P0 zt [.v x172] []).bind fun r173=>
(zj r173.1 0).bind fun x174=>
(
  asBool x174).bind fun b175=>
  if b175=true then
(
  zj r173.1 1).bind fun x176=>
  tst (okN 8 a0) (some ((.tup [(.bool true),a0]),[]))
else
(
  zj r173.1 1).bind fun x177=>
  some ((.tup [(.bool false),x177]),[])
else
(
  asBool x50).bind fun b178=>
  if b178=true then
(
  asBool x50).bind fun b179=>
  if b179=true then
(zn a1 1).bind fun c180=>
(
  asBool x50).bind fun b181=>
  if b181=true then
(
  asBool x50).bind fun b182=>
  if b182=true then
(
  asBool x50).bind fun b183=>
  if b183=true then
  none
else
(asBool x50).bind fun b184=>
(
  (if b184=true then
  none
else some (.bool false):Option V)).bind fun x185=>
(P0 zt [.v x185] []).bind fun r186=>
(zj r186.1 0).bind fun x187=>
(
  asBool x187).bind fun b188=>
  if b188=true then
(
  zj r186.1 1).bind fun x189=>
  tst (okN 8 a0) (some ((.tup [(.bool true),a0]),[]))
else
(
  zj r186.1 1).bind fun x190=>
  some ((.tup [(.bool false),x190]),[])
else
(
  asBool x50).bind fun b191=>
  if b191=true then
  none
else
(asBool x50).bind fun b192=>
(
  (if b192=true then
  none
else some (.bool false):Option V)).bind fun x193=>
(P0 zt [.v x193] []).bind fun r194=>
(zj r194.1 0).bind fun x195=>
(
  asBool x195).bind fun b196=>
  if b196=true then
(
  zj r194.1 1).bind fun x197=>
  tst (okN 8 a0) (some ((.tup [(.bool true),a0]),[]))
else
(
  zj r194.1 1).bind fun x198=>
  some ((.tup [(.bool false),x198]),[])
else
(
  asBool x50).bind fun b199=>
  if b199=true then
  none
else
(
  asBool x50).bind fun b200=>
  if b200=true then
  none
else
(asBool x50).bind fun b201=>
(
  (if b201=true then
  none
else some (.bool false):Option V)).bind fun x202=>
(P0 zt [.v x202] []).bind fun r203=>
(zj r203.1 0).bind fun x204=>
(
  asBool x204).bind fun b205=>
  if b205=true then
(
  zj r203.1 1).bind fun x206=>
  tst (okN 8 a0) (some ((.tup [(.bool true),a0]),[]))
else
(
  zj r203.1 1).bind fun x207=>
  some ((.tup [(.bool false),x207]),[])
else
(
  asBool x50).bind fun b208=>
  if b208=true then
(
  asBool x50).bind fun b209=>
  if b209=true then
(
  asBool x50).bind fun b210=>
  if b210=true then
  none
else
(asBool x50).bind fun b211=>
(
  (if b211=true then
  none
else some (.bool false):Option V)).bind fun x212=>
(P0 zt [.v x212] []).bind fun r213=>
(zj r213.1 0).bind fun x214=>
(
  asBool x214).bind fun b215=>
  if b215=true then
(
  zj r213.1 1).bind fun x216=>
  tst (okN 8 a0) (some ((.tup [(.bool true),a0]),[]))
else
(
  zj r213.1 1).bind fun x217=>
  some ((.tup [(.bool false),x217]),[])
else
(
  asBool x50).bind fun b218=>
  if b218=true then
  none
else
(asBool x50).bind fun b219=>
(
  (if b219=true then
  none
else some (.bool false):Option V)).bind fun x220=>
(P0 zt [.v x220] []).bind fun r221=>
(zj r221.1 0).bind fun x222=>
(
  asBool x222).bind fun b223=>
  if b223=true then
(
  zj r221.1 1).bind fun x224=>
  tst (okN 8 a0) (some ((.tup [(.bool true),a0]),[]))
else
(
  zj r221.1 1).bind fun x225=>
  some ((.tup [(.bool false),x225]),[])
else
(
  asBool x50).bind fun b226=>
  if b226=true then
  none
else
(
  asBool x50).bind fun b227=>
  if b227=true then
  none
else
(asBool x50).bind fun b228=>
(
  (if b228=true then
  none
else some (.bool false):Option V)).bind fun x229=>
(P0 zt [.v x229] []).bind fun r230=>
(zj r230.1 0).bind fun x231=>
(
  asBool x231).bind fun b232=>
  if b232=true then
(
  zj r230.1 1).bind fun x233=>
  tst (okN 8 a0) (some ((.tup [(.bool true),a0]),[]))
else
(
  zj r230.1 1).bind fun x234=>
  some ((.tup [(.bool false),x234]),[])
else
(
  asBool x50).bind fun b235=>
  if b235=true then
  none
else
(
  asBool x50).bind fun b236=>
  if b236=true then
(
  asBool x50).bind fun b237=>
  if b237=true then
(
  asBool x50).bind fun b238=>
  if b238=true then
  none
else
(asBool x50).bind fun b239=>
(
  (if b239=true then
  none
else some (.bool false):Option V)).bind fun x240=>
(P0 zt [.v x240] []).bind fun r241=>
(zj r241.1 0).bind fun x242=>
(
  asBool x242).bind fun b243=>
  if b243=true then
(
  zj r241.1 1).bind fun x244=>
  tst (okN 8 a0) (some ((.tup [(.bool true),a0]),[]))
else
(
  zj r241.1 1).bind fun x245=>
  some ((.tup [(.bool false),x245]),[])
else
(
  asBool x50).bind fun b246=>
  if b246=true then
  none
else
(asBool x50).bind fun b247=>
(
  (if b247=true then
  none
else some (.bool false):Option V)).bind fun x248=>
(P0 zt [.v x248] []).bind fun r249=>
(zj r249.1 0).bind fun x250=>
(
  asBool x250).bind fun b251=>
  if b251=true then
(
  zj r249.1 1).bind fun x252=>
  tst (okN 8 a0) (some ((.tup [(.bool true),a0]),[]))
else
(
  zj r249.1 1).bind fun x253=>
  some ((.tup [(.bool false),x253]),[])
else
(
  asBool x50).bind fun b254=>
  if b254=true then
  none
else
(
  asBool x50).bind fun b255=>
  if b255=true then
  none
else
(asBool x50).bind fun b256=>
(
  (if b256=true then
  none
else some (.bool false):Option V)).bind fun x257=>
(P0 zt [.v x257] []).bind fun r258=>
(zj r258.1 0).bind fun x259=>
(
  asBool x259).bind fun b260=>
  if b260=true then
(
  zj r258.1 1).bind fun x261=>
  tst (okN 8 a0) (some ((.tup [(.bool true),a0]),[]))
else
(
  zj r258.1 1).bind fun x262=>
  some ((.tup [(.bool false),x262]),[])))
theorem Yk(a0:V)(a1:V):P0 vi [.v a0,.v a1] []=ZC a0 a1:=
 (z6 (fn:=zbp) _ _ (by kernel_rfl)).trans (by kernel_rfl)
noncomputable def QT(a0:V):Option (V×List V):=
 tst (okN 8 a0) ((P0 xF [.v a0,.v (.int .i64 1),.p 0 0] [(false,1,(.int .i64 2000))]).bind fun r1=>
(
  r1.2[0]?).bind fun y2=>
  some (r1.1,[]))
theorem zdI(a0:V):P0 xj [.v a0] []=QT a0:=
 (z6 (fn:=Jo) _ _ (by kernel_rfl)).trans (by kernel_rfl)
noncomputable def zar(a0:V):Option (V×List V):=
(yX a0).bind fun n1=>
((if(decide ((((n1:Nat):Int):Int)≤60))=true then
(P0 zv [.v a0,.fn xA []] []).bind fun r2=>
(
  unV .not r2.1).bind fun x3=>
  some x3
else some (.bool false):Option V)).bind fun x4=>
 some (x4,[])
theorem zf7(a0:V):P0 qq [.v a0] []=zar a0:=
 (z6 (fn:=KM) _ _ (by kernel_rfl)).trans (by kernel_rfl)
noncomputable def zb0(a0:V)(a1:V):Option (V×List V):=
 tst (okN 8 a0) ((P0 xz [.v a0] []).bind fun r1=>
(ze .leq r1.1 a1).bind fun x2=>
(asBool x2).bind fun b3=>
((if b3=true then
(P0 xN [.v a0] []).bind fun r4=>
(
  ze .leq r4.1 (.int .i64 2000)).bind fun x5=>
  some x5
else some (.bool false):Option V)).bind fun x6=>
(asBool x6).bind fun b7=>
((if b7=true then
(P0 xL [.v a0] []).bind fun r8=>
(
  ze .leq r8.1 (.int .i64 64)).bind fun x9=>
  some x9
else some (.bool false):Option V)).bind fun x10=>
(asBool x10).bind fun b11=>
((if b11=true then
(
  P0 qv [.v a0] []).bind fun r12=>
  some r12.1
else some (.bool false):Option V)).bind fun x13=>
 some (x13,[]))
theorem zia(a0:V)(a1:V):P0 jc [.v a0,.v a1] []=zb0 a0 a1:=
 (z6 (fn:=zcU) _ _ (by kernel_rfl)).trans (by kernel_rfl)
noncomputable def ze4(a0:V)(a1:V)(a2:V):Option (V×List V):=
 tst (okN 8 a0) (tst (okN 8 a2) ((yX a1).bind fun n1=>
 if((((n1:Nat):Int):Int) == 0)=true then
 tst (okN 8 a2) (some ((.tup [(.bool true),a2]),[]))
else
(P0 xS [.v a1] []).bind fun r2=>
(zj r2.1 0).bind fun x3=>
(zj r2.1 1).bind fun x4=>
(P0 xr [.v a0,.v x3] []).bind fun r5=>
(zj r5.1 0).bind fun x6=>
(
  asBool x6).bind fun b7=>
  if b7=true then
(
  zj r5.1 1).bind fun x8=>
  tst (okN 8 x8) ((zn x8 0).bind fun c9=>
(ze .eql c9 (.int .i64 7)).bind fun x10=>
(
  asBool x10).bind fun b11=>
  if b11=true then
(P0 vj [.v x8,.v x4,.v a2] []).bind fun r12=>
(P0 wu [.v a0,.v x3,.v r12.1] []).bind fun r13=>
(zj r13.1 0).bind fun x14=>
(
  asBool x14).bind fun b15=>
  if b15=true then
(
  zj r13.1 1).bind fun x16=>
  tst (okN 8 x16) (some ((.tup [(.bool true),x16]),[]))
else
(
  zj r13.1 1).bind fun x17=>
  some ((.tup [(.bool false),x17]),[])
else
(ze .eql c9 (.int .i64 6)).bind fun x18=>
(
  asBool x18).bind fun b19=>
  if b19=true then
(zn x8 7).bind fun c20=>
(yX c20).bind fun n21=>
(P0 ye [.v x4,.v (.int .i64 ((n21:Nat):Int))] []).bind fun r22=>
(zj r22.1 0).bind fun x23=>
(zj r22.1 1).bind fun x24=>
(((ze .eql x4 (.str [45])).bind fun x25=>
(
  asBool x25).bind fun b26=>
  if b26=true then
(zn x8 7).bind fun c27=>
(
  yX c27).bind fun n28=>
  some (0,(vec [(.int .i64 ((n28:Nat):Int)),(.bool true)]))
else
 some (0,(vec [x23,x24])):Option (Nat×(Nat→V)))).bind fun o29=>
(P0 zt [.v (o29.2 1)] []).bind fun r30=>
(zj r30.1 0).bind fun x31=>
(
  asBool x31).bind fun b32=>
  if b32=true then
(zj r30.1 1).bind fun x33=>
(zn x8 7).bind fun c34=>
(xk 8 c34).bind fun l35=>
(
  kT none (some (o29.2 0)) (l35.length)).bind fun q36=>
  tst (okN 8 a2) ((zn x8 7).bind fun c37=>
(xk 8 c37).bind fun l38=>
(kT (some (o29.2 0)) none (l38.length)).bind fun q39=>
(
  P0 z7 [.v (.sl [(.sl ((l35.drop q36.1).take (q36.2 - q36.1))),(.sl [a2]),(.sl ((l38.drop q39.1).take (q39.2 - q39.1)))])] []).bind fun r40=>
  tst (okN 1 r40.1) ((zn r40.1 0).bind fun c41=>
(P0 wu [.v a0,.v x3,.v (.agg [(.int .i64 6),(.bool false),(.bool false),(.sl []),(.int .i64 0),(.str []),(.sl []),c41])] []).bind fun r42=>
(zj r42.1 0).bind fun x43=>
(
  asBool x43).bind fun b44=>
  if b44=true then
(
  zj r42.1 1).bind fun x45=>
  tst (okN 8 x45) (some ((.tup [(.bool true),x45]),[]))
else
(
  zj r42.1 1).bind fun x46=>
  some ((.tup [(.bool false),x46]),[])))
else
(
  zj r30.1 1).bind fun x47=>
  some ((.tup [(.bool false),x47]),[])
else
(VS true (.iface 52 (.agg []))).bind fun x48=>
(
  asBool x48).bind fun b49=>
  if b49=true then
  some ((.tup [(.bool false),(.iface 52 (.agg []))]),[])
else
 none)
else
(
  zj r5.1 1).bind fun x50=>
  some ((.tup [(.bool false),x50]),[])))
theorem ziz(a0:V)(a1:V)(a2:V):P0 qD [.v a0,.v a1,.v a2] []=ze4 a0 a1 a2:=
 (z6 (fn:=ze5) _ _ (by kernel_rfl)).trans (by kernel_rfl)
noncomputable def QQ(a0:V)(a1:V):Option (V×List V):=
 tst (okN 8 a0) ((yX a1).bind fun n1=>
(P0 zt [.v (.bool (decide ((((n1:Nat):Int):Int) > 0)))] []).bind fun r2=>
(zj r2.1 0).bind fun x3=>
(
  asBool x3).bind fun b4=>
  if b4=true then
(zj r2.1 1).bind fun x5=>
(P0 xr [.v a0,.v a1] []).bind fun r6=>
(zj r6.1 0).bind fun x7=>
(
  asBool x7).bind fun b8=>
  if b8=true then
(zj r6.1 1).bind fun x9=>
(P0 xS [.v a1] []).bind fun r10=>
(zj r10.1 0).bind fun x11=>
(zj r10.1 1).bind fun x12=>
(P0 xr [.v a0,.v x11] []).bind fun r13=>
(zj r13.1 0).bind fun x14=>
(
  asBool x14).bind fun b15=>
  if b15=true then
(
  zj r13.1 1).bind fun x16=>
  tst (okN 8 x16) ((zn x16 0).bind fun c17=>
(ze .eql c17 (.int .i64 7)).bind fun x18=>
(
  asBool x18).bind fun b19=>
  if b19=true then
(P0 w7 [.v x16,.v x12] []).bind fun r20=>
(P0 wu [.v a0,.v x11,.v r20.1] []).bind fun r21=>
(zj r21.1 0).bind fun x22=>
(
  asBool x22).bind fun b23=>
  if b23=true then
(
  zj r21.1 1).bind fun x24=>
  tst (okN 8 x24) (some ((.tup [(.bool true),x24]),[]))
else
(
  zj r21.1 1).bind fun x25=>
  some ((.tup [(.bool false),x25]),[])
else
(zn x16 7).bind fun c26=>
(yX c26).bind fun n27=>
(P0 ye [.v x12,.v (.int .i64 ((n27:Nat):Int))] []).bind fun r28=>
(zj r28.1 0).bind fun x29=>
(zj r28.1 1).bind fun x30=>
(zn x16 7).bind fun c31=>
(xk 8 c31).bind fun l32=>
(kT none (some x29) (l32.length)).bind fun q33=>
(zn x16 7).bind fun c34=>
(ze .add x29 (.int .i64 1)).bind fun x35=>
(xk 8 c34).bind fun l36=>
(kT (some x35) none (l36.length)).bind fun q37=>
(
  P0 z7 [.v (.sl [(.sl ((l32.drop q33.1).take (q33.2 - q33.1))),(.sl ((l36.drop q37.1).take (q37.2 - q37.1)))])] []).bind fun r38=>
  tst (okN 1 r38.1) ((zn r38.1 0).bind fun c39=>
(P0 wu [.v a0,.v x11,.v (.agg [(.int .i64 6),(.bool false),(.bool false),(.sl []),(.int .i64 0),(.str []),(.sl []),c39])] []).bind fun r40=>
(zj r40.1 0).bind fun x41=>
(
  asBool x41).bind fun b42=>
  if b42=true then
(
  zj r40.1 1).bind fun x43=>
  tst (okN 8 x43) (some ((.tup [(.bool true),x43]),[]))
else
(
  zj r40.1 1).bind fun x44=>
  some ((.tup [(.bool false),x44]),[])))
else
(
  zj r13.1 1).bind fun x45=>
  some ((.tup [(.bool false),x45]),[])
else
(
  zj r6.1 1).bind fun x46=>
  some ((.tup [(.bool false),x46]),[])
else
(
  zj r2.1 1).bind fun x47=>
  some ((.tup [(.bool false),x47]),[]))
theorem zdu(a0:V)(a1:V):P0 vE [.v a0,.v a1] []=QQ a0 a1:=
 (z6 (fn:=JR) _ _ (by kernel_rfl)).trans (by kernel_rfl)
noncomputable def zej(a0:V)(a1:V)(a2:V):Option (V×List V):=
 tst (okN 8 a0) (tst (okN 8 a2) ((P0 xy [.v a0,.v a1,.v a2] []).bind fun r1=>
(zj r1.1 0).bind fun x2=>
(
  zj r1.1 1).bind fun x3=>
  tst (okN 8 x2) ((P0 zt [.v x3] []).bind fun r4=>
(zj r4.1 0).bind fun x5=>
(
  asBool x5).bind fun b6=>
  if b6=true then
(
  zj r4.1 1).bind fun x7=>
  tst (okN 8 x2) (some ((.tup [(.bool true),x2]),[]))
else
(
  zj r4.1 1).bind fun x8=>
  some ((.tup [(.bool false),x8]),[]))))
theorem ziY(a0:V)(a1:V)(a2:V):P0 wu [.v a0,.v a1,.v a2] []=zej a0 a1 a2:=
 (z6 (fn:=zeq) _ _ (by kernel_rfl)).trans (by kernel_rfl)
noncomputable def zdc(a0:V)(a1:V)(a2:V):Option (V×List V):=
 tst (okN 8 a0) ((P0 xr [.v a0,.v a1] []).bind fun r1=>
(zj r1.1 0).bind fun x2=>
(
  asBool x2).bind fun b3=>
  if b3=true then
(
  zj r1.1 1).bind fun x4=>
  tst (okN 8 x4) ((P0 ya [.v a1,.v a2] []).bind fun r5=>
(
  asBool r5.1).bind fun b6=>
  if b6=true then
  tst (okN 8 a0) (some ((.tup [(.bool true),a0]),[]))
else
(yX a1).bind fun n7=>
((if(decide ((((n7:Nat):Int):Int) > 0))=true then
(P0 y3 [.v a1,.v a2] []).bind fun r8=>
(
  unV .not r8.1).bind fun x9=>
  some x9
else some (.bool false):Option V)).bind fun x10=>
(P0 zt [.v x10] []).bind fun r11=>
(zj r11.1 0).bind fun x12=>
(
  asBool x12).bind fun b13=>
  if b13=true then
(zj r11.1 1).bind fun x14=>
(P0 vE [.v a0,.v a1] []).bind fun r15=>
(zj r15.1 0).bind fun x16=>
(
  asBool x16).bind fun b17=>
  if b17=true then
(zj r15.1 1).bind fun x18=>
(P0 qD [.v x18,.v a2,.v x4] []).bind fun r19=>
(zj r19.1 0).bind fun x20=>
(
  asBool x20).bind fun b21=>
  if b21=true then
(
  zj r19.1 1).bind fun x22=>
  tst (okN 8 x22) (some ((.tup [(.bool true),x22]),[]))
else
(
  zj r19.1 1).bind fun x23=>
  some ((.tup [(.bool false),x23]),[])
else
(
  zj r15.1 1).bind fun x24=>
  some ((.tup [(.bool false),x24]),[])
else
(
  zj r11.1 1).bind fun x25=>
  some ((.tup [(.bool false),x25]),[]))
else
(
  zj r1.1 1).bind fun x26=>
  some ((.tup [(.bool false),x26]),[]))
theorem zg2(a0:V)(a1:V)(a2:V):P0 Zs [.v a0,.v a1,.v a2] []=zdc a0 a1 a2:=
 (z6 (fn:=zbf) _ _ (by kernel_rfl)).trans (by kernel_rfl)
noncomputable def zey(a0:V)(a1:V):Option (V×List V):=
 tst (okN 8 a0) ((P0 wo [.v a0,.v a1] []).bind fun r1=>
(zj r1.1 0).bind fun x2=>
(
  zj r1.1 1).bind fun x3=>
  tst (okN 8 x2) ((P0 zt [.v x3] []).bind fun r4=>
(zj r4.1 0).bind fun x5=>
(
  asBool x5).bind fun b6=>
  if b6=true then
(
  zj r4.1 1).bind fun x7=>
  tst (okN 8 x2) (some ((.tup [(.bool true),x2]),[]))
else
(
  zj r4.1 1).bind fun x8=>
  some ((.tup [(.bool false),x8]),[])))
theorem ziV(a0:V)(a1:V):P0 xr [.v a0,.v a1] []=zey a0 a1:=
 (z6 (fn:=zeQ) _ _ (by kernel_rfl)).trans (by kernel_rfl)
noncomputable def zb8(a0:V):Option (V×List V):=
(unV .not a0).bind fun x1=>
(
  asBool x1).bind fun b2=>
  if b2=true then
(VS true (.iface 52 (.agg []))).bind fun x3=>
(
  asBool x3).bind fun b4=>
  if b4=true then
  some ((.tup [(.bool false),(.iface 52 (.agg []))]),[])
else
 none
else
 some ((.tup [(.bool true),(.tup [])]),[])
theorem zgD(a0:V):P0 zt [.v a0] []=zb8 a0:=
 (z6 (fn:=zcL) _ _ (by kernel_rfl)).trans (by kernel_rfl)
noncomputable def vr(n13:Nat)(c12:V)(a1:V)(v14:Nat→V):Option ((Nat→V) ⊕ (Nat×(Nat→V))):=
(ze .lss (v14 0) (.int .i64 ((n13:Nat):Int))).bind fun x15=>
(
  asBool x15).bind fun b16=>
  if b16=true then
(xk 8 c12).bind fun l17=>
(xP (v14 0) (l17.length)).bind fun i18=>
(
  l17[i18]?).bind fun e19=>
  tst (okN 8 e19) ((ze .add a1 (.int .i64 1)).bind fun x20=>
(P0 xF [.v e19,.v x20,.p 0 0] [(false,1,(v14 1))]).bind fun r21=>
(r21.2[0]?).bind fun y22=>
(unV .not r21.1).bind fun x23=>
(
  asBool x23).bind fun b24=>
  if b24=true then
  some (.inr (1,(vec [(.bool false),y22])))
else
(
  ze .add (v14 0) (.int .i64 1)).bind fun x25=>
  some (.inl (vec [x25,y22])))
else
 some (.inr (0,(vec [(v14 1)])))
noncomputable def QS(a0:V)(a1:V)(a2:V):Option (V×List V):=
 tst (okN 8 a0) ((ze .sub a2 (.int .i64 1)).bind fun x1=>
 tst (okN 1 x1) ((zn x1 0).bind fun c2=>
(ze .lss c2 (.int .i64 0)).bind fun x3=>
(asBool x3).bind fun b4=>
((if b4=false then
(
  ze .gtr a1 (.int .i64 64)).bind fun x5=>
  some x5
else some (.bool true):Option V)).bind fun x6=>
(asBool x6).bind fun b7=>
((if b7=false then
(P0 qn [.v a0] []).bind fun r8=>
(
  unV .not r8.1).bind fun x9=>
  some x9
else some (.bool true):Option V)).bind fun x10=>
(
  asBool x10).bind fun b11=>
  if b11=true then
  some ((.bool false),[c2])
else
(zn a0 7).bind fun c12=>
(yX c12).bind fun n13=>
(
  yk (vr n13 c12 a1) (vec [(.int .i64 0),c2])).bind fun o26=>
  if o26.1=0 then
  some ((.bool true),[(o26.2 0)])
else
 some ((o26.2 0),[(o26.2 1)])))
theorem zdM(a0:V)(a1:V)(a2:V):P0 xF [.v a0,.v a1,.p 0 0] [(false,1,a2)]=QS a0 a1 a2:=
 (z6 (fn:=Jq) _ _ (by kernel_rfl)).trans (by kernel_rfl)
noncomputable def wg(a0:V)(a1:Nat):Option (V×List V):=
(P0 yi [.v a0,.fn a1 []] []).bind fun r1=>
(
  ze .geq r1.1 (.int .i64 0)).bind fun x2=>
  some (x2,[])
theorem qH(a0:V)(a1:Nat):P0 zv [.v a0,.fn a1 []] []=wg a0 a1:=
 (z6 (fn:=we) _ _ (by kernel_rfl)).trans (by kernel_rfl)
noncomputable def VY(a0:V):Option (V×List V):=
 tst (okN 11 a0) ((P0 vu [.v a0] []).bind fun r1=>
(
  unV .not r1.1).bind fun x2=>
  some (x2,[]))
theorem zcy(a0:V):P0 xA [.v a0] []=VY a0:=
 (z6 (fn:=VP) _ _ (by kernel_rfl)).trans (by kernel_rfl)
noncomputable def zeV(a0:V):Option (V×List V):=
 tst (okN 11 a0) ((zn a0 2).bind fun c1=>
(yX c1).bind fun n2=>
(P0 jd [.v (We a0 3 8)] []).bind fun r3=>
(((zn a0 0).bind fun c4=>
(((((ze .eql c4 (.int .i64 4)).bind fun x5=>
(
  asBool x5).bind fun b6=>
  if b6=true then
  some (3,(vec []))
else
(ze .eql c4 (.int .i64 5)).bind fun x7=>
(
  asBool x7).bind fun b8=>
  if b8=true then
  some (3,(vec []))
else
(ze .eql c4 (.int .i64 1)).bind fun x9=>
(
  asBool x9).bind fun b10=>
  if b10=true then
(
  asBool x9).bind fun b11=>
  if b11=true then
  some (0,(vec []))
else
(ze .eql c4 (.int .i64 2)).bind fun x12=>
(
  asBool x12).bind fun b13=>
  if b13=true then
  some (1,(vec []))
else
 some (2,(vec []))
else
(ze .eql c4 (.int .i64 3)).bind fun x14=>
(
  asBool x14).bind fun b15=>
  if b15=true then
(
  asBool x14).bind fun b16=>
  if b16=true then
  some (0,(vec []))
else
(ze .eql c4 (.int .i64 2)).bind fun x17=>
(
  asBool x17).bind fun b18=>
  if b18=true then
  some (1,(vec []))
else
 some (2,(vec []))
else
(ze .eql c4 (.int .i64 6)).bind fun x19=>
(
  asBool x19).bind fun b20=>
  if b20=true then
  some (0,(vec []))
else
(ze .eql c4 (.int .i64 2)).bind fun x21=>
(
  asBool x21).bind fun b22=>
  if b22=true then
  some (1,(vec []))
else
 some (2,(vec [])):Option (Nat×(Nat→V)))).bind fun o23=>
 if o23.1=0 then
 some (3,(vec [(.bool ((((n2:Nat):Int):Int) == 0))]))
else
 if(o23.1 - 1)=0 then
 some (1,(vec [(.bool ((((n2:Nat):Int):Int) == 0))]))
else
 if((o23.1 - 1) - 1)=0 then
 some (2,(vec []))
else
(zn a0 2).bind fun c24=>
(
  P0 vl [.v c24] []).bind fun r25=>
  some (0,(vec [r25.1])):Option (Nat×(Nat→V)))).bind fun o26=>
  if o26.1=0 then
  some (0,(vec [r3.1,(o26.2 0)]))
else
 if(o26.1 - 1)=0 then
 some (0,(vec [r3.1,(o26.2 0)]))
else
 if((o26.1 - 1) - 1)=0 then
 some (1,(vec [(.bool false)]))
else
(
  P0 xj [.v (We a0 3 8)] []).bind fun r27=>
  some (0,(vec [r27.1,(o26.2 0)])):Option (Nat×(Nat→V)))).bind fun o28=>
  if o28.1=0 then
(zn a0 1).bind fun c29=>
(P0 vl [.v c29] []).bind fun r30=>
(asBool r30.1).bind fun b31=>
(
  (if b31=true then
  some (o28.2 1)
else some (.bool false):Option V)).bind fun x32=>
(asBool x32).bind fun b33=>
(
  (if b33=true then
  some (o28.2 0)
else some (.bool false):Option V)).bind fun x34=>
 some (x34,[])
else
 some ((o28.2 0),[]))
theorem ziL(a0:V):P0 vu [.v a0] []=zeV a0:=
 (z6 (fn:=zem) _ _ (by kernel_rfl)).trans (by kernel_rfl)
noncomputable def qW(n15:Nat)(c14:V)(v16:Nat→V):Option ((Nat→V) ⊕ (Nat×(Nat→V))):=
(ze .lss (v16 1) (.int .i64 ((n15:Nat):Int))).bind fun x17=>
(
  asBool x17).bind fun b18=>
  if b18=true then
(xk 8 c14).bind fun l19=>
(xP (v16 1) (l19.length)).bind fun i20=>
(
  l19[i20]?).bind fun e21=>
  tst (okN 8 e21) ((P0 xz [.v e21] []).bind fun r22=>
(ze .add (v16 0) r22.1).bind fun x23=>
(
  ze .add (v16 1) (.int .i64 1)).bind fun x24=>
  some (.inl (vec [x23,x24])))
else
 some (.inr (0,(vec [(v16 0)])))
noncomputable def VU(a0:V):Option (V×List V):=
 tst (okN 8 a0) ((((zn a0 0).bind fun c1=>
(ze .eql c1 (.int .i64 3)).bind fun x2=>
(
  asBool x2).bind fun b3=>
  if b3=true then
(zn a0 3).bind fun c4=>
(
  yX c4).bind fun n5=>
  some (0,(vec [(.int .i64 (IntKind.wrap .i64 (1+((n5:Nat):Int))))]))
else
(((ze .eql c1 (.int .i64 4)).bind fun x6=>
(
  asBool x6).bind fun b7=>
  if b7=true then
  some (0,(vec [x6]))
else
(
  ze .eql c1 (.int .i64 5)).bind fun x8=>
  some (0,(vec [x8])):Option (Nat×(Nat→V)))).bind fun o9=>
(
  asBool (o9.2 0)).bind fun b10=>
  if b10=true then
(zn a0 5).bind fun c11=>
(
  zaH c11).bind fun n12=>
  some (0,(vec [(.int .i64 (IntKind.wrap .i64 (1+((n12:Nat):Int))))]))
else
 some (0,(vec [(.int .i64 1)])):Option (Nat×(Nat→V)))).bind fun o13=>
(zn a0 7).bind fun c14=>
(yX c14).bind fun n15=>
(
  yk (qW n15 c14) (vec [(o13.2 0),(.int .i64 0)])).bind fun o25=>
  some ((o25.2 0),[]))
theorem zdp(a0:V):P0 xz [.v a0] []=VU a0:=
 (z6 (fn:=VZ) _ _ (by kernel_rfl)).trans (by kernel_rfl)
noncomputable def jE(n2:Nat)(c1:V)(v3:Nat→V):Option ((Nat→V) ⊕ (Nat×(Nat→V))):=
(ze .lss (v3 1) (.int .i64 ((n2:Nat):Int))).bind fun x4=>
(
  asBool x4).bind fun b5=>
  if b5=true then
(xk 8 c1).bind fun l6=>
(xP (v3 1) (l6.length)).bind fun i7=>
(
  l6[i7]?).bind fun e8=>
  tst (okN 8 e8) ((P0 xN [.v e8] []).bind fun r9=>
(ze .add (v3 0) r9.1).bind fun x10=>
(
  ze .add (v3 1) (.int .i64 1)).bind fun x11=>
  some (.inl (vec [x10,x11])))
else
 some (.inr (0,(vec [(v3 0)])))
noncomputable def Js(a0:V):Option (V×List V):=
 tst (okN 8 a0) ((zn a0 7).bind fun c1=>
(yX c1).bind fun n2=>
(
  yk (jE n2 c1) (vec [(.int .i64 1),(.int .i64 0)])).bind fun o12=>
  some ((o12.2 0),[]))
theorem zdO(a0:V):P0 xN [.v a0] []=Js a0:=
 (z6 (fn:=QK) _ _ (by kernel_rfl)).trans (by kernel_rfl)
noncomputable def jB(n2:Nat)(c1:V)(v3:Nat→V):Option ((Nat→V) ⊕ (Nat×(Nat→V))):=
(ze .lss (v3 1) (.int .i64 ((n2:Nat):Int))).bind fun x4=>
(
  asBool x4).bind fun b5=>
  if b5=true then
(xk 8 c1).bind fun l6=>
(xP (v3 1) (l6.length)).bind fun i7=>
(
  l6[i7]?).bind fun e8=>
  tst (okN 8 e8) ((P0 xL [.v e8] []).bind fun r9=>
(zhU (v3 0) [r9.1]).bind fun x10=>
(
  ze .add (v3 1) (.int .i64 1)).bind fun x11=>
  some (.inl (vec [x10,x11])))
else
 some (.inr (0,(vec [(v3 0)])))
noncomputable def Ju(a0:V):Option (V×List V):=
 tst (okN 8 a0) ((zn a0 7).bind fun c1=>
(yX c1).bind fun n2=>
(yk (jB n2 c1) (vec [(.int .i64 0),(.int .i64 0)])).bind fun o12=>
(
  ze .add (.int .i64 1) (o12.2 0)).bind fun x13=>
  some (x13,[]))
theorem zdK(a0:V):P0 xL [.v a0] []=Ju a0:=
 (z6 (fn:=Jj) _ _ (by kernel_rfl)).trans (by kernel_rfl)
noncomputable def zeD(a0:V):Option (V×List V):=
 tst (okN 8 a0) ((zn a0 7).bind fun c1=>
(yX c1).bind fun n2=>
((if(decide ((((n2:Nat):Int):Int)≤300))=true then
(zn a0 7).bind fun c3=>
(P0 yD [.v c3,.fn vD []] []).bind fun r4=>
(
  unV .not r4.1).bind fun x5=>
  some x5
else some (.bool false):Option V)).bind fun x6=>
 some (x6,[]))
theorem zjl(a0:V):P0 qv [.v a0] []=zeD a0:=
 (z6 (fn:=zeo) _ _ (by kernel_rfl)).trans (by kernel_rfl)
noncomputable def zag(a0:V):Option (V×List V):=
(yX a0).bind fun n1=>
(xk 1 a0).bind fun l2=>
(kT none (some (.int .i64 (IntKind.wrap .i64 (((n1:Nat):Int) - 1)))) (l2.length)).bind fun q3=>
(yX a0).bind fun n4=>
(xk 1 a0).bind fun l5=>
(xP (.int .i64 (IntKind.wrap .i64 (((n4:Nat):Int) - 1))) (l5.length)).bind fun i6=>
(l5[i6]?).bind fun e7=>
(
  zn e7 0).bind fun c8=>
  some ((.tup [(.sl ((l2.drop q3.1).take (q3.2 - q3.1))),c8]),[])
theorem zgk(a0:V):P0 xS [.v a0] []=zag a0:=
 (z6 (fn:=KP) _ _ (by kernel_rfl)).trans (by kernel_rfl)
noncomputable def zc0(a0:V)(a1:V)(a2:V):Option (V×List V):=
 tst (okN 8 a0) (tst (okN 1 a1) ((zn a1 0).bind fun c1=>
 tst (okN 8 a2) ((P0 wx [.v a0] []).bind fun r2=>
(zj r2.1 0).bind fun x3=>
(zj r2.1 1).bind fun x4=>
(yX x3).bind fun n5=>
(yX x4).bind fun n6=>
(zfn 16 (.int .i64 ((n5:Nat):Int)) (.int .i64 ((n5:Nat):Int))).bind fun q7=>
(zfn 120 (.int .i64 ((n6:Nat):Int)) (.int .i64 ((n6:Nat):Int))).bind fun q8=>
(Y0 1 x3).bind fun l9=>
(Y0 8 x4).bind fun l10=>
(P0 yb [.v (.sl (((xR (List.replicate q7.2 (.str [])) 0 (l9.take (Nat.min (l9.length) q7.1))).drop 0).take q7.1)),.v c1] []).bind fun r11=>
(ze .geq r11.1 (.int .i64 0)).bind fun x12=>
(
  asBool x12).bind fun b13=>
  if b13=true then
(
  xP r11.1 q8.1).bind fun i14=>
  tst (okN 8 a2) (some ((.agg [(.int .i64 7),(.bool false),(.bool false),(.sl []),(.int .i64 0),(.str []),(.sl (((xR (List.replicate q7.2 (.str [])) 0 (l9.take (Nat.min (l9.length) q7.1))).drop 0).take q7.1)),(.sl ((((xR (List.replicate q8.2 (.agg [(.int .i64 0),(.bool false),(.bool false),(.sl []),(.int .i64 0),(.str []),(.sl []),(.sl [])])) 0 (l10.take (Nat.min (l10.length) q8.1))).set (0+i14) a2).drop 0).take q8.1))]),[]))
else
(P0 zz [.v (.sl (((xR (List.replicate q7.2 (.str [])) 0 (l9.take (Nat.min (l9.length) q7.1))).drop 0).take q7.1)),.fn xJ [.p 0 0]] [(false,1,c1)]).bind fun r15=>
(r15.2[0]?).bind fun y16=>
(((ze .lss r15.1 (.int .i64 0)).bind fun x17=>
(
  asBool x17).bind fun b18=>
  if b18=true then
  some (0,(vec [(.int .i64 ((q7.1:Nat):Int))]))
else
 some (0,(vec [r15.1])):Option (Nat×(Nat→V)))).bind fun o19=>
 tst (okN 1 y16) ((zn y16 0).bind fun c20=>
 tst (Nat.beq q7.1 q7.2) ((P0 xG [.u,.v (.sl (((xR (List.replicate q7.2 (.str [])) 0 (l9.take (Nat.min (l9.length) q7.1))).drop 0).take q7.1)),.v (o19.2 0),.v (.sl [c20])] []).bind fun r21=>
 tst (okN 8 a2) (tst (Nat.beq q8.1 q8.2) ((P0 wB [.u,.v (.sl (((xR (List.replicate q8.2 (.agg [(.int .i64 0),(.bool false),(.bool false),(.sl []),(.int .i64 0),(.str []),(.sl []),(.sl [])])) 0 (l10.take (Nat.min (l10.length) q8.1))).drop 0).take q8.1)),.v (o19.2 0),.v (.sl [a2])] []).bind fun r22=>
 tst (okN 1 r21.1) ((zn r21.1 0).bind fun c23=>
 tst (okN 1 r22.1) ((zn r22.1 0).bind fun c24=>
 some ((.agg [(.int .i64 7),(.bool false),(.bool false),(.sl []),(.int .i64 0),(.str []),c23,c24]),[]))))))))))
theorem zhZ(a0:V)(a1:V)(a2:V):P0 vj [.v a0,.v a1,.v a2] []=zc0 a0 a1 a2:=
 (z6 (fn:=zdl) _ _ (by kernel_rfl)).trans (by kernel_rfl)
noncomputable def y8(n13:Nat)(a0:V)(v14:Nat→V):Option ((Nat→V) ⊕ (Nat×(Nat→V))):=
(ze .lss (v14 1) (.int .i64 ((n13:Nat):Int))).bind fun x15=>
(
  asBool x15).bind fun b16=>
  if b16=true then
(Zx a0 (v14 1)).bind fun x17=>
(ze .lss x17 (.int .u8 48)).bind fun x18=>
(asBool x18).bind fun b19=>
((if b19=false then
(Zx a0 (v14 1)).bind fun x20=>
(
  ze .gtr x20 (.int .u8 57)).bind fun x21=>
  some x21
else some (.bool true):Option V)).bind fun x22=>
(
  asBool x22).bind fun b23=>
  if b23=true then
  some (.inr (1,(vec [(.int .i64 0),(.bool false)])))
else
(ze .mul (.int .i64 10) (v14 0)).bind fun x24=>
(Zx a0 (v14 1)).bind fun x25=>
(ze .sub x25 (.int .u8 48)).bind fun x26=>
(ZY .i64 x26).bind fun x27=>
(ze .add x24 x27).bind fun x28=>
(
  ze .add (v14 1) (.int .i64 1)).bind fun x29=>
  some (.inl (vec [x28,x29]))
else
 some (.inr (0,(vec [(v14 0)])))
noncomputable def X8(a0:V)(a1:V):Option (V×List V):=
(ze .eql a0 (.str [])).bind fun x1=>
(asBool x1).bind fun b2=>
((if b2=false then
(
  zaH a0).bind fun n3=>
  some (.bool (decide ((((n3:Nat):Int):Int) > 4)))
else some (.bool true):Option V)).bind fun x4=>
(asBool x4).bind fun b5=>
((if b5=false then
(Zx a0 (.int .i64 0)).bind fun x6=>
(ze .eql x6 (.int .u8 48)).bind fun x7=>
(asBool x7).bind fun b8=>
((if b8=true then
(
  zaH a0).bind fun n9=>
  some (.bool (decide ((((n9:Nat):Int):Int) > 1)))
else some (.bool false):Option V)).bind fun x10=>
 some x10
else some (.bool true):Option V)).bind fun x11=>
(
  asBool x11).bind fun b12=>
  if b12=true then
  some ((.tup [(.int .i64 0),(.bool false)]),[])
else
(zaH a0).bind fun n13=>
(
  yk (y8 n13 a0) (vec [(.int .i64 0),(.int .i64 0)])).bind fun o30=>
  if o30.1=0 then
(ze .gtr (o30.2 0) a1).bind fun x31=>
(
  asBool x31).bind fun b32=>
  if b32=true then
  some ((.tup [(.int .i64 0),(.bool false)]),[])
else
 some ((.tup [(o30.2 0),(.bool true)]),[])
else
 some ((.tup [(o30.2 0),(o30.2 1)]),[])
theorem Kv(a0:V)(a1:V):P0 ye [.v a0,.v a1] []=X8 a0 a1:=
 (z6 (fn:=X5) _ _ (by kernel_rfl)).trans (by kernel_rfl)
noncomputable def yu(n1:Nat)(a0:V)(v2:Nat→V):Option ((Nat→V) ⊕ (Nat×(Nat→V))):=
(ze .lss (v2 1) (.int .i64 ((n1:Nat):Int))).bind fun x3=>
(
  asBool x3).bind fun b4=>
  if b4=true then
(xk 1 a0).bind fun l5=>
(xP (v2 1) (l5.length)).bind fun i6=>
(l5[i6]?).bind fun e7=>
(zn e7 0).bind fun c8=>
(yX c8).bind fun n9=>
(ze .add (v2 0) (.int .i64 ((n9:Nat):Int))).bind fun x10=>
(ze .lss x10 (.int .i64 0)).bind fun x11=>
(
  asBool x11).bind fun b12=>
  if b12=true then
(VS true (.iface 9 (.str [108,101,110,32,111,117,116,32,111,102,32,114,97,110,103,101]))).bind fun x13=>
(
  asBool x13).bind fun b14=>
  if b14=true then
  some (.inr (1,(vec [(.iface 9 (.str [108,101,110,32,111,117,116,32,111,102,32,114,97,110,103,101]))])))
else
 some (.inr (2,(vec [])))
else
(
  ze .add (v2 1) (.int .i64 1)).bind fun x15=>
  some (.inl (vec [x10,x15]))
else
 some (.inr (0,(vec [(v2 0)])))
noncomputable def yw(n19:Nat)(a0:V)(v20:Nat→V):Option ((Nat→V) ⊕ (Nat×(Nat→V))):=
(ze .lss (v20 1) (.int .i64 ((n19:Nat):Int))).bind fun x21=>
(
  asBool x21).bind fun b22=>
  if b22=true then
(xk 1 a0).bind fun l23=>
(xP (v20 1) (l23.length)).bind fun i24=>
(l23[i24]?).bind fun e25=>
(zn e25 0).bind fun c26=>
(
  Y0 8 c26).bind fun l27=>
  tst (wy 120 ((V.elems (v20 0)).length) (l27.length)) ((ze .add (v20 1) (.int .i64 1)).bind fun x28=>
  some (.inl (vec [(.sl ((V.elems (v20 0))++l27)),x28])))
else
 some (.inr (0,(vec [(.sl (V.elems (v20 0)))])))
noncomputable def qZ(a0:V):Option (V×List V):=
(yX a0).bind fun n1=>
(
  yk (yu n1 a0) (vec [(.int .i64 0),(.int .i64 0)])).bind fun o16=>
  if o16.1=0 then
(P0 wv [.g,.v (.sl []),.v (o16.2 0)] []).bind fun r17=>
(slV r17.1).bind fun l18=>
(yX a0).bind fun n19=>
(
  yk (yw n19 a0) (vec [(.sl l18),(.int .i64 0)])).bind fun o29=>
  some ((.sl (V.elems (o29.2 0))),[])
else
 if(o16.1 - 1)=0 then
 none
else
 none
theorem kV(a0:V):P0 z7 [.v a0] []=qZ a0:=
 (z6 (fn:=ZW) _ _ (by kernel_rfl)).trans (by kernel_rfl)
noncomputable def JF(a0:V)(a1:V):Option (V×List V):=
 tst (okN 8 a0) ((P0 wx [.v a0] []).bind fun r1=>
(zj r1.1 0).bind fun x2=>
(zj r1.1 1).bind fun x3=>
(P0 yb [.v x2,.v a1] []).bind fun r4=>
(ze .lss r4.1 (.int .i64 0)).bind fun x5=>
(
  asBool x5).bind fun b6=>
  if b6=true then
  tst (okN 8 a0) (some (a0,[]))
else
(xk 1 x2).bind fun l7=>
(kT none (some r4.1) (l7.length)).bind fun q8=>
(ze .add r4.1 (.int .i64 1)).bind fun x9=>
(xk 1 x2).bind fun l10=>
(kT (some x9) none (l10.length)).bind fun q11=>
(P0 yN [.v (.sl [(.sl ((l7.drop q8.1).take (q8.2 - q8.1))),(.sl ((l10.drop q11.1).take (q11.2 - q11.1)))])] []).bind fun r12=>
(xk 8 x3).bind fun l13=>
(kT none (some r4.1) (l13.length)).bind fun q14=>
(ze .add r4.1 (.int .i64 1)).bind fun x15=>
(xk 8 x3).bind fun l16=>
(kT (some x15) none (l16.length)).bind fun q17=>
(
  P0 z7 [.v (.sl [(.sl ((l13.drop q14.1).take (q14.2 - q14.1))),(.sl ((l16.drop q17.1).take (q17.2 - q17.1)))])] []).bind fun r18=>
  tst (okN 1 r12.1) ((zn r12.1 0).bind fun c19=>
  tst (okN 1 r18.1) ((zn r18.1 0).bind fun c20=>
  some ((.agg [(.int .i64 7),(.bool false),(.bool false),(.sl []),(.int .i64 0),(.str []),c19,c20]),[]))))
theorem zdT(a0:V)(a1:V):P0 w7 [.v a0,.v a1] []=JF a0 a1:=
 (z6 (fn:=Q2) _ _ (by kernel_rfl)).trans (by kernel_rfl)
noncomputable def YH(a0:V)(a1:V)(a2:V):Option (V×List V):=
 tst (okN 8 a0) (tst (okN 8 a2) ((yX a1).bind fun n1=>
 if((((n1:Nat):Int):Int) == 0)=true then
 tst (okN 8 a2) (some ((.tup [a2,(.bool true)]),[]))
else
(xk 1 a1).bind fun l2=>
(xP (.int .i64 0) (l2.length)).bind fun i3=>
(l2[i3]?).bind fun e4=>
(zn e4 0).bind fun c5=>
(P0 xC [.v a0,.v c5] []).bind fun r6=>
(zj r6.1 0).bind fun x7=>
(
  zj r6.1 1).bind fun x8=>
  tst (okN 8 x7) ((((asBool x8).bind fun b9=>
  if b9=true then
(xk 1 a1).bind fun l10=>
(kT (some (.int .i64 1)) none (l10.length)).bind fun q11=>
(P0 xy [.v x7,.v (.sl ((l10.drop q11.1).take (q11.2 - q11.1))),.v a2] []).bind fun r12=>
(zj r12.1 0).bind fun x13=>
(
  zj r12.1 1).bind fun x14=>
  tst (okN 8 x13) (some (0,(vec [x14,x13])))
else
 some (0,(vec [x8,x7])):Option (Nat×(Nat→V)))).bind fun o15=>
(unV .not (o15.2 0)).bind fun x16=>
(
  asBool x16).bind fun b17=>
  if b17=true then
  some ((.tup [(.agg [(.int .i64 0),(.bool false),(.bool false),(.sl []),(.int .i64 0),(.str []),(.sl []),(.sl [])]),(.bool false)]),[])
else
(zn a0 0).bind fun c18=>
(ze .eql c18 (.int .i64 7)).bind fun x19=>
(
  asBool x19).bind fun b20=>
  if b20=true then
(xk 1 a1).bind fun l21=>
(xP (.int .i64 0) (l21.length)).bind fun i22=>
(l21[i22]?).bind fun e23=>
(zn e23 0).bind fun c24=>
(
  P0 vj [.v a0,.v c24,.v (o15.2 1)] []).bind fun r25=>
  tst (okN 8 r25.1) (some ((.tup [r25.1,(.bool true)]),[]))
else
(xk 1 a1).bind fun l26=>
(xP (.int .i64 0) (l26.length)).bind fun i27=>
(l26[i27]?).bind fun e28=>
(zn e28 0).bind fun c29=>
(zn a0 7).bind fun c30=>
(yX c30).bind fun n31=>
(P0 ye [.v c29,.v (.int .i64 (IntKind.wrap .i64 (((n31:Nat):Int) - 1)))] []).bind fun r32=>
(zj r32.1 0).bind fun x33=>
(zj r32.1 1).bind fun x34=>
(zn a0 7).bind fun c35=>
(yX c35).bind fun n36=>
(zfn 120 (.int .i64 ((n36:Nat):Int)) (.int .i64 ((n36:Nat):Int))).bind fun q37=>
(zn a0 7).bind fun c38=>
(Y0 8 c38).bind fun l39=>
(
  xP x33 q37.1).bind fun i40=>
  tst (okN 8 (o15.2 1)) ((zn a0 0).bind fun c41=>
(zn a0 1).bind fun c42=>
(zn a0 2).bind fun c43=>
(zn a0 3).bind fun c44=>
(zn a0 4).bind fun c45=>
(zn a0 5).bind fun c46=>
(zn a0 6).bind fun c47=>
(
  zn a0 7).bind fun c48=>
  some ((.tup [(.agg [c41,c42,c43,c44,c45,c46,c47,(.sl ((((xR (List.replicate q37.2 (.agg [(.int .i64 0),(.bool false),(.bool false),(.sl []),(.int .i64 0),(.str []),(.sl []),(.sl [])])) 0 (l39.take (Nat.min (l39.length) q37.1))).set (0+i40) (o15.2 1)).drop 0).take q37.1))]),(.bool true)]),[])))))
theorem W7(a0:V)(a1:V)(a2:V):P0 xy [.v a0,.v a1,.v a2] []=YH a0 a1 a2:=
 (z6 (fn:=VF) _ _ (by kernel_rfl)).trans (by kernel_rfl)
noncomputable def yz(n3:Nat)(a0:V)(a1:V)(v4:Nat→V):Option ((Nat→V) ⊕ (Nat×(Nat→V))):=
(ze .lss (v4 0) (.int .i64 ((n3:Nat):Int))).bind fun x5=>
(
  asBool x5).bind fun b6=>
  if b6=true then
(xk 1 a0).bind fun l7=>
(xP (v4 0) (l7.length)).bind fun i9=>
(l7[i9]?).bind fun e10=>
(zn e10 0).bind fun c11=>
(xk 1 a1).bind fun l12=>
(xP (v4 0) (l12.length)).bind fun i13=>
(l12[i13]?).bind fun e14=>
(zn e14 0).bind fun c15=>
(ze .neq c11 c15).bind fun x16=>
(
  asBool x16).bind fun b17=>
  if b17=true then
  some (.inr (1,(vec [(.bool false)])))
else
(
  ze .add (v4 0) (.int .i64 1)).bind fun x18=>
  some (.inl (vec [x18]))
else
 some (.inr (0,(vec [])))
noncomputable def jT(a0:V)(a1:V):Option (V×List V):=
(yX a0).bind fun n1=>
(
  yX a1).bind fun n2=>
  if((((n1:Nat):Int):Int) != ((n2:Nat):Int))=true then
  some ((.bool false),[])
else
(yX a0).bind fun n3=>
(
  yk (yz n3 a0 a1) (vec [(.int .i64 0)])).bind fun o19=>
  if o19.1=0 then
  some ((.bool true),[])
else
 some ((o19.2 0),[])
theorem XW(a0:V)(a1:V):P0 ya [.v a0,.v a1] []=jT a0 a1:=
 (z6 (fn:=jK) _ _ (by kernel_rfl)).trans (by kernel_rfl)
noncomputable def YT(a0:V)(a1:V):Option (V×List V):=
(yX a0).bind fun n1=>
(yX a1).bind fun n2=>
((if(decide ((((n1:Nat):Int):Int)≤((n2:Nat):Int)))=true then
(yX a0).bind fun n3=>
(xk 1 a1).bind fun l4=>
(kT none (some (.int .i64 ((n3:Nat):Int))) (l4.length)).bind fun q5=>
(
  P0 ya [.v a0,.v (.sl ((l4.drop q5.1).take (q5.2 - q5.1)))] []).bind fun r6=>
  some r6.1
else some (.bool false):Option V)).bind fun x7=>
 some (x7,[])
theorem QW(a0:V)(a1:V):P0 y3 [.v a0,.v a1] []=YT a0 a1:=
 (z6 (fn:=Y4) _ _ (by kernel_rfl)).trans (by kernel_rfl)
noncomputable def vT(n1:Nat)(a1:V)(v2:Nat→V):Option ((Nat→V) ⊕ (Nat×(Nat→V))):=
(ze .lss (v2 0) (.int .i64 ((n1:Nat):Int))).bind fun x3=>
(
  asBool x3).bind fun b4=>
  if b4=true then
(xk 1 a1).bind fun l5=>
(xP (v2 0) (l5.length)).bind fun i6=>
(l5[i6]?).bind fun e7=>
(zn e7 0).bind fun c8=>
(P0 xC [.v (v2 1),.v c8] []).bind fun r9=>
(zj r9.1 0).bind fun x10=>
(
  zj r9.1 1).bind fun x11=>
  tst (okN 8 x10) ((unV .not x11).bind fun x12=>
(
  asBool x12).bind fun b13=>
  if b13=true then
  some (.inr (1,(vec [(.bool false),(v2 1),(.int .i64 0),(.bool false),(.bool false),(.sl []),(.int .i64 0),(.str []),(.sl []),(.sl [])])))
else
 tst (okN 8 x10) ((ze .add (v2 0) (.int .i64 1)).bind fun x14=>
 some (.inl (vec [x14,x10,(v2 2),(v2 3),(v2 4),(v2 5),(v2 6),(v2 7),(v2 8),(v2 9)]))))
else
 some (.inr (0,(vec [(v2 1),(.agg [(v2 2),(v2 3),(v2 4),(v2 5),(v2 6),(v2 7),(v2 8),(v2 9)])])))
noncomputable def VQ(a0:V)(a1:V):Option (V×List V):=
 tst (okN 8 a0) ((yX a1).bind fun n1=>
(
  yk (vT n1 a1) (vec [(.int .i64 0),a0,(.int .i64 0),(.bool false),(.bool false),(.sl []),(.int .i64 0),(.str []),(.sl []),(.sl [])])).bind fun o15=>
  if o15.1=0 then
  tst (okN 8 (o15.2 0)) (some ((.tup [(o15.2 0),(.bool true)]),[]))
else
 some ((.tup [(.agg [(o15.2 2),(o15.2 3),(o15.2 4),(o15.2 5),(o15.2 6),(o15.2 7),(o15.2 8),(o15.2 9)]),(o15.2 0)]),[]))
theorem zbj(a0:V)(a1:V):P0 wo [.v a0,.v a1] []=VQ a0 a1:=
 (z6 (fn:=V4) _ _ (by kernel_rfl)).trans (by kernel_rfl)
noncomputable def zcY(a0:V):Option (V×List V):=
 tst (okN 8 a0) ((zn a0 1).bind fun c1=>
(unV .not c1).bind fun x2=>
(zn a0 2).bind fun c3=>
(unV .not c3).bind fun x4=>
(asBool x4).bind fun b5=>
((if b5=true then
(zn a0 3).bind fun c6=>
(
  yX c6).bind fun n7=>
  some (.bool ((((n7:Nat):Int):Int) == 0))
else some (.bool false):Option V)).bind fun x8=>
(asBool x8).bind fun b9=>
((if b9=true then
(zn a0 4).bind fun c10=>
(
  ze .eql c10 (.int .i64 0)).bind fun x11=>
  some x11
else some (.bool false):Option V)).bind fun x12=>
(zn a0 5).bind fun c13=>
(ze .eql c13 (.str [])).bind fun x14=>
(zn a0 6).bind fun c15=>
(yX c15).bind fun n16=>
(zn a0 7).bind fun c17=>
(yX c17).bind fun n18=>
(((zn a0 0).bind fun c19=>
(((ze .eql c19 (.int .i64 1)).bind fun x20=>
(
  asBool x20).bind fun b21=>
  if b21=true then
  some (0,(vec [x2,x12,x14,(.bool ((((n16:Nat):Int):Int) == 0))]))
else
(ze .eql c19 (.int .i64 2)).bind fun x22=>
(
  asBool x22).bind fun b23=>
  if b23=true then
  some (0,(vec [(.bool true),x12,x14,(.bool ((((n16:Nat):Int):Int) == 0))]))
else
(ze .eql c19 (.int .i64 3)).bind fun x24=>
(
  asBool x24).bind fun b25=>
  if b25=true then
(
  P0 vy [.v (We a0 2 3)] []).bind fun r26=>
  some (0,(vec [x2,r26.1,x14,(.bool ((((n16:Nat):Int):Int) == 0))]))
else
(ze .eql c19 (.int .i64 4)).bind fun x27=>
(
  asBool x27).bind fun b28=>
  if b28=true then
(zn a0 5).bind fun c29=>
(
  P0 ve [.v c29] []).bind fun r30=>
  some (0,(vec [x2,x12,r30.1,(.bool ((((n16:Nat):Int):Int) == 0))]))
else
(ze .eql c19 (.int .i64 5)).bind fun x31=>
(
  asBool x31).bind fun b32=>
  if b32=true then
(zn a0 5).bind fun c33=>
(
  zaH c33).bind fun n34=>
  some (0,(vec [x2,x12,(.bool (decide ((((n34:Nat):Int):Int)≤2000))),(.bool ((((n16:Nat):Int):Int) == 0))]))
else
(ze .eql c19 (.int .i64 7)).bind fun x35=>
(
  asBool x35).bind fun b36=>
  if b36=true then
(zn a0 6).bind fun c37=>
(P0 vJ [.v c37] []).bind fun r38=>
(asBool r38.1).bind fun b39=>
((if b39=true then
(zn a0 6).bind fun c40=>
(yX c40).bind fun n41=>
(zn a0 7).bind fun c42=>
(
  yX c42).bind fun n43=>
  some (.bool ((((n41:Nat):Int):Int) == ((n43:Nat):Int)))
else some (.bool false):Option V)).bind fun x44=>
 some (2,(vec [x2,x12,x14,x44]))
else
(ze .eql c19 (.int .i64 6)).bind fun x45=>
(
  asBool x45).bind fun b46=>
  if b46=true then
  some (2,(vec [x2,x12,x14,(.bool ((((n16:Nat):Int):Int) == 0))]))
else
 some (1,(vec [])):Option (Nat×(Nat→V)))).bind fun o47=>
 if o47.1=0 then
 some (0,(vec [(o47.2 0),(o47.2 1),(o47.2 2),(o47.2 3),(.bool ((((n18:Nat):Int):Int) == 0))]))
else
 if(o47.1 - 1)=0 then
 some (1,(vec [(.bool false)]))
else
(zn a0 7).bind fun c48=>
(
  yX c48).bind fun n49=>
  some (0,(vec [(o47.2 0),(o47.2 1),(o47.2 2),(o47.2 3),(.bool (decide ((((n49:Nat):Int):Int)≤300)))])):Option (Nat×(Nat→V)))).bind fun o50=>
  if o50.1=0 then
(asBool (o50.2 0)).bind fun b51=>
(
  (if b51=true then
  some (o50.2 1)
else some (.bool false):Option V)).bind fun x52=>
(asBool x52).bind fun b53=>
(
  (if b53=true then
  some (o50.2 2)
else some (.bool false):Option V)).bind fun x54=>
(asBool x54).bind fun b55=>
(
  (if b55=true then
  some (o50.2 3)
else some (.bool false):Option V)).bind fun x56=>
(asBool x56).bind fun b57=>
(
  (if b57=true then
  some (o50.2 4)
else some (.bool false):Option V)).bind fun x58=>
 some (x58,[])
else
 some ((o50.2 0),[]))
theorem zis(a0:V):P0 qn [.v a0] []=zcY a0:=
 (z6 (fn:=zbl) _ _ (by kernel_rfl)).trans (by kernel_rfl)
noncomputable def yL(n1:Nat)(a0:V)(a1:Nat)(v2:Nat→V):Option ((Nat→V) ⊕ (Nat×(Nat→V))):=
(ze .lss (v2 0) (.int .i64 ((n1:Nat):Int))).bind fun x3=>
(
  asBool x3).bind fun b4=>
  if b4=true then
(xk 11 a0).bind fun l5=>
(xP (v2 0) (l5.length)).bind fun i6=>
(
  l5[i6]?).bind fun e7=>
  tst (Nat.blt a1 wT) ((P0 a1 [.v e7] []).bind fun r8=>
(
  asBool r8.1).bind fun b9=>
  if b9=true then
  some (.inr (1,(vec [(v2 0)])))
else
(
  ze .add (v2 0) (.int .i64 1)).bind fun x10=>
  some (.inl (vec [x10])))
else
 some (.inr (0,(vec [])))
noncomputable def wR(a0:V)(a1:Nat):Option (V×List V):=
(yX a0).bind fun n1=>
(
  yk (yL n1 a0 a1) (vec [(.int .i64 0)])).bind fun o11=>
  if o11.1=0 then
  some ((.int .i64 (-1)),[])
else
 some ((o11.2 0),[])
theorem q9(a0:V)(a1:Nat):P0 yi [.v a0,.fn a1 []] []=wR a0 a1:=
 (z6 (fn:=wQ) _ _ (by kernel_rfl)).trans (by kernel_rfl)
noncomputable def zc1(a0:V):Option (V×List V):=
 tst (okN 8 a0) ((zn a0 0).bind fun c1=>
(ze .eql c1 (.int .i64 0)).bind fun x2=>
(asBool x2).bind fun b3=>
((if b3=true then
(zn a0 1).bind fun c4=>
(
  unV .not c4).bind fun x5=>
  some x5
else some (.bool false):Option V)).bind fun x6=>
(asBool x6).bind fun b7=>
((if b7=true then
(zn a0 2).bind fun c8=>
(
  unV .not c8).bind fun x9=>
  some x9
else some (.bool false):Option V)).bind fun x10=>
(asBool x10).bind fun b11=>
((if b11=true then
(zn a0 3).bind fun c12=>
(
  yX c12).bind fun n13=>
  some (.bool ((((n13:Nat):Int):Int) == 0))
else some (.bool false):Option V)).bind fun x14=>
(asBool x14).bind fun b15=>
((if b15=true then
(zn a0 4).bind fun c16=>
(
  ze .eql c16 (.int .i64 0)).bind fun x17=>
  some x17
else some (.bool false):Option V)).bind fun x18=>
(asBool x18).bind fun b19=>
((if b19=true then
(zn a0 5).bind fun c20=>
(
  ze .eql c20 (.str [])).bind fun x21=>
  some x21
else some (.bool false):Option V)).bind fun x22=>
(asBool x22).bind fun b23=>
((if b23=true then
(zn a0 6).bind fun c24=>
(
  yX c24).bind fun n25=>
  some (.bool ((((n25:Nat):Int):Int) == 0))
else some (.bool false):Option V)).bind fun x26=>
(asBool x26).bind fun b27=>
((if b27=true then
(zn a0 7).bind fun c28=>
(
  yX c28).bind fun n29=>
  some (.bool ((((n29:Nat):Int):Int) == 0))
else some (.bool false):Option V)).bind fun x30=>
 some (x30,[]))
theorem zhs(a0:V):P0 jd [.v a0] []=zc1 a0:=
 (z6 (fn:=zbG) _ _ (by kernel_rfl)).trans (by kernel_rfl)
noncomputable def zbv(a0:V):Option (V×List V):=
(yX a0).bind fun n1=>
((if(decide ((((n1:Nat):Int):Int)≤63))=true then
(P0 yo [.v a0,.fn wk []] []).bind fun r2=>
(
  unV .not r2.1).bind fun x3=>
  some x3
else some (.bool false):Option V)).bind fun x4=>
 some (x4,[])
theorem zhA(a0:V):P0 vl [.v a0] []=zbv a0:=
 (z6 (fn:=zc7) _ _ (by kernel_rfl)).trans (by kernel_rfl)
noncomputable def qR(a0:V)(a1:Nat):Option (V×List V):=
(P0 xc [.v a0,.fn a1 []] []).bind fun r1=>
(
  ze .geq r1.1 (.int .i64 0)).bind fun x2=>
  some (x2,[])
theorem Z1(a0:V)(a1:Nat):P0 yD [.v a0,.fn a1 []] []=qR a0 a1:=
 (z6 (fn:=qS) _ _ (by kernel_rfl)).trans (by kernel_rfl)
noncomputable def KR(a0:V):Option (V×List V):=
 tst (okN 8 a0) ((P0 qv [.v a0] []).bind fun r1=>
(
  unV .not r1.1).bind fun x2=>
  some (x2,[]))
theorem zgr(a0:V):P0 vD [.v a0] []=KR a0:=
 (z6 (fn:=zao) _ _ (by kernel_rfl)).trans (by kernel_rfl)
noncomputable def zdf(a0:V):Option (V×List V):=
 tst (okN 8 a0) ((zn a0 0).bind fun c1=>
(ze .neq c1 (.int .i64 7)).bind fun x2=>
(
  asBool x2).bind fun b3=>
  if b3=true then
  some ((.tup [(.sl []),(.sl [])]),[])
else
(zn a0 6).bind fun c4=>
(yX c4).bind fun n5=>
(zn a0 7).bind fun c6=>
(yX c6).bind fun n7=>
(zgt (.int .i64 ((n5:Nat):Int)) [(.int .i64 ((n7:Nat):Int))]).bind fun x8=>
(zn a0 6).bind fun c9=>
(xk 1 c9).bind fun l10=>
(zlZ none (some x8) (some x8) (l10.length)).bind fun q11=>
(zn a0 7).bind fun c12=>
(xk 8 c12).bind fun l13=>
(
  zlZ none (some x8) (some x8) (l13.length)).bind fun q14=>
  some ((.tup [(.sl ((l10.drop q11.1).take (q11.2 - q11.1))),(.sl ((l13.drop q14.1).take (q14.2 - q14.1)))]),[]))
theorem zgJ(a0:V):P0 wx [.v a0] []=zdf a0:=
 (z6 (fn:=zbE) _ _ (by kernel_rfl)).trans (by kernel_rfl)
noncomputable def xp(n1:Nat)(a0:V)(a1:V)(v2:Nat→V):Option ((Nat→V) ⊕ (Nat×(Nat→V))):=
(ze .lss (v2 0) (.int .i64 ((n1:Nat):Int))).bind fun x3=>
(
  asBool x3).bind fun b4=>
  if b4=true then
(xk 1 a0).bind fun l5=>
(xP (v2 0) (l5.length)).bind fun i6=>
(l5[i6]?).bind fun e7=>
(zn e7 0).bind fun c8=>
(ze .eql a1 c8).bind fun x9=>
(
  asBool x9).bind fun b10=>
  if b10=true then
  some (.inr (1,(vec [(v2 0)])))
else
(
  ze .add (v2 0) (.int .i64 1)).bind fun x11=>
  some (.inl (vec [x11]))
else
 some (.inr (0,(vec [])))
noncomputable def jS(a0:V)(a1:V):Option (V×List V):=
(yX a0).bind fun n1=>
(
  yk (xp n1 a0 a1) (vec [(.int .i64 0)])).bind fun o12=>
  if o12.1=0 then
  some ((.int .i64 (-1)),[])
else
 some ((o12.2 0),[])
theorem Xm(a0:V)(a1:V):P0 yb [.v a0,.v a1] []=jS a0 a1:=
 (z6 (fn:=jR) _ _ (by kernel_rfl)).trans (by kernel_rfl)
noncomputable def yW(n1:Nat)(a0:V)(a1:Nat)(y1000:V)(v2:Nat→V):Option ((Nat→V) ⊕ (Nat×(Nat→V))):=
(ze .lss (v2 0) (.int .i64 ((n1:Nat):Int))).bind fun x3=>
(
  asBool x3).bind fun b4=>
  if b4=true then
(xk 1 a0).bind fun l5=>
(xP (v2 0) (l5.length)).bind fun i6=>
(l5[i6]?).bind fun e7=>
(
  zn e7 0).bind fun c8=>
  tst (Nat.blt a1 wT) ((P0 a1 [.v c8,.p 0 0] [(true,1,y1000)]).bind fun r9=>
(
  asBool r9.1).bind fun b10=>
  if b10=true then
  some (.inr (1,(vec [(v2 0)])))
else
(
  ze .add (v2 0) (.int .i64 1)).bind fun x11=>
  some (.inl (vec [x11])))
else
 some (.inr (0,(vec [])))
noncomputable def qI(a0:V)(a1:Nat)(y1000:V):Option (V×List V):=
(yX a0).bind fun n1=>
(
  yk (yW n1 a0 a1 y1000) (vec [(.int .i64 0)])).bind fun o12=>
  if o12.1=0 then
  some ((.int .i64 (-1)),[y1000])
else
 some ((o12.2 0),[y1000])
theorem Zv(a0:V)(a1:Nat)(y1000:V):P0 zz [.v a0,.fn a1 [.p 0 0]] [(false,1,y1000)]=qI a0 a1 y1000:=
 (z6 (fn:=qL) _ _ (by kernel_rfl)).trans (by kernel_rfl)
noncomputable def y9(n1:Nat)(a0:V)(a1:Nat)(v2:Nat→V):Option ((Nat→V) ⊕ (Nat×(Nat→V))):=
(ze .lss (v2 0) (.int .i64 ((n1:Nat):Int))).bind fun x3=>
(
  asBool x3).bind fun b4=>
  if b4=true then
(xk 1 a0).bind fun l5=>
(xP (v2 0) (l5.length)).bind fun i6=>
(l5[i6]?).bind fun e7=>
(
  zn e7 0).bind fun c8=>
  tst (Nat.blt a1 wT) ((P0 a1 [.v c8] []).bind fun r9=>
(
  asBool r9.1).bind fun b10=>
  if b10=true then
  some (.inr (1,(vec [(v2 0)])))
else
(
  ze .add (v2 0) (.int .i64 1)).bind fun x11=>
  some (.inl (vec [x11])))
else
 some (.inr (0,(vec [])))
noncomputable def qd(a0:V)(a1:Nat):Option (V×List V):=
(yX a0).bind fun n1=>
(
  yk (y9 n1 a0 a1) (vec [(.int .i64 0)])).bind fun o12=>
  if o12.1=0 then
  some ((.int .i64 (-1)),[])
else
 some ((o12.2 0),[])
theorem kO(a0:V)(a1:Nat):P0 zz [.v a0,.fn a1 []] []=qd a0 a1:=
 (z6 (fn:=qg) _ _ (by kernel_rfl)).trans (by kernel_rfl)
noncomputable def Jm(a0:V)(a1:V):Option (V×List V):=
(
  ze .gtr a0 a1).bind fun x1=>
  some (x1,[a1])
theorem zdA(a0:V)(a1:V):P0 xJ [.v a0,.p 0 0] [(true,1,a1)]=Jm a0 a1:=
 (z6 (fn:=JP) _ _ (by kernel_rfl)).trans (by kernel_rfl)
noncomputable def xf(n1:Nat)(a0:V)(v2:Nat→V):Option ((Nat→V) ⊕ (Nat×(Nat→V))):=
(ze .lss (v2 1) (.int .i64 ((n1:Nat):Int))).bind fun x3=>
(
  asBool x3).bind fun b4=>
  if b4=true then
(xk 1 a0).bind fun l5=>
(xP (v2 1) (l5.length)).bind fun i6=>
(l5[i6]?).bind fun e7=>
(zn e7 0).bind fun c8=>
(yX c8).bind fun n9=>
(ze .add (v2 0) (.int .i64 ((n9:Nat):Int))).bind fun x10=>
(ze .lss x10 (.int .i64 0)).bind fun x11=>
(
  asBool x11).bind fun b12=>
  if b12=true then
(VS true (.iface 9 (.str [108,101,110,32,111,117,116,32,111,102,32,114,97,110,103,101]))).bind fun x13=>
(
  asBool x13).bind fun b14=>
  if b14=true then
  some (.inr (1,(vec [(.iface 9 (.str [108,101,110,32,111,117,116,32,111,102,32,114,97,110,103,101]))])))
else
 some (.inr (2,(vec [])))
else
(
  ze .add (v2 1) (.int .i64 1)).bind fun x15=>
  some (.inl (vec [x10,x15]))
else
 some (.inr (0,(vec [(v2 0)])))
noncomputable def xd(n19:Nat)(a0:V)(v20:Nat→V):Option ((Nat→V) ⊕ (Nat×(Nat→V))):=
(ze .lss (v20 1) (.int .i64 ((n19:Nat):Int))).bind fun x21=>
(
  asBool x21).bind fun b22=>
  if b22=true then
(xk 1 a0).bind fun l23=>
(xP (v20 1) (l23.length)).bind fun i24=>
(l23[i24]?).bind fun e25=>
(zn e25 0).bind fun c26=>
(
  Y0 1 c26).bind fun l27=>
  tst (wy 16 ((V.elems (v20 0)).length) (l27.length)) ((ze .add (v20 1) (.int .i64 1)).bind fun x28=>
  some (.inl (vec [(.sl ((V.elems (v20 0))++l27)),x28])))
else
 some (.inr (0,(vec [(.sl (V.elems (v20 0)))])))
noncomputable def jC(a0:V):Option (V×List V):=
(yX a0).bind fun n1=>
(
  yk (xf n1 a0) (vec [(.int .i64 0),(.int .i64 0)])).bind fun o16=>
  if o16.1=0 then
(P0 xu [.g,.v (.sl []),.v (o16.2 0)] []).bind fun r17=>
(slV r17.1).bind fun l18=>
(yX a0).bind fun n19=>
(
  yk (xd n19 a0) (vec [(.sl l18),(.int .i64 0)])).bind fun o29=>
  some ((.sl (V.elems (o29.2 0))),[])
else
 if(o16.1 - 1)=0 then
 none
else
 none
theorem Xa(a0:V):P0 yN [.v a0] []=jC a0:=
 (z6 (fn:=jA) _ _ (by kernel_rfl)).trans (by kernel_rfl)
noncomputable def Wo(a0:V)(a1:V):Option (V×List V):=
 tst (okN 8 a0) ((zn a0 0).bind fun c1=>
(ze .neq c1 (.int .i64 6)).bind fun x2=>
(
  asBool x2).bind fun b3=>
  if b3=true then
(P0 vk [.v a0,.v a1] []).bind fun r4=>
(zj r4.1 0).bind fun x5=>
(
  zj r4.1 1).bind fun x6=>
  tst (okN 8 x5) (some ((.tup [x5,x6]),[]))
else
(zn a0 7).bind fun c7=>
(yX c7).bind fun n8=>
(P0 ye [.v a1,.v (.int .i64 (IntKind.wrap .i64 (((n8:Nat):Int) - 1)))] []).bind fun r9=>
(zj r9.1 0).bind fun x10=>
(zj r9.1 1).bind fun x11=>
(unV .not x11).bind fun x12=>
(
  asBool x12).bind fun b13=>
  if b13=true then
  some ((.tup [(.agg [(.int .i64 0),(.bool false),(.bool false),(.sl []),(.int .i64 0),(.str []),(.sl []),(.sl [])]),(.bool false)]),[])
else
(zn a0 7).bind fun c14=>
(xk 8 c14).bind fun l15=>
(xP x10 (l15.length)).bind fun i17=>
(
  l15[i17]?).bind fun e18=>
  tst (okN 8 e18) (some ((.tup [e18,(.bool true)]),[])))
theorem zaC(a0:V)(a1:V):P0 xC [.v a0,.v a1] []=Wo a0 a1:=
 (z6 (fn:=WA) _ _ (by kernel_rfl)).trans (by kernel_rfl)
noncomputable def zap(a0:V):Option (V×List V):=
 tst (okN 3 a0) ((zn a0 1).bind fun c1=>
(
  yX c1).bind fun n2=>
  if((((n2:Nat):Int):Int) == 0)=true then
(zn a0 0).bind fun c3=>
(unV .not c3).bind fun x4=>
(asBool x4).bind fun b5=>
((if b5=true then
(zn a0 2).bind fun c6=>
(
  ze .eql c6 (.int .i64 0)).bind fun x7=>
  some x7
else some (.bool false):Option V)).bind fun x8=>
 some (x8,[])
else
((if(decide ((((n2:Nat):Int):Int) > 90))=false then
(zn a0 1).bind fun c9=>
(xk 1 c9).bind fun l10=>
(xP (.int .i64 (IntKind.wrap .i64 (((n2:Nat):Int) - 1))) (l10.length)).bind fun i11=>
(l10[i11]?).bind fun e12=>
(zn e12 0).bind fun c13=>
(
  ze .eql c13 (.int .u32 0)).bind fun x14=>
  some x14
else some (.bool true):Option V)).bind fun x15=>
(asBool x15).bind fun b16=>
((if b16=false then
(zn a0 2).bind fun c17=>
(
  ze .lss c17 (.int .i64 (-1200))).bind fun x18=>
  some x18
else some (.bool true):Option V)).bind fun x19=>
(asBool x19).bind fun b20=>
((if b20=false then
(zn a0 2).bind fun c21=>
(
  ze .gtr c21 (.int .i64 1200)).bind fun x22=>
  some x22
else some (.bool true):Option V)).bind fun x23=>
(
  asBool x23).bind fun b24=>
  if b24=true then
  some ((.bool false),[])
else
(zn a0 1).bind fun c25=>
(P0 jb [.v c25] []).bind fun r26=>
(zj r26.1 0).bind fun x27=>
(zj r26.1 1).bind fun x28=>
(
  ze .eql x28 (.int .i64 0)).bind fun x29=>
  some (x29,[]))
theorem zgg(a0:V):P0 vy [.v a0] []=zap a0:=
 (z6 (fn:=K2) _ _ (by kernel_rfl)).trans (by kernel_rfl)
noncomputable def zaj(a0:V):Option (V×List V):=
(zaH a0).bind fun n1=>
((if(decide ((((n1:Nat):Int):Int)≤2000))=true then
(
  P0 wZ [.v a0] []).bind fun r2=>
  some r2.1
else some (.bool false):Option V)).bind fun x3=>
 some (x3,[])
theorem zfP(a0:V):P0 ve [.v a0] []=zaj a0:=
 (z6 (fn:=zak) _ _ (by kernel_rfl)).trans (by kernel_rfl)
noncomputable def yP(n1:Nat)(a0:V)(v2:Nat→V):Option ((Nat→V) ⊕ (Nat×(Nat→V))):=
(ze .lss (v2 0) (.int .i64 ((n1:Nat):Int))).bind fun x3=>
(
  asBool x3).bind fun b4=>
  if b4=true then
(xk 1 a0).bind fun l5=>
(xP (v2 0) (l5.length)).bind fun i6=>
(l5[i6]?).bind fun e7=>
(zn e7 0).bind fun c8=>
(P0 ve [.v c8] []).bind fun r9=>
(unV .not r9.1).bind fun x10=>
(asBool x10).bind fun b11=>
((if b11=false then
(ze .gtr (v2 0) (.int .i64 0)).bind fun x12=>
(asBool x12).bind fun b13=>
((if b13=true then
(ze .sub (v2 0) (.int .i64 1)).bind fun x14=>
(xk 1 a0).bind fun l15=>
(xP x14 (l15.length)).bind fun i17=>
(l15[i17]?).bind fun e18=>
(zn e18 0).bind fun c19=>
(
  ze .geq c19 c8).bind fun x20=>
  some x20
else some (.bool false):Option V)).bind fun x21=>
 some x21
else some (.bool true):Option V)).bind fun x22=>
(
  asBool x22).bind fun b23=>
  if b23=true then
  some (.inr (1,(vec [(.bool false)])))
else
(
  ze .add (v2 0) (.int .i64 1)).bind fun x24=>
  some (.inl (vec [x24]))
else
 some (.inr (0,(vec [])))
noncomputable def Jy(a0:V):Option (V×List V):=
(yX a0).bind fun n1=>
(
  yk (yP n1 a0) (vec [(.int .i64 0)])).bind fun o25=>
  if o25.1=0 then
(
  yX a0).bind fun n26=>
  some ((.bool (decide ((((n26:Nat):Int):Int)≤300))),[])
else
 some ((o25.2 0),[])
theorem zdW(a0:V):P0 vJ [.v a0] []=Jy a0:=
 (z6 (fn:=Q7) _ _ (by kernel_rfl)).trans (by kernel_rfl)
noncomputable def vR(a0:V)(a1:Nat):Option (V×List V):=
(P0 zz [.v a0,.fn a1 []] []).bind fun r1=>
(
  ze .geq r1.1 (.int .i64 0)).bind fun x2=>
  some (x2,[])
theorem kB(a0:V)(a1:Nat):P0 yo [.v a0,.fn a1 []] []=vR a0 a1:=
 (z6 (fn:=vO) _ _ (by kernel_rfl)).trans (by kernel_rfl)
noncomputable def Jh(a0:V):Option (V×List V):=
(zaH a0).bind fun n1=>
((if(decide ((((n1:Nat):Int):Int) > 2000))=false then
(P0 wZ [.v a0] []).bind fun r2=>
(
  unV .not r2.1).bind fun x3=>
  some x3
else some (.bool true):Option V)).bind fun x4=>
 some (x4,[])
theorem zdS(a0:V):P0 wk [.v a0] []=Jh a0:=
 (z6 (fn:=JQ) _ _ (by kernel_rfl)).trans (by kernel_rfl)
noncomputable def wm(a0:V)(v2:Nat→V):Option ((Nat→V) ⊕ (Nat×(Nat→V))):=
 if(YQ (v2 1))<List.length (α:=UInt8) (zdb (v2 0))then
 if(((Utf8.decode ⟨((zdb (v2 0))).toArray⟩ (YQ (v2 1))).1:Int) != 65533)=true then
 some (.inl (vec [(.str (zdb (v2 0))),(.int .i64 ((((YQ (v2 1))+(Utf8.decode ⟨((zdb (v2 0))).toArray⟩ (YQ (v2 1))).2):Nat):Int))]))
else
(JB a0 (some (.int .i64 (((YQ (v2 1)):Nat):Int))) none).bind fun x3=>
(P0 yJ [.v x3] []).bind fun r4=>
(zj r4.1 0).bind fun x5=>
(zj r4.1 1).bind fun x6=>
(ze .eql x6 (.int .i64 1)).bind fun x7=>
(
  asBool x7).bind fun b8=>
  if b8=true then
  some (.inr (1,(vec [(.bool false)])))
else
 some (.inl (vec [(.str (zdb (v2 0))),(.int .i64 ((((YQ (v2 1))+(Utf8.decode ⟨((zdb (v2 0))).toArray⟩ (YQ (v2 1))).2):Nat):Int))]))
else
 some (.inr (0,(vec [])))
noncomputable def KW(a0:V):Option (V×List V):=
(zaf a0).bind fun s1=>
(
  yk (wm a0) (vec [(.str s1),(.int .i64 ((0:Nat):Int))])).bind fun o9=>
  if o9.1=0 then
  some ((.bool true),[])
else
 some ((o9.2 0),[])
theorem zgm(a0:V):P0 wZ [.v a0] []=KW a0:=
 (z6 (fn:=KX) _ _ (by kernel_rfl)).trans (by kernel_rfl)
noncomputable def xv(n1:Nat)(a0:V)(a1:Nat)(v2:Nat→V):Option ((Nat→V) ⊕ (Nat×(Nat→V))):=
(ze .lss (v2 0) (.int .i64 ((n1:Nat):Int))).bind fun x3=>
(
  asBool x3).bind fun b4=>
  if b4=true then
(xk 8 a0).bind fun l5=>
(xP (v2 0) (l5.length)).bind fun i6=>
(
  l5[i6]?).bind fun e7=>
  tst (Nat.blt a1 wT) ((P0 a1 [.v e7] []).bind fun r8=>
(
  asBool r8.1).bind fun b9=>
  if b9=true then
  some (.inr (1,(vec [(v2 0)])))
else
(
  ze .add (v2 0) (.int .i64 1)).bind fun x10=>
  some (.inl (vec [x10])))
else
 some (.inr (0,(vec [])))
noncomputable def jQ(a0:V)(a1:Nat):Option (V×List V):=
(yX a0).bind fun n1=>
(
  yk (xv n1 a0 a1) (vec [(.int .i64 0)])).bind fun o11=>
  if o11.1=0 then
  some ((.int .i64 (-1)),[])
else
 some ((o11.2 0),[])
theorem XI(a0:V)(a1:Nat):P0 xc [.v a0,.fn a1 []] []=jQ a0 a1:=
 (z6 (fn:=jP) _ _ (by kernel_rfl)).trans (by kernel_rfl)
noncomputable def VI(a0:V)(a1:V):Option (V×List V):=
 tst (okN 8 a0) ((P0 wx [.v a0] []).bind fun r1=>
(zj r1.1 0).bind fun x2=>
(zj r1.1 1).bind fun x3=>
(P0 yb [.v x2,.v a1] []).bind fun r4=>
(ze .geq r4.1 (.int .i64 0)).bind fun x5=>
(
  asBool x5).bind fun b6=>
  if b6=true then
(xk 8 x3).bind fun l7=>
(xP r4.1 (l7.length)).bind fun i9=>
(
  l7[i9]?).bind fun e10=>
  tst (okN 8 e10) (some ((.tup [e10,(.bool true)]),[]))
else
 some ((.tup [(.agg [(.int .i64 0),(.bool false),(.bool false),(.sl []),(.int .i64 0),(.str []),(.sl []),(.sl [])]),(.bool false)]),[]))
theorem zcx(a0:V)(a1:V):P0 vk [.v a0,.v a1] []=VI a0 a1:=
 (z6 (fn:=VV) _ _ (by kernel_rfl)).trans (by kernel_rfl)
noncomputable def qC(v2:Nat→V):Option ((Nat→V) ⊕ (Nat×(Nat→V))):=
(
  yX (v2 0)).bind fun n3=>
  if(decide ((((n3:Nat):Int):Int) > 0))=true then
(P0 vz [.v (v2 0),.v (.int .u32 10)] []).bind fun r4=>
(zj r4.1 0).bind fun x5=>
(zj r4.1 1).bind fun x6=>
(ze .neq x6 (.int .u32 0)).bind fun x7=>
(
  asBool x7).bind fun b8=>
  if b8=true then
  some (.inr (0,(vec [(v2 0),(v2 1)])))
else
(
  ze .add (v2 1) (.int .i64 1)).bind fun x9=>
  some (.inl (vec [x5,x9]))
else
 some (.inr (0,(vec [(v2 0),(v2 1)])))
noncomputable def zcQ(a0:V):Option (V×List V):=
(P0 vL [.v a0] []).bind fun r1=>
(
  yk (qC) (vec [r1.1,(.int .i64 0)])).bind fun o10=>
  some ((.tup [(o10.2 0),(o10.2 1)]),[])
theorem zhf(a0:V):P0 jb [.v a0] []=zcQ a0:=
 (z6 (fn:=zcm) _ _ (by kernel_rfl)).trans (by kernel_rfl)
noncomputable def jp(a0:V):Option (V×List V):=
(ze .neq a0 (.str [])).bind fun x1=>
(asBool x1).bind fun b2=>
((if b2=true then
(Zx a0 (.int .i64 0)).bind fun x3=>
(
  ze .lss x3 (.int .u8 128)).bind fun x4=>
  some x4
else some (.bool false):Option V)).bind fun x5=>
(
  asBool x5).bind fun b6=>
  if b6=true then
(Zx a0 (.int .i64 0)).bind fun x7=>
(
  ZY .i32 x7).bind fun x8=>
  some ((.tup [x8,(.int .i64 1)]),[])
else
(P0 z5 [.v a0] []).bind fun r9=>
(zj r9.1 0).bind fun x10=>
(
  zj r9.1 1).bind fun x11=>
  some ((.tup [x10,x11]),[])
theorem YO(a0:V):P0 yJ [.v a0] []=jp a0:=
 (z6 (fn:=jh) _ _ (by kernel_rfl)).trans (by kernel_rfl)
noncomputable def jG(a0:V)(v2:Nat→V):Option ((Nat→V) ⊕ (Nat×(Nat→V))):=
(ze .gtr (v2 0) (.int .i64 0)).bind fun x3=>
(asBool x3).bind fun b4=>
((if b4=true then
(ze .sub (v2 0) (.int .i64 1)).bind fun x5=>
(xk 1 a0).bind fun l6=>
(xP x5 (l6.length)).bind fun i7=>
(l6[i7]?).bind fun e8=>
(zn e8 0).bind fun c9=>
(
  ze .eql c9 (.int .u32 0)).bind fun x10=>
  some x10
else some (.bool false):Option V)).bind fun x11=>
(
  asBool x11).bind fun b12=>
  if b12=true then
(
  ze .sub (v2 0) (.int .i64 1)).bind fun x13=>
  some (.inl (vec [x13]))
else
 some (.inr (0,(vec [(v2 0)])))
noncomputable def zdt(a0:V):Option (V×List V):=
(yX a0).bind fun n1=>
(yk (jG a0) (vec [(.int .i64 ((n1:Nat):Int))])).bind fun o14=>
(ze .eql (o14.2 0) (.int .i64 0)).bind fun x15=>
(
  asBool x15).bind fun b16=>
  if b16=true then
  some ((.sl []),[])
else
(zfn 4 (o14.2 0) (o14.2 0)).bind fun q17=>
(
  Y0 1 a0).bind fun l18=>
  some ((.sl (((xR (List.replicate q17.2 (.int .u32 0)) 0 (l18.take (Nat.min (l18.length) q17.1))).drop 0).take q17.1)),[])
theorem zg1(a0:V):P0 vL [.v a0] []=zdt a0:=
 (z6 (fn:=zbV) _ _ (by kernel_rfl)).trans (by kernel_rfl)
noncomputable def kr(a0:V)(a1:V)(q2:Nat×Nat)(v4:Nat→V):Option ((Nat→V) ⊕ (Nat×(Nat→V))):=
(ze .geq (v4 1) (.int .i64 0)).bind fun x5=>
(
  asBool x5).bind fun b6=>
  if b6=true then
(ze .shl (v4 0) (.int .u64 32)).bind fun x7=>
(xk 1 a0).bind fun l8=>
(xP (v4 1) (l8.length)).bind fun i9=>
(l8[i9]?).bind fun e10=>
(zn e10 0).bind fun c11=>
(ZY .u64 c11).bind fun x12=>
(ze .or x7 x12).bind fun x13=>
(ZY .u64 a1).bind fun x14=>
(ze .quo x13 x14).bind fun x15=>
(ZY .u32 x15).bind fun x16=>
(
  xP (v4 1) q2.1).bind fun i17=>
  tst (okN 1 x16) ((zn x16 0).bind fun c18=>
(ZY .u64 a1).bind fun x19=>
(ze .rem x13 x19).bind fun x20=>
(
  ze .sub (v4 1) (.int .i64 1)).bind fun x21=>
  some (.inl (vec [x20,x21,(.sl ((V.elems (v4 2)).set (0+i17) c18))])))
else
 some (.inr (0,(vec [(v4 0),(.sl (V.elems (v4 2)))])))
noncomputable def zab(a0:V)(a1:V):Option (V×List V):=
(yX a0).bind fun n1=>
(zfn 4 (.int .i64 ((n1:Nat):Int)) (.int .i64 ((n1:Nat):Int))).bind fun q2=>
(yX a0).bind fun n3=>
(yk (kr a0 a1 q2) (vec [(.int .u64 0),(.int .i64 (IntKind.wrap .i64 (((n3:Nat):Int) - 1))),(.sl (List.replicate q2.2 (.int .u32 0)))])).bind fun o22=>
(P0 vL [.v (.sl (((V.elems (o22.2 1)).drop 0).take q2.1))] []).bind fun r23=>
(
  ZY .u32 (o22.2 0)).bind fun x24=>
  some ((.tup [r23.1,x24]),[])
theorem zfK(a0:V)(a1:V):P0 vz [.v a0,.v a1] []=zab a0 a1:=
 (z6 (fn:=zac) _ _ (by kernel_rfl)).trans (by kernel_rfl)
noncomputable def wl(a0:V):Option (V×List V):=
(
  zaH a0).bind fun n1=>
  if(decide ((((n1:Nat):Int):Int)<1))=true then
  some ((.tup [(.int .i32 65533),(.int .i64 0)]),[])
else
(Zx a0 (.int .i64 0)).bind fun x2=>
(xP x2 256).bind fun i3=>
((G_0.drop (i3 * 1))[0]?).bind fun c4=>
(ze .geq c4 (.int .u8 240)).bind fun x5=>
(
  asBool x5).bind fun b6=>
  if b6=true then
(ZY .i32 c4).bind fun x7=>
(ze .shl x7 (.int .u64 31)).bind fun x8=>
(ze .shr x8 (.int .u64 31)).bind fun x9=>
(Zx a0 (.int .i64 0)).bind fun x10=>
(ZY .i32 x10).bind fun x11=>
(ze .andNot x11 x9).bind fun x12=>
(ze .and (.int .i32 65533) x9).bind fun x13=>
(
  ze .or x12 x13).bind fun x14=>
  some ((.tup [x14,(.int .i64 1)]),[])
else
(ze .and c4 (.int .u8 7)).bind fun x15=>
(ZY .i64 x15).bind fun x16=>
(ze .shr c4 (.int .u64 4)).bind fun x17=>
(
  xP x17 16).bind fun i18=>
  tst (Nat.ble 2 (G_1.drop (i18 * 2)).length) (tst (okN 2 (.agg ((G_1.drop (i18 * 2)).take 2))) ((ze .lss (.int .i64 ((n1:Nat):Int)) x16).bind fun x19=>
(
  asBool x19).bind fun b20=>
  if b20=true then
  some ((.tup [(.int .i32 65533),(.int .i64 1)]),[])
else
(Zx a0 (.int .i64 1)).bind fun x21=>
(zn (.agg ((G_1.drop (i18 * 2)).take 2)) 0).bind fun c22=>
(ze .lss x21 c22).bind fun x23=>
(asBool x23).bind fun b24=>
((if b24=false then
(zn (.agg ((G_1.drop (i18 * 2)).take 2)) 1).bind fun c25=>
(
  ze .lss c25 x21).bind fun x26=>
  some x26
else some (.bool true):Option V)).bind fun x27=>
(
  asBool x27).bind fun b28=>
  if b28=true then
  some ((.tup [(.int .i32 65533),(.int .i64 1)]),[])
else
(ze .leq x16 (.int .i64 2)).bind fun x29=>
(
  asBool x29).bind fun b30=>
  if b30=true then
(ze .and x2 (.int .u8 31)).bind fun x31=>
(ZY .i32 x31).bind fun x32=>
(ze .shl x32 (.int .u64 6)).bind fun x33=>
(ze .and x21 (.int .u8 63)).bind fun x34=>
(ZY .i32 x34).bind fun x35=>
(
  ze .or x33 x35).bind fun x36=>
  some ((.tup [x36,(.int .i64 2)]),[])
else
(Zx a0 (.int .i64 2)).bind fun x37=>
(ze .lss x37 (.int .u8 128)).bind fun x38=>
(asBool x38).bind fun b39=>
((if b39=false then
(
  ze .lss (.int .u8 191) x37).bind fun x40=>
  some x40
else some (.bool true):Option V)).bind fun x41=>
(
  asBool x41).bind fun b42=>
  if b42=true then
  some ((.tup [(.int .i32 65533),(.int .i64 1)]),[])
else
(ze .leq x16 (.int .i64 3)).bind fun x43=>
(
  asBool x43).bind fun b44=>
  if b44=true then
(ze .and x2 (.int .u8 15)).bind fun x45=>
(ZY .i32 x45).bind fun x46=>
(ze .shl x46 (.int .u64 12)).bind fun x47=>
(ze .and x21 (.int .u8 63)).bind fun x48=>
(ZY .i32 x48).bind fun x49=>
(ze .shl x49 (.int .u64 6)).bind fun x50=>
(ze .or x47 x50).bind fun x51=>
(ze .and x37 (.int .u8 63)).bind fun x52=>
(ZY .i32 x52).bind fun x53=>
(
  ze .or x51 x53).bind fun x54=>
  some ((.tup [x54,(.int .i64 3)]),[])
else
(Zx a0 (.int .i64 3)).bind fun x55=>
(ze .lss x55 (.int .u8 128)).bind fun x56=>
(asBool x56).bind fun b57=>
((if b57=false then
(
  ze .lss (.int .u8 191) x55).bind fun x58=>
  some x58
else some (.bool true):Option V)).bind fun x59=>
(
  asBool x59).bind fun b60=>
  if b60=true then
  some ((.tup [(.int .i32 65533),(.int .i64 1)]),[])
else
(ze .and x2 (.int .u8 7)).bind fun x61=>
(ZY .i32 x61).bind fun x62=>
(ze .shl x62 (.int .u64 18)).bind fun x63=>
(ze .and x21 (.int .u8 63)).bind fun x64=>
(ZY .i32 x64).bind fun x65=>
(ze .shl x65 (.int .u64 12)).bind fun x66=>
(ze .or x63 x66).bind fun x67=>
(ze .and x37 (.int .u8 63)).bind fun x68=>
(ZY .i32 x68).bind fun x69=>
(ze .shl x69 (.int .u64 6)).bind fun x70=>
(ze .or x67 x70).bind fun x71=>
(ze .and x55 (.int .u8 63)).bind fun x72=>
(ZY .i32 x72).bind fun x73=>
(
  ze .or x71 x73).bind fun x74=>
  some ((.tup [x74,(.int .i64 4)]),[])))
theorem vU(a0:V):P0 z5 [.v a0] []=wl a0:=
 (z6 (fn:=qc) _ _ (by kernel_rfl)).trans (by kernel_rfl)
theorem ZZ(as:List PA):P0 xG as []=ZK (kC 1 16) (.ful) as []:=JM (gl:=gl0) (tab:=zhu) (f:=xG) as [] rfl rfl
theorem Wi(as:List PA):P0 wB as []=ZK (kC 8 120) (.ful) as []:=JM (gl:=gl0) (tab:=zhu) (f:=wB) as [] rfl rfl
theorem VE(as:List PA):P0 wv as []=ZK (W2 120) (.gvf 8) as []:=JM (gl:=gl0) (tab:=zhu) (f:=wv) as [] rfl rfl
theorem YY(as:List PA):P0 xu as []=ZK (W2 16) (.gvf 1) as []:=JM (gl:=gl0) (tab:=zhu) (f:=xu) as [] rfl rfl
end Go.Ev
