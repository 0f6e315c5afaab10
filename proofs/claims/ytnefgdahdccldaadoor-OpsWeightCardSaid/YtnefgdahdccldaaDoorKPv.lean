/- What the functions compute. -/
import Derived.Test.YtnefgdahdccldaaDoorKCode
import Derived.KernelRfl
set_option linter.all false
namespace Go.Ev
noncomputable def wc(a0:V)(r1:V×List V)(v2:Nat→V):Option ((Nat→V) ⊕ (Nat×(Nat→V))):=
(yR a0).bind fun n3=>
(ze .lss (v2 3) (.int .i64 ((n3:Nat):Int))).bind fun x4=>
(asBool x4).bind fun b5=>
((if b5=true then
(
  ze .lss (v2 3) (.int .i64 30)).bind fun x6=>
  some x6
else some (.bool false):Option V)).bind fun x7=>
(
  asBool x7).bind fun b8=>
  if b8=true then
(((xy 1 a0).bind fun l9=>
(xN (v2 3) (l9.length)).bind fun i10=>
(l9[i10]?).bind fun e11=>
(zh e11 0).bind fun c12=>
(P0 y3 [.v c12,.v (.int .i64 30)] []).bind fun r13=>
(zc5 1 r13.1 r13.1).bind fun q14=>
(
  kr (((List.replicate q14.2 (.int .u8 0)).drop 0).take q14.1)).bind fun s15=>
  tst (yu 11 [(.agg [(.int .i64 1),(.sl [(.str [45])]),(.sl []),(.int .i64 4),(.bool false),(.bool false),(.sl []),(.int .i64 0),(.str s15),(.sl []),(.sl [])])]) (tst (VO 176 ((V.elems (v2 0)).length) (List.length (α:=V) [(.agg [(.int .i64 1),(.sl [(.str [45])]),(.sl []),(.int .i64 4),(.bool false),(.bool false),(.sl []),(.int .i64 0),(.str s15),(.sl []),(.sl [])])])) ((ze .add (v2 1) (.int .i64 1)).bind fun x16=>
(ze .add x16 r13.1).bind fun x17=>
(ze .gtr x17 r1.1).bind fun x18=>
(asBool x18).bind fun b19=>
((if b19=true then
(
  ze .lss (v2 2) (.int .i64 0)).bind fun x20=>
  some x20
else some (.bool false):Option V)).bind fun x21=>
(
  asBool x21).bind fun b22=>
  if b22=true then
  some (0,(vec [(.sl ((V.elems (v2 0))++([(.agg [(.int .i64 1),(.sl [(.str [45])]),(.sl []),(.int .i64 4),(.bool false),(.bool false),(.sl []),(.int .i64 0),(.str s15),(.sl []),(.sl [])])]:List V))),x17,(v2 3)]))
else
 some (0,(vec [(.sl ((V.elems (v2 0))++([(.agg [(.int .i64 1),(.sl [(.str [45])]),(.sl []),(.int .i64 4),(.bool false),(.bool false),(.sl []),(.int .i64 0),(.str s15),(.sl []),(.sl [])])]:List V))),x17,(v2 2)])))):Option (Nat×(Nat→V)))).bind fun o23=>
(
  ze .add (v2 3) (.int .i64 1)).bind fun x24=>
  some (.inl (vec [(.sl (V.elems (o23.2 0))),(o23.2 1),(o23.2 2),x24]))
else
 some (.inr (0,(vec [(.sl (V.elems (v2 0))),(v2 1),(v2 2)])))
noncomputable def Yi(a0:V)(a1:V):Option (V×List V):=
(P0 y3 [.v a1,.v (.int .i64 300)] []).bind fun r1=>
(yi (wc a0 r1) (vec [(.sl []),(.int .i64 1),(.int .i64 (-1)),(.int .i64 0)])).bind fun o25=>
(P0 xz [.v (.agg [(.int .i64 6),(.bool false),(.bool false),(.sl []),(.int .i64 0),(.str []),(.sl []),(.sl [])]),.v (.sl (V.elems (o25.2 0))),.v r1.1] []).bind fun r26=>
(zp r26.1 0).bind fun x27=>
(zp r26.1 1).bind fun x28=>
(
  zp r26.1 2).bind fun x29=>
  tst (okN 8 x27) ((ze .geq (o25.2 2) (.int .i64 0)).bind fun x30=>
(
  asBool x30).bind fun b31=>
  if b31=true then
(ze .eql x29 (.int .i64 4)).bind fun x32=>
(asBool x32).bind fun b33=>
((if b33=true then
(
  ze .eql x28 (o25.2 2)).bind fun x34=>
  some x34
else some (.bool false):Option V)).bind fun x35=>
(asBool x35).bind fun b36=>
((if b36=true then
(
  P0 yB [.v x27,.v (.agg [(.int .i64 0),(.bool false),(.bool false),(.sl []),(.int .i64 0),(.str []),(.sl []),(.sl [])])] []).bind fun r37=>
  some r37.1
else some (.bool false):Option V)).bind fun x38=>
(asBool x38).bind fun b39=>
((if b39=true then
(
  P0 xK [] []).bind fun r40=>
  some r40.1
else some (.bool false):Option V)).bind fun x41=>
 some (x41,[])
else
(ze .eql x29 (.int .i64 0)).bind fun x42=>
(asBool x42).bind fun b43=>
((if b43=true then
(
  ze .eql x28 (.int .i64 (-1))).bind fun x44=>
  some x44
else some (.bool false):Option V)).bind fun x45=>
(asBool x45).bind fun b46=>
((if b46=true then
(zh x27 7).bind fun c47=>
(
  yR c47).bind fun n48=>
  some (.bool ((((n48:Nat):Int):Int) == ((((V.elems (o25.2 0)).length):Nat):Int)))
else some (.bool false):Option V)).bind fun x49=>
(asBool x49).bind fun b50=>
((if b50=true then
(P0 y4 [.v x27] []).bind fun r51=>
(
  ze .eql r51.1 (o25.2 1)).bind fun x52=>
  some x52
else some (.bool false):Option V)).bind fun x53=>
(asBool x53).bind fun b54=>
((if b54=true then
(
  P0 xK [] []).bind fun r55=>
  some r55.1
else some (.bool false):Option V)).bind fun x56=>
 some (x56,[]))
theorem Ql(a0:V)(a1:V):P0 xR [.v a0,.v a1] []=Yi a0 a1:=
 (z5 (fn:=Z4) _ _ (by kernel_rfl)).trans (by kernel_rfl)
noncomputable def VT(a0:V)(a1:V):Option (V×List V):=
(ze .rem a0 a1).bind fun x1=>
(ze .lss x1 (.int .i64 0)).bind fun x2=>
(
  asBool x2).bind fun b3=>
  if b3=true then
(
  ze .add x1 a1).bind fun x4=>
  some (x4,[])
else
 some (x1,[])
theorem zbG(a0:V)(a1:V):P0 y3 [.v a0,.v a1] []=VT a0 a1:=
 (z5 (fn:=V6) _ _ (by kernel_rfl)).trans (by kernel_rfl)
noncomputable def zdT(a0:V)(a1:V):Option (V×List V):=
 tst (okN 8 a0) (tst (okN 11 a1) ((P0 q6 [.v a0,.v a1] []).bind fun r1=>
(zp r1.1 0).bind fun x2=>
(
  asBool x2).bind fun b3=>
  if b3=true then
(
  zp r1.1 1).bind fun x4=>
  tst (okN 8 x4) ((P0 vu [.p 0 0,.p 1 0,.v .nili] [(false,8,x4),(false,1,(.bool true))]).bind fun r5=>
(r5.2[0]?).bind fun y6=>
(
  r5.2[1]?).bind fun y7=>
  some ((.tup [y6,y7]),[]))
else
(zp r1.1 1).bind fun x8=>
(P0 vu [.p 0 0,.p 1 0,.v x8] [(false,8,(.agg [(.int .i64 0),(.bool false),(.bool false),(.sl []),(.int .i64 0),(.str []),(.sl []),(.sl [])])),(false,1,(.bool false))]).bind fun r9=>
(r9.2[0]?).bind fun y10=>
(
  r9.2[1]?).bind fun y11=>
  some ((.tup [y10,y11]),[])))
theorem zjf(a0:V)(a1:V):P0 q9 [.v a0,.v a1] []=zdT a0 a1:=
 (z5 (fn:=zeg) _ _ (by kernel_rfl)).trans (by kernel_rfl)
noncomputable def VL:Option (V×List V):=
(P0 xz [.v (.agg [(.int .i64 7),(.bool false),(.bool false),(.sl []),(.int .i64 0),(.str []),(.sl [(.str [97])]),(.sl [(.agg [(.int .i64 6),(.bool false),(.bool false),(.sl []),(.int .i64 0),(.str []),(.sl []),(.sl [(.agg [(.int .i64 1),(.bool false),(.bool false),(.sl []),(.int .i64 0),(.str []),(.sl []),(.sl [])])])])])]),.v (.sl [(.agg [(.int .i64 1),(.sl [(.str [97]),(.str [45])]),(.sl []),(.int .i64 2),(.bool false),(.bool false),(.sl []),(.int .i64 0),(.str []),(.sl []),(.sl [])])]),.v (.int .i64 100)] []).bind fun r1=>
(zp r1.1 0).bind fun x2=>
(zp r1.1 1).bind fun x3=>
(
  zp r1.1 2).bind fun x4=>
  tst (okN 8 x2) ((ze .eql x4 (.int .i64 0)).bind fun x5=>
(asBool x5).bind fun b6=>
((if b6=true then
(
  ze .eql x3 (.int .i64 (-1))).bind fun x7=>
  some x7
else some (.bool false):Option V)).bind fun x8=>
(asBool x8).bind fun b9=>
((if b9=true then
(zh x2 7).bind fun c10=>
(
  yR c10).bind fun n11=>
  some (.bool ((((n11:Nat):Int):Int) == 1))
else some (.bool false):Option V)).bind fun x12=>
(asBool x12).bind fun b13=>
((if b13=true then
(zh x2 7).bind fun c14=>
(xy 8 c14).bind fun l15=>
(xN (.int .i64 0) (l15.length)).bind fun i17=>
(l15[i17]?).bind fun e18=>
(zh e18 7).bind fun c19=>
(
  yR c19).bind fun n20=>
  some (.bool ((((n20:Nat):Int):Int) == 2))
else some (.bool false):Option V)).bind fun x21=>
(asBool x21).bind fun b22=>
((if b22=true then
(zh x2 7).bind fun c23=>
(xy 8 c23).bind fun l24=>
(xN (.int .i64 0) (l24.length)).bind fun i25=>
(l24[i25]?).bind fun e26=>
(zh e26 7).bind fun c27=>
(xy 8 c27).bind fun l28=>
(xN (.int .i64 1) (l28.length)).bind fun i29=>
(l28[i29]?).bind fun e30=>
(zh e30 0).bind fun c31=>
(
  ze .eql c31 (.int .i64 2)).bind fun x32=>
  some x32
else some (.bool false):Option V)).bind fun x33=>
 some (x33,[]))
theorem zbI:P0 xK [] []=VL:=
 (z5 (fn:=VP) _ _ (by kernel_rfl)).trans (by kernel_rfl)
noncomputable def vW(n8:Nat)(a1:V)(a2:V)(v9:Nat→V):Option ((Nat→V) ⊕ (Nat×(Nat→V))):=
(ze .lss (v9 0) (.int .i64 ((n8:Nat):Int))).bind fun x10=>
(
  asBool x10).bind fun b11=>
  if b11=true then
(xy 11 a1).bind fun l12=>
(xN (v9 0) (l12.length)).bind fun i13=>
(
  l12[i13]?).bind fun e14=>
  tst (okN 11 e14) ((P0 q9 [.v (v9 1),.v e14] []).bind fun r15=>
(zp r15.1 0).bind fun x16=>
(
  zp r15.1 1).bind fun x17=>
  tst (okN 8 x16) ((unV .not x17).bind fun x18=>
(
  asBool x18).bind fun b19=>
  if b19=true then
  some (.inr (1,(vec [(v9 0),(.int .i64 5),(v9 1),(.int .i64 0),(.bool false),(.bool false),(.sl []),(.int .i64 0),(.str []),(.sl []),(.sl [])])))
else
(P0 qV [.v x16,.v a2] []).bind fun r20=>
(unV .not r20.1).bind fun x21=>
(
  asBool x21).bind fun b22=>
  if b22=true then
  some (.inr (1,(vec [(v9 0),(.int .i64 4),(v9 1),(.int .i64 0),(.bool false),(.bool false),(.sl []),(.int .i64 0),(.str []),(.sl []),(.sl [])])))
else
 tst (okN 8 x16) ((ze .add (v9 0) (.int .i64 1)).bind fun x23=>
 some (.inl (vec [x23,x16,(v9 2),(v9 3),(v9 4),(v9 5),(v9 6),(v9 7),(v9 8),(v9 9)])))))
else
 some (.inr (0,(vec [(v9 1),(.agg [(v9 2),(v9 3),(v9 4),(v9 5),(v9 6),(v9 7),(v9 8),(v9 9)])])))
noncomputable def zao(a0:V)(a1:V)(a2:V):Option (V×List V):=
 tst (okN 8 a0) ((P0 y5 [.v a0] []).bind fun r1=>
(unV .not r1.1).bind fun x2=>
(asBool x2).bind fun b3=>
((if b3=false then
(P0 ql [.v a1] []).bind fun r4=>
(
  unV .not r4.1).bind fun x5=>
  some x5
else some (.bool true):Option V)).bind fun x6=>
(
  asBool x6).bind fun b7=>
  if b7=true then
  some ((.tup [(.agg [(.int .i64 0),(.bool false),(.bool false),(.sl []),(.int .i64 0),(.str []),(.sl []),(.sl [])]),(.int .i64 (-1)),(.int .i64 1)]),[])
else
(yR a1).bind fun n8=>
(
  yi (vW n8 a1 a2) (vec [(.int .i64 0),a0,(.int .i64 0),(.bool false),(.bool false),(.sl []),(.int .i64 0),(.str []),(.sl []),(.sl [])])).bind fun o24=>
  if o24.1=0 then
  tst (okN 8 (o24.2 0)) (some ((.tup [(o24.2 0),(.int .i64 (-1)),(.int .i64 0)]),[]))
else
 some ((.tup [(.agg [(o24.2 3),(o24.2 4),(o24.2 5),(o24.2 6),(o24.2 7),(o24.2 8),(o24.2 9),(o24.2 10)]),(o24.2 0),(o24.2 1)]),[]))
theorem zfn(a0:V)(a1:V)(a2:V):P0 xz [.v a0,.v a1,.v a2] []=zao a0 a1 a2:=
 (z5 (fn:=KN) _ _ (by kernel_rfl)).trans (by kernel_rfl)
noncomputable def vB(a0:V)(a1:V)(v32:Nat→V):Option ((Nat→V) ⊕ (Nat×(Nat→V))):=
(zh a0 7).bind fun c33=>
(yR c33).bind fun n34=>
(ze .lss (v32 0) (.int .i64 ((n34:Nat):Int))).bind fun x35=>
(
  asBool x35).bind fun b36=>
  if b36=true then
(zh a0 7).bind fun c37=>
(xy 8 c37).bind fun l38=>
(xN (v32 0) (l38.length)).bind fun i39=>
(l38[i39]?).bind fun e40=>
(zh a1 7).bind fun c41=>
(xy 8 c41).bind fun l42=>
(xN (v32 0) (l42.length)).bind fun i43=>
(l42[i43]?).bind fun e44=>
(P0 yB [.v e40,.v e44] []).bind fun r45=>
(unV .not r45.1).bind fun x46=>
(
  asBool x46).bind fun b47=>
  if b47=true then
  some (.inr (1,(vec [(.bool false)])))
else
(
  ze .add (v32 0) (.int .i64 1)).bind fun x48=>
  some (.inl (vec [x48]))
else
 some (.inr (0,(vec [])))
noncomputable def YR(a0:V)(a1:V):Option (V×List V):=
 tst (okN 8 a0) (tst (okN 8 a1) ((zh a0 0).bind fun c1=>
(zh a1 0).bind fun c2=>
(ze .neq c1 c2).bind fun x3=>
(asBool x3).bind fun b4=>
((if b4=false then
(zh a0 1).bind fun c5=>
(zh a1 1).bind fun c6=>
(asBool c5).bind fun b7=>
(
  asBool c6).bind fun b8=>
  some (.bool (!(b7 == b8)))
else some (.bool true):Option V)).bind fun x9=>
(asBool x9).bind fun b10=>
((if b10=false then
(P0 xU [.v (YK a0 2 3),.v (YK a1 2 3)] []).bind fun r11=>
(
  unV .not r11.1).bind fun x12=>
  some x12
else some (.bool true):Option V)).bind fun x13=>
(asBool x13).bind fun b14=>
((if b14=false then
(zh a0 5).bind fun c15=>
(zh a1 5).bind fun c16=>
(
  ze .neq c15 c16).bind fun x17=>
  some x17
else some (.bool true):Option V)).bind fun x18=>
(asBool x18).bind fun b19=>
((if b19=false then
(zh a0 6).bind fun c20=>
(zh a1 6).bind fun c21=>
(P0 yU [.v c20,.v c21] []).bind fun r22=>
(
  unV .not r22.1).bind fun x23=>
  some x23
else some (.bool true):Option V)).bind fun x24=>
(asBool x24).bind fun b25=>
((if b25=false then
(zh a0 7).bind fun c26=>
(yR c26).bind fun n27=>
(zh a1 7).bind fun c28=>
(
  yR c28).bind fun n29=>
  some (.bool ((((n27:Nat):Int):Int) != ((n29:Nat):Int)))
else some (.bool true):Option V)).bind fun x30=>
(
  asBool x30).bind fun b31=>
  if b31=true then
  some ((.bool false),[])
else
(
  yi (vB a0 a1) (vec [(.int .i64 0)])).bind fun o49=>
  if o49.1=0 then
  some ((.bool true),[])
else
 some ((o49.2 0),[])))
theorem Je(a0:V)(a1:V):P0 yB [.v a0,.v a1] []=YR a0 a1:=
 (z5 (fn:=Y6) _ _ (by kernel_rfl)).trans (by kernel_rfl)
noncomputable def qC(a0:V)(v14:Nat→V):Option ((Nat→V) ⊕ (Nat×(Nat→V))):=
(zh a0 7).bind fun c15=>
(yR c15).bind fun n16=>
(ze .lss (v14 1) (.int .i64 ((n16:Nat):Int))).bind fun x17=>
(
  asBool x17).bind fun b18=>
  if b18=true then
(zh a0 7).bind fun c19=>
(xy 8 c19).bind fun l20=>
(xN (v14 1) (l20.length)).bind fun i21=>
(l20[i21]?).bind fun e22=>
(P0 y4 [.v e22] []).bind fun r23=>
(ze .add (v14 0) r23.1).bind fun x24=>
(
  ze .add (v14 1) (.int .i64 1)).bind fun x25=>
  some (.inl (vec [x24,x25]))
else
 some (.inr (0,(vec [(v14 0)])))
noncomputable def WV(a0:V):Option (V×List V):=
 tst (okN 8 a0) ((((zh a0 0).bind fun c1=>
(ze .eql c1 (.int .i64 3)).bind fun x2=>
(
  asBool x2).bind fun b3=>
  if b3=true then
(zh a0 3).bind fun c4=>
(
  yR c4).bind fun n5=>
  some (0,(vec [(.int .i64 (IntKind.wrap .i64 (1+((n5:Nat):Int))))]))
else
(((ze .eql c1 (.int .i64 4)).bind fun x6=>
(
  asBool x6).bind fun b7=>
  if b7=true then
  some (0,(vec [x6]))
else
(
  ze .eql c1 (.int .i64 5)).bind fun x8=>
  some (0,(vec [x8])):Option (Nat×(Nat→V)))).bind fun o9=>
(
  asBool (o9.2 0)).bind fun b10=>
  if b10=true then
(zh a0 5).bind fun c11=>
(
  Ke c11).bind fun n12=>
  some (0,(vec [(.int .i64 (IntKind.wrap .i64 (1+((n12:Nat):Int))))]))
else
 some (0,(vec [(.int .i64 1)])):Option (Nat×(Nat→V)))).bind fun o13=>
(
  yi (qC a0) (vec [(o13.2 0),(.int .i64 0)])).bind fun o26=>
  some ((o26.2 0),[]))
theorem zaA(a0:V):P0 y4 [.v a0] []=WV a0:=
 (z5 (fn:=W0) _ _ (by kernel_rfl)).trans (by kernel_rfl)
noncomputable def WS(a0:V)(a1:V)(a2:V):Option (V×List V):=
(Jy true a2).bind fun x1=>
(
  asBool x1).bind fun b2=>
  if b2=true then
(zqP 52 true a2).bind fun x3=>
(zp x3 0).bind fun x4=>
(
  zp x3 1).bind fun x5=>
  tst (okN 0 x4) ((unV .not x5).bind fun x6=>
(
  asBool x6).bind fun b7=>
  if b7=true then
(Jy true a2).bind fun x8=>
(
  asBool x8).bind fun b9=>
  if b9=true then
  none
else
 none
else
 some ((.tup []),[(.agg [(.int .i64 0),(.bool false),(.bool false),(.sl []),(.int .i64 0),(.str []),(.sl []),(.sl [])]),(.bool false)]))
else
 some ((.tup []),[a0,a1])
theorem JN(a0:V)(a1:V)(a2:V):P0 vu [.p 0 0,.p 1 0,.v a2] [(false,8,a0),(false,1,a1)]=WS a0 a1 a2:=
 (z5 (fn:=zav) _ _ (by kernel_rfl)).trans (by kernel_rfl)
noncomputable def zbs(a0:V)(a1:V):Option (V×List V):=
 tst (okN 8 a0) (tst (okN 11 a1) ((zh a1 0).bind fun c1=>
(ze .eql c1 (.int .i64 1)).bind fun x2=>
(
  asBool x2).bind fun b3=>
  if b3=true then
(zh a1 1).bind fun c4=>
(P0 je [.v a0,.v c4,.v (YK a1 3 8)] []).bind fun r5=>
(zp r5.1 0).bind fun x6=>
(
  asBool x6).bind fun b7=>
  if b7=true then
(
  zp r5.1 1).bind fun x8=>
  tst (okN 8 x8) (some ((.tup [(.bool true),x8]),[]))
else
(
  zp r5.1 1).bind fun x9=>
  some ((.tup [(.bool false),x9]),[])
else
(ze .eql c1 (.int .i64 2)).bind fun x10=>
(
  asBool x10).bind fun b11=>
  if b11=true then
(zh a1 1).bind fun c12=>
(P0 kZ [.v a0,.v c12] []).bind fun r13=>
(zp r13.1 0).bind fun x14=>
(
  asBool x14).bind fun b15=>
  if b15=true then
(
  zp r13.1 1).bind fun x16=>
  tst (okN 8 x16) (some ((.tup [(.bool true),x16]),[]))
else
(
  zp r13.1 1).bind fun x17=>
  some ((.tup [(.bool false),x17]),[])
else
(ze .eql c1 (.int .i64 3)).bind fun x18=>
(
  asBool x18).bind fun b19=>
  if b19=true then
(zh a1 1).bind fun c20=>
(P0 vr [.v a0,.v c20,.v (YK a1 3 8)] []).bind fun r21=>
(zp r21.1 0).bind fun x22=>
(
  asBool x22).bind fun b23=>
  if b23=true then
(
  zp r21.1 1).bind fun x24=>
  tst (okN 8 x24) (some ((.tup [(.bool true),x24]),[]))
else
(
  zp r21.1 1).bind fun x25=>
  some ((.tup [(.bool false),x25]),[])
else
(ze .eql c1 (.int .i64 4)).bind fun x26=>
(
  asBool x26).bind fun b27=>
  if b27=true then
(zh a1 2).bind fun c28=>
(zh a1 1).bind fun c29=>
(P0 QF [.v a0,.v c28,.v c29] []).bind fun r30=>
(zp r30.1 0).bind fun x31=>
(
  asBool x31).bind fun b32=>
  if b32=true then
(
  zp r30.1 1).bind fun x33=>
  tst (okN 8 x33) (some ((.tup [(.bool true),x33]),[]))
else
(
  zp r30.1 1).bind fun x34=>
  some ((.tup [(.bool false),x34]),[])
else
(ze .eql c1 (.int .i64 5)).bind fun x35=>
(
  asBool x35).bind fun b36=>
  if b36=true then
(zh a1 1).bind fun c37=>
(zh a1 2).bind fun c38=>
(P0 xP [.v a0,.v c38] []).bind fun r39=>
(zp r39.1 0).bind fun x40=>
(
  asBool x40).bind fun b41=>
  if b41=true then
(zp r39.1 1).bind fun x42=>
(P0 je [.v a0,.v c37,.v x42] []).bind fun r43=>
(zp r43.1 0).bind fun x44=>
(
  asBool x44).bind fun b45=>
  if b45=true then
(
  zp r43.1 1).bind fun x46=>
  tst (okN 8 x46) (some ((.tup [(.bool true),x46]),[]))
else
(
  zp r43.1 1).bind fun x47=>
  some ((.tup [(.bool false),x47]),[])
else
(
  zp r39.1 1).bind fun x48=>
  some ((.tup [(.bool false),x48]),[])
else
(zh a1 0).bind fun c49=>
(ze .eql c49 (.int .i64 6)).bind fun x50=>
(
  asBool x50).bind fun b51=>
  if b51=true then
(
  asBool x50).bind fun b52=>
  if b52=true then
(
  asBool x50).bind fun b53=>
  if b53=true then
(zh a1 1).bind fun c54=>
(
  asBool x50).bind fun b55=>
  if b55=true then
(
  asBool x50).bind fun b56=>
  if b56=true then
(
  asBool x50).bind fun b57=>
  if b57=true then
(P0 xP [.v a0,.v c54] []).bind fun r58=>
(zp r58.1 0).bind fun x59=>
(
  asBool x59).bind fun b60=>
  if b60=true then
(zp r58.1 1).bind fun x61=>
(asBool x50).bind fun b62=>
((if b62=true then
(
  P0 wk [.v x61,.v (YK a1 3 8)] []).bind fun r63=>
  some r63.1
else some (.bool false):Option V)).bind fun x64=>
(P0 zt [.v x64] []).bind fun r65=>
(zp r65.1 0).bind fun x66=>
(
  asBool x66).bind fun b67=>
  if b67=true then
(
  zp r65.1 1).bind fun x68=>
  tst (okN 8 a0) (some ((.tup [(.bool true),a0]),[]))
else
(
  zp r65.1 1).bind fun x69=>
  some ((.tup [(.bool false),x69]),[])
else
(
  zp r58.1 1).bind fun x70=>
  some ((.tup [(.bool false),x70]),[])
else
(asBool x50).bind fun b71=>
((if b71=true then
(P0 wo [.v a0,.v c54] []).bind fun r72=>
(
  P0 wk [.v r72.1,.v (YK a1 3 8)] []).bind fun r73=>
  some r73.1
else some (.bool false):Option V)).bind fun x74=>
(P0 zt [.v x74] []).bind fun r75=>
(zp r75.1 0).bind fun x76=>
(
  asBool x76).bind fun b77=>
  if b77=true then
(
  zp r75.1 1).bind fun x78=>
  tst (okN 8 a0) (some ((.tup [(.bool true),a0]),[]))
else
(
  zp r75.1 1).bind fun x79=>
  some ((.tup [(.bool false),x79]),[])
else
(
  asBool x50).bind fun b80=>
  if b80=true then
(P0 xP [.v a0,.v c54] []).bind fun r81=>
(zp r81.1 0).bind fun x82=>
(
  asBool x82).bind fun b83=>
  if b83=true then
(zp r81.1 1).bind fun x84=>
(asBool x50).bind fun b85=>
(
  (if b85=true then
  none
else some (.bool false):Option V)).bind fun x86=>
(P0 zt [.v x86] []).bind fun r87=>
(zp r87.1 0).bind fun x88=>
(
  asBool x88).bind fun b89=>
  if b89=true then
(
  zp r87.1 1).bind fun x90=>
  tst (okN 8 a0) (some ((.tup [(.bool true),a0]),[]))
else
(
  zp r87.1 1).bind fun x91=>
  some ((.tup [(.bool false),x91]),[])
else
(
  zp r81.1 1).bind fun x92=>
  some ((.tup [(.bool false),x92]),[])
else
(asBool x50).bind fun b93=>
((if b93=true then
(
  P0 wo [.v a0,.v c54] []).bind fun r94=>
  none
else some (.bool false):Option V)).bind fun x95=>
(P0 zt [.v x95] []).bind fun r96=>
(zp r96.1 0).bind fun x97=>
(
  asBool x97).bind fun b98=>
  if b98=true then
(
  zp r96.1 1).bind fun x99=>
  tst (okN 8 a0) (some ((.tup [(.bool true),a0]),[]))
else
(
  zp r96.1 1).bind fun x100=>
  some ((.tup [(.bool false),x100]),[])
else
(
  asBool x50).bind fun b101=>
  if b101=true then
  none
else
(
  asBool x50).bind fun b102=>
  if b102=true then
(P0 xP [.v a0,.v c54] []).bind fun r103=>
(zp r103.1 0).bind fun x104=>
(
  asBool x104).bind fun b105=>
  if b105=true then
(zp r103.1 1).bind fun x106=>
(asBool x50).bind fun b107=>
(
  (if b107=true then
  none
else some (.bool false):Option V)).bind fun x108=>
(P0 zt [.v x108] []).bind fun r109=>
(zp r109.1 0).bind fun x110=>
(
  asBool x110).bind fun b111=>
  if b111=true then
(
  zp r109.1 1).bind fun x112=>
  tst (okN 8 a0) (some ((.tup [(.bool true),a0]),[]))
else
(
  zp r109.1 1).bind fun x113=>
  some ((.tup [(.bool false),x113]),[])
else
(
  zp r103.1 1).bind fun x114=>
  some ((.tup [(.bool false),x114]),[])
else
(asBool x50).bind fun b115=>
((if b115=true then
(
  P0 wo [.v a0,.v c54] []).bind fun r116=>
  none
else some (.bool false):Option V)).bind fun x117=>
(P0 zt [.v x117] []).bind fun r118=>
(zp r118.1 0).bind fun x119=>
(
  asBool x119).bind fun b120=>
  if b120=true then
(
  zp r118.1 1).bind fun x121=>
  tst (okN 8 a0) (some ((.tup [(.bool true),a0]),[]))
else
(
  zp r118.1 1).bind fun x122=>
  some ((.tup [(.bool false),x122]),[])
else
(
  asBool x50).bind fun b123=>
  if b123=true then
(
  asBool x50).bind fun b124=>
  if b124=true then
(
  asBool x50).bind fun b125=>
  if b125=true then
  none
else
(asBool x50).bind fun b126=>
(
  (if b126=true then
  none
else some (.bool false):Option V)).bind fun x127=>
(P0 zt [.v x127] []).bind fun r128=>
(zp r128.1 0).bind fun x129=>
(
  asBool x129).bind fun b130=>
  if b130=true then
(
  zp r128.1 1).bind fun x131=>
  tst (okN 8 a0) (some ((.tup [(.bool true),a0]),[]))
else
(
  zp r128.1 1).bind fun x132=>
  some ((.tup [(.bool false),x132]),[])
else
(
  asBool x50).bind fun b133=>
  if b133=true then
  none
else
(asBool x50).bind fun b134=>
(
  (if b134=true then
  none
else some (.bool false):Option V)).bind fun x135=>
(P0 zt [.v x135] []).bind fun r136=>
(zp r136.1 0).bind fun x137=>
(
  asBool x137).bind fun b138=>
  if b138=true then
(
  zp r136.1 1).bind fun x139=>
  tst (okN 8 a0) (some ((.tup [(.bool true),a0]),[]))
else
(
  zp r136.1 1).bind fun x140=>
  some ((.tup [(.bool false),x140]),[])
else
(
  asBool x50).bind fun b141=>
  if b141=true then
  none
else
(
  asBool x50).bind fun b142=>
  if b142=true then
  none
else
(asBool x50).bind fun b143=>
(
  (if b143=true then
  none
else some (.bool false):Option V)).bind fun x144=>
(P0 zt [.v x144] []).bind fun r145=>
(zp r145.1 0).bind fun x146=>
(
  asBool x146).bind fun b147=>
  if b147=true then
(
  zp r145.1 1).bind fun x148=>
  tst (okN 8 a0) (some ((.tup [(.bool true),a0]),[]))
else
(
  zp r145.1 1).bind fun x149=>
  some ((.tup [(.bool false),x149]),[])
else
(
  asBool x50).bind fun b150=>
  if b150=true then
  none
else
(
  asBool x50).bind fun b151=>
  if b151=true then
(
  asBool x50).bind fun b152=>
  if b152=true then
(
  asBool x50).bind fun b153=>
  if b153=true then
  none
else
(asBool x50).bind fun b154=>
(
  (if b154=true then
  none
else some (.bool false):Option V)).bind fun x155=>
(P0 zt [.v x155] []).bind fun r156=>
(zp r156.1 0).bind fun x157=>
(
  asBool x157).bind fun b158=>
  if b158=true then
(
  zp r156.1 1).bind fun x159=>
  tst (okN 8 a0) (some ((.tup [(.bool true),a0]),[]))
else
(
  zp r156.1 1).bind fun x160=>
  some ((.tup [(.bool false),x160]),[])
else
(
  asBool x50).bind fun b161=>
  if b161=true then
  none
else
(asBool x50).bind fun b162=>
(
  (if b162=true then
  none
else some (.bool false):Option V)).bind fun x163=>
(P0 zt [.v x163] []).bind fun r164=>
(zp r164.1 0).bind fun x165=>
(
  asBool x165).bind fun b166=>
  if b166=true then
(
  zp r164.1 1).bind fun x167=>
  tst (okN 8 a0) (some ((.tup [(.bool true),a0]),[]))
else
(
  zp r164.1 1).bind fun x168=>
  some ((.tup [(.bool false),x168]),[])
else
(
  asBool x50).bind fun b169=>
  if b169=true then
  none
else
(
  asBool x50).bind fun b170=>
  if b170=true then
  none
else
(asBool x50).bind fun b171=>
(
  (if b171=true then
  none
else some (.bool false):Option V)).bind fun x172=>
(P0 zt [.v x172] []).bind fun r173=>
(zp r173.1 0).bind fun x174=>
(
  asBool x174).bind fun b175=>
  if b175=true then
(
  zp r173.1 1).bind fun x176=>
  tst (okN 8 a0) (some ((.tup [(.bool true),a0]),[]))
else
(
  zp r173.1 1).bind fun x177=>
  some ((.tup [(.bool false),x177]),[])
else
(
  asBool x50).bind fun b178=>
  if b178=true then
(
  asBool x50).bind fun b179=>
  if b179=true then
(zh a1 1).bind fun c180=>
(
  asBool x50).bind fun b181=>
  if b181=true then
(
  asBool x50).bind fun b182=>
  if b182=true then
(
  asBool x50).bind fun b183=>
  if b183=true then
  none
else
(asBool x50).bind fun b184=>
(
  (if b184=true then
  none
else some (.bool false):Option V)).bind fun x185=>
(P0 zt [.v x185] []).bind fun r186=>
(zp r186.1 0).bind fun x187=>
(
  asBool x187).bind fun b188=>
  if b188=true then
(
  zp r186.1 1).bind fun x189=>
  tst (okN 8 a0) (some ((.tup [(.bool true),a0]),[]))
else
(
  zp r186.1 1).bind fun x190=>
  some ((.tup [(.bool false),x190]),[])
else
(
  asBool x50).bind fun b191=>
  if b191=true then
  none
else
(asBool x50).bind fun b192=>
(
  (if b192=true then
  none
else some (.bool false):Option V)).bind fun x193=>
(P0 zt [.v x193] []).bind fun r194=>
(zp r194.1 0).bind fun x195=>
(
  asBool x195).bind fun b196=>
  if b196=true then
(
  zp r194.1 1).bind fun x197=>
  tst (okN 8 a0) (some ((.tup [(.bool true),a0]),[]))
else
(
  zp r194.1 1).bind fun x198=>
  some ((.tup [(.bool false),x198]),[])
else
(
  asBool x50).bind fun b199=>
  if b199=true then
  none
else
(
  asBool x50).bind fun b200=>
  if b200=true then
  none
else
(asBool x50).bind fun b201=>
(
  (if b201=true then
  none
else some (.bool false):Option V)).bind fun x202=>
(P0 zt [.v x202] []).bind fun r203=>
(zp r203.1 0).bind fun x204=>
(
  asBool x204).bind fun b205=>
  if b205=true then
(
  zp r203.1 1).bind fun x206=>
  tst (okN 8 a0) (some ((.tup [(.bool true),a0]),[]))
else
(
  zp r203.1 1).bind fun x207=>
  some ((.tup [(.bool false),x207]),[])
else
(
  asBool x50).bind fun b208=>
  if b208=true then
(
  asBool x50).bind fun b209=>
  if b209=true then
(
  asBool x50).bind fun b210=>
  if b210=true then
  none
else
(asBool x50).bind fun b211=>
(
  (if b211=true then
  none
else some (.bool false):Option V)).bind fun x212=>
(P0 zt [.v x212] []).bind fun r213=>
(zp r213.1 0).bind fun x214=>
(
  asBool x214).bind fun b215=>
  if b215=true then
(
  zp r213.1 1).bind fun x216=>
  tst (okN 8 a0) (some ((.tup [(.bool true),a0]),[]))
else
(
  zp r213.1 1).bind fun x217=>
  some ((.tup [(.bool false),x217]),[])
else
(
  asBool x50).bind fun b218=>
  if b218=true then
  none
else
(asBool x50).bind fun b219=>
(
  (if b219=true then
  none
else some (.bool false):Option V)).bind fun x220=>
(P0 zt [.v x220] []).bind fun r221=>
(zp r221.1 0).bind fun x222=>
(
  asBool x222).bind fun b223=>
  if b223=true then
(
  zp r221.1 1).bind fun x224=>
  tst (okN 8 a0) (some ((.tup [(.bool true),a0]),[]))
else
(
  zp r221.1 1).bind fun x225=>
  some ((.tup [(.bool false),x225]),[])
else
(
  asBool x50).bind fun b226=>
  if b226=true then
  none
else
(
  asBool x50).bind fun b227=>
  if b227=true then
  none
else
(asBool x50).bind fun b228=>
(
  (if b228=true then
  none
else some (.bool false):Option V)).bind fun x229=>
(P0 zt [.v x229] []).bind fun r230=>
(zp r230.1 0).bind fun x231=>
(
  asBool x231).bind fun b232=>
  if b232=true then
(
  zp r230.1 1).bind fun x233=>
  tst (okN 8 a0) (some ((.tup [(.bool true),a0]),[]))
else
(
  zp r230.1 1).bind fun x234=>
  some ((.tup [(.bool false),x234]),[])
else
(
  asBool x50).bind fun b235=>
  if b235=true then
  none
else
(
  asBool x50).bind fun b236=>
  if b236=true then
(
  asBool x50).bind fun b237=>
  if b237=true then
(
  asBool x50).bind fun b238=>
  if b238=true then
  none
else
(asBool x50).bind fun b239=>
(
  (if b239=true then
  none
else some (.bool false):Option V)).bind fun x240=>
(P0 zt [.v x240] []).bind fun r241=>
(zp r241.1 0).bind fun x242=>
(
  asBool x242).bind fun b243=>
  if b243=true then
(
  zp r241.1 1).bind fun x244=>
  tst (okN 8 a0) (some ((.tup [(.bool true),a0]),[]))
else
(
  zp r241.1 1).bind fun x245=>
  some ((.tup [(.bool false),x245]),[])
else
(
  asBool x50).bind fun b246=>
  if b246=true then
  none
else
(asBool x50).bind fun b247=>
(
  (if b247=true then
  none
else some (.bool false):Option V)).bind fun x248=>
(P0 zt [.v x248] []).bind fun r249=>
(zp r249.1 0).bind fun x250=>
(
  asBool x250).bind fun b251=>
  if b251=true then
(
  zp r249.1 1).bind fun x252=>
  tst (okN 8 a0) (some ((.tup [(.bool true),a0]),[]))
else
(
  zp r249.1 1).bind fun x253=>
  some ((.tup [(.bool false),x253]),[])
else
(
  asBool x50).bind fun b254=>
  if b254=true then
  none
else
(
  asBool x50).bind fun b255=>
  if b255=true then
  none
else
(asBool x50).bind fun b256=>
(
  (if b256=true then
  none
else some (.bool false):Option V)).bind fun x257=>
(P0 zt [.v x257] []).bind fun r258=>
(zp r258.1 0).bind fun x259=>
(
  asBool x259).bind fun b260=>
  if b260=true then
(
  zp r258.1 1).bind fun x261=>
  tst (okN 8 a0) (some ((.tup [(.bool true),a0]),[]))
else
(
  zp r258.1 1).bind fun x262=>
  some ((.tup [(.bool false),x262]),[])))
theorem zgZ(a0:V)(a1:V):P0 q6 [.v a0,.v a1] []=zbs a0 a1:=
 (z5 (fn:=za7) _ _ (by kernel_rfl)).trans (by kernel_rfl)
noncomputable def QP(a0:V):Option (V×List V):=
 tst (okN 8 a0) ((P0 xw [.v a0,.v (.int .i64 1),.p 0 0] [(false,1,(.int .i64 2000))]).bind fun r1=>
(
  r1.2[0]?).bind fun y2=>
  some (r1.1,[]))
theorem zdC(a0:V):P0 y5 [.v a0] []=QP a0:=
 (z5 (fn:=QN) _ _ (by kernel_rfl)).trans (by kernel_rfl)
noncomputable def K2(a0:V):Option (V×List V):=
(yR a0).bind fun n1=>
((if(decide ((((n1:Nat):Int):Int)≤60))=true then
(P0 zu [.v a0,.fn xo []] []).bind fun r2=>
(
  unV .not r2.1).bind fun x3=>
  some x3
else some (.bool false):Option V)).bind fun x4=>
 some (x4,[])
theorem zf7(a0:V):P0 ql [.v a0] []=K2 a0:=
 (z5 (fn:=zai) _ _ (by kernel_rfl)).trans (by kernel_rfl)
noncomputable def zcv(a0:V)(a1:V):Option (V×List V):=
 tst (okN 8 a0) ((P0 xk [.v a0] []).bind fun r1=>
(ze .leq r1.1 a1).bind fun x2=>
(asBool x2).bind fun b3=>
((if b3=true then
(P0 xJ [.v a0] []).bind fun r4=>
(
  ze .leq r4.1 (.int .i64 2000)).bind fun x5=>
  some x5
else some (.bool false):Option V)).bind fun x6=>
(asBool x6).bind fun b7=>
((if b7=true then
(P0 xG [.v a0] []).bind fun r8=>
(
  ze .leq r8.1 (.int .i64 64)).bind fun x9=>
  some x9
else some (.bool false):Option V)).bind fun x10=>
(asBool x10).bind fun b11=>
((if b11=true then
(
  P0 qp [.v a0] []).bind fun r12=>
  some r12.1
else some (.bool false):Option V)).bind fun x13=>
 some (x13,[]))
theorem zgC(a0:V)(a1:V):P0 qV [.v a0,.v a1] []=zcv a0 a1:=
 (z5 (fn:=zcY) _ _ (by kernel_rfl)).trans (by kernel_rfl)
noncomputable def X4(a0:V)(a1:V):Option (V×List V):=
 tst (okN 3 a0) (tst (okN 3 a1) ((zh a0 0).bind fun c1=>
(zh a1 0).bind fun c2=>
(asBool c1).bind fun b3=>
(asBool c2).bind fun b4=>
((if(b3 == b4)=true then
(zh a0 2).bind fun c5=>
(zh a1 2).bind fun c6=>
(
  ze .eql c5 c6).bind fun x7=>
  some x7
else some (.bool false):Option V)).bind fun x8=>
(asBool x8).bind fun b9=>
((if b9=true then
(zh a0 1).bind fun c10=>
(zh a1 1).bind fun c11=>
(
  P0 xp [.v c10,.v c11] []).bind fun r12=>
  some r12.1
else some (.bool false):Option V)).bind fun x13=>
 some (x13,[])))
theorem Kr(a0:V)(a1:V):P0 xU [.v a0,.v a1] []=X4 a0 a1:=
 (z5 (fn:=X6) _ _ (by kernel_rfl)).trans (by kernel_rfl)
noncomputable def wH(a0:V)(a1:V)(v3:Nat→V):Option ((Nat→V) ⊕ (Nat×(Nat→V))):=
(yR a0).bind fun n4=>
(ze .lss (v3 0) (.int .i64 ((n4:Nat):Int))).bind fun x5=>
(
  asBool x5).bind fun b6=>
  if b6=true then
(xy 1 a0).bind fun l7=>
(xN (v3 0) (l7.length)).bind fun i9=>
(l7[i9]?).bind fun e10=>
(zh e10 0).bind fun c11=>
(xy 1 a1).bind fun l12=>
(xN (v3 0) (l12.length)).bind fun i13=>
(l12[i13]?).bind fun e14=>
(zh e14 0).bind fun c15=>
(ze .neq c11 c15).bind fun x16=>
(
  asBool x16).bind fun b17=>
  if b17=true then
  some (.inr (1,(vec [(.bool false)])))
else
(
  ze .add (v3 0) (.int .i64 1)).bind fun x18=>
  some (.inl (vec [x18]))
else
 some (.inr (0,(vec [])))
noncomputable def kJ(a0:V)(a1:V):Option (V×List V):=
(yR a0).bind fun n1=>
(
  yR a1).bind fun n2=>
  if((((n1:Nat):Int):Int) != ((n2:Nat):Int))=true then
  some ((.bool false),[])
else
(
  yi (wH a0 a1) (vec [(.int .i64 0)])).bind fun o19=>
  if o19.1=0 then
  some ((.bool true),[])
else
 some ((o19.2 0),[])
theorem WD(a0:V)(a1:V):P0 yU [.v a0,.v a1] []=kJ a0 a1:=
 (z5 (fn:=kM) _ _ (by kernel_rfl)).trans (by kernel_rfl)
noncomputable def zej(a0:V)(a1:V)(a2:V):Option (V×List V):=
 tst (okN 8 a0) (tst (okN 8 a2) ((yR a1).bind fun n1=>
 if((((n1:Nat):Int):Int) == 0)=true then
 tst (okN 8 a2) (some ((.tup [(.bool true),a2]),[]))
else
(P0 wm [.v a1] []).bind fun r2=>
(zp r2.1 0).bind fun x3=>
(zp r2.1 1).bind fun x4=>
(P0 xP [.v a0,.v x3] []).bind fun r5=>
(zp r5.1 0).bind fun x6=>
(
  asBool x6).bind fun b7=>
  if b7=true then
(
  zp r5.1 1).bind fun x8=>
  tst (okN 8 x8) ((zh x8 0).bind fun c9=>
(ze .eql c9 (.int .i64 7)).bind fun x10=>
(
  asBool x10).bind fun b11=>
  if b11=true then
(P0 ve [.v x8,.v x4,.v a2] []).bind fun r12=>
(P0 vr [.v a0,.v x3,.v r12.1] []).bind fun r13=>
(zp r13.1 0).bind fun x14=>
(
  asBool x14).bind fun b15=>
  if b15=true then
(
  zp r13.1 1).bind fun x16=>
  tst (okN 8 x16) (some ((.tup [(.bool true),x16]),[]))
else
(
  zp r13.1 1).bind fun x17=>
  some ((.tup [(.bool false),x17]),[])
else
(ze .eql c9 (.int .i64 6)).bind fun x18=>
(
  asBool x18).bind fun b19=>
  if b19=true then
(zh x8 7).bind fun c20=>
(yR c20).bind fun n21=>
(P0 yp [.v x4,.v (.int .i64 ((n21:Nat):Int))] []).bind fun r22=>
(zp r22.1 0).bind fun x23=>
(zp r22.1 1).bind fun x24=>
(((ze .eql x4 (.str [45])).bind fun x25=>
(
  asBool x25).bind fun b26=>
  if b26=true then
(zh x8 7).bind fun c27=>
(
  yR c27).bind fun n28=>
  some (0,(vec [(.int .i64 ((n28:Nat):Int)),(.bool true)]))
else
 some (0,(vec [x23,x24])):Option (Nat×(Nat→V)))).bind fun o29=>
(P0 zt [.v (o29.2 1)] []).bind fun r30=>
(zp r30.1 0).bind fun x31=>
(
  asBool x31).bind fun b32=>
  if b32=true then
(zp r30.1 1).bind fun x33=>
(zh x8 7).bind fun c34=>
(xy 8 c34).bind fun l35=>
(
  zay none (some (o29.2 0)) (l35.length)).bind fun q36=>
  tst (okN 8 a2) ((zh x8 7).bind fun c37=>
(xy 8 c37).bind fun l38=>
(zay (some (o29.2 0)) none (l38.length)).bind fun q39=>
(
  P0 yq [.v (.sl [(.sl ((l35.drop q36.1).take (q36.2 - q36.1))),(.sl [a2]),(.sl ((l38.drop q39.1).take (q39.2 - q39.1)))])] []).bind fun r40=>
  tst (okN 1 r40.1) ((zh r40.1 0).bind fun c41=>
(P0 vr [.v a0,.v x3,.v (.agg [(.int .i64 6),(.bool false),(.bool false),(.sl []),(.int .i64 0),(.str []),(.sl []),c41])] []).bind fun r42=>
(zp r42.1 0).bind fun x43=>
(
  asBool x43).bind fun b44=>
  if b44=true then
(
  zp r42.1 1).bind fun x45=>
  tst (okN 8 x45) (some ((.tup [(.bool true),x45]),[]))
else
(
  zp r42.1 1).bind fun x46=>
  some ((.tup [(.bool false),x46]),[])))
else
(
  zp r30.1 1).bind fun x47=>
  some ((.tup [(.bool false),x47]),[])
else
(Jy true (.iface 52 (.agg []))).bind fun x48=>
(
  asBool x48).bind fun b49=>
  if b49=true then
  some ((.tup [(.bool false),(.iface 52 (.agg []))]),[])
else
 none)
else
(
  zp r5.1 1).bind fun x50=>
  some ((.tup [(.bool false),x50]),[])))
theorem ziy(a0:V)(a1:V)(a2:V):P0 je [.v a0,.v a1,.v a2] []=zej a0 a1 a2:=
 (z5 (fn:=zd5) _ _ (by kernel_rfl)).trans (by kernel_rfl)
noncomputable def zdQ(a0:V)(a1:V)(a2:V):Option (V×List V):=
 tst (okN 8 a0) (tst (okN 8 a2) ((P0 xn [.v a0,.v a1,.v a2] []).bind fun r1=>
(zp r1.1 0).bind fun x2=>
(
  zp r1.1 1).bind fun x3=>
  tst (okN 8 x2) ((P0 zt [.v x3] []).bind fun r4=>
(zp r4.1 0).bind fun x5=>
(
  asBool x5).bind fun b6=>
  if b6=true then
(
  zp r4.1 1).bind fun x7=>
  tst (okN 8 x2) (some ((.tup [(.bool true),x2]),[]))
else
(
  zp r4.1 1).bind fun x8=>
  some ((.tup [(.bool false),x8]),[]))))
theorem zju(a0:V)(a1:V)(a2:V):P0 vr [.v a0,.v a1,.v a2] []=zdQ a0 a1 a2:=
 (z5 (fn:=zdU) _ _ (by kernel_rfl)).trans (by kernel_rfl)
noncomputable def zer(a0:V)(a1:V):Option (V×List V):=
 tst (okN 8 a0) ((P0 wj [.v a0,.v a1] []).bind fun r1=>
(zp r1.1 0).bind fun x2=>
(
  zp r1.1 1).bind fun x3=>
  tst (okN 8 x2) ((P0 zt [.v x3] []).bind fun r4=>
(zp r4.1 0).bind fun x5=>
(
  asBool x5).bind fun b6=>
  if b6=true then
(
  zp r4.1 1).bind fun x7=>
  tst (okN 8 x2) (some ((.tup [(.bool true),x2]),[]))
else
(
  zp r4.1 1).bind fun x8=>
  some ((.tup [(.bool false),x8]),[])))
theorem ziq(a0:V)(a1:V):P0 xP [.v a0,.v a1] []=zer a0 a1:=
 (z5 (fn:=zen) _ _ (by kernel_rfl)).trans (by kernel_rfl)
noncomputable def zbS(a0:V):Option (V×List V):=
(unV .not a0).bind fun x1=>
(
  asBool x1).bind fun b2=>
  if b2=true then
(Jy true (.iface 52 (.agg []))).bind fun x3=>
(
  asBool x3).bind fun b4=>
  if b4=true then
  some ((.tup [(.bool false),(.iface 52 (.agg []))]),[])
else
 none
else
 some ((.tup [(.bool true),(.tup [])]),[])
theorem zhX(a0:V):P0 zt [.v a0] []=zbS a0:=
 (z5 (fn:=zcx) _ _ (by kernel_rfl)).trans (by kernel_rfl)
noncomputable def vm(n13:Nat)(c12:V)(a1:V)(v14:Nat→V):Option ((Nat→V) ⊕ (Nat×(Nat→V))):=
(ze .lss (v14 0) (.int .i64 ((n13:Nat):Int))).bind fun x15=>
(
  asBool x15).bind fun b16=>
  if b16=true then
(xy 8 c12).bind fun l17=>
(xN (v14 0) (l17.length)).bind fun i18=>
(
  l17[i18]?).bind fun e19=>
  tst (okN 8 e19) ((ze .add a1 (.int .i64 1)).bind fun x20=>
(P0 xw [.v e19,.v x20,.p 0 0] [(false,1,(v14 1))]).bind fun r21=>
(r21.2[0]?).bind fun y22=>
(unV .not r21.1).bind fun x23=>
(
  asBool x23).bind fun b24=>
  if b24=true then
  some (.inr (1,(vec [(.bool false),y22])))
else
(
  ze .add (v14 0) (.int .i64 1)).bind fun x25=>
  some (.inl (vec [x25,y22])))
else
 some (.inr (0,(vec [(v14 1)])))
noncomputable def QS(a0:V)(a1:V)(a2:V):Option (V×List V):=
 tst (okN 8 a0) ((ze .sub a2 (.int .i64 1)).bind fun x1=>
 tst (okN 1 x1) ((zh x1 0).bind fun c2=>
(ze .lss c2 (.int .i64 0)).bind fun x3=>
(asBool x3).bind fun b4=>
((if b4=false then
(
  ze .gtr a1 (.int .i64 64)).bind fun x5=>
  some x5
else some (.bool true):Option V)).bind fun x6=>
(asBool x6).bind fun b7=>
((if b7=false then
(P0 qh [.v a0] []).bind fun r8=>
(
  unV .not r8.1).bind fun x9=>
  some x9
else some (.bool true):Option V)).bind fun x10=>
(
  asBool x10).bind fun b11=>
  if b11=true then
  some ((.bool false),[c2])
else
(zh a0 7).bind fun c12=>
(yR c12).bind fun n13=>
(
  yi (vm n13 c12 a1) (vec [(.int .i64 0),c2])).bind fun o26=>
  if o26.1=0 then
  some ((.bool true),[(o26.2 0)])
else
 some ((o26.2 0),[(o26.2 1)])))
theorem zdB(a0:V)(a1:V)(a2:V):P0 xw [.v a0,.v a1,.p 0 0] [(false,1,a2)]=QS a0 a1 a2:=
 (z5 (fn:=Ja) _ _ (by kernel_rfl)).trans (by kernel_rfl)
noncomputable def xW(a0:V)(a1:Nat):Option (V×List V):=
(P0 yc [.v a0,.fn a1 []] []).bind fun r1=>
(
  ze .geq r1.1 (.int .i64 0)).bind fun x2=>
  some (x2,[])
theorem qy(a0:V)(a1:Nat):P0 zu [.v a0,.fn a1 []] []=xW a0 a1:=
 (z5 (fn:=xX) _ _ (by kernel_rfl)).trans (by kernel_rfl)
noncomputable def VK(a0:V):Option (V×List V):=
 tst (okN 11 a0) ((P0 wW [.v a0] []).bind fun r1=>
(
  unV .not r1.1).bind fun x2=>
  some (x2,[]))
theorem zdg(a0:V):P0 xo [.v a0] []=VK a0:=
 (z5 (fn:=VX) _ _ (by kernel_rfl)).trans (by kernel_rfl)
noncomputable def zeo(a0:V):Option (V×List V):=
 tst (okN 11 a0) ((zh a0 2).bind fun c1=>
(yR c1).bind fun n2=>
(P0 qW [.v (YK a0 3 8)] []).bind fun r3=>
(((zh a0 0).bind fun c4=>
(((((ze .eql c4 (.int .i64 4)).bind fun x5=>
(
  asBool x5).bind fun b6=>
  if b6=true then
  some (3,(vec []))
else
(ze .eql c4 (.int .i64 5)).bind fun x7=>
(
  asBool x7).bind fun b8=>
  if b8=true then
  some (3,(vec []))
else
(ze .eql c4 (.int .i64 1)).bind fun x9=>
(
  asBool x9).bind fun b10=>
  if b10=true then
(
  asBool x9).bind fun b11=>
  if b11=true then
  some (0,(vec []))
else
(ze .eql c4 (.int .i64 2)).bind fun x12=>
(
  asBool x12).bind fun b13=>
  if b13=true then
  some (1,(vec []))
else
 some (2,(vec []))
else
(ze .eql c4 (.int .i64 3)).bind fun x14=>
(
  asBool x14).bind fun b15=>
  if b15=true then
(
  asBool x14).bind fun b16=>
  if b16=true then
  some (0,(vec []))
else
(ze .eql c4 (.int .i64 2)).bind fun x17=>
(
  asBool x17).bind fun b18=>
  if b18=true then
  some (1,(vec []))
else
 some (2,(vec []))
else
(ze .eql c4 (.int .i64 6)).bind fun x19=>
(
  asBool x19).bind fun b20=>
  if b20=true then
  some (0,(vec []))
else
(ze .eql c4 (.int .i64 2)).bind fun x21=>
(
  asBool x21).bind fun b22=>
  if b22=true then
  some (1,(vec []))
else
 some (2,(vec [])):Option (Nat×(Nat→V)))).bind fun o23=>
 if o23.1=0 then
 some (3,(vec [(.bool ((((n2:Nat):Int):Int) == 0))]))
else
 if(o23.1 - 1)=0 then
 some (1,(vec [(.bool ((((n2:Nat):Int):Int) == 0))]))
else
 if((o23.1 - 1) - 1)=0 then
 some (2,(vec []))
else
(zh a0 2).bind fun c24=>
(
  P0 vd [.v c24] []).bind fun r25=>
  some (0,(vec [r25.1])):Option (Nat×(Nat→V)))).bind fun o26=>
  if o26.1=0 then
  some (0,(vec [r3.1,(o26.2 0)]))
else
 if(o26.1 - 1)=0 then
 some (0,(vec [r3.1,(o26.2 0)]))
else
 if((o26.1 - 1) - 1)=0 then
 some (1,(vec [(.bool false)]))
else
(
  P0 y5 [.v (YK a0 3 8)] []).bind fun r27=>
  some (0,(vec [r27.1,(o26.2 0)])):Option (Nat×(Nat→V)))).bind fun o28=>
  if o28.1=0 then
(zh a0 1).bind fun c29=>
(P0 vd [.v c29] []).bind fun r30=>
(asBool r30.1).bind fun b31=>
(
  (if b31=true then
  some (o28.2 1)
else some (.bool false):Option V)).bind fun x32=>
(asBool x32).bind fun b33=>
(
  (if b33=true then
  some (o28.2 0)
else some (.bool false):Option V)).bind fun x34=>
 some (x34,[])
else
 some ((o28.2 0),[]))
theorem ziM(a0:V):P0 wW [.v a0] []=zeo a0:=
 (z5 (fn:=zeO) _ _ (by kernel_rfl)).trans (by kernel_rfl)
noncomputable def qS(n15:Nat)(c14:V)(v16:Nat→V):Option ((Nat→V) ⊕ (Nat×(Nat→V))):=
(ze .lss (v16 1) (.int .i64 ((n15:Nat):Int))).bind fun x17=>
(
  asBool x17).bind fun b18=>
  if b18=true then
(xy 8 c14).bind fun l19=>
(xN (v16 1) (l19.length)).bind fun i20=>
(
  l19[i20]?).bind fun e21=>
  tst (okN 8 e21) ((P0 xk [.v e21] []).bind fun r22=>
(ze .add (v16 0) r22.1).bind fun x23=>
(
  ze .add (v16 1) (.int .i64 1)).bind fun x24=>
  some (.inl (vec [x23,x24])))
else
 some (.inr (0,(vec [(v16 0)])))
noncomputable def VN(a0:V):Option (V×List V):=
 tst (okN 8 a0) ((((zh a0 0).bind fun c1=>
(ze .eql c1 (.int .i64 3)).bind fun x2=>
(
  asBool x2).bind fun b3=>
  if b3=true then
(zh a0 3).bind fun c4=>
(
  yR c4).bind fun n5=>
  some (0,(vec [(.int .i64 (IntKind.wrap .i64 (1+((n5:Nat):Int))))]))
else
(((ze .eql c1 (.int .i64 4)).bind fun x6=>
(
  asBool x6).bind fun b7=>
  if b7=true then
  some (0,(vec [x6]))
else
(
  ze .eql c1 (.int .i64 5)).bind fun x8=>
  some (0,(vec [x8])):Option (Nat×(Nat→V)))).bind fun o9=>
(
  asBool (o9.2 0)).bind fun b10=>
  if b10=true then
(zh a0 5).bind fun c11=>
(
  Ke c11).bind fun n12=>
  some (0,(vec [(.int .i64 (IntKind.wrap .i64 (1+((n12:Nat):Int))))]))
else
 some (0,(vec [(.int .i64 1)])):Option (Nat×(Nat→V)))).bind fun o13=>
(zh a0 7).bind fun c14=>
(yR c14).bind fun n15=>
(
  yi (qS n15 c14) (vec [(o13.2 0),(.int .i64 0)])).bind fun o25=>
  some ((o25.2 0),[]))
theorem zcj(a0:V):P0 xk [.v a0] []=VN a0:=
 (z5 (fn:=VZ) _ _ (by kernel_rfl)).trans (by kernel_rfl)
noncomputable def jB(n2:Nat)(c1:V)(v3:Nat→V):Option ((Nat→V) ⊕ (Nat×(Nat→V))):=
(ze .lss (v3 1) (.int .i64 ((n2:Nat):Int))).bind fun x4=>
(
  asBool x4).bind fun b5=>
  if b5=true then
(xy 8 c1).bind fun l6=>
(xN (v3 1) (l6.length)).bind fun i7=>
(
  l6[i7]?).bind fun e8=>
  tst (okN 8 e8) ((P0 xJ [.v e8] []).bind fun r9=>
(ze .add (v3 0) r9.1).bind fun x10=>
(
  ze .add (v3 1) (.int .i64 1)).bind fun x11=>
  some (.inl (vec [x10,x11])))
else
 some (.inr (0,(vec [(v3 0)])))
noncomputable def Q7(a0:V):Option (V×List V):=
 tst (okN 8 a0) ((zh a0 7).bind fun c1=>
(yR c1).bind fun n2=>
(
  yi (jB n2 c1) (vec [(.int .i64 1),(.int .i64 0)])).bind fun o12=>
  some ((o12.2 0),[]))
theorem zdM(a0:V):P0 xJ [.v a0] []=Q7 a0:=
 (z5 (fn:=JF) _ _ (by kernel_rfl)).trans (by kernel_rfl)
noncomputable def jw(n2:Nat)(c1:V)(v3:Nat→V):Option ((Nat→V) ⊕ (Nat×(Nat→V))):=
(ze .lss (v3 1) (.int .i64 ((n2:Nat):Int))).bind fun x4=>
(
  asBool x4).bind fun b5=>
  if b5=true then
(xy 8 c1).bind fun l6=>
(xN (v3 1) (l6.length)).bind fun i7=>
(
  l6[i7]?).bind fun e8=>
  tst (okN 8 e8) ((P0 xG [.v e8] []).bind fun r9=>
(zg3 (v3 0) [r9.1]).bind fun x10=>
(
  ze .add (v3 1) (.int .i64 1)).bind fun x11=>
  some (.inl (vec [x10,x11])))
else
 some (.inr (0,(vec [(v3 0)])))
noncomputable def Q3(a0:V):Option (V×List V):=
 tst (okN 8 a0) ((zh a0 7).bind fun c1=>
(yR c1).bind fun n2=>
(yi (jw n2 c1) (vec [(.int .i64 0),(.int .i64 0)])).bind fun o12=>
(
  ze .add (.int .i64 1) (o12.2 0)).bind fun x13=>
  some (x13,[]))
theorem zdo(a0:V):P0 xG [.v a0] []=Q3 a0:=
 (z5 (fn:=Jo) _ _ (by kernel_rfl)).trans (by kernel_rfl)
noncomputable def zea(a0:V):Option (V×List V):=
 tst (okN 8 a0) ((zh a0 7).bind fun c1=>
(yR c1).bind fun n2=>
((if(decide ((((n2:Nat):Int):Int)≤300))=true then
(zh a0 7).bind fun c3=>
(P0 yy [.v c3,.fn vy []] []).bind fun r4=>
(
  unV .not r4.1).bind fun x5=>
  some x5
else some (.bool false):Option V)).bind fun x6=>
 some (x6,[]))
theorem zjr(a0:V):P0 qp [.v a0] []=zea a0:=
 (z5 (fn:=zeW) _ _ (by kernel_rfl)).trans (by kernel_rfl)
noncomputable def vk(a0:V)(a1:V)(v3:Nat→V):Option ((Nat→V) ⊕ (Nat×(Nat→V))):=
(yR a0).bind fun n4=>
(ze .lss (v3 0) (.int .i64 ((n4:Nat):Int))).bind fun x5=>
(
  asBool x5).bind fun b6=>
  if b6=true then
(xy 1 a0).bind fun l7=>
(xN (v3 0) (l7.length)).bind fun i9=>
(l7[i9]?).bind fun e10=>
(zh e10 0).bind fun c11=>
(xy 1 a1).bind fun l12=>
(xN (v3 0) (l12.length)).bind fun i13=>
(l12[i13]?).bind fun e14=>
(zh e14 0).bind fun c15=>
(ze .neq c11 c15).bind fun x16=>
(
  asBool x16).bind fun b17=>
  if b17=true then
  some (.inr (1,(vec [(.bool false)])))
else
(
  ze .add (v3 0) (.int .i64 1)).bind fun x18=>
  some (.inl (vec [x18]))
else
 some (.inr (0,(vec [])))
noncomputable def Ya(a0:V)(a1:V):Option (V×List V):=
(yR a0).bind fun n1=>
(
  yR a1).bind fun n2=>
  if((((n1:Nat):Int):Int) != ((n2:Nat):Int))=true then
  some ((.bool false),[])
else
(
  yi (vk a0 a1) (vec [(.int .i64 0)])).bind fun o19=>
  if o19.1=0 then
  some ((.bool true),[])
else
 some ((o19.2 0),[])
theorem Qx(a0:V)(a1:V):P0 xp [.v a0,.v a1] []=Ya a0 a1:=
 (z5 (fn:=ZU) _ _ (by kernel_rfl)).trans (by kernel_rfl)
noncomputable def K0(a0:V):Option (V×List V):=
(yR a0).bind fun n1=>
(xy 1 a0).bind fun l2=>
(zay none (some (.int .i64 (IntKind.wrap .i64 (((n1:Nat):Int) - 1)))) (l2.length)).bind fun q3=>
(yR a0).bind fun n4=>
(xy 1 a0).bind fun l5=>
(xN (.int .i64 (IntKind.wrap .i64 (((n4:Nat):Int) - 1))) (l5.length)).bind fun i6=>
(l5[i6]?).bind fun e7=>
(
  zh e7 0).bind fun c8=>
  some ((.tup [(.sl ((l2.drop q3.1).take (q3.2 - q3.1))),c8]),[])
theorem zfN(a0:V):P0 wm [.v a0] []=K0 a0:=
 (z5 (fn:=zad) _ _ (by kernel_rfl)).trans (by kernel_rfl)
noncomputable def zbh(a0:V)(a1:V)(a2:V):Option (V×List V):=
 tst (okN 8 a0) (tst (okN 1 a1) ((zh a1 0).bind fun c1=>
 tst (okN 8 a2) ((P0 vh [.v a0] []).bind fun r2=>
(zp r2.1 0).bind fun x3=>
(zp r2.1 1).bind fun x4=>
(yR x3).bind fun n5=>
(yR x4).bind fun n6=>
(zc5 16 (.int .i64 ((n5:Nat):Int)) (.int .i64 ((n5:Nat):Int))).bind fun q7=>
(zc5 120 (.int .i64 ((n6:Nat):Int)) (.int .i64 ((n6:Nat):Int))).bind fun q8=>
(zbR 1 x3).bind fun l9=>
(zbR 8 x4).bind fun l10=>
(P0 ye [.v (.sl (((xM (List.replicate q7.2 (.str [])) 0 (l9.take (Nat.min (l9.length) q7.1))).drop 0).take q7.1)),.v c1] []).bind fun r11=>
(ze .geq r11.1 (.int .i64 0)).bind fun x12=>
(
  asBool x12).bind fun b13=>
  if b13=true then
(
  xN r11.1 q8.1).bind fun i14=>
  tst (okN 8 a2) (some ((.agg [(.int .i64 7),(.bool false),(.bool false),(.sl []),(.int .i64 0),(.str []),(.sl (((xM (List.replicate q7.2 (.str [])) 0 (l9.take (Nat.min (l9.length) q7.1))).drop 0).take q7.1)),(.sl ((((xM (List.replicate q8.2 (.agg [(.int .i64 0),(.bool false),(.bool false),(.sl []),(.int .i64 0),(.str []),(.sl []),(.sl [])])) 0 (l10.take (Nat.min (l10.length) q8.1))).set (0+i14) a2).drop 0).take q8.1))]),[]))
else
(P0 zw [.v (.sl (((xM (List.replicate q7.2 (.str [])) 0 (l9.take (Nat.min (l9.length) q7.1))).drop 0).take q7.1)),.fn xI [.p 0 0]] [(false,1,c1)]).bind fun r15=>
(r15.2[0]?).bind fun y16=>
(((ze .lss r15.1 (.int .i64 0)).bind fun x17=>
(
  asBool x17).bind fun b18=>
  if b18=true then
  some (0,(vec [(.int .i64 ((q7.1:Nat):Int))]))
else
 some (0,(vec [r15.1])):Option (Nat×(Nat→V)))).bind fun o19=>
 tst (okN 1 y16) ((zh y16 0).bind fun c20=>
 tst (Nat.beq q7.1 q7.2) ((P0 xx [.u,.v (.sl (((xM (List.replicate q7.2 (.str [])) 0 (l9.take (Nat.min (l9.length) q7.1))).drop 0).take q7.1)),.v (o19.2 0),.v (.sl [c20])] []).bind fun r21=>
 tst (okN 8 a2) (tst (Nat.beq q8.1 q8.2) ((P0 ww [.u,.v (.sl (((xM (List.replicate q8.2 (.agg [(.int .i64 0),(.bool false),(.bool false),(.sl []),(.int .i64 0),(.str []),(.sl []),(.sl [])])) 0 (l10.take (Nat.min (l10.length) q8.1))).drop 0).take q8.1)),.v (o19.2 0),.v (.sl [a2])] []).bind fun r22=>
 tst (okN 1 r21.1) ((zh r21.1 0).bind fun c23=>
 tst (okN 1 r22.1) ((zh r22.1 0).bind fun c24=>
 some ((.agg [(.int .i64 7),(.bool false),(.bool false),(.sl []),(.int .i64 0),(.str []),c23,c24]),[]))))))))))
theorem zgR(a0:V)(a1:V)(a2:V):P0 ve [.v a0,.v a1,.v a2] []=zbh a0 a1 a2:=
 (z5 (fn:=zbA) _ _ (by kernel_rfl)).trans (by kernel_rfl)
noncomputable def yW(n13:Nat)(a0:V)(v14:Nat→V):Option ((Nat→V) ⊕ (Nat×(Nat→V))):=
(ze .lss (v14 1) (.int .i64 ((n13:Nat):Int))).bind fun x15=>
(
  asBool x15).bind fun b16=>
  if b16=true then
(Zw a0 (v14 1)).bind fun x17=>
(ze .lss x17 (.int .u8 48)).bind fun x18=>
(asBool x18).bind fun b19=>
((if b19=false then
(Zw a0 (v14 1)).bind fun x20=>
(
  ze .gtr x20 (.int .u8 57)).bind fun x21=>
  some x21
else some (.bool true):Option V)).bind fun x22=>
(
  asBool x22).bind fun b23=>
  if b23=true then
  some (.inr (1,(vec [(.int .i64 0),(.bool false)])))
else
(ze .mul (.int .i64 10) (v14 0)).bind fun x24=>
(Zw a0 (v14 1)).bind fun x25=>
(ze .sub x25 (.int .u8 48)).bind fun x26=>
(ZP .i64 x26).bind fun x27=>
(ze .add x24 x27).bind fun x28=>
(
  ze .add (v14 1) (.int .i64 1)).bind fun x29=>
  some (.inl (vec [x28,x29]))
else
 some (.inr (0,(vec [(v14 0)])))
noncomputable def X3(a0:V)(a1:V):Option (V×List V):=
(ze .eql a0 (.str [])).bind fun x1=>
(asBool x1).bind fun b2=>
((if b2=false then
(
  Ke a0).bind fun n3=>
  some (.bool (decide ((((n3:Nat):Int):Int) > 4)))
else some (.bool true):Option V)).bind fun x4=>
(asBool x4).bind fun b5=>
((if b5=false then
(Zw a0 (.int .i64 0)).bind fun x6=>
(ze .eql x6 (.int .u8 48)).bind fun x7=>
(asBool x7).bind fun b8=>
((if b8=true then
(
  Ke a0).bind fun n9=>
  some (.bool (decide ((((n9:Nat):Int):Int) > 1)))
else some (.bool false):Option V)).bind fun x10=>
 some x10
else some (.bool true):Option V)).bind fun x11=>
(
  asBool x11).bind fun b12=>
  if b12=true then
  some ((.tup [(.int .i64 0),(.bool false)]),[])
else
(Ke a0).bind fun n13=>
(
  yi (yW n13 a0) (vec [(.int .i64 0),(.int .i64 0)])).bind fun o30=>
  if o30.1=0 then
(ze .gtr (o30.2 0) a1).bind fun x31=>
(
  asBool x31).bind fun b32=>
  if b32=true then
  some ((.tup [(.int .i64 0),(.bool false)]),[])
else
 some ((.tup [(o30.2 0),(.bool true)]),[])
else
 some ((.tup [(o30.2 0),(o30.2 1)]),[])
theorem KE(a0:V)(a1:V):P0 yp [.v a0,.v a1] []=X3 a0 a1:=
 (z5 (fn:=X7) _ _ (by kernel_rfl)).trans (by kernel_rfl)
noncomputable def xe(n1:Nat)(a0:V)(v2:Nat→V):Option ((Nat→V) ⊕ (Nat×(Nat→V))):=
(ze .lss (v2 1) (.int .i64 ((n1:Nat):Int))).bind fun x3=>
(
  asBool x3).bind fun b4=>
  if b4=true then
(xy 1 a0).bind fun l5=>
(xN (v2 1) (l5.length)).bind fun i6=>
(l5[i6]?).bind fun e7=>
(zh e7 0).bind fun c8=>
(yR c8).bind fun n9=>
(ze .add (v2 0) (.int .i64 ((n9:Nat):Int))).bind fun x10=>
(ze .lss x10 (.int .i64 0)).bind fun x11=>
(
  asBool x11).bind fun b12=>
  if b12=true then
(Jy true (.iface 9 (.str [108,101,110,32,111,117,116,32,111,102,32,114,97,110,103,101]))).bind fun x13=>
(
  asBool x13).bind fun b14=>
  if b14=true then
  some (.inr (1,(vec [(.iface 9 (.str [108,101,110,32,111,117,116,32,111,102,32,114,97,110,103,101]))])))
else
 some (.inr (2,(vec [])))
else
(
  ze .add (v2 1) (.int .i64 1)).bind fun x15=>
  some (.inl (vec [x10,x15]))
else
 some (.inr (0,(vec [(v2 0)])))
noncomputable def xc(n19:Nat)(a0:V)(v20:Nat→V):Option ((Nat→V) ⊕ (Nat×(Nat→V))):=
(ze .lss (v20 1) (.int .i64 ((n19:Nat):Int))).bind fun x21=>
(
  asBool x21).bind fun b22=>
  if b22=true then
(xy 1 a0).bind fun l23=>
(xN (v20 1) (l23.length)).bind fun i24=>
(l23[i24]?).bind fun e25=>
(zh e25 0).bind fun c26=>
(
  zbR 8 c26).bind fun l27=>
  tst (VO 120 ((V.elems (v20 0)).length) (l27.length)) ((ze .add (v20 1) (.int .i64 1)).bind fun x28=>
  some (.inl (vec [(.sl ((V.elems (v20 0))++l27)),x28])))
else
 some (.inr (0,(vec [(.sl (V.elems (v20 0)))])))
noncomputable def ZI(a0:V):Option (V×List V):=
(yR a0).bind fun n1=>
(
  yi (xe n1 a0) (vec [(.int .i64 0),(.int .i64 0)])).bind fun o16=>
  if o16.1=0 then
(P0 wq [.g,.v (.sl []),.v (o16.2 0)] []).bind fun r17=>
(slV r17.1).bind fun l18=>
(yR a0).bind fun n19=>
(
  yi (xc n19 a0) (vec [(.sl l18),(.int .i64 0)])).bind fun o29=>
  some ((.sl (V.elems (o29.2 0))),[])
else
 if(o16.1 - 1)=0 then
 none
else
 none
theorem VB(a0:V):P0 yq [.v a0] []=ZI a0:=
 (z5 (fn:=Zu) _ _ (by kernel_rfl)).trans (by kernel_rfl)
noncomputable def YI(a0:V)(a1:V)(a2:V):Option (V×List V):=
 tst (okN 8 a0) (tst (okN 8 a2) ((yR a1).bind fun n1=>
 if((((n1:Nat):Int):Int) == 0)=true then
 tst (okN 8 a2) (some ((.tup [a2,(.bool true)]),[]))
else
(xy 1 a1).bind fun l2=>
(xN (.int .i64 0) (l2.length)).bind fun i3=>
(l2[i3]?).bind fun e4=>
(zh e4 0).bind fun c5=>
(P0 xu [.v a0,.v c5] []).bind fun r6=>
(zp r6.1 0).bind fun x7=>
(
  zp r6.1 1).bind fun x8=>
  tst (okN 8 x7) ((((asBool x8).bind fun b9=>
  if b9=true then
(xy 1 a1).bind fun l10=>
(zay (some (.int .i64 1)) none (l10.length)).bind fun q11=>
(P0 xn [.v x7,.v (.sl ((l10.drop q11.1).take (q11.2 - q11.1))),.v a2] []).bind fun r12=>
(zp r12.1 0).bind fun x13=>
(
  zp r12.1 1).bind fun x14=>
  tst (okN 8 x13) (some (0,(vec [x14,x13])))
else
 some (0,(vec [x8,x7])):Option (Nat×(Nat→V)))).bind fun o15=>
(unV .not (o15.2 0)).bind fun x16=>
(
  asBool x16).bind fun b17=>
  if b17=true then
  some ((.tup [(.agg [(.int .i64 0),(.bool false),(.bool false),(.sl []),(.int .i64 0),(.str []),(.sl []),(.sl [])]),(.bool false)]),[])
else
(zh a0 0).bind fun c18=>
(ze .eql c18 (.int .i64 7)).bind fun x19=>
(
  asBool x19).bind fun b20=>
  if b20=true then
(xy 1 a1).bind fun l21=>
(xN (.int .i64 0) (l21.length)).bind fun i22=>
(l21[i22]?).bind fun e23=>
(zh e23 0).bind fun c24=>
(
  P0 ve [.v a0,.v c24,.v (o15.2 1)] []).bind fun r25=>
  tst (okN 8 r25.1) (some ((.tup [r25.1,(.bool true)]),[]))
else
(xy 1 a1).bind fun l26=>
(xN (.int .i64 0) (l26.length)).bind fun i27=>
(l26[i27]?).bind fun e28=>
(zh e28 0).bind fun c29=>
(zh a0 7).bind fun c30=>
(yR c30).bind fun n31=>
(P0 yp [.v c29,.v (.int .i64 (IntKind.wrap .i64 (((n31:Nat):Int) - 1)))] []).bind fun r32=>
(zp r32.1 0).bind fun x33=>
(zp r32.1 1).bind fun x34=>
(zh a0 7).bind fun c35=>
(yR c35).bind fun n36=>
(zc5 120 (.int .i64 ((n36:Nat):Int)) (.int .i64 ((n36:Nat):Int))).bind fun q37=>
(zh a0 7).bind fun c38=>
(zbR 8 c38).bind fun l39=>
(
  xN x33 q37.1).bind fun i40=>
  tst (okN 8 (o15.2 1)) ((zh a0 0).bind fun c41=>
(zh a0 1).bind fun c42=>
(zh a0 2).bind fun c43=>
(zh a0 3).bind fun c44=>
(zh a0 4).bind fun c45=>
(zh a0 5).bind fun c46=>
(zh a0 6).bind fun c47=>
(
  zh a0 7).bind fun c48=>
  some ((.tup [(.agg [c41,c42,c43,c44,c45,c46,c47,(.sl ((((xM (List.replicate q37.2 (.agg [(.int .i64 0),(.bool false),(.bool false),(.sl []),(.int .i64 0),(.str []),(.sl []),(.sl [])])) 0 (l39.take (Nat.min (l39.length) q37.1))).set (0+i40) (o15.2 1)).drop 0).take q37.1))]),(.bool true)]),[])))))
theorem WM(a0:V)(a1:V)(a2:V):P0 xn [.v a0,.v a1,.v a2] []=YI a0 a1 a2:=
 (z5 (fn:=V2) _ _ (by kernel_rfl)).trans (by kernel_rfl)
noncomputable def vK(n1:Nat)(a1:V)(v2:Nat→V):Option ((Nat→V) ⊕ (Nat×(Nat→V))):=
(ze .lss (v2 0) (.int .i64 ((n1:Nat):Int))).bind fun x3=>
(
  asBool x3).bind fun b4=>
  if b4=true then
(xy 1 a1).bind fun l5=>
(xN (v2 0) (l5.length)).bind fun i6=>
(l5[i6]?).bind fun e7=>
(zh e7 0).bind fun c8=>
(P0 xu [.v (v2 1),.v c8] []).bind fun r9=>
(zp r9.1 0).bind fun x10=>
(
  zp r9.1 1).bind fun x11=>
  tst (okN 8 x10) ((unV .not x11).bind fun x12=>
(
  asBool x12).bind fun b13=>
  if b13=true then
  some (.inr (1,(vec [(.bool false),(v2 1),(.int .i64 0),(.bool false),(.bool false),(.sl []),(.int .i64 0),(.str []),(.sl []),(.sl [])])))
else
 tst (okN 8 x10) ((ze .add (v2 0) (.int .i64 1)).bind fun x14=>
 some (.inl (vec [x14,x10,(v2 2),(v2 3),(v2 4),(v2 5),(v2 6),(v2 7),(v2 8),(v2 9)]))))
else
 some (.inr (0,(vec [(v2 1),(.agg [(v2 2),(v2 3),(v2 4),(v2 5),(v2 6),(v2 7),(v2 8),(v2 9)])])))
noncomputable def V1(a0:V)(a1:V):Option (V×List V):=
 tst (okN 8 a0) ((yR a1).bind fun n1=>
(
  yi (vK n1 a1) (vec [(.int .i64 0),a0,(.int .i64 0),(.bool false),(.bool false),(.sl []),(.int .i64 0),(.str []),(.sl []),(.sl [])])).bind fun o15=>
  if o15.1=0 then
  tst (okN 8 (o15.2 0)) (some ((.tup [(o15.2 0),(.bool true)]),[]))
else
 some ((.tup [(.agg [(o15.2 2),(o15.2 3),(o15.2 4),(o15.2 5),(o15.2 6),(o15.2 7),(o15.2 8),(o15.2 9)]),(o15.2 0)]),[]))
theorem zcr(a0:V)(a1:V):P0 wj [.v a0,.v a1] []=V1 a0 a1:=
 (z5 (fn:=V4) _ _ (by kernel_rfl)).trans (by kernel_rfl)
noncomputable def zbj(a0:V):Option (V×List V):=
 tst (okN 8 a0) ((zh a0 1).bind fun c1=>
(unV .not c1).bind fun x2=>
(zh a0 2).bind fun c3=>
(unV .not c3).bind fun x4=>
(asBool x4).bind fun b5=>
((if b5=true then
(zh a0 3).bind fun c6=>
(
  yR c6).bind fun n7=>
  some (.bool ((((n7:Nat):Int):Int) == 0))
else some (.bool false):Option V)).bind fun x8=>
(asBool x8).bind fun b9=>
((if b9=true then
(zh a0 4).bind fun c10=>
(
  ze .eql c10 (.int .i64 0)).bind fun x11=>
  some x11
else some (.bool false):Option V)).bind fun x12=>
(zh a0 5).bind fun c13=>
(ze .eql c13 (.str [])).bind fun x14=>
(zh a0 6).bind fun c15=>
(yR c15).bind fun n16=>
(zh a0 7).bind fun c17=>
(yR c17).bind fun n18=>
(((zh a0 0).bind fun c19=>
(((ze .eql c19 (.int .i64 1)).bind fun x20=>
(
  asBool x20).bind fun b21=>
  if b21=true then
  some (0,(vec [x2,x12,x14,(.bool ((((n16:Nat):Int):Int) == 0))]))
else
(ze .eql c19 (.int .i64 2)).bind fun x22=>
(
  asBool x22).bind fun b23=>
  if b23=true then
  some (0,(vec [(.bool true),x12,x14,(.bool ((((n16:Nat):Int):Int) == 0))]))
else
(ze .eql c19 (.int .i64 3)).bind fun x24=>
(
  asBool x24).bind fun b25=>
  if b25=true then
(
  P0 vw [.v (YK a0 2 3)] []).bind fun r26=>
  some (0,(vec [x2,r26.1,x14,(.bool ((((n16:Nat):Int):Int) == 0))]))
else
(ze .eql c19 (.int .i64 4)).bind fun x27=>
(
  asBool x27).bind fun b28=>
  if b28=true then
(zh a0 5).bind fun c29=>
(
  P0 w6 [.v c29] []).bind fun r30=>
  some (0,(vec [x2,x12,r30.1,(.bool ((((n16:Nat):Int):Int) == 0))]))
else
(ze .eql c19 (.int .i64 5)).bind fun x31=>
(
  asBool x31).bind fun b32=>
  if b32=true then
(zh a0 5).bind fun c33=>
(
  Ke c33).bind fun n34=>
  some (0,(vec [x2,x12,(.bool (decide ((((n34:Nat):Int):Int)≤2000))),(.bool ((((n16:Nat):Int):Int) == 0))]))
else
(ze .eql c19 (.int .i64 7)).bind fun x35=>
(
  asBool x35).bind fun b36=>
  if b36=true then
(zh a0 6).bind fun c37=>
(P0 vA [.v c37] []).bind fun r38=>
(asBool r38.1).bind fun b39=>
((if b39=true then
(zh a0 6).bind fun c40=>
(yR c40).bind fun n41=>
(zh a0 7).bind fun c42=>
(
  yR c42).bind fun n43=>
  some (.bool ((((n41:Nat):Int):Int) == ((n43:Nat):Int)))
else some (.bool false):Option V)).bind fun x44=>
 some (2,(vec [x2,x12,x14,x44]))
else
(ze .eql c19 (.int .i64 6)).bind fun x45=>
(
  asBool x45).bind fun b46=>
  if b46=true then
  some (2,(vec [x2,x12,x14,(.bool ((((n16:Nat):Int):Int) == 0))]))
else
 some (1,(vec [])):Option (Nat×(Nat→V)))).bind fun o47=>
 if o47.1=0 then
 some (0,(vec [(o47.2 0),(o47.2 1),(o47.2 2),(o47.2 3),(.bool ((((n18:Nat):Int):Int) == 0))]))
else
 if(o47.1 - 1)=0 then
 some (1,(vec [(.bool false)]))
else
(zh a0 7).bind fun c48=>
(
  yR c48).bind fun n49=>
  some (0,(vec [(o47.2 0),(o47.2 1),(o47.2 2),(o47.2 3),(.bool (decide ((((n49:Nat):Int):Int)≤300)))])):Option (Nat×(Nat→V)))).bind fun o50=>
  if o50.1=0 then
(asBool (o50.2 0)).bind fun b51=>
(
  (if b51=true then
  some (o50.2 1)
else some (.bool false):Option V)).bind fun x52=>
(asBool x52).bind fun b53=>
(
  (if b53=true then
  some (o50.2 2)
else some (.bool false):Option V)).bind fun x54=>
(asBool x54).bind fun b55=>
(
  (if b55=true then
  some (o50.2 3)
else some (.bool false):Option V)).bind fun x56=>
(asBool x56).bind fun b57=>
(
  (if b57=true then
  some (o50.2 4)
else some (.bool false):Option V)).bind fun x58=>
 some (x58,[])
else
 some ((o50.2 0),[]))
theorem zhv(a0:V):P0 qh [.v a0] []=zbj a0:=
 (z5 (fn:=zdh) _ _ (by kernel_rfl)).trans (by kernel_rfl)
noncomputable def yF(n1:Nat)(a0:V)(a1:Nat)(v2:Nat→V):Option ((Nat→V) ⊕ (Nat×(Nat→V))):=
(ze .lss (v2 0) (.int .i64 ((n1:Nat):Int))).bind fun x3=>
(
  asBool x3).bind fun b4=>
  if b4=true then
(xy 11 a0).bind fun l5=>
(xN (v2 0) (l5.length)).bind fun i6=>
(
  l5[i6]?).bind fun e7=>
  tst (Nat.blt a1 wS) ((P0 a1 [.v e7] []).bind fun r8=>
(
  asBool r8.1).bind fun b9=>
  if b9=true then
  some (.inr (1,(vec [(v2 0)])))
else
(
  ze .add (v2 0) (.int .i64 1)).bind fun x10=>
  some (.inl (vec [x10])))
else
 some (.inr (0,(vec [])))
noncomputable def wR(a0:V)(a1:Nat):Option (V×List V):=
(yR a0).bind fun n1=>
(
  yi (yF n1 a0 a1) (vec [(.int .i64 0)])).bind fun o11=>
  if o11.1=0 then
  some ((.int .i64 (-1)),[])
else
 some ((o11.2 0),[])
theorem qX(a0:V)(a1:Nat):P0 yc [.v a0,.fn a1 []] []=wR a0 a1:=
 (z5 (fn:=wP) _ _ (by kernel_rfl)).trans (by kernel_rfl)
noncomputable def zby(a0:V):Option (V×List V):=
 tst (okN 8 a0) ((zh a0 0).bind fun c1=>
(ze .eql c1 (.int .i64 0)).bind fun x2=>
(asBool x2).bind fun b3=>
((if b3=true then
(zh a0 1).bind fun c4=>
(
  unV .not c4).bind fun x5=>
  some x5
else some (.bool false):Option V)).bind fun x6=>
(asBool x6).bind fun b7=>
((if b7=true then
(zh a0 2).bind fun c8=>
(
  unV .not c8).bind fun x9=>
  some x9
else some (.bool false):Option V)).bind fun x10=>
(asBool x10).bind fun b11=>
((if b11=true then
(zh a0 3).bind fun c12=>
(
  yR c12).bind fun n13=>
  some (.bool ((((n13:Nat):Int):Int) == 0))
else some (.bool false):Option V)).bind fun x14=>
(asBool x14).bind fun b15=>
((if b15=true then
(zh a0 4).bind fun c16=>
(
  ze .eql c16 (.int .i64 0)).bind fun x17=>
  some x17
else some (.bool false):Option V)).bind fun x18=>
(asBool x18).bind fun b19=>
((if b19=true then
(zh a0 5).bind fun c20=>
(
  ze .eql c20 (.str [])).bind fun x21=>
  some x21
else some (.bool false):Option V)).bind fun x22=>
(asBool x22).bind fun b23=>
((if b23=true then
(zh a0 6).bind fun c24=>
(
  yR c24).bind fun n25=>
  some (.bool ((((n25:Nat):Int):Int) == 0))
else some (.bool false):Option V)).bind fun x26=>
(asBool x26).bind fun b27=>
((if b27=true then
(zh a0 7).bind fun c28=>
(
  yR c28).bind fun n29=>
  some (.bool ((((n29:Nat):Int):Int) == 0))
else some (.bool false):Option V)).bind fun x30=>
 some (x30,[]))
theorem zh7(a0:V):P0 qW [.v a0] []=zby a0:=
 (z5 (fn:=zcf) _ _ (by kernel_rfl)).trans (by kernel_rfl)
noncomputable def zbp(a0:V):Option (V×List V):=
(yR a0).bind fun n1=>
((if(decide ((((n1:Nat):Int):Int)≤63))=true then
(P0 yf [.v a0,.fn wi []] []).bind fun r2=>
(
  unV .not r2.1).bind fun x3=>
  some x3
else some (.bool false):Option V)).bind fun x4=>
 some (x4,[])
theorem zgJ(a0:V):P0 vd [.v a0] []=zbp a0:=
 (z5 (fn:=zbz) _ _ (by kernel_rfl)).trans (by kernel_rfl)
noncomputable def qM(a0:V)(a1:Nat):Option (V×List V):=
(P0 yZ [.v a0,.fn a1 []] []).bind fun r1=>
(
  ze .geq r1.1 (.int .i64 0)).bind fun x2=>
  some (x2,[])
theorem ZR(a0:V)(a1:Nat):P0 yy [.v a0,.fn a1 []] []=qM a0 a1:=
 (z5 (fn:=qN) _ _ (by kernel_rfl)).trans (by kernel_rfl)
noncomputable def KL(a0:V):Option (V×List V):=
 tst (okN 8 a0) ((P0 qp [.v a0] []).bind fun r1=>
(
  unV .not r1.1).bind fun x2=>
  some (x2,[]))
theorem ze8(a0:V):P0 vy [.v a0] []=KL a0:=
 (z5 (fn:=zaj) _ _ (by kernel_rfl)).trans (by kernel_rfl)
noncomputable def zb9(a0:V):Option (V×List V):=
 tst (okN 8 a0) ((zh a0 0).bind fun c1=>
(ze .neq c1 (.int .i64 7)).bind fun x2=>
(
  asBool x2).bind fun b3=>
  if b3=true then
  some ((.tup [(.sl []),(.sl [])]),[])
else
(zh a0 6).bind fun c4=>
(yR c4).bind fun n5=>
(zh a0 7).bind fun c6=>
(yR c6).bind fun n7=>
(zhj (.int .i64 ((n5:Nat):Int)) [(.int .i64 ((n7:Nat):Int))]).bind fun x8=>
(zh a0 6).bind fun c9=>
(xy 1 c9).bind fun l10=>
(zlA none (some x8) (some x8) (l10.length)).bind fun q11=>
(zh a0 7).bind fun c12=>
(xy 8 c12).bind fun l13=>
(
  zlA none (some x8) (some x8) (l13.length)).bind fun q14=>
  some ((.tup [(.sl ((l10.drop q11.1).take (q11.2 - q11.1))),(.sl ((l13.drop q14.1).take (q14.2 - q14.1)))]),[]))
theorem zha(a0:V):P0 vh [.v a0] []=zb9 a0:=
 (z5 (fn:=zbe) _ _ (by kernel_rfl)).trans (by kernel_rfl)
noncomputable def xf(n1:Nat)(a0:V)(a1:V)(v2:Nat→V):Option ((Nat→V) ⊕ (Nat×(Nat→V))):=
(ze .lss (v2 0) (.int .i64 ((n1:Nat):Int))).bind fun x3=>
(
  asBool x3).bind fun b4=>
  if b4=true then
(xy 1 a0).bind fun l5=>
(xN (v2 0) (l5.length)).bind fun i6=>
(l5[i6]?).bind fun e7=>
(zh e7 0).bind fun c8=>
(ze .eql a1 c8).bind fun x9=>
(
  asBool x9).bind fun b10=>
  if b10=true then
  some (.inr (1,(vec [(v2 0)])))
else
(
  ze .add (v2 0) (.int .i64 1)).bind fun x11=>
  some (.inl (vec [x11]))
else
 some (.inr (0,(vec [])))
noncomputable def jM(a0:V)(a1:V):Option (V×List V):=
(yR a0).bind fun n1=>
(
  yi (xf n1 a0 a1) (vec [(.int .i64 0)])).bind fun o12=>
  if o12.1=0 then
  some ((.int .i64 (-1)),[])
else
 some ((o12.2 0),[])
theorem Xj(a0:V)(a1:V):P0 ye [.v a0,.v a1] []=jM a0 a1:=
 (z5 (fn:=jH) _ _ (by kernel_rfl)).trans (by kernel_rfl)
noncomputable def yO(n1:Nat)(a0:V)(a1:Nat)(y1000:V)(v2:Nat→V):Option ((Nat→V) ⊕ (Nat×(Nat→V))):=
(ze .lss (v2 0) (.int .i64 ((n1:Nat):Int))).bind fun x3=>
(
  asBool x3).bind fun b4=>
  if b4=true then
(xy 1 a0).bind fun l5=>
(xN (v2 0) (l5.length)).bind fun i6=>
(l5[i6]?).bind fun e7=>
(
  zh e7 0).bind fun c8=>
  tst (Nat.blt a1 wS) ((P0 a1 [.v c8,.p 0 0] [(true,1,y1000)]).bind fun r9=>
(
  asBool r9.1).bind fun b10=>
  if b10=true then
  some (.inr (1,(vec [(v2 0)])))
else
(
  ze .add (v2 0) (.int .i64 1)).bind fun x11=>
  some (.inl (vec [x11])))
else
 some (.inr (0,(vec [])))
noncomputable def qE(a0:V)(a1:Nat)(y1000:V):Option (V×List V):=
(yR a0).bind fun n1=>
(
  yi (yO n1 a0 a1 y1000) (vec [(.int .i64 0)])).bind fun o12=>
  if o12.1=0 then
  some ((.int .i64 (-1)),[y1000])
else
 some ((o12.2 0),[y1000])
theorem Zl(a0:V)(a1:Nat)(y1000:V):P0 zw [.v a0,.fn a1 [.p 0 0]] [(false,1,y1000)]=qE a0 a1 y1000:=
 (z5 (fn:=qF) _ _ (by kernel_rfl)).trans (by kernel_rfl)
noncomputable def yX(n1:Nat)(a0:V)(a1:Nat)(v2:Nat→V):Option ((Nat→V) ⊕ (Nat×(Nat→V))):=
(ze .lss (v2 0) (.int .i64 ((n1:Nat):Int))).bind fun x3=>
(
  asBool x3).bind fun b4=>
  if b4=true then
(xy 1 a0).bind fun l5=>
(xN (v2 0) (l5.length)).bind fun i6=>
(l5[i6]?).bind fun e7=>
(
  zh e7 0).bind fun c8=>
  tst (Nat.blt a1 wS) ((P0 a1 [.v c8] []).bind fun r9=>
(
  asBool r9.1).bind fun b10=>
  if b10=true then
  some (.inr (1,(vec [(v2 0)])))
else
(
  ze .add (v2 0) (.int .i64 1)).bind fun x11=>
  some (.inl (vec [x11])))
else
 some (.inr (0,(vec [])))
noncomputable def qb(a0:V)(a1:Nat):Option (V×List V):=
(yR a0).bind fun n1=>
(
  yi (yX n1 a0 a1) (vec [(.int .i64 0)])).bind fun o12=>
  if o12.1=0 then
  some ((.int .i64 (-1)),[])
else
 some ((o12.2 0),[])
theorem kH(a0:V)(a1:Nat):P0 zw [.v a0,.fn a1 []] []=qb a0 a1:=
 (z5 (fn:=qa) _ _ (by kernel_rfl)).trans (by kernel_rfl)
noncomputable def Q2(a0:V)(a1:V):Option (V×List V):=
(
  ze .gtr a0 a1).bind fun x1=>
  some (x1,[a1])
theorem zdz(a0:V)(a1:V):P0 xI [.v a0,.p 0 0] [(true,1,a1)]=Q2 a0 a1:=
 (z5 (fn:=Jp) _ _ (by kernel_rfl)).trans (by kernel_rfl)
noncomputable def WJ(a0:V)(a1:V):Option (V×List V):=
 tst (okN 8 a0) ((zh a0 0).bind fun c1=>
(ze .neq c1 (.int .i64 6)).bind fun x2=>
(
  asBool x2).bind fun b3=>
  if b3=true then
(P0 vi [.v a0,.v a1] []).bind fun r4=>
(zp r4.1 0).bind fun x5=>
(
  zp r4.1 1).bind fun x6=>
  tst (okN 8 x5) (some ((.tup [x5,x6]),[]))
else
(zh a0 7).bind fun c7=>
(yR c7).bind fun n8=>
(P0 yp [.v a1,.v (.int .i64 (IntKind.wrap .i64 (((n8:Nat):Int) - 1)))] []).bind fun r9=>
(zp r9.1 0).bind fun x10=>
(zp r9.1 1).bind fun x11=>
(unV .not x11).bind fun x12=>
(
  asBool x12).bind fun b13=>
  if b13=true then
  some ((.tup [(.agg [(.int .i64 0),(.bool false),(.bool false),(.sl []),(.int .i64 0),(.str []),(.sl []),(.sl [])]),(.bool false)]),[])
else
(zh a0 7).bind fun c14=>
(xy 8 c14).bind fun l15=>
(xN x10 (l15.length)).bind fun i17=>
(
  l15[i17]?).bind fun e18=>
  tst (okN 8 e18) (some ((.tup [e18,(.bool true)]),[])))
theorem zaL(a0:V)(a1:V):P0 xu [.v a0,.v a1] []=WJ a0 a1:=
 (z5 (fn:=W2) _ _ (by kernel_rfl)).trans (by kernel_rfl)
noncomputable def zae(a0:V):Option (V×List V):=
 tst (okN 3 a0) ((zh a0 1).bind fun c1=>
(
  yR c1).bind fun n2=>
  if((((n2:Nat):Int):Int) == 0)=true then
(zh a0 0).bind fun c3=>
(unV .not c3).bind fun x4=>
(asBool x4).bind fun b5=>
((if b5=true then
(zh a0 2).bind fun c6=>
(
  ze .eql c6 (.int .i64 0)).bind fun x7=>
  some x7
else some (.bool false):Option V)).bind fun x8=>
 some (x8,[])
else
((if(decide ((((n2:Nat):Int):Int) > 90))=false then
(zh a0 1).bind fun c9=>
(xy 1 c9).bind fun l10=>
(xN (.int .i64 (IntKind.wrap .i64 (((n2:Nat):Int) - 1))) (l10.length)).bind fun i11=>
(l10[i11]?).bind fun e12=>
(zh e12 0).bind fun c13=>
(
  ze .eql c13 (.int .u32 0)).bind fun x14=>
  some x14
else some (.bool true):Option V)).bind fun x15=>
(asBool x15).bind fun b16=>
((if b16=false then
(zh a0 2).bind fun c17=>
(
  ze .lss c17 (.int .i64 (-1200))).bind fun x18=>
  some x18
else some (.bool true):Option V)).bind fun x19=>
(asBool x19).bind fun b20=>
((if b20=false then
(zh a0 2).bind fun c21=>
(
  ze .gtr c21 (.int .i64 1200)).bind fun x22=>
  some x22
else some (.bool true):Option V)).bind fun x23=>
(
  asBool x23).bind fun b24=>
  if b24=true then
  some ((.bool false),[])
else
(zh a0 1).bind fun c25=>
(P0 qU [.v c25] []).bind fun r26=>
(zp r26.1 0).bind fun x27=>
(zp r26.1 1).bind fun x28=>
(
  ze .eql x28 (.int .i64 0)).bind fun x29=>
  some (x29,[]))
theorem zfs(a0:V):P0 vw [.v a0] []=zae a0:=
 (z5 (fn:=K6) _ _ (by kernel_rfl)).trans (by kernel_rfl)
noncomputable def KY(a0:V):Option (V×List V):=
(Ke a0).bind fun n1=>
((if(decide ((((n1:Nat):Int):Int)≤2000))=true then
(
  P0 wY [.v a0] []).bind fun r2=>
  some r2.1
else some (.bool false):Option V)).bind fun x3=>
 some (x3,[])
theorem zfr(a0:V):P0 w6 [.v a0] []=KY a0:=
 (z5 (fn:=zag) _ _ (by kernel_rfl)).trans (by kernel_rfl)
noncomputable def yK(n1:Nat)(a0:V)(v2:Nat→V):Option ((Nat→V) ⊕ (Nat×(Nat→V))):=
(ze .lss (v2 0) (.int .i64 ((n1:Nat):Int))).bind fun x3=>
(
  asBool x3).bind fun b4=>
  if b4=true then
(xy 1 a0).bind fun l5=>
(xN (v2 0) (l5.length)).bind fun i6=>
(l5[i6]?).bind fun e7=>
(zh e7 0).bind fun c8=>
(P0 w6 [.v c8] []).bind fun r9=>
(unV .not r9.1).bind fun x10=>
(asBool x10).bind fun b11=>
((if b11=false then
(ze .gtr (v2 0) (.int .i64 0)).bind fun x12=>
(asBool x12).bind fun b13=>
((if b13=true then
(ze .sub (v2 0) (.int .i64 1)).bind fun x14=>
(xy 1 a0).bind fun l15=>
(xN x14 (l15.length)).bind fun i17=>
(l15[i17]?).bind fun e18=>
(zh e18 0).bind fun c19=>
(
  ze .geq c19 c8).bind fun x20=>
  some x20
else some (.bool false):Option V)).bind fun x21=>
 some x21
else some (.bool true):Option V)).bind fun x22=>
(
  asBool x22).bind fun b23=>
  if b23=true then
  some (.inr (1,(vec [(.bool false)])))
else
(
  ze .add (v2 0) (.int .i64 1)).bind fun x24=>
  some (.inl (vec [x24]))
else
 some (.inr (0,(vec [])))
noncomputable def JQ(a0:V):Option (V×List V):=
(yR a0).bind fun n1=>
(
  yi (yK n1 a0) (vec [(.int .i64 0)])).bind fun o25=>
  if o25.1=0 then
(
  yR a0).bind fun n26=>
  some ((.bool (decide ((((n26:Nat):Int):Int)≤300))),[])
else
 some ((o25.2 0),[])
theorem zdv(a0:V):P0 vA [.v a0] []=JQ a0:=
 (z5 (fn:=JG) _ _ (by kernel_rfl)).trans (by kernel_rfl)
noncomputable def vJ(a0:V)(a1:Nat):Option (V×List V):=
(P0 zw [.v a0,.fn a1 []] []).bind fun r1=>
(
  ze .geq r1.1 (.int .i64 0)).bind fun x2=>
  some (x2,[])
theorem kA(a0:V)(a1:Nat):P0 yf [.v a0,.fn a1 []] []=vJ a0 a1:=
 (z5 (fn:=vN) _ _ (by kernel_rfl)).trans (by kernel_rfl)
noncomputable def Ju(a0:V):Option (V×List V):=
(Ke a0).bind fun n1=>
((if(decide ((((n1:Nat):Int):Int) > 2000))=false then
(P0 wY [.v a0] []).bind fun r2=>
(
  unV .not r2.1).bind fun x3=>
  some x3
else some (.bool true):Option V)).bind fun x4=>
 some (x4,[])
theorem zdt(a0:V):P0 wi [.v a0] []=Ju a0:=
 (z5 (fn:=Jr) _ _ (by kernel_rfl)).trans (by kernel_rfl)
noncomputable def wl(a0:V)(v2:Nat→V):Option ((Nat→V) ⊕ (Nat×(Nat→V))):=
 if(YC (v2 1))<List.length (α:=UInt8) (zbX (v2 0))then
 if(((Utf8.decode ⟨((zbX (v2 0))).toArray⟩ (YC (v2 1))).1:Int) != 65533)=true then
 some (.inl (vec [(.str (zbX (v2 0))),(.int .i64 ((((YC (v2 1))+(Utf8.decode ⟨((zbX (v2 0))).toArray⟩ (YC (v2 1))).2):Nat):Int))]))
else
(zm0 a0 (some (.int .i64 (((YC (v2 1)):Nat):Int))) none).bind fun x3=>
(P0 yE [.v x3] []).bind fun r4=>
(zp r4.1 0).bind fun x5=>
(zp r4.1 1).bind fun x6=>
(ze .eql x6 (.int .i64 1)).bind fun x7=>
(
  asBool x7).bind fun b8=>
  if b8=true then
  some (.inr (1,(vec [(.bool false)])))
else
 some (.inl (vec [(.str (zbX (v2 0))),(.int .i64 ((((YC (v2 1))+(Utf8.decode ⟨((zbX (v2 0))).toArray⟩ (YC (v2 1))).2):Nat):Int))]))
else
 some (.inr (0,(vec [])))
noncomputable def K7(a0:V):Option (V×List V):=
(zar a0).bind fun s1=>
(
  yi (wl a0) (vec [(.str s1),(.int .i64 ((0:Nat):Int))])).bind fun o9=>
  if o9.1=0 then
  some ((.bool true),[])
else
 some ((o9.2 0),[])
theorem zf2(a0:V):P0 wY [.v a0] []=K7 a0:=
 (z5 (fn:=zac) _ _ (by kernel_rfl)).trans (by kernel_rfl)
noncomputable def xb(n1:Nat)(a0:V)(a1:Nat)(v2:Nat→V):Option ((Nat→V) ⊕ (Nat×(Nat→V))):=
(ze .lss (v2 0) (.int .i64 ((n1:Nat):Int))).bind fun x3=>
(
  asBool x3).bind fun b4=>
  if b4=true then
(xy 8 a0).bind fun l5=>
(xN (v2 0) (l5.length)).bind fun i6=>
(
  l5[i6]?).bind fun e7=>
  tst (Nat.blt a1 wS) ((P0 a1 [.v e7] []).bind fun r8=>
(
  asBool r8.1).bind fun b9=>
  if b9=true then
  some (.inr (1,(vec [(v2 0)])))
else
(
  ze .add (v2 0) (.int .i64 1)).bind fun x10=>
  some (.inl (vec [x10])))
else
 some (.inr (0,(vec [])))
noncomputable def jG(a0:V)(a1:Nat):Option (V×List V):=
(yR a0).bind fun n1=>
(
  yi (xb n1 a0 a1) (vec [(.int .i64 0)])).bind fun o11=>
  if o11.1=0 then
  some ((.int .i64 (-1)),[])
else
 some ((o11.2 0),[])
theorem XQ(a0:V)(a1:Nat):P0 yZ [.v a0,.fn a1 []] []=jG a0 a1:=
 (z5 (fn:=jK) _ _ (by kernel_rfl)).trans (by kernel_rfl)
noncomputable def VM(a0:V)(a1:V):Option (V×List V):=
 tst (okN 8 a0) ((P0 vh [.v a0] []).bind fun r1=>
(zp r1.1 0).bind fun x2=>
(zp r1.1 1).bind fun x3=>
(P0 ye [.v x2,.v a1] []).bind fun r4=>
(ze .geq r4.1 (.int .i64 0)).bind fun x5=>
(
  asBool x5).bind fun b6=>
  if b6=true then
(xy 8 x3).bind fun l7=>
(xN r4.1 (l7.length)).bind fun i9=>
(
  l7[i9]?).bind fun e10=>
  tst (okN 8 e10) (some ((.tup [e10,(.bool true)]),[]))
else
 some ((.tup [(.agg [(.int .i64 0),(.bool false),(.bool false),(.sl []),(.int .i64 0),(.str []),(.sl []),(.sl [])]),(.bool false)]),[]))
theorem zcp(a0:V)(a1:V):P0 vi [.v a0,.v a1] []=VM a0 a1:=
 (z5 (fn:=VQ) _ _ (by kernel_rfl)).trans (by kernel_rfl)
noncomputable def qw(v2:Nat→V):Option ((Nat→V) ⊕ (Nat×(Nat→V))):=
(
  yR (v2 0)).bind fun n3=>
  if(decide ((((n3:Nat):Int):Int) > 0))=true then
(P0 vz [.v (v2 0),.v (.int .u32 10)] []).bind fun r4=>
(zp r4.1 0).bind fun x5=>
(zp r4.1 1).bind fun x6=>
(ze .neq x6 (.int .u32 0)).bind fun x7=>
(
  asBool x7).bind fun b8=>
  if b8=true then
  some (.inr (0,(vec [(v2 0),(v2 1)])))
else
(
  ze .add (v2 1) (.int .i64 1)).bind fun x9=>
  some (.inl (vec [x5,x9]))
else
 some (.inr (0,(vec [(v2 0),(v2 1)])))
noncomputable def zbu(a0:V):Option (V×List V):=
(P0 vD [.v a0] []).bind fun r1=>
(
  yi (qw) (vec [r1.1,(.int .i64 0)])).bind fun o10=>
  some ((.tup [(o10.2 0),(o10.2 1)]),[])
theorem zgL(a0:V):P0 qU [.v a0] []=zbu a0:=
 (z5 (fn:=zbn) _ _ (by kernel_rfl)).trans (by kernel_rfl)
noncomputable def jh(a0:V):Option (V×List V):=
(ze .neq a0 (.str [])).bind fun x1=>
(asBool x1).bind fun b2=>
((if b2=true then
(Zw a0 (.int .i64 0)).bind fun x3=>
(
  ze .lss x3 (.int .u8 128)).bind fun x4=>
  some x4
else some (.bool false):Option V)).bind fun x5=>
(
  asBool x5).bind fun b6=>
  if b6=true then
(Zw a0 (.int .i64 0)).bind fun x7=>
(
  ZP .i32 x7).bind fun x8=>
  some ((.tup [x8,(.int .i64 1)]),[])
else
(P0 zx [.v a0] []).bind fun r9=>
(zp r9.1 0).bind fun x10=>
(
  zp r9.1 1).bind fun x11=>
  some ((.tup [x10,x11]),[])
theorem Yw(a0:V):P0 yE [.v a0] []=jh a0:=
 (z5 (fn:=jc) _ _ (by kernel_rfl)).trans (by kernel_rfl)
noncomputable def jn(a0:V)(v2:Nat→V):Option ((Nat→V) ⊕ (Nat×(Nat→V))):=
(ze .gtr (v2 0) (.int .i64 0)).bind fun x3=>
(asBool x3).bind fun b4=>
((if b4=true then
(ze .sub (v2 0) (.int .i64 1)).bind fun x5=>
(xy 1 a0).bind fun l6=>
(xN x5 (l6.length)).bind fun i7=>
(l6[i7]?).bind fun e8=>
(zh e8 0).bind fun c9=>
(
  ze .eql c9 (.int .u32 0)).bind fun x10=>
  some x10
else some (.bool false):Option V)).bind fun x11=>
(
  asBool x11).bind fun b12=>
  if b12=true then
(
  ze .sub (v2 0) (.int .i64 1)).bind fun x13=>
  some (.inl (vec [x13]))
else
 some (.inr (0,(vec [(v2 0)])))
noncomputable def zcD(a0:V):Option (V×List V):=
(yR a0).bind fun n1=>
(yi (jn a0) (vec [(.int .i64 ((n1:Nat):Int))])).bind fun o14=>
(ze .eql (o14.2 0) (.int .i64 0)).bind fun x15=>
(
  asBool x15).bind fun b16=>
  if b16=true then
  some ((.sl []),[])
else
(zc5 4 (o14.2 0) (o14.2 0)).bind fun q17=>
(
  zbR 1 a0).bind fun l18=>
  some ((.sl (((xM (List.replicate q17.2 (.int .u32 0)) 0 (l18.take (Nat.min (l18.length) q17.1))).drop 0).take q17.1)),[])
theorem zhw(a0:V):P0 vD [.v a0] []=zcD a0:=
 (z5 (fn:=zbO) _ _ (by kernel_rfl)).trans (by kernel_rfl)
noncomputable def kf(a0:V)(a1:V)(q2:Nat×Nat)(v4:Nat→V):Option ((Nat→V) ⊕ (Nat×(Nat→V))):=
(ze .geq (v4 1) (.int .i64 0)).bind fun x5=>
(
  asBool x5).bind fun b6=>
  if b6=true then
(ze .shl (v4 0) (.int .u64 32)).bind fun x7=>
(xy 1 a0).bind fun l8=>
(xN (v4 1) (l8.length)).bind fun i9=>
(l8[i9]?).bind fun e10=>
(zh e10 0).bind fun c11=>
(ZP .u64 c11).bind fun x12=>
(ze .or x7 x12).bind fun x13=>
(ZP .u64 a1).bind fun x14=>
(ze .quo x13 x14).bind fun x15=>
(ZP .u32 x15).bind fun x16=>
(
  xN (v4 1) q2.1).bind fun i17=>
  tst (okN 1 x16) ((zh x16 0).bind fun c18=>
(ZP .u64 a1).bind fun x19=>
(ze .rem x13 x19).bind fun x20=>
(
  ze .sub (v4 1) (.int .i64 1)).bind fun x21=>
  some (.inl (vec [x20,x21,(.sl ((V.elems (v4 2)).set (0+i17) c18))])))
else
 some (.inr (0,(vec [(v4 0),(.sl (V.elems (v4 2)))])))
noncomputable def KR(a0:V)(a1:V):Option (V×List V):=
(yR a0).bind fun n1=>
(zc5 4 (.int .i64 ((n1:Nat):Int)) (.int .i64 ((n1:Nat):Int))).bind fun q2=>
(yR a0).bind fun n3=>
(yi (kf a0 a1 q2) (vec [(.int .u64 0),(.int .i64 (IntKind.wrap .i64 (((n3:Nat):Int) - 1))),(.sl (List.replicate q2.2 (.int .u32 0)))])).bind fun o22=>
(P0 vD [.v (.sl (((V.elems (o22.2 1)).drop 0).take q2.1))] []).bind fun r23=>
(
  ZP .u32 (o22.2 0)).bind fun x24=>
  some ((.tup [r23.1,x24]),[])
theorem zfB(a0:V)(a1:V):P0 vz [.v a0,.v a1] []=KR a0 a1:=
 (z5 (fn:=KU) _ _ (by kernel_rfl)).trans (by kernel_rfl)
noncomputable def wh(a0:V):Option (V×List V):=
(
  Ke a0).bind fun n1=>
  if(decide ((((n1:Nat):Int):Int)<1))=true then
  some ((.tup [(.int .i32 65533),(.int .i64 0)]),[])
else
(Zw a0 (.int .i64 0)).bind fun x2=>
(xN x2 256).bind fun i3=>
((G_0.drop (i3 * 1))[0]?).bind fun c4=>
(ze .geq c4 (.int .u8 240)).bind fun x5=>
(
  asBool x5).bind fun b6=>
  if b6=true then
(ZP .i32 c4).bind fun x7=>
(ze .shl x7 (.int .u64 31)).bind fun x8=>
(ze .shr x8 (.int .u64 31)).bind fun x9=>
(Zw a0 (.int .i64 0)).bind fun x10=>
(ZP .i32 x10).bind fun x11=>
(ze .andNot x11 x9).bind fun x12=>
(ze .and (.int .i32 65533) x9).bind fun x13=>
(
  ze .or x12 x13).bind fun x14=>
  some ((.tup [x14,(.int .i64 1)]),[])
else
(ze .and c4 (.int .u8 7)).bind fun x15=>
(ZP .i64 x15).bind fun x16=>
(ze .shr c4 (.int .u64 4)).bind fun x17=>
(
  xN x17 16).bind fun i18=>
  tst (Nat.ble 2 (G_1.drop (i18 * 2)).length) (tst (okN 2 (.agg ((G_1.drop (i18 * 2)).take 2))) ((ze .lss (.int .i64 ((n1:Nat):Int)) x16).bind fun x19=>
(
  asBool x19).bind fun b20=>
  if b20=true then
  some ((.tup [(.int .i32 65533),(.int .i64 1)]),[])
else
(Zw a0 (.int .i64 1)).bind fun x21=>
(zh (.agg ((G_1.drop (i18 * 2)).take 2)) 0).bind fun c22=>
(ze .lss x21 c22).bind fun x23=>
(asBool x23).bind fun b24=>
((if b24=false then
(zh (.agg ((G_1.drop (i18 * 2)).take 2)) 1).bind fun c25=>
(
  ze .lss c25 x21).bind fun x26=>
  some x26
else some (.bool true):Option V)).bind fun x27=>
(
  asBool x27).bind fun b28=>
  if b28=true then
  some ((.tup [(.int .i32 65533),(.int .i64 1)]),[])
else
(ze .leq x16 (.int .i64 2)).bind fun x29=>
(
  asBool x29).bind fun b30=>
  if b30=true then
(ze .and x2 (.int .u8 31)).bind fun x31=>
(ZP .i32 x31).bind fun x32=>
(ze .shl x32 (.int .u64 6)).bind fun x33=>
(ze .and x21 (.int .u8 63)).bind fun x34=>
(ZP .i32 x34).bind fun x35=>
(
  ze .or x33 x35).bind fun x36=>
  some ((.tup [x36,(.int .i64 2)]),[])
else
(Zw a0 (.int .i64 2)).bind fun x37=>
(ze .lss x37 (.int .u8 128)).bind fun x38=>
(asBool x38).bind fun b39=>
((if b39=false then
(
  ze .lss (.int .u8 191) x37).bind fun x40=>
  some x40
else some (.bool true):Option V)).bind fun x41=>
(
  asBool x41).bind fun b42=>
  if b42=true then
  some ((.tup [(.int .i32 65533),(.int .i64 1)]),[])
else
(ze .leq x16 (.int .i64 3)).bind fun x43=>
(
  asBool x43).bind fun b44=>
  if b44=true then
(ze .and x2 (.int .u8 15)).bind fun x45=>
(ZP .i32 x45).bind fun x46=>
(ze .shl x46 (.int .u64 12)).bind fun x47=>
(ze .and x21 (.int .u8 63)).bind fun x48=>
(ZP .i32 x48).bind fun x49=>
(ze .shl x49 (.int .u64 6)).bind fun x50=>
(ze .or x47 x50).bind fun x51=>
(ze .and x37 (.int .u8 63)).bind fun x52=>
(ZP .i32 x52).bind fun x53=>
(
  ze .or x51 x53).bind fun x54=>
  some ((.tup [x54,(.int .i64 3)]),[])
else
(Zw a0 (.int .i64 3)).bind fun x55=>
(ze .lss x55 (.int .u8 128)).bind fun x56=>
(asBool x56).bind fun b57=>
((if b57=false then
(
  ze .lss (.int .u8 191) x55).bind fun x58=>
  some x58
else some (.bool true):Option V)).bind fun x59=>
(
  asBool x59).bind fun b60=>
  if b60=true then
  some ((.tup [(.int .i32 65533),(.int .i64 1)]),[])
else
(ze .and x2 (.int .u8 7)).bind fun x61=>
(ZP .i32 x61).bind fun x62=>
(ze .shl x62 (.int .u64 18)).bind fun x63=>
(ze .and x21 (.int .u8 63)).bind fun x64=>
(ZP .i32 x64).bind fun x65=>
(ze .shl x65 (.int .u64 12)).bind fun x66=>
(ze .or x63 x66).bind fun x67=>
(ze .and x37 (.int .u8 63)).bind fun x68=>
(ZP .i32 x68).bind fun x69=>
(ze .shl x69 (.int .u64 6)).bind fun x70=>
(ze .or x67 x70).bind fun x71=>
(ze .and x55 (.int .u8 63)).bind fun x72=>
(ZP .i32 x72).bind fun x73=>
(
  ze .or x71 x73).bind fun x74=>
  some ((.tup [x74,(.int .i64 4)]),[])))
theorem vR(a0:V):P0 zx [.v a0] []=wh a0:=
 (z5 (fn:=v8) _ _ (by kernel_rfl)).trans (by kernel_rfl)
theorem ZQ(as:List PA):P0 xx as []=Xb (kB 1 16) (.ful) as []:=zcI (gl:=gl0) (tab:=ziZ) (f:=xx) as [] rfl rfl
theorem Wh(as:List PA):P0 ww as []=Xb (kB 8 120) (.ful) as []:=zcI (gl:=gl0) (tab:=ziZ) (f:=ww) as [] rfl rfl
theorem Vy(as:List PA):P0 wq as []=Xb (Kh 120) (.gvf 8) as []:=zcI (gl:=gl0) (tab:=ziZ) (f:=wq) as [] rfl rfl
end Go.Ev
