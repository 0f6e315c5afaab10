/- What the functions compute. -/
import Derived.Test.YtnefgdahdccldaaDoorKCode
import Derived.KernelRfl
set_option linter.all false
noncomputable section
namespace Go.Ev
def Vs(a0:V)(a1:V)(a2:V):Option (V×List V):=
(
  yw a0).bind fun n1=>
  if(decide ((n1:Int)>60))=true then
(
  P0 ql [] []).bind fun r2=>
  some (r2.1,[])
else
(
  P0 qQ [.v a0,.v (.int .i64 4)] []).bind fun r3=>
  tst (okN 8 r3.1) ((P0 k9 [.v r3.1,.v a1] []).bind fun r4=>(P0 jO [.v r3.1,.v r4.1] []).bind fun r5=>(zj r5.1 0).bind fun x6=>(
  zj r5.1 1).bind fun x7=>
  tst (okN 8 x6) ((P0 wR [.g,.v r4.1] []).bind fun r8=>(
  slV r8.1).bind fun l9=>
  tst (yi 1 [.str [110,111,119,104,101,114,101],.str [97,116,32,97,108,108]]) (tst (wZ 16 (l9.length) (List.length (α:=V) [.str [110,111,119,104,101,114,101],.str [97,116,32,97,108,108]])) (tst (okN 8 r3.1) ((ze r3.1 0).bind fun c10=>(ze r3.1 1).bind fun c11=>(ze r3.1 2).bind fun c12=>(ze r3.1 3).bind fun c13=>(ze r3.1 4).bind fun c14=>(ze r3.1 5).bind fun c15=>(ze r3.1 6).bind fun c16=>(
  ze r3.1 7).bind fun c17=>
  tst (okN 8 r3.1) ((ze r3.1 0).bind fun c18=>(ze r3.1 1).bind fun c19=>(ze r3.1 2).bind fun c20=>(ze r3.1 3).bind fun c21=>(ze r3.1 4).bind fun c22=>(ze r3.1 5).bind fun c23=>(ze r3.1 6).bind fun c24=>(
  ze r3.1 7).bind fun c25=>
  tst (okN 1 r4.1) ((ze r4.1 0).bind fun c26=>
  tst (okN 1 r4.1) ((ze r4.1 0).bind fun c27=>(P0 wR [.g,.v r4.1] []).bind fun r28=>(
  slV r28.1).bind fun l29=>
  tst (yi 1 [.str [105,110]]) (tst (wZ 16 (l29.length) (List.length (α:=V) [.str [105,110]])) (tst (okN 1 r4.1) ((ze r4.1 0).bind fun c30=>
  tst (okN 8 x6) (tst (okN 8 x6) (tst (okN 1 r4.1) ((ze r4.1 0).bind fun c31=>(P0 xF [.v a2,.v (.int .i64 8)] []).bind fun r32=>(
  zjE true 8 11 (.agg [.int .i64 2,.sl [],.sl [],.int .i64 0,.bool false,.bool false,.sl [],.int .i64 0,.str [],.sl [],.sl [],.int .i64 2,(.sl (l9++([.str [110,111,119,104,101,114,101],.str [97,116,32,97,108,108]]:List V))),.sl [],.int .i64 0,.bool false,.bool false,.sl [],.int .i64 0,.str [],.sl [],.sl [],.int .i64 3,(.sl (l9++([.str [110,111,119,104,101,114,101],.str [97,116,32,97,108,108]]:List V))),.sl [],c10,c11,c12,c13,c14,c15,c16,c17,.int .i64 1,(.sl (l9++([.str [110,111,119,104,101,114,101],.str [97,116,32,97,108,108]]:List V))),.sl [],c18,c19,c20,c21,c22,c23,c24,c25,.int .i64 5,c26,(.sl (l9++([.str [110,111,119,104,101,114,101],.str [97,116,32,97,108,108]]:List V))),.int .i64 0,.bool false,.bool false,.sl [],.int .i64 0,.str [],.sl [],.sl [],.int .i64 4,c27,(.sl (l9++([.str [110,111,119,104,101,114,101],.str [97,116,32,97,108,108]]:List V))),.int .i64 0,.bool false,.bool false,.sl [],.int .i64 0,.str [],.sl [],.sl [],.int .i64 4,(.sl (l29++([.str [105,110]]:List V))),c30,.int .i64 0,.bool false,.bool false,.sl [],.int .i64 0,.str [],.sl [],.sl [],.int .i64 6,c31,.sl [],.int .i64 6,.bool false,.bool false,.sl [],.int .i64 0,.str [],.sl [],.sl [x6,x6]]) r32.1).bind fun x33=>
  tst (okN 11 x33) ((((ze x33 0).bind fun c34=>(zc .eql c34 (.int .i64 6)).bind fun x35=>(asBool x35).bind fun b36=>((if b36=true then
(
  unV .not x7).bind fun x37=>
  some x37
else some (.bool false):Option V)).bind fun x38=>(
  asBool x38).bind fun b39=>
  if b39=true then
(ze x33 0).bind fun c40=>(ze x33 1).bind fun c41=>(ze x33 2).bind fun c42=>(ze x33 3).bind fun c43=>(ze x33 4).bind fun c44=>(ze x33 5).bind fun c45=>(ze x33 6).bind fun c46=>(ze x33 7).bind fun c47=>(ze x33 8).bind fun c48=>(ze x33 9).bind fun c49=>(
  ze x33 10).bind fun c50=>
  some (0,(vec [c40,c41,c42,.int .i64 1,.bool false,.bool false,.sl [],.int .i64 0,.str [],.sl [],.sl []]))
else
(ze x33 0).bind fun c51=>(ze x33 1).bind fun c52=>(ze x33 2).bind fun c53=>(ze x33 3).bind fun c54=>(ze x33 4).bind fun c55=>(ze x33 5).bind fun c56=>(ze x33 6).bind fun c57=>(ze x33 7).bind fun c58=>(ze x33 8).bind fun c59=>(ze x33 9).bind fun c60=>(
  ze x33 10).bind fun c61=>
  some (0,(vec [c51,c52,c53,c54,c55,c56,c57,c58,c59,c60,c61])):Option (Nat×(Nat->V)))).bind fun o62=>(P0 jm [.v r3.1,.v (.agg [(o62.2 0),(o62.2 1),(o62.2 2),(o62.2 3),(o62.2 4),(o62.2 5),(o62.2 6),(o62.2 7),(o62.2 8),(o62.2 9),(o62.2 10)])] []).bind fun r63=>(zj r63.1 0).bind fun x64=>(
  zj r63.1 1).bind fun x65=>
  tst (okN 8 x64) (tst (okN 11 (.agg [(o62.2 0),(o62.2 1),(o62.2 2),(o62.2 3),(o62.2 4),(o62.2 5),(o62.2 6),(o62.2 7),(o62.2 8),(o62.2 9),(o62.2 10)])) ((P0 vn [.v r3.1,.v (.sl [.agg [(o62.2 0),(o62.2 1),(o62.2 2),(o62.2 3),(o62.2 4),(o62.2 5),(o62.2 6),(o62.2 7),(o62.2 8),(o62.2 9),(o62.2 10)]]),.v (.int .i64 100000)] []).bind fun r66=>(zj r66.1 0).bind fun x67=>(zj r66.1 1).bind fun x68=>(
  zj r66.1 2).bind fun x69=>
  tst (okN 8 x67) ((unV .not x65).bind fun x70=>(asBool x70).bind fun b71=>((if b71=true then
(
  P0 yY [.v x64,.v (.agg [.int .i64 0,.bool false,.bool false,.sl [],.int .i64 0,.str [],.sl [],.sl []])] []).bind fun r72=>
  some r72.1
else some (.bool false):Option V)).bind fun x73=>(asBool x73).bind fun b74=>((if b74=true then
(
  zc .eql x69 (.int .i64 5)).bind fun x75=>
  some x75
else some (.bool false):Option V)).bind fun x76=>(asBool x76).bind fun b77=>((if b77=true then
(
  zc .eql x68 (.int .i64 0)).bind fun x78=>
  some x78
else some (.bool false):Option V)).bind fun x79=>(asBool x79).bind fun b80=>((if b80=true then
(
  P0 yY [.v x67,.v (.agg [.int .i64 0,.bool false,.bool false,.sl [],.int .i64 0,.str [],.sl [],.sl []])] []).bind fun r81=>
  some r81.1
else some (.bool false):Option V)).bind fun x82=>(asBool x82).bind fun b83=>((if b83=true then
(
  P0 ql [] []).bind fun r84=>
  some r84.1
else some (.bool false):Option V)).bind fun x85=>some (x85,[])))))))))))))))))))
theorem zcE(a0:V)(a1:V)(a2:V):P0 vt [.v a0,.v a1,.v a2] []=Vs a0 a1 a2:=
 pq (fn:=Z1) (by kernel_rfl) (by kernel_rfl)
def zay(a0:V)(a1:V):Option (V×List V):=
(zc .rem a0 a1).bind fun x1=>(zc .lss x1 (.int .i64 0)).bind fun x2=>(
  asBool x2).bind fun b3=>
  if b3=true then
(
  zc .add x1 a1).bind fun x4=>
  some (x4,[])
else
 some (x1,[])
theorem ziN(a0:V)(a1:V):P0 xF [.v a0,.v a1] []=zay a0 a1:=
 pq (fn:=Vf) (by kernel_rfl) (by kernel_rfl)
def zlb(a0:V)(a1:V):Option (V×List V):=
 tst (okN 8 a0) (tst (okN 11 a1) ((P0 wo [.v a0,.v a1] []).bind fun r1=>(zj r1.1 0).bind fun x2=>(
  asBool x2).bind fun b3=>
  if b3=true then
(
  zj r1.1 1).bind fun x4=>
  tst (okN 8 x4) ((P0 qK [.p 0 0,.p 1 0,.v .nili] [(false,8,x4),(false,1,(.bool true))]).bind fun r5=>(r5.2[0]?).bind fun y6=>(
  r5.2[1]?).bind fun y7=>
  some ((.tup [y6,y7]),[]))
else
(zj r1.1 1).bind fun x8=>(P0 qK [.p 0 0,.p 1 0,.v x8] [(false,8,(.agg [.int .i64 0,.bool false,.bool false,.sl [],.int .i64 0,.str [],.sl [],.sl []])),(false,1,(.bool false))]).bind fun r9=>(r9.2[0]?).bind fun y10=>(
  r9.2[1]?).bind fun y11=>
  some ((.tup [y10,y11]),[])))
theorem zq9(a0:V)(a1:V):P0 jm [.v a0,.v a1] []=zlb a0 a1:=
 pq (fn:=zev) (by kernel_rfl) (by kernel_rfl)
def zaq:Option (V×List V):=
(P0 vn [.v (.agg [.int .i64 7,.bool false,.bool false,.sl [],.int .i64 0,.str [],(.sl [.str [97]]),(.sl [(.agg [.int .i64 6,.bool false,.bool false,.sl [],.int .i64 0,.str [],.sl [],(.sl [(.agg [.int .i64 1,.bool false,.bool false,.sl [],.int .i64 0,.str [],.sl [],.sl []])])])])]),.v (.sl [(.agg [.int .i64 1,(.sl [.str [97],.str [45]]),.sl [],.int .i64 2,.bool false,.bool false,.sl [],.int .i64 0,.str [],.sl [],.sl []])]),.v (.int .i64 100)] []).bind fun r1=>(zj r1.1 0).bind fun x2=>(zj r1.1 1).bind fun x3=>(
  zj r1.1 2).bind fun x4=>
  tst (okN 8 x2) ((zc .eql x4 (.int .i64 0)).bind fun x5=>(asBool x5).bind fun b6=>((if b6=true then
(
  zc .eql x3 (.int .i64 (-1))).bind fun x7=>
  some x7
else some (.bool false):Option V)).bind fun x8=>(asBool x8).bind fun b9=>((if b9=true then
(ze x2 7).bind fun c10=>(
  yw c10).bind fun n11=>
  some (.bool ((n11:Int)==1))
else some (.bool false):Option V)).bind fun x12=>(asBool x12).bind fun b13=>((if b13=true then
(ze x2 7).bind fun c14=>(yN 8 c14).bind fun l15=>(y3 (.int .i64 0) (l15.length)).bind fun i17=>(l15[i17]?).bind fun e18=>(ze e18 7).bind fun c19=>(
  yw c19).bind fun n20=>
  some (.bool ((n20:Int)==2))
else some (.bool false):Option V)).bind fun x21=>(asBool x21).bind fun b22=>((if b22=true then
(ze x2 7).bind fun c23=>(yN 8 c23).bind fun l24=>(y3 (.int .i64 0) (l24.length)).bind fun i25=>(l24[i25]?).bind fun e26=>(ze e26 7).bind fun c27=>(yN 8 c27).bind fun l28=>(y3 (.int .i64 1) (l28.length)).bind fun i29=>(l28[i29]?).bind fun e30=>(ze e30 0).bind fun c31=>(
  zc .eql c31 (.int .i64 2)).bind fun x32=>
  some x32
else some (.bool false):Option V)).bind fun x33=>some (x33,[]))
theorem ziT:P0 ql [] []=zaq:=
 pq (fn:=WT) (by kernel_rfl) (by kernel_rfl)
def zb0(a0:V)(a1:V):Option (V×List V):=
(P0 vg [.v a0,.v a1] []).bind fun r1=>(zj r1.1 0).bind fun x2=>(
  zj r1.1 1).bind fun x3=>
  tst (okN 8 x2) (tst (okN 8 x2) (some (x2,[])))
theorem zjA(a0:V)(a1:V):P0 qQ [.v a0,.v a1] []=zb0 a0 a1:=
 pq (fn:=QS) (by kernel_rfl) (by kernel_rfl)
def yI(a1:V)(v1:Nat->V):Option ((Nat->V) ⊕ (Nat×(Nat->V))):=
(yw a1).bind fun n2=>(zc .lss (v1 1) (.int .i64 ((n2:Nat):Int))).bind fun x3=>(asBool x3).bind fun b4=>((if b4=true then
(
  zc .lss (v1 1) (.int .i64 4)).bind fun x5=>
  some x5
else some (.bool false):Option V)).bind fun x6=>(
  asBool x6).bind fun b7=>
  if b7=true then
(yN 1 a1).bind fun l8=>(y3 (v1 1) (l8.length)).bind fun i9=>(l8[i9]?).bind fun e10=>(ze e10 0).bind fun c11=>(P0 xF [.v c11,.v (.int .i64 1048576)] []).bind fun r12=>(zc .rem r12.1 (.int .i64 5)).bind fun x13=>(zc .eql x13 (.int .i64 0)).bind fun x14=>(asBool x14).bind fun b15=>((if b15=false then
(ze (v1 2) 7).bind fun c16=>(
  yw c16).bind fun n17=>
  some (.bool ((n17:Int)==0))
else some (.bool true):Option V)).bind fun x18=>(asBool x18).bind fun b19=>((if b19=false then
(ze (v1 2) 0).bind fun c20=>(zc .neq c20 (.int .i64 7)).bind fun x21=>(asBool x21).bind fun b22=>((if b22=true then
(ze (v1 2) 0).bind fun c23=>(
  zc .neq c23 (.int .i64 6)).bind fun x24=>
  some x24
else some (.bool false):Option V)).bind fun x25=>some x25
else some (.bool true):Option V)).bind fun x26=>(
  asBool x26).bind fun b27=>
  if b27=true then
(zc .rem r12.1 (.int .i64 3)).bind fun x28=>(zc .eql x28 (.int .i64 0)).bind fun x29=>(
  asBool x29).bind fun b30=>
  if b30=true then
(zc .quo r12.1 (.int .i64 15)).bind fun x31=>(zc .rem x31 (.int .i64 5)).bind fun x32=>(
  zjE false 5 1 (.agg [.str [97],.str [48],.str [45],.str [110,101,119],.str [50]]) x32).bind fun x33=>
  tst (okN 1 x33) ((ze x33 0).bind fun c34=>
  tst (yi 1 [c34]) (tst (wZ 16 ((V.elems (v1 0)).length) (List.length (α:=V) [c34])) (some (.inr (1,(vec [(.sl ((V.elems (v1 0))++([c34]:List V))),(v1 2)]))))))
else
 some (.inr (1,(vec [(.sl (V.elems (v1 0))),(v1 2)])))
else
(zc .quo r12.1 (.int .i64 5)).bind fun x35=>(ze (v1 2) 7).bind fun c36=>(yw c36).bind fun n37=>(zc .rem x35 (.int .i64 ((n37:Nat):Int))).bind fun x38=>(((ze (v1 2) 0).bind fun c39=>(zc .eql c39 (.int .i64 7)).bind fun x40=>(
  asBool x40).bind fun b41=>
  if b41=true then
(ze (v1 2) 6).bind fun c42=>(yN 1 c42).bind fun l43=>(y3 x38 (l43.length)).bind fun i44=>(l43[i44]?).bind fun e45=>(
  ze e45 0).bind fun c46=>
  tst (okN 1 c46) ((ze c46 0).bind fun c47=>
  tst (yi 1 [c47]) (tst (wZ 16 ((V.elems (v1 0)).length) (List.length (α:=V) [c47])) (some (0,(vec [(.sl ((V.elems (v1 0))++([c47]:List V)))])))))
else
(zc .rem x38 (.int .i64 10)).bind fun x48=>(
  zjE false 10 1 (.agg [.str [48],.str [49],.str [50],.str [51],.str [52],.str [53],.str [54],.str [55],.str [56],.str [57]]) x48).bind fun x49=>
  tst (okN 1 x49) ((ze x49 0).bind fun c50=>
  tst (yi 1 [c50]) (tst (wZ 16 ((V.elems (v1 0)).length) (List.length (α:=V) [c50])) (some (0,(vec [(.sl ((V.elems (v1 0))++([c50]:List V)))]))))):Option (Nat×(Nat->V)))).bind fun o51=>(ze (v1 2) 7).bind fun c52=>(yN 8 c52).bind fun l53=>(y3 x38 (l53.length)).bind fun i54=>(
  l53[i54]?).bind fun e55=>
  tst (okN 8 e55) ((zc .add (v1 1) (.int .i64 1)).bind fun x56=>
  some (.inl (vec [(.sl (V.elems (o51.2 0))),x56,e55])))
else
 some (.inr (0,(vec [(.sl (V.elems (v1 0))),(v1 2)])))
def zfH(a0:V)(a1:V):Option (V×List V):=
 tst (okN 8 a0) ((zr (yI a1) (vec [.sl [],.int .i64 0,a0])).bind fun o57=>
 if o57.1=0 then
 some ((.sl (V.elems (o57.2 0))),[])
else
 some ((.sl (V.elems (o57.2 0))),[]))
theorem znh(a0:V)(a1:V):P0 k9 [.v a0,.v a1] []=zfH a0 a1:=
 pq (fn:=Kq) (by kernel_rfl) (by kernel_rfl)
def kr(a1:V)(v1:Nat->V):Option ((Nat->V) ⊕ (Nat×(Nat->V))):=
(yw a1).bind fun n2=>(zc .lss (v1 0) (.int .i64 ((n2:Nat):Int))).bind fun x3=>(
  asBool x3).bind fun b4=>
  if b4=true then
(yN 1 a1).bind fun l5=>(y3 (v1 0) (l5.length)).bind fun i6=>(l5[i6]?).bind fun e7=>(ze e7 0).bind fun c8=>(P0 jg [.v (v1 1),.v c8] []).bind fun r9=>(zj r9.1 0).bind fun x10=>(
  zj r9.1 1).bind fun x11=>
  tst (okN 8 x10) ((unV .not x11).bind fun x12=>(
  asBool x12).bind fun b13=>
  if b13=true then
  some (.inr (1,(vec [.bool false,(v1 1),.int .i64 0,.bool false,.bool false,.sl [],.int .i64 0,.str [],.sl [],.sl []])))
else
 tst (okN 8 x10) ((zc .add (v1 0) (.int .i64 1)).bind fun x14=>
 some (.inl (vec [x14,x10,(v1 2),(v1 3),(v1 4),(v1 5),(v1 6),(v1 7),(v1 8),(v1 9)]))))
else
 some (.inr (0,(vec [(v1 1),.agg [(v1 2),(v1 3),(v1 4),(v1 5),(v1 6),(v1 7),(v1 8),(v1 9)]])))
def zeZ(a0:V)(a1:V):Option (V×List V):=
 tst (okN 8 a0) ((zr (kr a1) (vec [.int .i64 0,a0,.int .i64 0,.bool false,.bool false,.sl [],.int .i64 0,.str [],.sl [],.sl []])).bind fun o15=>
 if o15.1=0 then
 tst (okN 8 (o15.2 0)) (some ((.tup [(o15.2 0),.bool true]),[]))
else
 some ((.tup [.agg [(o15.2 2),(o15.2 3),(o15.2 4),(o15.2 5),(o15.2 6),(o15.2 7),(o15.2 8),(o15.2 9)],(o15.2 0)]),[]))
theorem zmU(a0:V)(a1:V):P0 jO [.v a0,.v a1] []=zeZ a0 a1:=
 pq (fn:=Kf) (by kernel_rfl) (by kernel_rfl)
def Jc(a0:V):Option (V×List V):=
(
  zds 1 a0).bind fun l1=>
  tst (wZ 16 (List.length (α:=V) []) (l1.length)) (some ((.sl (([]:List V)++l1)),[]))
theorem zey(a0:V):P0 wR [.g,.v a0] []=Jc a0:=
 pq (fn:=Q8) (by kernel_rfl) (by kernel_rfl)
def wv(n8:Nat)(a1:V)(a2:V)(v9:Nat->V):Option ((Nat->V) ⊕ (Nat×(Nat->V))):=
(zc .lss (v9 0) (.int .i64 ((n8:Nat):Int))).bind fun x10=>(
  asBool x10).bind fun b11=>
  if b11=true then
(yN 11 a1).bind fun l12=>(y3 (v9 0) (l12.length)).bind fun i13=>(
  l12[i13]?).bind fun e14=>
  tst (okN 11 e14) ((P0 jm [.v (v9 1),.v e14] []).bind fun r15=>(zj r15.1 0).bind fun x16=>(
  zj r15.1 1).bind fun x17=>
  tst (okN 8 x16) ((unV .not x17).bind fun x18=>(
  asBool x18).bind fun b19=>
  if b19=true then
  some (.inr (1,(vec [(v9 0),.int .i64 5,(v9 1),.int .i64 0,.bool false,.bool false,.sl [],.int .i64 0,.str [],.sl [],.sl []])))
else
(P0 Yb [.v x16,.v a2] []).bind fun r20=>(unV .not r20.1).bind fun x21=>(
  asBool x21).bind fun b22=>
  if b22=true then
  some (.inr (1,(vec [(v9 0),.int .i64 4,(v9 1),.int .i64 0,.bool false,.bool false,.sl [],.int .i64 0,.str [],.sl [],.sl []])))
else
 tst (okN 8 x16) ((zc .add (v9 0) (.int .i64 1)).bind fun x23=>
 some (.inl (vec [x23,x16,(v9 2),(v9 3),(v9 4),(v9 5),(v9 6),(v9 7),(v9 8),(v9 9)])))))
else
 some (.inr (0,(vec [(v9 1),.agg [(v9 2),(v9 3),(v9 4),(v9 5),(v9 6),(v9 7),(v9 8),(v9 9)]])))
def Kh(a0:V)(a1:V)(a2:V):Option (V×List V):=
 tst (okN 8 a0) ((P0 xo [.v a0] []).bind fun r1=>(unV .not r1.1).bind fun x2=>(asBool x2).bind fun b3=>((if b3=false then
(P0 jM [.v a1] []).bind fun r4=>(
  unV .not r4.1).bind fun x5=>
  some x5
else some (.bool true):Option V)).bind fun x6=>(
  asBool x6).bind fun b7=>
  if b7=true then
  some ((.tup [(.agg [.int .i64 0,.bool false,.bool false,.sl [],.int .i64 0,.str [],.sl [],.sl []]),(.int .i64 (-1)),.int .i64 1]),[])
else
(yw a1).bind fun n8=>(
  zr (wv n8 a1 a2) (vec [.int .i64 0,a0,.int .i64 0,.bool false,.bool false,.sl [],.int .i64 0,.str [],.sl [],.sl []])).bind fun o24=>
  if o24.1=0 then
  tst (okN 8 (o24.2 0)) (some ((.tup [(o24.2 0),(.int .i64 (-1)),.int .i64 0]),[]))
else
 some ((.tup [.agg [(o24.2 3),(o24.2 4),(o24.2 5),(o24.2 6),(o24.2 7),(o24.2 8),(o24.2 9),(o24.2 10)],(o24.2 0),(o24.2 1)]),[]))
theorem zcp(a0:V)(a1:V)(a2:V):P0 vn [.v a0,.v a1,.v a2] []=Kh a0 a1 a2:=
 pq (fn:=Jx) (by kernel_rfl) (by kernel_rfl)
def qO(a0:V)(a1:V)(v32:Nat->V):Option ((Nat->V) ⊕ (Nat×(Nat->V))):=
(ze a0 7).bind fun c33=>(yw c33).bind fun n34=>(zc .lss (v32 0) (.int .i64 ((n34:Nat):Int))).bind fun x35=>(
  asBool x35).bind fun b36=>
  if b36=true then
(ze a0 7).bind fun c37=>(yN 8 c37).bind fun l38=>(y3 (v32 0) (l38.length)).bind fun i39=>(l38[i39]?).bind fun e40=>(ze a1 7).bind fun c41=>(yN 8 c41).bind fun l42=>(y3 (v32 0) (l42.length)).bind fun i43=>(l42[i43]?).bind fun e44=>(P0 yY [.v e40,.v e44] []).bind fun r45=>(unV .not r45.1).bind fun x46=>(
  asBool x46).bind fun b47=>
  if b47=true then
  some (.inr (1,(vec [.bool false])))
else
(
  zc .add (v32 0) (.int .i64 1)).bind fun x48=>
  some (.inl (vec [x48]))
else
 some (.inr (0,(vec [])))
def VA(a0:V)(a1:V):Option (V×List V):=
 tst (okN 8 a0) (tst (okN 8 a1) ((ze a0 0).bind fun c1=>(ze a1 0).bind fun c2=>(zc .neq c1 c2).bind fun x3=>(asBool x3).bind fun b4=>((if b4=false then
(ze a0 1).bind fun c5=>(ze a1 1).bind fun c6=>(asBool c5).bind fun b7=>(
  asBool c6).bind fun b8=>
  some (.bool (!(b7==b8)))
else some (.bool true):Option V)).bind fun x9=>(asBool x9).bind fun b10=>((if b10=false then
(P0 v6 [.v (Wi a0 2 3),.v (Wi a1 2 3)] []).bind fun r11=>(
  unV .not r11.1).bind fun x12=>
  some x12
else some (.bool true):Option V)).bind fun x13=>(asBool x13).bind fun b14=>((if b14=false then
(ze a0 5).bind fun c15=>(ze a1 5).bind fun c16=>(
  zc .neq c15 c16).bind fun x17=>
  some x17
else some (.bool true):Option V)).bind fun x18=>(asBool x18).bind fun b19=>((if b19=false then
(ze a0 6).bind fun c20=>(ze a1 6).bind fun c21=>(P0 xY [.v c20,.v c21] []).bind fun r22=>(
  unV .not r22.1).bind fun x23=>
  some x23
else some (.bool true):Option V)).bind fun x24=>(asBool x24).bind fun b25=>((if b25=false then
(ze a0 7).bind fun c26=>(yw c26).bind fun n27=>(ze a1 7).bind fun c28=>(
  yw c28).bind fun n29=>
  some (.bool ((n27:Int) != ((n29:Nat):Int)))
else some (.bool true):Option V)).bind fun x30=>(
  asBool x30).bind fun b31=>
  if b31=true then
  some ((.bool false),[])
else
(
  zr (qO a0 a1) (vec [.int .i64 0])).bind fun o49=>
  if o49.1=0 then
  some ((.bool true),[])
else
 some ((o49.2 0),[])))
theorem zct(a0:V)(a1:V):P0 yY [.v a0,.v a1] []=VA a0 a1:=
 pq (fn:=Z5) (by kernel_rfl) (by kernel_rfl)
def J3(a0:V)(a1:V)(a2:V):Option (V×List V):=
(zaF true a2).bind fun x1=>(
  asBool x1).bind fun b2=>
  if b2=true then
(zza 52 true a2).bind fun x3=>(zj x3 0).bind fun x4=>(
  zj x3 1).bind fun x5=>
  tst (okN 0 x4) ((unV .not x5).bind fun x6=>(
  asBool x6).bind fun b7=>
  if b7=true then
(zaF true a2).bind fun x8=>(
  asBool x8).bind fun b9=>
  if b9=true then
  none
else
 none
else
 some ((.tup []),[(.agg [.int .i64 0,.bool false,.bool false,.sl [],.int .i64 0,.str [],.sl [],.sl []]),.bool false]))
else
 some ((.tup []),[a0,a1])
theorem zcu(a0:V)(a1:V)(a2:V):P0 qK [.p 0 0,.p 1 0,.v a2] [(false,8,a0),(false,1,a1)]=J3 a0 a1 a2:=
 pq (fn:=Ky) (by kernel_rfl) (by kernel_rfl)
def kI(a0:V)(a1:V):Option (V×List V):=
 tst (okN 8 a0) (tst (okN 11 a1) ((ze a1 0).bind fun c1=>(zc .eql c1 (.int .i64 1)).bind fun x2=>(
  asBool x2).bind fun b3=>
  if b3=true then
(ze a1 1).bind fun c4=>(P0 Xy [.v a0,.v c4,.v (Wi a1 3 8)] []).bind fun r5=>(zj r5.1 0).bind fun x6=>(
  asBool x6).bind fun b7=>
  if b7=true then
(
  zj r5.1 1).bind fun x8=>
  tst (okN 8 x8) (some ((.tup [.bool true,x8]),[]))
else
(
  zj r5.1 1).bind fun x9=>
  some ((.tup [.bool false,x9]),[])
else
(zc .eql c1 (.int .i64 2)).bind fun x10=>(
  asBool x10).bind fun b11=>
  if b11=true then
(ze a1 1).bind fun c12=>(P0 Zc [.v a0,.v c12] []).bind fun r13=>(zj r13.1 0).bind fun x14=>(
  asBool x14).bind fun b15=>
  if b15=true then
(
  zj r13.1 1).bind fun x16=>
  tst (okN 8 x16) (some ((.tup [.bool true,x16]),[]))
else
(
  zj r13.1 1).bind fun x17=>
  some ((.tup [.bool false,x17]),[])
else
(zc .eql c1 (.int .i64 3)).bind fun x18=>(
  asBool x18).bind fun b19=>
  if b19=true then
(ze a1 1).bind fun c20=>(P0 kX [.v a0,.v c20,.v (Wi a1 3 8)] []).bind fun r21=>(zj r21.1 0).bind fun x22=>(
  asBool x22).bind fun b23=>
  if b23=true then
(
  zj r21.1 1).bind fun x24=>
  tst (okN 8 x24) (some ((.tup [.bool true,x24]),[]))
else
(
  zj r21.1 1).bind fun x25=>
  some ((.tup [.bool false,x25]),[])
else
(zc .eql c1 (.int .i64 4)).bind fun x26=>(
  asBool x26).bind fun b27=>
  if b27=true then
(ze a1 2).bind fun c28=>(ze a1 1).bind fun c29=>(P0 V0 [.v a0,.v c28,.v c29] []).bind fun r30=>(zj r30.1 0).bind fun x31=>(
  asBool x31).bind fun b32=>
  if b32=true then
(
  zj r30.1 1).bind fun x33=>
  tst (okN 8 x33) (some ((.tup [.bool true,x33]),[]))
else
(
  zj r30.1 1).bind fun x34=>
  some ((.tup [.bool false,x34]),[])
else
(zc .eql c1 (.int .i64 5)).bind fun x35=>(
  asBool x35).bind fun b36=>
  if b36=true then
(ze a1 1).bind fun c37=>(ze a1 2).bind fun c38=>(P0 qy [.v a0,.v c38] []).bind fun r39=>(zj r39.1 0).bind fun x40=>(
  asBool x40).bind fun b41=>
  if b41=true then
(zj r39.1 1).bind fun x42=>(P0 Xy [.v a0,.v c37,.v x42] []).bind fun r43=>(zj r43.1 0).bind fun x44=>(
  asBool x44).bind fun b45=>
  if b45=true then
(
  zj r43.1 1).bind fun x46=>
  tst (okN 8 x46) (some ((.tup [.bool true,x46]),[]))
else
(
  zj r43.1 1).bind fun x47=>
  some ((.tup [.bool false,x47]),[])
else
(
  zj r39.1 1).bind fun x48=>
  some ((.tup [.bool false,x48]),[])
else
(ze a1 0).bind fun c49=>(zc .eql c49 (.int .i64 6)).bind fun x50=>(
  asBool x50).bind fun b51=>
  if b51=true then
(
  asBool x50).bind fun b52=>
  if b52=true then
(
  asBool x50).bind fun b53=>
  if b53=true then
(ze a1 1).bind fun c54=>(
  asBool x50).bind fun b55=>
  if b55=true then
(
  asBool x50).bind fun b56=>
  if b56=true then
(
  asBool x50).bind fun b57=>
  if b57=true then
(P0 qy [.v a0,.v c54] []).bind fun r58=>(zj r58.1 0).bind fun x59=>(
  asBool x59).bind fun b60=>
  if b60=true then
(zj r58.1 1).bind fun x61=>(asBool x50).bind fun b62=>((if b62=true then
(
  P0 wc [.v x61,.v (Wi a1 3 8)] []).bind fun r63=>
  some r63.1
else some (.bool false):Option V)).bind fun x64=>(P0 yb [.v x64] []).bind fun r65=>(zj r65.1 0).bind fun x66=>(
  asBool x66).bind fun b67=>
  if b67=true then
(
  zj r65.1 1).bind fun x68=>
  tst (okN 8 a0) (some ((.tup [.bool true,a0]),[]))
else
(
  zj r65.1 1).bind fun x69=>
  some ((.tup [.bool false,x69]),[])
else
(
  zj r58.1 1).bind fun x70=>
  some ((.tup [.bool false,x70]),[])
else
(asBool x50).bind fun b71=>((if b71=true then
(P0 Xz [.v a0,.v c54] []).bind fun r72=>(
  P0 wc [.v r72.1,.v (Wi a1 3 8)] []).bind fun r73=>
  some r73.1
else some (.bool false):Option V)).bind fun x74=>(P0 yb [.v x74] []).bind fun r75=>(zj r75.1 0).bind fun x76=>(
  asBool x76).bind fun b77=>
  if b77=true then
(
  zj r75.1 1).bind fun x78=>
  tst (okN 8 a0) (some ((.tup [.bool true,a0]),[]))
else
(
  zj r75.1 1).bind fun x79=>
  some ((.tup [.bool false,x79]),[])
else
(
  asBool x50).bind fun b80=>
  if b80=true then
(P0 qy [.v a0,.v c54] []).bind fun r81=>(zj r81.1 0).bind fun x82=>(
  asBool x82).bind fun b83=>
  if b83=true then
(zj r81.1 1).bind fun x84=>(asBool x50).bind fun b85=>(
  (if b85=true then
  none
else some (.bool false):Option V)).bind fun x86=>(P0 yb [.v x86] []).bind fun r87=>(zj r87.1 0).bind fun x88=>(
  asBool x88).bind fun b89=>
  if b89=true then
(
  zj r87.1 1).bind fun x90=>
  tst (okN 8 a0) (some ((.tup [.bool true,a0]),[]))
else
(
  zj r87.1 1).bind fun x91=>
  some ((.tup [.bool false,x91]),[])
else
(
  zj r81.1 1).bind fun x92=>
  some ((.tup [.bool false,x92]),[])
else
(asBool x50).bind fun b93=>((if b93=true then
(
  P0 Xz [.v a0,.v c54] []).bind fun r94=>
  none
else some (.bool false):Option V)).bind fun x95=>(P0 yb [.v x95] []).bind fun r96=>(zj r96.1 0).bind fun x97=>(
  asBool x97).bind fun b98=>
  if b98=true then
(
  zj r96.1 1).bind fun x99=>
  tst (okN 8 a0) (some ((.tup [.bool true,a0]),[]))
else
(
  zj r96.1 1).bind fun x100=>
  some ((.tup [.bool false,x100]),[])
else
(
  asBool x50).bind fun b101=>
  if b101=true then
  none
else
(
  asBool x50).bind fun b102=>
  if b102=true then
(P0 qy [.v a0,.v c54] []).bind fun r103=>(zj r103.1 0).bind fun x104=>(
  asBool x104).bind fun b105=>
  if b105=true then
(zj r103.1 1).bind fun x106=>(asBool x50).bind fun b107=>(
  (if b107=true then
  none
else some (.bool false):Option V)).bind fun x108=>(P0 yb [.v x108] []).bind fun r109=>(zj r109.1 0).bind fun x110=>(
  asBool x110).bind fun b111=>
  if b111=true then
(
  zj r109.1 1).bind fun x112=>
  tst (okN 8 a0) (some ((.tup [.bool true,a0]),[]))
else
(
  zj r109.1 1).bind fun x113=>
  some ((.tup [.bool false,x113]),[])
else
(
  zj r103.1 1).bind fun x114=>
  some ((.tup [.bool false,x114]),[])
else
(asBool x50).bind fun b115=>((if b115=true then
(
  P0 Xz [.v a0,.v c54] []).bind fun r116=>
  none
else some (.bool false):Option V)).bind fun x117=>(P0 yb [.v x117] []).bind fun r118=>(zj r118.1 0).bind fun x119=>(
  asBool x119).bind fun b120=>
  if b120=true then
(
  zj r118.1 1).bind fun x121=>
  tst (okN 8 a0) (some ((.tup [.bool true,a0]),[]))
else
(
  zj r118.1 1).bind fun x122=>
  some ((.tup [.bool false,x122]),[])
else
(
  asBool x50).bind fun b123=>
  if b123=true then
(
  asBool x50).bind fun b124=>
  if b124=true then
(
  asBool x50).bind fun b125=>
  if b125=true then
  none
else
(asBool x50).bind fun b126=>(
  (if b126=true then
  none
else some (.bool false):Option V)).bind fun x127=>(P0 yb [.v x127] []).bind fun r128=>(zj r128.1 0).bind fun x129=>(
  asBool x129).bind fun b130=>
  if b130=true then
(
  zj r128.1 1).bind fun x131=>
  tst (okN 8 a0) (some ((.tup [.bool true,a0]),[]))
else
(
  zj r128.1 1).bind fun x132=>
  some ((.tup [.bool false,x132]),[])
else
(
  asBool x50).bind fun b133=>
  if b133=true then
  none
else
(asBool x50).bind fun b134=>(
  (if b134=true then
  none
else some (.bool false):Option V)).bind fun x135=>(P0 yb [.v x135] []).bind fun r136=>(zj r136.1 0).bind fun x137=>(
  asBool x137).bind fun b138=>
  if b138=true then
(
  zj r136.1 1).bind fun x139=>
  tst (okN 8 a0) (some ((.tup [.bool true,a0]),[]))
else
(
  zj r136.1 1).bind fun x140=>
  some ((.tup [.bool false,x140]),[])
else
(
  asBool x50).bind fun b141=>
  if b141=true then
  none
else
(
  asBool x50).bind fun b142=>
  if b142=true then
  none
else
(asBool x50).bind fun b143=>(
  (if b143=true then
  none
else some (.bool false):Option V)).bind fun x144=>(P0 yb [.v x144] []).bind fun r145=>(zj r145.1 0).bind fun x146=>(
  asBool x146).bind fun b147=>
  if b147=true then
(
  zj r145.1 1).bind fun x148=>
  tst (okN 8 a0) (some ((.tup [.bool true,a0]),[]))
else
(
  zj r145.1 1).bind fun x149=>
  some ((.tup [.bool false,x149]),[])
else
(
  asBool x50).bind fun b150=>
  if b150=true then
  none
else
(
  asBool x50).bind fun b151=>
  if b151=true then
(
  asBool x50).bind fun b152=>
  if b152=true then
(
  asBool x50).bind fun b153=>
  if b153=true then
  none
else
(asBool x50).bind fun b154=>(
  (if b154=true then
  none
else some (.bool false):Option V)).bind fun x155=>(P0 yb [.v x155] []).bind fun r156=>(zj r156.1 0).bind fun x157=>(
  asBool x157).bind fun b158=>
  if b158=true then
(
  zj r156.1 1).bind fun x159=>
  tst (okN 8 a0) (some ((.tup [.bool true,a0]),[]))
else
(
  zj r156.1 1).bind fun x160=>
  some ((.tup [.bool false,x160]),[])
else
(
  asBool x50).bind fun b161=>
  if b161=true then
  none
else
(asBool x50).bind fun b162=>(
  (if b162=true then
  none
else some (.bool false):Option V)).bind fun x163=>(P0 yb [.v x163] []).bind fun r164=>(zj r164.1 0).bind fun x165=>(
  asBool x165).bind fun b166=>
  if b166=true then
(
  zj r164.1 1).bind fun x167=>
  tst (okN 8 a0) (some ((.tup [.bool true,a0]),[]))
else
(
  zj r164.1 1).bind fun x168=>
  some ((.tup [.bool false,x168]),[])
else
(
  asBool x50).bind fun b169=>
  if b169=true then
  none
else
(
  asBool x50).bind fun b170=>
  if b170=true then
  none
else
(asBool x50).bind fun b171=>(
  (if b171=true then
  none
else some (.bool false):Option V)).bind fun x172=>(P0 yb [.v x172] []).bind fun r173=>(zj r173.1 0).bind fun x174=>(
  asBool x174).bind fun b175=>
  if b175=true then
(
  zj r173.1 1).bind fun x176=>
  tst (okN 8 a0) (some ((.tup [.bool true,a0]),[]))
else
(
  zj r173.1 1).bind fun x177=>
  some ((.tup [.bool false,x177]),[])
else
(
  asBool x50).bind fun b178=>
  if b178=true then
(
  asBool x50).bind fun b179=>
  if b179=true then
(ze a1 1).bind fun c180=>(
  asBool x50).bind fun b181=>
  if b181=true then
(
  asBool x50).bind fun b182=>
  if b182=true then
(
  asBool x50).bind fun b183=>
  if b183=true then
  none
else
(asBool x50).bind fun b184=>(
  (if b184=true then
  none
else some (.bool false):Option V)).bind fun x185=>(P0 yb [.v x185] []).bind fun r186=>(zj r186.1 0).bind fun x187=>(
  asBool x187).bind fun b188=>
  if b188=true then
(
  zj r186.1 1).bind fun x189=>
  tst (okN 8 a0) (some ((.tup [.bool true,a0]),[]))
else
(
  zj r186.1 1).bind fun x190=>
  some ((.tup [.bool false,x190]),[])
else
(
  asBool x50).bind fun b191=>
  if b191=true then
  none
else
(asBool x50).bind fun b192=>(
  (if b192=true then
  none
else some (.bool false):Option V)).bind fun x193=>(P0 yb [.v x193] []).bind fun r194=>(zj r194.1 0).bind fun x195=>(
  asBool x195).bind fun b196=>
  if b196=true then
(
  zj r194.1 1).bind fun x197=>
  tst (okN 8 a0) (some ((.tup [.bool true,a0]),[]))
else
(
  zj r194.1 1).bind fun x198=>
  some ((.tup [.bool false,x198]),[])
else
(
  asBool x50).bind fun b199=>
  if b199=true then
  none
else
(
  asBool x50).bind fun b200=>
  if b200=true then
  none
else
(asBool x50).bind fun b201=>(
  (if b201=true then
  none
else some (.bool false):Option V)).bind fun x202=>(P0 yb [.v x202] []).bind fun r203=>(zj r203.1 0).bind fun x204=>(
  asBool x204).bind fun b205=>
  if b205=true then
(
  zj r203.1 1).bind fun x206=>
  tst (okN 8 a0) (some ((.tup [.bool true,a0]),[]))
else
(
  zj r203.1 1).bind fun x207=>
  some ((.tup [.bool false,x207]),[])
else
(
  asBool x50).bind fun b208=>
  if b208=true then
(
  asBool x50).bind fun b209=>
  if b209=true then
(
  asBool x50).bind fun b210=>
  if b210=true then
  none
else
(asBool x50).bind fun b211=>(
  (if b211=true then
  none
else some (.bool false):Option V)).bind fun x212=>(P0 yb [.v x212] []).bind fun r213=>(zj r213.1 0).bind fun x214=>(
  asBool x214).bind fun b215=>
  if b215=true then
(
  zj r213.1 1).bind fun x216=>
  tst (okN 8 a0) (some ((.tup [.bool true,a0]),[]))
else
(
  zj r213.1 1).bind fun x217=>
  some ((.tup [.bool false,x217]),[])
else
(
  asBool x50).bind fun b218=>
  if b218=true then
  none
else
(asBool x50).bind fun b219=>(
  (if b219=true then
  none
else some (.bool false):Option V)).bind fun x220=>(P0 yb [.v x220] []).bind fun r221=>(zj r221.1 0).bind fun x222=>(
  asBool x222).bind fun b223=>
  if b223=true then
(
  zj r221.1 1).bind fun x224=>
  tst (okN 8 a0) (some ((.tup [.bool true,a0]),[]))
else
(
  zj r221.1 1).bind fun x225=>
  some ((.tup [.bool false,x225]),[])
else
(
  asBool x50).bind fun b226=>
  if b226=true then
  none
else
(
  asBool x50).bind fun b227=>
  if b227=true then
  none
else
(asBool x50).bind fun b228=>(
  (if b228=true then
  none
else some (.bool false):Option V)).bind fun x229=>(P0 yb [.v x229] []).bind fun r230=>(zj r230.1 0).bind fun x231=>(
  asBool x231).bind fun b232=>
  if b232=true then
(
  zj r230.1 1).bind fun x233=>
  tst (okN 8 a0) (some ((.tup [.bool true,a0]),[]))
else
(
  zj r230.1 1).bind fun x234=>
  some ((.tup [.bool false,x234]),[])
else
(
  asBool x50).bind fun b235=>
  if b235=true then
  none
else
(
  asBool x50).bind fun b236=>
  if b236=true then
(
  asBool x50).bind fun b237=>
  if b237=true then
(
  asBool x50).bind fun b238=>
  if b238=true then
  none
else
(asBool x50).bind fun b239=>(
  (if b239=true then
  none
else some (.bool false):Option V)).bind fun x240=>(P0 yb [.v x240] []).bind fun r241=>(zj r241.1 0).bind fun x242=>(
  asBool x242).bind fun b243=>
  if b243=true then
(
  zj r241.1 1).bind fun x244=>
  tst (okN 8 a0) (some ((.tup [.bool true,a0]),[]))
else
(
  zj r241.1 1).bind fun x245=>
  some ((.tup [.bool false,x245]),[])
else
(
  asBool x50).bind fun b246=>
  if b246=true then
  none
else
(asBool x50).bind fun b247=>(
  (if b247=true then
  none
else some (.bool false):Option V)).bind fun x248=>(P0 yb [.v x248] []).bind fun r249=>(zj r249.1 0).bind fun x250=>(
  asBool x250).bind fun b251=>
  if b251=true then
(
  zj r249.1 1).bind fun x252=>
  tst (okN 8 a0) (some ((.tup [.bool true,a0]),[]))
else
(
  zj r249.1 1).bind fun x253=>
  some ((.tup [.bool false,x253]),[])
else
(
  asBool x50).bind fun b254=>
  if b254=true then
  none
else
(
  asBool x50).bind fun b255=>
  if b255=true then
  none
else
(asBool x50).bind fun b256=>(
  (if b256=true then
  none
else some (.bool false):Option V)).bind fun x257=>(P0 yb [.v x257] []).bind fun r258=>(zj r258.1 0).bind fun x259=>(
  asBool x259).bind fun b260=>
  if b260=true then
(
  zj r258.1 1).bind fun x261=>
  tst (okN 8 a0) (some ((.tup [.bool true,a0]),[]))
else
(
  zj r258.1 1).bind fun x262=>
  some ((.tup [.bool false,x262]),[])))
theorem kS(a0:V)(a1:V):P0 wo [.v a0,.v a1] []=kI a0 a1:=
 pq (fn:=zbS) (by kernel_rfl) (by kernel_rfl)
def Zp(r6:V×List V)(a1:V)(v55:Nat->V):Option ((Nat->V) ⊕ (Nat×(Nat->V))):=
(zc .quo r6.1 (.int .i64 12)).bind fun x56=>(zc .rem x56 (.int .i64 4)).bind fun x57=>(zc .lss (v55 1) x57).bind fun x58=>(
  asBool x58).bind fun b59=>
  if b59=true then
(zc .sub a1 (.int .i64 1)).bind fun x60=>(P0 vg [.v (v55 0),.v x60] []).bind fun r61=>(zj r61.1 0).bind fun x62=>(
  zj r61.1 1).bind fun x63=>
  tst (okN 8 x62) (tst (okN 8 x62) (tst (yi 8 [x62]) (tst (wZ 120 ((V.elems (v55 17)).length) (List.length (α:=V) [x62])) ((zc .add (v55 1) (.int .i64 1)).bind fun x64=>
  some (.inl (vec [x63,x64,(v55 2),(v55 3),(v55 4),(.sl (V.elems (v55 5))),(v55 6),(v55 7),(.sl (V.elems (v55 8))),(.sl (V.elems (v55 9))),(v55 10),(v55 11),(v55 12),(.sl (V.elems (v55 13))),(v55 14),(v55 15),(.sl (V.elems (v55 16))),(.sl ((V.elems (v55 17))++([x62]:List V)))]))))))
else
 some (.inr (0,(vec [(v55 0),(v55 2),(v55 3),(v55 4),(.sl (V.elems (v55 5))),(v55 6),(v55 7),(.sl (V.elems (v55 8))),(.sl (V.elems (v55 9))),(v55 10),(v55 11),(v55 12),(.sl (V.elems (v55 13))),(v55 14),(v55 15),(.sl (V.elems (v55 16))),(.sl (V.elems (v55 17)))])))
def Zz(r6:V×List V)(a1:V)(v67:Nat->V):Option ((Nat->V) ⊕ (Nat×(Nat->V))):=
(zc .quo r6.1 (.int .i64 12)).bind fun x68=>(zc .rem x68 (.int .i64 4)).bind fun x69=>(zc .lss (v67 1) x69).bind fun x70=>(
  asBool x70).bind fun b71=>
  if b71=true then
(zc .sub a1 (.int .i64 1)).bind fun x72=>(P0 vg [.v (v67 0),.v x72] []).bind fun r73=>(zj r73.1 0).bind fun x74=>(
  zj r73.1 1).bind fun x75=>
  tst (okN 8 x74) ((P0 jf [.g] []).bind fun r76=>(slV r76.1).bind fun l77=>(zc .quo r6.1 (.int .i64 48)).bind fun x78=>(zc .mul (.int .i64 3) (v67 1)).bind fun x79=>(zc .add x78 x79).bind fun x80=>(
  zc .rem x80 (.int .i64 8)).bind fun x81=>
  tst (yi 1 l77) ((y3 x81 (l77.length)).bind fun i82=>(l77[i82]?).bind fun e83=>(ze e83 0).bind fun c84=>(
  P0 kR [.v (.agg [(v67 10),(v67 11),(v67 12),(v67 13),(v67 14),(v67 15),(v67 16),(v67 17)]),.v c84,.v x74] []).bind fun r85=>
  tst (okN 8 r85.1) ((zc .add (v67 1) (.int .i64 1)).bind fun x86=>(ze r85.1 0).bind fun c87=>(ze r85.1 1).bind fun c88=>(ze r85.1 2).bind fun c89=>(ze r85.1 3).bind fun c90=>(ze r85.1 4).bind fun c91=>(ze r85.1 5).bind fun c92=>(ze r85.1 6).bind fun c93=>(
  ze r85.1 7).bind fun c94=>
  some (.inl (vec [x75,x86,(v67 2),(v67 3),(v67 4),(.sl (V.elems (v67 5))),(v67 6),(v67 7),(.sl (V.elems (v67 8))),(.sl (V.elems (v67 9))),c87,c88,c89,c90,c91,c92,c93,c94])))))
else
 some (.inr (0,(vec [(v67 0),(v67 2),(v67 3),(v67 4),(.sl (V.elems (v67 5))),(v67 6),(v67 7),(.sl (V.elems (v67 8))),(.sl (V.elems (v67 9))),.agg [(v67 10),(v67 11),(v67 12),(v67 13),(v67 14),(v67 15),(v67 16),(v67 17)]])))
def zcI(a0:V)(a1:V):Option (V×List V):=
(
  yw a0).bind fun n1=>
  if((n1:Int)==0)=true then
  some ((.tup [(.agg [.int .i64 1,.bool false,.bool false,.sl [],.int .i64 0,.str [],.sl [],.sl []]),.sl []]),[])
else
(yN 1 a0).bind fun l2=>(y3 (.int .i64 0) (l2.length)).bind fun i3=>(l2[i3]?).bind fun e4=>(ze e4 0).bind fun c5=>(P0 xF [.v c5,.v (.int .i64 1073741824)] []).bind fun r6=>(yN 1 a0).bind fun l7=>(Wk (some (.int .i64 1)) none (l7.length)).bind fun q8=>(zc .rem r6.1 (.int .i64 12)).bind fun x9=>(((zc .leq a1 (.int .i64 0)).bind fun x10=>(asBool x10).bind fun b11=>((if b11=true then
(
  zc .geq x9 (.int .i64 6)).bind fun x12=>
  some x12
else some (.bool false):Option V)).bind fun x13=>(
  asBool x13).bind fun b14=>
  if b14=true then
(
  zc .sub x9 (.int .i64 6)).bind fun x15=>
  some (0,(vec [x15]))
else
 some (0,(vec [x9])):Option (Nat×(Nat->V)))).bind fun o16=>(((zc .eql (o16.2 0) (.int .i64 0)).bind fun x17=>(
  asBool x17).bind fun b18=>
  if b18=true then
  some (1,(vec [(.sl ((l7.drop q8.1).take (q8.2-q8.1))),.int .i64 1,.bool false,.bool false,.sl [],.int .i64 0,.str [],.sl [],.sl []]))
else
(zc .eql (o16.2 0) (.int .i64 1)).bind fun x19=>(
  asBool x19).bind fun b20=>
  if b20=true then
(zc .quo r6.1 (.int .i64 12)).bind fun x21=>(zc .rem x21 (.int .i64 2)).bind fun x22=>(
  zc .eql x22 (.int .i64 1)).bind fun x23=>
  tst (okN 1 x23) ((ze x23 0).bind fun c24=>
  some (1,(vec [(.sl ((l7.drop q8.1).take (q8.2-q8.1))),.int .i64 2,c24,.bool false,.sl [],.int .i64 0,.str [],.sl [],.sl []])))
else
(((zc .eql (o16.2 0) (.int .i64 2)).bind fun x25=>(
  asBool x25).bind fun b26=>
  if b26=true then
  some (0,(vec [x25,.int .i64 0,.bool false,.bool false,.sl [],.int .i64 0,.str [],.sl [],.sl []]))
else
(
  zc .eql (o16.2 0) (.int .i64 3)).bind fun x27=>
  some (0,(vec [x27,.int .i64 0,.bool false,.bool false,.sl [],.int .i64 0,.str [],.sl [],.sl []])):Option (Nat×(Nat->V)))).bind fun o28=>(
  asBool (o28.2 0)).bind fun b29=>
  if b29=true then
(zc .quo r6.1 (.int .i64 12)).bind fun x30=>(
  P0 qD [.v x30] []).bind fun r31=>
  tst (okN 3 r31.1) ((ze r31.1 0).bind fun c32=>(ze r31.1 1).bind fun c33=>(
  ze r31.1 2).bind fun c34=>
  some (1,(vec [(.sl ((l7.drop q8.1).take (q8.2-q8.1))),.int .i64 3,.bool false,c32,c33,c34,.str [],.sl [],.sl []])))
else
(zc .eql (o16.2 0) (.int .i64 4)).bind fun x35=>(
  asBool x35).bind fun b36=>
  if b36=true then
(zc .quo r6.1 (.int .i64 12)).bind fun x37=>(zc .rem x37 (.int .i64 9)).bind fun x38=>(zjE false 9 1 (.agg [.int .i64 0,.int .i64 1,.int .i64 2,.int .i64 3,.int .i64 4,.int .i64 5,.int .i64 6,.int .i64 8,.int .i64 9]) x38).bind fun x39=>(
  zm2 (.str [97,98,99,34,92,10,195,169,122]) none (some x39)).bind fun x40=>
  tst (okN 1 x40) ((ze x40 0).bind fun c41=>
  some (1,(vec [(.sl ((l7.drop q8.1).take (q8.2-q8.1))),.int .i64 4,.bool false,.bool false,.sl [],.int .i64 0,c41,.sl [],.sl []])))
else
(zc .eql (o16.2 0) (.int .i64 5)).bind fun x42=>(
  asBool x42).bind fun b43=>
  if b43=true then
(zc .quo r6.1 (.int .i64 12)).bind fun x44=>(zc .rem x44 (.int .i64 5)).bind fun x45=>(
  zm2 (.str [0,255,97,98]) none (some x45)).bind fun x46=>
  tst (okN 1 x46) ((ze x46 0).bind fun c47=>
  some (1,(vec [(.sl ((l7.drop q8.1).take (q8.2-q8.1))),.int .i64 5,.bool false,.bool false,.sl [],.int .i64 0,c47,.sl [],.sl []])))
else
(((zc .eql (o16.2 0) (.int .i64 6)).bind fun x48=>(
  asBool x48).bind fun b49=>
  if b49=true then
  some (0,(vec [x48,(o28.2 1),(o28.2 2),(o28.2 3),(.sl (V.elems (o28.2 4))),(o28.2 5),(o28.2 6),(.sl (V.elems (o28.2 7))),(.sl (V.elems (o28.2 8)))]))
else
(zc .eql (o16.2 0) (.int .i64 7)).bind fun x50=>(
  asBool x50).bind fun b51=>
  if b51=true then
  some (0,(vec [x50,(o28.2 1),(o28.2 2),(o28.2 3),(.sl (V.elems (o28.2 4))),(o28.2 5),(o28.2 6),(.sl (V.elems (o28.2 7))),(.sl (V.elems (o28.2 8)))]))
else
(
  zc .eql (o16.2 0) (.int .i64 8)).bind fun x52=>
  some (0,(vec [x52,(o28.2 1),(o28.2 2),(o28.2 3),(.sl (V.elems (o28.2 4))),(o28.2 5),(o28.2 6),(.sl (V.elems (o28.2 7))),(.sl (V.elems (o28.2 8)))])):Option (Nat×(Nat->V)))).bind fun o53=>(
  asBool (o53.2 0)).bind fun b54=>
  if b54=true then
(
  zr (Zp r6 a1) (vec [(.sl ((l7.drop q8.1).take (q8.2-q8.1))),.int .i64 0,(o53.2 1),(o53.2 2),(o53.2 3),(.sl (V.elems (o53.2 4))),(o53.2 5),(o53.2 6),(.sl (V.elems (o53.2 7))),(.sl (V.elems (o53.2 8))),.int .i64 6,.bool false,.bool false,.sl [],.int .i64 0,.str [],.sl [],.sl []])).bind fun o65=>
  some (1,(vec [(o65.2 0),(o65.2 9),(o65.2 10),(o65.2 11),(.sl (V.elems (o65.2 12))),(o65.2 13),(o65.2 14),(.sl (V.elems (o65.2 15))),(.sl (V.elems (o65.2 16)))]))
else
 some (0,(vec [(.sl ((l7.drop q8.1).take (q8.2-q8.1))),(o53.2 1),(o53.2 2),(o53.2 3),(.sl (V.elems (o53.2 4))),(o53.2 5),(o53.2 6),(.sl (V.elems (o53.2 7))),(.sl (V.elems (o53.2 8)))])):Option (Nat×(Nat->V)))).bind fun o66=>
 if o66.1=0 then
(
  zr (Zz r6 a1) (vec [(o66.2 0),.int .i64 0,(o66.2 1),(o66.2 2),(o66.2 3),(.sl (V.elems (o66.2 4))),(o66.2 5),(o66.2 6),(.sl (V.elems (o66.2 7))),(.sl (V.elems (o66.2 8))),.int .i64 7,.bool false,.bool false,.sl [],.int .i64 0,.str [],.sl [],.sl []])).bind fun o95=>
  tst (okN 8 (o95.2 9)) (some ((.tup [(o95.2 9),(o95.2 0)]),[]))
else
 some ((.tup [.agg [(o66.2 1),(o66.2 2),(o66.2 3),(o66.2 4),(o66.2 5),(o66.2 6),(.sl (V.elems (o66.2 7))),(.sl (V.elems (o66.2 8)))],(o66.2 0)]),[])
theorem zjJ(a0:V)(a1:V):P0 vg [.v a0,.v a1] []=zcI a0 a1:=
 pq (fn:=Qg) (by kernel_rfl) (by kernel_rfl)
def zaY(a0:V)(a1:V):Option (V×List V):=
 tst (okN 8 a0) ((((ze a0 0).bind fun c1=>(zc .eql c1 (.int .i64 6)).bind fun x2=>(
  asBool x2).bind fun b3=>
  if b3=true then
(ze a0 7).bind fun c4=>(yw c4).bind fun n5=>(P0 jl [.v a1,.v (.int .i64 (IntKind.wrap .i64 (((n5:Nat):Int)-1)))] []).bind fun r6=>(zj r6.1 0).bind fun x7=>(zj r6.1 1).bind fun x8=>(
  asBool x8).bind fun b9=>
  if b9=true then
(ze a0 7).bind fun c10=>(yN 8 c10).bind fun l11=>(y3 x7 (l11.length)).bind fun i12=>(
  l11[i12]?).bind fun e13=>
  tst (okN 8 e13) (some (1,(vec [.bool true,e13])))
else
 some (0,(vec [(.agg [.int .i64 0,.bool false,.bool false,.sl [],.int .i64 0,.str [],.sl [],.sl []])]))
else
 some (0,(vec [(.agg [.int .i64 0,.bool false,.bool false,.sl [],.int .i64 0,.str [],.sl [],.sl []])])):Option (Nat×(Nat->V)))).bind fun o14=>
 if o14.1=0 then
(P0 vD [.v a0,.v a1] []).bind fun r15=>(zj r15.1 0).bind fun x16=>(
  zj r15.1 1).bind fun x17=>
  tst (okN 8 x16) (some ((.tup [x16,x17]),[]))
else
 some ((.tup [(o14.2 1),(o14.2 0)]),[]))
theorem zha(a0:V)(a1:V):P0 jg [.v a0,.v a1] []=zaY a0 a1:=
 pq (fn:=Vh) (by kernel_rfl) (by kernel_rfl)
def zcR(a0:V):Option (V×List V):=
 tst (okN 8 a0) ((P0 vj [.v a0,.v (.int .i64 1),.p 0 0] [(false,1,(.int .i64 2000))]).bind fun r1=>(
  r1.2[0]?).bind fun y2=>
  some (r1.1,[]))
theorem zkh(a0:V):P0 xo [.v a0] []=zcR a0:=
 pq (fn:=V4) (by kernel_rfl) (by kernel_rfl)
def zeX(a0:V):Option (V×List V):=
(yw a0).bind fun n1=>((if(decide ((n1:Int)<=60))=true then
(P0 yc [.v a0,.fn wu []] []).bind fun r2=>(
  unV .not r2.1).bind fun x3=>
  some x3
else some (.bool false):Option V)).bind fun x4=>some (x4,[])
theorem zmo(a0:V):P0 jM [.v a0] []=zeX a0:=
 pq (fn:=JZ) (by kernel_rfl) (by kernel_rfl)
def zgD(a0:V)(a1:V):Option (V×List V):=
 tst (okN 8 a0) ((P0 vq [.v a0] []).bind fun r1=>(zc .leq r1.1 a1).bind fun x2=>(asBool x2).bind fun b3=>((if b3=true then
(P0 qg [.v a0] []).bind fun r4=>(
  zc .leq r4.1 (.int .i64 2000)).bind fun x5=>
  some x5
else some (.bool false):Option V)).bind fun x6=>(asBool x6).bind fun b7=>((if b7=true then
(P0 qb [.v a0] []).bind fun r8=>(
  zc .leq r8.1 (.int .i64 64)).bind fun x9=>
  some x9
else some (.bool false):Option V)).bind fun x10=>(asBool x10).bind fun b11=>((if b11=true then
(
  P0 ZY [.v a0] []).bind fun r12=>
  some r12.1
else some (.bool false):Option V)).bind fun x13=>some (x13,[]))
theorem znC(a0:V)(a1:V):P0 Yb [.v a0,.v a1] []=zgD a0 a1:=
 pq (fn:=zbd) (by kernel_rfl) (by kernel_rfl)
def Q2(a0:V)(a1:V):Option (V×List V):=
 tst (okN 3 a0) (tst (okN 3 a1) ((ze a0 0).bind fun c1=>(ze a1 0).bind fun c2=>(asBool c1).bind fun b3=>(asBool c2).bind fun b4=>((if(b3==b4)=true then
(ze a0 2).bind fun c5=>(ze a1 2).bind fun c6=>(
  zc .eql c5 c6).bind fun x7=>
  some x7
else some (.bool false):Option V)).bind fun x8=>(asBool x8).bind fun b9=>((if b9=true then
(ze a0 1).bind fun c10=>(ze a1 1).bind fun c11=>(
  P0 wI [.v c10,.v c11] []).bind fun r12=>
  some r12.1
else some (.bool false):Option V)).bind fun x13=>some (x13,[])))
theorem zdH(a0:V)(a1:V):P0 v6 [.v a0,.v a1] []=Q2 a0 a1:=
 pq (fn:=YQ) (by kernel_rfl) (by kernel_rfl)
def vF(a0:V)(a1:V)(v3:Nat->V):Option ((Nat->V) ⊕ (Nat×(Nat->V))):=
(yw a0).bind fun n4=>(zc .lss (v3 0) (.int .i64 ((n4:Nat):Int))).bind fun x5=>(
  asBool x5).bind fun b6=>
  if b6=true then
(yN 1 a0).bind fun l7=>(y3 (v3 0) (l7.length)).bind fun i9=>(l7[i9]?).bind fun e10=>(ze e10 0).bind fun c11=>(yN 1 a1).bind fun l12=>(y3 (v3 0) (l12.length)).bind fun i13=>(l12[i13]?).bind fun e14=>(ze e14 0).bind fun c15=>(zc .neq c11 c15).bind fun x16=>(
  asBool x16).bind fun b17=>
  if b17=true then
  some (.inr (1,(vec [.bool false])))
else
(
  zc .add (v3 0) (.int .i64 1)).bind fun x18=>
  some (.inl (vec [x18]))
else
 some (.inr (0,(vec [])))
def Y1(a0:V)(a1:V):Option (V×List V):=
(yw a0).bind fun n1=>(
  yw a1).bind fun n2=>
  if((n1:Int) != ((n2:Nat):Int))=true then
  some ((.bool false),[])
else
(
  zr (vF a0 a1) (vec [.int .i64 0])).bind fun o19=>
  if o19.1=0 then
  some ((.bool true),[])
else
 some ((o19.2 0),[])
theorem Kk(a0:V)(a1:V):P0 xY [.v a0,.v a1] []=Y1 a0 a1:=
 pq (fn:=ke) (by kernel_rfl) (by kernel_rfl)
def zly(a0:V)(a1:V)(a2:V):Option (V×List V):=
 tst (okN 8 a0) (tst (okN 8 a2) ((yw a1).bind fun n1=>
 if((n1:Int)==0)=true then
 tst (okN 8 a2) (some ((.tup [.bool true,a2]),[]))
else
(P0 jN [.v a1] []).bind fun r2=>(zj r2.1 0).bind fun x3=>(zj r2.1 1).bind fun x4=>(P0 qy [.v a0,.v x3] []).bind fun r5=>(zj r5.1 0).bind fun x6=>(
  asBool x6).bind fun b7=>
  if b7=true then
(
  zj r5.1 1).bind fun x8=>
  tst (okN 8 x8) ((ze x8 0).bind fun c9=>(zc .eql c9 (.int .i64 7)).bind fun x10=>(
  asBool x10).bind fun b11=>
  if b11=true then
(P0 kP [.v x8,.v x4,.v a2] []).bind fun r12=>(P0 kX [.v a0,.v x3,.v r12.1] []).bind fun r13=>(zj r13.1 0).bind fun x14=>(
  asBool x14).bind fun b15=>
  if b15=true then
(
  zj r13.1 1).bind fun x16=>
  tst (okN 8 x16) (some ((.tup [.bool true,x16]),[]))
else
(
  zj r13.1 1).bind fun x17=>
  some ((.tup [.bool false,x17]),[])
else
(zc .eql c9 (.int .i64 6)).bind fun x18=>(
  asBool x18).bind fun b19=>
  if b19=true then
(ze x8 7).bind fun c20=>(yw c20).bind fun n21=>(P0 xv [.v x4,.v (.int .i64 ((n21:Nat):Int))] []).bind fun r22=>(zj r22.1 0).bind fun x23=>(zj r22.1 1).bind fun x24=>(((zc .eql x4 (.str [45])).bind fun x25=>(
  asBool x25).bind fun b26=>
  if b26=true then
(ze x8 7).bind fun c27=>(
  yw c27).bind fun n28=>
  some (0,(vec [(.int .i64 ((n28:Nat):Int)),.bool true]))
else
 some (0,(vec [x23,x24])):Option (Nat×(Nat->V)))).bind fun o29=>(P0 yb [.v (o29.2 1)] []).bind fun r30=>(zj r30.1 0).bind fun x31=>(
  asBool x31).bind fun b32=>
  if b32=true then
(zj r30.1 1).bind fun x33=>(ze x8 7).bind fun c34=>(yN 8 c34).bind fun l35=>(
  Wk none (some (o29.2 0)) (l35.length)).bind fun q36=>
  tst (okN 8 a2) ((ze x8 7).bind fun c37=>(yN 8 c37).bind fun l38=>(Wk (some (o29.2 0)) none (l38.length)).bind fun q39=>(
  P0 y9 [.v (.sl [(.sl ((l35.drop q36.1).take (q36.2-q36.1))),.sl [a2],(.sl ((l38.drop q39.1).take (q39.2-q39.1)))])] []).bind fun r40=>
  tst (okN 1 r40.1) ((ze r40.1 0).bind fun c41=>(P0 kX [.v a0,.v x3,.v (.agg [.int .i64 6,.bool false,.bool false,.sl [],.int .i64 0,.str [],.sl [],c41])] []).bind fun r42=>(zj r42.1 0).bind fun x43=>(
  asBool x43).bind fun b44=>
  if b44=true then
(
  zj r42.1 1).bind fun x45=>
  tst (okN 8 x45) (some ((.tup [.bool true,x45]),[]))
else
(
  zj r42.1 1).bind fun x46=>
  some ((.tup [.bool false,x46]),[])))
else
(
  zj r30.1 1).bind fun x47=>
  some ((.tup [.bool false,x47]),[])
else
(zaF true (.iface 52 (.agg []))).bind fun x48=>(
  asBool x48).bind fun b49=>
  if b49=true then
  some ((.tup [.bool false,(.iface 52 (.agg []))]),[])
else
 none)
else
(
  zj r5.1 1).bind fun x50=>
  some ((.tup [.bool false,x50]),[])))
theorem zqX(a0:V)(a1:V)(a2:V):P0 Xy [.v a0,.v a1,.v a2] []=zly a0 a1 a2:=
 pq (fn:=zeB) (by kernel_rfl) (by kernel_rfl)
def zc4(a0:V)(a1:V):Option (V×List V):=
 tst (okN 8 a0) ((yw a1).bind fun n1=>(P0 yb [.v (.bool (decide ((n1:Int)>0)))] []).bind fun r2=>(zj r2.1 0).bind fun x3=>(
  asBool x3).bind fun b4=>
  if b4=true then
(zj r2.1 1).bind fun x5=>(P0 qy [.v a0,.v a1] []).bind fun r6=>(zj r6.1 0).bind fun x7=>(
  asBool x7).bind fun b8=>
  if b8=true then
(zj r6.1 1).bind fun x9=>(P0 jN [.v a1] []).bind fun r10=>(zj r10.1 0).bind fun x11=>(zj r10.1 1).bind fun x12=>(P0 qy [.v a0,.v x11] []).bind fun r13=>(zj r13.1 0).bind fun x14=>(
  asBool x14).bind fun b15=>
  if b15=true then
(
  zj r13.1 1).bind fun x16=>
  tst (okN 8 x16) ((ze x16 0).bind fun c17=>(zc .eql c17 (.int .i64 7)).bind fun x18=>(
  asBool x18).bind fun b19=>
  if b19=true then
(P0 j4 [.v x16,.v x12] []).bind fun r20=>(P0 kX [.v a0,.v x11,.v r20.1] []).bind fun r21=>(zj r21.1 0).bind fun x22=>(
  asBool x22).bind fun b23=>
  if b23=true then
(
  zj r21.1 1).bind fun x24=>
  tst (okN 8 x24) (some ((.tup [.bool true,x24]),[]))
else
(
  zj r21.1 1).bind fun x25=>
  some ((.tup [.bool false,x25]),[])
else
(ze x16 7).bind fun c26=>(yw c26).bind fun n27=>(P0 xv [.v x12,.v (.int .i64 ((n27:Nat):Int))] []).bind fun r28=>(zj r28.1 0).bind fun x29=>(zj r28.1 1).bind fun x30=>(ze x16 7).bind fun c31=>(yN 8 c31).bind fun l32=>(Wk none (some x29) (l32.length)).bind fun q33=>(ze x16 7).bind fun c34=>(zc .add x29 (.int .i64 1)).bind fun x35=>(yN 8 c34).bind fun l36=>(Wk (some x35) none (l36.length)).bind fun q37=>(
  P0 y9 [.v (.sl [(.sl ((l32.drop q33.1).take (q33.2-q33.1))),(.sl ((l36.drop q37.1).take (q37.2-q37.1)))])] []).bind fun r38=>
  tst (okN 1 r38.1) ((ze r38.1 0).bind fun c39=>(P0 kX [.v a0,.v x11,.v (.agg [.int .i64 6,.bool false,.bool false,.sl [],.int .i64 0,.str [],.sl [],c39])] []).bind fun r40=>(zj r40.1 0).bind fun x41=>(
  asBool x41).bind fun b42=>
  if b42=true then
(
  zj r40.1 1).bind fun x43=>
  tst (okN 8 x43) (some ((.tup [.bool true,x43]),[]))
else
(
  zj r40.1 1).bind fun x44=>
  some ((.tup [.bool false,x44]),[])))
else
(
  zj r13.1 1).bind fun x45=>
  some ((.tup [.bool false,x45]),[])
else
(
  zj r6.1 1).bind fun x46=>
  some ((.tup [.bool false,x46]),[])
else
(
  zj r2.1 1).bind fun x47=>
  some ((.tup [.bool false,x47]),[]))
theorem zj6(a0:V)(a1:V):P0 Zc [.v a0,.v a1] []=zc4 a0 a1:=
 pq (fn:=Qm) (by kernel_rfl) (by kernel_rfl)
def zkR(a0:V)(a1:V)(a2:V):Option (V×List V):=
 tst (okN 8 a0) (tst (okN 8 a2) ((P0 qo [.v a0,.v a1,.v a2] []).bind fun r1=>(zj r1.1 0).bind fun x2=>(
  zj r1.1 1).bind fun x3=>
  tst (okN 8 x2) ((P0 yb [.v x3] []).bind fun r4=>(zj r4.1 0).bind fun x5=>(
  asBool x5).bind fun b6=>
  if b6=true then
(
  zj r4.1 1).bind fun x7=>
  tst (okN 8 x2) (some ((.tup [.bool true,x2]),[]))
else
(
  zj r4.1 1).bind fun x8=>
  some ((.tup [.bool false,x8]),[]))))
theorem zq2(a0:V)(a1:V)(a2:V):P0 kX [.v a0,.v a1,.v a2] []=zkR a0 a1 a2:=
 pq (fn:=zdI) (by kernel_rfl) (by kernel_rfl)
def ziE(a0:V)(a1:V)(a2:V):Option (V×List V):=
 tst (okN 8 a0) ((P0 qy [.v a0,.v a1] []).bind fun r1=>(zj r1.1 0).bind fun x2=>(
  asBool x2).bind fun b3=>
  if b3=true then
(
  zj r1.1 1).bind fun x4=>
  tst (okN 8 x4) ((P0 yU [.v a1,.v a2] []).bind fun r5=>(
  asBool r5.1).bind fun b6=>
  if b6=true then
  tst (okN 8 a0) (some ((.tup [.bool true,a0]),[]))
else
(yw a1).bind fun n7=>((if(decide ((n7:Int)>0))=true then
(P0 wl [.v a1,.v a2] []).bind fun r8=>(
  unV .not r8.1).bind fun x9=>
  some x9
else some (.bool false):Option V)).bind fun x10=>(P0 yb [.v x10] []).bind fun r11=>(zj r11.1 0).bind fun x12=>(
  asBool x12).bind fun b13=>
  if b13=true then
(zj r11.1 1).bind fun x14=>(P0 Zc [.v a0,.v a1] []).bind fun r15=>(zj r15.1 0).bind fun x16=>(
  asBool x16).bind fun b17=>
  if b17=true then
(zj r15.1 1).bind fun x18=>(P0 Xy [.v x18,.v a2,.v x4] []).bind fun r19=>(zj r19.1 0).bind fun x20=>(
  asBool x20).bind fun b21=>
  if b21=true then
(
  zj r19.1 1).bind fun x22=>
  tst (okN 8 x22) (some ((.tup [.bool true,x22]),[]))
else
(
  zj r19.1 1).bind fun x23=>
  some ((.tup [.bool false,x23]),[])
else
(
  zj r15.1 1).bind fun x24=>
  some ((.tup [.bool false,x24]),[])
else
(
  zj r11.1 1).bind fun x25=>
  some ((.tup [.bool false,x25]),[]))
else
(
  zj r1.1 1).bind fun x26=>
  some ((.tup [.bool false,x26]),[]))
theorem znV(a0:V)(a1:V)(a2:V):P0 V0 [.v a0,.v a1,.v a2] []=ziE a0 a1 a2:=
 pq (fn:=zbA) (by kernel_rfl) (by kernel_rfl)
def zk0(a0:V)(a1:V):Option (V×List V):=
 tst (okN 8 a0) ((P0 jh [.v a0,.v a1] []).bind fun r1=>(zj r1.1 0).bind fun x2=>(
  zj r1.1 1).bind fun x3=>
  tst (okN 8 x2) ((P0 yb [.v x3] []).bind fun r4=>(zj r4.1 0).bind fun x5=>(
  asBool x5).bind fun b6=>
  if b6=true then
(
  zj r4.1 1).bind fun x7=>
  tst (okN 8 x2) (some ((.tup [.bool true,x2]),[]))
else
(
  zj r4.1 1).bind fun x8=>
  some ((.tup [.bool false,x8]),[])))
theorem zqP(a0:V)(a1:V):P0 qy [.v a0,.v a1] []=zk0 a0 a1:=
 pq (fn:=zee) (by kernel_rfl) (by kernel_rfl)
def zhN(a0:V):Option (V×List V):=
(unV .not a0).bind fun x1=>(
  asBool x1).bind fun b2=>
  if b2=true then
(zaF true (.iface 52 (.agg []))).bind fun x3=>(
  asBool x3).bind fun b4=>
  if b4=true then
  some ((.tup [.bool false,(.iface 52 (.agg []))]),[])
else
 none
else
 some ((.tup [.bool true,(.tup [])]),[])
theorem znI(a0:V):P0 yb [.v a0] []=zhN a0:=
 pq (fn:=zbf) (by kernel_rfl) (by kernel_rfl)
def zfg(a0:V)(a1:V):Option (V×List V):=
 tst (okN 8 a0) (tst (okN 8 a1) ((ze a0 0).bind fun c1=>(ze a1 0).bind fun c2=>(zc .neq c1 c2).bind fun x3=>(
  asBool x3).bind fun b4=>
  if b4=true then
  some ((.bool false),[])
else
(ze a0 0).bind fun c5=>(((zc .eql c5 (.int .i64 2)).bind fun x6=>(
  asBool x6).bind fun b7=>
  if b7=true then
(ze a0 1).bind fun c8=>(ze a1 1).bind fun c9=>(asBool c8).bind fun b10=>(
  asBool c9).bind fun b11=>
  some (4,(vec [(.bool (b10==b11))]))
else
(zc .eql c5 (.int .i64 3)).bind fun x12=>(
  asBool x12).bind fun b13=>
  if b13=true then
(
  P0 Z9 [.v (Wi a0 2 3),.v (Wi a1 2 3)] []).bind fun r14=>
  some (4,(vec [r14.1]))
else
(zc .eql c5 (.int .i64 4)).bind fun x15=>(
  asBool x15).bind fun b16=>
  if b16=true then
  some (3,(vec []))
else
(zc .eql c5 (.int .i64 5)).bind fun x17=>(
  asBool x17).bind fun b18=>
  if b18=true then
  some (3,(vec []))
else
(zc .eql c5 (.int .i64 7)).bind fun x19=>(
  asBool x19).bind fun b20=>
  if b20=true then
  some (1,(vec []))
else
(zc .eql c5 (.int .i64 6)).bind fun x21=>(
  asBool x21).bind fun b22=>
  if b22=true then
  some (2,(vec []))
else
 some (0,(vec [])):Option (Nat×(Nat->V)))).bind fun o23=>
 if o23.1=0 then
 some ((.bool true),[])
else
 if(o23.1-1)=0 then
(ze a0 6).bind fun c24=>(ze a1 6).bind fun c25=>(P0 yU [.v c24,.v c25] []).bind fun r26=>(asBool r26.1).bind fun b27=>((if b27=true then
(ze a0 7).bind fun c28=>(ze a1 7).bind fun c29=>(
  P0 xn [.v c28,.v c29,.fn wc []] []).bind fun r30=>
  some r30.1
else some (.bool false):Option V)).bind fun x31=>some (x31,[])
else
 if((o23.1-1)-1)=0 then
(ze a0 7).bind fun c32=>(ze a1 7).bind fun c33=>(
  P0 xn [.v c32,.v c33,.fn wc []] []).bind fun r34=>
  some (r34.1,[])
else
 if(((o23.1-1)-1)-1)=0 then
(ze a0 5).bind fun c35=>(ze a1 5).bind fun c36=>(
  zc .eql c35 c36).bind fun x37=>
  some (x37,[])
else
 some ((o23.2 0),[])))
theorem zmg(a0:V)(a1:V):P0 wc [.v a0,.v a1] []=zfg a0 a1:=
 pq (fn:=Js) (by kernel_rfl) (by kernel_rfl)
def J6(a0:V):Option (V×List V):=
(zc .rem a0 (.int .i64 5)).bind fun x1=>(zc .eql x1 (.int .i64 0)).bind fun x2=>(
  asBool x2).bind fun b3=>
  if b3=true then
(zc .quo a0 (.int .i64 5)).bind fun x4=>(zc .rem x4 (.int .i64 60)).bind fun x5=>(zc .sub x5 (.int .i64 20)).bind fun x6=>(
  P0 kG [.v x6] []).bind fun r7=>
  tst (okN 3 r7.1) (some (r7.1,[]))
else
(zc .eql x1 (.int .i64 1)).bind fun x8=>(
  asBool x8).bind fun b9=>
  if b9=true then
(zc .quo a0 (.int .i64 5)).bind fun x10=>(zc .rem x10 (.int .i64 2)).bind fun x11=>(zc .eql x11 (.int .i64 1)).bind fun x12=>(zc .quo a0 (.int .i64 10)).bind fun x13=>(zc .rem x13 (.int .i64 2000)).bind fun x14=>(
  jA .u32 x14).bind fun x15=>
  tst (okN 1 x15) ((ze x15 0).bind fun c16=>(zc .quo a0 (.int .i64 7)).bind fun x17=>(zc .rem x17 (.int .i64 9)).bind fun x18=>(zc .sub x18 (.int .i64 5)).bind fun x19=>(P0 w8 [.v x12,.v (.sl [c16]),.v x19] []).bind fun r20=>(zj r20.1 0).bind fun x21=>(
  zj r20.1 1).bind fun x22=>
  tst (okN 3 x21) (tst (okN 3 x21) (some (x21,[]))))
else
(zc .eql x1 (.int .i64 2)).bind fun x23=>(
  asBool x23).bind fun b24=>
  if b24=true then
(jA .u32 a0).bind fun x25=>(zc .quo a0 (.int .i64 3)).bind fun x26=>(jA .u32 x26).bind fun x27=>(zc .rem a0 (.int .i64 7)).bind fun x28=>(
  jA .u32 x28).bind fun x29=>
  tst (okN 1 x25) ((ze x25 0).bind fun c30=>
  tst (okN 1 x27) ((ze x27 0).bind fun c31=>
  tst (okN 1 x29) ((ze x29 0).bind fun c32=>(P0 w8 [.v (.bool false),.v (.sl [c30,c31,c32]),.v (.int .i64 0)] []).bind fun r33=>(zj r33.1 0).bind fun x34=>(
  zj r33.1 1).bind fun x35=>
  tst (okN 3 x34) (tst (okN 3 x34) (some (x34,[]))))))
else
(zc .eql x1 (.int .i64 3)).bind fun x36=>(
  asBool x36).bind fun b37=>
  if b37=true then
(zc .rem a0 (.int .i64 2)).bind fun x38=>(zc .eql x38 (.int .i64 1)).bind fun x39=>(
  jA .u32 a0).bind fun x40=>
  tst (okN 1 x40) ((ze x40 0).bind fun c41=>(zc .quo a0 (.int .i64 5)).bind fun x42=>(zc .rem x42 (.int .i64 30)).bind fun x43=>(unV .neg x43).bind fun x44=>(P0 w8 [.v x39,.v (.sl [.int .u32 5,c41]),.v x44] []).bind fun r45=>(zj r45.1 0).bind fun x46=>(
  zj r45.1 1).bind fun x47=>
  tst (okN 3 x46) (tst (okN 3 x46) (some (x46,[]))))
else
(
  P0 kG [.v a0] []).bind fun r48=>
  tst (okN 3 r48.1) (some (r48.1,[]))
theorem zf1(a0:V):P0 qD [.v a0] []=J6 a0:=
 pq (fn:=XY) (by kernel_rfl) (by kernel_rfl)
def vp(a0:V)(a1:V)(a2:V)(x3:V)(v4:Nat->V):Option ((Nat->V) ⊕ (Nat×(Nat->V))):=
(ze a0 6).bind fun c5=>(yw c5).bind fun n6=>(zc .lss (v4 1) (.int .i64 ((n6:Nat):Int))).bind fun x7=>(asBool x7).bind fun b8=>((if b8=true then
(ze a0 7).bind fun c9=>(yw c9).bind fun n10=>(
  zc .lss (v4 1) (.int .i64 ((n10:Nat):Int))).bind fun x11=>
  some x11
else some (.bool false):Option V)).bind fun x12=>(asBool x12).bind fun b13=>((if b13=true then
(ze a0 0).bind fun c14=>(
  zc .eql c14 (.int .i64 7)).bind fun x15=>
  some x15
else some (.bool false):Option V)).bind fun x16=>(
  asBool x16).bind fun b17=>
  if b17=true then
(unV .not (v4 0)).bind fun x18=>(asBool x18).bind fun b19=>((if b19=true then
(ze a0 6).bind fun c20=>(yN 1 c20).bind fun l21=>(y3 (v4 1) (l21.length)).bind fun i22=>(l21[i22]?).bind fun e23=>(ze e23 0).bind fun c24=>(
  zc .eql c24 a1).bind fun x25=>
  some x25
else some (.bool false):Option V)).bind fun x26=>(
  asBool x26).bind fun b27=>
  if b27=true then
  tst (okN 1 a1) ((ze a1 0).bind fun c28=>
  tst (yi 1 [c28]) (tst (wZ 16 ((V.elems (v4 8)).length) (List.length (α:=V) [c28])) (tst (okN 8 a2) (tst (yi 8 [a2]) (tst (wZ 120 ((V.elems (v4 9)).length) (List.length (α:=V) [a2])) ((zc .add (v4 1) (.int .i64 1)).bind fun x29=>
  some (.inl (vec [.bool true,x29,(v4 2),(v4 3),(v4 4),(.sl (V.elems (v4 5))),(v4 6),(v4 7),(.sl ((V.elems (v4 8))++([c28]:List V))),(.sl ((V.elems (v4 9))++([a2]:List V)))]))))))))
else
(unV .not (v4 0)).bind fun x30=>(asBool x30).bind fun b31=>((if b31=true then
(
  unV .not x3).bind fun x32=>
  some x32
else some (.bool false):Option V)).bind fun x33=>(asBool x33).bind fun b34=>((if b34=true then
(ze a0 6).bind fun c35=>(yN 1 c35).bind fun l36=>(y3 (v4 1) (l36.length)).bind fun i37=>(l36[i37]?).bind fun e38=>(ze e38 0).bind fun c39=>(
  zc .gtr c39 a1).bind fun x40=>
  some x40
else some (.bool false):Option V)).bind fun x41=>(
  asBool x41).bind fun b42=>
  if b42=true then
  tst (okN 1 a1) ((ze a1 0).bind fun c43=>
  tst (yi 1 [c43]) (tst (wZ 16 ((V.elems (v4 8)).length) (List.length (α:=V) [c43])) (tst (okN 8 a2) (tst (yi 8 [a2]) (tst (wZ 120 ((V.elems (v4 9)).length) (List.length (α:=V) [a2])) ((ze a0 6).bind fun c44=>(yN 1 c44).bind fun l45=>(y3 (v4 1) (l45.length)).bind fun i46=>(l45[i46]?).bind fun e47=>(
  ze e47 0).bind fun c48=>
  tst (okN 1 c48) ((ze c48 0).bind fun c49=>
  tst (yi 1 [c49]) (tst (wZ 16 (((V.elems (v4 8))++([c43]:List V)).length) (List.length (α:=V) [c49])) ((ze a0 7).bind fun c50=>(yN 8 c50).bind fun l51=>(y3 (v4 1) (l51.length)).bind fun i52=>(
  l51[i52]?).bind fun e53=>
  tst (okN 8 e53) (tst (yi 8 [e53]) (tst (wZ 120 (((V.elems (v4 9))++([a2]:List V)).length) (List.length (α:=V) [e53])) ((zc .add (v4 1) (.int .i64 1)).bind fun x54=>
  some (.inl (vec [.bool true,x54,(v4 2),(v4 3),(v4 4),(.sl (V.elems (v4 5))),(v4 6),(v4 7),(.sl (((V.elems (v4 8))++([c43]:List V))++([c49]:List V))),(.sl (((V.elems (v4 9))++([a2]:List V))++([e53]:List V)))]))))))))))))))
else
(ze a0 6).bind fun c55=>(yN 1 c55).bind fun l56=>(y3 (v4 1) (l56.length)).bind fun i57=>(l56[i57]?).bind fun e58=>(
  ze e58 0).bind fun c59=>
  tst (okN 1 c59) ((ze c59 0).bind fun c60=>
  tst (yi 1 [c60]) (tst (wZ 16 ((V.elems (v4 8)).length) (List.length (α:=V) [c60])) ((ze a0 7).bind fun c61=>(yN 8 c61).bind fun l62=>(y3 (v4 1) (l62.length)).bind fun i63=>(
  l62[i63]?).bind fun e64=>
  tst (okN 8 e64) (tst (yi 8 [e64]) (tst (wZ 120 ((V.elems (v4 9)).length) (List.length (α:=V) [e64])) ((zc .add (v4 1) (.int .i64 1)).bind fun x65=>
  some (.inl (vec [(v4 0),x65,(v4 2),(v4 3),(v4 4),(.sl (V.elems (v4 5))),(v4 6),(v4 7),(.sl ((V.elems (v4 8))++([c60]:List V))),(.sl ((V.elems (v4 9))++([e64]:List V)))]))))))))
else
 some (.inr (0,(vec [(v4 0),(v4 2),(v4 3),(v4 4),(.sl (V.elems (v4 5))),(v4 6),(v4 7),(.sl (V.elems (v4 8))),(.sl (V.elems (v4 9)))])))
def zfq(a0:V)(a1:V)(a2:V):Option (V×List V):=
 tst (okN 8 a0) (tst (okN 8 a2) ((P0 vD [.v a0,.v a1] []).bind fun r1=>(zj r1.1 0).bind fun x2=>(
  zj r1.1 1).bind fun x3=>
  tst (okN 8 x2) ((zr (vp a0 a1 a2 x3) (vec [.bool false,.int .i64 0,.int .i64 7,.bool false,.bool false,.sl [],.int .i64 0,.str [],.sl [],.sl []])).bind fun o66=>(unV .not (o66.2 0)).bind fun x67=>(
  asBool x67).bind fun b68=>
  if b68=true then
  tst (okN 1 a1) ((ze a1 0).bind fun c69=>
  tst (yi 1 [c69]) (tst (wZ 16 ((V.elems (o66.2 7)).length) (List.length (α:=V) [c69])) (tst (okN 8 a2) (tst (yi 8 [a2]) (tst (wZ 120 ((V.elems (o66.2 8)).length) (List.length (α:=V) [a2])) (some ((.agg [(o66.2 1),(o66.2 2),(o66.2 3),(.sl (V.elems (o66.2 4))),(o66.2 5),(o66.2 6),(.sl ((V.elems (o66.2 7))++([c69]:List V))),(.sl ((V.elems (o66.2 8))++([a2]:List V)))]),[])))))))
else
 some ((.agg [(o66.2 1),(o66.2 2),(o66.2 3),(.sl (V.elems (o66.2 4))),(o66.2 5),(o66.2 6),(.sl (V.elems (o66.2 7))),(.sl (V.elems (o66.2 8)))]),[]))))
theorem zlR(a0:V)(a1:V)(a2:V):P0 kR [.v a0,.v a1,.v a2] []=zfq a0 a1 a2:=
 pq (fn:=KA) (by kernel_rfl) (by kernel_rfl)
def zjp:Option (V×List V):=
 tst (yi 1 [.str [97],.str [98],.str [99],.str [100,100],.str [101],.str [],.str [120,47,121],.str [122,126]]) (some ((.sl [.str [97],.str [98],.str [99],.str [100,100],.str [101],.str [],.str [120,47,121],.str [122,126]]),[]))
theorem ziv:P0 jf [.g] []=zjp:=
 pq (fn:=zaB) (by kernel_rfl) (by kernel_rfl)
def xZ(a0:V)(v12:Nat->V):Option ((Nat->V) ⊕ (Nat×(Nat->V))):=
(zaj a0).bind fun n13=>(zc .lss (v12 1) (.int .i64 ((n13:Nat):Int))).bind fun x14=>(
  asBool x14).bind fun b15=>
  if b15=true then
(ZE a0 (v12 1)).bind fun x16=>(zc .lss x16 (.int .u8 48)).bind fun x17=>(asBool x17).bind fun b18=>((if b18=false then
(ZE a0 (v12 1)).bind fun x19=>(
  zc .gtr x19 (.int .u8 57)).bind fun x20=>
  some x20
else some (.bool true):Option V)).bind fun x21=>(
  asBool x21).bind fun b22=>
  if b22=true then
  some (.inr (1,(vec [.int .i64 0,.bool false])))
else
(zc .mul (.int .i64 10) (v12 0)).bind fun x23=>(ZE a0 (v12 1)).bind fun x24=>(zc .sub x24 (.int .u8 48)).bind fun x25=>(jA .i64 x25).bind fun x26=>(zc .add x23 x26).bind fun x27=>(
  zc .add (v12 1) (.int .i64 1)).bind fun x28=>
  some (.inl (vec [x27,x28]))
else
 some (.inr (0,(vec [(v12 0)])))
def zaP(a0:V)(a1:V):Option (V×List V):=
(zaj a0).bind fun n1=>((if(decide ((n1:Int)<1))=false then
(
  zaj a0).bind fun n2=>
  some (.bool (decide ((n2:Int)>4)))
else some (.bool true):Option V)).bind fun x3=>(asBool x3).bind fun b4=>((if b4=false then
(ZE a0 (.int .i64 0)).bind fun x5=>(zc .eql x5 (.int .u8 48)).bind fun x6=>(asBool x6).bind fun b7=>((if b7=true then
(
  zaj a0).bind fun n8=>
  some (.bool (decide ((n8:Int)>1)))
else some (.bool false):Option V)).bind fun x9=>some x9
else some (.bool true):Option V)).bind fun x10=>(
  asBool x10).bind fun b11=>
  if b11=true then
  some ((.tup [.int .i64 0,.bool false]),[])
else
(
  zr (xZ a0) (vec [.int .i64 0,.int .i64 0])).bind fun o29=>
  if o29.1=0 then
(zc .gtr (o29.2 0) a1).bind fun x30=>(
  asBool x30).bind fun b31=>
  if b31=true then
  some ((.tup [.int .i64 0,.bool false]),[])
else
 some ((.tup [(o29.2 0),.bool true]),[])
else
 some ((.tup [(o29.2 0),(o29.2 1)]),[])
theorem zh5(a0:V)(a1:V):P0 jl [.v a0,.v a1] []=zaP a0 a1:=
 pq (fn:=WZ) (by kernel_rfl) (by kernel_rfl)
def wm(a0:V)(a1:V)(v1:Nat->V):Option ((Nat->V) ⊕ (Nat×(Nat->V))):=
(ze a0 6).bind fun c2=>(yw c2).bind fun n3=>(zc .lss (v1 0) (.int .i64 ((n3:Nat):Int))).bind fun x4=>(asBool x4).bind fun b5=>((if b5=true then
(ze a0 7).bind fun c6=>(yw c6).bind fun n7=>(
  zc .lss (v1 0) (.int .i64 ((n7:Nat):Int))).bind fun x8=>
  some x8
else some (.bool false):Option V)).bind fun x9=>(asBool x9).bind fun b10=>((if b10=true then
(ze a0 0).bind fun c11=>(
  zc .eql c11 (.int .i64 7)).bind fun x12=>
  some x12
else some (.bool false):Option V)).bind fun x13=>(
  asBool x13).bind fun b14=>
  if b14=true then
(ze a0 6).bind fun c15=>(yN 1 c15).bind fun l16=>(y3 (v1 0) (l16.length)).bind fun i17=>(l16[i17]?).bind fun e18=>(ze e18 0).bind fun c19=>(zc .eql c19 a1).bind fun x20=>(
  asBool x20).bind fun b21=>
  if b21=true then
(ze a0 7).bind fun c22=>(yN 8 c22).bind fun l23=>(y3 (v1 0) (l23.length)).bind fun i24=>(
  l23[i24]?).bind fun e25=>
  tst (okN 8 e25) (some (.inr (1,(vec [.bool true,e25]))))
else
(
  zc .add (v1 0) (.int .i64 1)).bind fun x26=>
  some (.inl (vec [x26,(v1 1),(v1 2),(v1 3),(v1 4),(v1 5),(v1 6),(v1 7),(v1 8)]))
else
 some (.inr (0,(vec [.agg [(v1 1),(v1 2),(v1 3),(v1 4),(v1 5),(v1 6),(v1 7),(v1 8)]])))
def JA(a0:V)(a1:V):Option (V×List V):=
 tst (okN 8 a0) ((zr (wm a0 a1) (vec [.int .i64 0,.int .i64 0,.bool false,.bool false,.sl [],.int .i64 0,.str [],.sl [],.sl []])).bind fun o27=>
 if o27.1=0 then
 some ((.tup [(.agg [.int .i64 0,.bool false,.bool false,.sl [],.int .i64 0,.str [],.sl [],.sl []]),.bool false]),[])
else
 some ((.tup [(o27.2 1),(o27.2 0)]),[]))
theorem zf3(a0:V)(a1:V):P0 vD [.v a0,.v a1] []=JA a0 a1:=
 pq (fn:=XT) (by kernel_rfl) (by kernel_rfl)
def qz(n13:Nat)(c12:V)(a1:V)(v14:Nat->V):Option ((Nat->V) ⊕ (Nat×(Nat->V))):=
(zc .lss (v14 0) (.int .i64 ((n13:Nat):Int))).bind fun x15=>(
  asBool x15).bind fun b16=>
  if b16=true then
(yN 8 c12).bind fun l17=>(y3 (v14 0) (l17.length)).bind fun i18=>(
  l17[i18]?).bind fun e19=>
  tst (okN 8 e19) ((zc .add a1 (.int .i64 1)).bind fun x20=>(P0 vj [.v e19,.v x20,.p 0 0] [(false,1,(v14 1))]).bind fun r21=>(r21.2[0]?).bind fun y22=>(unV .not r21.1).bind fun x23=>(
  asBool x23).bind fun b24=>
  if b24=true then
  some (.inr (1,(vec [.bool false,y22])))
else
(
  zc .add (v14 0) (.int .i64 1)).bind fun x25=>
  some (.inl (vec [x25,y22])))
else
 some (.inr (0,(vec [(v14 1)])))
def zcP(a0:V)(a1:V)(a2:V):Option (V×List V):=
 tst (okN 8 a0) ((zc .sub a2 (.int .i64 1)).bind fun x1=>
 tst (okN 1 x1) ((ze x1 0).bind fun c2=>(zc .lss c2 (.int .i64 0)).bind fun x3=>(asBool x3).bind fun b4=>((if b4=false then
(
  zc .gtr a1 (.int .i64 64)).bind fun x5=>
  some x5
else some (.bool true):Option V)).bind fun x6=>(asBool x6).bind fun b7=>((if b7=false then
(P0 kM [.v a0] []).bind fun r8=>(
  unV .not r8.1).bind fun x9=>
  some x9
else some (.bool true):Option V)).bind fun x10=>(
  asBool x10).bind fun b11=>
  if b11=true then
  some ((.bool false),[c2])
else
(ze a0 7).bind fun c12=>(yw c12).bind fun n13=>(
  zr (qz n13 c12 a1) (vec [.int .i64 0,c2])).bind fun o26=>
  if o26.1=0 then
  some ((.bool true),[(o26.2 0)])
else
 some ((o26.2 0),[(o26.2 1)])))
theorem zj8(a0:V)(a1:V)(a2:V):P0 vj [.v a0,.v a1,.p 0 0] [(false,1,a2)]=zcP a0 a1 a2:=
 pq (fn:=Qf) (by kernel_rfl) (by kernel_rfl)
def wT(a0:V)(a1:Nat):Option (V×List V):=
(P0 yK [.v a0,.fn a1 []] []).bind fun r1=>(
  zc .geq r1.1 (.int .i64 0)).bind fun x2=>
  some (x2,[])
theorem jY(a0:V)(a1:Nat):P0 yc [.v a0,.fn a1 []] []=wT a0 a1:=
 pq (fn:=xA) (by kernel_rfl) (by kernel_rfl)
def zaZ(a0:V):Option (V×List V):=
 tst (okN 11 a0) ((P0 qa [.v a0] []).bind fun r1=>(
  unV .not r1.1).bind fun x2=>
  some (x2,[]))
theorem zh4(a0:V):P0 wu [.v a0] []=zaZ a0:=
 pq (fn:=Vj) (by kernel_rfl) (by kernel_rfl)
def zea(a0:V):Option (V×List V):=
 tst (okN 11 a0) ((ze a0 2).bind fun c1=>(yw c1).bind fun n2=>(P0 kJ [.v (Wi a0 3 8)] []).bind fun r3=>(((ze a0 0).bind fun c4=>(((((zc .eql c4 (.int .i64 4)).bind fun x5=>(
  asBool x5).bind fun b6=>
  if b6=true then
  some (3,(vec []))
else
(zc .eql c4 (.int .i64 5)).bind fun x7=>(
  asBool x7).bind fun b8=>
  if b8=true then
  some (3,(vec []))
else
(zc .eql c4 (.int .i64 1)).bind fun x9=>(
  asBool x9).bind fun b10=>
  if b10=true then
(
  asBool x9).bind fun b11=>
  if b11=true then
  some (0,(vec []))
else
(zc .eql c4 (.int .i64 2)).bind fun x12=>(
  asBool x12).bind fun b13=>
  if b13=true then
  some (1,(vec []))
else
 some (2,(vec []))
else
(zc .eql c4 (.int .i64 3)).bind fun x14=>(
  asBool x14).bind fun b15=>
  if b15=true then
(
  asBool x14).bind fun b16=>
  if b16=true then
  some (0,(vec []))
else
(zc .eql c4 (.int .i64 2)).bind fun x17=>(
  asBool x17).bind fun b18=>
  if b18=true then
  some (1,(vec []))
else
 some (2,(vec []))
else
(zc .eql c4 (.int .i64 6)).bind fun x19=>(
  asBool x19).bind fun b20=>
  if b20=true then
  some (0,(vec []))
else
(zc .eql c4 (.int .i64 2)).bind fun x21=>(
  asBool x21).bind fun b22=>
  if b22=true then
  some (1,(vec []))
else
 some (2,(vec [])):Option (Nat×(Nat->V)))).bind fun o23=>
 if o23.1=0 then
 some (3,(vec [(.bool ((n2:Int)==0))]))
else
 if(o23.1-1)=0 then
 some (1,(vec [(.bool ((n2:Int)==0))]))
else
 if((o23.1-1)-1)=0 then
 some (2,(vec []))
else
(ze a0 2).bind fun c24=>(
  P0 qU [.v c24] []).bind fun r25=>
  some (0,(vec [r25.1])):Option (Nat×(Nat->V)))).bind fun o26=>
  if o26.1=0 then
  some (0,(vec [r3.1,(o26.2 0)]))
else
 if(o26.1-1)=0 then
 some (0,(vec [r3.1,(o26.2 0)]))
else
 if((o26.1-1)-1)=0 then
 some (1,(vec [.bool false]))
else
(
  P0 xo [.v (Wi a0 3 8)] []).bind fun r27=>
  some (0,(vec [r27.1,(o26.2 0)])):Option (Nat×(Nat->V)))).bind fun o28=>
  if o28.1=0 then
(ze a0 1).bind fun c29=>(P0 qU [.v c29] []).bind fun r30=>(asBool r30.1).bind fun b31=>(
  (if b31=true then
  some (o28.2 1)
else some (.bool false):Option V)).bind fun x32=>(asBool x32).bind fun b33=>(
  (if b33=true then
  some (o28.2 0)
else some (.bool false):Option V)).bind fun x34=>some (x34,[])
else
 some ((o28.2 0),[]))
theorem ziU(a0:V):P0 qa [.v a0] []=zea a0:=
 pq (fn:=zeg) (by kernel_rfl) (by kernel_rfl)
def kC(n15:Nat)(c14:V)(v16:Nat->V):Option ((Nat->V) ⊕ (Nat×(Nat->V))):=
(zc .lss (v16 1) (.int .i64 ((n15:Nat):Int))).bind fun x17=>(
  asBool x17).bind fun b18=>
  if b18=true then
(yN 8 c14).bind fun l19=>(y3 (v16 1) (l19.length)).bind fun i20=>(
  l19[i20]?).bind fun e21=>
  tst (okN 8 e21) ((P0 vq [.v e21] []).bind fun r22=>(zc .add (v16 0) r22.1).bind fun x23=>(
  zc .add (v16 1) (.int .i64 1)).bind fun x24=>
  some (.inl (vec [x23,x24])))
else
 some (.inr (0,(vec [(v16 0)])))
def zav(a0:V):Option (V×List V):=
 tst (okN 8 a0) ((((ze a0 0).bind fun c1=>(zc .eql c1 (.int .i64 3)).bind fun x2=>(
  asBool x2).bind fun b3=>
  if b3=true then
(ze a0 3).bind fun c4=>(
  yw c4).bind fun n5=>
  some (0,(vec [(.int .i64 (IntKind.wrap .i64 (1+((n5:Nat):Int))))]))
else
(((zc .eql c1 (.int .i64 4)).bind fun x6=>(
  asBool x6).bind fun b7=>
  if b7=true then
  some (0,(vec [x6]))
else
(
  zc .eql c1 (.int .i64 5)).bind fun x8=>
  some (0,(vec [x8])):Option (Nat×(Nat->V)))).bind fun o9=>(
  asBool (o9.2 0)).bind fun b10=>
  if b10=true then
(ze a0 5).bind fun c11=>(
  zaj c11).bind fun n12=>
  some (0,(vec [(.int .i64 (IntKind.wrap .i64 (1+((n12:Nat):Int))))]))
else
 some (0,(vec [.int .i64 1])):Option (Nat×(Nat->V)))).bind fun o13=>(ze a0 7).bind fun c14=>(yw c14).bind fun n15=>(
  zr (kC n15 c14) (vec [(o13.2 0),.int .i64 0])).bind fun o25=>
  some ((o25.2 0),[]))
theorem zi8(a0:V):P0 vq [.v a0] []=zav a0:=
 pq (fn:=WX) (by kernel_rfl) (by kernel_rfl)
def ZB(n2:Nat)(c1:V)(v3:Nat->V):Option ((Nat->V) ⊕ (Nat×(Nat->V))):=
(zc .lss (v3 1) (.int .i64 ((n2:Nat):Int))).bind fun x4=>(
  asBool x4).bind fun b5=>
  if b5=true then
(yN 8 c1).bind fun l6=>(y3 (v3 1) (l6.length)).bind fun i7=>(
  l6[i7]?).bind fun e8=>
  tst (okN 8 e8) ((P0 qg [.v e8] []).bind fun r9=>(zc .add (v3 0) r9.1).bind fun x10=>(
  zc .add (v3 1) (.int .i64 1)).bind fun x11=>
  some (.inl (vec [x10,x11])))
else
 some (.inr (0,(vec [(v3 0)])))
def zdh(a0:V):Option (V×List V):=
 tst (okN 8 a0) ((ze a0 7).bind fun c1=>(yw c1).bind fun n2=>(
  zr (ZB n2 c1) (vec [.int .i64 1,.int .i64 0])).bind fun o12=>
  some ((o12.2 0),[]))
theorem zjw(a0:V):P0 qg [.v a0] []=zdh a0:=
 pq (fn:=QH) (by kernel_rfl) (by kernel_rfl)
def Zj(n2:Nat)(c1:V)(v3:Nat->V):Option ((Nat->V) ⊕ (Nat×(Nat->V))):=
(zc .lss (v3 1) (.int .i64 ((n2:Nat):Int))).bind fun x4=>(
  asBool x4).bind fun b5=>
  if b5=true then
(yN 8 c1).bind fun l6=>(y3 (v3 1) (l6.length)).bind fun i7=>(
  l6[i7]?).bind fun e8=>
  tst (okN 8 e8) ((P0 qb [.v e8] []).bind fun r9=>(zpH (v3 0) [r9.1]).bind fun x10=>(
  zc .add (v3 1) (.int .i64 1)).bind fun x11=>
  some (.inl (vec [x10,x11])))
else
 some (.inr (0,(vec [(v3 0)])))
def zde(a0:V):Option (V×List V):=
 tst (okN 8 a0) ((ze a0 7).bind fun c1=>(yw c1).bind fun n2=>(zr (Zj n2 c1) (vec [.int .i64 0,.int .i64 0])).bind fun o12=>(
  zc .add (.int .i64 1) (o12.2 0)).bind fun x13=>
  some (x13,[]))
theorem zjU(a0:V):P0 qb [.v a0] []=zde a0:=
 pq (fn:=Qi) (by kernel_rfl) (by kernel_rfl)
def zkk(a0:V):Option (V×List V):=
 tst (okN 8 a0) ((ze a0 7).bind fun c1=>(yw c1).bind fun n2=>((if(decide ((n2:Int)<=300))=true then
(ze a0 7).bind fun c3=>(P0 xi [.v c3,.fn jJ []] []).bind fun r4=>(
  unV .not r4.1).bind fun x5=>
  some x5
else some (.bool false):Option V)).bind fun x6=>some (x6,[]))
theorem zq3(a0:V):P0 ZY [.v a0] []=zkk a0:=
 pq (fn:=zet) (by kernel_rfl) (by kernel_rfl)
def qr(a0:V)(a1:V)(v3:Nat->V):Option ((Nat->V) ⊕ (Nat×(Nat->V))):=
(yw a0).bind fun n4=>(zc .lss (v3 0) (.int .i64 ((n4:Nat):Int))).bind fun x5=>(
  asBool x5).bind fun b6=>
  if b6=true then
(yN 1 a0).bind fun l7=>(y3 (v3 0) (l7.length)).bind fun i9=>(l7[i9]?).bind fun e10=>(ze e10 0).bind fun c11=>(yN 1 a1).bind fun l12=>(y3 (v3 0) (l12.length)).bind fun i13=>(l12[i13]?).bind fun e14=>(ze e14 0).bind fun c15=>(zc .neq c11 c15).bind fun x16=>(
  asBool x16).bind fun b17=>
  if b17=true then
  some (.inr (1,(vec [.bool false])))
else
(
  zc .add (v3 0) (.int .i64 1)).bind fun x18=>
  some (.inl (vec [x18]))
else
 some (.inr (0,(vec [])))
def WN(a0:V)(a1:V):Option (V×List V):=
(yw a0).bind fun n1=>(
  yw a1).bind fun n2=>
  if((n1:Int) != ((n2:Nat):Int))=true then
  some ((.bool false),[])
else
(
  zr (qr a0 a1) (vec [.int .i64 0])).bind fun o19=>
  if o19.1=0 then
  some ((.bool true),[])
else
 some ((o19.2 0),[])
theorem zbw(a0:V)(a1:V):P0 wI [.v a0,.v a1] []=WN a0 a1:=
 pq (fn:=ZC) (by kernel_rfl) (by kernel_rfl)
def zfn(a0:V):Option (V×List V):=
(yw a0).bind fun n1=>(yN 1 a0).bind fun l2=>(Wk none (some (.int .i64 (IntKind.wrap .i64 (((n1:Nat):Int)-1)))) (l2.length)).bind fun q3=>(yw a0).bind fun n4=>(yN 1 a0).bind fun l5=>(y3 (.int .i64 (IntKind.wrap .i64 (((n4:Nat):Int)-1))) (l5.length)).bind fun i6=>(l5[i6]?).bind fun e7=>(
  ze e7 0).bind fun c8=>
  some ((.tup [(.sl ((l2.drop q3.1).take (q3.2-q3.1))),c8]),[])
theorem zlC(a0:V):P0 jN [.v a0] []=zfn a0:=
 pq (fn:=JU) (by kernel_rfl) (by kernel_rfl)
def zh0(a0:V)(a1:V)(a2:V):Option (V×List V):=
 tst (okN 8 a0) (tst (okN 1 a1) ((ze a1 0).bind fun c1=>
 tst (okN 8 a2) ((P0 jE [.v a0] []).bind fun r2=>(zj r2.1 0).bind fun x3=>(zj r2.1 1).bind fun x4=>(yw x3).bind fun n5=>(yw x4).bind fun n6=>(zjV 16 (.int .i64 ((n5:Nat):Int)) (.int .i64 ((n5:Nat):Int))).bind fun q7=>(zjV 120 (.int .i64 ((n6:Nat):Int)) (.int .i64 ((n6:Nat):Int))).bind fun q8=>(zds 1 x3).bind fun l9=>(zds 8 x4).bind fun l10=>(P0 yT [.v (.sl (((wG (List.replicate q7.2 (.str [])) 0 (l9.take (Nat.min (l9.length) q7.1))).drop 0).take q7.1)),.v c1] []).bind fun r11=>(zc .geq r11.1 (.int .i64 0)).bind fun x12=>(
  asBool x12).bind fun b13=>
  if b13=true then
(
  y3 r11.1 q8.1).bind fun i14=>
  tst (okN 8 a2) (some ((.agg [.int .i64 7,.bool false,.bool false,.sl [],.int .i64 0,.str [],(.sl (((wG (List.replicate q7.2 (.str [])) 0 (l9.take (Nat.min (l9.length) q7.1))).drop 0).take q7.1)),(.sl ((((wG (List.replicate q8.2 (.agg [.int .i64 0,.bool false,.bool false,.sl [],.int .i64 0,.str [],.sl [],.sl []])) 0 (l10.take (Nat.min (l10.length) q8.1))).set (0+i14) a2).drop 0).take q8.1))]),[]))
else
(P0 yt [.v (.sl (((wG (List.replicate q7.2 (.str [])) 0 (l9.take (Nat.min (l9.length) q7.1))).drop 0).take q7.1)),.fn vd [.p 0 0]] [(false,1,c1)]).bind fun r15=>(r15.2[0]?).bind fun y16=>(((zc .lss r15.1 (.int .i64 0)).bind fun x17=>(
  asBool x17).bind fun b18=>
  if b18=true then
  some (0,(vec [(.int .i64 ((q7.1:Nat):Int))]))
else
 some (0,(vec [r15.1])):Option (Nat×(Nat->V)))).bind fun o19=>
 tst (okN 1 y16) ((ze y16 0).bind fun c20=>
 tst (Nat.beq q7.1 q7.2) ((P0 vh [.u,.v (.sl (((wG (List.replicate q7.2 (.str [])) 0 (l9.take (Nat.min (l9.length) q7.1))).drop 0).take q7.1)),.v (o19.2 0),.v (.sl [c20])] []).bind fun r21=>
 tst (okN 8 a2) (tst (Nat.beq q8.1 q8.2) ((P0 qN [.u,.v (.sl (((wG (List.replicate q8.2 (.agg [.int .i64 0,.bool false,.bool false,.sl [],.int .i64 0,.str [],.sl [],.sl []])) 0 (l10.take (Nat.min (l10.length) q8.1))).drop 0).take q8.1)),.v (o19.2 0),.v (.sl [a2])] []).bind fun r22=>
 tst (okN 1 r21.1) ((ze r21.1 0).bind fun c23=>
 tst (okN 1 r22.1) ((ze r22.1 0).bind fun c24=>
 some ((.agg [.int .i64 7,.bool false,.bool false,.sl [],.int .i64 0,.str [],c23,c24]),[]))))))))))
theorem zol(a0:V)(a1:V)(a2:V):P0 kP [.v a0,.v a1,.v a2] []=zh0 a0 a1 a2:=
 pq (fn:=zbV) (by kernel_rfl) (by kernel_rfl)
def xB(n13:Nat)(a0:V)(v14:Nat->V):Option ((Nat->V) ⊕ (Nat×(Nat->V))):=
(zc .lss (v14 1) (.int .i64 ((n13:Nat):Int))).bind fun x15=>(
  asBool x15).bind fun b16=>
  if b16=true then
(ZE a0 (v14 1)).bind fun x17=>(zc .lss x17 (.int .u8 48)).bind fun x18=>(asBool x18).bind fun b19=>((if b19=false then
(ZE a0 (v14 1)).bind fun x20=>(
  zc .gtr x20 (.int .u8 57)).bind fun x21=>
  some x21
else some (.bool true):Option V)).bind fun x22=>(
  asBool x22).bind fun b23=>
  if b23=true then
  some (.inr (1,(vec [.int .i64 0,.bool false])))
else
(zc .mul (.int .i64 10) (v14 0)).bind fun x24=>(ZE a0 (v14 1)).bind fun x25=>(zc .sub x25 (.int .u8 48)).bind fun x26=>(jA .i64 x26).bind fun x27=>(zc .add x24 x27).bind fun x28=>(
  zc .add (v14 1) (.int .i64 1)).bind fun x29=>
  some (.inl (vec [x28,x29]))
else
 some (.inr (0,(vec [(v14 0)])))
def QZ(a0:V)(a1:V):Option (V×List V):=
(zc .eql a0 (.str [])).bind fun x1=>(asBool x1).bind fun b2=>((if b2=false then
(
  zaj a0).bind fun n3=>
  some (.bool (decide ((n3:Int)>4)))
else some (.bool true):Option V)).bind fun x4=>(asBool x4).bind fun b5=>((if b5=false then
(ZE a0 (.int .i64 0)).bind fun x6=>(zc .eql x6 (.int .u8 48)).bind fun x7=>(asBool x7).bind fun b8=>((if b8=true then
(
  zaj a0).bind fun n9=>
  some (.bool (decide ((n9:Int)>1)))
else some (.bool false):Option V)).bind fun x10=>some x10
else some (.bool true):Option V)).bind fun x11=>(
  asBool x11).bind fun b12=>
  if b12=true then
  some ((.tup [.int .i64 0,.bool false]),[])
else
(zaj a0).bind fun n13=>(
  zr (xB n13 a0) (vec [.int .i64 0,.int .i64 0])).bind fun o30=>
  if o30.1=0 then
(zc .gtr (o30.2 0) a1).bind fun x31=>(
  asBool x31).bind fun b32=>
  if b32=true then
  some ((.tup [.int .i64 0,.bool false]),[])
else
 some ((.tup [(o30.2 0),.bool true]),[])
else
 some ((.tup [(o30.2 0),(o30.2 1)]),[])
theorem zep(a0:V)(a1:V):P0 xv [.v a0,.v a1] []=QZ a0 a1:=
 pq (fn:=YU) (by kernel_rfl) (by kernel_rfl)
def yA(n1:Nat)(a0:V)(v2:Nat->V):Option ((Nat->V) ⊕ (Nat×(Nat->V))):=
(zc .lss (v2 1) (.int .i64 ((n1:Nat):Int))).bind fun x3=>(
  asBool x3).bind fun b4=>
  if b4=true then
(yN 1 a0).bind fun l5=>(y3 (v2 1) (l5.length)).bind fun i6=>(l5[i6]?).bind fun e7=>(ze e7 0).bind fun c8=>(yw c8).bind fun n9=>(zc .add (v2 0) (.int .i64 ((n9:Nat):Int))).bind fun x10=>(zc .lss x10 (.int .i64 0)).bind fun x11=>(
  asBool x11).bind fun b12=>
  if b12=true then
(zaF true (.iface 9 (.str [108,101,110,32,111,117,116,32,111,102,32,114,97,110,103,101]))).bind fun x13=>(
  asBool x13).bind fun b14=>
  if b14=true then
  some (.inr (1,(vec [(.iface 9 (.str [108,101,110,32,111,117,116,32,111,102,32,114,97,110,103,101]))])))
else
 some (.inr (2,(vec [])))
else
(
  zc .add (v2 1) (.int .i64 1)).bind fun x15=>
  some (.inl (vec [x10,x15]))
else
 some (.inr (0,(vec [(v2 0)])))
def yz(n19:Nat)(a0:V)(v20:Nat->V):Option ((Nat->V) ⊕ (Nat×(Nat->V))):=
(zc .lss (v20 1) (.int .i64 ((n19:Nat):Int))).bind fun x21=>(
  asBool x21).bind fun b22=>
  if b22=true then
(yN 1 a0).bind fun l23=>(y3 (v20 1) (l23.length)).bind fun i24=>(l23[i24]?).bind fun e25=>(ze e25 0).bind fun c26=>(
  zds 8 c26).bind fun l27=>
  tst (wZ 120 ((V.elems (v20 0)).length) (l27.length)) ((zc .add (v20 1) (.int .i64 1)).bind fun x28=>
  some (.inl (vec [(.sl ((V.elems (v20 0))++l27)),x28])))
else
 some (.inr (0,(vec [(.sl (V.elems (v20 0)))])))
def kN(a0:V):Option (V×List V):=
(yw a0).bind fun n1=>(
  zr (yA n1 a0) (vec [.int .i64 0,.int .i64 0])).bind fun o16=>
  if o16.1=0 then
(P0 j2 [.g,.v (.sl []),.v (o16.2 0)] []).bind fun r17=>(slV r17.1).bind fun l18=>(yw a0).bind fun n19=>(
  zr (yz n19 a0) (vec [.sl l18,.int .i64 0])).bind fun o29=>
  some ((.sl (V.elems (o29.2 0))),[])
else
 if(o16.1-1)=0 then
 none
else
 none
theorem YZ(a0:V):P0 y9 [.v a0] []=kN a0:=
 pq (fn:=kE) (by kernel_rfl) (by kernel_rfl)
def zcB(a0:V)(a1:V):Option (V×List V):=
 tst (okN 8 a0) ((P0 jE [.v a0] []).bind fun r1=>(zj r1.1 0).bind fun x2=>(zj r1.1 1).bind fun x3=>(P0 yT [.v x2,.v a1] []).bind fun r4=>(zc .lss r4.1 (.int .i64 0)).bind fun x5=>(
  asBool x5).bind fun b6=>
  if b6=true then
  tst (okN 8 a0) (some (a0,[]))
else
(yN 1 x2).bind fun l7=>(Wk none (some r4.1) (l7.length)).bind fun q8=>(zc .add r4.1 (.int .i64 1)).bind fun x9=>(yN 1 x2).bind fun l10=>(Wk (some x9) none (l10.length)).bind fun q11=>(P0 xx [.v (.sl [(.sl ((l7.drop q8.1).take (q8.2-q8.1))),(.sl ((l10.drop q11.1).take (q11.2-q11.1)))])] []).bind fun r12=>(yN 8 x3).bind fun l13=>(Wk none (some r4.1) (l13.length)).bind fun q14=>(zc .add r4.1 (.int .i64 1)).bind fun x15=>(yN 8 x3).bind fun l16=>(Wk (some x15) none (l16.length)).bind fun q17=>(
  P0 y9 [.v (.sl [(.sl ((l13.drop q14.1).take (q14.2-q14.1))),(.sl ((l16.drop q17.1).take (q17.2-q17.1)))])] []).bind fun r18=>
  tst (okN 1 r12.1) ((ze r12.1 0).bind fun c19=>
  tst (okN 1 r18.1) ((ze r18.1 0).bind fun c20=>
  some ((.agg [.int .i64 7,.bool false,.bool false,.sl [],.int .i64 0,.str [],c19,c20]),[]))))
theorem zju(a0:V)(a1:V):P0 j4 [.v a0,.v a1] []=zcB a0 a1:=
 pq (fn:=Qt) (by kernel_rfl) (by kernel_rfl)
def W7(a0:V)(a1:V)(a2:V):Option (V×List V):=
 tst (okN 8 a0) (tst (okN 8 a2) ((yw a1).bind fun n1=>
 if((n1:Int)==0)=true then
 tst (okN 8 a2) (some ((.tup [a2,.bool true]),[]))
else
(yN 1 a1).bind fun l2=>(y3 (.int .i64 0) (l2.length)).bind fun i3=>(l2[i3]?).bind fun e4=>(ze e4 0).bind fun c5=>(P0 vw [.v a0,.v c5] []).bind fun r6=>(zj r6.1 0).bind fun x7=>(
  zj r6.1 1).bind fun x8=>
  tst (okN 8 x7) ((((asBool x8).bind fun b9=>
  if b9=true then
(yN 1 a1).bind fun l10=>(Wk (some (.int .i64 1)) none (l10.length)).bind fun q11=>(P0 qo [.v x7,.v (.sl ((l10.drop q11.1).take (q11.2-q11.1))),.v a2] []).bind fun r12=>(zj r12.1 0).bind fun x13=>(
  zj r12.1 1).bind fun x14=>
  tst (okN 8 x13) (some (0,(vec [x14,x13])))
else
 some (0,(vec [x8,x7])):Option (Nat×(Nat->V)))).bind fun o15=>(unV .not (o15.2 0)).bind fun x16=>(
  asBool x16).bind fun b17=>
  if b17=true then
  some ((.tup [(.agg [.int .i64 0,.bool false,.bool false,.sl [],.int .i64 0,.str [],.sl [],.sl []]),.bool false]),[])
else
(ze a0 0).bind fun c18=>(zc .eql c18 (.int .i64 7)).bind fun x19=>(
  asBool x19).bind fun b20=>
  if b20=true then
(yN 1 a1).bind fun l21=>(y3 (.int .i64 0) (l21.length)).bind fun i22=>(l21[i22]?).bind fun e23=>(ze e23 0).bind fun c24=>(
  P0 kP [.v a0,.v c24,.v (o15.2 1)] []).bind fun r25=>
  tst (okN 8 r25.1) (some ((.tup [r25.1,.bool true]),[]))
else
(yN 1 a1).bind fun l26=>(y3 (.int .i64 0) (l26.length)).bind fun i27=>(l26[i27]?).bind fun e28=>(ze e28 0).bind fun c29=>(ze a0 7).bind fun c30=>(yw c30).bind fun n31=>(P0 xv [.v c29,.v (.int .i64 (IntKind.wrap .i64 (((n31:Nat):Int)-1)))] []).bind fun r32=>(zj r32.1 0).bind fun x33=>(zj r32.1 1).bind fun x34=>(ze a0 7).bind fun c35=>(yw c35).bind fun n36=>(zjV 120 (.int .i64 ((n36:Nat):Int)) (.int .i64 ((n36:Nat):Int))).bind fun q37=>(ze a0 7).bind fun c38=>(zds 8 c38).bind fun l39=>(
  y3 x33 q37.1).bind fun i40=>
  tst (okN 8 (o15.2 1)) ((ze a0 0).bind fun c41=>(ze a0 1).bind fun c42=>(ze a0 2).bind fun c43=>(ze a0 3).bind fun c44=>(ze a0 4).bind fun c45=>(ze a0 5).bind fun c46=>(ze a0 6).bind fun c47=>(
  ze a0 7).bind fun c48=>
  some ((.tup [(.agg [c41,c42,c43,c44,c45,c46,c47,(.sl ((((wG (List.replicate q37.2 (.agg [.int .i64 0,.bool false,.bool false,.sl [],.int .i64 0,.str [],.sl [],.sl []])) 0 (l39.take (Nat.min (l39.length) q37.1))).set (0+i40) (o15.2 1)).drop 0).take q37.1))]),.bool true]),[])))))
theorem KC(a0:V)(a1:V)(a2:V):P0 qo [.v a0,.v a1,.v a2] []=W7 a0 a1 a2:=
 pq (fn:=W8) (by kernel_rfl) (by kernel_rfl)
def yG(n3:Nat)(a0:V)(a1:V)(v4:Nat->V):Option ((Nat->V) ⊕ (Nat×(Nat->V))):=
(zc .lss (v4 0) (.int .i64 ((n3:Nat):Int))).bind fun x5=>(
  asBool x5).bind fun b6=>
  if b6=true then
(yN 1 a0).bind fun l7=>(y3 (v4 0) (l7.length)).bind fun i9=>(l7[i9]?).bind fun e10=>(ze e10 0).bind fun c11=>(yN 1 a1).bind fun l12=>(y3 (v4 0) (l12.length)).bind fun i13=>(l12[i13]?).bind fun e14=>(ze e14 0).bind fun c15=>(zc .neq c11 c15).bind fun x16=>(
  asBool x16).bind fun b17=>
  if b17=true then
  some (.inr (1,(vec [.bool false])))
else
(
  zc .add (v4 0) (.int .i64 1)).bind fun x18=>
  some (.inl (vec [x18]))
else
 some (.inr (0,(vec [])))
def ZI(a0:V)(a1:V):Option (V×List V):=
(yw a0).bind fun n1=>(
  yw a1).bind fun n2=>
  if((n1:Int) != ((n2:Nat):Int))=true then
  some ((.bool false),[])
else
(yw a0).bind fun n3=>(
  zr (yG n3 a0 a1) (vec [.int .i64 0])).bind fun o19=>
  if o19.1=0 then
  some ((.bool true),[])
else
 some ((o19.2 0),[])
theorem QT(a0:V)(a1:V):P0 yU [.v a0,.v a1] []=ZI a0 a1:=
 pq (fn:=js) (by kernel_rfl) (by kernel_rfl)
def VT(a0:V)(a1:V):Option (V×List V):=
(yw a0).bind fun n1=>(yw a1).bind fun n2=>((if(decide ((n1:Int)<=((n2:Nat):Int)))=true then
(yw a0).bind fun n3=>(yN 1 a1).bind fun l4=>(Wk none (some (.int .i64 ((n3:Nat):Int))) (l4.length)).bind fun q5=>(
  P0 yU [.v a0,.v (.sl ((l4.drop q5.1).take (q5.2-q5.1)))] []).bind fun r6=>
  some r6.1
else some (.bool false):Option V)).bind fun x7=>some (x7,[])
theorem zdk(a0:V)(a1:V):P0 wl [.v a0,.v a1] []=VT a0 a1:=
 pq (fn:=Yf) (by kernel_rfl) (by kernel_rfl)
def qV(n1:Nat)(a1:V)(v2:Nat->V):Option ((Nat->V) ⊕ (Nat×(Nat->V))):=
(zc .lss (v2 0) (.int .i64 ((n1:Nat):Int))).bind fun x3=>(
  asBool x3).bind fun b4=>
  if b4=true then
(yN 1 a1).bind fun l5=>(y3 (v2 0) (l5.length)).bind fun i6=>(l5[i6]?).bind fun e7=>(ze e7 0).bind fun c8=>(P0 vw [.v (v2 1),.v c8] []).bind fun r9=>(zj r9.1 0).bind fun x10=>(
  zj r9.1 1).bind fun x11=>
  tst (okN 8 x10) ((unV .not x11).bind fun x12=>(
  asBool x12).bind fun b13=>
  if b13=true then
  some (.inr (1,(vec [.bool false,(v2 1),.int .i64 0,.bool false,.bool false,.sl [],.int .i64 0,.str [],.sl [],.sl []])))
else
 tst (okN 8 x10) ((zc .add (v2 0) (.int .i64 1)).bind fun x14=>
 some (.inl (vec [x14,x10,(v2 2),(v2 3),(v2 4),(v2 5),(v2 6),(v2 7),(v2 8),(v2 9)]))))
else
 some (.inr (0,(vec [(v2 1),.agg [(v2 2),(v2 3),(v2 4),(v2 5),(v2 6),(v2 7),(v2 8),(v2 9)]])))
def zaT(a0:V)(a1:V):Option (V×List V):=
 tst (okN 8 a0) ((yw a1).bind fun n1=>(
  zr (qV n1 a1) (vec [.int .i64 0,a0,.int .i64 0,.bool false,.bool false,.sl [],.int .i64 0,.str [],.sl [],.sl []])).bind fun o15=>
  if o15.1=0 then
  tst (okN 8 (o15.2 0)) (some ((.tup [(o15.2 0),.bool true]),[]))
else
 some ((.tup [.agg [(o15.2 2),(o15.2 3),(o15.2 4),(o15.2 5),(o15.2 6),(o15.2 7),(o15.2 8),(o15.2 9)],(o15.2 0)]),[]))
theorem zif(a0:V)(a1:V):P0 jh [.v a0,.v a1] []=zaT a0 a1:=
 pq (fn:=W6) (by kernel_rfl) (by kernel_rfl)
def ziS(a0:V)(a1:V):Option (V×List V):=
 tst (okN 3 a0) (tst (okN 3 a1) ((P0 XO [.v a0] []).bind fun r1=>(
  P0 XO [.v a1] []).bind fun r2=>
  tst (okN 3 r1.1) (tst (okN 3 r2.1) ((ze r1.1 0).bind fun c3=>(ze r2.1 0).bind fun c4=>(asBool c3).bind fun b5=>(asBool c4).bind fun b6=>((if(b5==b6)=true then
(ze r1.1 2).bind fun c7=>(ze r2.1 2).bind fun c8=>(
  zc .eql c7 c8).bind fun x9=>
  some x9
else some (.bool false):Option V)).bind fun x10=>(asBool x10).bind fun b11=>((if b11=true then
(ze r1.1 1).bind fun c12=>(ze r2.1 1).bind fun c13=>(
  P0 xC [.v c12,.v c13] []).bind fun r14=>
  some r14.1
else some (.bool false):Option V)).bind fun x15=>some (x15,[])))))
theorem zoR(a0:V)(a1:V):P0 Z9 [.v a0,.v a1] []=ziS a0 a1:=
 pq (fn:=zbp) (by kernel_rfl) (by kernel_rfl)
def yH(n3:Nat)(a0:V)(a1:V)(a2:Nat)(v4:Nat->V):Option ((Nat->V) ⊕ (Nat×(Nat->V))):=
(zc .lss (v4 0) (.int .i64 ((n3:Nat):Int))).bind fun x5=>(
  asBool x5).bind fun b6=>
  if b6=true then
(yN 8 a0).bind fun l7=>(y3 (v4 0) (l7.length)).bind fun i9=>(
  l7[i9]?).bind fun e10=>
  tst (okN 8 e10) ((yN 8 a1).bind fun l11=>(y3 (v4 0) (l11.length)).bind fun i12=>(
  l11[i12]?).bind fun e13=>
  tst (okN 8 e13) (tst (Nat.blt a2 wX) ((P0 a2 [.v e10,.v e13] []).bind fun r14=>(unV .not r14.1).bind fun x15=>(
  asBool x15).bind fun b16=>
  if b16=true then
  some (.inr (1,(vec [.bool false])))
else
(
  zc .add (v4 0) (.int .i64 1)).bind fun x17=>
  some (.inl (vec [x17])))))
else
 some (.inr (0,(vec [])))
def ZW(a0:V)(a1:V)(a2:Nat):Option (V×List V):=
(yw a0).bind fun n1=>(
  yw a1).bind fun n2=>
  if((n1:Int) != ((n2:Nat):Int))=true then
  some ((.bool false),[])
else
(yw a0).bind fun n3=>(
  zr (yH n3 a0 a1 a2) (vec [.int .i64 0])).bind fun o18=>
  if o18.1=0 then
  some ((.bool true),[])
else
 some ((o18.2 0),[])
theorem Qw(a0:V)(a1:V)(a2:Nat):P0 xn [.v a0,.v a1,.fn a2 []] []=ZW a0 a1 a2:=
 pq (fn:=jt) (by kernel_rfl) (by kernel_rfl)
def zg5(a0:V):Option (V×List V):=
(jA .u64 a0).bind fun x1=>(((zc .lss a0 (.int .i64 0)).bind fun x2=>(
  asBool x2).bind fun b3=>
  if b3=true then
(
  unV .neg x1).bind fun x4=>
  some (0,(vec [x4]))
else
 some (0,(vec [x1])):Option (Nat×(Nat->V)))).bind fun o5=>(zc .lss a0 (.int .i64 0)).bind fun x6=>(jA .u32 (o5.2 0)).bind fun x7=>(zc .shr (o5.2 0) (.int .u64 32)).bind fun x8=>(
  jA .u32 x8).bind fun x9=>
  tst (okN 1 x7) ((ze x7 0).bind fun c10=>
  tst (okN 1 x9) ((ze x9 0).bind fun c11=>(P0 w8 [.v x6,.v (.sl [c10,c11]),.v (.int .i64 0)] []).bind fun r12=>(zj r12.1 0).bind fun x13=>(
  zj r12.1 1).bind fun x14=>
  tst (okN 3 x13) (tst (okN 3 x13) (some (x13,[])))))
theorem zpM(a0:V):P0 kG [.v a0] []=zg5 a0:=
 pq (fn:=zba) (by kernel_rfl) (by kernel_rfl)
def zcd(a0:V)(a1:V)(a2:V):Option (V×List V):=
(P0 j3 [.v a1] []).bind fun r1=>(zj r1.1 0).bind fun x2=>(zj r1.1 1).bind fun x3=>(
  yw x2).bind fun n4=>
  if((n4:Int)==0)=true then
  some ((.tup [(.agg [.bool false,.sl [],.int .i64 0]),.bool true]),[])
else
(yw x2).bind fun n5=>((if(decide ((n5:Int)>90))=false then
(
  zc .lss a2 (.int .i64 (-1099511627776))).bind fun x6=>
  some x6
else some (.bool true):Option V)).bind fun x7=>(asBool x7).bind fun b8=>((if b8=false then
(
  zc .gtr a2 (.int .i64 1099511627776)).bind fun x9=>
  some x9
else some (.bool true):Option V)).bind fun x10=>(asBool x10).bind fun b11=>((if b11=false then
(
  zc .gtr x3 (.int .i64 1099511627776)).bind fun x12=>
  some x12
else some (.bool true):Option V)).bind fun x13=>(asBool x13).bind fun b14=>((if b14=false then
(zc .add a2 x3).bind fun x15=>(
  zc .lss x15 (.int .i64 (-1200))).bind fun x16=>
  some x16
else some (.bool true):Option V)).bind fun x17=>(asBool x17).bind fun b18=>((if b18=false then
(zc .add a2 x3).bind fun x19=>(
  zc .gtr x19 (.int .i64 1200)).bind fun x20=>
  some x20
else some (.bool true):Option V)).bind fun x21=>(
  asBool x21).bind fun b22=>
  if b22=true then
  some ((.tup [(.agg [.bool false,.sl [],.int .i64 0]),.bool false]),[])
else
(
  zc .add a2 x3).bind fun x23=>
  tst (okN 1 a0) ((ze a0 0).bind fun c24=>
  tst (okN 1 x2) ((ze x2 0).bind fun c25=>
  tst (okN 1 x23) ((ze x23 0).bind fun c26=>
  tst (okN 3 (.agg [c24,c25,c26])) (some ((.tup [.agg [c24,c25,c26],.bool true]),[])))))
theorem zj9(a0:V)(a1:V)(a2:V):P0 w8 [.v a0,.v a1,.v a2] []=zcd a0 a1 a2:=
 pq (fn:=Qy) (by kernel_rfl) (by kernel_rfl)
def zhh(a0:V):Option (V×List V):=
 tst (okN 8 a0) ((ze a0 1).bind fun c1=>(unV .not c1).bind fun x2=>(ze a0 2).bind fun c3=>(unV .not c3).bind fun x4=>(asBool x4).bind fun b5=>((if b5=true then
(ze a0 3).bind fun c6=>(
  yw c6).bind fun n7=>
  some (.bool ((n7:Int)==0))
else some (.bool false):Option V)).bind fun x8=>(asBool x8).bind fun b9=>((if b9=true then
(ze a0 4).bind fun c10=>(
  zc .eql c10 (.int .i64 0)).bind fun x11=>
  some x11
else some (.bool false):Option V)).bind fun x12=>(ze a0 5).bind fun c13=>(zc .eql c13 (.str [])).bind fun x14=>(ze a0 6).bind fun c15=>(yw c15).bind fun n16=>(ze a0 7).bind fun c17=>(yw c17).bind fun n18=>(((ze a0 0).bind fun c19=>(((zc .eql c19 (.int .i64 1)).bind fun x20=>(
  asBool x20).bind fun b21=>
  if b21=true then
  some (0,(vec [x2,x12,x14,(.bool ((n16:Int)==0))]))
else
(zc .eql c19 (.int .i64 2)).bind fun x22=>(
  asBool x22).bind fun b23=>
  if b23=true then
  some (0,(vec [.bool true,x12,x14,(.bool ((n16:Int)==0))]))
else
(zc .eql c19 (.int .i64 3)).bind fun x24=>(
  asBool x24).bind fun b25=>
  if b25=true then
(
  P0 jG [.v (Wi a0 2 3)] []).bind fun r26=>
  some (0,(vec [x2,r26.1,x14,(.bool ((n16:Int)==0))]))
else
(zc .eql c19 (.int .i64 4)).bind fun x27=>(
  asBool x27).bind fun b28=>
  if b28=true then
(ze a0 5).bind fun c29=>(
  P0 jH [.v c29] []).bind fun r30=>
  some (0,(vec [x2,x12,r30.1,(.bool ((n16:Int)==0))]))
else
(zc .eql c19 (.int .i64 5)).bind fun x31=>(
  asBool x31).bind fun b32=>
  if b32=true then
(ze a0 5).bind fun c33=>(
  zaj c33).bind fun n34=>
  some (0,(vec [x2,x12,(.bool (decide ((n34:Int)<=2000))),(.bool ((n16:Int)==0))]))
else
(zc .eql c19 (.int .i64 7)).bind fun x35=>(
  asBool x35).bind fun b36=>
  if b36=true then
(ze a0 6).bind fun c37=>(P0 jR [.v c37] []).bind fun r38=>(asBool r38.1).bind fun b39=>((if b39=true then
(ze a0 6).bind fun c40=>(yw c40).bind fun n41=>(ze a0 7).bind fun c42=>(
  yw c42).bind fun n43=>
  some (.bool ((n41:Int)==((n43:Nat):Int)))
else some (.bool false):Option V)).bind fun x44=>some (2,(vec [x2,x12,x14,x44]))
else
(zc .eql c19 (.int .i64 6)).bind fun x45=>(
  asBool x45).bind fun b46=>
  if b46=true then
  some (2,(vec [x2,x12,x14,(.bool ((n16:Int)==0))]))
else
 some (1,(vec [])):Option (Nat×(Nat->V)))).bind fun o47=>
 if o47.1=0 then
 some (0,(vec [(o47.2 0),(o47.2 1),(o47.2 2),(o47.2 3),(.bool ((n18:Int)==0))]))
else
 if(o47.1-1)=0 then
 some (1,(vec [.bool false]))
else
(ze a0 7).bind fun c48=>(
  yw c48).bind fun n49=>
  some (0,(vec [(o47.2 0),(o47.2 1),(o47.2 2),(o47.2 3),(.bool (decide ((n49:Int)<=300)))])):Option (Nat×(Nat->V)))).bind fun o50=>
  if o50.1=0 then
(asBool (o50.2 0)).bind fun b51=>(
  (if b51=true then
  some (o50.2 1)
else some (.bool false):Option V)).bind fun x52=>(asBool x52).bind fun b53=>(
  (if b53=true then
  some (o50.2 2)
else some (.bool false):Option V)).bind fun x54=>(asBool x54).bind fun b55=>(
  (if b55=true then
  some (o50.2 3)
else some (.bool false):Option V)).bind fun x56=>(asBool x56).bind fun b57=>(
  (if b57=true then
  some (o50.2 4)
else some (.bool false):Option V)).bind fun x58=>some (x58,[])
else
 some ((o50.2 0),[]))
theorem zpK(a0:V):P0 kM [.v a0] []=zhh a0:=
 pq (fn:=zbl) (by kernel_rfl) (by kernel_rfl)
def yZ(n1:Nat)(a0:V)(a1:Nat)(v2:Nat->V):Option ((Nat->V) ⊕ (Nat×(Nat->V))):=
(zc .lss (v2 0) (.int .i64 ((n1:Nat):Int))).bind fun x3=>(
  asBool x3).bind fun b4=>
  if b4=true then
(yN 11 a0).bind fun l5=>(y3 (v2 0) (l5.length)).bind fun i6=>(
  l5[i6]?).bind fun e7=>
  tst (Nat.blt a1 wX) ((P0 a1 [.v e7] []).bind fun r8=>(
  asBool r8.1).bind fun b9=>
  if b9=true then
  some (.inr (1,(vec [(v2 0)])))
else
(
  zc .add (v2 0) (.int .i64 1)).bind fun x10=>
  some (.inl (vec [x10])))
else
 some (.inr (0,(vec [])))
def vT(a0:V)(a1:Nat):Option (V×List V):=
(yw a0).bind fun n1=>(
  zr (yZ n1 a0 a1) (vec [.int .i64 0])).bind fun o11=>
  if o11.1=0 then
  some ((.int .i64 (-1)),[])
else
 some ((o11.2 0),[])
theorem kL(a0:V)(a1:Nat):P0 yK [.v a0,.fn a1 []] []=vT a0 a1:=
 pq (fn:=xV) (by kernel_rfl) (by kernel_rfl)
def zbD(a0:V):Option (V×List V):=
 tst (okN 8 a0) ((ze a0 0).bind fun c1=>(zc .eql c1 (.int .i64 0)).bind fun x2=>(asBool x2).bind fun b3=>((if b3=true then
(ze a0 1).bind fun c4=>(
  unV .not c4).bind fun x5=>
  some x5
else some (.bool false):Option V)).bind fun x6=>(asBool x6).bind fun b7=>((if b7=true then
(ze a0 2).bind fun c8=>(
  unV .not c8).bind fun x9=>
  some x9
else some (.bool false):Option V)).bind fun x10=>(asBool x10).bind fun b11=>((if b11=true then
(ze a0 3).bind fun c12=>(
  yw c12).bind fun n13=>
  some (.bool ((n13:Int)==0))
else some (.bool false):Option V)).bind fun x14=>(asBool x14).bind fun b15=>((if b15=true then
(ze a0 4).bind fun c16=>(
  zc .eql c16 (.int .i64 0)).bind fun x17=>
  some x17
else some (.bool false):Option V)).bind fun x18=>(asBool x18).bind fun b19=>((if b19=true then
(ze a0 5).bind fun c20=>(
  zc .eql c20 (.str [])).bind fun x21=>
  some x21
else some (.bool false):Option V)).bind fun x22=>(asBool x22).bind fun b23=>((if b23=true then
(ze a0 6).bind fun c24=>(
  yw c24).bind fun n25=>
  some (.bool ((n25:Int)==0))
else some (.bool false):Option V)).bind fun x26=>(asBool x26).bind fun b27=>((if b27=true then
(ze a0 7).bind fun c28=>(
  yw c28).bind fun n29=>
  some (.bool ((n29:Int)==0))
else some (.bool false):Option V)).bind fun x30=>some (x30,[]))
theorem zeY(a0:V):P0 kJ [.v a0] []=zbD a0:=
 pq (fn:=za7) (by kernel_rfl) (by kernel_rfl)
def zbK(a0:V):Option (V×List V):=
(yw a0).bind fun n1=>((if(decide ((n1:Int)<=63))=true then
(P0 yr [.v a0,.fn wz []] []).bind fun r2=>(
  unV .not r2.1).bind fun x3=>
  some x3
else some (.bool false):Option V)).bind fun x4=>some (x4,[])
theorem ze2(a0:V):P0 qU [.v a0] []=zbK a0:=
 pq (fn:=zbe) (by kernel_rfl) (by kernel_rfl)
def ko(a0:V)(a1:Nat):Option (V×List V):=
(P0 wj [.v a0,.fn a1 []] []).bind fun r1=>(
  zc .geq r1.1 (.int .i64 0)).bind fun x2=>
  some (x2,[])
theorem Wj(a0:V)(a1:Nat):P0 xi [.v a0,.fn a1 []] []=ko a0 a1:=
 pq (fn:=qm) (by kernel_rfl) (by kernel_rfl)
def zfr(a0:V):Option (V×List V):=
 tst (okN 8 a0) ((P0 ZY [.v a0] []).bind fun r1=>(
  unV .not r1.1).bind fun x2=>
  some (x2,[]))
theorem zmK(a0:V):P0 jJ [.v a0] []=zfr a0:=
 pq (fn:=JL) (by kernel_rfl) (by kernel_rfl)
def zir(a0:V):Option (V×List V):=
 tst (okN 8 a0) ((ze a0 0).bind fun c1=>(zc .neq c1 (.int .i64 7)).bind fun x2=>(
  asBool x2).bind fun b3=>
  if b3=true then
  some ((.tup [.sl [],.sl []]),[])
else
(ze a0 6).bind fun c4=>(yw c4).bind fun n5=>(ze a0 7).bind fun c6=>(yw c6).bind fun n7=>(zpl (.int .i64 ((n5:Nat):Int)) [(.int .i64 ((n7:Nat):Int))]).bind fun x8=>(ze a0 6).bind fun c9=>(yN 1 c9).bind fun l10=>(ztk none (some x8) (some x8) (l10.length)).bind fun q11=>(ze a0 7).bind fun c12=>(yN 8 c12).bind fun l13=>(
  ztk none (some x8) (some x8) (l13.length)).bind fun q14=>
  some ((.tup [(.sl ((l10.drop q11.1).take (q11.2-q11.1))),(.sl ((l13.drop q14.1).take (q14.2-q14.1)))]),[]))
theorem zo0(a0:V):P0 jE [.v a0] []=zir a0:=
 pq (fn:=zbO) (by kernel_rfl) (by kernel_rfl)
def xR(n1:Nat)(a0:V)(a1:V)(v2:Nat->V):Option ((Nat->V) ⊕ (Nat×(Nat->V))):=
(zc .lss (v2 0) (.int .i64 ((n1:Nat):Int))).bind fun x3=>(
  asBool x3).bind fun b4=>
  if b4=true then
(yN 1 a0).bind fun l5=>(y3 (v2 0) (l5.length)).bind fun i6=>(l5[i6]?).bind fun e7=>(ze e7 0).bind fun c8=>(zc .eql a1 c8).bind fun x9=>(
  asBool x9).bind fun b10=>
  if b10=true then
  some (.inr (1,(vec [(v2 0)])))
else
(
  zc .add (v2 0) (.int .i64 1)).bind fun x11=>
  some (.inl (vec [x11]))
else
 some (.inr (0,(vec [])))
def ZS(a0:V)(a1:V):Option (V×List V):=
(yw a0).bind fun n1=>(
  zr (xR n1 a0 a1) (vec [.int .i64 0])).bind fun o12=>
  if o12.1=0 then
  some ((.int .i64 (-1)),[])
else
 some ((o12.2 0),[])
theorem V1(a0:V)(a1:V):P0 yT [.v a0,.v a1] []=ZS a0 a1:=
 pq (fn:=jo) (by kernel_rfl) (by kernel_rfl)
def xp(n1:Nat)(a0:V)(a1:Nat)(y1000:V)(v2:Nat->V):Option ((Nat->V) ⊕ (Nat×(Nat->V))):=
(zc .lss (v2 0) (.int .i64 ((n1:Nat):Int))).bind fun x3=>(
  asBool x3).bind fun b4=>
  if b4=true then
(yN 1 a0).bind fun l5=>(y3 (v2 0) (l5.length)).bind fun i6=>(l5[i6]?).bind fun e7=>(
  ze e7 0).bind fun c8=>
  tst (Nat.blt a1 wX) ((P0 a1 [.v c8,.p 0 0] [(true,1,y1000)]).bind fun r9=>(
  asBool r9.1).bind fun b10=>
  if b10=true then
  some (.inr (1,(vec [(v2 0)])))
else
(
  zc .add (v2 0) (.int .i64 1)).bind fun x11=>
  some (.inl (vec [x11])))
else
 some (.inr (0,(vec [])))
def j8(a0:V)(a1:Nat)(y1000:V):Option (V×List V):=
(yw a0).bind fun n1=>(
  zr (xp n1 a0 a1 y1000) (vec [.int .i64 0])).bind fun o12=>
  if o12.1=0 then
  some ((.int .i64 (-1)),[y1000])
else
 some ((o12.2 0),[y1000])
theorem X9(a0:V)(a1:Nat)(y1000:V):P0 yt [.v a0,.fn a1 [.p 0 0]] [(false,1,y1000)]=j8 a0 a1 y1000:=
 pq (fn:=vW) (by kernel_rfl) (by kernel_rfl)
def ya(n1:Nat)(a0:V)(a1:Nat)(v2:Nat->V):Option ((Nat->V) ⊕ (Nat×(Nat->V))):=
(zc .lss (v2 0) (.int .i64 ((n1:Nat):Int))).bind fun x3=>(
  asBool x3).bind fun b4=>
  if b4=true then
(yN 1 a0).bind fun l5=>(y3 (v2 0) (l5.length)).bind fun i6=>(l5[i6]?).bind fun e7=>(
  ze e7 0).bind fun c8=>
  tst (Nat.blt a1 wX) ((P0 a1 [.v c8] []).bind fun r9=>(
  asBool r9.1).bind fun b10=>
  if b10=true then
  some (.inr (1,(vec [(v2 0)])))
else
(
  zc .add (v2 0) (.int .i64 1)).bind fun x11=>
  some (.inl (vec [x11])))
else
 some (.inr (0,(vec [])))
def vf(a0:V)(a1:Nat):Option (V×List V):=
(yw a0).bind fun n1=>(
  zr (ya n1 a0 a1) (vec [.int .i64 0])).bind fun o12=>
  if o12.1=0 then
  some ((.int .i64 (-1)),[])
else
 some ((o12.2 0),[])
theorem jc(a0:V)(a1:Nat):P0 yt [.v a0,.fn a1 []] []=vf a0 a1:=
 pq (fn:=jv) (by kernel_rfl) (by kernel_rfl)
def zc9(a0:V)(a1:V):Option (V×List V):=
(
  zc .gtr a0 a1).bind fun x1=>
  some (x1,[a1])
theorem zjt(a0:V)(a1:V):P0 vd [.v a0,.p 0 0] [(true,1,a1)]=zc9 a0 a1:=
 pq (fn:=QE) (by kernel_rfl) (by kernel_rfl)
def xJ(n1:Nat)(a0:V)(v2:Nat->V):Option ((Nat->V) ⊕ (Nat×(Nat->V))):=
(zc .lss (v2 1) (.int .i64 ((n1:Nat):Int))).bind fun x3=>(
  asBool x3).bind fun b4=>
  if b4=true then
(yN 1 a0).bind fun l5=>(y3 (v2 1) (l5.length)).bind fun i6=>(l5[i6]?).bind fun e7=>(ze e7 0).bind fun c8=>(yw c8).bind fun n9=>(zc .add (v2 0) (.int .i64 ((n9:Nat):Int))).bind fun x10=>(zc .lss x10 (.int .i64 0)).bind fun x11=>(
  asBool x11).bind fun b12=>
  if b12=true then
(zaF true (.iface 9 (.str [108,101,110,32,111,117,116,32,111,102,32,114,97,110,103,101]))).bind fun x13=>(
  asBool x13).bind fun b14=>
  if b14=true then
  some (.inr (1,(vec [(.iface 9 (.str [108,101,110,32,111,117,116,32,111,102,32,114,97,110,103,101]))])))
else
 some (.inr (2,(vec [])))
else
(
  zc .add (v2 1) (.int .i64 1)).bind fun x15=>
  some (.inl (vec [x10,x15]))
else
 some (.inr (0,(vec [(v2 0)])))
def xG(n19:Nat)(a0:V)(v20:Nat->V):Option ((Nat->V) ⊕ (Nat×(Nat->V))):=
(zc .lss (v20 1) (.int .i64 ((n19:Nat):Int))).bind fun x21=>(
  asBool x21).bind fun b22=>
  if b22=true then
(yN 1 a0).bind fun l23=>(y3 (v20 1) (l23.length)).bind fun i24=>(l23[i24]?).bind fun e25=>(ze e25 0).bind fun c26=>(
  zds 1 c26).bind fun l27=>
  tst (wZ 16 ((V.elems (v20 0)).length) (l27.length)) ((zc .add (v20 1) (.int .i64 1)).bind fun x28=>
  some (.inl (vec [(.sl ((V.elems (v20 0))++l27)),x28])))
else
 some (.inr (0,(vec [(.sl (V.elems (v20 0)))])))
def Zl(a0:V):Option (V×List V):=
(yw a0).bind fun n1=>(
  zr (xJ n1 a0) (vec [.int .i64 0,.int .i64 0])).bind fun o16=>
  if o16.1=0 then
(P0 qe [.g,.v (.sl []),.v (o16.2 0)] []).bind fun r17=>(slV r17.1).bind fun l18=>(yw a0).bind fun n19=>(
  zr (xG n19 a0) (vec [.sl l18,.int .i64 0])).bind fun o29=>
  some ((.sl (V.elems (o29.2 0))),[])
else
 if(o16.1-1)=0 then
 none
else
 none
theorem VE(a0:V):P0 xx [.v a0] []=Zl a0:=
 pq (fn:=qP) (by kernel_rfl) (by kernel_rfl)
def JE(a0:V)(a1:V):Option (V×List V):=
 tst (okN 8 a0) ((ze a0 0).bind fun c1=>(zc .neq c1 (.int .i64 6)).bind fun x2=>(
  asBool x2).bind fun b3=>
  if b3=true then
(P0 jd [.v a0,.v a1] []).bind fun r4=>(zj r4.1 0).bind fun x5=>(
  zj r4.1 1).bind fun x6=>
  tst (okN 8 x5) (some ((.tup [x5,x6]),[]))
else
(ze a0 7).bind fun c7=>(yw c7).bind fun n8=>(P0 xv [.v a1,.v (.int .i64 (IntKind.wrap .i64 (((n8:Nat):Int)-1)))] []).bind fun r9=>(zj r9.1 0).bind fun x10=>(zj r9.1 1).bind fun x11=>(unV .not x11).bind fun x12=>(
  asBool x12).bind fun b13=>
  if b13=true then
  some ((.tup [(.agg [.int .i64 0,.bool false,.bool false,.sl [],.int .i64 0,.str [],.sl [],.sl []]),.bool false]),[])
else
(ze a0 7).bind fun c14=>(yN 8 c14).bind fun l15=>(y3 x10 (l15.length)).bind fun i17=>(
  l15[i17]?).bind fun e18=>
  tst (okN 8 e18) (some ((.tup [e18,.bool true]),[])))
theorem zfS(a0:V)(a1:V):P0 vw [.v a0,.v a1] []=JE a0 a1:=
 pq (fn:=X1) (by kernel_rfl) (by kernel_rfl)
def znE(a0:V):Option (V×List V):=
 tst (okN 3 a0) ((P0 jG [.v a0] []).bind fun r1=>(unV .not r1.1).bind fun x2=>(
  asBool x2).bind fun b3=>
  if b3=true then
  some ((.agg [.bool false,.sl [],.int .i64 0]),[])
else
 tst (okN 3 a0) (some (a0,[])))
theorem zt9(a0:V):P0 XO [.v a0] []=znE a0:=
 pq (fn:=zhp) (by kernel_rfl) (by kernel_rfl)
def yF(n3:Nat)(a0:V)(a1:V)(v4:Nat->V):Option ((Nat->V) ⊕ (Nat×(Nat->V))):=
(zc .lss (v4 0) (.int .i64 ((n3:Nat):Int))).bind fun x5=>(
  asBool x5).bind fun b6=>
  if b6=true then
(yN 1 a0).bind fun l7=>(y3 (v4 0) (l7.length)).bind fun i9=>(l7[i9]?).bind fun e10=>(ze e10 0).bind fun c11=>(yN 1 a1).bind fun l12=>(y3 (v4 0) (l12.length)).bind fun i13=>(l12[i13]?).bind fun e14=>(ze e14 0).bind fun c15=>(zc .neq c11 c15).bind fun x16=>(
  asBool x16).bind fun b17=>
  if b17=true then
  some (.inr (1,(vec [.bool false])))
else
(
  zc .add (v4 0) (.int .i64 1)).bind fun x18=>
  some (.inl (vec [x18]))
else
 some (.inr (0,(vec [])))
def ZP(a0:V)(a1:V):Option (V×List V):=
(yw a0).bind fun n1=>(
  yw a1).bind fun n2=>
  if((n1:Int) != ((n2:Nat):Int))=true then
  some ((.bool false),[])
else
(yw a0).bind fun n3=>(
  zr (yF n3 a0 a1) (vec [.int .i64 0])).bind fun o19=>
  if o19.1=0 then
  some ((.bool true),[])
else
 some ((o19.2 0),[])
theorem QL(a0:V)(a1:V):P0 xC [.v a0,.v a1] []=ZP a0 a1:=
 pq (fn:=jn) (by kernel_rfl) (by kernel_rfl)
def qB(v2:Nat->V):Option ((Nat->V) ⊕ (Nat×(Nat->V))):=
(
  yw (v2 0)).bind fun n3=>
  if(decide ((n3:Int)>0))=true then
(P0 vk [.v (v2 0),.v (.int .u32 10)] []).bind fun r4=>(zj r4.1 0).bind fun x5=>(zj r4.1 1).bind fun x6=>(zc .neq x6 (.int .u32 0)).bind fun x7=>(
  asBool x7).bind fun b8=>
  if b8=true then
  some (.inr (0,(vec [(v2 0),(v2 1)])))
else
(
  zc .add (v2 1) (.int .i64 1)).bind fun x9=>
  some (.inl (vec [x5,x9]))
else
 some (.inr (0,(vec [(v2 0),(v2 1)])))
def zcA(a0:V):Option (V×List V):=
(P0 qM [.v a0] []).bind fun r1=>(
  zr (qB) (vec [r1.1,.int .i64 0])).bind fun o10=>
  some ((.tup [(o10.2 0),(o10.2 1)]),[])
theorem zjx(a0:V):P0 j3 [.v a0] []=zcA a0:=
 pq (fn:=QQ) (by kernel_rfl) (by kernel_rfl)
def zeW(a0:V):Option (V×List V):=
 tst (okN 3 a0) ((ze a0 1).bind fun c1=>(
  yw c1).bind fun n2=>
  if((n2:Int)==0)=true then
(ze a0 0).bind fun c3=>(unV .not c3).bind fun x4=>(asBool x4).bind fun b5=>((if b5=true then
(ze a0 2).bind fun c6=>(
  zc .eql c6 (.int .i64 0)).bind fun x7=>
  some x7
else some (.bool false):Option V)).bind fun x8=>some (x8,[])
else
((if(decide ((n2:Int)>90))=false then
(ze a0 1).bind fun c9=>(yN 1 c9).bind fun l10=>(y3 (.int .i64 (IntKind.wrap .i64 (((n2:Nat):Int)-1))) (l10.length)).bind fun i11=>(l10[i11]?).bind fun e12=>(ze e12 0).bind fun c13=>(
  zc .eql c13 (.int .u32 0)).bind fun x14=>
  some x14
else some (.bool true):Option V)).bind fun x15=>(asBool x15).bind fun b16=>((if b16=false then
(ze a0 2).bind fun c17=>(
  zc .lss c17 (.int .i64 (-1200))).bind fun x18=>
  some x18
else some (.bool true):Option V)).bind fun x19=>(asBool x19).bind fun b20=>((if b20=false then
(ze a0 2).bind fun c21=>(
  zc .gtr c21 (.int .i64 1200)).bind fun x22=>
  some x22
else some (.bool true):Option V)).bind fun x23=>(
  asBool x23).bind fun b24=>
  if b24=true then
  some ((.bool false),[])
else
(ze a0 1).bind fun c25=>(P0 Yh [.v c25] []).bind fun r26=>(zj r26.1 0).bind fun x27=>(zj r26.1 1).bind fun x28=>(
  zc .eql x28 (.int .i64 0)).bind fun x29=>
  some (x29,[]))
theorem zmt(a0:V):P0 jG [.v a0] []=zeW a0:=
 pq (fn:=Ka) (by kernel_rfl) (by kernel_rfl)
def zfC(a0:V):Option (V×List V):=
(zaj a0).bind fun n1=>((if(decide ((n1:Int)<=2000))=true then
(
  P0 jF [.v a0] []).bind fun r2=>
  some r2.1
else some (.bool false):Option V)).bind fun x3=>some (x3,[])
theorem zl9(a0:V):P0 jH [.v a0] []=zfC a0:=
 pq (fn:=JV) (by kernel_rfl) (by kernel_rfl)
def xe(n1:Nat)(a0:V)(v2:Nat->V):Option ((Nat->V) ⊕ (Nat×(Nat->V))):=
(zc .lss (v2 0) (.int .i64 ((n1:Nat):Int))).bind fun x3=>(
  asBool x3).bind fun b4=>
  if b4=true then
(yN 1 a0).bind fun l5=>(y3 (v2 0) (l5.length)).bind fun i6=>(l5[i6]?).bind fun e7=>(ze e7 0).bind fun c8=>(P0 jH [.v c8] []).bind fun r9=>(unV .not r9.1).bind fun x10=>(asBool x10).bind fun b11=>((if b11=false then
(zc .gtr (v2 0) (.int .i64 0)).bind fun x12=>(asBool x12).bind fun b13=>((if b13=true then
(zc .sub (v2 0) (.int .i64 1)).bind fun x14=>(yN 1 a0).bind fun l15=>(y3 x14 (l15.length)).bind fun i17=>(l15[i17]?).bind fun e18=>(ze e18 0).bind fun c19=>(
  zc .geq c19 c8).bind fun x20=>
  some x20
else some (.bool false):Option V)).bind fun x21=>some x21
else some (.bool true):Option V)).bind fun x22=>(
  asBool x22).bind fun b23=>
  if b23=true then
  some (.inr (1,(vec [.bool false])))
else
(
  zc .add (v2 0) (.int .i64 1)).bind fun x24=>
  some (.inl (vec [x24]))
else
 some (.inr (0,(vec [])))
def zb8(a0:V):Option (V×List V):=
(yw a0).bind fun n1=>(
  zr (xe n1 a0) (vec [.int .i64 0])).bind fun o25=>
  if o25.1=0 then
(
  yw a0).bind fun n26=>
  some ((.bool (decide ((n26:Int)<=300))),[])
else
 some ((o25.2 0),[])
theorem zjL(a0:V):P0 jR [.v a0] []=zb8 a0:=
 pq (fn:=V8) (by kernel_rfl) (by kernel_rfl)
def wS(a0:V)(a1:Nat):Option (V×List V):=
(P0 yt [.v a0,.fn a1 []] []).bind fun r1=>(
  zc .geq r1.1 (.int .i64 0)).bind fun x2=>
  some (x2,[])
theorem qI(a0:V)(a1:Nat):P0 yr [.v a0,.fn a1 []] []=wS a0 a1:=
 pq (fn:=wQ) (by kernel_rfl) (by kernel_rfl)
def Ql(a0:V):Option (V×List V):=
(zaj a0).bind fun n1=>((if(decide ((n1:Int)>2000))=false then
(P0 jF [.v a0] []).bind fun r2=>(
  unV .not r2.1).bind fun x3=>
  some x3
else some (.bool true):Option V)).bind fun x4=>some (x4,[])
theorem zaQ(a0:V):P0 wz [.v a0] []=Ql a0:=
 pq (fn:=QD) (by kernel_rfl) (by kernel_rfl)
def vo(a0:V)(v2:Nat->V):Option ((Nat->V) ⊕ (Nat×(Nat->V))):=
 if(WR (v2 1))<List.length (α:=UInt8) (ziq (v2 0))then
 if(((Utf8.decode ⟨((ziq (v2 0))).toArray⟩ (WR (v2 1))).1:Int) != 65533)=true then
 some (.inl (vec [(.str (ziq (v2 0))),(.int .i64 ((((WR (v2 1))+(Utf8.decode ⟨((ziq (v2 0))).toArray⟩ (WR (v2 1))).2):Nat):Int))]))
else
(zm2 a0 (some (.int .i64 (((WR (v2 1)):Nat):Int))) none).bind fun x3=>(P0 xq [.v x3] []).bind fun r4=>(zj r4.1 0).bind fun x5=>(zj r4.1 1).bind fun x6=>(zc .eql x6 (.int .i64 1)).bind fun x7=>(
  asBool x7).bind fun b8=>
  if b8=true then
  some (.inr (1,(vec [.bool false])))
else
 some (.inl (vec [(.str (ziq (v2 0))),(.int .i64 ((((WR (v2 1))+(Utf8.decode ⟨((ziq (v2 0))).toArray⟩ (WR (v2 1))).2):Nat):Int))]))
else
 some (.inr (0,(vec [])))
def zfB(a0:V):Option (V×List V):=
(zfa a0).bind fun s1=>(
  zr (vo a0) (vec [.str s1,(.int .i64 ((0:Nat):Int))])).bind fun o9=>
  if o9.1=0 then
  some ((.bool true),[])
else
 some ((o9.2 0),[])
theorem zlD(a0:V):P0 jF [.v a0] []=zfB a0:=
 pq (fn:=J2) (by kernel_rfl) (by kernel_rfl)
def xS(n1:Nat)(a0:V)(a1:Nat)(v2:Nat->V):Option ((Nat->V) ⊕ (Nat×(Nat->V))):=
(zc .lss (v2 0) (.int .i64 ((n1:Nat):Int))).bind fun x3=>(
  asBool x3).bind fun b4=>
  if b4=true then
(yN 8 a0).bind fun l5=>(y3 (v2 0) (l5.length)).bind fun i6=>(
  l5[i6]?).bind fun e7=>
  tst (Nat.blt a1 wX) ((P0 a1 [.v e7] []).bind fun r8=>(
  asBool r8.1).bind fun b9=>
  if b9=true then
  some (.inr (1,(vec [(v2 0)])))
else
(
  zc .add (v2 0) (.int .i64 1)).bind fun x10=>
  some (.inl (vec [x10])))
else
 some (.inr (0,(vec [])))
def ZF(a0:V)(a1:Nat):Option (V×List V):=
(yw a0).bind fun n1=>(
  zr (xS n1 a0 a1) (vec [.int .i64 0])).bind fun o11=>
  if o11.1=0 then
  some ((.int .i64 (-1)),[])
else
 some ((o11.2 0),[])
theorem QV(a0:V)(a1:Nat):P0 wj [.v a0,.fn a1 []] []=ZF a0 a1:=
 pq (fn:=jr) (by kernel_rfl) (by kernel_rfl)
def zap(a0:V)(a1:V):Option (V×List V):=
 tst (okN 8 a0) ((P0 jE [.v a0] []).bind fun r1=>(zj r1.1 0).bind fun x2=>(zj r1.1 1).bind fun x3=>(P0 yT [.v x2,.v a1] []).bind fun r4=>(zc .geq r4.1 (.int .i64 0)).bind fun x5=>(
  asBool x5).bind fun b6=>
  if b6=true then
(yN 8 x3).bind fun l7=>(y3 r4.1 (l7.length)).bind fun i9=>(
  l7[i9]?).bind fun e10=>
  tst (okN 8 e10) (some ((.tup [e10,.bool true]),[]))
else
 some ((.tup [(.agg [.int .i64 0,.bool false,.bool false,.sl [],.int .i64 0,.str [],.sl [],.sl []]),.bool false]),[]))
theorem zhz(a0:V)(a1:V):P0 jd [.v a0,.v a1] []=zap a0 a1:=
 pq (fn:=WP) (by kernel_rfl) (by kernel_rfl)
def jC(a0:V)(v2:Nat->V):Option ((Nat->V) ⊕ (Nat×(Nat->V))):=
(zc .gtr (v2 0) (.int .i64 0)).bind fun x3=>(asBool x3).bind fun b4=>((if b4=true then
(zc .sub (v2 0) (.int .i64 1)).bind fun x5=>(yN 1 a0).bind fun l6=>(y3 x5 (l6.length)).bind fun i7=>(l6[i7]?).bind fun e8=>(ze e8 0).bind fun c9=>(
  zc .eql c9 (.int .u32 0)).bind fun x10=>
  some x10
else some (.bool false):Option V)).bind fun x11=>(
  asBool x11).bind fun b12=>
  if b12=true then
(
  zc .sub (v2 0) (.int .i64 1)).bind fun x13=>
  some (.inl (vec [x13]))
else
 some (.inr (0,(vec [(v2 0)])))
def zdx(a0:V):Option (V×List V):=
(yw a0).bind fun n1=>(zr (jC a0) (vec [(.int .i64 ((n1:Nat):Int))])).bind fun o14=>(yN 1 a0).bind fun l15=>(Wk none (some (o14.2 0)) (l15.length)).bind fun q16=>(
  zds 1 (.sl ((l15.drop q16.1).take (q16.2-q16.1)))).bind fun l17=>
  tst (wZ 4 (List.length (α:=V) []) (l17.length)) (some ((.sl (([]:List V)++l17)),[]))
theorem zkf(a0:V):P0 qM [.v a0] []=zdx a0:=
 pq (fn:=VX) (by kernel_rfl) (by kernel_rfl)
def ky(a0:V)(a1:V)(q2:Nat×Nat)(v4:Nat->V):Option ((Nat->V) ⊕ (Nat×(Nat->V))):=
(zc .geq (v4 1) (.int .i64 0)).bind fun x5=>(
  asBool x5).bind fun b6=>
  if b6=true then
(zc .shl (v4 0) (.int .u64 32)).bind fun x7=>(yN 1 a0).bind fun l8=>(y3 (v4 1) (l8.length)).bind fun i9=>(l8[i9]?).bind fun e10=>(ze e10 0).bind fun c11=>(jA .u64 c11).bind fun x12=>(zc .add x7 x12).bind fun x13=>(jA .u64 a1).bind fun x14=>(zc .quo x13 x14).bind fun x15=>(jA .u32 x15).bind fun x16=>(
  y3 (v4 1) q2.1).bind fun i17=>
  tst (okN 1 x16) ((ze x16 0).bind fun c18=>(jA .u64 a1).bind fun x19=>(zc .rem x13 x19).bind fun x20=>(
  zc .sub (v4 1) (.int .i64 1)).bind fun x21=>
  some (.inl (vec [x20,x21,(.sl ((V.elems (v4 2)).set (0+i17) c18))])))
else
 some (.inr (0,(vec [(v4 0),(.sl (V.elems (v4 2)))])))
def zas(a0:V)(a1:V):Option (V×List V):=
(yw a0).bind fun n1=>(zjV 4 (.int .i64 ((n1:Nat):Int)) (.int .i64 ((n1:Nat):Int))).bind fun q2=>(yw a0).bind fun n3=>(zr (ky a0 a1 q2) (vec [.int .u64 0,(.int .i64 (IntKind.wrap .i64 (((n3:Nat):Int)-1))),(.sl (List.replicate q2.2 (.int .u32 0)))])).bind fun o22=>(P0 qM [.v (.sl (((V.elems (o22.2 1)).drop 0).take q2.1))] []).bind fun r23=>(
  jA .u32 (o22.2 0)).bind fun x24=>
  some ((.tup [r23.1,x24]),[])
theorem zgW(a0:V)(a1:V):P0 vk [.v a0,.v a1] []=zas a0 a1:=
 pq (fn:=Vd) (by kernel_rfl) (by kernel_rfl)
def jT(v2:Nat->V):Option ((Nat->V) ⊕ (Nat×(Nat->V))):=
(
  yw (v2 0)).bind fun n3=>
  if(decide ((n3:Int)>0))=true then
(P0 jL [.v (v2 0),.v (.int .u32 10)] []).bind fun r4=>(zj r4.1 0).bind fun x5=>(zj r4.1 1).bind fun x6=>(zc .neq x6 (.int .u32 0)).bind fun x7=>(
  asBool x7).bind fun b8=>
  if b8=true then
  some (.inr (0,(vec [(v2 0),(v2 1)])))
else
(
  zc .add (v2 1) (.int .i64 1)).bind fun x9=>
  some (.inl (vec [x5,x9]))
else
 some (.inr (0,(vec [(v2 0),(v2 1)])))
def zig(a0:V):Option (V×List V):=
(P0 kO [.v a0] []).bind fun r1=>(
  zr (jT) (vec [r1.1,.int .i64 0])).bind fun o10=>
  some ((.tup [(o10.2 0),(o10.2 1)]),[])
theorem zps(a0:V):P0 Yh [.v a0] []=zig a0:=
 pq (fn:=zbo) (by kernel_rfl) (by kernel_rfl)
def kQ(a0:V):Option (V×List V):=
(zc .neq a0 (.str [])).bind fun x1=>(asBool x1).bind fun b2=>((if b2=true then
(ZE a0 (.int .i64 0)).bind fun x3=>(
  zc .lss x3 (.int .u8 128)).bind fun x4=>
  some x4
else some (.bool false):Option V)).bind fun x5=>(
  asBool x5).bind fun b6=>
  if b6=true then
(ZE a0 (.int .i64 0)).bind fun x7=>(
  jA .i32 x7).bind fun x8=>
  some ((.tup [x8,.int .i64 1]),[])
else
(P0 yf [.v a0] []).bind fun r9=>(zj r9.1 0).bind fun x10=>(
  zj r9.1 1).bind fun x11=>
  some ((.tup [x10,x11]),[])
theorem WQ(a0:V):P0 xq [.v a0] []=kQ a0:=
 pq (fn:=qF) (by kernel_rfl) (by kernel_rfl)
def Ze(a0:V)(v2:Nat->V):Option ((Nat->V) ⊕ (Nat×(Nat->V))):=
(zc .gtr (v2 0) (.int .i64 0)).bind fun x3=>(asBool x3).bind fun b4=>((if b4=true then
(zc .sub (v2 0) (.int .i64 1)).bind fun x5=>(yN 1 a0).bind fun l6=>(y3 x5 (l6.length)).bind fun i7=>(l6[i7]?).bind fun e8=>(ze e8 0).bind fun c9=>(
  zc .eql c9 (.int .u32 0)).bind fun x10=>
  some x10
else some (.bool false):Option V)).bind fun x11=>(
  asBool x11).bind fun b12=>
  if b12=true then
(
  zc .sub (v2 0) (.int .i64 1)).bind fun x13=>
  some (.inl (vec [x13]))
else
 some (.inr (0,(vec [(v2 0)])))
def zi5(a0:V):Option (V×List V):=
(yw a0).bind fun n1=>(zr (Ze a0) (vec [(.int .i64 ((n1:Nat):Int))])).bind fun o14=>(zc .eql (o14.2 0) (.int .i64 0)).bind fun x15=>(
  asBool x15).bind fun b16=>
  if b16=true then
  some ((.sl []),[])
else
(zjV 4 (o14.2 0) (o14.2 0)).bind fun q17=>(
  zds 1 a0).bind fun l18=>
  some ((.sl (((wG (List.replicate q17.2 (.int .u32 0)) 0 (l18.take (Nat.min (l18.length) q17.1))).drop 0).take q17.1)),[])
theorem zoA(a0:V):P0 kO [.v a0] []=zi5 a0:=
 pq (fn:=zbU) (by kernel_rfl) (by kernel_rfl)
def Yw(a0:V)(a1:V)(q2:Nat×Nat)(v4:Nat->V):Option ((Nat->V) ⊕ (Nat×(Nat->V))):=
(zc .geq (v4 1) (.int .i64 0)).bind fun x5=>(
  asBool x5).bind fun b6=>
  if b6=true then
(zc .shl (v4 0) (.int .u64 32)).bind fun x7=>(yN 1 a0).bind fun l8=>(y3 (v4 1) (l8.length)).bind fun i9=>(l8[i9]?).bind fun e10=>(ze e10 0).bind fun c11=>(jA .u64 c11).bind fun x12=>(zc .or x7 x12).bind fun x13=>(jA .u64 a1).bind fun x14=>(zc .quo x13 x14).bind fun x15=>(jA .u32 x15).bind fun x16=>(
  y3 (v4 1) q2.1).bind fun i17=>
  tst (okN 1 x16) ((ze x16 0).bind fun c18=>(jA .u64 a1).bind fun x19=>(zc .rem x13 x19).bind fun x20=>(
  zc .sub (v4 1) (.int .i64 1)).bind fun x21=>
  some (.inl (vec [x20,x21,(.sl ((V.elems (v4 2)).set (0+i17) c18))])))
else
 some (.inr (0,(vec [(v4 0),(.sl (V.elems (v4 2)))])))
def zfl(a0:V)(a1:V):Option (V×List V):=
(yw a0).bind fun n1=>(zjV 4 (.int .i64 ((n1:Nat):Int)) (.int .i64 ((n1:Nat):Int))).bind fun q2=>(yw a0).bind fun n3=>(zr (Yw a0 a1 q2) (vec [.int .u64 0,(.int .i64 (IntKind.wrap .i64 (((n3:Nat):Int)-1))),(.sl (List.replicate q2.2 (.int .u32 0)))])).bind fun o22=>(P0 kO [.v (.sl (((V.elems (o22.2 1)).drop 0).take q2.1))] []).bind fun r23=>(
  jA .u32 (o22.2 0)).bind fun x24=>
  some ((.tup [r23.1,x24]),[])
theorem zl2(a0:V)(a1:V):P0 jL [.v a0,.v a1] []=zfl a0 a1:=
 pq (fn:=JB) (by kernel_rfl) (by kernel_rfl)
def ve(a0:V):Option (V×List V):=
(
  zaj a0).bind fun n1=>
  if(decide ((n1:Int)<1))=true then
  some ((.tup [.int .i32 65533,.int .i64 0]),[])
else
(ZE a0 (.int .i64 0)).bind fun x2=>(y3 x2 256).bind fun i3=>((G_0.drop (i3*1))[0]?).bind fun c4=>(zc .geq c4 (.int .u8 240)).bind fun x5=>(
  asBool x5).bind fun b6=>
  if b6=true then
(jA .i32 c4).bind fun x7=>(zc .shl x7 (.int .u64 31)).bind fun x8=>(zc .shr x8 (.int .u64 31)).bind fun x9=>(ZE a0 (.int .i64 0)).bind fun x10=>(jA .i32 x10).bind fun x11=>(zc .andNot x11 x9).bind fun x12=>(zc .and (.int .i32 65533) x9).bind fun x13=>(
  zc .or x12 x13).bind fun x14=>
  some ((.tup [x14,.int .i64 1]),[])
else
(zc .and c4 (.int .u8 7)).bind fun x15=>(jA .i64 x15).bind fun x16=>(zc .shr c4 (.int .u64 4)).bind fun x17=>(
  y3 x17 16).bind fun i18=>
  tst (Nat.ble 2 (G_1.drop (i18*2)).length) (tst (okN 2 (.agg ((G_1.drop (i18*2)).take 2))) ((zc .lss (.int .i64 ((n1:Nat):Int)) x16).bind fun x19=>(
  asBool x19).bind fun b20=>
  if b20=true then
  some ((.tup [.int .i32 65533,.int .i64 1]),[])
else
(ZE a0 (.int .i64 1)).bind fun x21=>(ze (.agg ((G_1.drop (i18*2)).take 2)) 0).bind fun c22=>(zc .lss x21 c22).bind fun x23=>(asBool x23).bind fun b24=>((if b24=false then
(ze (.agg ((G_1.drop (i18*2)).take 2)) 1).bind fun c25=>(
  zc .lss c25 x21).bind fun x26=>
  some x26
else some (.bool true):Option V)).bind fun x27=>(
  asBool x27).bind fun b28=>
  if b28=true then
  some ((.tup [.int .i32 65533,.int .i64 1]),[])
else
(zc .leq x16 (.int .i64 2)).bind fun x29=>(
  asBool x29).bind fun b30=>
  if b30=true then
(zc .and x2 (.int .u8 31)).bind fun x31=>(jA .i32 x31).bind fun x32=>(zc .shl x32 (.int .u64 6)).bind fun x33=>(zc .and x21 (.int .u8 63)).bind fun x34=>(jA .i32 x34).bind fun x35=>(
  zc .or x33 x35).bind fun x36=>
  some ((.tup [x36,.int .i64 2]),[])
else
(ZE a0 (.int .i64 2)).bind fun x37=>(zc .lss x37 (.int .u8 128)).bind fun x38=>(asBool x38).bind fun b39=>((if b39=false then
(
  zc .lss (.int .u8 191) x37).bind fun x40=>
  some x40
else some (.bool true):Option V)).bind fun x41=>(
  asBool x41).bind fun b42=>
  if b42=true then
  some ((.tup [.int .i32 65533,.int .i64 1]),[])
else
(zc .leq x16 (.int .i64 3)).bind fun x43=>(
  asBool x43).bind fun b44=>
  if b44=true then
(zc .and x2 (.int .u8 15)).bind fun x45=>(jA .i32 x45).bind fun x46=>(zc .shl x46 (.int .u64 12)).bind fun x47=>(zc .and x21 (.int .u8 63)).bind fun x48=>(jA .i32 x48).bind fun x49=>(zc .shl x49 (.int .u64 6)).bind fun x50=>(zc .or x47 x50).bind fun x51=>(zc .and x37 (.int .u8 63)).bind fun x52=>(jA .i32 x52).bind fun x53=>(
  zc .or x51 x53).bind fun x54=>
  some ((.tup [x54,.int .i64 3]),[])
else
(ZE a0 (.int .i64 3)).bind fun x55=>(zc .lss x55 (.int .u8 128)).bind fun x56=>(asBool x56).bind fun b57=>((if b57=false then
(
  zc .lss (.int .u8 191) x55).bind fun x58=>
  some x58
else some (.bool true):Option V)).bind fun x59=>(
  asBool x59).bind fun b60=>
  if b60=true then
  some ((.tup [.int .i32 65533,.int .i64 1]),[])
else
(zc .and x2 (.int .u8 7)).bind fun x61=>(jA .i32 x61).bind fun x62=>(zc .shl x62 (.int .u64 18)).bind fun x63=>(zc .and x21 (.int .u8 63)).bind fun x64=>(jA .i32 x64).bind fun x65=>(zc .shl x65 (.int .u64 12)).bind fun x66=>(zc .or x63 x66).bind fun x67=>(zc .and x37 (.int .u8 63)).bind fun x68=>(jA .i32 x68).bind fun x69=>(zc .shl x69 (.int .u64 6)).bind fun x70=>(zc .or x67 x70).bind fun x71=>(zc .and x55 (.int .u8 63)).bind fun x72=>(jA .i32 x72).bind fun x73=>(
  zc .or x71 x73).bind fun x74=>
  some ((.tup [x74,.int .i64 4]),[])))
theorem jb(a0:V):P0 yf [.v a0] []=ve a0:=
 pq (fn:=vi) (by kernel_rfl) (by kernel_rfl)
theorem Wh(a1:List PA):P0 vh a1 []=XZ (YK 1 16) (.ful) a1 []:=zb5 (gl:=gl0) (tab:=zpt) (f:=vh) a1 [] rfl rfl
theorem Jp(a1:List PA):P0 qN a1 []=XZ (YK 8 120) (.ful) a1 []:=zb5 (gl:=gl0) (tab:=zpt) (f:=qN) a1 [] rfl rfl
theorem zah(a1:List PA):P0 j2 a1 []=XZ (Ko 120) (.gvf 8) a1 []:=zb5 (gl:=gl0) (tab:=zpt) (f:=j2) a1 [] rfl rfl
theorem VP(a1:List PA):P0 qe a1 []=XZ (Ko 16) (.gvf 1) a1 []:=zb5 (gl:=gl0) (tab:=zpt) (f:=qe) a1 [] rfl rfl
end Go.Ev
end
