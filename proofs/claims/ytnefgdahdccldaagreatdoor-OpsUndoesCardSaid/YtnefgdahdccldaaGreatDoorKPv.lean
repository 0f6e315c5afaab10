/- What the functions compute. -/
import Derived.Test.YtnefgdahdccldaaGreatDoorKCode
import Derived.KernelRfl
set_option linter.all false
noncomputable section
namespace Go.Ev
def W6(a0:V)(a1:V)(a2:V):Option (V×List V):=
(z6 a0).bind fun n1=>((if(decide ((n1:Int)>60))=false then
(
  z6 a2).bind fun n2=>
  some (.bool (decide ((n2:Int)>20)))
else some (.bool true):Option V)).bind fun x3=>(
  asBool x3).bind fun b4=>
  if b4=true then
(
  P0 xH [] []).bind fun r5=>
  some (r5.1,[])
else
(P0 ve [.v a0,.v (.int .i64 4)] []).bind fun r6=>(
  P0 ve [.v a2,.v (.int .i64 2)] []).bind fun r7=>
  tst (okN 8 r6.1) (tst (okN 8 r7.1) ((P0 jP [.v r6.1,.v a1] []).bind fun r8=>(P0 xT [.v r6.1,.v r8.1] []).bind fun r9=>(zi r9.1 0).bind fun x10=>(
  zi r9.1 1).bind fun x11=>
  tst (okN 8 x10) ((asBool x11).bind fun b12=>((if b12=true then
(
  z6 r8.1).bind fun n13=>
  some (.bool (decide ((n13:Int)>0)))
else some (.bool false):Option V)).bind fun x14=>(
  asBool x14).bind fun b15=>
  if b15=true then
  tst (okN 1 r8.1) ((zc r8.1 0).bind fun c16=>
  tst (okN 8 r7.1) ((zc r7.1 0).bind fun c17=>(zc r7.1 1).bind fun c18=>(zc r7.1 2).bind fun c19=>(zc r7.1 3).bind fun c20=>(zc r7.1 4).bind fun c21=>(zc r7.1 5).bind fun c22=>(zc r7.1 6).bind fun c23=>(zc r7.1 7).bind fun c24=>(P0 yz [.v r6.1,.v (.agg [.int .i64 3,c16,.sl [],c17,c18,c19,c20,c21,c22,c23,c24])] []).bind fun r25=>(zi r25.1 0).bind fun x26=>(
  zi r25.1 1).bind fun x27=>
  tst (okN 8 x26) (tst (okN 1 r8.1) ((zc r8.1 0).bind fun c28=>
  tst (okN 8 x10) ((zc x10 0).bind fun c29=>(zc x10 1).bind fun c30=>(zc x10 2).bind fun c31=>(zc x10 3).bind fun c32=>(zc x10 4).bind fun c33=>(zc x10 5).bind fun c34=>(zc x10 6).bind fun c35=>(zc x10 7).bind fun c36=>(P0 yz [.v x26,.v (.agg [.int .i64 3,c28,.sl [],c29,c30,c31,c32,c33,c34,c35,c36])] []).bind fun r37=>(zi r37.1 0).bind fun x38=>(
  zi r37.1 1).bind fun x39=>
  tst (okN 8 x38) (tst (okN 1 r8.1) ((zc r8.1 0).bind fun c40=>
  tst (okN 8 x10) ((zc x10 0).bind fun c41=>(zc x10 1).bind fun c42=>(zc x10 2).bind fun c43=>(zc x10 3).bind fun c44=>(zc x10 4).bind fun c45=>(zc x10 5).bind fun c46=>(zc x10 6).bind fun c47=>(zc x10 7).bind fun c48=>(P0 yz [.v r6.1,.v (.agg [.int .i64 6,c40,.sl [],c41,c42,c43,c44,c45,c46,c47,c48])] []).bind fun r49=>(zi r49.1 0).bind fun x50=>(
  zi r49.1 1).bind fun x51=>
  tst (okN 8 x50) (tst (okN 1 r8.1) ((zc r8.1 0).bind fun c52=>
  tst (okN 1 r8.1) ((zc r8.1 0).bind fun c53=>(P0 yz [.v r6.1,.v (.agg [.int .i64 5,c52,c53,.int .i64 0,.bool false,.bool false,.sl [],.int .i64 0,.str [],.sl [],.sl []])] []).bind fun r54=>(zi r54.1 0).bind fun x55=>(
  zi r54.1 1).bind fun x56=>
  tst (okN 8 x55) (tst (okN 1 r8.1) ((zc r8.1 0).bind fun c57=>
  tst (okN 1 r8.1) ((zc r8.1 0).bind fun c58=>(P0 yz [.v r6.1,.v (.agg [.int .i64 4,c57,c58,.int .i64 0,.bool false,.bool false,.sl [],.int .i64 0,.str [],.sl [],.sl []])] []).bind fun r59=>(zi r59.1 0).bind fun x60=>(
  zi r59.1 1).bind fun x61=>
  tst (okN 8 x60) ((unV .not x27).bind fun x62=>(asBool x62).bind fun b63=>((if b63=false then
(
  unV .not x39).bind fun x64=>
  some x64
else some (.bool true):Option V)).bind fun x65=>(asBool x65).bind fun b66=>((if b66=false then
(
  unV .not x51).bind fun x67=>
  some x67
else some (.bool true):Option V)).bind fun x68=>(asBool x68).bind fun b69=>((if b69=false then
(
  unV .not x56).bind fun x70=>
  some x70
else some (.bool true):Option V)).bind fun x71=>(asBool x71).bind fun b72=>((if b72=false then
(
  unV .not x61).bind fun x73=>
  some x73
else some (.bool true):Option V)).bind fun x74=>(asBool x74).bind fun b75=>((if b75=false then
(P0 xN [.v x38,.v r6.1] []).bind fun r76=>(
  unV .not r76.1).bind fun x77=>
  some x77
else some (.bool true):Option V)).bind fun x78=>(asBool x78).bind fun b79=>((if b79=false then
(P0 xN [.v x60,.v r6.1] []).bind fun r80=>(
  unV .not r80.1).bind fun x81=>
  some x81
else some (.bool true):Option V)).bind fun x82=>(asBool x82).bind fun b83=>((if b83=false then
(zc x55 7).bind fun c84=>(z6 c84).bind fun n85=>(zc r6.1 7).bind fun c86=>(
  z6 c86).bind fun n87=>
  some (.bool (decide ((n85:Int)<((n87:Nat):Int))))
else some (.bool true):Option V)).bind fun x88=>(
  asBool x88).bind fun b89=>
  if b89=true then
  some ((.bool false),[])
else
(
  P0 xH [] []).bind fun r90=>
  some (r90.1,[]))))))))))))))))
else
 tst (okN 1 r8.1) ((zc r8.1 0).bind fun c91=>
 tst (okN 8 r7.1) ((zc r7.1 0).bind fun c92=>(zc r7.1 1).bind fun c93=>(zc r7.1 2).bind fun c94=>(zc r7.1 3).bind fun c95=>(zc r7.1 4).bind fun c96=>(zc r7.1 5).bind fun c97=>(zc r7.1 6).bind fun c98=>(zc r7.1 7).bind fun c99=>(P0 yz [.v r6.1,.v (.agg [.int .i64 1,c91,.sl [],c92,c93,c94,c95,c96,c97,c98,c99])] []).bind fun r100=>(zi r100.1 0).bind fun x101=>(
  zi r100.1 1).bind fun x102=>
  tst (okN 8 x101) ((unV .not x102).bind fun x103=>(
  asBool x103).bind fun b104=>
  if b104=true then
  tst (okN 1 r8.1) ((zc r8.1 0).bind fun c105=>(P0 yz [.v r6.1,.v (.agg [.int .i64 2,c105,.sl [],.int .i64 0,.bool false,.bool false,.sl [],.int .i64 0,.str [],.sl [],.sl []])] []).bind fun r106=>(zi r106.1 0).bind fun x107=>(
  zi r106.1 1).bind fun x108=>
  tst (okN 8 x107) ((unV .not x108).bind fun x109=>(asBool x109).bind fun b110=>((if b110=true then
(
  P0 xu [.v x101,.v (.agg [.int .i64 0,.bool false,.bool false,.sl [],.int .i64 0,.str [],.sl [],.sl []])] []).bind fun r111=>
  some r111.1
else some (.bool false):Option V)).bind fun x112=>(asBool x112).bind fun b113=>((if b113=true then
(
  P0 xH [] []).bind fun r114=>
  some r114.1
else some (.bool false):Option V)).bind fun x115=>some (x115,[])))
else
(
  z6 r8.1).bind fun n116=>
  if((n116:Int)==0)=true then
(P0 xN [.v x101,.v r7.1] []).bind fun r117=>(asBool r117.1).bind fun b118=>((if b118=true then
(
  P0 xH [] []).bind fun r119=>
  some r119.1
else some (.bool false):Option V)).bind fun x120=>some (x120,[])
else
(P0 vZ [.v r8.1] []).bind fun r121=>(((z6 r121.1).bind fun n122=>(yu 1 r121.1).bind fun l123=>(yQ (.int .i64 (IntKind.wrap .i64 (((n122:Nat):Int)-1))) (l123.length)).bind fun i124=>(l123[i124]?).bind fun e125=>(zc e125 0).bind fun c126=>(za .eql c126 (.str [45])).bind fun x127=>(
  asBool x127).bind fun b128=>
  if b128=true then
(z6 r8.1).bind fun n129=>(yu 1 r8.1).bind fun l130=>(WB none (some (.int .i64 (IntKind.wrap .i64 (((n129:Nat):Int)-1)))) (l130.length)).bind fun q131=>(P0 xT [.v r6.1,.v (.sl ((l130.drop q131.1).take (q131.2-q131.1)))] []).bind fun r132=>(zi r132.1 0).bind fun x133=>(
  zi r132.1 1).bind fun x134=>
  tst (okN 8 x133) ((zc x133 0).bind fun c135=>(za .eql c135 (.int .i64 6)).bind fun x136=>(
  asBool x136).bind fun b137=>
  if b137=true then
(zc x101 7).bind fun c138=>(z6 c138).bind fun n139=>(zc r6.1 7).bind fun c140=>(z6 c140).bind fun n141=>((if(decide ((n139:Int)≥((n141:Nat):Int)))=true then
(
  P0 xH [] []).bind fun r142=>
  some r142.1
else some (.bool false):Option V)).bind fun x143=>some (1,(vec [x143]))
else
 some (0,(vec [])))
else
 some (0,(vec [])):Option (Nat×(Nat->V)))).bind fun o144=>
 if o144.1=0 then
(P0 xT [.v x101,.v r121.1] []).bind fun r145=>(zi r145.1 0).bind fun x146=>(
  zi r145.1 1).bind fun x147=>
  tst (okN 8 x146) (tst (okN 1 r121.1) ((zc r121.1 0).bind fun c148=>(P0 yz [.v x101,.v (.agg [.int .i64 2,c148,.sl [],.int .i64 0,.bool false,.bool false,.sl [],.int .i64 0,.str [],.sl [],.sl []])] []).bind fun r149=>(zi r149.1 0).bind fun x150=>(
  zi r149.1 1).bind fun x151=>
  tst (okN 8 x150) ((asBool x147).bind fun b152=>(
  (if b152=true then
  some x151
else some (.bool false):Option V)).bind fun x153=>(asBool x153).bind fun b154=>((if b154=true then
(
  P0 xN [.v x146,.v r7.1] []).bind fun r155=>
  some r155.1
else some (.bool false):Option V)).bind fun x156=>(asBool x156).bind fun b157=>((if b157=true then
(
  P0 xN [.v x150,.v r6.1] []).bind fun r158=>
  some r158.1
else some (.bool false):Option V)).bind fun x159=>(asBool x159).bind fun b160=>((if b160=true then
(
  P0 xH [] []).bind fun r161=>
  some r161.1
else some (.bool false):Option V)).bind fun x162=>some (x162,[]))))
else
 some ((o144.2 0),[])))))))
theorem zb7(a0:V)(a1:V)(a2:V):P0 wM [.v a0,.v a1,.v a2] []=W6 a0 a1 a2:=
 pq (fn:=ZH) (by kernel_rfl) (by kernel_rfl)
def zaR:Option (V×List V):=
(P0 jN [.v (.agg [.int .i64 7,.bool false,.bool false,.sl [],.int .i64 0,.str [],(.sl [.str [97]]),(.sl [(.agg [.int .i64 6,.bool false,.bool false,.sl [],.int .i64 0,.str [],.sl [],(.sl [(.agg [.int .i64 1,.bool false,.bool false,.sl [],.int .i64 0,.str [],.sl [],.sl []])])])])]),.v (.sl [(.agg [.int .i64 1,(.sl [.str [97],.str [45]]),.sl [],.int .i64 2,.bool false,.bool false,.sl [],.int .i64 0,.str [],.sl [],.sl []])]),.v (.int .i64 100)] []).bind fun r1=>(zi r1.1 0).bind fun x2=>(zi r1.1 1).bind fun x3=>(
  zi r1.1 2).bind fun x4=>
  tst (okN 8 x2) ((za .eql x4 (.int .i64 0)).bind fun x5=>(asBool x5).bind fun b6=>((if b6=true then
(
  za .eql x3 (.int .i64 (-1))).bind fun x7=>
  some x7
else some (.bool false):Option V)).bind fun x8=>(asBool x8).bind fun b9=>((if b9=true then
(zc x2 7).bind fun c10=>(
  z6 c10).bind fun n11=>
  some (.bool ((n11:Int)==1))
else some (.bool false):Option V)).bind fun x12=>(asBool x12).bind fun b13=>((if b13=true then
(zc x2 7).bind fun c14=>(yu 8 c14).bind fun l15=>(yQ (.int .i64 0) (l15.length)).bind fun i17=>(l15[i17]?).bind fun e18=>(zc e18 7).bind fun c19=>(
  z6 c19).bind fun n20=>
  some (.bool ((n20:Int)==2))
else some (.bool false):Option V)).bind fun x21=>(asBool x21).bind fun b22=>((if b22=true then
(zc x2 7).bind fun c23=>(yu 8 c23).bind fun l24=>(yQ (.int .i64 0) (l24.length)).bind fun i25=>(l24[i25]?).bind fun e26=>(zc e26 7).bind fun c27=>(yu 8 c27).bind fun l28=>(yQ (.int .i64 1) (l28.length)).bind fun i29=>(l28[i29]?).bind fun e30=>(zc e30 0).bind fun c31=>(
  za .eql c31 (.int .i64 2)).bind fun x32=>
  some x32
else some (.bool false):Option V)).bind fun x33=>some (x33,[]))
theorem zjH:P0 xH [] []=zaR:=
 pq (fn:=Vp) (by kernel_rfl) (by kernel_rfl)
def jh(n8:Nat)(a1:V)(a2:V)(v9:Nat->V):Option ((Nat->V) ⊕ (Nat×(Nat->V))):=
(za .lss (v9 0) (.int .i64 ((n8:Nat):Int))).bind fun x10=>(
  asBool x10).bind fun b11=>
  if b11=true then
(yu 11 a1).bind fun l12=>(yQ (v9 0) (l12.length)).bind fun i13=>(
  l12[i13]?).bind fun e14=>
  tst (okN 11 e14) ((P0 yz [.v (v9 1),.v e14] []).bind fun r15=>(zi r15.1 0).bind fun x16=>(
  zi r15.1 1).bind fun x17=>
  tst (okN 8 x16) ((unV .not x17).bind fun x18=>(
  asBool x18).bind fun b19=>
  if b19=true then
  some (.inr (1,(vec [(v9 0),.int .i64 5,(v9 1),.int .i64 0,.bool false,.bool false,.sl [],.int .i64 0,.str [],.sl [],.sl []])))
else
(P0 Yl [.v x16,.v a2] []).bind fun r20=>(unV .not r20.1).bind fun x21=>(
  asBool x21).bind fun b22=>
  if b22=true then
  some (.inr (1,(vec [(v9 0),.int .i64 4,(v9 1),.int .i64 0,.bool false,.bool false,.sl [],.int .i64 0,.str [],.sl [],.sl []])))
else
 tst (okN 8 x16) ((za .add (v9 0) (.int .i64 1)).bind fun x23=>
 some (.inl (vec [x23,x16,(v9 2),(v9 3),(v9 4),(v9 5),(v9 6),(v9 7),(v9 8),(v9 9)])))))
else
 some (.inr (0,(vec [(v9 1),.agg [(v9 2),(v9 3),(v9 4),(v9 5),(v9 6),(v9 7),(v9 8),(v9 9)]])))
def zgb(a0:V)(a1:V)(a2:V):Option (V×List V):=
 tst (okN 8 a0) ((P0 wC [.v a0] []).bind fun r1=>(unV .not r1.1).bind fun x2=>(asBool x2).bind fun b3=>((if b3=false then
(P0 Zh [.v a1] []).bind fun r4=>(
  unV .not r4.1).bind fun x5=>
  some x5
else some (.bool true):Option V)).bind fun x6=>(
  asBool x6).bind fun b7=>
  if b7=true then
  some ((.tup [(.agg [.int .i64 0,.bool false,.bool false,.sl [],.int .i64 0,.str [],.sl [],.sl []]),(.int .i64 (-1)),.int .i64 1]),[])
else
(z6 a1).bind fun n8=>(
  zq (jh n8 a1 a2) (vec [.int .i64 0,a0,.int .i64 0,.bool false,.bool false,.sl [],.int .i64 0,.str [],.sl [],.sl []])).bind fun o24=>
  if o24.1=0 then
  tst (okN 8 (o24.2 0)) (some ((.tup [(o24.2 0),(.int .i64 (-1)),.int .i64 0]),[]))
else
 some ((.tup [.agg [(o24.2 3),(o24.2 4),(o24.2 5),(o24.2 6),(o24.2 7),(o24.2 8),(o24.2 9),(o24.2 10)],(o24.2 0),(o24.2 1)]),[]))
theorem zne(a0:V)(a1:V)(a2:V):P0 jN [.v a0,.v a1,.v a2] []=zgb a0 a1 a2:=
 pq (fn:=J3) (by kernel_rfl) (by kernel_rfl)
def qO(a0:V)(a1:V)(v32:Nat->V):Option ((Nat->V) ⊕ (Nat×(Nat->V))):=
(zc a0 7).bind fun c33=>(z6 c33).bind fun n34=>(za .lss (v32 0) (.int .i64 ((n34:Nat):Int))).bind fun x35=>(
  asBool x35).bind fun b36=>
  if b36=true then
(zc a0 7).bind fun c37=>(yu 8 c37).bind fun l38=>(yQ (v32 0) (l38.length)).bind fun i39=>(l38[i39]?).bind fun e40=>(zc a1 7).bind fun c41=>(yu 8 c41).bind fun l42=>(yQ (v32 0) (l42.length)).bind fun i43=>(l42[i43]?).bind fun e44=>(P0 xu [.v e40,.v e44] []).bind fun r45=>(unV .not r45.1).bind fun x46=>(
  asBool x46).bind fun b47=>
  if b47=true then
  some (.inr (1,(vec [.bool false])))
else
(
  za .add (v32 0) (.int .i64 1)).bind fun x48=>
  some (.inl (vec [x48]))
else
 some (.inr (0,(vec [])))
def V4(a0:V)(a1:V):Option (V×List V):=
 tst (okN 8 a0) (tst (okN 8 a1) ((zc a0 0).bind fun c1=>(zc a1 0).bind fun c2=>(za .neq c1 c2).bind fun x3=>(asBool x3).bind fun b4=>((if b4=false then
(zc a0 1).bind fun c5=>(zc a1 1).bind fun c6=>(asBool c5).bind fun b7=>(
  asBool c6).bind fun b8=>
  some (.bool (!(b7==b8)))
else some (.bool true):Option V)).bind fun x9=>(asBool x9).bind fun b10=>((if b10=false then
(P0 vY [.v (XD a0 2 3),.v (XD a1 2 3)] []).bind fun r11=>(
  unV .not r11.1).bind fun x12=>
  some x12
else some (.bool true):Option V)).bind fun x13=>(asBool x13).bind fun b14=>((if b14=false then
(zc a0 5).bind fun c15=>(zc a1 5).bind fun c16=>(
  za .neq c15 c16).bind fun x17=>
  some x17
else some (.bool true):Option V)).bind fun x18=>(asBool x18).bind fun b19=>((if b19=false then
(zc a0 6).bind fun c20=>(zc a1 6).bind fun c21=>(P0 xY [.v c20,.v c21] []).bind fun r22=>(
  unV .not r22.1).bind fun x23=>
  some x23
else some (.bool true):Option V)).bind fun x24=>(asBool x24).bind fun b25=>((if b25=false then
(zc a0 7).bind fun c26=>(z6 c26).bind fun n27=>(zc a1 7).bind fun c28=>(
  z6 c28).bind fun n29=>
  some (.bool ((n27:Int) != ((n29:Nat):Int)))
else some (.bool true):Option V)).bind fun x30=>(
  asBool x30).bind fun b31=>
  if b31=true then
  some ((.bool false),[])
else
(
  zq (qO a0 a1) (vec [.int .i64 0])).bind fun o49=>
  if o49.1=0 then
  some ((.bool true),[])
else
 some ((o49.2 0),[])))
theorem zcV(a0:V)(a1:V):P0 xu [.v a0,.v a1] []=V4 a0 a1:=
 pq (fn:=Ye) (by kernel_rfl) (by kernel_rfl)
def zfr(a0:V):Option (V×List V):=
(z6 a0).bind fun n1=>((if(decide ((n1:Int)<=60))=true then
(P0 z8 [.v a0,.fn wD []] []).bind fun r2=>(
  unV .not r2.1).bind fun x3=>
  some x3
else some (.bool false):Option V)).bind fun x4=>some (x4,[])
theorem znl(a0:V):P0 Zh [.v a0] []=zfr a0:=
 pq (fn:=Kx) (by kernel_rfl) (by kernel_rfl)
def zhg(a0:V)(a1:V):Option (V×List V):=
 tst (okN 8 a0) ((P0 vn [.v a0] []).bind fun r1=>(za .leq r1.1 a1).bind fun x2=>(asBool x2).bind fun b3=>((if b3=true then
(P0 qg [.v a0] []).bind fun r4=>(
  za .leq r4.1 (.int .i64 2000)).bind fun x5=>
  some x5
else some (.bool false):Option V)).bind fun x6=>(asBool x6).bind fun b7=>((if b7=true then
(P0 v7 [.v a0] []).bind fun r8=>(
  za .leq r8.1 (.int .i64 64)).bind fun x9=>
  some x9
else some (.bool false):Option V)).bind fun x10=>(asBool x10).bind fun b11=>((if b11=true then
(
  P0 Z8 [.v a0] []).bind fun r12=>
  some r12.1
else some (.bool false):Option V)).bind fun x13=>some (x13,[]))
theorem zoF(a0:V)(a1:V):P0 Yl [.v a0,.v a1] []=zhg a0 a1:=
 pq (fn:=zbH) (by kernel_rfl) (by kernel_rfl)
def zl7(a0:V)(a1:V):Option (V×List V):=
 tst (okN 8 a0) (tst (okN 11 a1) ((P0 wr [.v a0,.v a1] []).bind fun r1=>(zi r1.1 0).bind fun x2=>(
  asBool x2).bind fun b3=>
  if b3=true then
(
  zi r1.1 1).bind fun x4=>
  tst (okN 8 x4) ((P0 qK [.p 0 0,.p 1 0,.v .nili] [(false,8,x4),(false,1,(.bool true))]).bind fun r5=>(r5.2[0]?).bind fun y6=>(
  r5.2[1]?).bind fun y7=>
  some ((.tup [y6,y7]),[]))
else
(zi r1.1 1).bind fun x8=>(P0 qK [.p 0 0,.p 1 0,.v x8] [(false,8,(.agg [.int .i64 0,.bool false,.bool false,.sl [],.int .i64 0,.str [],.sl [],.sl []])),(false,1,(.bool false))]).bind fun r9=>(r9.2[0]?).bind fun y10=>(
  r9.2[1]?).bind fun y11=>
  some ((.tup [y10,y11]),[])))
theorem zsb(a0:V)(a1:V):P0 yz [.v a0,.v a1] []=zl7 a0 a1:=
 pq (fn:=zeZ) (by kernel_rfl) (by kernel_rfl)
def zcp(a0:V)(a1:V):Option (V×List V):=
(P0 vf [.v a0,.v a1] []).bind fun r1=>(zi r1.1 0).bind fun x2=>(
  zi r1.1 1).bind fun x3=>
  tst (okN 8 x2) (tst (okN 8 x2) (some (x2,[])))
theorem zkp(a0:V)(a1:V):P0 ve [.v a0,.v a1] []=zcp a0 a1:=
 pq (fn:=Jq) (by kernel_rfl) (by kernel_rfl)
def zaZ(a0:V)(a1:V):Option (V×List V):=
(za .rem a0 a1).bind fun x1=>(za .lss x1 (.int .i64 0)).bind fun x2=>(
  asBool x2).bind fun b3=>
  if b3=true then
(
  za .add x1 a1).bind fun x4=>
  some (x4,[])
else
 some (x1,[])
theorem zjA(a0:V)(a1:V):P0 wE [.v a0,.v a1] []=zaZ a0 a1:=
 pq (fn:=VK) (by kernel_rfl) (by kernel_rfl)
def jR(a0:V)(a1:V)(v42:Nat->V):Option ((Nat->V) ⊕ (Nat×(Nat->V))):=
(zc a0 6).bind fun c43=>(z6 c43).bind fun n44=>(za .lss (v42 0) (.int .i64 ((n44:Nat):Int))).bind fun x45=>(asBool x45).bind fun b46=>((if b46=true then
(zc a0 0).bind fun c47=>(
  za .eql c47 (.int .i64 7)).bind fun x48=>
  some x48
else some (.bool false):Option V)).bind fun x49=>(
  asBool x49).bind fun b50=>
  if b50=true then
(zc a0 6).bind fun c51=>(yu 1 c51).bind fun l52=>(yQ (v42 0) (l52.length)).bind fun i53=>(l52[i53]?).bind fun e54=>(zc e54 0).bind fun c55=>(zc a1 6).bind fun c56=>(yu 1 c56).bind fun l57=>(yQ (v42 0) (l57.length)).bind fun i58=>(l57[i58]?).bind fun e59=>(zc e59 0).bind fun c60=>(za .neq c55 c60).bind fun x61=>(
  asBool x61).bind fun b62=>
  if b62=true then
  some (.inr (1,(vec [.bool false])))
else
(
  za .add (v42 0) (.int .i64 1)).bind fun x63=>
  some (.inl (vec [x63]))
else
 some (.inr (0,(vec [])))
def Zn(a0:V)(a1:V)(v65:Nat->V):Option ((Nat->V) ⊕ (Nat×(Nat->V))):=
(zc a0 7).bind fun c66=>(z6 c66).bind fun n67=>(za .lss (v65 0) (.int .i64 ((n67:Nat):Int))).bind fun x68=>(
  asBool x68).bind fun b69=>
  if b69=true then
(zc a0 7).bind fun c70=>(yu 8 c70).bind fun l71=>(yQ (v65 0) (l71.length)).bind fun i72=>(l71[i72]?).bind fun e73=>(zc a1 7).bind fun c74=>(yu 8 c74).bind fun l75=>(yQ (v65 0) (l75.length)).bind fun i76=>(l75[i76]?).bind fun e77=>(P0 xN [.v e73,.v e77] []).bind fun r78=>(unV .not r78.1).bind fun x79=>(
  asBool x79).bind fun b80=>
  if b80=true then
  some (.inr (1,(vec [.bool false])))
else
(
  za .add (v65 0) (.int .i64 1)).bind fun x81=>
  some (.inl (vec [x81]))
else
 some (.inr (0,(vec [])))
def zdj(a0:V)(a1:V):Option (V×List V):=
 tst (okN 8 a0) (tst (okN 8 a1) ((zc a0 0).bind fun c1=>(zc a1 0).bind fun c2=>(za .neq c1 c2).bind fun x3=>(
  asBool x3).bind fun b4=>
  if b4=true then
  some ((.bool false),[])
else
(zc a0 0).bind fun c5=>(za .eql c5 (.int .i64 2)).bind fun x6=>(
  asBool x6).bind fun b7=>
  if b7=true then
(zc a0 1).bind fun c8=>(zc a1 1).bind fun c9=>(asBool c8).bind fun b10=>(
  asBool c9).bind fun b11=>
  some ((.bool (b10==b11)),[])
else
(za .eql c5 (.int .i64 3)).bind fun x12=>(
  asBool x12).bind fun b13=>
  if b13=true then
(
  P0 j2 [.v (XD a0 2 3),.v (XD a1 2 3)] []).bind fun r14=>
  some (r14.1,[])
else
(((za .eql c5 (.int .i64 4)).bind fun x15=>(
  asBool x15).bind fun b16=>
  if b16=true then
  some (0,(vec [x15]))
else
(
  za .eql c5 (.int .i64 5)).bind fun x17=>
  some (0,(vec [x17])):Option (Nat×(Nat->V)))).bind fun o18=>(
  asBool (o18.2 0)).bind fun b19=>
  if b19=true then
(zc a0 5).bind fun c20=>(zc a1 5).bind fun c21=>(
  za .eql c20 c21).bind fun x22=>
  some (x22,[])
else
(((za .eql c5 (.int .i64 6)).bind fun x23=>(
  asBool x23).bind fun b24=>
  if b24=true then
  some (0,(vec [x23]))
else
(
  za .eql c5 (.int .i64 7)).bind fun x25=>
  some (0,(vec [x25])):Option (Nat×(Nat->V)))).bind fun o26=>(
  asBool (o26.2 0)).bind fun b27=>
  if b27=true then
(zc a0 7).bind fun c28=>(z6 c28).bind fun n29=>(zc a1 7).bind fun c30=>(z6 c30).bind fun n31=>((if((n29:Int) != ((n31:Nat):Int))=false then
(zc a0 0).bind fun c32=>(za .eql c32 (.int .i64 7)).bind fun x33=>(asBool x33).bind fun b34=>((if b34=true then
(zc a0 6).bind fun c35=>(z6 c35).bind fun n36=>(zc a1 6).bind fun c37=>(
  z6 c37).bind fun n38=>
  some (.bool ((n36:Int) != ((n38:Nat):Int)))
else some (.bool false):Option V)).bind fun x39=>some x39
else some (.bool true):Option V)).bind fun x40=>(
  asBool x40).bind fun b41=>
  if b41=true then
  some ((.bool false),[])
else
(
  zq (jR a0 a1) (vec [.int .i64 0])).bind fun o64=>
  if o64.1=0 then
(
  zq (Zn a0 a1) (vec [.int .i64 0])).bind fun o82=>
  if o82.1=0 then
  some ((.bool true),[])
else
 some ((o82.2 0),[])
else
 some ((o64.2 0),[])
else
 some ((.bool true),[])))
theorem zkQ(a0:V)(a1:V):P0 xN [.v a0,.v a1] []=zdj a0 a1:=
 pq (fn:=Jx) (by kernel_rfl) (by kernel_rfl)
def yH(a1:V)(v1:Nat->V):Option ((Nat->V) ⊕ (Nat×(Nat->V))):=
(z6 a1).bind fun n2=>(za .lss (v1 1) (.int .i64 ((n2:Nat):Int))).bind fun x3=>(asBool x3).bind fun b4=>((if b4=true then
(
  za .lss (v1 1) (.int .i64 4)).bind fun x5=>
  some x5
else some (.bool false):Option V)).bind fun x6=>(
  asBool x6).bind fun b7=>
  if b7=true then
(yu 1 a1).bind fun l8=>(yQ (v1 1) (l8.length)).bind fun i9=>(l8[i9]?).bind fun e10=>(zc e10 0).bind fun c11=>(P0 wE [.v c11,.v (.int .i64 1048576)] []).bind fun r12=>(za .rem r12.1 (.int .i64 5)).bind fun x13=>(za .eql x13 (.int .i64 0)).bind fun x14=>(asBool x14).bind fun b15=>((if b15=false then
(zc (v1 2) 7).bind fun c16=>(
  z6 c16).bind fun n17=>
  some (.bool ((n17:Int)==0))
else some (.bool true):Option V)).bind fun x18=>(asBool x18).bind fun b19=>((if b19=false then
(zc (v1 2) 0).bind fun c20=>(za .neq c20 (.int .i64 7)).bind fun x21=>(asBool x21).bind fun b22=>((if b22=true then
(zc (v1 2) 0).bind fun c23=>(
  za .neq c23 (.int .i64 6)).bind fun x24=>
  some x24
else some (.bool false):Option V)).bind fun x25=>some x25
else some (.bool true):Option V)).bind fun x26=>(
  asBool x26).bind fun b27=>
  if b27=true then
(za .rem r12.1 (.int .i64 3)).bind fun x28=>(za .eql x28 (.int .i64 0)).bind fun x29=>(
  asBool x29).bind fun b30=>
  if b30=true then
(za .quo r12.1 (.int .i64 15)).bind fun x31=>(za .rem x31 (.int .i64 5)).bind fun x32=>(
  zoX false 5 1 (.agg [.str [97],.str [48],.str [45],.str [110,101,119],.str [50]]) x32).bind fun x33=>
  tst (okN 1 x33) ((zc x33 0).bind fun c34=>
  tst (yn 1 [c34]) (tst (qi 16 ((V.elems (v1 0)).length) (List.length (α:=V) [c34])) (some (.inr (1,(vec [(.sl ((V.elems (v1 0))++([c34]:List V))),(v1 2)]))))))
else
 some (.inr (1,(vec [(.sl (V.elems (v1 0))),(v1 2)])))
else
(za .quo r12.1 (.int .i64 5)).bind fun x35=>(zc (v1 2) 7).bind fun c36=>(z6 c36).bind fun n37=>(za .rem x35 (.int .i64 ((n37:Nat):Int))).bind fun x38=>(((zc (v1 2) 0).bind fun c39=>(za .eql c39 (.int .i64 7)).bind fun x40=>(
  asBool x40).bind fun b41=>
  if b41=true then
(zc (v1 2) 6).bind fun c42=>(yu 1 c42).bind fun l43=>(yQ x38 (l43.length)).bind fun i44=>(l43[i44]?).bind fun e45=>(
  zc e45 0).bind fun c46=>
  tst (okN 1 c46) ((zc c46 0).bind fun c47=>
  tst (yn 1 [c47]) (tst (qi 16 ((V.elems (v1 0)).length) (List.length (α:=V) [c47])) (some (0,(vec [(.sl ((V.elems (v1 0))++([c47]:List V)))])))))
else
(za .rem x38 (.int .i64 10)).bind fun x48=>(
  zoX false 10 1 (.agg [.str [48],.str [49],.str [50],.str [51],.str [52],.str [53],.str [54],.str [55],.str [56],.str [57]]) x48).bind fun x49=>
  tst (okN 1 x49) ((zc x49 0).bind fun c50=>
  tst (yn 1 [c50]) (tst (qi 16 ((V.elems (v1 0)).length) (List.length (α:=V) [c50])) (some (0,(vec [(.sl ((V.elems (v1 0))++([c50]:List V)))]))))):Option (Nat×(Nat->V)))).bind fun o51=>(zc (v1 2) 7).bind fun c52=>(yu 8 c52).bind fun l53=>(yQ x38 (l53.length)).bind fun i54=>(
  l53[i54]?).bind fun e55=>
  tst (okN 8 e55) ((za .add (v1 1) (.int .i64 1)).bind fun x56=>
  some (.inl (vec [(.sl (V.elems (o51.2 0))),x56,e55])))
else
 some (.inr (0,(vec [(.sl (V.elems (v1 0))),(v1 2)])))
def zge(a0:V)(a1:V):Option (V×List V):=
 tst (okN 8 a0) ((zq (yH a1) (vec [.sl [],.int .i64 0,a0])).bind fun o57=>
 if o57.1=0 then
 some ((.sl (V.elems (o57.2 0))),[])
else
 some ((.sl (V.elems (o57.2 0))),[]))
theorem zoh(a0:V)(a1:V):P0 jP [.v a0,.v a1] []=zge a0 a1:=
 pq (fn:=KW) (by kernel_rfl) (by kernel_rfl)
def kB(a1:V)(v1:Nat->V):Option ((Nat->V) ⊕ (Nat×(Nat->V))):=
(z6 a1).bind fun n2=>(za .lss (v1 0) (.int .i64 ((n2:Nat):Int))).bind fun x3=>(
  asBool x3).bind fun b4=>
  if b4=true then
(yu 1 a1).bind fun l5=>(yQ (v1 0) (l5.length)).bind fun i6=>(l5[i6]?).bind fun e7=>(zc e7 0).bind fun c8=>(P0 jf [.v (v1 1),.v c8] []).bind fun r9=>(zi r9.1 0).bind fun x10=>(
  zi r9.1 1).bind fun x11=>
  tst (okN 8 x10) ((unV .not x11).bind fun x12=>(
  asBool x12).bind fun b13=>
  if b13=true then
  some (.inr (1,(vec [.bool false,(v1 1),.int .i64 0,.bool false,.bool false,.sl [],.int .i64 0,.str [],.sl [],.sl []])))
else
 tst (okN 8 x10) ((za .add (v1 0) (.int .i64 1)).bind fun x14=>
 some (.inl (vec [x14,x10,(v1 2),(v1 3),(v1 4),(v1 5),(v1 6),(v1 7),(v1 8),(v1 9)]))))
else
 some (.inr (0,(vec [(v1 1),.agg [(v1 2),(v1 3),(v1 4),(v1 5),(v1 6),(v1 7),(v1 8),(v1 9)]])))
def zfs(a0:V)(a1:V):Option (V×List V):=
 tst (okN 8 a0) ((zq (kB a1) (vec [.int .i64 0,a0,.int .i64 0,.bool false,.bool false,.sl [],.int .i64 0,.str [],.sl [],.sl []])).bind fun o15=>
 if o15.1=0 then
 tst (okN 8 (o15.2 0)) (some ((.tup [(o15.2 0),.bool true]),[]))
else
 some ((.tup [.agg [(o15.2 2),(o15.2 3),(o15.2 4),(o15.2 5),(o15.2 6),(o15.2 7),(o15.2 8),(o15.2 9)],(o15.2 0)]),[]))
theorem znW(a0:V)(a1:V):P0 xT [.v a0,.v a1] []=zfs a0 a1:=
 pq (fn:=KM) (by kernel_rfl) (by kernel_rfl)
def JK(a0:V):Option (V×List V):=
(
  zdZ 1 a0).bind fun l1=>
  tst (qi 16 (List.length (α:=V) []) (l1.length)) (some ((.sl (([]:List V)++l1)),[]))
theorem ze1(a0:V):P0 vZ [.v a0] []=JK a0:=
 pq (fn:=Xb) (by kernel_rfl) (by kernel_rfl)
def zdl(a0:V):Option (V×List V):=
 tst (okN 8 a0) ((P0 vi [.v a0,.v (.int .i64 1),.p 0 0] [(false,1,(.int .i64 2000))]).bind fun r1=>(
  r1.2[0]?).bind fun y2=>
  some (r1.1,[]))
theorem zlb(a0:V):P0 wC [.v a0] []=zdl a0:=
 pq (fn:=QA) (by kernel_rfl) (by kernel_rfl)
def JB(a0:V)(a1:V):Option (V×List V):=
 tst (okN 3 a0) (tst (okN 3 a1) ((zc a0 0).bind fun c1=>(zc a1 0).bind fun c2=>(asBool c1).bind fun b3=>(asBool c2).bind fun b4=>((if(b3==b4)=true then
(zc a0 2).bind fun c5=>(zc a1 2).bind fun c6=>(
  za .eql c5 c6).bind fun x7=>
  some x7
else some (.bool false):Option V)).bind fun x8=>(asBool x8).bind fun b9=>((if b9=true then
(zc a0 1).bind fun c10=>(zc a1 1).bind fun c11=>(
  P0 wL [.v c10,.v c11] []).bind fun r12=>
  some r12.1
else some (.bool false):Option V)).bind fun x13=>some (x13,[])))
theorem zeg(a0:V)(a1:V):P0 vY [.v a0,.v a1] []=JB a0 a1:=
 pq (fn:=Y2) (by kernel_rfl) (by kernel_rfl)
def vC(a0:V)(a1:V)(v3:Nat->V):Option ((Nat->V) ⊕ (Nat×(Nat->V))):=
(z6 a0).bind fun n4=>(za .lss (v3 0) (.int .i64 ((n4:Nat):Int))).bind fun x5=>(
  asBool x5).bind fun b6=>
  if b6=true then
(yu 1 a0).bind fun l7=>(yQ (v3 0) (l7.length)).bind fun i9=>(l7[i9]?).bind fun e10=>(zc e10 0).bind fun c11=>(yu 1 a1).bind fun l12=>(yQ (v3 0) (l12.length)).bind fun i13=>(l12[i13]?).bind fun e14=>(zc e14 0).bind fun c15=>(za .neq c11 c15).bind fun x16=>(
  asBool x16).bind fun b17=>
  if b17=true then
  some (.inr (1,(vec [.bool false])))
else
(
  za .add (v3 0) (.int .i64 1)).bind fun x18=>
  some (.inl (vec [x18]))
else
 some (.inr (0,(vec [])))
def Xg(a0:V)(a1:V):Option (V×List V):=
(z6 a0).bind fun n1=>(
  z6 a1).bind fun n2=>
  if((n1:Int) != ((n2:Nat):Int))=true then
  some ((.bool false),[])
else
(
  zq (vC a0 a1) (vec [.int .i64 0])).bind fun o19=>
  if o19.1=0 then
  some ((.bool true),[])
else
 some ((o19.2 0),[])
theorem KR(a0:V)(a1:V):P0 xY [.v a0,.v a1] []=Xg a0 a1:=
 pq (fn:=kq) (by kernel_rfl) (by kernel_rfl)
def wV(a0:V)(a1:Nat):Option (V×List V):=
(P0 yK [.v a0,.fn a1 []] []).bind fun r1=>(
  za .geq r1.1 (.int .i64 0)).bind fun x2=>
  some (x2,[])
theorem j6(a0:V)(a1:Nat):P0 z8 [.v a0,.fn a1 []] []=wV a0 a1:=
 pq (fn:=xy) (by kernel_rfl) (by kernel_rfl)
def zbr(a0:V):Option (V×List V):=
 tst (okN 11 a0) ((P0 jn [.v a0] []).bind fun r1=>(
  unV .not r1.1).bind fun x2=>
  some (x2,[]))
theorem ziP(a0:V):P0 wD [.v a0] []=zbr a0:=
 pq (fn:=VQ) (by kernel_rfl) (by kernel_rfl)
def zlB(a0:V):Option (V×List V):=
 tst (okN 11 a0) ((zc a0 2).bind fun c1=>(z6 c1).bind fun n2=>(P0 Ym [.v (XD a0 3 8)] []).bind fun r3=>(((zc a0 0).bind fun c4=>(((((za .eql c4 (.int .i64 4)).bind fun x5=>(
  asBool x5).bind fun b6=>
  if b6=true then
  some (3,(vec []))
else
(za .eql c4 (.int .i64 5)).bind fun x7=>(
  asBool x7).bind fun b8=>
  if b8=true then
  some (3,(vec []))
else
(za .eql c4 (.int .i64 1)).bind fun x9=>(
  asBool x9).bind fun b10=>
  if b10=true then
(
  asBool x9).bind fun b11=>
  if b11=true then
  some (0,(vec []))
else
(za .eql c4 (.int .i64 2)).bind fun x12=>(
  asBool x12).bind fun b13=>
  if b13=true then
  some (1,(vec []))
else
 some (2,(vec []))
else
(za .eql c4 (.int .i64 3)).bind fun x14=>(
  asBool x14).bind fun b15=>
  if b15=true then
(
  asBool x14).bind fun b16=>
  if b16=true then
  some (0,(vec []))
else
(za .eql c4 (.int .i64 2)).bind fun x17=>(
  asBool x17).bind fun b18=>
  if b18=true then
  some (1,(vec []))
else
 some (2,(vec []))
else
(za .eql c4 (.int .i64 6)).bind fun x19=>(
  asBool x19).bind fun b20=>
  if b20=true then
  some (0,(vec []))
else
(za .eql c4 (.int .i64 2)).bind fun x21=>(
  asBool x21).bind fun b22=>
  if b22=true then
  some (1,(vec []))
else
 some (2,(vec [])):Option (Nat×(Nat->V)))).bind fun o23=>
 if o23.1=0 then
 some (3,(vec [(.bool ((n2:Int)==0))]))
else
 if(o23.1-1)=0 then
 some (1,(vec [(.bool ((n2:Int)==0))]))
else
 if((o23.1-1)-1)=0 then
 some (2,(vec []))
else
(zc a0 2).bind fun c24=>(
  P0 jS [.v c24] []).bind fun r25=>
  some (0,(vec [r25.1])):Option (Nat×(Nat->V)))).bind fun o26=>
  if o26.1=0 then
  some (0,(vec [r3.1,(o26.2 0)]))
else
 if(o26.1-1)=0 then
 some (0,(vec [r3.1,(o26.2 0)]))
else
 if((o26.1-1)-1)=0 then
 some (1,(vec [.bool false]))
else
(
  P0 wC [.v (XD a0 3 8)] []).bind fun r27=>
  some (0,(vec [r27.1,(o26.2 0)])):Option (Nat×(Nat->V)))).bind fun o28=>
  if o28.1=0 then
(zc a0 1).bind fun c29=>(P0 jS [.v c29] []).bind fun r30=>(asBool r30.1).bind fun b31=>(
  (if b31=true then
  some (o28.2 1)
else some (.bool false):Option V)).bind fun x32=>(asBool x32).bind fun b33=>(
  (if b33=true then
  some (o28.2 0)
else some (.bool false):Option V)).bind fun x34=>some (x34,[])
else
 some ((o28.2 0),[]))
theorem zsC(a0:V):P0 jn [.v a0] []=zlB a0:=
 pq (fn:=zeL) (by kernel_rfl) (by kernel_rfl)
def kK(n15:Nat)(c14:V)(v16:Nat->V):Option ((Nat->V) ⊕ (Nat×(Nat->V))):=
(za .lss (v16 1) (.int .i64 ((n15:Nat):Int))).bind fun x17=>(
  asBool x17).bind fun b18=>
  if b18=true then
(yu 8 c14).bind fun l19=>(yQ (v16 1) (l19.length)).bind fun i20=>(
  l19[i20]?).bind fun e21=>
  tst (okN 8 e21) ((P0 vn [.v e21] []).bind fun r22=>(za .add (v16 0) r22.1).bind fun x23=>(
  za .add (v16 1) (.int .i64 1)).bind fun x24=>
  some (.inl (vec [x23,x24])))
else
 some (.inr (0,(vec [(v16 0)])))
def zaW(a0:V):Option (V×List V):=
 tst (okN 8 a0) ((((zc a0 0).bind fun c1=>(za .eql c1 (.int .i64 3)).bind fun x2=>(
  asBool x2).bind fun b3=>
  if b3=true then
(zc a0 3).bind fun c4=>(
  z6 c4).bind fun n5=>
  some (0,(vec [(.int .i64 (IntKind.wrap .i64 (1+((n5:Nat):Int))))]))
else
(((za .eql c1 (.int .i64 4)).bind fun x6=>(
  asBool x6).bind fun b7=>
  if b7=true then
  some (0,(vec [x6]))
else
(
  za .eql c1 (.int .i64 5)).bind fun x8=>
  some (0,(vec [x8])):Option (Nat×(Nat->V)))).bind fun o9=>(
  asBool (o9.2 0)).bind fun b10=>
  if b10=true then
(zc a0 5).bind fun c11=>(
  zaK c11).bind fun n12=>
  some (0,(vec [(.int .i64 (IntKind.wrap .i64 (1+((n12:Nat):Int))))]))
else
 some (0,(vec [.int .i64 1])):Option (Nat×(Nat->V)))).bind fun o13=>(zc a0 7).bind fun c14=>(z6 c14).bind fun n15=>(
  zq (kK n15 c14) (vec [(o13.2 0),.int .i64 0])).bind fun o25=>
  some ((o25.2 0),[]))
theorem zjV(a0:V):P0 vn [.v a0] []=zaW a0:=
 pq (fn:=Vt) (by kernel_rfl) (by kernel_rfl)
def ZN(n2:Nat)(c1:V)(v3:Nat->V):Option ((Nat->V) ⊕ (Nat×(Nat->V))):=
(za .lss (v3 1) (.int .i64 ((n2:Nat):Int))).bind fun x4=>(
  asBool x4).bind fun b5=>
  if b5=true then
(yu 8 c1).bind fun l6=>(yQ (v3 1) (l6.length)).bind fun i7=>(
  l6[i7]?).bind fun e8=>
  tst (okN 8 e8) ((P0 qg [.v e8] []).bind fun r9=>(za .add (v3 0) r9.1).bind fun x10=>(
  za .add (v3 1) (.int .i64 1)).bind fun x11=>
  some (.inl (vec [x10,x11])))
else
 some (.inr (0,(vec [(v3 0)])))
def zdO(a0:V):Option (V×List V):=
 tst (okN 8 a0) ((zc a0 7).bind fun c1=>(z6 c1).bind fun n2=>(
  zq (ZN n2 c1) (vec [.int .i64 1,.int .i64 0])).bind fun o12=>
  some ((o12.2 0),[]))
theorem zkl(a0:V):P0 qg [.v a0] []=zdO a0:=
 pq (fn:=Jb) (by kernel_rfl) (by kernel_rfl)
def Zu(n2:Nat)(c1:V)(v3:Nat->V):Option ((Nat->V) ⊕ (Nat×(Nat->V))):=
(za .lss (v3 1) (.int .i64 ((n2:Nat):Int))).bind fun x4=>(
  asBool x4).bind fun b5=>
  if b5=true then
(yu 8 c1).bind fun l6=>(yQ (v3 1) (l6.length)).bind fun i7=>(
  l6[i7]?).bind fun e8=>
  tst (okN 8 e8) ((P0 v7 [.v e8] []).bind fun r9=>(zjP (v3 0) [r9.1]).bind fun x10=>(
  za .add (v3 1) (.int .i64 1)).bind fun x11=>
  some (.inl (vec [x10,x11])))
else
 some (.inr (0,(vec [(v3 0)])))
def zdL(a0:V):Option (V×List V):=
 tst (okN 8 a0) ((zc a0 7).bind fun c1=>(z6 c1).bind fun n2=>(zq (Zu n2 c1) (vec [.int .i64 0,.int .i64 0])).bind fun o12=>(
  za .add (.int .i64 1) (o12.2 0)).bind fun x13=>
  some (x13,[]))
theorem zkL(a0:V):P0 v7 [.v a0] []=zdL a0:=
 pq (fn:=QN) (by kernel_rfl) (by kernel_rfl)
def zle(a0:V):Option (V×List V):=
 tst (okN 8 a0) ((zc a0 7).bind fun c1=>(z6 c1).bind fun n2=>((if(decide ((n2:Int)<=300))=true then
(zc a0 7).bind fun c3=>(P0 xb [.v c3,.fn jO []] []).bind fun r4=>(
  unV .not r4.1).bind fun x5=>
  some x5
else some (.bool false):Option V)).bind fun x6=>some (x6,[]))
theorem zr5(a0:V):P0 Z8 [.v a0] []=zle a0:=
 pq (fn:=zeX) (by kernel_rfl) (by kernel_rfl)
def KB(a0:V)(a1:V)(a2:V):Option (V×List V):=
(za6 true a2).bind fun x1=>(
  asBool x1).bind fun b2=>
  if b2=true then
(zz6 71 true a2).bind fun x3=>(zi x3 0).bind fun x4=>(
  zi x3 1).bind fun x5=>
  tst (okN 0 x4) ((unV .not x5).bind fun x6=>(
  asBool x6).bind fun b7=>
  if b7=true then
(za6 true a2).bind fun x8=>(
  asBool x8).bind fun b9=>
  if b9=true then
  none
else
 none
else
 some ((.tup []),[(.agg [.int .i64 0,.bool false,.bool false,.sl [],.int .i64 0,.str [],.sl [],.sl []]),.bool false]))
else
 some ((.tup []),[a0,a1])
theorem zcW(a0:V)(a1:V)(a2:V):P0 qK [.p 0 0,.p 1 0,.v a2] [(false,8,a0),(false,1,a1)]=KB a0 a1 a2:=
 pq (fn:=K3) (by kernel_rfl) (by kernel_rfl)
def kQ(a0:V)(a1:V):Option (V×List V):=
 tst (okN 8 a0) (tst (okN 11 a1) ((zc a1 0).bind fun c1=>(za .eql c1 (.int .i64 1)).bind fun x2=>(
  asBool x2).bind fun b3=>
  if b3=true then
(zc a1 1).bind fun c4=>(P0 XR [.v a0,.v c4,.v (XD a1 3 8)] []).bind fun r5=>(zi r5.1 0).bind fun x6=>(
  asBool x6).bind fun b7=>
  if b7=true then
(
  zi r5.1 1).bind fun x8=>
  tst (okN 8 x8) (some ((.tup [.bool true,x8]),[]))
else
(
  zi r5.1 1).bind fun x9=>
  some ((.tup [.bool false,x9]),[])
else
(za .eql c1 (.int .i64 2)).bind fun x10=>(
  asBool x10).bind fun b11=>
  if b11=true then
(zc a1 1).bind fun c12=>(P0 Zl [.v a0,.v c12] []).bind fun r13=>(zi r13.1 0).bind fun x14=>(
  asBool x14).bind fun b15=>
  if b15=true then
(
  zi r13.1 1).bind fun x16=>
  tst (okN 8 x16) (some ((.tup [.bool true,x16]),[]))
else
(
  zi r13.1 1).bind fun x17=>
  some ((.tup [.bool false,x17]),[])
else
(za .eql c1 (.int .i64 3)).bind fun x18=>(
  asBool x18).bind fun b19=>
  if b19=true then
(zc a1 1).bind fun c20=>(P0 Ze [.v a0,.v c20,.v (XD a1 3 8)] []).bind fun r21=>(zi r21.1 0).bind fun x22=>(
  asBool x22).bind fun b23=>
  if b23=true then
(
  zi r21.1 1).bind fun x24=>
  tst (okN 8 x24) (some ((.tup [.bool true,x24]),[]))
else
(
  zi r21.1 1).bind fun x25=>
  some ((.tup [.bool false,x25]),[])
else
(za .eql c1 (.int .i64 4)).bind fun x26=>(
  asBool x26).bind fun b27=>
  if b27=true then
(zc a1 2).bind fun c28=>(zc a1 1).bind fun c29=>(P0 Qw [.v a0,.v c28,.v c29] []).bind fun r30=>(zi r30.1 0).bind fun x31=>(
  asBool x31).bind fun b32=>
  if b32=true then
(
  zi r30.1 1).bind fun x33=>
  tst (okN 8 x33) (some ((.tup [.bool true,x33]),[]))
else
(
  zi r30.1 1).bind fun x34=>
  some ((.tup [.bool false,x34]),[])
else
(za .eql c1 (.int .i64 5)).bind fun x35=>(
  asBool x35).bind fun b36=>
  if b36=true then
(zc a1 1).bind fun c37=>(zc a1 2).bind fun c38=>(P0 qB [.v a0,.v c38] []).bind fun r39=>(zi r39.1 0).bind fun x40=>(
  asBool x40).bind fun b41=>
  if b41=true then
(zi r39.1 1).bind fun x42=>(P0 XR [.v a0,.v c37,.v x42] []).bind fun r43=>(zi r43.1 0).bind fun x44=>(
  asBool x44).bind fun b45=>
  if b45=true then
(
  zi r43.1 1).bind fun x46=>
  tst (okN 8 x46) (some ((.tup [.bool true,x46]),[]))
else
(
  zi r43.1 1).bind fun x47=>
  some ((.tup [.bool false,x47]),[])
else
(
  zi r39.1 1).bind fun x48=>
  some ((.tup [.bool false,x48]),[])
else
(zc a1 0).bind fun c49=>(za .eql c49 (.int .i64 6)).bind fun x50=>(
  asBool x50).bind fun b51=>
  if b51=true then
(
  asBool x50).bind fun b52=>
  if b52=true then
(
  asBool x50).bind fun b53=>
  if b53=true then
(zc a1 1).bind fun c54=>(
  asBool x50).bind fun b55=>
  if b55=true then
(
  asBool x50).bind fun b56=>
  if b56=true then
(
  asBool x50).bind fun b57=>
  if b57=true then
(P0 qB [.v a0,.v c54] []).bind fun r58=>(zi r58.1 0).bind fun x59=>(
  asBool x59).bind fun b60=>
  if b60=true then
(zi r58.1 1).bind fun x61=>(asBool x50).bind fun b62=>((if b62=true then
(
  P0 wc [.v x61,.v (XD a1 3 8)] []).bind fun r63=>
  some r63.1
else some (.bool false):Option V)).bind fun x64=>(P0 z7 [.v x64] []).bind fun r65=>(zi r65.1 0).bind fun x66=>(
  asBool x66).bind fun b67=>
  if b67=true then
(
  zi r65.1 1).bind fun x68=>
  tst (okN 8 a0) (some ((.tup [.bool true,a0]),[]))
else
(
  zi r65.1 1).bind fun x69=>
  some ((.tup [.bool false,x69]),[])
else
(
  zi r58.1 1).bind fun x70=>
  some ((.tup [.bool false,x70]),[])
else
(asBool x50).bind fun b71=>((if b71=true then
(P0 XS [.v a0,.v c54] []).bind fun r72=>(
  P0 wc [.v r72.1,.v (XD a1 3 8)] []).bind fun r73=>
  some r73.1
else some (.bool false):Option V)).bind fun x74=>(P0 z7 [.v x74] []).bind fun r75=>(zi r75.1 0).bind fun x76=>(
  asBool x76).bind fun b77=>
  if b77=true then
(
  zi r75.1 1).bind fun x78=>
  tst (okN 8 a0) (some ((.tup [.bool true,a0]),[]))
else
(
  zi r75.1 1).bind fun x79=>
  some ((.tup [.bool false,x79]),[])
else
(
  asBool x50).bind fun b80=>
  if b80=true then
(P0 qB [.v a0,.v c54] []).bind fun r81=>(zi r81.1 0).bind fun x82=>(
  asBool x82).bind fun b83=>
  if b83=true then
(zi r81.1 1).bind fun x84=>(asBool x50).bind fun b85=>(
  (if b85=true then
  none
else some (.bool false):Option V)).bind fun x86=>(P0 z7 [.v x86] []).bind fun r87=>(zi r87.1 0).bind fun x88=>(
  asBool x88).bind fun b89=>
  if b89=true then
(
  zi r87.1 1).bind fun x90=>
  tst (okN 8 a0) (some ((.tup [.bool true,a0]),[]))
else
(
  zi r87.1 1).bind fun x91=>
  some ((.tup [.bool false,x91]),[])
else
(
  zi r81.1 1).bind fun x92=>
  some ((.tup [.bool false,x92]),[])
else
(asBool x50).bind fun b93=>((if b93=true then
(
  P0 XS [.v a0,.v c54] []).bind fun r94=>
  none
else some (.bool false):Option V)).bind fun x95=>(P0 z7 [.v x95] []).bind fun r96=>(zi r96.1 0).bind fun x97=>(
  asBool x97).bind fun b98=>
  if b98=true then
(
  zi r96.1 1).bind fun x99=>
  tst (okN 8 a0) (some ((.tup [.bool true,a0]),[]))
else
(
  zi r96.1 1).bind fun x100=>
  some ((.tup [.bool false,x100]),[])
else
(
  asBool x50).bind fun b101=>
  if b101=true then
  none
else
(
  asBool x50).bind fun b102=>
  if b102=true then
(P0 qB [.v a0,.v c54] []).bind fun r103=>(zi r103.1 0).bind fun x104=>(
  asBool x104).bind fun b105=>
  if b105=true then
(zi r103.1 1).bind fun x106=>(asBool x50).bind fun b107=>(
  (if b107=true then
  none
else some (.bool false):Option V)).bind fun x108=>(P0 z7 [.v x108] []).bind fun r109=>(zi r109.1 0).bind fun x110=>(
  asBool x110).bind fun b111=>
  if b111=true then
(
  zi r109.1 1).bind fun x112=>
  tst (okN 8 a0) (some ((.tup [.bool true,a0]),[]))
else
(
  zi r109.1 1).bind fun x113=>
  some ((.tup [.bool false,x113]),[])
else
(
  zi r103.1 1).bind fun x114=>
  some ((.tup [.bool false,x114]),[])
else
(asBool x50).bind fun b115=>((if b115=true then
(
  P0 XS [.v a0,.v c54] []).bind fun r116=>
  none
else some (.bool false):Option V)).bind fun x117=>(P0 z7 [.v x117] []).bind fun r118=>(zi r118.1 0).bind fun x119=>(
  asBool x119).bind fun b120=>
  if b120=true then
(
  zi r118.1 1).bind fun x121=>
  tst (okN 8 a0) (some ((.tup [.bool true,a0]),[]))
else
(
  zi r118.1 1).bind fun x122=>
  some ((.tup [.bool false,x122]),[])
else
(
  asBool x50).bind fun b123=>
  if b123=true then
(
  asBool x50).bind fun b124=>
  if b124=true then
(
  asBool x50).bind fun b125=>
  if b125=true then
  none
else
(asBool x50).bind fun b126=>(
  (if b126=true then
  none
else some (.bool false):Option V)).bind fun x127=>(P0 z7 [.v x127] []).bind fun r128=>(zi r128.1 0).bind fun x129=>(
  asBool x129).bind fun b130=>
  if b130=true then
(
  zi r128.1 1).bind fun x131=>
  tst (okN 8 a0) (some ((.tup [.bool true,a0]),[]))
else
(
  zi r128.1 1).bind fun x132=>
  some ((.tup [.bool false,x132]),[])
else
(
  asBool x50).bind fun b133=>
  if b133=true then
  none
else
(asBool x50).bind fun b134=>(
  (if b134=true then
  none
else some (.bool false):Option V)).bind fun x135=>(P0 z7 [.v x135] []).bind fun r136=>(zi r136.1 0).bind fun x137=>(
  asBool x137).bind fun b138=>
  if b138=true then
(
  zi r136.1 1).bind fun x139=>
  tst (okN 8 a0) (some ((.tup [.bool true,a0]),[]))
else
(
  zi r136.1 1).bind fun x140=>
  some ((.tup [.bool false,x140]),[])
else
(
  asBool x50).bind fun b141=>
  if b141=true then
  none
else
(
  asBool x50).bind fun b142=>
  if b142=true then
  none
else
(asBool x50).bind fun b143=>(
  (if b143=true then
  none
else some (.bool false):Option V)).bind fun x144=>(P0 z7 [.v x144] []).bind fun r145=>(zi r145.1 0).bind fun x146=>(
  asBool x146).bind fun b147=>
  if b147=true then
(
  zi r145.1 1).bind fun x148=>
  tst (okN 8 a0) (some ((.tup [.bool true,a0]),[]))
else
(
  zi r145.1 1).bind fun x149=>
  some ((.tup [.bool false,x149]),[])
else
(
  asBool x50).bind fun b150=>
  if b150=true then
  none
else
(
  asBool x50).bind fun b151=>
  if b151=true then
(
  asBool x50).bind fun b152=>
  if b152=true then
(
  asBool x50).bind fun b153=>
  if b153=true then
  none
else
(asBool x50).bind fun b154=>(
  (if b154=true then
  none
else some (.bool false):Option V)).bind fun x155=>(P0 z7 [.v x155] []).bind fun r156=>(zi r156.1 0).bind fun x157=>(
  asBool x157).bind fun b158=>
  if b158=true then
(
  zi r156.1 1).bind fun x159=>
  tst (okN 8 a0) (some ((.tup [.bool true,a0]),[]))
else
(
  zi r156.1 1).bind fun x160=>
  some ((.tup [.bool false,x160]),[])
else
(
  asBool x50).bind fun b161=>
  if b161=true then
  none
else
(asBool x50).bind fun b162=>(
  (if b162=true then
  none
else some (.bool false):Option V)).bind fun x163=>(P0 z7 [.v x163] []).bind fun r164=>(zi r164.1 0).bind fun x165=>(
  asBool x165).bind fun b166=>
  if b166=true then
(
  zi r164.1 1).bind fun x167=>
  tst (okN 8 a0) (some ((.tup [.bool true,a0]),[]))
else
(
  zi r164.1 1).bind fun x168=>
  some ((.tup [.bool false,x168]),[])
else
(
  asBool x50).bind fun b169=>
  if b169=true then
  none
else
(
  asBool x50).bind fun b170=>
  if b170=true then
  none
else
(asBool x50).bind fun b171=>(
  (if b171=true then
  none
else some (.bool false):Option V)).bind fun x172=>(P0 z7 [.v x172] []).bind fun r173=>(zi r173.1 0).bind fun x174=>(
  asBool x174).bind fun b175=>
  if b175=true then
(
  zi r173.1 1).bind fun x176=>
  tst (okN 8 a0) (some ((.tup [.bool true,a0]),[]))
else
(
  zi r173.1 1).bind fun x177=>
  some ((.tup [.bool false,x177]),[])
else
(
  asBool x50).bind fun b178=>
  if b178=true then
(
  asBool x50).bind fun b179=>
  if b179=true then
(zc a1 1).bind fun c180=>(
  asBool x50).bind fun b181=>
  if b181=true then
(
  asBool x50).bind fun b182=>
  if b182=true then
(
  asBool x50).bind fun b183=>
  if b183=true then
  none
else
(asBool x50).bind fun b184=>(
  (if b184=true then
  none
else some (.bool false):Option V)).bind fun x185=>(P0 z7 [.v x185] []).bind fun r186=>(zi r186.1 0).bind fun x187=>(
  asBool x187).bind fun b188=>
  if b188=true then
(
  zi r186.1 1).bind fun x189=>
  tst (okN 8 a0) (some ((.tup [.bool true,a0]),[]))
else
(
  zi r186.1 1).bind fun x190=>
  some ((.tup [.bool false,x190]),[])
else
(
  asBool x50).bind fun b191=>
  if b191=true then
  none
else
(asBool x50).bind fun b192=>(
  (if b192=true then
  none
else some (.bool false):Option V)).bind fun x193=>(P0 z7 [.v x193] []).bind fun r194=>(zi r194.1 0).bind fun x195=>(
  asBool x195).bind fun b196=>
  if b196=true then
(
  zi r194.1 1).bind fun x197=>
  tst (okN 8 a0) (some ((.tup [.bool true,a0]),[]))
else
(
  zi r194.1 1).bind fun x198=>
  some ((.tup [.bool false,x198]),[])
else
(
  asBool x50).bind fun b199=>
  if b199=true then
  none
else
(
  asBool x50).bind fun b200=>
  if b200=true then
  none
else
(asBool x50).bind fun b201=>(
  (if b201=true then
  none
else some (.bool false):Option V)).bind fun x202=>(P0 z7 [.v x202] []).bind fun r203=>(zi r203.1 0).bind fun x204=>(
  asBool x204).bind fun b205=>
  if b205=true then
(
  zi r203.1 1).bind fun x206=>
  tst (okN 8 a0) (some ((.tup [.bool true,a0]),[]))
else
(
  zi r203.1 1).bind fun x207=>
  some ((.tup [.bool false,x207]),[])
else
(
  asBool x50).bind fun b208=>
  if b208=true then
(
  asBool x50).bind fun b209=>
  if b209=true then
(
  asBool x50).bind fun b210=>
  if b210=true then
  none
else
(asBool x50).bind fun b211=>(
  (if b211=true then
  none
else some (.bool false):Option V)).bind fun x212=>(P0 z7 [.v x212] []).bind fun r213=>(zi r213.1 0).bind fun x214=>(
  asBool x214).bind fun b215=>
  if b215=true then
(
  zi r213.1 1).bind fun x216=>
  tst (okN 8 a0) (some ((.tup [.bool true,a0]),[]))
else
(
  zi r213.1 1).bind fun x217=>
  some ((.tup [.bool false,x217]),[])
else
(
  asBool x50).bind fun b218=>
  if b218=true then
  none
else
(asBool x50).bind fun b219=>(
  (if b219=true then
  none
else some (.bool false):Option V)).bind fun x220=>(P0 z7 [.v x220] []).bind fun r221=>(zi r221.1 0).bind fun x222=>(
  asBool x222).bind fun b223=>
  if b223=true then
(
  zi r221.1 1).bind fun x224=>
  tst (okN 8 a0) (some ((.tup [.bool true,a0]),[]))
else
(
  zi r221.1 1).bind fun x225=>
  some ((.tup [.bool false,x225]),[])
else
(
  asBool x50).bind fun b226=>
  if b226=true then
  none
else
(
  asBool x50).bind fun b227=>
  if b227=true then
  none
else
(asBool x50).bind fun b228=>(
  (if b228=true then
  none
else some (.bool false):Option V)).bind fun x229=>(P0 z7 [.v x229] []).bind fun r230=>(zi r230.1 0).bind fun x231=>(
  asBool x231).bind fun b232=>
  if b232=true then
(
  zi r230.1 1).bind fun x233=>
  tst (okN 8 a0) (some ((.tup [.bool true,a0]),[]))
else
(
  zi r230.1 1).bind fun x234=>
  some ((.tup [.bool false,x234]),[])
else
(
  asBool x50).bind fun b235=>
  if b235=true then
  none
else
(
  asBool x50).bind fun b236=>
  if b236=true then
(
  asBool x50).bind fun b237=>
  if b237=true then
(
  asBool x50).bind fun b238=>
  if b238=true then
  none
else
(asBool x50).bind fun b239=>(
  (if b239=true then
  none
else some (.bool false):Option V)).bind fun x240=>(P0 z7 [.v x240] []).bind fun r241=>(zi r241.1 0).bind fun x242=>(
  asBool x242).bind fun b243=>
  if b243=true then
(
  zi r241.1 1).bind fun x244=>
  tst (okN 8 a0) (some ((.tup [.bool true,a0]),[]))
else
(
  zi r241.1 1).bind fun x245=>
  some ((.tup [.bool false,x245]),[])
else
(
  asBool x50).bind fun b246=>
  if b246=true then
  none
else
(asBool x50).bind fun b247=>(
  (if b247=true then
  none
else some (.bool false):Option V)).bind fun x248=>(P0 z7 [.v x248] []).bind fun r249=>(zi r249.1 0).bind fun x250=>(
  asBool x250).bind fun b251=>
  if b251=true then
(
  zi r249.1 1).bind fun x252=>
  tst (okN 8 a0) (some ((.tup [.bool true,a0]),[]))
else
(
  zi r249.1 1).bind fun x253=>
  some ((.tup [.bool false,x253]),[])
else
(
  asBool x50).bind fun b254=>
  if b254=true then
  none
else
(
  asBool x50).bind fun b255=>
  if b255=true then
  none
else
(asBool x50).bind fun b256=>(
  (if b256=true then
  none
else some (.bool false):Option V)).bind fun x257=>(P0 z7 [.v x257] []).bind fun r258=>(zi r258.1 0).bind fun x259=>(
  asBool x259).bind fun b260=>
  if b260=true then
(
  zi r258.1 1).bind fun x261=>
  tst (okN 8 a0) (some ((.tup [.bool true,a0]),[]))
else
(
  zi r258.1 1).bind fun x262=>
  some ((.tup [.bool false,x262]),[])))
theorem k9(a0:V)(a1:V):P0 wr [.v a0,.v a1] []=kQ a0 a1:=
 pq (fn:=zch) (by kernel_rfl) (by kernel_rfl)
def ZA(r6:V×List V)(a1:V)(v55:Nat->V):Option ((Nat->V) ⊕ (Nat×(Nat->V))):=
(za .quo r6.1 (.int .i64 12)).bind fun x56=>(za .rem x56 (.int .i64 4)).bind fun x57=>(za .lss (v55 1) x57).bind fun x58=>(
  asBool x58).bind fun b59=>
  if b59=true then
(za .sub a1 (.int .i64 1)).bind fun x60=>(P0 vf [.v (v55 0),.v x60] []).bind fun r61=>(zi r61.1 0).bind fun x62=>(
  zi r61.1 1).bind fun x63=>
  tst (okN 8 x62) (tst (okN 8 x62) (tst (yn 8 [x62]) (tst (qi 120 ((V.elems (v55 17)).length) (List.length (α:=V) [x62])) ((za .add (v55 1) (.int .i64 1)).bind fun x64=>
  some (.inl (vec [x63,x64,(v55 2),(v55 3),(v55 4),(.sl (V.elems (v55 5))),(v55 6),(v55 7),(.sl (V.elems (v55 8))),(.sl (V.elems (v55 9))),(v55 10),(v55 11),(v55 12),(.sl (V.elems (v55 13))),(v55 14),(v55 15),(.sl (V.elems (v55 16))),(.sl ((V.elems (v55 17))++([x62]:List V)))]))))))
else
 some (.inr (0,(vec [(v55 0),(v55 2),(v55 3),(v55 4),(.sl (V.elems (v55 5))),(v55 6),(v55 7),(.sl (V.elems (v55 8))),(.sl (V.elems (v55 9))),(v55 10),(v55 11),(v55 12),(.sl (V.elems (v55 13))),(v55 14),(v55 15),(.sl (V.elems (v55 16))),(.sl (V.elems (v55 17)))])))
def ZK(r6:V×List V)(a1:V)(v67:Nat->V):Option ((Nat->V) ⊕ (Nat×(Nat->V))):=
(za .quo r6.1 (.int .i64 12)).bind fun x68=>(za .rem x68 (.int .i64 4)).bind fun x69=>(za .lss (v67 1) x69).bind fun x70=>(
  asBool x70).bind fun b71=>
  if b71=true then
(za .sub a1 (.int .i64 1)).bind fun x72=>(P0 vf [.v (v67 0),.v x72] []).bind fun r73=>(zi r73.1 0).bind fun x74=>(
  zi r73.1 1).bind fun x75=>
  tst (okN 8 x74) ((P0 jd [.g] []).bind fun r76=>(slV r76.1).bind fun l77=>(za .quo r6.1 (.int .i64 48)).bind fun x78=>(za .mul (.int .i64 3) (v67 1)).bind fun x79=>(za .add x78 x79).bind fun x80=>(
  za .rem x80 (.int .i64 8)).bind fun x81=>
  tst (yn 1 l77) ((yQ x81 (l77.length)).bind fun i82=>(l77[i82]?).bind fun e83=>(zc e83 0).bind fun c84=>(
  P0 kZ [.v (.agg [(v67 10),(v67 11),(v67 12),(v67 13),(v67 14),(v67 15),(v67 16),(v67 17)]),.v c84,.v x74] []).bind fun r85=>
  tst (okN 8 r85.1) ((za .add (v67 1) (.int .i64 1)).bind fun x86=>(zc r85.1 0).bind fun c87=>(zc r85.1 1).bind fun c88=>(zc r85.1 2).bind fun c89=>(zc r85.1 3).bind fun c90=>(zc r85.1 4).bind fun c91=>(zc r85.1 5).bind fun c92=>(zc r85.1 6).bind fun c93=>(
  zc r85.1 7).bind fun c94=>
  some (.inl (vec [x75,x86,(v67 2),(v67 3),(v67 4),(.sl (V.elems (v67 5))),(v67 6),(v67 7),(.sl (V.elems (v67 8))),(.sl (V.elems (v67 9))),c87,c88,c89,c90,c91,c92,c93,c94])))))
else
 some (.inr (0,(vec [(v67 0),(v67 2),(v67 3),(v67 4),(.sl (V.elems (v67 5))),(v67 6),(v67 7),(.sl (V.elems (v67 8))),(.sl (V.elems (v67 9))),.agg [(v67 10),(v67 11),(v67 12),(v67 13),(v67 14),(v67 15),(v67 16),(v67 17)]])))
def zdb(a0:V)(a1:V):Option (V×List V):=
(
  z6 a0).bind fun n1=>
  if((n1:Int)==0)=true then
  some ((.tup [(.agg [.int .i64 1,.bool false,.bool false,.sl [],.int .i64 0,.str [],.sl [],.sl []]),.sl []]),[])
else
(yu 1 a0).bind fun l2=>(yQ (.int .i64 0) (l2.length)).bind fun i3=>(l2[i3]?).bind fun e4=>(zc e4 0).bind fun c5=>(P0 wE [.v c5,.v (.int .i64 1073741824)] []).bind fun r6=>(yu 1 a0).bind fun l7=>(WB (some (.int .i64 1)) none (l7.length)).bind fun q8=>(za .rem r6.1 (.int .i64 12)).bind fun x9=>(((za .leq a1 (.int .i64 0)).bind fun x10=>(asBool x10).bind fun b11=>((if b11=true then
(
  za .geq x9 (.int .i64 6)).bind fun x12=>
  some x12
else some (.bool false):Option V)).bind fun x13=>(
  asBool x13).bind fun b14=>
  if b14=true then
(
  za .sub x9 (.int .i64 6)).bind fun x15=>
  some (0,(vec [x15]))
else
 some (0,(vec [x9])):Option (Nat×(Nat->V)))).bind fun o16=>(((za .eql (o16.2 0) (.int .i64 0)).bind fun x17=>(
  asBool x17).bind fun b18=>
  if b18=true then
  some (1,(vec [(.sl ((l7.drop q8.1).take (q8.2-q8.1))),.int .i64 1,.bool false,.bool false,.sl [],.int .i64 0,.str [],.sl [],.sl []]))
else
(za .eql (o16.2 0) (.int .i64 1)).bind fun x19=>(
  asBool x19).bind fun b20=>
  if b20=true then
(za .quo r6.1 (.int .i64 12)).bind fun x21=>(za .rem x21 (.int .i64 2)).bind fun x22=>(
  za .eql x22 (.int .i64 1)).bind fun x23=>
  tst (okN 1 x23) ((zc x23 0).bind fun c24=>
  some (1,(vec [(.sl ((l7.drop q8.1).take (q8.2-q8.1))),.int .i64 2,c24,.bool false,.sl [],.int .i64 0,.str [],.sl [],.sl []])))
else
(((za .eql (o16.2 0) (.int .i64 2)).bind fun x25=>(
  asBool x25).bind fun b26=>
  if b26=true then
  some (0,(vec [x25,.int .i64 0,.bool false,.bool false,.sl [],.int .i64 0,.str [],.sl [],.sl []]))
else
(
  za .eql (o16.2 0) (.int .i64 3)).bind fun x27=>
  some (0,(vec [x27,.int .i64 0,.bool false,.bool false,.sl [],.int .i64 0,.str [],.sl [],.sl []])):Option (Nat×(Nat->V)))).bind fun o28=>(
  asBool (o28.2 0)).bind fun b29=>
  if b29=true then
(za .quo r6.1 (.int .i64 12)).bind fun x30=>(
  P0 qG [.v x30] []).bind fun r31=>
  tst (okN 3 r31.1) ((zc r31.1 0).bind fun c32=>(zc r31.1 1).bind fun c33=>(
  zc r31.1 2).bind fun c34=>
  some (1,(vec [(.sl ((l7.drop q8.1).take (q8.2-q8.1))),.int .i64 3,.bool false,c32,c33,c34,.str [],.sl [],.sl []])))
else
(za .eql (o16.2 0) (.int .i64 4)).bind fun x35=>(
  asBool x35).bind fun b36=>
  if b36=true then
(za .quo r6.1 (.int .i64 12)).bind fun x37=>(za .rem x37 (.int .i64 9)).bind fun x38=>(zoX false 9 1 (.agg [.int .i64 0,.int .i64 1,.int .i64 2,.int .i64 3,.int .i64 4,.int .i64 5,.int .i64 6,.int .i64 8,.int .i64 9]) x38).bind fun x39=>(
  zn6 (.str [97,98,99,34,92,10,195,169,122]) none (some x39)).bind fun x40=>
  tst (okN 1 x40) ((zc x40 0).bind fun c41=>
  some (1,(vec [(.sl ((l7.drop q8.1).take (q8.2-q8.1))),.int .i64 4,.bool false,.bool false,.sl [],.int .i64 0,c41,.sl [],.sl []])))
else
(za .eql (o16.2 0) (.int .i64 5)).bind fun x42=>(
  asBool x42).bind fun b43=>
  if b43=true then
(za .quo r6.1 (.int .i64 12)).bind fun x44=>(za .rem x44 (.int .i64 5)).bind fun x45=>(
  zn6 (.str [0,255,97,98]) none (some x45)).bind fun x46=>
  tst (okN 1 x46) ((zc x46 0).bind fun c47=>
  some (1,(vec [(.sl ((l7.drop q8.1).take (q8.2-q8.1))),.int .i64 5,.bool false,.bool false,.sl [],.int .i64 0,c47,.sl [],.sl []])))
else
(((za .eql (o16.2 0) (.int .i64 6)).bind fun x48=>(
  asBool x48).bind fun b49=>
  if b49=true then
  some (0,(vec [x48,(o28.2 1),(o28.2 2),(o28.2 3),(.sl (V.elems (o28.2 4))),(o28.2 5),(o28.2 6),(.sl (V.elems (o28.2 7))),(.sl (V.elems (o28.2 8)))]))
else
(za .eql (o16.2 0) (.int .i64 7)).bind fun x50=>(
  asBool x50).bind fun b51=>
  if b51=true then
  some (0,(vec [x50,(o28.2 1),(o28.2 2),(o28.2 3),(.sl (V.elems (o28.2 4))),(o28.2 5),(o28.2 6),(.sl (V.elems (o28.2 7))),(.sl (V.elems (o28.2 8)))]))
else
(
  za .eql (o16.2 0) (.int .i64 8)).bind fun x52=>
  some (0,(vec [x52,(o28.2 1),(o28.2 2),(o28.2 3),(.sl (V.elems (o28.2 4))),(o28.2 5),(o28.2 6),(.sl (V.elems (o28.2 7))),(.sl (V.elems (o28.2 8)))])):Option (Nat×(Nat->V)))).bind fun o53=>(
  asBool (o53.2 0)).bind fun b54=>
  if b54=true then
(
  zq (ZA r6 a1) (vec [(.sl ((l7.drop q8.1).take (q8.2-q8.1))),.int .i64 0,(o53.2 1),(o53.2 2),(o53.2 3),(.sl (V.elems (o53.2 4))),(o53.2 5),(o53.2 6),(.sl (V.elems (o53.2 7))),(.sl (V.elems (o53.2 8))),.int .i64 6,.bool false,.bool false,.sl [],.int .i64 0,.str [],.sl [],.sl []])).bind fun o65=>
  some (1,(vec [(o65.2 0),(o65.2 9),(o65.2 10),(o65.2 11),(.sl (V.elems (o65.2 12))),(o65.2 13),(o65.2 14),(.sl (V.elems (o65.2 15))),(.sl (V.elems (o65.2 16)))]))
else
 some (0,(vec [(.sl ((l7.drop q8.1).take (q8.2-q8.1))),(o53.2 1),(o53.2 2),(o53.2 3),(.sl (V.elems (o53.2 4))),(o53.2 5),(o53.2 6),(.sl (V.elems (o53.2 7))),(.sl (V.elems (o53.2 8)))])):Option (Nat×(Nat->V)))).bind fun o66=>
 if o66.1=0 then
(
  zq (ZK r6 a1) (vec [(o66.2 0),.int .i64 0,(o66.2 1),(o66.2 2),(o66.2 3),(.sl (V.elems (o66.2 4))),(o66.2 5),(o66.2 6),(.sl (V.elems (o66.2 7))),(.sl (V.elems (o66.2 8))),.int .i64 7,.bool false,.bool false,.sl [],.int .i64 0,.str [],.sl [],.sl []])).bind fun o95=>
  tst (okN 8 (o95.2 9)) (some ((.tup [(o95.2 9),(o95.2 0)]),[]))
else
 some ((.tup [.agg [(o66.2 1),(o66.2 2),(o66.2 3),(o66.2 4),(o66.2 5),(o66.2 6),(.sl (V.elems (o66.2 7))),(.sl (V.elems (o66.2 8)))],(o66.2 0)]),[])
theorem zkA(a0:V)(a1:V):P0 vf [.v a0,.v a1] []=zdb a0 a1:=
 pq (fn:=QM) (by kernel_rfl) (by kernel_rfl)
def zdK(a0:V)(a1:V):Option (V×List V):=
 tst (okN 3 a0) (tst (okN 3 a1) ((P0 kV [.v a0] []).bind fun r1=>(
  P0 kV [.v a1] []).bind fun r2=>
  tst (okN 3 r1.1) (tst (okN 3 r2.1) ((zc r1.1 0).bind fun c3=>(zc r2.1 0).bind fun c4=>(asBool c3).bind fun b5=>(asBool c4).bind fun b6=>((if(b5==b6)=true then
(zc r1.1 2).bind fun c7=>(zc r2.1 2).bind fun c8=>(
  za .eql c7 c8).bind fun x9=>
  some x9
else some (.bool false):Option V)).bind fun x10=>(asBool x10).bind fun b11=>((if b11=true then
(zc r1.1 1).bind fun c12=>(zc r2.1 1).bind fun c13=>(P0 Zi [.v c12,.v c13] []).bind fun r14=>(
  za .eql r14.1 (.int .i64 0)).bind fun x15=>
  some x15
else some (.bool false):Option V)).bind fun x16=>some (x16,[])))))
theorem zkN(a0:V)(a1:V):P0 j2 [.v a0,.v a1] []=zdK a0 a1:=
 pq (fn:=Jd) (by kernel_rfl) (by kernel_rfl)
def zbq(a0:V)(a1:V):Option (V×List V):=
 tst (okN 8 a0) ((((zc a0 0).bind fun c1=>(za .eql c1 (.int .i64 6)).bind fun x2=>(
  asBool x2).bind fun b3=>
  if b3=true then
(zc a0 7).bind fun c4=>(z6 c4).bind fun n5=>(P0 jm [.v a1,.v (.int .i64 (IntKind.wrap .i64 (((n5:Nat):Int)-1)))] []).bind fun r6=>(zi r6.1 0).bind fun x7=>(zi r6.1 1).bind fun x8=>(
  asBool x8).bind fun b9=>
  if b9=true then
(zc a0 7).bind fun c10=>(yu 8 c10).bind fun l11=>(yQ x7 (l11.length)).bind fun i12=>(
  l11[i12]?).bind fun e13=>
  tst (okN 8 e13) (some (1,(vec [.bool true,e13])))
else
 some (0,(vec [(.agg [.int .i64 0,.bool false,.bool false,.sl [],.int .i64 0,.str [],.sl [],.sl []])]))
else
 some (0,(vec [(.agg [.int .i64 0,.bool false,.bool false,.sl [],.int .i64 0,.str [],.sl [],.sl []])])):Option (Nat×(Nat->V)))).bind fun o14=>
 if o14.1=0 then
(P0 vB [.v a0,.v a1] []).bind fun r15=>(zi r15.1 0).bind fun x16=>(
  zi r15.1 1).bind fun x17=>
  tst (okN 8 x16) (some ((.tup [x16,x17]),[]))
else
 some ((.tup [(o14.2 1),(o14.2 0)]),[]))
theorem zhN(a0:V)(a1:V):P0 jf [.v a0,.v a1] []=zbq a0 a1:=
 pq (fn:=VM) (by kernel_rfl) (by kernel_rfl)
def qC(n13:Nat)(c12:V)(a1:V)(v14:Nat->V):Option ((Nat->V) ⊕ (Nat×(Nat->V))):=
(za .lss (v14 0) (.int .i64 ((n13:Nat):Int))).bind fun x15=>(
  asBool x15).bind fun b16=>
  if b16=true then
(yu 8 c12).bind fun l17=>(yQ (v14 0) (l17.length)).bind fun i18=>(
  l17[i18]?).bind fun e19=>
  tst (okN 8 e19) ((za .add a1 (.int .i64 1)).bind fun x20=>(P0 vi [.v e19,.v x20,.p 0 0] [(false,1,(v14 1))]).bind fun r21=>(r21.2[0]?).bind fun y22=>(unV .not r21.1).bind fun x23=>(
  asBool x23).bind fun b24=>
  if b24=true then
  some (.inr (1,(vec [.bool false,y22])))
else
(
  za .add (v14 0) (.int .i64 1)).bind fun x25=>
  some (.inl (vec [x25,y22])))
else
 some (.inr (0,(vec [(v14 1)])))
def zdi(a0:V)(a1:V)(a2:V):Option (V×List V):=
 tst (okN 8 a0) ((za .sub a2 (.int .i64 1)).bind fun x1=>
 tst (okN 1 x1) ((zc x1 0).bind fun c2=>(za .lss c2 (.int .i64 0)).bind fun x3=>(asBool x3).bind fun b4=>((if b4=false then
(
  za .gtr a1 (.int .i64 64)).bind fun x5=>
  some x5
else some (.bool true):Option V)).bind fun x6=>(asBool x6).bind fun b7=>((if b7=false then
(P0 kT [.v a0] []).bind fun r8=>(
  unV .not r8.1).bind fun x9=>
  some x9
else some (.bool true):Option V)).bind fun x10=>(
  asBool x10).bind fun b11=>
  if b11=true then
  some ((.bool false),[c2])
else
(zc a0 7).bind fun c12=>(z6 c12).bind fun n13=>(
  zq (qC n13 c12 a1) (vec [.int .i64 0,c2])).bind fun o26=>
  if o26.1=0 then
  some ((.bool true),[(o26.2 0)])
else
 some ((o26.2 0),[(o26.2 1)])))
theorem zk2(a0:V)(a1:V)(a2:V):P0 vi [.v a0,.v a1,.p 0 0] [(false,1,a2)]=zdi a0 a1 a2:=
 pq (fn:=QL) (by kernel_rfl) (by kernel_rfl)
def qw(a0:V)(a1:V)(v3:Nat->V):Option ((Nat->V) ⊕ (Nat×(Nat->V))):=
(z6 a0).bind fun n4=>(za .lss (v3 0) (.int .i64 ((n4:Nat):Int))).bind fun x5=>(
  asBool x5).bind fun b6=>
  if b6=true then
(yu 1 a0).bind fun l7=>(yQ (v3 0) (l7.length)).bind fun i9=>(l7[i9]?).bind fun e10=>(zc e10 0).bind fun c11=>(yu 1 a1).bind fun l12=>(yQ (v3 0) (l12.length)).bind fun i13=>(l12[i13]?).bind fun e14=>(zc e14 0).bind fun c15=>(za .neq c11 c15).bind fun x16=>(
  asBool x16).bind fun b17=>
  if b17=true then
  some (.inr (1,(vec [.bool false])))
else
(
  za .add (v3 0) (.int .i64 1)).bind fun x18=>
  some (.inl (vec [x18]))
else
 some (.inr (0,(vec [])))
def Vh(a0:V)(a1:V):Option (V×List V):=
(z6 a0).bind fun n1=>(
  z6 a1).bind fun n2=>
  if((n1:Int) != ((n2:Nat):Int))=true then
  some ((.bool false),[])
else
(
  zq (qw a0 a1) (vec [.int .i64 0])).bind fun o19=>
  if o19.1=0 then
  some ((.bool true),[])
else
 some ((o19.2 0),[])
theorem zb1(a0:V)(a1:V):P0 wL [.v a0,.v a1] []=Vh a0 a1:=
 pq (fn:=ZO) (by kernel_rfl) (by kernel_rfl)
def yW(n1:Nat)(a0:V)(a1:Nat)(v2:Nat->V):Option ((Nat->V) ⊕ (Nat×(Nat->V))):=
(za .lss (v2 0) (.int .i64 ((n1:Nat):Int))).bind fun x3=>(
  asBool x3).bind fun b4=>
  if b4=true then
(yu 11 a0).bind fun l5=>(yQ (v2 0) (l5.length)).bind fun i6=>(
  l5[i6]?).bind fun e7=>
  tst (Nat.blt a1 vo) ((P0 a1 [.v e7] []).bind fun r8=>(
  asBool r8.1).bind fun b9=>
  if b9=true then
  some (.inr (1,(vec [(v2 0)])))
else
(
  za .add (v2 0) (.int .i64 1)).bind fun x10=>
  some (.inl (vec [x10])))
else
 some (.inr (0,(vec [])))
def vP(a0:V)(a1:Nat):Option (V×List V):=
(z6 a0).bind fun n1=>(
  zq (yW n1 a0 a1) (vec [.int .i64 0])).bind fun o11=>
  if o11.1=0 then
  some ((.int .i64 (-1)),[])
else
 some ((o11.2 0),[])
theorem kS(a0:V)(a1:Nat):P0 yK [.v a0,.fn a1 []] []=vP a0 a1:=
 pq (fn:=xV) (by kernel_rfl) (by kernel_rfl)
def ziY(a0:V):Option (V×List V):=
 tst (okN 8 a0) ((zc a0 0).bind fun c1=>(za .eql c1 (.int .i64 0)).bind fun x2=>(asBool x2).bind fun b3=>((if b3=true then
(zc a0 1).bind fun c4=>(
  unV .not c4).bind fun x5=>
  some x5
else some (.bool false):Option V)).bind fun x6=>(asBool x6).bind fun b7=>((if b7=true then
(zc a0 2).bind fun c8=>(
  unV .not c8).bind fun x9=>
  some x9
else some (.bool false):Option V)).bind fun x10=>(asBool x10).bind fun b11=>((if b11=true then
(zc a0 3).bind fun c12=>(
  z6 c12).bind fun n13=>
  some (.bool ((n13:Int)==0))
else some (.bool false):Option V)).bind fun x14=>(asBool x14).bind fun b15=>((if b15=true then
(zc a0 4).bind fun c16=>(
  za .eql c16 (.int .i64 0)).bind fun x17=>
  some x17
else some (.bool false):Option V)).bind fun x18=>(asBool x18).bind fun b19=>((if b19=true then
(zc a0 5).bind fun c20=>(
  za .eql c20 (.str [])).bind fun x21=>
  some x21
else some (.bool false):Option V)).bind fun x22=>(asBool x22).bind fun b23=>((if b23=true then
(zc a0 6).bind fun c24=>(
  z6 c24).bind fun n25=>
  some (.bool ((n25:Int)==0))
else some (.bool false):Option V)).bind fun x26=>(asBool x26).bind fun b27=>((if b27=true then
(zc a0 7).bind fun c28=>(
  z6 c28).bind fun n29=>
  some (.bool ((n29:Int)==0))
else some (.bool false):Option V)).bind fun x30=>some (x30,[]))
theorem zoB(a0:V):P0 Ym [.v a0] []=ziY a0:=
 pq (fn:=zbA) (by kernel_rfl) (by kernel_rfl)
def zjD(a0:V):Option (V×List V):=
(z6 a0).bind fun n1=>((if(decide ((n1:Int)<=63))=true then
(P0 yO [.v a0,.fn qk []] []).bind fun r2=>(
  unV .not r2.1).bind fun x3=>
  some x3
else some (.bool false):Option V)).bind fun x4=>some (x4,[])
theorem zoJ(a0:V):P0 jS [.v a0] []=zjD a0:=
 pq (fn:=zbI) (by kernel_rfl) (by kernel_rfl)
def ky(a0:V)(a1:Nat):Option (V×List V):=
(P0 wk [.v a0,.fn a1 []] []).bind fun r1=>(
  za .geq r1.1 (.int .i64 0)).bind fun x2=>
  some (x2,[])
theorem WI(a0:V)(a1:Nat):P0 xb [.v a0,.fn a1 []] []=ky a0 a1:=
 pq (fn:=qr) (by kernel_rfl) (by kernel_rfl)
def zfX(a0:V):Option (V×List V):=
 tst (okN 8 a0) ((P0 Z8 [.v a0] []).bind fun r1=>(
  unV .not r1.1).bind fun x2=>
  some (x2,[]))
theorem znM(a0:V):P0 jO [.v a0] []=zfX a0:=
 pq (fn:=Ki) (by kernel_rfl) (by kernel_rfl)
def zmv(a0:V)(a1:V)(a2:V):Option (V×List V):=
 tst (okN 8 a0) (tst (okN 8 a2) ((z6 a1).bind fun n1=>
 if((n1:Int)==0)=true then
 tst (okN 8 a2) (some ((.tup [.bool true,a2]),[]))
else
(P0 jT [.v a1] []).bind fun r2=>(zi r2.1 0).bind fun x3=>(zi r2.1 1).bind fun x4=>(P0 qB [.v a0,.v x3] []).bind fun r5=>(zi r5.1 0).bind fun x6=>(
  asBool x6).bind fun b7=>
  if b7=true then
(
  zi r5.1 1).bind fun x8=>
  tst (okN 8 x8) ((zc x8 0).bind fun c9=>(za .eql c9 (.int .i64 7)).bind fun x10=>(
  asBool x10).bind fun b11=>
  if b11=true then
(P0 kX [.v x8,.v x4,.v a2] []).bind fun r12=>(P0 Ze [.v a0,.v x3,.v r12.1] []).bind fun r13=>(zi r13.1 0).bind fun x14=>(
  asBool x14).bind fun b15=>
  if b15=true then
(
  zi r13.1 1).bind fun x16=>
  tst (okN 8 x16) (some ((.tup [.bool true,x16]),[]))
else
(
  zi r13.1 1).bind fun x17=>
  some ((.tup [.bool false,x17]),[])
else
(za .eql c9 (.int .i64 6)).bind fun x18=>(
  asBool x18).bind fun b19=>
  if b19=true then
(zc x8 7).bind fun c20=>(z6 c20).bind fun n21=>(P0 xj [.v x4,.v (.int .i64 ((n21:Nat):Int))] []).bind fun r22=>(zi r22.1 0).bind fun x23=>(zi r22.1 1).bind fun x24=>(((za .eql x4 (.str [45])).bind fun x25=>(
  asBool x25).bind fun b26=>
  if b26=true then
(zc x8 7).bind fun c27=>(
  z6 c27).bind fun n28=>
  some (0,(vec [(.int .i64 ((n28:Nat):Int)),.bool true]))
else
 some (0,(vec [x23,x24])):Option (Nat×(Nat->V)))).bind fun o29=>(P0 z7 [.v (o29.2 1)] []).bind fun r30=>(zi r30.1 0).bind fun x31=>(
  asBool x31).bind fun b32=>
  if b32=true then
(zi r30.1 1).bind fun x33=>(zc x8 7).bind fun c34=>(yu 8 c34).bind fun l35=>(
  WB none (some (o29.2 0)) (l35.length)).bind fun q36=>
  tst (okN 8 a2) ((zc x8 7).bind fun c37=>(yu 8 c37).bind fun l38=>(WB (some (o29.2 0)) none (l38.length)).bind fun q39=>(
  P0 yZ [.v (.sl [(.sl ((l35.drop q36.1).take (q36.2-q36.1))),.sl [a2],(.sl ((l38.drop q39.1).take (q39.2-q39.1)))])] []).bind fun r40=>
  tst (okN 1 r40.1) ((zc r40.1 0).bind fun c41=>(P0 Ze [.v a0,.v x3,.v (.agg [.int .i64 6,.bool false,.bool false,.sl [],.int .i64 0,.str [],.sl [],c41])] []).bind fun r42=>(zi r42.1 0).bind fun x43=>(
  asBool x43).bind fun b44=>
  if b44=true then
(
  zi r42.1 1).bind fun x45=>
  tst (okN 8 x45) (some ((.tup [.bool true,x45]),[]))
else
(
  zi r42.1 1).bind fun x46=>
  some ((.tup [.bool false,x46]),[])))
else
(
  zi r30.1 1).bind fun x47=>
  some ((.tup [.bool false,x47]),[])
else
(za6 true (.iface 71 (.agg []))).bind fun x48=>(
  asBool x48).bind fun b49=>
  if b49=true then
  some ((.tup [.bool false,(.iface 71 (.agg []))]),[])
else
 none)
else
(
  zi r5.1 1).bind fun x50=>
  some ((.tup [.bool false,x50]),[])))
theorem zrZ(a0:V)(a1:V)(a2:V):P0 XR [.v a0,.v a1,.v a2] []=zmv a0 a1 a2:=
 pq (fn:=ze5) (by kernel_rfl) (by kernel_rfl)
def zdA(a0:V)(a1:V):Option (V×List V):=
 tst (okN 8 a0) ((z6 a1).bind fun n1=>(P0 z7 [.v (.bool (decide ((n1:Int)>0)))] []).bind fun r2=>(zi r2.1 0).bind fun x3=>(
  asBool x3).bind fun b4=>
  if b4=true then
(zi r2.1 1).bind fun x5=>(P0 qB [.v a0,.v a1] []).bind fun r6=>(zi r6.1 0).bind fun x7=>(
  asBool x7).bind fun b8=>
  if b8=true then
(zi r6.1 1).bind fun x9=>(P0 jT [.v a1] []).bind fun r10=>(zi r10.1 0).bind fun x11=>(zi r10.1 1).bind fun x12=>(P0 qB [.v a0,.v x11] []).bind fun r13=>(zi r13.1 0).bind fun x14=>(
  asBool x14).bind fun b15=>
  if b15=true then
(
  zi r13.1 1).bind fun x16=>
  tst (okN 8 x16) ((zc x16 0).bind fun c17=>(za .eql c17 (.int .i64 7)).bind fun x18=>(
  asBool x18).bind fun b19=>
  if b19=true then
(P0 kb [.v x16,.v x12] []).bind fun r20=>(P0 Ze [.v a0,.v x11,.v r20.1] []).bind fun r21=>(zi r21.1 0).bind fun x22=>(
  asBool x22).bind fun b23=>
  if b23=true then
(
  zi r21.1 1).bind fun x24=>
  tst (okN 8 x24) (some ((.tup [.bool true,x24]),[]))
else
(
  zi r21.1 1).bind fun x25=>
  some ((.tup [.bool false,x25]),[])
else
(zc x16 7).bind fun c26=>(z6 c26).bind fun n27=>(P0 xj [.v x12,.v (.int .i64 ((n27:Nat):Int))] []).bind fun r28=>(zi r28.1 0).bind fun x29=>(zi r28.1 1).bind fun x30=>(zc x16 7).bind fun c31=>(yu 8 c31).bind fun l32=>(WB none (some x29) (l32.length)).bind fun q33=>(zc x16 7).bind fun c34=>(za .add x29 (.int .i64 1)).bind fun x35=>(yu 8 c34).bind fun l36=>(WB (some x35) none (l36.length)).bind fun q37=>(
  P0 yZ [.v (.sl [(.sl ((l32.drop q33.1).take (q33.2-q33.1))),(.sl ((l36.drop q37.1).take (q37.2-q37.1)))])] []).bind fun r38=>
  tst (okN 1 r38.1) ((zc r38.1 0).bind fun c39=>(P0 Ze [.v a0,.v x11,.v (.agg [.int .i64 6,.bool false,.bool false,.sl [],.int .i64 0,.str [],.sl [],c39])] []).bind fun r40=>(zi r40.1 0).bind fun x41=>(
  asBool x41).bind fun b42=>
  if b42=true then
(
  zi r40.1 1).bind fun x43=>
  tst (okN 8 x43) (some ((.tup [.bool true,x43]),[]))
else
(
  zi r40.1 1).bind fun x44=>
  some ((.tup [.bool false,x44]),[])))
else
(
  zi r13.1 1).bind fun x45=>
  some ((.tup [.bool false,x45]),[])
else
(
  zi r6.1 1).bind fun x46=>
  some ((.tup [.bool false,x46]),[])
else
(
  zi r2.1 1).bind fun x47=>
  some ((.tup [.bool false,x47]),[]))
theorem zk0(a0:V)(a1:V):P0 Zl [.v a0,.v a1] []=zdA a0 a1:=
 pq (fn:=QQ) (by kernel_rfl) (by kernel_rfl)
def zlM(a0:V)(a1:V)(a2:V):Option (V×List V):=
 tst (okN 8 a0) (tst (okN 8 a2) ((P0 qu [.v a0,.v a1,.v a2] []).bind fun r1=>(zi r1.1 0).bind fun x2=>(
  zi r1.1 1).bind fun x3=>
  tst (okN 8 x2) ((P0 z7 [.v x3] []).bind fun r4=>(zi r4.1 0).bind fun x5=>(
  asBool x5).bind fun b6=>
  if b6=true then
(
  zi r4.1 1).bind fun x7=>
  tst (okN 8 x2) (some ((.tup [.bool true,x2]),[]))
else
(
  zi r4.1 1).bind fun x8=>
  some ((.tup [.bool false,x8]),[]))))
theorem zr4(a0:V)(a1:V)(a2:V):P0 Ze [.v a0,.v a1,.v a2] []=zlM a0 a1 a2:=
 pq (fn:=zeh) (by kernel_rfl) (by kernel_rfl)
def zjq(a0:V)(a1:V)(a2:V):Option (V×List V):=
 tst (okN 8 a0) ((P0 qB [.v a0,.v a1] []).bind fun r1=>(zi r1.1 0).bind fun x2=>(
  asBool x2).bind fun b3=>
  if b3=true then
(
  zi r1.1 1).bind fun x4=>
  tst (okN 8 x4) ((P0 yT [.v a1,.v a2] []).bind fun r5=>(
  asBool r5.1).bind fun b6=>
  if b6=true then
  tst (okN 8 a0) (some ((.tup [.bool true,a0]),[]))
else
(z6 a1).bind fun n7=>((if(decide ((n7:Int)>0))=true then
(P0 wm [.v a1,.v a2] []).bind fun r8=>(
  unV .not r8.1).bind fun x9=>
  some x9
else some (.bool false):Option V)).bind fun x10=>(P0 z7 [.v x10] []).bind fun r11=>(zi r11.1 0).bind fun x12=>(
  asBool x12).bind fun b13=>
  if b13=true then
(zi r11.1 1).bind fun x14=>(P0 Zl [.v a0,.v a1] []).bind fun r15=>(zi r15.1 0).bind fun x16=>(
  asBool x16).bind fun b17=>
  if b17=true then
(zi r15.1 1).bind fun x18=>(P0 XR [.v x18,.v a2,.v x4] []).bind fun r19=>(zi r19.1 0).bind fun x20=>(
  asBool x20).bind fun b21=>
  if b21=true then
(
  zi r19.1 1).bind fun x22=>
  tst (okN 8 x22) (some ((.tup [.bool true,x22]),[]))
else
(
  zi r19.1 1).bind fun x23=>
  some ((.tup [.bool false,x23]),[])
else
(
  zi r15.1 1).bind fun x24=>
  some ((.tup [.bool false,x24]),[])
else
(
  zi r11.1 1).bind fun x25=>
  some ((.tup [.bool false,x25]),[]))
else
(
  zi r1.1 1).bind fun x26=>
  some ((.tup [.bool false,x26]),[]))
theorem zo0(a0:V)(a1:V)(a2:V):P0 Qw [.v a0,.v a1,.v a2] []=zjq a0 a1 a2:=
 pq (fn:=zb5) (by kernel_rfl) (by kernel_rfl)
def zlW(a0:V)(a1:V):Option (V×List V):=
 tst (okN 8 a0) ((P0 jg [.v a0,.v a1] []).bind fun r1=>(zi r1.1 0).bind fun x2=>(
  zi r1.1 1).bind fun x3=>
  tst (okN 8 x2) ((P0 z7 [.v x3] []).bind fun r4=>(zi r4.1 0).bind fun x5=>(
  asBool x5).bind fun b6=>
  if b6=true then
(
  zi r4.1 1).bind fun x7=>
  tst (okN 8 x2) (some ((.tup [.bool true,x2]),[]))
else
(
  zi r4.1 1).bind fun x8=>
  some ((.tup [.bool false,x8]),[])))
theorem zrT(a0:V)(a1:V):P0 qB [.v a0,.v a1] []=zlW a0 a1:=
 pq (fn:=zeJ) (by kernel_rfl) (by kernel_rfl)
def ziw(a0:V):Option (V×List V):=
(unV .not a0).bind fun x1=>(
  asBool x1).bind fun b2=>
  if b2=true then
(za6 true (.iface 71 (.agg []))).bind fun x3=>(
  asBool x3).bind fun b4=>
  if b4=true then
  some ((.tup [.bool false,(.iface 71 (.agg []))]),[])
else
 none
else
 some ((.tup [.bool true,(.tup [])]),[])
theorem zoM(a0:V):P0 z7 [.v a0] []=ziw a0:=
 pq (fn:=zbJ) (by kernel_rfl) (by kernel_rfl)
def zfL(a0:V)(a1:V):Option (V×List V):=
 tst (okN 8 a0) (tst (okN 8 a1) ((zc a0 0).bind fun c1=>(zc a1 0).bind fun c2=>(za .neq c1 c2).bind fun x3=>(
  asBool x3).bind fun b4=>
  if b4=true then
  some ((.bool false),[])
else
(zc a0 0).bind fun c5=>(((za .eql c5 (.int .i64 2)).bind fun x6=>(
  asBool x6).bind fun b7=>
  if b7=true then
(zc a0 1).bind fun c8=>(zc a1 1).bind fun c9=>(asBool c8).bind fun b10=>(
  asBool c9).bind fun b11=>
  some (4,(vec [(.bool (b10==b11))]))
else
(za .eql c5 (.int .i64 3)).bind fun x12=>(
  asBool x12).bind fun b13=>
  if b13=true then
(
  P0 Yi [.v (XD a0 2 3),.v (XD a1 2 3)] []).bind fun r14=>
  some (4,(vec [r14.1]))
else
(za .eql c5 (.int .i64 4)).bind fun x15=>(
  asBool x15).bind fun b16=>
  if b16=true then
  some (3,(vec []))
else
(za .eql c5 (.int .i64 5)).bind fun x17=>(
  asBool x17).bind fun b18=>
  if b18=true then
  some (3,(vec []))
else
(za .eql c5 (.int .i64 7)).bind fun x19=>(
  asBool x19).bind fun b20=>
  if b20=true then
  some (1,(vec []))
else
(za .eql c5 (.int .i64 6)).bind fun x21=>(
  asBool x21).bind fun b22=>
  if b22=true then
  some (2,(vec []))
else
 some (0,(vec [])):Option (Nat×(Nat->V)))).bind fun o23=>
 if o23.1=0 then
 some ((.bool true),[])
else
 if(o23.1-1)=0 then
(zc a0 6).bind fun c24=>(zc a1 6).bind fun c25=>(P0 yT [.v c24,.v c25] []).bind fun r26=>(asBool r26.1).bind fun b27=>((if b27=true then
(zc a0 7).bind fun c28=>(zc a1 7).bind fun c29=>(
  P0 xd [.v c28,.v c29,.fn wc []] []).bind fun r30=>
  some r30.1
else some (.bool false):Option V)).bind fun x31=>some (x31,[])
else
 if((o23.1-1)-1)=0 then
(zc a0 7).bind fun c32=>(zc a1 7).bind fun c33=>(
  P0 xd [.v c32,.v c33,.fn wc []] []).bind fun r34=>
  some (r34.1,[])
else
 if(((o23.1-1)-1)-1)=0 then
(zc a0 5).bind fun c35=>(zc a1 5).bind fun c36=>(
  za .eql c35 c36).bind fun x37=>
  some (x37,[])
else
 some ((o23.2 0),[])))
theorem znd(a0:V)(a1:V):P0 wc [.v a0,.v a1] []=zfL a0 a1:=
 pq (fn:=JZ) (by kernel_rfl) (by kernel_rfl)
def vm(a0:V)(a1:V)(a2:V)(x3:V)(v4:Nat->V):Option ((Nat->V) ⊕ (Nat×(Nat->V))):=
(zc a0 6).bind fun c5=>(z6 c5).bind fun n6=>(za .lss (v4 1) (.int .i64 ((n6:Nat):Int))).bind fun x7=>(asBool x7).bind fun b8=>((if b8=true then
(zc a0 7).bind fun c9=>(z6 c9).bind fun n10=>(
  za .lss (v4 1) (.int .i64 ((n10:Nat):Int))).bind fun x11=>
  some x11
else some (.bool false):Option V)).bind fun x12=>(asBool x12).bind fun b13=>((if b13=true then
(zc a0 0).bind fun c14=>(
  za .eql c14 (.int .i64 7)).bind fun x15=>
  some x15
else some (.bool false):Option V)).bind fun x16=>(
  asBool x16).bind fun b17=>
  if b17=true then
(unV .not (v4 0)).bind fun x18=>(asBool x18).bind fun b19=>((if b19=true then
(zc a0 6).bind fun c20=>(yu 1 c20).bind fun l21=>(yQ (v4 1) (l21.length)).bind fun i22=>(l21[i22]?).bind fun e23=>(zc e23 0).bind fun c24=>(
  za .eql c24 a1).bind fun x25=>
  some x25
else some (.bool false):Option V)).bind fun x26=>(
  asBool x26).bind fun b27=>
  if b27=true then
  tst (okN 1 a1) ((zc a1 0).bind fun c28=>
  tst (yn 1 [c28]) (tst (qi 16 ((V.elems (v4 8)).length) (List.length (α:=V) [c28])) (tst (okN 8 a2) (tst (yn 8 [a2]) (tst (qi 120 ((V.elems (v4 9)).length) (List.length (α:=V) [a2])) ((za .add (v4 1) (.int .i64 1)).bind fun x29=>
  some (.inl (vec [.bool true,x29,(v4 2),(v4 3),(v4 4),(.sl (V.elems (v4 5))),(v4 6),(v4 7),(.sl ((V.elems (v4 8))++([c28]:List V))),(.sl ((V.elems (v4 9))++([a2]:List V)))]))))))))
else
(unV .not (v4 0)).bind fun x30=>(asBool x30).bind fun b31=>((if b31=true then
(
  unV .not x3).bind fun x32=>
  some x32
else some (.bool false):Option V)).bind fun x33=>(asBool x33).bind fun b34=>((if b34=true then
(zc a0 6).bind fun c35=>(yu 1 c35).bind fun l36=>(yQ (v4 1) (l36.length)).bind fun i37=>(l36[i37]?).bind fun e38=>(zc e38 0).bind fun c39=>(
  za .gtr c39 a1).bind fun x40=>
  some x40
else some (.bool false):Option V)).bind fun x41=>(
  asBool x41).bind fun b42=>
  if b42=true then
  tst (okN 1 a1) ((zc a1 0).bind fun c43=>
  tst (yn 1 [c43]) (tst (qi 16 ((V.elems (v4 8)).length) (List.length (α:=V) [c43])) (tst (okN 8 a2) (tst (yn 8 [a2]) (tst (qi 120 ((V.elems (v4 9)).length) (List.length (α:=V) [a2])) ((zc a0 6).bind fun c44=>(yu 1 c44).bind fun l45=>(yQ (v4 1) (l45.length)).bind fun i46=>(l45[i46]?).bind fun e47=>(
  zc e47 0).bind fun c48=>
  tst (okN 1 c48) ((zc c48 0).bind fun c49=>
  tst (yn 1 [c49]) (tst (qi 16 (((V.elems (v4 8))++([c43]:List V)).length) (List.length (α:=V) [c49])) ((zc a0 7).bind fun c50=>(yu 8 c50).bind fun l51=>(yQ (v4 1) (l51.length)).bind fun i52=>(
  l51[i52]?).bind fun e53=>
  tst (okN 8 e53) (tst (yn 8 [e53]) (tst (qi 120 (((V.elems (v4 9))++([a2]:List V)).length) (List.length (α:=V) [e53])) ((za .add (v4 1) (.int .i64 1)).bind fun x54=>
  some (.inl (vec [.bool true,x54,(v4 2),(v4 3),(v4 4),(.sl (V.elems (v4 5))),(v4 6),(v4 7),(.sl (((V.elems (v4 8))++([c43]:List V))++([c49]:List V))),(.sl (((V.elems (v4 9))++([a2]:List V))++([e53]:List V)))]))))))))))))))
else
(zc a0 6).bind fun c55=>(yu 1 c55).bind fun l56=>(yQ (v4 1) (l56.length)).bind fun i57=>(l56[i57]?).bind fun e58=>(
  zc e58 0).bind fun c59=>
  tst (okN 1 c59) ((zc c59 0).bind fun c60=>
  tst (yn 1 [c60]) (tst (qi 16 ((V.elems (v4 8)).length) (List.length (α:=V) [c60])) ((zc a0 7).bind fun c61=>(yu 8 c61).bind fun l62=>(yQ (v4 1) (l62.length)).bind fun i63=>(
  l62[i63]?).bind fun e64=>
  tst (okN 8 e64) (tst (yn 8 [e64]) (tst (qi 120 ((V.elems (v4 9)).length) (List.length (α:=V) [e64])) ((za .add (v4 1) (.int .i64 1)).bind fun x65=>
  some (.inl (vec [(v4 0),x65,(v4 2),(v4 3),(v4 4),(.sl (V.elems (v4 5))),(v4 6),(v4 7),(.sl ((V.elems (v4 8))++([c60]:List V))),(.sl ((V.elems (v4 9))++([e64]:List V)))]))))))))
else
 some (.inr (0,(vec [(v4 0),(v4 2),(v4 3),(v4 4),(.sl (V.elems (v4 5))),(v4 6),(v4 7),(.sl (V.elems (v4 8))),(.sl (V.elems (v4 9)))])))
def zfW(a0:V)(a1:V)(a2:V):Option (V×List V):=
 tst (okN 8 a0) (tst (okN 8 a2) ((P0 vB [.v a0,.v a1] []).bind fun r1=>(zi r1.1 0).bind fun x2=>(
  zi r1.1 1).bind fun x3=>
  tst (okN 8 x2) ((zq (vm a0 a1 a2 x3) (vec [.bool false,.int .i64 0,.int .i64 7,.bool false,.bool false,.sl [],.int .i64 0,.str [],.sl [],.sl []])).bind fun o66=>(unV .not (o66.2 0)).bind fun x67=>(
  asBool x67).bind fun b68=>
  if b68=true then
  tst (okN 1 a1) ((zc a1 0).bind fun c69=>
  tst (yn 1 [c69]) (tst (qi 16 ((V.elems (o66.2 7)).length) (List.length (α:=V) [c69])) (tst (okN 8 a2) (tst (yn 8 [a2]) (tst (qi 120 ((V.elems (o66.2 8)).length) (List.length (α:=V) [a2])) (some ((.agg [(o66.2 1),(o66.2 2),(o66.2 3),(.sl (V.elems (o66.2 4))),(o66.2 5),(o66.2 6),(.sl ((V.elems (o66.2 7))++([c69]:List V))),(.sl ((V.elems (o66.2 8))++([a2]:List V)))]),[])))))))
else
 some ((.agg [(o66.2 1),(o66.2 2),(o66.2 3),(.sl (V.elems (o66.2 4))),(o66.2 5),(o66.2 6),(.sl (V.elems (o66.2 7))),(.sl (V.elems (o66.2 8)))]),[]))))
theorem zmN(a0:V)(a1:V)(a2:V):P0 kZ [.v a0,.v a1,.v a2] []=zfW a0 a1 a2:=
 pq (fn:=K5) (by kernel_rfl) (by kernel_rfl)
def xZ(a0:V)(v12:Nat->V):Option ((Nat->V) ⊕ (Nat×(Nat->V))):=
(zaK a0).bind fun n13=>(za .lss (v12 1) (.int .i64 ((n13:Nat):Int))).bind fun x14=>(
  asBool x14).bind fun b15=>
  if b15=true then
(ZQ a0 (v12 1)).bind fun x16=>(za .lss x16 (.int .u8 48)).bind fun x17=>(asBool x17).bind fun b18=>((if b18=false then
(ZQ a0 (v12 1)).bind fun x19=>(
  za .gtr x19 (.int .u8 57)).bind fun x20=>
  some x20
else some (.bool true):Option V)).bind fun x21=>(
  asBool x21).bind fun b22=>
  if b22=true then
  some (.inr (1,(vec [.int .i64 0,.bool false])))
else
(za .mul (.int .i64 10) (v12 0)).bind fun x23=>(ZQ a0 (v12 1)).bind fun x24=>(za .sub x24 (.int .u8 48)).bind fun x25=>(ju .i64 x25).bind fun x26=>(za .add x23 x26).bind fun x27=>(
  za .add (v12 1) (.int .i64 1)).bind fun x28=>
  some (.inl (vec [x27,x28]))
else
 some (.inr (0,(vec [(v12 0)])))
def zbh(a0:V)(a1:V):Option (V×List V):=
(zaK a0).bind fun n1=>((if(decide ((n1:Int)<1))=false then
(
  zaK a0).bind fun n2=>
  some (.bool (decide ((n2:Int)>4)))
else some (.bool true):Option V)).bind fun x3=>(asBool x3).bind fun b4=>((if b4=false then
(ZQ a0 (.int .i64 0)).bind fun x5=>(za .eql x5 (.int .u8 48)).bind fun x6=>(asBool x6).bind fun b7=>((if b7=true then
(
  zaK a0).bind fun n8=>
  some (.bool (decide ((n8:Int)>1)))
else some (.bool false):Option V)).bind fun x9=>some x9
else some (.bool true):Option V)).bind fun x10=>(
  asBool x10).bind fun b11=>
  if b11=true then
  some ((.tup [.int .i64 0,.bool false]),[])
else
(
  zq (xZ a0) (vec [.int .i64 0,.int .i64 0])).bind fun o29=>
  if o29.1=0 then
(za .gtr (o29.2 0) a1).bind fun x30=>(
  asBool x30).bind fun b31=>
  if b31=true then
  some ((.tup [.int .i64 0,.bool false]),[])
else
 some ((.tup [(o29.2 0),.bool true]),[])
else
 some ((.tup [(o29.2 0),(o29.2 1)]),[])
theorem ziQ(a0:V)(a1:V):P0 jm [.v a0,.v a1] []=zbh a0 a1:=
 pq (fn:=Vv) (by kernel_rfl) (by kernel_rfl)
def KE(a0:V):Option (V×List V):=
(za .rem a0 (.int .i64 5)).bind fun x1=>(za .eql x1 (.int .i64 0)).bind fun x2=>(
  asBool x2).bind fun b3=>
  if b3=true then
(za .quo a0 (.int .i64 5)).bind fun x4=>(za .rem x4 (.int .i64 60)).bind fun x5=>(za .sub x5 (.int .i64 20)).bind fun x6=>(
  P0 kO [.v x6] []).bind fun r7=>
  tst (okN 3 r7.1) (some (r7.1,[]))
else
(za .eql x1 (.int .i64 1)).bind fun x8=>(
  asBool x8).bind fun b9=>
  if b9=true then
(za .quo a0 (.int .i64 5)).bind fun x10=>(za .rem x10 (.int .i64 2)).bind fun x11=>(za .eql x11 (.int .i64 1)).bind fun x12=>(za .quo a0 (.int .i64 10)).bind fun x13=>(za .rem x13 (.int .i64 2000)).bind fun x14=>(
  ju .u32 x14).bind fun x15=>
  tst (okN 1 x15) ((zc x15 0).bind fun c16=>(za .quo a0 (.int .i64 7)).bind fun x17=>(za .rem x17 (.int .i64 9)).bind fun x18=>(za .sub x18 (.int .i64 5)).bind fun x19=>(P0 w6 [.v x12,.v (.sl [c16]),.v x19] []).bind fun r20=>(zi r20.1 0).bind fun x21=>(
  zi r20.1 1).bind fun x22=>
  tst (okN 3 x21) (tst (okN 3 x21) (some (x21,[]))))
else
(za .eql x1 (.int .i64 2)).bind fun x23=>(
  asBool x23).bind fun b24=>
  if b24=true then
(ju .u32 a0).bind fun x25=>(za .quo a0 (.int .i64 3)).bind fun x26=>(ju .u32 x26).bind fun x27=>(za .rem a0 (.int .i64 7)).bind fun x28=>(
  ju .u32 x28).bind fun x29=>
  tst (okN 1 x25) ((zc x25 0).bind fun c30=>
  tst (okN 1 x27) ((zc x27 0).bind fun c31=>
  tst (okN 1 x29) ((zc x29 0).bind fun c32=>(P0 w6 [.v (.bool false),.v (.sl [c30,c31,c32]),.v (.int .i64 0)] []).bind fun r33=>(zi r33.1 0).bind fun x34=>(
  zi r33.1 1).bind fun x35=>
  tst (okN 3 x34) (tst (okN 3 x34) (some (x34,[]))))))
else
(za .eql x1 (.int .i64 3)).bind fun x36=>(
  asBool x36).bind fun b37=>
  if b37=true then
(za .rem a0 (.int .i64 2)).bind fun x38=>(za .eql x38 (.int .i64 1)).bind fun x39=>(
  ju .u32 a0).bind fun x40=>
  tst (okN 1 x40) ((zc x40 0).bind fun c41=>(za .quo a0 (.int .i64 5)).bind fun x42=>(za .rem x42 (.int .i64 30)).bind fun x43=>(unV .neg x43).bind fun x44=>(P0 w6 [.v x39,.v (.sl [.int .u32 5,c41]),.v x44] []).bind fun r45=>(zi r45.1 0).bind fun x46=>(
  zi r45.1 1).bind fun x47=>
  tst (okN 3 x46) (tst (okN 3 x46) (some (x46,[]))))
else
(
  P0 kO [.v a0] []).bind fun r48=>
  tst (okN 3 r48.1) (some (r48.1,[]))
theorem zgB(a0:V):P0 qG [.v a0] []=KE a0:=
 pq (fn:=Wo) (by kernel_rfl) (by kernel_rfl)
def zkd:Option (V×List V):=
 tst (yn 1 [.str [97],.str [98],.str [99],.str [100,100],.str [101],.str [],.str [120,47,121],.str [122,126]]) (some ((.sl [.str [97],.str [98],.str [99],.str [100,100],.str [101],.str [],.str [120,47,121],.str [122,126]]),[]))
theorem zjh:P0 jd [.g] []=zkd:=
 pq (fn:=za2) (by kernel_rfl) (by kernel_rfl)
def ziB(a0:V):Option (V×List V):=
 tst (okN 3 a0) ((P0 je [.v a0] []).bind fun r1=>(
  asBool r1.1).bind fun b2=>
  if b2=true then
  tst (okN 3 a0) (some (a0,[]))
else
 some ((.agg [.bool false,.sl [],.int .i64 0]),[]))
theorem zp5(a0:V):P0 kV [.v a0] []=ziB a0:=
 pq (fn:=zbV) (by kernel_rfl) (by kernel_rfl)
def jl(a0:V)(a1:V)(v5:Nat->V):Option ((Nat->V) ⊕ (Nat×(Nat->V))):=
(za .geq (v5 0) (.int .i64 0)).bind fun x6=>(
  asBool x6).bind fun b7=>
  if b7=true then
(P0 wY [.v a0,.v (v5 0)] []).bind fun r8=>(P0 wY [.v a1,.v (v5 0)] []).bind fun r9=>(za .lss r8.1 r9.1).bind fun x10=>(
  asBool x10).bind fun b11=>
  if b11=true then
  some (.inr (1,(vec [(.int .i64 (-1))])))
else
(P0 wY [.v a0,.v (v5 0)] []).bind fun r12=>(P0 wY [.v a1,.v (v5 0)] []).bind fun r13=>(za .gtr r12.1 r13.1).bind fun x14=>(
  asBool x14).bind fun b15=>
  if b15=true then
  some (.inr (1,(vec [.int .i64 1])))
else
(
  za .sub (v5 0) (.int .i64 1)).bind fun x16=>
  some (.inl (vec [x16]))
else
 some (.inr (0,(vec [])))
def zfK(a0:V)(a1:V):Option (V×List V):=
(z6 a0).bind fun n1=>(z6 a1).bind fun n2=>(zjP (.int .i64 ((n1:Nat):Int)) [(.int .i64 ((n2:Nat):Int))]).bind fun x3=>(za .sub x3 (.int .i64 1)).bind fun x4=>(
  zq (jl a0 a1) (vec [x4])).bind fun o17=>
  if o17.1=0 then
  some ((.int .i64 0),[])
else
 some ((o17.2 0),[])
theorem znq(a0:V)(a1:V):P0 Zi [.v a0,.v a1] []=zfK a0 a1:=
 pq (fn:=Ko) (by kernel_rfl) (by kernel_rfl)
def wq(a0:V)(a1:V)(v1:Nat->V):Option ((Nat->V) ⊕ (Nat×(Nat->V))):=
(zc a0 6).bind fun c2=>(z6 c2).bind fun n3=>(za .lss (v1 0) (.int .i64 ((n3:Nat):Int))).bind fun x4=>(asBool x4).bind fun b5=>((if b5=true then
(zc a0 7).bind fun c6=>(z6 c6).bind fun n7=>(
  za .lss (v1 0) (.int .i64 ((n7:Nat):Int))).bind fun x8=>
  some x8
else some (.bool false):Option V)).bind fun x9=>(asBool x9).bind fun b10=>((if b10=true then
(zc a0 0).bind fun c11=>(
  za .eql c11 (.int .i64 7)).bind fun x12=>
  some x12
else some (.bool false):Option V)).bind fun x13=>(
  asBool x13).bind fun b14=>
  if b14=true then
(zc a0 6).bind fun c15=>(yu 1 c15).bind fun l16=>(yQ (v1 0) (l16.length)).bind fun i17=>(l16[i17]?).bind fun e18=>(zc e18 0).bind fun c19=>(za .eql c19 a1).bind fun x20=>(
  asBool x20).bind fun b21=>
  if b21=true then
(zc a0 7).bind fun c22=>(yu 8 c22).bind fun l23=>(yQ (v1 0) (l23.length)).bind fun i24=>(
  l23[i24]?).bind fun e25=>
  tst (okN 8 e25) (some (.inr (1,(vec [.bool true,e25]))))
else
(
  za .add (v1 0) (.int .i64 1)).bind fun x26=>
  some (.inl (vec [x26,(v1 1),(v1 2),(v1 3),(v1 4),(v1 5),(v1 6),(v1 7),(v1 8)]))
else
 some (.inr (0,(vec [.agg [(v1 1),(v1 2),(v1 3),(v1 4),(v1 5),(v1 6),(v1 7),(v1 8)]])))
def J7(a0:V)(a1:V):Option (V×List V):=
 tst (okN 8 a0) ((zq (wq a0 a1) (vec [.int .i64 0,.int .i64 0,.bool false,.bool false,.sl [],.int .i64 0,.str [],.sl [],.sl []])).bind fun o27=>
 if o27.1=0 then
 some ((.tup [(.agg [.int .i64 0,.bool false,.bool false,.sl [],.int .i64 0,.str [],.sl [],.sl []]),.bool false]),[])
else
 some ((.tup [(o27.2 1),(o27.2 0)]),[]))
theorem zgD(a0:V)(a1:V):P0 vB [.v a0,.v a1] []=J7 a0 a1:=
 pq (fn:=Wi) (by kernel_rfl) (by kernel_rfl)
def zhW(a0:V):Option (V×List V):=
 tst (okN 8 a0) ((zc a0 1).bind fun c1=>(unV .not c1).bind fun x2=>(zc a0 2).bind fun c3=>(unV .not c3).bind fun x4=>(asBool x4).bind fun b5=>((if b5=true then
(zc a0 3).bind fun c6=>(
  z6 c6).bind fun n7=>
  some (.bool ((n7:Int)==0))
else some (.bool false):Option V)).bind fun x8=>(asBool x8).bind fun b9=>((if b9=true then
(zc a0 4).bind fun c10=>(
  za .eql c10 (.int .i64 0)).bind fun x11=>
  some x11
else some (.bool false):Option V)).bind fun x12=>(zc a0 5).bind fun c13=>(za .eql c13 (.str [])).bind fun x14=>(zc a0 6).bind fun c15=>(z6 c15).bind fun n16=>(zc a0 7).bind fun c17=>(z6 c17).bind fun n18=>(((zc a0 0).bind fun c19=>(((za .eql c19 (.int .i64 1)).bind fun x20=>(
  asBool x20).bind fun b21=>
  if b21=true then
  some (0,(vec [x2,x12,x14,(.bool ((n16:Int)==0))]))
else
(za .eql c19 (.int .i64 2)).bind fun x22=>(
  asBool x22).bind fun b23=>
  if b23=true then
  some (0,(vec [.bool true,x12,x14,(.bool ((n16:Int)==0))]))
else
(za .eql c19 (.int .i64 3)).bind fun x24=>(
  asBool x24).bind fun b25=>
  if b25=true then
(
  P0 jK [.v (XD a0 2 3)] []).bind fun r26=>
  some (0,(vec [x2,r26.1,x14,(.bool ((n16:Int)==0))]))
else
(za .eql c19 (.int .i64 4)).bind fun x27=>(
  asBool x27).bind fun b28=>
  if b28=true then
(zc a0 5).bind fun c29=>(
  P0 jL [.v c29] []).bind fun r30=>
  some (0,(vec [x2,x12,r30.1,(.bool ((n16:Int)==0))]))
else
(za .eql c19 (.int .i64 5)).bind fun x31=>(
  asBool x31).bind fun b32=>
  if b32=true then
(zc a0 5).bind fun c33=>(
  zaK c33).bind fun n34=>
  some (0,(vec [x2,x12,(.bool (decide ((n34:Int)<=2000))),(.bool ((n16:Int)==0))]))
else
(za .eql c19 (.int .i64 7)).bind fun x35=>(
  asBool x35).bind fun b36=>
  if b36=true then
(zc a0 6).bind fun c37=>(P0 jW [.v c37] []).bind fun r38=>(asBool r38.1).bind fun b39=>((if b39=true then
(zc a0 6).bind fun c40=>(z6 c40).bind fun n41=>(zc a0 7).bind fun c42=>(
  z6 c42).bind fun n43=>
  some (.bool ((n41:Int)==((n43:Nat):Int)))
else some (.bool false):Option V)).bind fun x44=>some (2,(vec [x2,x12,x14,x44]))
else
(za .eql c19 (.int .i64 6)).bind fun x45=>(
  asBool x45).bind fun b46=>
  if b46=true then
  some (2,(vec [x2,x12,x14,(.bool ((n16:Int)==0))]))
else
 some (1,(vec [])):Option (Nat×(Nat->V)))).bind fun o47=>
 if o47.1=0 then
 some (0,(vec [(o47.2 0),(o47.2 1),(o47.2 2),(o47.2 3),(.bool ((n18:Int)==0))]))
else
 if(o47.1-1)=0 then
 some (1,(vec [.bool false]))
else
(zc a0 7).bind fun c48=>(
  z6 c48).bind fun n49=>
  some (0,(vec [(o47.2 0),(o47.2 1),(o47.2 2),(o47.2 3),(.bool (decide ((n49:Int)<=300)))])):Option (Nat×(Nat->V)))).bind fun o50=>
  if o50.1=0 then
(asBool (o50.2 0)).bind fun b51=>(
  (if b51=true then
  some (o50.2 1)
else some (.bool false):Option V)).bind fun x52=>(asBool x52).bind fun b53=>(
  (if b53=true then
  some (o50.2 2)
else some (.bool false):Option V)).bind fun x54=>(asBool x54).bind fun b55=>(
  (if b55=true then
  some (o50.2 3)
else some (.bool false):Option V)).bind fun x56=>(asBool x56).bind fun b57=>(
  (if b57=true then
  some (o50.2 4)
else some (.bool false):Option V)).bind fun x58=>some (x58,[])
else
 some ((o50.2 0),[]))
theorem zqQ(a0:V):P0 kT [.v a0] []=zhW a0:=
 pq (fn:=zbQ) (by kernel_rfl) (by kernel_rfl)
def qY(a0:V)(a1:Nat):Option (V×List V):=
(P0 yq [.v a0,.fn a1 []] []).bind fun r1=>(
  za .geq r1.1 (.int .i64 0)).bind fun x2=>
  some (x2,[])
theorem YO(a0:V)(a1:Nat):P0 yO [.v a0,.fn a1 []] []=qY a0 a1:=
 pq (fn:=wT) (by kernel_rfl) (by kernel_rfl)
def zc0(a0:V):Option (V×List V):=
(zaK a0).bind fun n1=>((if(decide ((n1:Int)>2000))=false then
(P0 jJ [.v a0] []).bind fun r2=>(
  unV .not r2.1).bind fun x3=>
  some x3
else some (.bool true):Option V)).bind fun x4=>some (x4,[])
theorem zkX(a0:V):P0 qk [.v a0] []=zc0 a0:=
 pq (fn:=Q8) (by kernel_rfl) (by kernel_rfl)
def vl(a0:V)(v2:Nat->V):Option ((Nat->V) ⊕ (Nat×(Nat->V))):=
 if(Vn (v2 1))<List.length (α:=UInt8) (zjc (v2 0))then
 if(((Utf8.decode ⟨((zjc (v2 0))).toArray⟩ (Vn (v2 1))).1:Int) != 65533)=true then
 some (.inl (vec [(.str (zjc (v2 0))),(.int .i64 ((((Vn (v2 1))+(Utf8.decode ⟨((zjc (v2 0))).toArray⟩ (Vn (v2 1))).2):Nat):Int))]))
else
(zn6 a0 (some (.int .i64 (((Vn (v2 1)):Nat):Int))) none).bind fun x3=>(P0 xg [.v x3] []).bind fun r4=>(zi r4.1 0).bind fun x5=>(zi r4.1 1).bind fun x6=>(za .eql x6 (.int .i64 1)).bind fun x7=>(
  asBool x7).bind fun b8=>
  if b8=true then
  some (.inr (1,(vec [.bool false])))
else
 some (.inl (vec [(.str (zjc (v2 0))),(.int .i64 ((((Vn (v2 1))+(Utf8.decode ⟨((zjc (v2 0))).toArray⟩ (Vn (v2 1))).2):Nat):Int))]))
else
 some (.inr (0,(vec [])))
def zf7(a0:V):Option (V×List V):=
(zfD a0).bind fun s1=>(
  zq (vl a0) (vec [.str s1,(.int .i64 ((0:Nat):Int))])).bind fun o9=>
  if o9.1=0 then
  some ((.bool true),[])
else
 some ((o9.2 0),[])
theorem zmA(a0:V):P0 jJ [.v a0] []=zf7 a0:=
 pq (fn:=KA) (by kernel_rfl) (by kernel_rfl)
def xS(n1:Nat)(a0:V)(a1:Nat)(v2:Nat->V):Option ((Nat->V) ⊕ (Nat×(Nat->V))):=
(za .lss (v2 0) (.int .i64 ((n1:Nat):Int))).bind fun x3=>(
  asBool x3).bind fun b4=>
  if b4=true then
(yu 8 a0).bind fun l5=>(yQ (v2 0) (l5.length)).bind fun i6=>(
  l5[i6]?).bind fun e7=>
  tst (Nat.blt a1 vo) ((P0 a1 [.v e7] []).bind fun r8=>(
  asBool r8.1).bind fun b9=>
  if b9=true then
  some (.inr (1,(vec [(v2 0)])))
else
(
  za .add (v2 0) (.int .i64 1)).bind fun x10=>
  some (.inl (vec [x10])))
else
 some (.inr (0,(vec [])))
def ZR(a0:V)(a1:Nat):Option (V×List V):=
(z6 a0).bind fun n1=>(
  zq (xS n1 a0 a1) (vec [.int .i64 0])).bind fun o11=>
  if o11.1=0 then
  some ((.int .i64 (-1)),[])
else
 some ((o11.2 0),[])
theorem Jt(a0:V)(a1:Nat):P0 wk [.v a0,.fn a1 []] []=ZR a0 a1:=
 pq (fn:=jt) (by kernel_rfl) (by kernel_rfl)
def zbl(a0:V):Option (V×List V):=
 tst (okN 3 a0) ((zc a0 1).bind fun c1=>(
  z6 c1).bind fun n2=>
  if((n2:Int)==0)=true then
(zc a0 0).bind fun c3=>(unV .not c3).bind fun x4=>(asBool x4).bind fun b5=>((if b5=true then
(zc a0 2).bind fun c6=>(
  za .eql c6 (.int .i64 0)).bind fun x7=>
  some x7
else some (.bool false):Option V)).bind fun x8=>some (x8,[])
else
((if(decide ((n2:Int)>90))=false then
(zc a0 1).bind fun c9=>(yu 1 c9).bind fun l10=>(yQ (.int .i64 (IntKind.wrap .i64 (((n2:Nat):Int)-1))) (l10.length)).bind fun i11=>(l10[i11]?).bind fun e12=>(zc e12 0).bind fun c13=>(
  za .eql c13 (.int .u32 0)).bind fun x14=>
  some x14
else some (.bool true):Option V)).bind fun x15=>(asBool x15).bind fun b16=>((if b16=false then
(zc a0 2).bind fun c17=>(
  za .lss c17 (.int .i64 (-1200))).bind fun x18=>
  some x18
else some (.bool true):Option V)).bind fun x19=>(asBool x19).bind fun b20=>((if b20=false then
(zc a0 2).bind fun c21=>(
  za .gtr c21 (.int .i64 1200)).bind fun x22=>
  some x22
else some (.bool true):Option V)).bind fun x23=>(
  asBool x23).bind fun b24=>
  if b24=true then
  some ((.bool false),[])
else
(zc a0 1).bind fun c25=>(P0 xF [.v c25,.v (.int .u32 10)] []).bind fun r26=>(zi r26.1 0).bind fun x27=>(zi r26.1 1).bind fun x28=>(
  za .neq x28 (.int .u32 0)).bind fun x29=>
  some (x29,[]))
theorem zig(a0:V):P0 je [.v a0] []=zbl a0:=
 pq (fn:=VN) (by kernel_rfl) (by kernel_rfl)
def zfT(a0:V):Option (V×List V):=
(z6 a0).bind fun n1=>(yu 1 a0).bind fun l2=>(WB none (some (.int .i64 (IntKind.wrap .i64 (((n1:Nat):Int)-1)))) (l2.length)).bind fun q3=>(z6 a0).bind fun n4=>(yu 1 a0).bind fun l5=>(yQ (.int .i64 (IntKind.wrap .i64 (((n4:Nat):Int)-1))) (l5.length)).bind fun i6=>(l5[i6]?).bind fun e7=>(
  zc e7 0).bind fun c8=>
  some ((.tup [(.sl ((l2.drop q3.1).take (q3.2-q3.1))),c8]),[])
theorem zmz(a0:V):P0 jT [.v a0] []=zfT a0:=
 pq (fn:=Kr) (by kernel_rfl) (by kernel_rfl)
def ziK(a0:V)(a1:V)(a2:V):Option (V×List V):=
 tst (okN 8 a0) (tst (okN 1 a1) ((zc a1 0).bind fun c1=>
 tst (okN 8 a2) ((P0 jH [.v a0] []).bind fun r2=>(zi r2.1 0).bind fun x3=>(zi r2.1 1).bind fun x4=>(z6 x3).bind fun n5=>(z6 x4).bind fun n6=>(zkM 16 (.int .i64 ((n5:Nat):Int)) (.int .i64 ((n5:Nat):Int))).bind fun q7=>(zkM 120 (.int .i64 ((n6:Nat):Int)) (.int .i64 ((n6:Nat):Int))).bind fun q8=>(zdZ 1 x3).bind fun l9=>(zdZ 8 x4).bind fun l10=>(P0 yS [.v (.sl (((wJ (List.replicate q7.2 (.str [])) 0 (l9.take (Nat.min (l9.length) q7.1))).drop 0).take q7.1)),.v c1] []).bind fun r11=>(za .geq r11.1 (.int .i64 0)).bind fun x12=>(
  asBool x12).bind fun b13=>
  if b13=true then
(
  yQ r11.1 q8.1).bind fun i14=>
  tst (okN 8 a2) (some ((.agg [.int .i64 7,.bool false,.bool false,.sl [],.int .i64 0,.str [],(.sl (((wJ (List.replicate q7.2 (.str [])) 0 (l9.take (Nat.min (l9.length) q7.1))).drop 0).take q7.1)),(.sl ((((wJ (List.replicate q8.2 (.agg [.int .i64 0,.bool false,.bool false,.sl [],.int .i64 0,.str [],.sl [],.sl []])) 0 (l10.take (Nat.min (l10.length) q8.1))).set (0+i14) a2).drop 0).take q8.1))]),[]))
else
(P0 yq [.v (.sl (((wJ (List.replicate q7.2 (.str [])) 0 (l9.take (Nat.min (l9.length) q7.1))).drop 0).take q7.1)),.fn va [.p 0 0]] [(false,1,c1)]).bind fun r15=>(r15.2[0]?).bind fun y16=>(((za .lss r15.1 (.int .i64 0)).bind fun x17=>(
  asBool x17).bind fun b18=>
  if b18=true then
  some (0,(vec [(.int .i64 ((q7.1:Nat):Int))]))
else
 some (0,(vec [r15.1])):Option (Nat×(Nat->V)))).bind fun o19=>
 tst (okN 1 y16) ((zc y16 0).bind fun c20=>
 tst (Nat.beq q7.1 q7.2) ((P0 vg [.u,.v (.sl (((wJ (List.replicate q7.2 (.str [])) 0 (l9.take (Nat.min (l9.length) q7.1))).drop 0).take q7.1)),.v (o19.2 0),.v (.sl [c20])] []).bind fun r21=>
 tst (okN 8 a2) (tst (Nat.beq q8.1 q8.2) ((P0 qN [.u,.v (.sl (((wJ (List.replicate q8.2 (.agg [.int .i64 0,.bool false,.bool false,.sl [],.int .i64 0,.str [],.sl [],.sl []])) 0 (l10.take (Nat.min (l10.length) q8.1))).drop 0).take q8.1)),.v (o19.2 0),.v (.sl [a2])] []).bind fun r22=>
 tst (okN 1 r21.1) ((zc r21.1 0).bind fun c23=>
 tst (okN 1 r22.1) ((zc r22.1 0).bind fun c24=>
 some ((.agg [.int .i64 7,.bool false,.bool false,.sl [],.int .i64 0,.str [],c23,c24]),[]))))))))))
theorem zpo(a0:V)(a1:V)(a2:V):P0 kX [.v a0,.v a1,.v a2] []=ziK a0 a1 a2:=
 pq (fn:=zck) (by kernel_rfl) (by kernel_rfl)
def xA(n13:Nat)(a0:V)(v14:Nat->V):Option ((Nat->V) ⊕ (Nat×(Nat->V))):=
(za .lss (v14 1) (.int .i64 ((n13:Nat):Int))).bind fun x15=>(
  asBool x15).bind fun b16=>
  if b16=true then
(ZQ a0 (v14 1)).bind fun x17=>(za .lss x17 (.int .u8 48)).bind fun x18=>(asBool x18).bind fun b19=>((if b19=false then
(ZQ a0 (v14 1)).bind fun x20=>(
  za .gtr x20 (.int .u8 57)).bind fun x21=>
  some x21
else some (.bool true):Option V)).bind fun x22=>(
  asBool x22).bind fun b23=>
  if b23=true then
  some (.inr (1,(vec [.int .i64 0,.bool false])))
else
(za .mul (.int .i64 10) (v14 0)).bind fun x24=>(ZQ a0 (v14 1)).bind fun x25=>(za .sub x25 (.int .u8 48)).bind fun x26=>(ju .i64 x26).bind fun x27=>(za .add x24 x27).bind fun x28=>(
  za .add (v14 1) (.int .i64 1)).bind fun x29=>
  some (.inl (vec [x28,x29]))
else
 some (.inr (0,(vec [(v14 0)])))
def Jz(a0:V)(a1:V):Option (V×List V):=
(za .eql a0 (.str [])).bind fun x1=>(asBool x1).bind fun b2=>((if b2=false then
(
  zaK a0).bind fun n3=>
  some (.bool (decide ((n3:Int)>4)))
else some (.bool true):Option V)).bind fun x4=>(asBool x4).bind fun b5=>((if b5=false then
(ZQ a0 (.int .i64 0)).bind fun x6=>(za .eql x6 (.int .u8 48)).bind fun x7=>(asBool x7).bind fun b8=>((if b8=true then
(
  zaK a0).bind fun n9=>
  some (.bool (decide ((n9:Int)>1)))
else some (.bool false):Option V)).bind fun x10=>some x10
else some (.bool true):Option V)).bind fun x11=>(
  asBool x11).bind fun b12=>
  if b12=true then
  some ((.tup [.int .i64 0,.bool false]),[])
else
(zaK a0).bind fun n13=>(
  zq (xA n13 a0) (vec [.int .i64 0,.int .i64 0])).bind fun o30=>
  if o30.1=0 then
(za .gtr (o30.2 0) a1).bind fun x31=>(
  asBool x31).bind fun b32=>
  if b32=true then
  some ((.tup [.int .i64 0,.bool false]),[])
else
 some ((.tup [(o30.2 0),.bool true]),[])
else
 some ((.tup [(o30.2 0),(o30.2 1)]),[])
theorem zeS(a0:V)(a1:V):P0 xj [.v a0,.v a1] []=Jz a0 a1:=
 pq (fn:=Y6) (by kernel_rfl) (by kernel_rfl)
def yx(n1:Nat)(a0:V)(v2:Nat->V):Option ((Nat->V) ⊕ (Nat×(Nat->V))):=
(za .lss (v2 1) (.int .i64 ((n1:Nat):Int))).bind fun x3=>(
  asBool x3).bind fun b4=>
  if b4=true then
(yu 1 a0).bind fun l5=>(yQ (v2 1) (l5.length)).bind fun i6=>(l5[i6]?).bind fun e7=>(zc e7 0).bind fun c8=>(z6 c8).bind fun n9=>(za .add (v2 0) (.int .i64 ((n9:Nat):Int))).bind fun x10=>(za .lss x10 (.int .i64 0)).bind fun x11=>(
  asBool x11).bind fun b12=>
  if b12=true then
(za6 true (.iface 9 (.str [108,101,110,32,111,117,116,32,111,102,32,114,97,110,103,101]))).bind fun x13=>(
  asBool x13).bind fun b14=>
  if b14=true then
  some (.inr (1,(vec [(.iface 9 (.str [108,101,110,32,111,117,116,32,111,102,32,114,97,110,103,101]))])))
else
 some (.inr (2,(vec [])))
else
(
  za .add (v2 1) (.int .i64 1)).bind fun x15=>
  some (.inl (vec [x10,x15]))
else
 some (.inr (0,(vec [(v2 0)])))
def yw(n19:Nat)(a0:V)(v20:Nat->V):Option ((Nat->V) ⊕ (Nat×(Nat->V))):=
(za .lss (v20 1) (.int .i64 ((n19:Nat):Int))).bind fun x21=>(
  asBool x21).bind fun b22=>
  if b22=true then
(yu 1 a0).bind fun l23=>(yQ (v20 1) (l23.length)).bind fun i24=>(l23[i24]?).bind fun e25=>(zc e25 0).bind fun c26=>(
  zdZ 8 c26).bind fun l27=>
  tst (qi 120 ((V.elems (v20 0)).length) (l27.length)) ((za .add (v20 1) (.int .i64 1)).bind fun x28=>
  some (.inl (vec [(.sl ((V.elems (v20 0))++l27)),x28])))
else
 some (.inr (0,(vec [(.sl (V.elems (v20 0)))])))
def kU(a0:V):Option (V×List V):=
(z6 a0).bind fun n1=>(
  zq (yx n1 a0) (vec [.int .i64 0,.int .i64 0])).bind fun o16=>
  if o16.1=0 then
(P0 j9 [.g,.v (.sl []),.v (o16.2 0)] []).bind fun r17=>(slV r17.1).bind fun l18=>(z6 a0).bind fun n19=>(
  zq (yw n19 a0) (vec [.sl l18,.int .i64 0])).bind fun o29=>
  some ((.sl (V.elems (o29.2 0))),[])
else
 if(o16.1-1)=0 then
 none
else
 none
theorem Xf(a0:V):P0 yZ [.v a0] []=kU a0:=
 pq (fn:=kM) (by kernel_rfl) (by kernel_rfl)
def zc4(a0:V)(a1:V):Option (V×List V):=
 tst (okN 8 a0) ((P0 jH [.v a0] []).bind fun r1=>(zi r1.1 0).bind fun x2=>(zi r1.1 1).bind fun x3=>(P0 yS [.v x2,.v a1] []).bind fun r4=>(za .lss r4.1 (.int .i64 0)).bind fun x5=>(
  asBool x5).bind fun b6=>
  if b6=true then
  tst (okN 8 a0) (some (a0,[]))
else
(yu 1 x2).bind fun l7=>(WB none (some r4.1) (l7.length)).bind fun q8=>(za .add r4.1 (.int .i64 1)).bind fun x9=>(yu 1 x2).bind fun l10=>(WB (some x9) none (l10.length)).bind fun q11=>(P0 xq [.v (.sl [(.sl ((l7.drop q8.1).take (q8.2-q8.1))),(.sl ((l10.drop q11.1).take (q11.2-q11.1)))])] []).bind fun r12=>(yu 8 x3).bind fun l13=>(WB none (some r4.1) (l13.length)).bind fun q14=>(za .add r4.1 (.int .i64 1)).bind fun x15=>(yu 8 x3).bind fun l16=>(WB (some x15) none (l16.length)).bind fun q17=>(
  P0 yZ [.v (.sl [(.sl ((l13.drop q14.1).take (q14.2-q14.1))),(.sl ((l16.drop q17.1).take (q17.2-q17.1)))])] []).bind fun r18=>
  tst (okN 1 r12.1) ((zc r12.1 0).bind fun c19=>
  tst (okN 1 r18.1) ((zc r18.1 0).bind fun c20=>
  some ((.agg [.int .i64 7,.bool false,.bool false,.sl [],.int .i64 0,.str [],c19,c20]),[]))))
theorem zki(a0:V)(a1:V):P0 kb [.v a0,.v a1] []=zc4 a0 a1:=
 pq (fn:=QX) (by kernel_rfl) (by kernel_rfl)
def VC(a0:V)(a1:V)(a2:V):Option (V×List V):=
 tst (okN 8 a0) (tst (okN 8 a2) ((z6 a1).bind fun n1=>
 if((n1:Int)==0)=true then
 tst (okN 8 a2) (some ((.tup [a2,.bool true]),[]))
else
(yu 1 a1).bind fun l2=>(yQ (.int .i64 0) (l2.length)).bind fun i3=>(l2[i3]?).bind fun e4=>(zc e4 0).bind fun c5=>(P0 vt [.v a0,.v c5] []).bind fun r6=>(zi r6.1 0).bind fun x7=>(
  zi r6.1 1).bind fun x8=>
  tst (okN 8 x7) ((((asBool x8).bind fun b9=>
  if b9=true then
(yu 1 a1).bind fun l10=>(WB (some (.int .i64 1)) none (l10.length)).bind fun q11=>(P0 qu [.v x7,.v (.sl ((l10.drop q11.1).take (q11.2-q11.1))),.v a2] []).bind fun r12=>(zi r12.1 0).bind fun x13=>(
  zi r12.1 1).bind fun x14=>
  tst (okN 8 x13) (some (0,(vec [x14,x13])))
else
 some (0,(vec [x8,x7])):Option (Nat×(Nat->V)))).bind fun o15=>(unV .not (o15.2 0)).bind fun x16=>(
  asBool x16).bind fun b17=>
  if b17=true then
  some ((.tup [(.agg [.int .i64 0,.bool false,.bool false,.sl [],.int .i64 0,.str [],.sl [],.sl []]),.bool false]),[])
else
(zc a0 0).bind fun c18=>(za .eql c18 (.int .i64 7)).bind fun x19=>(
  asBool x19).bind fun b20=>
  if b20=true then
(yu 1 a1).bind fun l21=>(yQ (.int .i64 0) (l21.length)).bind fun i22=>(l21[i22]?).bind fun e23=>(zc e23 0).bind fun c24=>(
  P0 kX [.v a0,.v c24,.v (o15.2 1)] []).bind fun r25=>
  tst (okN 8 r25.1) (some ((.tup [r25.1,.bool true]),[]))
else
(yu 1 a1).bind fun l26=>(yQ (.int .i64 0) (l26.length)).bind fun i27=>(l26[i27]?).bind fun e28=>(zc e28 0).bind fun c29=>(zc a0 7).bind fun c30=>(z6 c30).bind fun n31=>(P0 xj [.v c29,.v (.int .i64 (IntKind.wrap .i64 (((n31:Nat):Int)-1)))] []).bind fun r32=>(zi r32.1 0).bind fun x33=>(zi r32.1 1).bind fun x34=>(zc a0 7).bind fun c35=>(z6 c35).bind fun n36=>(zkM 120 (.int .i64 ((n36:Nat):Int)) (.int .i64 ((n36:Nat):Int))).bind fun q37=>(zc a0 7).bind fun c38=>(zdZ 8 c38).bind fun l39=>(
  yQ x33 q37.1).bind fun i40=>
  tst (okN 8 (o15.2 1)) ((zc a0 0).bind fun c41=>(zc a0 1).bind fun c42=>(zc a0 2).bind fun c43=>(zc a0 3).bind fun c44=>(zc a0 4).bind fun c45=>(zc a0 5).bind fun c46=>(zc a0 6).bind fun c47=>(
  zc a0 7).bind fun c48=>
  some ((.tup [(.agg [c41,c42,c43,c44,c45,c46,c47,(.sl ((((wJ (List.replicate q37.2 (.agg [.int .i64 0,.bool false,.bool false,.sl [],.int .i64 0,.str [],.sl [],.sl []])) 0 (l39.take (Nat.min (l39.length) q37.1))).set (0+i40) (o15.2 1)).drop 0).take q37.1))]),.bool true]),[])))))
theorem K7(a0:V)(a1:V)(a2:V):P0 qu [.v a0,.v a1,.v a2] []=VC a0 a1 a2:=
 pq (fn:=VD) (by kernel_rfl) (by kernel_rfl)
def yD(n3:Nat)(a0:V)(a1:V)(v4:Nat->V):Option ((Nat->V) ⊕ (Nat×(Nat->V))):=
(za .lss (v4 0) (.int .i64 ((n3:Nat):Int))).bind fun x5=>(
  asBool x5).bind fun b6=>
  if b6=true then
(yu 1 a0).bind fun l7=>(yQ (v4 0) (l7.length)).bind fun i9=>(l7[i9]?).bind fun e10=>(zc e10 0).bind fun c11=>(yu 1 a1).bind fun l12=>(yQ (v4 0) (l12.length)).bind fun i13=>(l12[i13]?).bind fun e14=>(zc e14 0).bind fun c15=>(za .neq c11 c15).bind fun x16=>(
  asBool x16).bind fun b17=>
  if b17=true then
  some (.inr (1,(vec [.bool false])))
else
(
  za .add (v4 0) (.int .i64 1)).bind fun x18=>
  some (.inl (vec [x18]))
else
 some (.inr (0,(vec [])))
def ZU(a0:V)(a1:V):Option (V×List V):=
(z6 a0).bind fun n1=>(
  z6 a1).bind fun n2=>
  if((n1:Int) != ((n2:Nat):Int))=true then
  some ((.bool false),[])
else
(z6 a0).bind fun n3=>(
  zq (yD n3 a0 a1) (vec [.int .i64 0])).bind fun o19=>
  if o19.1=0 then
  some ((.bool true),[])
else
 some ((o19.2 0),[])
theorem Jr(a0:V)(a1:V):P0 yT [.v a0,.v a1] []=ZU a0 a1:=
 pq (fn:=jv) (by kernel_rfl) (by kernel_rfl)
def Qn(a0:V)(a1:V):Option (V×List V):=
(z6 a0).bind fun n1=>(z6 a1).bind fun n2=>((if(decide ((n1:Int)<=((n2:Nat):Int)))=true then
(z6 a0).bind fun n3=>(yu 1 a1).bind fun l4=>(WB none (some (.int .i64 ((n3:Nat):Int))) (l4.length)).bind fun q5=>(
  P0 yT [.v a0,.v (.sl ((l4.drop q5.1).take (q5.2-q5.1)))] []).bind fun r6=>
  some r6.1
else some (.bool false):Option V)).bind fun x7=>some (x7,[])
theorem zdR(a0:V)(a1:V):P0 wm [.v a0,.v a1] []=Qn a0 a1:=
 pq (fn:=Yp) (by kernel_rfl) (by kernel_rfl)
def qU(n1:Nat)(a1:V)(v2:Nat->V):Option ((Nat->V) ⊕ (Nat×(Nat->V))):=
(za .lss (v2 0) (.int .i64 ((n1:Nat):Int))).bind fun x3=>(
  asBool x3).bind fun b4=>
  if b4=true then
(yu 1 a1).bind fun l5=>(yQ (v2 0) (l5.length)).bind fun i6=>(l5[i6]?).bind fun e7=>(zc e7 0).bind fun c8=>(P0 vt [.v (v2 1),.v c8] []).bind fun r9=>(zi r9.1 0).bind fun x10=>(
  zi r9.1 1).bind fun x11=>
  tst (okN 8 x10) ((unV .not x11).bind fun x12=>(
  asBool x12).bind fun b13=>
  if b13=true then
  some (.inr (1,(vec [.bool false,(v2 1),.int .i64 0,.bool false,.bool false,.sl [],.int .i64 0,.str [],.sl [],.sl []])))
else
 tst (okN 8 x10) ((za .add (v2 0) (.int .i64 1)).bind fun x14=>
 some (.inl (vec [x14,x10,(v2 2),(v2 3),(v2 4),(v2 5),(v2 6),(v2 7),(v2 8),(v2 9)]))))
else
 some (.inr (0,(vec [(v2 1),.agg [(v2 2),(v2 3),(v2 4),(v2 5),(v2 6),(v2 7),(v2 8),(v2 9)]])))
def zbk(a0:V)(a1:V):Option (V×List V):=
 tst (okN 8 a0) ((z6 a1).bind fun n1=>(
  zq (qU n1 a1) (vec [.int .i64 0,a0,.int .i64 0,.bool false,.bool false,.sl [],.int .i64 0,.str [],.sl [],.sl []])).bind fun o15=>
  if o15.1=0 then
  tst (okN 8 (o15.2 0)) (some ((.tup [(o15.2 0),.bool true]),[]))
else
 some ((.tup [.agg [(o15.2 2),(o15.2 3),(o15.2 4),(o15.2 5),(o15.2 6),(o15.2 7),(o15.2 8),(o15.2 9)],(o15.2 0)]),[]))
theorem zi1(a0:V)(a1:V):P0 jg [.v a0,.v a1] []=zbk a0 a1:=
 pq (fn:=VB) (by kernel_rfl) (by kernel_rfl)
def zjG(a0:V)(a1:V):Option (V×List V):=
 tst (okN 3 a0) (tst (okN 3 a1) ((P0 X9 [.v a0] []).bind fun r1=>(
  P0 X9 [.v a1] []).bind fun r2=>
  tst (okN 3 r1.1) (tst (okN 3 r2.1) ((zc r1.1 0).bind fun c3=>(zc r2.1 0).bind fun c4=>(asBool c3).bind fun b5=>(asBool c4).bind fun b6=>((if(b5==b6)=true then
(zc r1.1 2).bind fun c7=>(zc r2.1 2).bind fun c8=>(
  za .eql c7 c8).bind fun x9=>
  some x9
else some (.bool false):Option V)).bind fun x10=>(asBool x10).bind fun b11=>((if b11=true then
(zc r1.1 1).bind fun c12=>(zc r2.1 1).bind fun c13=>(
  P0 xD [.v c12,.v c13] []).bind fun r14=>
  some r14.1
else some (.bool false):Option V)).bind fun x15=>some (x15,[])))))
theorem zpU(a0:V)(a1:V):P0 Yi [.v a0,.v a1] []=zjG a0 a1:=
 pq (fn:=zbU) (by kernel_rfl) (by kernel_rfl)
def yF(n3:Nat)(a0:V)(a1:V)(a2:Nat)(v4:Nat->V):Option ((Nat->V) ⊕ (Nat×(Nat->V))):=
(za .lss (v4 0) (.int .i64 ((n3:Nat):Int))).bind fun x5=>(
  asBool x5).bind fun b6=>
  if b6=true then
(yu 8 a0).bind fun l7=>(yQ (v4 0) (l7.length)).bind fun i9=>(
  l7[i9]?).bind fun e10=>
  tst (okN 8 e10) ((yu 8 a1).bind fun l11=>(yQ (v4 0) (l11.length)).bind fun i12=>(
  l11[i12]?).bind fun e13=>
  tst (okN 8 e13) (tst (Nat.blt a2 vo) ((P0 a2 [.v e10,.v e13] []).bind fun r14=>(unV .not r14.1).bind fun x15=>(
  asBool x15).bind fun b16=>
  if b16=true then
  some (.inr (1,(vec [.bool false])))
else
(
  za .add (v4 0) (.int .i64 1)).bind fun x17=>
  some (.inl (vec [x17])))))
else
 some (.inr (0,(vec [])))
def Z6(a0:V)(a1:V)(a2:Nat):Option (V×List V):=
(z6 a0).bind fun n1=>(
  z6 a1).bind fun n2=>
  if((n1:Int) != ((n2:Nat):Int))=true then
  some ((.bool false),[])
else
(z6 a0).bind fun n3=>(
  zq (yF n3 a0 a1 a2) (vec [.int .i64 0])).bind fun o18=>
  if o18.1=0 then
  some ((.bool true),[])
else
 some ((o18.2 0),[])
theorem Q1(a0:V)(a1:V)(a2:Nat):P0 xd [.v a0,.v a1,.fn a2 []] []=Z6 a0 a1 a2:=
 pq (fn:=jw) (by kernel_rfl) (by kernel_rfl)
def zhI(a0:V):Option (V×List V):=
(ju .u64 a0).bind fun x1=>(((za .lss a0 (.int .i64 0)).bind fun x2=>(
  asBool x2).bind fun b3=>
  if b3=true then
(
  unV .neg x1).bind fun x4=>
  some (0,(vec [x4]))
else
 some (0,(vec [x1])):Option (Nat×(Nat->V)))).bind fun o5=>(za .lss a0 (.int .i64 0)).bind fun x6=>(ju .u32 (o5.2 0)).bind fun x7=>(za .shr (o5.2 0) (.int .u64 32)).bind fun x8=>(
  ju .u32 x8).bind fun x9=>
  tst (okN 1 x7) ((zc x7 0).bind fun c10=>
  tst (okN 1 x9) ((zc x9 0).bind fun c11=>(P0 w6 [.v x6,.v (.sl [c10,c11]),.v (.int .i64 0)] []).bind fun r12=>(zi r12.1 0).bind fun x13=>(
  zi r12.1 1).bind fun x14=>
  tst (okN 3 x13) (tst (okN 3 x13) (some (x13,[])))))
theorem zqS(a0:V):P0 kO [.v a0] []=zhI a0:=
 pq (fn:=zbE) (by kernel_rfl) (by kernel_rfl)
def zcC(a0:V)(a1:V)(a2:V):Option (V×List V):=
(P0 ka [.v a1] []).bind fun r1=>(zi r1.1 0).bind fun x2=>(zi r1.1 1).bind fun x3=>(
  z6 x2).bind fun n4=>
  if((n4:Int)==0)=true then
  some ((.tup [(.agg [.bool false,.sl [],.int .i64 0]),.bool true]),[])
else
(z6 x2).bind fun n5=>((if(decide ((n5:Int)>90))=false then
(
  za .lss a2 (.int .i64 (-1099511627776))).bind fun x6=>
  some x6
else some (.bool true):Option V)).bind fun x7=>(asBool x7).bind fun b8=>((if b8=false then
(
  za .gtr a2 (.int .i64 1099511627776)).bind fun x9=>
  some x9
else some (.bool true):Option V)).bind fun x10=>(asBool x10).bind fun b11=>((if b11=false then
(
  za .gtr x3 (.int .i64 1099511627776)).bind fun x12=>
  some x12
else some (.bool true):Option V)).bind fun x13=>(asBool x13).bind fun b14=>((if b14=false then
(za .add a2 x3).bind fun x15=>(
  za .lss x15 (.int .i64 (-1200))).bind fun x16=>
  some x16
else some (.bool true):Option V)).bind fun x17=>(asBool x17).bind fun b18=>((if b18=false then
(za .add a2 x3).bind fun x19=>(
  za .gtr x19 (.int .i64 1200)).bind fun x20=>
  some x20
else some (.bool true):Option V)).bind fun x21=>(
  asBool x21).bind fun b22=>
  if b22=true then
  some ((.tup [(.agg [.bool false,.sl [],.int .i64 0]),.bool false]),[])
else
(
  za .add a2 x3).bind fun x23=>
  tst (okN 1 a0) ((zc a0 0).bind fun c24=>
  tst (okN 1 x2) ((zc x2 0).bind fun c25=>
  tst (okN 1 x23) ((zc x23 0).bind fun c26=>
  tst (okN 3 (.agg [c24,c25,c26])) (some ((.tup [.agg [c24,c25,c26],.bool true]),[])))))
theorem zk3(a0:V)(a1:V)(a2:V):P0 w6 [.v a0,.v a1,.v a2] []=zcC a0 a1 a2:=
 pq (fn:=Q3) (by kernel_rfl) (by kernel_rfl)
def zcK(a0:V)(a1:V):Option (V×List V):=
(z6 a0).bind fun n1=>(za .lss a1 (.int .i64 ((n1:Nat):Int))).bind fun x2=>(
  asBool x2).bind fun b3=>
  if b3=true then
(yu 1 a0).bind fun l4=>(yQ a1 (l4.length)).bind fun i5=>(l4[i5]?).bind fun e6=>(zc e6 0).bind fun c7=>(
  ju .u64 c7).bind fun x8=>
  some (x8,[])
else
 some ((.int .u64 0),[])
theorem zk4(a0:V)(a1:V):P0 wY [.v a0,.v a1] []=zcK a0 a1:=
 pq (fn:=Jg) (by kernel_rfl) (by kernel_rfl)
def zfq(a0:V):Option (V×List V):=
 tst (okN 3 a0) ((zc a0 1).bind fun c1=>(
  z6 c1).bind fun n2=>
  if((n2:Int)==0)=true then
(zc a0 0).bind fun c3=>(unV .not c3).bind fun x4=>(asBool x4).bind fun b5=>((if b5=true then
(zc a0 2).bind fun c6=>(
  za .eql c6 (.int .i64 0)).bind fun x7=>
  some x7
else some (.bool false):Option V)).bind fun x8=>some (x8,[])
else
((if(decide ((n2:Int)>90))=false then
(zc a0 1).bind fun c9=>(yu 1 c9).bind fun l10=>(yQ (.int .i64 (IntKind.wrap .i64 (((n2:Nat):Int)-1))) (l10.length)).bind fun i11=>(l10[i11]?).bind fun e12=>(zc e12 0).bind fun c13=>(
  za .eql c13 (.int .u32 0)).bind fun x14=>
  some x14
else some (.bool true):Option V)).bind fun x15=>(asBool x15).bind fun b16=>((if b16=false then
(zc a0 2).bind fun c17=>(
  za .lss c17 (.int .i64 (-1200))).bind fun x18=>
  some x18
else some (.bool true):Option V)).bind fun x19=>(asBool x19).bind fun b20=>((if b20=false then
(zc a0 2).bind fun c21=>(
  za .gtr c21 (.int .i64 1200)).bind fun x22=>
  some x22
else some (.bool true):Option V)).bind fun x23=>(
  asBool x23).bind fun b24=>
  if b24=true then
  some ((.bool false),[])
else
(zc a0 1).bind fun c25=>(P0 Yr [.v c25] []).bind fun r26=>(zi r26.1 0).bind fun x27=>(zi r26.1 1).bind fun x28=>(
  za .eql x28 (.int .i64 0)).bind fun x29=>
  some (x29,[]))
theorem znr(a0:V):P0 jK [.v a0] []=zfq a0:=
 pq (fn:=KI) (by kernel_rfl) (by kernel_rfl)
def zf8(a0:V):Option (V×List V):=
(zaK a0).bind fun n1=>((if(decide ((n1:Int)<=2000))=true then
(
  P0 jJ [.v a0] []).bind fun r2=>
  some r2.1
else some (.bool false):Option V)).bind fun x3=>some (x3,[])
theorem zm6(a0:V):P0 jL [.v a0] []=zf8 a0:=
 pq (fn:=Kt) (by kernel_rfl) (by kernel_rfl)
def y8(n1:Nat)(a0:V)(v2:Nat->V):Option ((Nat->V) ⊕ (Nat×(Nat->V))):=
(za .lss (v2 0) (.int .i64 ((n1:Nat):Int))).bind fun x3=>(
  asBool x3).bind fun b4=>
  if b4=true then
(yu 1 a0).bind fun l5=>(yQ (v2 0) (l5.length)).bind fun i6=>(l5[i6]?).bind fun e7=>(zc e7 0).bind fun c8=>(P0 jL [.v c8] []).bind fun r9=>(unV .not r9.1).bind fun x10=>(asBool x10).bind fun b11=>((if b11=false then
(za .gtr (v2 0) (.int .i64 0)).bind fun x12=>(asBool x12).bind fun b13=>((if b13=true then
(za .sub (v2 0) (.int .i64 1)).bind fun x14=>(yu 1 a0).bind fun l15=>(yQ x14 (l15.length)).bind fun i17=>(l15[i17]?).bind fun e18=>(zc e18 0).bind fun c19=>(
  za .geq c19 c8).bind fun x20=>
  some x20
else some (.bool false):Option V)).bind fun x21=>some x21
else some (.bool true):Option V)).bind fun x22=>(
  asBool x22).bind fun b23=>
  if b23=true then
  some (.inr (1,(vec [.bool false])))
else
(
  za .add (v2 0) (.int .i64 1)).bind fun x24=>
  some (.inl (vec [x24]))
else
 some (.inr (0,(vec [])))
def zcw(a0:V):Option (V×List V):=
(z6 a0).bind fun n1=>(
  zq (y8 n1 a0) (vec [.int .i64 0])).bind fun o25=>
  if o25.1=0 then
(
  z6 a0).bind fun n26=>
  some ((.bool (decide ((n26:Int)<=300))),[])
else
 some ((o25.2 0),[])
theorem zkC(a0:V):P0 jW [.v a0] []=zcw a0:=
 pq (fn:=QE) (by kernel_rfl) (by kernel_rfl)
def xe(n1:Nat)(a0:V)(a1:Nat)(y1000:V)(v2:Nat->V):Option ((Nat->V) ⊕ (Nat×(Nat->V))):=
(za .lss (v2 0) (.int .i64 ((n1:Nat):Int))).bind fun x3=>(
  asBool x3).bind fun b4=>
  if b4=true then
(yu 1 a0).bind fun l5=>(yQ (v2 0) (l5.length)).bind fun i6=>(l5[i6]?).bind fun e7=>(
  zc e7 0).bind fun c8=>
  tst (Nat.blt a1 vo) ((P0 a1 [.v c8,.p 0 0] [(true,1,y1000)]).bind fun r9=>(
  asBool r9.1).bind fun b10=>
  if b10=true then
  some (.inr (1,(vec [(v2 0)])))
else
(
  za .add (v2 0) (.int .i64 1)).bind fun x11=>
  some (.inl (vec [x11])))
else
 some (.inr (0,(vec [])))
def kj(a0:V)(a1:Nat)(y1000:V):Option (V×List V):=
(z6 a0).bind fun n1=>(
  zq (xe n1 a0 a1 y1000) (vec [.int .i64 0])).bind fun o12=>
  if o12.1=0 then
  some ((.int .i64 (-1)),[y1000])
else
 some ((o12.2 0),[y1000])
theorem WA(a0:V)(a1:Nat)(y1000:V):P0 yq [.v a0,.fn a1 [.p 0 0]] [(false,1,y1000)]=kj a0 a1 y1000:=
 pq (fn:=vT) (by kernel_rfl) (by kernel_rfl)
def xB(n1:Nat)(a0:V)(a1:Nat)(v2:Nat->V):Option ((Nat->V) ⊕ (Nat×(Nat->V))):=
(za .lss (v2 0) (.int .i64 ((n1:Nat):Int))).bind fun x3=>(
  asBool x3).bind fun b4=>
  if b4=true then
(yu 1 a0).bind fun l5=>(yQ (v2 0) (l5.length)).bind fun i6=>(l5[i6]?).bind fun e7=>(
  zc e7 0).bind fun c8=>
  tst (Nat.blt a1 vo) ((P0 a1 [.v c8] []).bind fun r9=>(
  asBool r9.1).bind fun b10=>
  if b10=true then
  some (.inr (1,(vec [(v2 0)])))
else
(
  za .add (v2 0) (.int .i64 1)).bind fun x11=>
  some (.inl (vec [x11])))
else
 some (.inr (0,(vec [])))
def jA(a0:V)(a1:Nat):Option (V×List V):=
(z6 a0).bind fun n1=>(
  zq (xB n1 a0 a1) (vec [.int .i64 0])).bind fun o12=>
  if o12.1=0 then
  some ((.int .i64 (-1)),[])
else
 some ((o12.2 0),[])
theorem Xc(a0:V)(a1:Nat):P0 yq [.v a0,.fn a1 []] []=jA a0 a1:=
 pq (fn:=jy) (by kernel_rfl) (by kernel_rfl)
def kY(a0:V):Option (V×List V):=
(za .neq a0 (.str [])).bind fun x1=>(asBool x1).bind fun b2=>((if b2=true then
(ZQ a0 (.int .i64 0)).bind fun x3=>(
  za .lss x3 (.int .u8 128)).bind fun x4=>
  some x4
else some (.bool false):Option V)).bind fun x5=>(
  asBool x5).bind fun b6=>
  if b6=true then
(ZQ a0 (.int .i64 0)).bind fun x7=>(
  ju .i32 x7).bind fun x8=>
  some ((.tup [x8,.int .i64 1]),[])
else
(P0 ye [.v a0] []).bind fun r9=>(zi r9.1 0).bind fun x10=>(
  zi r9.1 1).bind fun x11=>
  some ((.tup [x10,x11]),[])
theorem Vm(a0:V):P0 xg [.v a0] []=kY a0:=
 pq (fn:=qI) (by kernel_rfl) (by kernel_rfl)
def kH(a0:V)(a1:V)(q2:Nat×Nat)(v4:Nat->V):Option ((Nat->V) ⊕ (Nat×(Nat->V))):=
(za .geq (v4 1) (.int .i64 0)).bind fun x5=>(
  asBool x5).bind fun b6=>
  if b6=true then
(za .shl (v4 0) (.int .u64 32)).bind fun x7=>(yu 1 a0).bind fun l8=>(yQ (v4 1) (l8.length)).bind fun i9=>(l8[i9]?).bind fun e10=>(zc e10 0).bind fun c11=>(ju .u64 c11).bind fun x12=>(za .add x7 x12).bind fun x13=>(ju .u64 a1).bind fun x14=>(za .quo x13 x14).bind fun x15=>(ju .u32 x15).bind fun x16=>(
  yQ (v4 1) q2.1).bind fun i17=>
  tst (okN 1 x16) ((zc x16 0).bind fun c18=>(ju .u64 a1).bind fun x19=>(za .rem x13 x19).bind fun x20=>(
  za .sub (v4 1) (.int .i64 1)).bind fun x21=>
  some (.inl (vec [x20,x21,(.sl ((V.elems (v4 2)).set (0+i17) c18))])))
else
 some (.inr (0,(vec [(v4 0),(.sl (V.elems (v4 2)))])))
def zaT(a0:V)(a1:V):Option (V×List V):=
(z6 a0).bind fun n1=>(zkM 4 (.int .i64 ((n1:Nat):Int)) (.int .i64 ((n1:Nat):Int))).bind fun q2=>(z6 a0).bind fun n3=>(zq (kH a0 a1 q2) (vec [.int .u64 0,(.int .i64 (IntKind.wrap .i64 (((n3:Nat):Int)-1))),(.sl (List.replicate q2.2 (.int .u32 0)))])).bind fun o22=>(P0 qM [.v (.sl (((V.elems (o22.2 1)).drop 0).take q2.1))] []).bind fun r23=>(
  ju .u32 (o22.2 0)).bind fun x24=>
  some ((.tup [r23.1,x24]),[])
theorem zhA(a0:V)(a1:V):P0 xF [.v a0,.v a1] []=zaT a0 a1:=
 pq (fn:=VH) (by kernel_rfl) (by kernel_rfl)
def zjd(a0:V):Option (V×List V):=
 tst (okN 8 a0) ((zc a0 0).bind fun c1=>(za .neq c1 (.int .i64 7)).bind fun x2=>(
  asBool x2).bind fun b3=>
  if b3=true then
  some ((.tup [.sl [],.sl []]),[])
else
(zc a0 6).bind fun c4=>(z6 c4).bind fun n5=>(zc a0 7).bind fun c6=>(z6 c6).bind fun n7=>(zqr (.int .i64 ((n5:Nat):Int)) [(.int .i64 ((n7:Nat):Int))]).bind fun x8=>(zc a0 6).bind fun c9=>(yu 1 c9).bind fun l10=>(zuv none (some x8) (some x8) (l10.length)).bind fun q11=>(zc a0 7).bind fun c12=>(yu 8 c12).bind fun l13=>(
  zuv none (some x8) (some x8) (l13.length)).bind fun q14=>
  some ((.tup [(.sl ((l10.drop q11.1).take (q11.2-q11.1))),(.sl ((l13.drop q14.1).take (q14.2-q14.1)))]),[]))
theorem zp3(a0:V):P0 jH [.v a0] []=zjd a0:=
 pq (fn:=zcd) (by kernel_rfl) (by kernel_rfl)
def xR(n1:Nat)(a0:V)(a1:V)(v2:Nat->V):Option ((Nat->V) ⊕ (Nat×(Nat->V))):=
(za .lss (v2 0) (.int .i64 ((n1:Nat):Int))).bind fun x3=>(
  asBool x3).bind fun b4=>
  if b4=true then
(yu 1 a0).bind fun l5=>(yQ (v2 0) (l5.length)).bind fun i6=>(l5[i6]?).bind fun e7=>(zc e7 0).bind fun c8=>(za .eql a1 c8).bind fun x9=>(
  asBool x9).bind fun b10=>
  if b10=true then
  some (.inr (1,(vec [(v2 0)])))
else
(
  za .add (v2 0) (.int .i64 1)).bind fun x11=>
  some (.inl (vec [x11]))
else
 some (.inr (0,(vec [])))
def Z2(a0:V)(a1:V):Option (V×List V):=
(z6 a0).bind fun n1=>(
  zq (xR n1 a0 a1) (vec [.int .i64 0])).bind fun o12=>
  if o12.1=0 then
  some ((.int .i64 (-1)),[])
else
 some ((o12.2 0),[])
theorem Qx(a0:V)(a1:V):P0 yS [.v a0,.v a1] []=Z2 a0 a1:=
 pq (fn:=jp) (by kernel_rfl) (by kernel_rfl)
def zdF(a0:V)(a1:V):Option (V×List V):=
(
  za .gtr a0 a1).bind fun x1=>
  some (x1,[a1])
theorem zkh(a0:V)(a1:V):P0 va [.v a0,.p 0 0] [(true,1,a1)]=zdF a0 a1:=
 pq (fn:=Q9) (by kernel_rfl) (by kernel_rfl)
def xK(n1:Nat)(a0:V)(v2:Nat->V):Option ((Nat->V) ⊕ (Nat×(Nat->V))):=
(za .lss (v2 1) (.int .i64 ((n1:Nat):Int))).bind fun x3=>(
  asBool x3).bind fun b4=>
  if b4=true then
(yu 1 a0).bind fun l5=>(yQ (v2 1) (l5.length)).bind fun i6=>(l5[i6]?).bind fun e7=>(zc e7 0).bind fun c8=>(z6 c8).bind fun n9=>(za .add (v2 0) (.int .i64 ((n9:Nat):Int))).bind fun x10=>(za .lss x10 (.int .i64 0)).bind fun x11=>(
  asBool x11).bind fun b12=>
  if b12=true then
(za6 true (.iface 9 (.str [108,101,110,32,111,117,116,32,111,102,32,114,97,110,103,101]))).bind fun x13=>(
  asBool x13).bind fun b14=>
  if b14=true then
  some (.inr (1,(vec [(.iface 9 (.str [108,101,110,32,111,117,116,32,111,102,32,114,97,110,103,101]))])))
else
 some (.inr (2,(vec [])))
else
(
  za .add (v2 1) (.int .i64 1)).bind fun x15=>
  some (.inl (vec [x10,x15]))
else
 some (.inr (0,(vec [(v2 0)])))
def xI(n19:Nat)(a0:V)(v20:Nat->V):Option ((Nat->V) ⊕ (Nat×(Nat->V))):=
(za .lss (v20 1) (.int .i64 ((n19:Nat):Int))).bind fun x21=>(
  asBool x21).bind fun b22=>
  if b22=true then
(yu 1 a0).bind fun l23=>(yQ (v20 1) (l23.length)).bind fun i24=>(l23[i24]?).bind fun e25=>(zc e25 0).bind fun c26=>(
  zdZ 1 c26).bind fun l27=>
  tst (qi 16 ((V.elems (v20 0)).length) (l27.length)) ((za .add (v20 1) (.int .i64 1)).bind fun x28=>
  some (.inl (vec [(.sl ((V.elems (v20 0))++l27)),x28])))
else
 some (.inr (0,(vec [(.sl (V.elems (v20 0)))])))
def Zw(a0:V):Option (V×List V):=
(z6 a0).bind fun n1=>(
  zq (xK n1 a0) (vec [.int .i64 0,.int .i64 0])).bind fun o16=>
  if o16.1=0 then
(P0 qd [.g,.v (.sl []),.v (o16.2 0)] []).bind fun r17=>(slV r17.1).bind fun l18=>(z6 a0).bind fun n19=>(
  zq (xI n19 a0) (vec [.sl l18,.int .i64 0])).bind fun o29=>
  some ((.sl (V.elems (o29.2 0))),[])
else
 if(o16.1-1)=0 then
 none
else
 none
theorem V8(a0:V):P0 xq [.v a0] []=Zw a0:=
 pq (fn:=qP) (by kernel_rfl) (by kernel_rfl)
def Kb(a0:V)(a1:V):Option (V×List V):=
 tst (okN 8 a0) ((zc a0 0).bind fun c1=>(za .neq c1 (.int .i64 6)).bind fun x2=>(
  asBool x2).bind fun b3=>
  if b3=true then
(P0 jb [.v a0,.v a1] []).bind fun r4=>(zi r4.1 0).bind fun x5=>(
  zi r4.1 1).bind fun x6=>
  tst (okN 8 x5) (some ((.tup [x5,x6]),[]))
else
(zc a0 7).bind fun c7=>(z6 c7).bind fun n8=>(P0 xj [.v a1,.v (.int .i64 (IntKind.wrap .i64 (((n8:Nat):Int)-1)))] []).bind fun r9=>(zi r9.1 0).bind fun x10=>(zi r9.1 1).bind fun x11=>(unV .not x11).bind fun x12=>(
  asBool x12).bind fun b13=>
  if b13=true then
  some ((.tup [(.agg [.int .i64 0,.bool false,.bool false,.sl [],.int .i64 0,.str [],.sl [],.sl []]),.bool false]),[])
else
(zc a0 7).bind fun c14=>(yu 8 c14).bind fun l15=>(yQ x10 (l15.length)).bind fun i17=>(
  l15[i17]?).bind fun e18=>
  tst (okN 8 e18) (some ((.tup [e18,.bool true]),[])))
theorem zgp(a0:V)(a1:V):P0 vt [.v a0,.v a1] []=Kb a0 a1:=
 pq (fn:=Wr) (by kernel_rfl) (by kernel_rfl)
def zoH(a0:V):Option (V×List V):=
 tst (okN 3 a0) ((P0 jK [.v a0] []).bind fun r1=>(unV .not r1.1).bind fun x2=>(
  asBool x2).bind fun b3=>
  if b3=true then
  some ((.agg [.bool false,.sl [],.int .i64 0]),[])
else
 tst (okN 3 a0) (some (a0,[])))
theorem zvl(a0:V):P0 X9 [.v a0] []=zoH a0:=
 pq (fn:=zh4) (by kernel_rfl) (by kernel_rfl)
def yC(n3:Nat)(a0:V)(a1:V)(v4:Nat->V):Option ((Nat->V) ⊕ (Nat×(Nat->V))):=
(za .lss (v4 0) (.int .i64 ((n3:Nat):Int))).bind fun x5=>(
  asBool x5).bind fun b6=>
  if b6=true then
(yu 1 a0).bind fun l7=>(yQ (v4 0) (l7.length)).bind fun i9=>(l7[i9]?).bind fun e10=>(zc e10 0).bind fun c11=>(yu 1 a1).bind fun l12=>(yQ (v4 0) (l12.length)).bind fun i13=>(l12[i13]?).bind fun e14=>(zc e14 0).bind fun c15=>(za .neq c11 c15).bind fun x16=>(
  asBool x16).bind fun b17=>
  if b17=true then
  some (.inr (1,(vec [.bool false])))
else
(
  za .add (v4 0) (.int .i64 1)).bind fun x18=>
  some (.inl (vec [x18]))
else
 some (.inr (0,(vec [])))
def Z0(a0:V)(a1:V):Option (V×List V):=
(z6 a0).bind fun n1=>(
  z6 a1).bind fun n2=>
  if((n1:Int) != ((n2:Nat):Int))=true then
  some ((.bool false),[])
else
(z6 a0).bind fun n3=>(
  zq (yC n3 a0 a1) (vec [.int .i64 0])).bind fun o19=>
  if o19.1=0 then
  some ((.bool true),[])
else
 some ((o19.2 0),[])
theorem Ji(a0:V)(a1:V):P0 xD [.v a0,.v a1] []=Z0 a0 a1:=
 pq (fn:=jo) (by kernel_rfl) (by kernel_rfl)
def qE(v2:Nat->V):Option ((Nat->V) ⊕ (Nat×(Nat->V))):=
(
  z6 (v2 0)).bind fun n3=>
  if(decide ((n3:Int)>0))=true then
(P0 xF [.v (v2 0),.v (.int .u32 10)] []).bind fun r4=>(zi r4.1 0).bind fun x5=>(zi r4.1 1).bind fun x6=>(za .neq x6 (.int .u32 0)).bind fun x7=>(
  asBool x7).bind fun b8=>
  if b8=true then
  some (.inr (0,(vec [(v2 0),(v2 1)])))
else
(
  za .add (v2 1) (.int .i64 1)).bind fun x9=>
  some (.inl (vec [x5,x9]))
else
 some (.inr (0,(vec [(v2 0),(v2 1)])))
def zc3(a0:V):Option (V×List V):=
(P0 qM [.v a0] []).bind fun r1=>(
  zq (qE) (vec [r1.1,.int .i64 0])).bind fun o10=>
  some ((.tup [(o10.2 0),(o10.2 1)]),[])
theorem zkm(a0:V):P0 ka [.v a0] []=zc3 a0:=
 pq (fn:=Jo) (by kernel_rfl) (by kernel_rfl)
def jY(v2:Nat->V):Option ((Nat->V) ⊕ (Nat×(Nat->V))):=
(
  z6 (v2 0)).bind fun n3=>
  if(decide ((n3:Int)>0))=true then
(P0 jQ [.v (v2 0),.v (.int .u32 10)] []).bind fun r4=>(zi r4.1 0).bind fun x5=>(zi r4.1 1).bind fun x6=>(za .neq x6 (.int .u32 0)).bind fun x7=>(
  asBool x7).bind fun b8=>
  if b8=true then
  some (.inr (0,(vec [(v2 0),(v2 1)])))
else
(
  za .add (v2 1) (.int .i64 1)).bind fun x9=>
  some (.inl (vec [x5,x9]))
else
 some (.inr (0,(vec [(v2 0),(v2 1)])))
def zi2(a0:V):Option (V×List V):=
(P0 kW [.v a0] []).bind fun r1=>(
  zq (jY) (vec [r1.1,.int .i64 0])).bind fun o10=>
  some ((.tup [(o10.2 0),(o10.2 1)]),[])
theorem zqz(a0:V):P0 Yr [.v a0] []=zi2 a0:=
 pq (fn:=zbT) (by kernel_rfl) (by kernel_rfl)
def vd(a0:V):Option (V×List V):=
(
  zaK a0).bind fun n1=>
  if(decide ((n1:Int)<1))=true then
  some ((.tup [.int .i32 65533,.int .i64 0]),[])
else
(ZQ a0 (.int .i64 0)).bind fun x2=>(yQ x2 256).bind fun i3=>((G_0.drop (i3*1))[0]?).bind fun c4=>(za .geq c4 (.int .u8 240)).bind fun x5=>(
  asBool x5).bind fun b6=>
  if b6=true then
(ju .i32 c4).bind fun x7=>(za .shl x7 (.int .u64 31)).bind fun x8=>(za .shr x8 (.int .u64 31)).bind fun x9=>(ZQ a0 (.int .i64 0)).bind fun x10=>(ju .i32 x10).bind fun x11=>(za .andNot x11 x9).bind fun x12=>(za .and (.int .i32 65533) x9).bind fun x13=>(
  za .or x12 x13).bind fun x14=>
  some ((.tup [x14,.int .i64 1]),[])
else
(za .and c4 (.int .u8 7)).bind fun x15=>(ju .i64 x15).bind fun x16=>(za .shr c4 (.int .u64 4)).bind fun x17=>(
  yQ x17 16).bind fun i18=>
  tst (Nat.ble 2 (G_1.drop (i18*2)).length) (tst (okN 2 (.agg ((G_1.drop (i18*2)).take 2))) ((za .lss (.int .i64 ((n1:Nat):Int)) x16).bind fun x19=>(
  asBool x19).bind fun b20=>
  if b20=true then
  some ((.tup [.int .i32 65533,.int .i64 1]),[])
else
(ZQ a0 (.int .i64 1)).bind fun x21=>(zc (.agg ((G_1.drop (i18*2)).take 2)) 0).bind fun c22=>(za .lss x21 c22).bind fun x23=>(asBool x23).bind fun b24=>((if b24=false then
(zc (.agg ((G_1.drop (i18*2)).take 2)) 1).bind fun c25=>(
  za .lss c25 x21).bind fun x26=>
  some x26
else some (.bool true):Option V)).bind fun x27=>(
  asBool x27).bind fun b28=>
  if b28=true then
  some ((.tup [.int .i32 65533,.int .i64 1]),[])
else
(za .leq x16 (.int .i64 2)).bind fun x29=>(
  asBool x29).bind fun b30=>
  if b30=true then
(za .and x2 (.int .u8 31)).bind fun x31=>(ju .i32 x31).bind fun x32=>(za .shl x32 (.int .u64 6)).bind fun x33=>(za .and x21 (.int .u8 63)).bind fun x34=>(ju .i32 x34).bind fun x35=>(
  za .or x33 x35).bind fun x36=>
  some ((.tup [x36,.int .i64 2]),[])
else
(ZQ a0 (.int .i64 2)).bind fun x37=>(za .lss x37 (.int .u8 128)).bind fun x38=>(asBool x38).bind fun b39=>((if b39=false then
(
  za .lss (.int .u8 191) x37).bind fun x40=>
  some x40
else some (.bool true):Option V)).bind fun x41=>(
  asBool x41).bind fun b42=>
  if b42=true then
  some ((.tup [.int .i32 65533,.int .i64 1]),[])
else
(za .leq x16 (.int .i64 3)).bind fun x43=>(
  asBool x43).bind fun b44=>
  if b44=true then
(za .and x2 (.int .u8 15)).bind fun x45=>(ju .i32 x45).bind fun x46=>(za .shl x46 (.int .u64 12)).bind fun x47=>(za .and x21 (.int .u8 63)).bind fun x48=>(ju .i32 x48).bind fun x49=>(za .shl x49 (.int .u64 6)).bind fun x50=>(za .or x47 x50).bind fun x51=>(za .and x37 (.int .u8 63)).bind fun x52=>(ju .i32 x52).bind fun x53=>(
  za .or x51 x53).bind fun x54=>
  some ((.tup [x54,.int .i64 3]),[])
else
(ZQ a0 (.int .i64 3)).bind fun x55=>(za .lss x55 (.int .u8 128)).bind fun x56=>(asBool x56).bind fun b57=>((if b57=false then
(
  za .lss (.int .u8 191) x55).bind fun x58=>
  some x58
else some (.bool true):Option V)).bind fun x59=>(
  asBool x59).bind fun b60=>
  if b60=true then
  some ((.tup [.int .i32 65533,.int .i64 1]),[])
else
(za .and x2 (.int .u8 7)).bind fun x61=>(ju .i32 x61).bind fun x62=>(za .shl x62 (.int .u64 18)).bind fun x63=>(za .and x21 (.int .u8 63)).bind fun x64=>(ju .i32 x64).bind fun x65=>(za .shl x65 (.int .u64 12)).bind fun x66=>(za .or x63 x66).bind fun x67=>(za .and x37 (.int .u8 63)).bind fun x68=>(ju .i32 x68).bind fun x69=>(za .shl x69 (.int .u64 6)).bind fun x70=>(za .or x67 x70).bind fun x71=>(za .and x55 (.int .u8 63)).bind fun x72=>(ju .i32 x72).bind fun x73=>(
  za .or x71 x73).bind fun x74=>
  some ((.tup [x74,.int .i64 4]),[])))
theorem ja(a0:V):P0 ye [.v a0] []=vd a0:=
 pq (fn:=vh) (by kernel_rfl) (by kernel_rfl)
def jF(a0:V)(v2:Nat->V):Option ((Nat->V) ⊕ (Nat×(Nat->V))):=
(za .gtr (v2 0) (.int .i64 0)).bind fun x3=>(asBool x3).bind fun b4=>((if b4=true then
(za .sub (v2 0) (.int .i64 1)).bind fun x5=>(yu 1 a0).bind fun l6=>(yQ x5 (l6.length)).bind fun i7=>(l6[i7]?).bind fun e8=>(zc e8 0).bind fun c9=>(
  za .eql c9 (.int .u32 0)).bind fun x10=>
  some x10
else some (.bool false):Option V)).bind fun x11=>(
  asBool x11).bind fun b12=>
  if b12=true then
(
  za .sub (v2 0) (.int .i64 1)).bind fun x13=>
  some (.inl (vec [x13]))
else
 some (.inr (0,(vec [(v2 0)])))
def zd6(a0:V):Option (V×List V):=
(z6 a0).bind fun n1=>(zq (jF a0) (vec [(.int .i64 ((n1:Nat):Int))])).bind fun o14=>(yu 1 a0).bind fun l15=>(WB none (some (o14.2 0)) (l15.length)).bind fun q16=>(
  zdZ 1 (.sl ((l15.drop q16.1).take (q16.2-q16.1)))).bind fun l17=>
  tst (qi 4 (List.length (α:=V) []) (l17.length)) (some ((.sl (([]:List V)++l17)),[]))
theorem zla(a0:V):P0 qM [.v a0] []=zd6 a0:=
 pq (fn:=Qs) (by kernel_rfl) (by kernel_rfl)
def zaQ(a0:V)(a1:V):Option (V×List V):=
 tst (okN 8 a0) ((P0 jH [.v a0] []).bind fun r1=>(zi r1.1 0).bind fun x2=>(zi r1.1 1).bind fun x3=>(P0 yS [.v x2,.v a1] []).bind fun r4=>(za .geq r4.1 (.int .i64 0)).bind fun x5=>(
  asBool x5).bind fun b6=>
  if b6=true then
(yu 8 x3).bind fun l7=>(yQ r4.1 (l7.length)).bind fun i9=>(
  l7[i9]?).bind fun e10=>
  tst (okN 8 e10) (some ((.tup [e10,.bool true]),[]))
else
 some ((.tup [(.agg [.int .i64 0,.bool false,.bool false,.sl [],.int .i64 0,.str [],.sl [],.sl []]),.bool false]),[]))
theorem zif(a0:V)(a1:V):P0 jb [.v a0,.v a1] []=zaQ a0 a1:=
 pq (fn:=Vl) (by kernel_rfl) (by kernel_rfl)
def Zp(a0:V)(v2:Nat->V):Option ((Nat->V) ⊕ (Nat×(Nat->V))):=
(za .gtr (v2 0) (.int .i64 0)).bind fun x3=>(asBool x3).bind fun b4=>((if b4=true then
(za .sub (v2 0) (.int .i64 1)).bind fun x5=>(yu 1 a0).bind fun l6=>(yQ x5 (l6.length)).bind fun i7=>(l6[i7]?).bind fun e8=>(zc e8 0).bind fun c9=>(
  za .eql c9 (.int .u32 0)).bind fun x10=>
  some x10
else some (.bool false):Option V)).bind fun x11=>(
  asBool x11).bind fun b12=>
  if b12=true then
(
  za .sub (v2 0) (.int .i64 1)).bind fun x13=>
  some (.inl (vec [x13]))
else
 some (.inr (0,(vec [(v2 0)])))
def zjS(a0:V):Option (V×List V):=
(z6 a0).bind fun n1=>(zq (Zp a0) (vec [(.int .i64 ((n1:Nat):Int))])).bind fun o14=>(za .eql (o14.2 0) (.int .i64 0)).bind fun x15=>(
  asBool x15).bind fun b16=>
  if b16=true then
  some ((.sl []),[])
else
(zkM 4 (o14.2 0) (o14.2 0)).bind fun q17=>(
  zdZ 1 a0).bind fun l18=>
  some ((.sl (((wJ (List.replicate q17.2 (.int .u32 0)) 0 (l18.take (Nat.min (l18.length) q17.1))).drop 0).take q17.1)),[])
theorem zpD(a0:V):P0 kW [.v a0] []=zjS a0:=
 pq (fn:=zcj) (by kernel_rfl) (by kernel_rfl)
def YG(a0:V)(a1:V)(q2:Nat×Nat)(v4:Nat->V):Option ((Nat->V) ⊕ (Nat×(Nat->V))):=
(za .geq (v4 1) (.int .i64 0)).bind fun x5=>(
  asBool x5).bind fun b6=>
  if b6=true then
(za .shl (v4 0) (.int .u64 32)).bind fun x7=>(yu 1 a0).bind fun l8=>(yQ (v4 1) (l8.length)).bind fun i9=>(l8[i9]?).bind fun e10=>(zc e10 0).bind fun c11=>(ju .u64 c11).bind fun x12=>(za .or x7 x12).bind fun x13=>(ju .u64 a1).bind fun x14=>(za .quo x13 x14).bind fun x15=>(ju .u32 x15).bind fun x16=>(
  yQ (v4 1) q2.1).bind fun i17=>
  tst (okN 1 x16) ((zc x16 0).bind fun c18=>(ju .u64 a1).bind fun x19=>(za .rem x13 x19).bind fun x20=>(
  za .sub (v4 1) (.int .i64 1)).bind fun x21=>
  some (.inl (vec [x20,x21,(.sl ((V.elems (v4 2)).set (0+i17) c18))])))
else
 some (.inr (0,(vec [(v4 0),(.sl (V.elems (v4 2)))])))
def zfR(a0:V)(a1:V):Option (V×List V):=
(z6 a0).bind fun n1=>(zkM 4 (.int .i64 ((n1:Nat):Int)) (.int .i64 ((n1:Nat):Int))).bind fun q2=>(z6 a0).bind fun n3=>(zq (YG a0 a1 q2) (vec [.int .u64 0,(.int .i64 (IntKind.wrap .i64 (((n3:Nat):Int)-1))),(.sl (List.replicate q2.2 (.int .u32 0)))])).bind fun o22=>(P0 kW [.v (.sl (((V.elems (o22.2 1)).drop 0).take q2.1))] []).bind fun r23=>(
  ju .u32 (o22.2 0)).bind fun x24=>
  some ((.tup [r23.1,x24]),[])
theorem zm0(a0:V)(a1:V):P0 jQ [.v a0,.v a1] []=zfR a0 a1:=
 pq (fn:=J8) (by kernel_rfl) (by kernel_rfl)
theorem WH(a1:List PA):P0 vg a1 []=Wp (YU 1 16) (.ful) a1 []:=zct (gl:=gl0) (tab:=zqA) (f:=vg) a1 [] rfl rfl
theorem JW(a1:List PA):P0 qN a1 []=Wp (YU 8 120) (.ful) a1 []:=zct (gl:=gl0) (tab:=zqA) (f:=qN) a1 [] rfl rfl
theorem zaH(a1:List PA):P0 j9 a1 []=Wp (KU 120) (.gvf 8) a1 []:=zct (gl:=gl0) (tab:=zqA) (f:=j9) a1 [] rfl rfl
theorem Qj(a1:List PA):P0 qd a1 []=Wp (KU 16) (.gvf 1) a1 []:=zct (gl:=gl0) (tab:=zqA) (f:=qd) a1 [] rfl rfl
end Go.Ev
end
