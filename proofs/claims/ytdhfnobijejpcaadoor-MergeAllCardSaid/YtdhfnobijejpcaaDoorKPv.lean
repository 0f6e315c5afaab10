/- What the functions compute. -/
import Derived.Test.YtdhfnobijejpcaaDoorKCode
import Derived.KernelRfl
set_option linter.all false
namespace Go.Ev
noncomputable def F_law16_MergeAll(a0:V)(a1:V)(a2:V):Option (V×List V):=
 tst (okN 8 a0) (tst (okN 8 a1) ((P0 f_law00_Light [.v a0,.v (.int .i64 100)] []).bind fun r1=>
(unV .not r1.1).bind fun x2=>
(asBool x2).bind fun b3=>
((if b3=false then
(P0 f_law00_Light [.v a1,.v (.int .i64 100)] []).bind fun r4=>
(
  unV .not r4.1).bind fun x5=>
  some x5
else some (.bool true):Option V)).bind fun x6=>
(
  asBool x6).bind fun b7=>
  if b7=true then
(
  P0 f_law16_awake [] []).bind fun r8=>
  some (r8.1,[])
else
(P0 f_law00_Tree [.v a0] []).bind fun r9=>
(P0 f_law00_Tree [.v a1] []).bind fun r10=>
(P0 f_merge_Apply [.v r9.1,.v r10.1,.v a2] []).bind fun r11=>
(extV r11.1 0).bind fun x12=>
(
  extV r11.1 1).bind fun x13=>
  tst (okN 8 x12) ((P0 f_ref16_Apply [.v a0,.v a1,.v a2] []).bind fun r14=>
(extV r14.1 0).bind fun x15=>
(
  extV r14.1 1).bind fun x16=>
  tst (okN 8 x15) ((P0 f_law00_SameTree [.v x12,.v x15] []).bind fun r17=>
(unV .not r17.1).bind fun x18=>
(asBool x18).bind fun b19=>
((if b19=false then
(
  binV .neq x13 x16).bind fun x20=>
  some x20
else some (.bool true):Option V)).bind fun x21=>
(asBool x21).bind fun b22=>
((if b22=false then
(P0 f_law00_Tree [.v a1] []).bind fun r23=>
(P0 f_merge_Clean [.v r23.1] []).bind fun r24=>
(P0 f_ref16_Clean [.v a1] []).bind fun r25=>
(asBool r24.1).bind fun b26=>
(
  asBool r25.1).bind fun b27=>
  some (.bool (!(b26 == b27)))
else some (.bool true):Option V)).bind fun x28=>
(
  asBool x28).bind fun b29=>
  if b29=true then
  some ((.bool false),[])
else
(P0 f_ref05_Check [.v a0] []).bind fun r30=>
(unV .not r30.1).bind fun x31=>
(asBool x31).bind fun b32=>
((if b32=false then
(P0 f_ref05_Check [.v a1] []).bind fun r33=>
(
  unV .not r33.1).bind fun x34=>
  some x34
else some (.bool true):Option V)).bind fun x35=>
(
  asBool x35).bind fun b36=>
  if b36=true then
(
  P0 f_law16_awake [] []).bind fun r37=>
  some (r37.1,[])
else
(P0 f_law00_Tree [.v a0] []).bind fun r38=>
(P0 f_law00_Tree [.v a1] []).bind fun r39=>
(P0 f_merge_Merge [.v r38.1,.v r39.1] []).bind fun r40=>
(P0 f_ref16_Merge [.v a0,.v a1] []).bind fun r41=>
(P0 f_ref05_Same [.v r40.1,.v r41.1] []).bind fun r42=>
(asBool r42.1).bind fun b43=>
((if b43=true then
(
  P0 f_law16_awake [] []).bind fun r44=>
  some r44.1
else some (.bool false):Option V)).bind fun x45=>
 some (x45,[])))))
theorem eq_law16_MergeAll(a0:V)(a1:V)(a2:V):P0 f_law16_MergeAll [.v a0,.v a1,.v a2] []=F_law16_MergeAll a0 a1 a2:=
 (pcL_eq (fn:=p_law16_MergeAll) (by kernel_rfl) _ _).trans (by kernel_rfl)
noncomputable def F_tree_Check(a0:V):Option (V×List V):=
 tst (okN 8 a0) ((P0 f_tree_check [.v a0,.v (.int .i64 1),.p 0 0] [(false,1,(.int .i64 2000))]).bind fun r1=>
(
  r1.2[0]?).bind fun y2=>
  some (r1.1,[]))
theorem eq_tree_Check(a0:V):P0 f_tree_Check [.v a0] []=F_tree_Check a0:=
 (pcL_eq (fn:=p_tree_Check) (by kernel_rfl) _ _).trans (by kernel_rfl)
noncomputable def L_tree_Depth_1(n2:Nat)(c1:V)(v3:Nat→V):Option ((Nat→V) ⊕ (Nat×(Nat→V))):=
(binV .lss (v3 1) (.int .i64 ((n2:Nat):Int))).bind fun x4=>
(
  asBool x4).bind fun b5=>
  if b5=true then
(asSl 8 c1).bind fun l6=>
(idxV (v3 1) (l6.length)).bind fun i7=>
(
  l6[i7]?).bind fun e8=>
  tst (okN 8 e8) ((P0 f_tree_Depth [.v e8] []).bind fun r9=>
(maxV (v3 0) [r9.1]).bind fun x10=>
(
  binV .add (v3 1) (.int .i64 1)).bind fun x11=>
  some (.inl (vec [x10,x11])))
else
 some (.inr (0,(vec [(v3 0)])))
noncomputable def F_tree_Depth(a0:V):Option (V×List V):=
 tst (okN 8 a0) ((fldV a0 7).bind fun c1=>
(lenV c1).bind fun n2=>
(loopL (L_tree_Depth_1 n2 c1) (vec [(.int .i64 0),(.int .i64 0)])).bind fun o12=>
(
  binV .add (.int .i64 1) (o12.2 0)).bind fun x13=>
  some (x13,[]))
theorem eq_tree_Depth(a0:V):P0 f_tree_Depth [.v a0] []=F_tree_Depth a0:=
 (pcL_eq (fn:=p_tree_Depth) (by kernel_rfl) _ _).trans (by kernel_rfl)
noncomputable def L_tree_Weight_1(n15:Nat)(c14:V)(v16:Nat→V):Option ((Nat→V) ⊕ (Nat×(Nat→V))):=
(binV .lss (v16 1) (.int .i64 ((n15:Nat):Int))).bind fun x17=>
(
  asBool x17).bind fun b18=>
  if b18=true then
(asSl 8 c14).bind fun l19=>
(idxV (v16 1) (l19.length)).bind fun i20=>
(
  l19[i20]?).bind fun e21=>
  tst (okN 8 e21) ((P0 f_tree_Weight [.v e21] []).bind fun r22=>
(binV .add (v16 0) r22.1).bind fun x23=>
(
  binV .add (v16 1) (.int .i64 1)).bind fun x24=>
  some (.inl (vec [x23,x24])))
else
 some (.inr (0,(vec [(v16 0)])))
noncomputable def F_tree_Weight(a0:V):Option (V×List V):=
 tst (okN 8 a0) ((((fldV a0 0).bind fun c1=>
(binV .eql c1 (.int .i64 3)).bind fun x2=>
(
  asBool x2).bind fun b3=>
  if b3=true then
(fldV a0 3).bind fun c4=>
(
  lenV c4).bind fun n5=>
  some (0,(vec [(.int .i64 (IntKind.wrap .i64 (1+((n5:Nat):Int))))]))
else
(((binV .eql c1 (.int .i64 4)).bind fun x6=>
(
  asBool x6).bind fun b7=>
  if b7=true then
  some (0,(vec [x6]))
else
(
  binV .eql c1 (.int .i64 5)).bind fun x8=>
  some (0,(vec [x8])):Option (Nat×(Nat→V)))).bind fun o9=>
(
  asBool (o9.2 0)).bind fun b10=>
  if b10=true then
(fldV a0 5).bind fun c11=>
(
  lnsV c11).bind fun n12=>
  some (0,(vec [(.int .i64 (IntKind.wrap .i64 (1+((n12:Nat):Int))))]))
else
 some (0,(vec [(.int .i64 1)])):Option (Nat×(Nat→V)))).bind fun o13=>
(fldV a0 7).bind fun c14=>
(lenV c14).bind fun n15=>
(
  loopL (L_tree_Weight_1 n15 c14) (vec [(o13.2 0),(.int .i64 0)])).bind fun o25=>
  some ((o25.2 0),[]))
theorem eq_tree_Weight(a0:V):P0 f_tree_Weight [.v a0] []=F_tree_Weight a0:=
 (pcL_eq (fn:=p_tree_Weight) (by kernel_rfl) _ _).trans (by kernel_rfl)
noncomputable def L_law00_Tree_1(a0:V)(v14:Nat→V):Option ((Nat→V) ⊕ (Nat×(Nat→V))):=
(fldV a0 7).bind fun c15=>
(lenV c15).bind fun n16=>
(binV .lss (v14 0) (.int .i64 ((n16:Nat):Int))).bind fun x17=>
(
  asBool x17).bind fun b18=>
  if b18=true then
(fldV a0 7).bind fun c19=>
(asSl 8 c19).bind fun l20=>
(idxV (v14 0) (l20.length)).bind fun i21=>
(l20[i21]?).bind fun e22=>
(
  P0 f_law00_Tree [.v e22] []).bind fun r23=>
  tst (okN 8 r23.1) (tst (szOk 8 [r23.1]) (tst (appOk 120 ((V.elems (v14 8)).length) (List.length (α:=V) [r23.1])) ((binV .add (v14 0) (.int .i64 1)).bind fun x24=>
  some (.inl (vec [x24,(v14 1),(v14 2),(v14 3),(v14 4),(v14 5),(v14 6),(v14 7),(.sl ((V.elems (v14 8))++([r23.1]:List V)))])))))
else
 some (.inr (0,(vec [(v14 1),(v14 2),(v14 3),(v14 4),(v14 5),(v14 6),(v14 7),(.sl (V.elems (v14 8)))])))
noncomputable def F_law00_Tree(a0:V):Option (V×List V):=
 tst (okN 8 a0) ((fldV a0 0).bind fun c1=>
(fldV a0 1).bind fun c2=>
(P0 f_law00_Num [.v (subV a0 2 3)] []).bind fun r3=>
(fldV a0 5).bind fun c4=>
(fldV a0 6).bind fun c5=>
(
  P0 f_law00_Strings [.v c5] []).bind fun r6=>
  tst (okN 1 c1) ((fldV c1 0).bind fun c7=>
  tst (okN 1 c2) ((fldV c2 0).bind fun c8=>
  tst (okN 3 r3.1) ((fldV r3.1 0).bind fun c9=>
(fldV r3.1 1).bind fun c10=>
(
  fldV r3.1 2).bind fun c11=>
  tst (okN 1 c4) ((fldV c4 0).bind fun c12=>
  tst (okN 1 r6.1) ((fldV r6.1 0).bind fun c13=>
(
  loopL (L_law00_Tree_1 a0) (vec [(.int .i64 0),c7,c8,c9,c10,c11,c12,c13,(.sl [])])).bind fun o25=>
  some ((.agg [(o25.2 0),(o25.2 1),(o25.2 2),(o25.2 3),(o25.2 4),(o25.2 5),(o25.2 6),(.sl (V.elems (o25.2 7)))]),[])))))))
theorem eq_law00_Tree(a0:V):P0 f_law00_Tree [.v a0] []=F_law00_Tree a0:=
 (pcL_eq (fn:=p_law00_Tree) (by kernel_rfl) _ _).trans (by kernel_rfl)
noncomputable def L_tree_Nodes_1(n2:Nat)(c1:V)(v3:Nat→V):Option ((Nat→V) ⊕ (Nat×(Nat→V))):=
(binV .lss (v3 1) (.int .i64 ((n2:Nat):Int))).bind fun x4=>
(
  asBool x4).bind fun b5=>
  if b5=true then
(asSl 8 c1).bind fun l6=>
(idxV (v3 1) (l6.length)).bind fun i7=>
(
  l6[i7]?).bind fun e8=>
  tst (okN 8 e8) ((P0 f_tree_Nodes [.v e8] []).bind fun r9=>
(binV .add (v3 0) r9.1).bind fun x10=>
(
  binV .add (v3 1) (.int .i64 1)).bind fun x11=>
  some (.inl (vec [x10,x11])))
else
 some (.inr (0,(vec [(v3 0)])))
noncomputable def F_tree_Nodes(a0:V):Option (V×List V):=
 tst (okN 8 a0) ((fldV a0 7).bind fun c1=>
(lenV c1).bind fun n2=>
(
  loopL (L_tree_Nodes_1 n2 c1) (vec [(.int .i64 1),(.int .i64 0)])).bind fun o12=>
  some ((o12.2 0),[]))
theorem eq_tree_Nodes(a0:V):P0 f_tree_Nodes [.v a0] []=F_tree_Nodes a0:=
 (pcL_eq (fn:=p_tree_Nodes) (by kernel_rfl) _ _).trans (by kernel_rfl)
noncomputable def F_law00_Light(a0:V)(a1:V):Option (V×List V):=
 tst (okN 8 a0) ((P0 f_law00_light [.v a0,.v a1] []).bind fun r1=>
(
  binV .geq r1.1 (.int .i64 0)).bind fun x2=>
  some (x2,[]))
theorem eq_law00_Light(a0:V)(a1:V):P0 f_law00_Light [.v a0,.v a1] []=F_law00_Light a0 a1:=
 (pcL_eq (fn:=p_law00_Light) (by kernel_rfl) _ _).trans (by kernel_rfl)
noncomputable def F_law16_awake:Option (V×List V):=
(
  P0 f_merge_Merge [.v (.agg [(.int .i64 7),(.bool false),(.bool false),(.sl []),(.int .i64 0),(.str []),(.sl [(.str [97]),(.str [98])]),(.sl [(.agg [(.int .i64 2),(.bool false),(.bool false),(.sl []),(.int .i64 0),(.str []),(.sl []),(.sl [])]),(.agg [(.int .i64 2),(.bool false),(.bool false),(.sl []),(.int .i64 0),(.str []),(.sl []),(.sl [])])])]),.v (.agg [(.int .i64 7),(.bool false),(.bool false),(.sl []),(.int .i64 0),(.str []),(.sl [(.str [97]),(.str [99])]),(.sl [(.agg [(.int .i64 1),(.bool false),(.bool false),(.sl []),(.int .i64 0),(.str []),(.sl []),(.sl [])]),(.agg [(.int .i64 2),(.bool true),(.bool false),(.sl []),(.int .i64 0),(.str []),(.sl []),(.sl [])])])])] []).bind fun r1=>
  tst (okN 8 r1.1) ((fldV r1.1 6).bind fun c2=>
(lenV c2).bind fun n3=>
((if((((n3:Nat):Int):Int) == 2)=true then
(fldV r1.1 7).bind fun c4=>
(
  lenV c4).bind fun n5=>
  some (.bool ((((n5:Nat):Int):Int) == 2))
else some (.bool false):Option V)).bind fun x6=>
(asBool x6).bind fun b7=>
((if b7=true then
(fldV r1.1 6).bind fun c8=>
(asSl 1 c8).bind fun l9=>
(idxV (.int .i64 0) (l9.length)).bind fun i10=>
(l9[i10]?).bind fun e11=>
(fldV e11 0).bind fun c12=>
(
  binV .eql c12 (.str [98])).bind fun x13=>
  some x13
else some (.bool false):Option V)).bind fun x14=>
(asBool x14).bind fun b15=>
((if b15=true then
(fldV r1.1 6).bind fun c16=>
(asSl 1 c16).bind fun l17=>
(idxV (.int .i64 1) (l17.length)).bind fun i18=>
(l17[i18]?).bind fun e19=>
(fldV e19 0).bind fun c20=>
(
  binV .eql c20 (.str [99])).bind fun x21=>
  some x21
else some (.bool false):Option V)).bind fun x22=>
(asBool x22).bind fun b23=>
((if b23=true then
(fldV r1.1 7).bind fun c24=>
(asSl 8 c24).bind fun l25=>
(idxV (.int .i64 1) (l25.length)).bind fun i26=>
(l25[i26]?).bind fun e27=>
(
  fldV e27 1).bind fun c28=>
  some c28
else some (.bool false):Option V)).bind fun x29=>
(asBool x29).bind fun b30=>
((if b30=true then
(
  P0 f_merge_Clean [.v r1.1] []).bind fun r31=>
  some r31.1
else some (.bool false):Option V)).bind fun x32=>
 some (x32,[]))
theorem eq_law16_awake:P0 f_law16_awake [] []=F_law16_awake:=
 (pcL_eq (fn:=p_law16_awake) (by kernel_rfl) _ _).trans (by kernel_rfl)
noncomputable def F_merge_Apply(a0:V)(a1:V)(a2:V):Option (V×List V):=
 tst (okN 8 a0) (tst (okN 8 a1) ((P0 f_tree_Check [.v a0] []).bind fun r1=>
(unV .not r1.1).bind fun x2=>
(asBool x2).bind fun b3=>
((if b3=false then
(P0 f_tree_Check [.v a1] []).bind fun r4=>
(
  unV .not r4.1).bind fun x5=>
  some x5
else some (.bool true):Option V)).bind fun x6=>
(
  asBool x6).bind fun b7=>
  if b7=true then
  some ((.tup [(.agg [(.int .i64 0),(.bool false),(.bool false),(.sl []),(.int .i64 0),(.str []),(.sl []),(.sl [])]),(.int .i64 1)]),[])
else
(
  P0 f_merge_Merge [.v a0,.v a1] []).bind fun r8=>
  tst (okN 8 r8.1) ((P0 f_merge_fits [.v r8.1,.v a2] []).bind fun r9=>
(unV .not r9.1).bind fun x10=>
(
  asBool x10).bind fun b11=>
  if b11=true then
  some ((.tup [(.agg [(.int .i64 0),(.bool false),(.bool false),(.sl []),(.int .i64 0),(.str []),(.sl []),(.sl [])]),(.int .i64 4)]),[])
else
 tst (okN 8 r8.1) (some ((.tup [r8.1,(.int .i64 0)]),[])))))
theorem eq_merge_Apply(a0:V)(a1:V)(a2:V):P0 f_merge_Apply [.v a0,.v a1,.v a2] []=F_merge_Apply a0 a1 a2:=
 (pcL_eq (fn:=p_merge_Apply) (by kernel_rfl) _ _).trans (by kernel_rfl)
noncomputable def F_ref16_Apply(a0:V)(a1:V)(a2:V):Option (V×List V):=
 tst (okN 8 a0) (tst (okN 8 a1) ((P0 f_ref05_Check [.v a0] []).bind fun r1=>
(unV .not r1.1).bind fun x2=>
(asBool x2).bind fun b3=>
((if b3=false then
(P0 f_ref05_Check [.v a1] []).bind fun r4=>
(
  unV .not r4.1).bind fun x5=>
  some x5
else some (.bool true):Option V)).bind fun x6=>
(
  asBool x6).bind fun b7=>
  if b7=true then
  some ((.tup [(.agg [(.int .i64 0),(.bool false),(.bool false),(.sl []),(.int .i64 0),(.str []),(.sl []),(.sl [])]),(.int .i64 1)]),[])
else
(
  P0 f_ref16_Merge [.v a0,.v a1] []).bind fun r8=>
  tst (okN 8 r8.1) ((P0 f_ref15_Fits [.v r8.1,.v a2] []).bind fun r9=>
(unV .not r9.1).bind fun x10=>
(
  asBool x10).bind fun b11=>
  if b11=true then
  some ((.tup [(.agg [(.int .i64 0),(.bool false),(.bool false),(.sl []),(.int .i64 0),(.str []),(.sl []),(.sl [])]),(.int .i64 4)]),[])
else
 tst (okN 8 r8.1) (some ((.tup [r8.1,(.int .i64 0)]),[])))))
theorem eq_ref16_Apply(a0:V)(a1:V)(a2:V):P0 f_ref16_Apply [.v a0,.v a1,.v a2] []=F_ref16_Apply a0 a1 a2:=
 (pcL_eq (fn:=p_ref16_Apply) (by kernel_rfl) _ _).trans (by kernel_rfl)
noncomputable def L_law00_SameTree_1(a0:V)(a1:V)(v32:Nat→V):Option ((Nat→V) ⊕ (Nat×(Nat→V))):=
(fldV a0 7).bind fun c33=>
(lenV c33).bind fun n34=>
(binV .lss (v32 0) (.int .i64 ((n34:Nat):Int))).bind fun x35=>
(
  asBool x35).bind fun b36=>
  if b36=true then
(fldV a0 7).bind fun c37=>
(asSl 8 c37).bind fun l38=>
(idxV (v32 0) (l38.length)).bind fun i39=>
(l38[i39]?).bind fun e40=>
(fldV a1 7).bind fun c41=>
(asSl 8 c41).bind fun l42=>
(idxV (v32 0) (l42.length)).bind fun i43=>
(l42[i43]?).bind fun e44=>
(P0 f_law00_SameTree [.v e40,.v e44] []).bind fun r45=>
(unV .not r45.1).bind fun x46=>
(
  asBool x46).bind fun b47=>
  if b47=true then
  some (.inr (1,(vec [(.bool false)])))
else
(
  binV .add (v32 0) (.int .i64 1)).bind fun x48=>
  some (.inl (vec [x48]))
else
 some (.inr (0,(vec [])))
noncomputable def F_law00_SameTree(a0:V)(a1:V):Option (V×List V):=
 tst (okN 8 a0) (tst (okN 8 a1) ((fldV a0 0).bind fun c1=>
(fldV a1 0).bind fun c2=>
(binV .neq c1 c2).bind fun x3=>
(asBool x3).bind fun b4=>
((if b4=false then
(fldV a0 1).bind fun c5=>
(fldV a1 1).bind fun c6=>
(asBool c5).bind fun b7=>
(
  asBool c6).bind fun b8=>
  some (.bool (!(b7 == b8)))
else some (.bool true):Option V)).bind fun x9=>
(asBool x9).bind fun b10=>
((if b10=false then
(P0 f_law00_SameNum [.v (subV a0 2 3),.v (subV a1 2 3)] []).bind fun r11=>
(
  unV .not r11.1).bind fun x12=>
  some x12
else some (.bool true):Option V)).bind fun x13=>
(asBool x13).bind fun b14=>
((if b14=false then
(fldV a0 5).bind fun c15=>
(fldV a1 5).bind fun c16=>
(
  binV .neq c15 c16).bind fun x17=>
  some x17
else some (.bool true):Option V)).bind fun x18=>
(asBool x18).bind fun b19=>
((if b19=false then
(fldV a0 6).bind fun c20=>
(fldV a1 6).bind fun c21=>
(P0 f_law00_SameStrings [.v c20,.v c21] []).bind fun r22=>
(
  unV .not r22.1).bind fun x23=>
  some x23
else some (.bool true):Option V)).bind fun x24=>
(asBool x24).bind fun b25=>
((if b25=false then
(fldV a0 7).bind fun c26=>
(lenV c26).bind fun n27=>
(fldV a1 7).bind fun c28=>
(
  lenV c28).bind fun n29=>
  some (.bool ((((n27:Nat):Int):Int) != ((n29:Nat):Int)))
else some (.bool true):Option V)).bind fun x30=>
(
  asBool x30).bind fun b31=>
  if b31=true then
  some ((.bool false),[])
else
(
  loopL (L_law00_SameTree_1 a0 a1) (vec [(.int .i64 0)])).bind fun o49=>
  if o49.1=0 then
  some ((.bool true),[])
else
 some ((o49.2 0),[])))
theorem eq_law00_SameTree(a0:V)(a1:V):P0 f_law00_SameTree [.v a0,.v a1] []=F_law00_SameTree a0 a1:=
 (pcL_eq (fn:=p_law00_SameTree) (by kernel_rfl) _ _).trans (by kernel_rfl)
noncomputable def F_merge_Clean(a0:V):Option (V×List V):=
 tst (okN 8 a0) ((fldV a0 0).bind fun c1=>
(binV .neq c1 (.int .i64 7)).bind fun x2=>
(asBool x2).bind fun b3=>
((if b3=false then
(fldV a0 7).bind fun c4=>
(P0 f_slices_ContainsFunc_aT [.v c4,.fn f_merge_Clean_1 []] []).bind fun r5=>
(
  unV .not r5.1).bind fun x6=>
  some x6
else some (.bool true):Option V)).bind fun x7=>
 some (x7,[]))
theorem eq_merge_Clean(a0:V):P0 f_merge_Clean [.v a0] []=F_merge_Clean a0:=
 (pcL_eq (fn:=p_merge_Clean) (by kernel_rfl) _ _).trans (by kernel_rfl)
noncomputable def L_ref16_Clean_1(a0:V)(v1:Nat→V):Option ((Nat→V) ⊕ (Nat×(Nat→V))):=
(fldV a0 7).bind fun c2=>
(lenV c2).bind fun n3=>
(binV .lss (v1 0) (.int .i64 ((n3:Nat):Int))).bind fun x4=>
(asBool x4).bind fun b5=>
((if b5=true then
(fldV a0 0).bind fun c6=>
(
  binV .eql c6 (.int .i64 7)).bind fun x7=>
  some x7
else some (.bool false):Option V)).bind fun x8=>
(
  asBool x8).bind fun b9=>
  if b9=true then
(fldV a0 7).bind fun c10=>
(asSl 8 c10).bind fun l11=>
(idxV (v1 0) (l11.length)).bind fun i12=>
(l11[i12]?).bind fun e13=>
(fldV e13 0).bind fun c14=>
(binV .eql c14 (.int .i64 1)).bind fun x15=>
(asBool x15).bind fun b16=>
((if b16=false then
(fldV a0 7).bind fun c17=>
(asSl 8 c17).bind fun l18=>
(idxV (v1 0) (l18.length)).bind fun i19=>
(l18[i19]?).bind fun e20=>
(P0 f_ref16_Clean [.v e20] []).bind fun r21=>
(
  unV .not r21.1).bind fun x22=>
  some x22
else some (.bool true):Option V)).bind fun x23=>
(
  asBool x23).bind fun b24=>
  if b24=true then
  some (.inr (1,(vec [(.bool false)])))
else
(
  binV .add (v1 0) (.int .i64 1)).bind fun x25=>
  some (.inl (vec [x25]))
else
 some (.inr (0,(vec [])))
noncomputable def F_ref16_Clean(a0:V):Option (V×List V):=
 tst (okN 8 a0) ((loopL (L_ref16_Clean_1 a0) (vec [(.int .i64 0)])).bind fun o26=>
 if o26.1=0 then
 some ((.bool true),[])
else
 some ((o26.2 0),[]))
theorem eq_ref16_Clean(a0:V):P0 f_ref16_Clean [.v a0] []=F_ref16_Clean a0:=
 (pcL_eq (fn:=p_ref16_Clean) (by kernel_rfl) _ _).trans (by kernel_rfl)
noncomputable def F_ref05_Check(a0:V):Option (V×List V):=
 tst (okN 8 a0) ((P0 f_ref05_walk [.v a0,.v (.int .i64 1),.v (.int .i64 0)] []).bind fun r1=>
(
  binV .geq r1.1 (.int .i64 0)).bind fun x2=>
  some (x2,[]))
theorem eq_ref05_Check(a0:V):P0 f_ref05_Check [.v a0] []=F_ref05_Check a0:=
 (pcL_eq (fn:=p_ref05_Check) (by kernel_rfl) _ _).trans (by kernel_rfl)
noncomputable def L_ref05_Same_1(a0:V)(a1:V)(v42:Nat→V):Option ((Nat→V) ⊕ (Nat×(Nat→V))):=
(fldV a0 6).bind fun c43=>
(lenV c43).bind fun n44=>
(binV .lss (v42 0) (.int .i64 ((n44:Nat):Int))).bind fun x45=>
(asBool x45).bind fun b46=>
((if b46=true then
(fldV a0 0).bind fun c47=>
(
  binV .eql c47 (.int .i64 7)).bind fun x48=>
  some x48
else some (.bool false):Option V)).bind fun x49=>
(
  asBool x49).bind fun b50=>
  if b50=true then
(fldV a0 6).bind fun c51=>
(asSl 1 c51).bind fun l52=>
(idxV (v42 0) (l52.length)).bind fun i53=>
(l52[i53]?).bind fun e54=>
(fldV e54 0).bind fun c55=>
(fldV a1 6).bind fun c56=>
(asSl 1 c56).bind fun l57=>
(idxV (v42 0) (l57.length)).bind fun i58=>
(l57[i58]?).bind fun e59=>
(fldV e59 0).bind fun c60=>
(binV .neq c55 c60).bind fun x61=>
(
  asBool x61).bind fun b62=>
  if b62=true then
  some (.inr (1,(vec [(.bool false)])))
else
(
  binV .add (v42 0) (.int .i64 1)).bind fun x63=>
  some (.inl (vec [x63]))
else
 some (.inr (0,(vec [])))
noncomputable def L_ref05_Same_2(a0:V)(a1:V)(v65:Nat→V):Option ((Nat→V) ⊕ (Nat×(Nat→V))):=
(fldV a0 7).bind fun c66=>
(lenV c66).bind fun n67=>
(binV .lss (v65 0) (.int .i64 ((n67:Nat):Int))).bind fun x68=>
(
  asBool x68).bind fun b69=>
  if b69=true then
(fldV a0 7).bind fun c70=>
(asSl 8 c70).bind fun l71=>
(idxV (v65 0) (l71.length)).bind fun i72=>
(l71[i72]?).bind fun e73=>
(fldV a1 7).bind fun c74=>
(asSl 8 c74).bind fun l75=>
(idxV (v65 0) (l75.length)).bind fun i76=>
(l75[i76]?).bind fun e77=>
(P0 f_ref05_Same [.v e73,.v e77] []).bind fun r78=>
(unV .not r78.1).bind fun x79=>
(
  asBool x79).bind fun b80=>
  if b80=true then
  some (.inr (1,(vec [(.bool false)])))
else
(
  binV .add (v65 0) (.int .i64 1)).bind fun x81=>
  some (.inl (vec [x81]))
else
 some (.inr (0,(vec [])))
noncomputable def F_ref05_Same(a0:V)(a1:V):Option (V×List V):=
 tst (okN 8 a0) (tst (okN 8 a1) ((fldV a0 0).bind fun c1=>
(fldV a1 0).bind fun c2=>
(binV .neq c1 c2).bind fun x3=>
(
  asBool x3).bind fun b4=>
  if b4=true then
  some ((.bool false),[])
else
(fldV a0 0).bind fun c5=>
(binV .eql c5 (.int .i64 2)).bind fun x6=>
(
  asBool x6).bind fun b7=>
  if b7=true then
(fldV a0 1).bind fun c8=>
(fldV a1 1).bind fun c9=>
(asBool c8).bind fun b10=>
(
  asBool c9).bind fun b11=>
  some ((.bool (b10 == b11)),[])
else
(binV .eql c5 (.int .i64 3)).bind fun x12=>
(
  asBool x12).bind fun b13=>
  if b13=true then
(
  P0 f_ref02_Same [.v (subV a0 2 3),.v (subV a1 2 3)] []).bind fun r14=>
  some (r14.1,[])
else
(((binV .eql c5 (.int .i64 4)).bind fun x15=>
(
  asBool x15).bind fun b16=>
  if b16=true then
  some (0,(vec [x15]))
else
(
  binV .eql c5 (.int .i64 5)).bind fun x17=>
  some (0,(vec [x17])):Option (Nat×(Nat→V)))).bind fun o18=>
(
  asBool (o18.2 0)).bind fun b19=>
  if b19=true then
(fldV a0 5).bind fun c20=>
(fldV a1 5).bind fun c21=>
(
  binV .eql c20 c21).bind fun x22=>
  some (x22,[])
else
(((binV .eql c5 (.int .i64 6)).bind fun x23=>
(
  asBool x23).bind fun b24=>
  if b24=true then
  some (0,(vec [x23]))
else
(
  binV .eql c5 (.int .i64 7)).bind fun x25=>
  some (0,(vec [x25])):Option (Nat×(Nat→V)))).bind fun o26=>
(
  asBool (o26.2 0)).bind fun b27=>
  if b27=true then
(fldV a0 7).bind fun c28=>
(lenV c28).bind fun n29=>
(fldV a1 7).bind fun c30=>
(lenV c30).bind fun n31=>
((if((((n29:Nat):Int):Int) != ((n31:Nat):Int))=false then
(fldV a0 0).bind fun c32=>
(binV .eql c32 (.int .i64 7)).bind fun x33=>
(asBool x33).bind fun b34=>
((if b34=true then
(fldV a0 6).bind fun c35=>
(lenV c35).bind fun n36=>
(fldV a1 6).bind fun c37=>
(
  lenV c37).bind fun n38=>
  some (.bool ((((n36:Nat):Int):Int) != ((n38:Nat):Int)))
else some (.bool false):Option V)).bind fun x39=>
 some x39
else some (.bool true):Option V)).bind fun x40=>
(
  asBool x40).bind fun b41=>
  if b41=true then
  some ((.bool false),[])
else
(
  loopL (L_ref05_Same_1 a0 a1) (vec [(.int .i64 0)])).bind fun o64=>
  if o64.1=0 then
(
  loopL (L_ref05_Same_2 a0 a1) (vec [(.int .i64 0)])).bind fun o82=>
  if o82.1=0 then
  some ((.bool true),[])
else
 some ((o82.2 0),[])
else
 some ((o64.2 0),[])
else
 some ((.bool true),[])))
theorem eq_ref05_Same(a0:V)(a1:V):P0 f_ref05_Same [.v a0,.v a1] []=F_ref05_Same a0 a1:=
 (pcL_eq (fn:=p_ref05_Same) (by kernel_rfl) _ _).trans (by kernel_rfl)
noncomputable def L_merge_Merge_1(l22:List V)(q23:Nat×Nat)(a1:V)(v24:Nat→V):Option ((Nat→V) ⊕ (Nat×(Nat→V))):=
(binV .lss (v24 0) (.int .i64 (((((l22.drop q23.1).take (q23.2 - q23.1)).length):Nat):Int))).bind fun x25=>
(
  asBool x25).bind fun b26=>
  if b26=true then
(asSl 1 (.sl ((l22.drop q23.1).take (q23.2 - q23.1)))).bind fun l27=>
(idxV (v24 0) (l27.length)).bind fun i28=>
(l27[i28]?).bind fun e29=>
(fldV e29 0).bind fun c30=>
(fldV a1 7).bind fun c31=>
(asSl 8 c31).bind fun l32=>
(idxV (v24 0) (l32.length)).bind fun i33=>
(l32[i33]?).bind fun e34=>
(fldV e34 0).bind fun c35=>
(binV .eql c35 (.int .i64 1)).bind fun x36=>
(
  asBool x36).bind fun b37=>
  if b37=true then
(
  P0 f_tree_Unset [.v (v24 1),.v c30] []).bind fun r38=>
  tst (okN 8 r38.1) ((binV .add (v24 0) (.int .i64 1)).bind fun x39=>
  some (.inl (vec [x39,r38.1])))
else
(P0 f_tree_Member [.v (v24 1),.v c30] []).bind fun r40=>
(extV r40.1 0).bind fun x41=>
(
  extV r40.1 1).bind fun x42=>
  tst (okN 8 x41) ((((unV .not x42).bind fun x43=>
(
  asBool x43).bind fun b44=>
  if b44=true then
  some (0,(vec [(.int .i64 1),(.bool false),(.bool false),(.sl []),(.int .i64 0),(.str []),(.sl []),(.sl [])]))
else
(fldV x41 0).bind fun c45=>
(fldV x41 1).bind fun c46=>
(fldV x41 2).bind fun c47=>
(fldV x41 3).bind fun c48=>
(fldV x41 4).bind fun c49=>
(fldV x41 5).bind fun c50=>
(fldV x41 6).bind fun c51=>
(
  fldV x41 7).bind fun c52=>
  some (0,(vec [c45,c46,c47,c48,c49,c50,c51,c52])):Option (Nat×(Nat→V)))).bind fun o53=>
(fldV a1 7).bind fun c54=>
(asSl 8 c54).bind fun l55=>
(idxV (v24 0) (l55.length)).bind fun i56=>
(l55[i56]?).bind fun e57=>
(P0 f_merge_Merge [.v (.agg [(o53.2 0),(o53.2 1),(o53.2 2),(o53.2 3),(o53.2 4),(o53.2 5),(o53.2 6),(o53.2 7)]),.v e57] []).bind fun r58=>
(
  P0 f_tree_Set [.v (v24 1),.v c30,.v r58.1] []).bind fun r59=>
  tst (okN 8 r59.1) ((binV .add (v24 0) (.int .i64 1)).bind fun x60=>
  some (.inl (vec [x60,r59.1]))))
else
 some (.inr (0,(vec [(v24 1)])))
noncomputable def F_merge_Merge(a0:V)(a1:V):Option (V×List V):=
 tst (okN 8 a0) (tst (okN 8 a1) ((fldV a1 0).bind fun c1=>
(binV .neq c1 (.int .i64 7)).bind fun x2=>
(
  asBool x2).bind fun b3=>
  if b3=true then
  tst (okN 8 a1) (some (a1,[]))
else
(((fldV a0 0).bind fun c4=>
(binV .neq c4 (.int .i64 7)).bind fun x5=>
(
  asBool x5).bind fun b6=>
  if b6=true then
  some (0,(vec [(.int .i64 7),(.bool false),(.bool false),(.sl []),(.int .i64 0),(.str []),(.sl []),(.sl [])]))
else
(fldV a0 0).bind fun c7=>
(fldV a0 1).bind fun c8=>
(fldV a0 2).bind fun c9=>
(fldV a0 3).bind fun c10=>
(fldV a0 4).bind fun c11=>
(fldV a0 5).bind fun c12=>
(fldV a0 6).bind fun c13=>
(
  fldV a0 7).bind fun c14=>
  some (0,(vec [c7,c8,c9,c10,c11,c12,c13,c14])):Option (Nat×(Nat→V)))).bind fun o15=>
(fldV a1 6).bind fun c16=>
(fldV a1 6).bind fun c17=>
(lenV c17).bind fun n18=>
(fldV a1 7).bind fun c19=>
(lenV c19).bind fun n20=>
(minV (.int .i64 ((n18:Nat):Int)) [(.int .i64 ((n20:Nat):Int))]).bind fun x21=>
(asSl 1 c16).bind fun l22=>
(bnd2 none (some x21) (l22.length)).bind fun q23=>
(
  loopL (L_merge_Merge_1 l22 q23 a1) (vec [(.int .i64 0),(.agg [(o15.2 0),(o15.2 1),(o15.2 2),(o15.2 3),(o15.2 4),(o15.2 5),(o15.2 6),(o15.2 7)])])).bind fun o61=>
  tst (okN 8 (o61.2 0)) (some ((o61.2 0),[]))))
theorem eq_merge_Merge(a0:V)(a1:V):P0 f_merge_Merge [.v a0,.v a1] []=F_merge_Merge a0 a1:=
 (pcL_eq (fn:=p_merge_Merge) (by kernel_rfl) _ _).trans (by kernel_rfl)
noncomputable def L_ref16_Merge_1(a1:V)(v8:Nat→V):Option ((Nat→V) ⊕ (Nat×(Nat→V))):=
(fldV a1 6).bind fun c9=>
(lenV c9).bind fun n10=>
(binV .lss (v8 0) (.int .i64 ((n10:Nat):Int))).bind fun x11=>
(asBool x11).bind fun b12=>
((if b12=true then
(fldV a1 7).bind fun c13=>
(lenV c13).bind fun n14=>
(
  binV .lss (v8 0) (.int .i64 ((n14:Nat):Int))).bind fun x15=>
  some x15
else some (.bool false):Option V)).bind fun x16=>
(
  asBool x16).bind fun b17=>
  if b17=true then
(fldV a1 7).bind fun c18=>
(asSl 8 c18).bind fun l19=>
(idxV (v8 0) (l19.length)).bind fun i20=>
(l19[i20]?).bind fun e21=>
(fldV e21 0).bind fun c22=>
(binV .eql c22 (.int .i64 1)).bind fun x23=>
(
  asBool x23).bind fun b24=>
  if b24=true then
(fldV a1 6).bind fun c25=>
(asSl 1 c25).bind fun l26=>
(idxV (v8 0) (l26.length)).bind fun i27=>
(l26[i27]?).bind fun e28=>
(fldV e28 0).bind fun c29=>
(
  P0 f_ref05_Unset [.v (v8 1),.v c29] []).bind fun r30=>
  tst (okN 8 r30.1) ((binV .add (v8 0) (.int .i64 1)).bind fun x31=>
  some (.inl (vec [x31,r30.1])))
else
(fldV a1 6).bind fun c32=>
(asSl 1 c32).bind fun l33=>
(idxV (v8 0) (l33.length)).bind fun i34=>
(l33[i34]?).bind fun e35=>
(fldV e35 0).bind fun c36=>
(P0 f_ref05_Member [.v (v8 1),.v c36] []).bind fun r37=>
(extV r37.1 0).bind fun x38=>
(
  extV r37.1 1).bind fun x39=>
  tst (okN 8 x38) ((((unV .not x39).bind fun x40=>
(
  asBool x40).bind fun b41=>
  if b41=true then
  some (0,(vec [(.int .i64 1),(.bool false),(.bool false),(.sl []),(.int .i64 0),(.str []),(.sl []),(.sl [])]))
else
(fldV x38 0).bind fun c42=>
(fldV x38 1).bind fun c43=>
(fldV x38 2).bind fun c44=>
(fldV x38 3).bind fun c45=>
(fldV x38 4).bind fun c46=>
(fldV x38 5).bind fun c47=>
(fldV x38 6).bind fun c48=>
(
  fldV x38 7).bind fun c49=>
  some (0,(vec [c42,c43,c44,c45,c46,c47,c48,c49])):Option (Nat×(Nat→V)))).bind fun o50=>
(fldV a1 6).bind fun c51=>
(asSl 1 c51).bind fun l52=>
(idxV (v8 0) (l52.length)).bind fun i53=>
(l52[i53]?).bind fun e54=>
(fldV e54 0).bind fun c55=>
(fldV a1 7).bind fun c56=>
(asSl 8 c56).bind fun l57=>
(idxV (v8 0) (l57.length)).bind fun i58=>
(l57[i58]?).bind fun e59=>
(P0 f_ref16_Merge [.v (.agg [(o50.2 0),(o50.2 1),(o50.2 2),(o50.2 3),(o50.2 4),(o50.2 5),(o50.2 6),(o50.2 7)]),.v e59] []).bind fun r60=>
(
  P0 f_ref05_Set [.v (v8 1),.v c55,.v r60.1] []).bind fun r61=>
  tst (okN 8 r61.1) ((binV .add (v8 0) (.int .i64 1)).bind fun x62=>
  some (.inl (vec [x62,r61.1]))))
else
 some (.inr (0,(vec [(v8 1)])))
noncomputable def F_ref16_Merge(a0:V)(a1:V):Option (V×List V):=
 tst (okN 8 a0) (tst (okN 8 a1) ((fldV a1 0).bind fun c1=>
(binV .neq c1 (.int .i64 7)).bind fun x2=>
(
  asBool x2).bind fun b3=>
  if b3=true then
  tst (okN 8 a1) (some (a1,[]))
else
(((fldV a0 0).bind fun c4=>
(binV .eql c4 (.int .i64 7)).bind fun x5=>
(
  asBool x5).bind fun b6=>
  if b6=true then
  tst (okN 8 a0) (some (0,(vec [a0])))
else
 some (0,(vec [(.agg [(.int .i64 7),(.bool false),(.bool false),(.sl []),(.int .i64 0),(.str []),(.sl []),(.sl [])])])):Option (Nat×(Nat→V)))).bind fun o7=>
(
  loopL (L_ref16_Merge_1 a1) (vec [(.int .i64 0),(o7.2 0)])).bind fun o63=>
  tst (okN 8 (o63.2 0)) (some ((o63.2 0),[]))))
theorem eq_ref16_Merge(a0:V)(a1:V):P0 f_ref16_Merge [.v a0,.v a1] []=F_ref16_Merge a0 a1:=
 (pcL_eq (fn:=p_ref16_Merge) (by kernel_rfl) _ _).trans (by kernel_rfl)
noncomputable def F_tree_Set(a0:V)(a1:V)(a2:V):Option (V×List V):=
 tst (okN 8 a0) (tst (okN 1 a1) ((fldV a1 0).bind fun c1=>
 tst (okN 8 a2) ((P0 f_tree_cut [.v a0] []).bind fun r2=>
(extV r2.1 0).bind fun x3=>
(extV r2.1 1).bind fun x4=>
(lenV x3).bind fun n5=>
(lenV x4).bind fun n6=>
(mksV 16 (.int .i64 ((n5:Nat):Int)) (.int .i64 ((n5:Nat):Int))).bind fun q7=>
(mksV 120 (.int .i64 ((n6:Nat):Int)) (.int .i64 ((n6:Nat):Int))).bind fun q8=>
(asEl 1 x3).bind fun l9=>
(asEl 8 x4).bind fun l10=>
(P0 f_slices_Index_string [.v (.sl (((setL (List.replicate q7.2 (.str [])) 0 (l9.take (Nat.min (l9.length) q7.1))).drop 0).take q7.1)),.v c1] []).bind fun r11=>
(binV .geq r11.1 (.int .i64 0)).bind fun x12=>
(
  asBool x12).bind fun b13=>
  if b13=true then
(
  idxV r11.1 q8.1).bind fun i14=>
  tst (okN 8 a2) (some ((.agg [(.int .i64 7),(.bool false),(.bool false),(.sl []),(.int .i64 0),(.str []),(.sl (((setL (List.replicate q7.2 (.str [])) 0 (l9.take (Nat.min (l9.length) q7.1))).drop 0).take q7.1)),(.sl ((((setL (List.replicate q8.2 (.agg [(.int .i64 0),(.bool false),(.bool false),(.sl []),(.int .i64 0),(.str []),(.sl []),(.sl [])])) 0 (l10.take (Nat.min (l10.length) q8.1))).set (0+i14) a2).drop 0).take q8.1))]),[]))
else
(P0 f_slices_IndexFunc_string [.v (.sl (((setL (List.replicate q7.2 (.str [])) 0 (l9.take (Nat.min (l9.length) q7.1))).drop 0).take q7.1)),.fn f_tree_Set_1 [.p 0 0]] [(false,1,c1)]).bind fun r15=>
(r15.2[0]?).bind fun y16=>
(((binV .lss r15.1 (.int .i64 0)).bind fun x17=>
(
  asBool x17).bind fun b18=>
  if b18=true then
  some (0,(vec [(.int .i64 ((q7.1:Nat):Int))]))
else
 some (0,(vec [r15.1])):Option (Nat×(Nat→V)))).bind fun o19=>
 tst (okN 1 y16) ((fldV y16 0).bind fun c20=>
 tst (Nat.beq q7.1 q7.2) ((P0 f_slices_Insert_string [.u,.v (.sl (((setL (List.replicate q7.2 (.str [])) 0 (l9.take (Nat.min (l9.length) q7.1))).drop 0).take q7.1)),.v (o19.2 0),.v (.sl [c20])] []).bind fun r21=>
 tst (okN 8 a2) (tst (Nat.beq q8.1 q8.2) ((P0 f_slices_Insert_aT [.u,.v (.sl (((setL (List.replicate q8.2 (.agg [(.int .i64 0),(.bool false),(.bool false),(.sl []),(.int .i64 0),(.str []),(.sl []),(.sl [])])) 0 (l10.take (Nat.min (l10.length) q8.1))).drop 0).take q8.1)),.v (o19.2 0),.v (.sl [a2])] []).bind fun r22=>
 tst (okN 1 r21.1) ((fldV r21.1 0).bind fun c23=>
 tst (okN 1 r22.1) ((fldV r22.1 0).bind fun c24=>
 some ((.agg [(.int .i64 7),(.bool false),(.bool false),(.sl []),(.int .i64 0),(.str []),c23,c24]),[]))))))))))
theorem eq_tree_Set(a0:V)(a1:V)(a2:V):P0 f_tree_Set [.v a0,.v a1,.v a2] []=F_tree_Set a0 a1 a2:=
 (pcL_eq (fn:=p_tree_Set) (by kernel_rfl) _ _).trans (by kernel_rfl)
noncomputable def F_tree_Member(a0:V)(a1:V):Option (V×List V):=
 tst (okN 8 a0) ((P0 f_tree_cut [.v a0] []).bind fun r1=>
(extV r1.1 0).bind fun x2=>
(extV r1.1 1).bind fun x3=>
(P0 f_slices_Index_string [.v x2,.v a1] []).bind fun r4=>
(binV .geq r4.1 (.int .i64 0)).bind fun x5=>
(
  asBool x5).bind fun b6=>
  if b6=true then
(asSl 8 x3).bind fun l7=>
(idxV r4.1 (l7.length)).bind fun i9=>
(
  l7[i9]?).bind fun e10=>
  tst (okN 8 e10) (some ((.tup [e10,(.bool true)]),[]))
else
 some ((.tup [(.agg [(.int .i64 0),(.bool false),(.bool false),(.sl []),(.int .i64 0),(.str []),(.sl []),(.sl [])]),(.bool false)]),[]))
theorem eq_tree_Member(a0:V)(a1:V):P0 f_tree_Member [.v a0,.v a1] []=F_tree_Member a0 a1:=
 (pcL_eq (fn:=p_tree_Member) (by kernel_rfl) _ _).trans (by kernel_rfl)
noncomputable def F_tree_Unset(a0:V)(a1:V):Option (V×List V):=
 tst (okN 8 a0) ((P0 f_tree_cut [.v a0] []).bind fun r1=>
(extV r1.1 0).bind fun x2=>
(extV r1.1 1).bind fun x3=>
(P0 f_slices_Index_string [.v x2,.v a1] []).bind fun r4=>
(binV .lss r4.1 (.int .i64 0)).bind fun x5=>
(
  asBool x5).bind fun b6=>
  if b6=true then
  tst (okN 8 a0) (some (a0,[]))
else
(asSl 1 x2).bind fun l7=>
(bnd2 none (some r4.1) (l7.length)).bind fun q8=>
(binV .add r4.1 (.int .i64 1)).bind fun x9=>
(asSl 1 x2).bind fun l10=>
(bnd2 (some x9) none (l10.length)).bind fun q11=>
(P0 f_slices_Concat_string [.v (.sl [(.sl ((l7.drop q8.1).take (q8.2 - q8.1))),(.sl ((l10.drop q11.1).take (q11.2 - q11.1)))])] []).bind fun r12=>
(asSl 8 x3).bind fun l13=>
(bnd2 none (some r4.1) (l13.length)).bind fun q14=>
(binV .add r4.1 (.int .i64 1)).bind fun x15=>
(asSl 8 x3).bind fun l16=>
(bnd2 (some x15) none (l16.length)).bind fun q17=>
(
  P0 f_slices_Concat_aT [.v (.sl [(.sl ((l13.drop q14.1).take (q14.2 - q14.1))),(.sl ((l16.drop q17.1).take (q17.2 - q17.1)))])] []).bind fun r18=>
  tst (okN 1 r12.1) ((fldV r12.1 0).bind fun c19=>
  tst (okN 1 r18.1) ((fldV r18.1 0).bind fun c20=>
  some ((.agg [(.int .i64 7),(.bool false),(.bool false),(.sl []),(.int .i64 0),(.str []),c19,c20]),[]))))
theorem eq_tree_Unset(a0:V)(a1:V):P0 f_tree_Unset [.v a0,.v a1] []=F_tree_Unset a0 a1:=
 (pcL_eq (fn:=p_tree_Unset) (by kernel_rfl) _ _).trans (by kernel_rfl)
noncomputable def L_tree_check_1(n13:Nat)(c12:V)(a1:V)(v14:Nat→V):Option ((Nat→V) ⊕ (Nat×(Nat→V))):=
(binV .lss (v14 0) (.int .i64 ((n13:Nat):Int))).bind fun x15=>
(
  asBool x15).bind fun b16=>
  if b16=true then
(asSl 8 c12).bind fun l17=>
(idxV (v14 0) (l17.length)).bind fun i18=>
(
  l17[i18]?).bind fun e19=>
  tst (okN 8 e19) ((binV .add a1 (.int .i64 1)).bind fun x20=>
(P0 f_tree_check [.v e19,.v x20,.p 0 0] [(false,1,(v14 1))]).bind fun r21=>
(r21.2[0]?).bind fun y22=>
(unV .not r21.1).bind fun x23=>
(
  asBool x23).bind fun b24=>
  if b24=true then
  some (.inr (1,(vec [(.bool false),y22])))
else
(
  binV .add (v14 0) (.int .i64 1)).bind fun x25=>
  some (.inl (vec [x25,y22])))
else
 some (.inr (0,(vec [(v14 1)])))
noncomputable def F_tree_check(a0:V)(a1:V)(a2:V):Option (V×List V):=
 tst (okN 8 a0) ((binV .sub a2 (.int .i64 1)).bind fun x1=>
 tst (okN 1 x1) ((fldV x1 0).bind fun c2=>
(binV .lss c2 (.int .i64 0)).bind fun x3=>
(asBool x3).bind fun b4=>
((if b4=false then
(
  binV .gtr a1 (.int .i64 64)).bind fun x5=>
  some x5
else some (.bool true):Option V)).bind fun x6=>
(asBool x6).bind fun b7=>
((if b7=false then
(P0 f_tree_own [.v a0] []).bind fun r8=>
(
  unV .not r8.1).bind fun x9=>
  some x9
else some (.bool true):Option V)).bind fun x10=>
(
  asBool x10).bind fun b11=>
  if b11=true then
  some ((.bool false),[c2])
else
(fldV a0 7).bind fun c12=>
(lenV c12).bind fun n13=>
(
  loopL (L_tree_check_1 n13 c12 a1) (vec [(.int .i64 0),c2])).bind fun o26=>
  if o26.1=0 then
  some ((.bool true),[(o26.2 0)])
else
 some ((o26.2 0),[(o26.2 1)])))
theorem eq_tree_check(a0:V)(a1:V)(a2:V):P0 f_tree_check [.v a0,.v a1,.p 0 0] [(false,1,a2)]=F_tree_check a0 a1 a2:=
 (pcL_eq (fn:=p_tree_check) (by kernel_rfl) _ _).trans (by kernel_rfl)
noncomputable def F_law00_Num(a0:V):Option (V×List V):=
 tst (okN 3 a0) ((fldV a0 0).bind fun c1=>
(fldV a0 1).bind fun c2=>
(P0 f_law00_Limbs [.g,.v c2] []).bind fun r3=>
(slV r3.1).bind fun l4=>
(
  fldV a0 2).bind fun c5=>
  tst (okN 1 c1) ((fldV c1 0).bind fun c6=>
  tst (okN 1 c5) ((fldV c5 0).bind fun c7=>
  some ((.agg [c6,(.sl l4),c7]),[]))))
theorem eq_law00_Num(a0:V):P0 f_law00_Num [.v a0] []=F_law00_Num a0:=
 (pcL_eq (fn:=p_law00_Num) (by kernel_rfl) _ _).trans (by kernel_rfl)
noncomputable def F_law00_Strings(a0:V):Option (V×List V):=
(
  asEl 1 a0).bind fun l1=>
  tst (appOk 16 (List.length (α:=V) []) (l1.length)) (some ((.sl (([]:List V)++l1)),[]))
theorem eq_law00_Strings(a0:V):P0 f_law00_Strings [.v a0] []=F_law00_Strings a0:=
 (pcL_eq (fn:=p_law00_Strings) (by kernel_rfl) _ _).trans (by kernel_rfl)
noncomputable def L_law00_light_1(a0:V)(v16:Nat→V):Option ((Nat→V) ⊕ (Nat×(Nat→V))):=
(fldV a0 6).bind fun c17=>
(lenV c17).bind fun n18=>
(binV .lss (v16 0) (.int .i64 ((n18:Nat):Int))).bind fun x19=>
(
  asBool x19).bind fun b20=>
  if b20=true then
(fldV a0 6).bind fun c21=>
(asSl 1 c21).bind fun l22=>
(idxV (v16 0) (l22.length)).bind fun i23=>
(l22[i23]?).bind fun e24=>
(fldV e24 0).bind fun c25=>
(
  lnsV c25).bind fun n26=>
  if(decide ((((n26:Nat):Int):Int) > 2100))=true then
  some (.inr (1,(vec [(.int .i64 (-1))])))
else
(
  binV .add (v16 0) (.int .i64 1)).bind fun x27=>
  some (.inl (vec [x27]))
else
 some (.inr (0,(vec [])))
noncomputable def L_law00_light_2(a0:V)(v29:Nat→V):Option ((Nat→V) ⊕ (Nat×(Nat→V))):=
(fldV a0 7).bind fun c30=>
(lenV c30).bind fun n31=>
(binV .lss (v29 1) (.int .i64 ((n31:Nat):Int))).bind fun x32=>
(asBool x32).bind fun b33=>
((if b33=true then
(
  binV .geq (v29 0) (.int .i64 0)).bind fun x34=>
  some x34
else some (.bool false):Option V)).bind fun x35=>
(
  asBool x35).bind fun b36=>
  if b36=true then
(fldV a0 7).bind fun c37=>
(asSl 8 c37).bind fun l38=>
(idxV (v29 1) (l38.length)).bind fun i39=>
(l38[i39]?).bind fun e40=>
(P0 f_law00_light [.v e40,.v (v29 0)] []).bind fun r41=>
(
  binV .add (v29 1) (.int .i64 1)).bind fun x42=>
  some (.inl (vec [r41.1,x42]))
else
 some (.inr (0,(vec [(v29 0)])))
noncomputable def F_law00_light(a0:V)(a1:V):Option (V×List V):=
 tst (okN 8 a0) ((binV .sub a1 (.int .i64 1)).bind fun x1=>
(fldV a0 3).bind fun c2=>
(lenV c2).bind fun n3=>
((if(decide ((((n3:Nat):Int):Int) > 95))=false then
(fldV a0 5).bind fun c4=>
(
  lnsV c4).bind fun n5=>
  some (.bool (decide ((((n5:Nat):Int):Int) > 2100)))
else some (.bool true):Option V)).bind fun x6=>
(asBool x6).bind fun b7=>
((if b7=false then
(fldV a0 6).bind fun c8=>
(
  lenV c8).bind fun n9=>
  some (.bool (decide ((((n9:Nat):Int):Int) > 40)))
else some (.bool true):Option V)).bind fun x10=>
(asBool x10).bind fun b11=>
((if b11=false then
(fldV a0 7).bind fun c12=>
(
  lenV c12).bind fun n13=>
  some (.bool (decide ((((n13:Nat):Int):Int) > 40)))
else some (.bool true):Option V)).bind fun x14=>
(
  asBool x14).bind fun b15=>
  if b15=true then
  some ((.int .i64 (-1)),[])
else
(
  loopL (L_law00_light_1 a0) (vec [(.int .i64 0)])).bind fun o28=>
  if o28.1=0 then
(
  loopL (L_law00_light_2 a0) (vec [x1,(.int .i64 0)])).bind fun o43=>
  some ((o43.2 0),[])
else
 some ((o28.2 0),[]))
theorem eq_law00_light(a0:V)(a1:V):P0 f_law00_light [.v a0,.v a1] []=F_law00_light a0 a1:=
 (pcL_eq (fn:=p_law00_light) (by kernel_rfl) _ _).trans (by kernel_rfl)
noncomputable def F_merge_fits(a0:V)(a1:V):Option (V×List V):=
 tst (okN 8 a0) ((P0 f_tree_Weight [.v a0] []).bind fun r1=>
(binV .leq r1.1 a1).bind fun x2=>
(asBool x2).bind fun b3=>
((if b3=true then
(P0 f_tree_Nodes [.v a0] []).bind fun r4=>
(
  binV .leq r4.1 (.int .i64 2000)).bind fun x5=>
  some x5
else some (.bool false):Option V)).bind fun x6=>
(asBool x6).bind fun b7=>
((if b7=true then
(P0 f_tree_Depth [.v a0] []).bind fun r8=>
(
  binV .leq r8.1 (.int .i64 64)).bind fun x9=>
  some x9
else some (.bool false):Option V)).bind fun x10=>
(asBool x10).bind fun b11=>
((if b11=true then
(
  P0 f_merge_few [.v a0] []).bind fun r12=>
  some r12.1
else some (.bool false):Option V)).bind fun x13=>
 some (x13,[]))
theorem eq_merge_fits(a0:V)(a1:V):P0 f_merge_fits [.v a0,.v a1] []=F_merge_fits a0 a1:=
 (pcL_eq (fn:=p_merge_fits) (by kernel_rfl) _ _).trans (by kernel_rfl)
noncomputable def F_ref15_Fits(a0:V)(a1:V):Option (V×List V):=
 tst (okN 8 a0) ((P0 f_ref05_Weight [.v a0] []).bind fun r1=>
(binV .leq r1.1 a1).bind fun x2=>
(asBool x2).bind fun b3=>
((if b3=true then
(P0 f_ref05_Nodes [.v a0] []).bind fun r4=>
(
  binV .leq r4.1 (.int .i64 2000)).bind fun x5=>
  some x5
else some (.bool false):Option V)).bind fun x6=>
(asBool x6).bind fun b7=>
((if b7=true then
(P0 f_ref05_Depth [.v a0] []).bind fun r8=>
(
  binV .leq r8.1 (.int .i64 64)).bind fun x9=>
  some x9
else some (.bool false):Option V)).bind fun x10=>
(asBool x10).bind fun b11=>
((if b11=true then
(P0 f_ref15_wide [.v a0] []).bind fun r12=>
(
  unV .not r12.1).bind fun x13=>
  some x13
else some (.bool false):Option V)).bind fun x14=>
 some (x14,[]))
theorem eq_ref15_Fits(a0:V)(a1:V):P0 f_ref15_Fits [.v a0,.v a1] []=F_ref15_Fits a0 a1:=
 (pcL_eq (fn:=p_ref15_Fits) (by kernel_rfl) _ _).trans (by kernel_rfl)
noncomputable def F_law00_SameNum(a0:V)(a1:V):Option (V×List V):=
 tst (okN 3 a0) (tst (okN 3 a1) ((fldV a0 0).bind fun c1=>
(fldV a1 0).bind fun c2=>
(asBool c1).bind fun b3=>
(asBool c2).bind fun b4=>
((if(b3 == b4)=true then
(fldV a0 2).bind fun c5=>
(fldV a1 2).bind fun c6=>
(
  binV .eql c5 c6).bind fun x7=>
  some x7
else some (.bool false):Option V)).bind fun x8=>
(asBool x8).bind fun b9=>
((if b9=true then
(fldV a0 1).bind fun c10=>
(fldV a1 1).bind fun c11=>
(
  P0 f_law00_SameLimbs [.v c10,.v c11] []).bind fun r12=>
  some r12.1
else some (.bool false):Option V)).bind fun x13=>
 some (x13,[])))
theorem eq_law00_SameNum(a0:V)(a1:V):P0 f_law00_SameNum [.v a0,.v a1] []=F_law00_SameNum a0 a1:=
 (pcL_eq (fn:=p_law00_SameNum) (by kernel_rfl) _ _).trans (by kernel_rfl)
noncomputable def L_law00_SameStrings_1(a0:V)(a1:V)(v3:Nat→V):Option ((Nat→V) ⊕ (Nat×(Nat→V))):=
(lenV a0).bind fun n4=>
(binV .lss (v3 0) (.int .i64 ((n4:Nat):Int))).bind fun x5=>
(
  asBool x5).bind fun b6=>
  if b6=true then
(asSl 1 a0).bind fun l7=>
(idxV (v3 0) (l7.length)).bind fun i9=>
(l7[i9]?).bind fun e10=>
(fldV e10 0).bind fun c11=>
(asSl 1 a1).bind fun l12=>
(idxV (v3 0) (l12.length)).bind fun i13=>
(l12[i13]?).bind fun e14=>
(fldV e14 0).bind fun c15=>
(binV .neq c11 c15).bind fun x16=>
(
  asBool x16).bind fun b17=>
  if b17=true then
  some (.inr (1,(vec [(.bool false)])))
else
(
  binV .add (v3 0) (.int .i64 1)).bind fun x18=>
  some (.inl (vec [x18]))
else
 some (.inr (0,(vec [])))
noncomputable def F_law00_SameStrings(a0:V)(a1:V):Option (V×List V):=
(lenV a0).bind fun n1=>
(
  lenV a1).bind fun n2=>
  if((((n1:Nat):Int):Int) != ((n2:Nat):Int))=true then
  some ((.bool false),[])
else
(
  loopL (L_law00_SameStrings_1 a0 a1) (vec [(.int .i64 0)])).bind fun o19=>
  if o19.1=0 then
  some ((.bool true),[])
else
 some ((o19.2 0),[])
theorem eq_law00_SameStrings(a0:V)(a1:V):P0 f_law00_SameStrings [.v a0,.v a1] []=F_law00_SameStrings a0 a1:=
 (pcL_eq (fn:=p_law00_SameStrings) (by kernel_rfl) _ _).trans (by kernel_rfl)
noncomputable def F_slices_ContainsFunc_aT(a0:V)(a1:Nat):Option (V×List V):=
(P0 f_slices_IndexFunc_aT [.v a0,.fn a1 []] []).bind fun r1=>
(
  binV .geq r1.1 (.int .i64 0)).bind fun x2=>
  some (x2,[])
theorem eq_slices_ContainsFunc_aT(a0:V)(a1:Nat):P0 f_slices_ContainsFunc_aT [.v a0,.fn a1 []] []=F_slices_ContainsFunc_aT a0 a1:=
 (pcL_eq (fn:=p_slices_ContainsFunc_aT) (by kernel_rfl) _ _).trans (by kernel_rfl)
noncomputable def F_merge_Clean_1(a0:V):Option (V×List V):=
 tst (okN 8 a0) ((fldV a0 0).bind fun c1=>
(binV .eql c1 (.int .i64 1)).bind fun x2=>
(asBool x2).bind fun b3=>
((if b3=false then
(P0 f_merge_Clean [.v a0] []).bind fun r4=>
(
  unV .not r4.1).bind fun x5=>
  some x5
else some (.bool true):Option V)).bind fun x6=>
 some (x6,[]))
theorem eq_merge_Clean_1(a0:V):P0 f_merge_Clean_1 [.v a0] []=F_merge_Clean_1 a0:=
 (pcL_eq (fn:=p_merge_Clean_1) (by kernel_rfl) _ _).trans (by kernel_rfl)
noncomputable def L_ref05_walk_1(a0:V)(a1:V)(v11:Nat→V):Option ((Nat→V) ⊕ (Nat×(Nat→V))):=
(fldV a0 7).bind fun c12=>
(lenV c12).bind fun n13=>
(binV .lss (v11 1) (.int .i64 ((n13:Nat):Int))).bind fun x14=>
(asBool x14).bind fun b15=>
((if b15=true then
(
  binV .geq (v11 0) (.int .i64 0)).bind fun x16=>
  some x16
else some (.bool false):Option V)).bind fun x17=>
(
  asBool x17).bind fun b18=>
  if b18=true then
(fldV a0 7).bind fun c19=>
(asSl 8 c19).bind fun l20=>
(idxV (v11 1) (l20.length)).bind fun i21=>
(l20[i21]?).bind fun e22=>
(binV .add a1 (.int .i64 1)).bind fun x23=>
(P0 f_ref05_walk [.v e22,.v x23,.v (v11 0)] []).bind fun r24=>
(
  binV .add (v11 1) (.int .i64 1)).bind fun x25=>
  some (.inl (vec [r24.1,x25]))
else
 some (.inr (0,(vec [(v11 0)])))
noncomputable def F_ref05_walk(a0:V)(a1:V)(a2:V):Option (V×List V):=
 tst (okN 8 a0) ((binV .add a2 (.int .i64 1)).bind fun x1=>
(binV .gtr x1 (.int .i64 2000)).bind fun x2=>
(asBool x2).bind fun b3=>
((if b3=false then
(
  binV .gtr a1 (.int .i64 64)).bind fun x4=>
  some x4
else some (.bool true):Option V)).bind fun x5=>
(asBool x5).bind fun b6=>
((if b6=false then
(P0 f_ref05_fields [.v a0] []).bind fun r7=>
(
  unV .not r7.1).bind fun x8=>
  some x8
else some (.bool true):Option V)).bind fun x9=>
(
  asBool x9).bind fun b10=>
  if b10=true then
  some ((.int .i64 (-1)),[])
else
(
  loopL (L_ref05_walk_1 a0 a1) (vec [x1,(.int .i64 0)])).bind fun o26=>
  some ((o26.2 0),[]))
theorem eq_ref05_walk(a0:V)(a1:V)(a2:V):P0 f_ref05_walk [.v a0,.v a1,.v a2] []=F_ref05_walk a0 a1 a2:=
 (pcL_eq (fn:=p_ref05_walk) (by kernel_rfl) _ _).trans (by kernel_rfl)
noncomputable def F_ref02_Same(a0:V)(a1:V):Option (V×List V):=
 tst (okN 3 a0) (tst (okN 3 a1) ((P0 f_ref02_Is [.v a0] []).bind fun r1=>
(
  P0 f_ref02_Is [.v a1] []).bind fun r2=>
  tst (okN 3 r1.1) (tst (okN 3 r2.1) ((fldV r1.1 0).bind fun c3=>
(fldV r2.1 0).bind fun c4=>
(asBool c3).bind fun b5=>
(asBool c4).bind fun b6=>
((if(b5 == b6)=true then
(fldV r1.1 2).bind fun c7=>
(fldV r2.1 2).bind fun c8=>
(
  binV .eql c7 c8).bind fun x9=>
  some x9
else some (.bool false):Option V)).bind fun x10=>
(asBool x10).bind fun b11=>
((if b11=true then
(fldV r1.1 1).bind fun c12=>
(fldV r2.1 1).bind fun c13=>
(P0 f_ref01_Cmp [.v c12,.v c13] []).bind fun r14=>
(
  binV .eql r14.1 (.int .i64 0)).bind fun x15=>
  some x15
else some (.bool false):Option V)).bind fun x16=>
 some (x16,[])))))
theorem eq_ref02_Same(a0:V)(a1:V):P0 f_ref02_Same [.v a0,.v a1] []=F_ref02_Same a0 a1:=
 (pcL_eq (fn:=p_ref02_Same) (by kernel_rfl) _ _).trans (by kernel_rfl)
noncomputable def L_ref05_Unset_1(a0:V)(a1:V)(v6:Nat→V):Option ((Nat→V) ⊕ (Nat×(Nat→V))):=
(fldV a0 6).bind fun c7=>
(lenV c7).bind fun n8=>
(binV .lss (v6 1) (.int .i64 ((n8:Nat):Int))).bind fun x9=>
(asBool x9).bind fun b10=>
((if b10=true then
(fldV a0 7).bind fun c11=>
(lenV c11).bind fun n12=>
(
  binV .lss (v6 1) (.int .i64 ((n12:Nat):Int))).bind fun x13=>
  some x13
else some (.bool false):Option V)).bind fun x14=>
(
  asBool x14).bind fun b15=>
  if b15=true then
(unV .not (v6 0)).bind fun x16=>
(asBool x16).bind fun b17=>
((if b17=true then
(fldV a0 6).bind fun c18=>
(asSl 1 c18).bind fun l19=>
(idxV (v6 1) (l19.length)).bind fun i20=>
(l19[i20]?).bind fun e21=>
(fldV e21 0).bind fun c22=>
(
  binV .eql c22 a1).bind fun x23=>
  some x23
else some (.bool false):Option V)).bind fun x24=>
(
  asBool x24).bind fun b25=>
  if b25=true then
(
  binV .add (v6 1) (.int .i64 1)).bind fun x26=>
  some (.inl (vec [(.bool true),x26,(v6 2),(v6 3),(v6 4),(.sl (V.elems (v6 5))),(v6 6),(v6 7),(.sl (V.elems (v6 8))),(.sl (V.elems (v6 9)))]))
else
(fldV a0 6).bind fun c27=>
(asSl 1 c27).bind fun l28=>
(idxV (v6 1) (l28.length)).bind fun i29=>
(l28[i29]?).bind fun e30=>
(
  fldV e30 0).bind fun c31=>
  tst (okN 1 c31) ((fldV c31 0).bind fun c32=>
  tst (szOk 1 [c32]) (tst (appOk 16 ((V.elems (v6 8)).length) (List.length (α:=V) [c32])) ((fldV a0 7).bind fun c33=>
(asSl 8 c33).bind fun l34=>
(idxV (v6 1) (l34.length)).bind fun i35=>
(
  l34[i35]?).bind fun e36=>
  tst (okN 8 e36) (tst (szOk 8 [e36]) (tst (appOk 120 ((V.elems (v6 9)).length) (List.length (α:=V) [e36])) ((binV .add (v6 1) (.int .i64 1)).bind fun x37=>
  some (.inl (vec [(v6 0),x37,(v6 2),(v6 3),(v6 4),(.sl (V.elems (v6 5))),(v6 6),(v6 7),(.sl ((V.elems (v6 8))++([c32]:List V))),(.sl ((V.elems (v6 9))++([e36]:List V)))]))))))))
else
 some (.inr (0,(vec [(v6 2),(v6 3),(v6 4),(.sl (V.elems (v6 5))),(v6 6),(v6 7),(.sl (V.elems (v6 8))),(.sl (V.elems (v6 9)))])))
noncomputable def F_ref05_Unset(a0:V)(a1:V):Option (V×List V):=
 tst (okN 8 a0) ((P0 f_ref05_Member [.v a0,.v a1] []).bind fun r1=>
(extV r1.1 0).bind fun x2=>
(
  extV r1.1 1).bind fun x3=>
  tst (okN 8 x2) ((unV .not x3).bind fun x4=>
(
  asBool x4).bind fun b5=>
  if b5=true then
  tst (okN 8 a0) (some (a0,[]))
else
(
  loopL (L_ref05_Unset_1 a0 a1) (vec [(.bool false),(.int .i64 0),(.int .i64 7),(.bool false),(.bool false),(.sl []),(.int .i64 0),(.str []),(.sl []),(.sl [])])).bind fun o38=>
  some ((.agg [(o38.2 0),(o38.2 1),(o38.2 2),(.sl (V.elems (o38.2 3))),(o38.2 4),(o38.2 5),(.sl (V.elems (o38.2 6))),(.sl (V.elems (o38.2 7)))]),[])))
theorem eq_ref05_Unset(a0:V)(a1:V):P0 f_ref05_Unset [.v a0,.v a1] []=F_ref05_Unset a0 a1:=
 (pcL_eq (fn:=p_ref05_Unset) (by kernel_rfl) _ _).trans (by kernel_rfl)
noncomputable def L_ref05_Member_1(a0:V)(a1:V)(v1:Nat→V):Option ((Nat→V) ⊕ (Nat×(Nat→V))):=
(fldV a0 6).bind fun c2=>
(lenV c2).bind fun n3=>
(binV .lss (v1 0) (.int .i64 ((n3:Nat):Int))).bind fun x4=>
(asBool x4).bind fun b5=>
((if b5=true then
(fldV a0 7).bind fun c6=>
(lenV c6).bind fun n7=>
(
  binV .lss (v1 0) (.int .i64 ((n7:Nat):Int))).bind fun x8=>
  some x8
else some (.bool false):Option V)).bind fun x9=>
(asBool x9).bind fun b10=>
((if b10=true then
(fldV a0 0).bind fun c11=>
(
  binV .eql c11 (.int .i64 7)).bind fun x12=>
  some x12
else some (.bool false):Option V)).bind fun x13=>
(
  asBool x13).bind fun b14=>
  if b14=true then
(fldV a0 6).bind fun c15=>
(asSl 1 c15).bind fun l16=>
(idxV (v1 0) (l16.length)).bind fun i17=>
(l16[i17]?).bind fun e18=>
(fldV e18 0).bind fun c19=>
(binV .eql c19 a1).bind fun x20=>
(
  asBool x20).bind fun b21=>
  if b21=true then
(fldV a0 7).bind fun c22=>
(asSl 8 c22).bind fun l23=>
(idxV (v1 0) (l23.length)).bind fun i24=>
(
  l23[i24]?).bind fun e25=>
  tst (okN 8 e25) (some (.inr (1,(vec [(.bool true),e25]))))
else
(
  binV .add (v1 0) (.int .i64 1)).bind fun x26=>
  some (.inl (vec [x26,(v1 1),(v1 2),(v1 3),(v1 4),(v1 5),(v1 6),(v1 7),(v1 8)]))
else
 some (.inr (0,(vec [(.agg [(v1 1),(v1 2),(v1 3),(v1 4),(v1 5),(v1 6),(v1 7),(v1 8)])])))
noncomputable def F_ref05_Member(a0:V)(a1:V):Option (V×List V):=
 tst (okN 8 a0) ((loopL (L_ref05_Member_1 a0 a1) (vec [(.int .i64 0),(.int .i64 0),(.bool false),(.bool false),(.sl []),(.int .i64 0),(.str []),(.sl []),(.sl [])])).bind fun o27=>
 if o27.1=0 then
 some ((.tup [(.agg [(.int .i64 0),(.bool false),(.bool false),(.sl []),(.int .i64 0),(.str []),(.sl []),(.sl [])]),(.bool false)]),[])
else
 some ((.tup [(o27.2 1),(o27.2 0)]),[]))
theorem eq_ref05_Member(a0:V)(a1:V):P0 f_ref05_Member [.v a0,.v a1] []=F_ref05_Member a0 a1:=
 (pcL_eq (fn:=p_ref05_Member) (by kernel_rfl) _ _).trans (by kernel_rfl)
noncomputable def L_ref05_Set_1(a0:V)(a1:V)(a2:V)(x3:V)(v4:Nat→V):Option ((Nat→V) ⊕ (Nat×(Nat→V))):=
(fldV a0 6).bind fun c5=>
(lenV c5).bind fun n6=>
(binV .lss (v4 1) (.int .i64 ((n6:Nat):Int))).bind fun x7=>
(asBool x7).bind fun b8=>
((if b8=true then
(fldV a0 7).bind fun c9=>
(lenV c9).bind fun n10=>
(
  binV .lss (v4 1) (.int .i64 ((n10:Nat):Int))).bind fun x11=>
  some x11
else some (.bool false):Option V)).bind fun x12=>
(asBool x12).bind fun b13=>
((if b13=true then
(fldV a0 0).bind fun c14=>
(
  binV .eql c14 (.int .i64 7)).bind fun x15=>
  some x15
else some (.bool false):Option V)).bind fun x16=>
(
  asBool x16).bind fun b17=>
  if b17=true then
(unV .not (v4 0)).bind fun x18=>
(asBool x18).bind fun b19=>
((if b19=true then
(fldV a0 6).bind fun c20=>
(asSl 1 c20).bind fun l21=>
(idxV (v4 1) (l21.length)).bind fun i22=>
(l21[i22]?).bind fun e23=>
(fldV e23 0).bind fun c24=>
(
  binV .eql c24 a1).bind fun x25=>
  some x25
else some (.bool false):Option V)).bind fun x26=>
(
  asBool x26).bind fun b27=>
  if b27=true then
  tst (okN 1 a1) ((fldV a1 0).bind fun c28=>
  tst (szOk 1 [c28]) (tst (appOk 16 ((V.elems (v4 8)).length) (List.length (α:=V) [c28])) (tst (okN 8 a2) (tst (szOk 8 [a2]) (tst (appOk 120 ((V.elems (v4 9)).length) (List.length (α:=V) [a2])) ((binV .add (v4 1) (.int .i64 1)).bind fun x29=>
  some (.inl (vec [(.bool true),x29,(v4 2),(v4 3),(v4 4),(.sl (V.elems (v4 5))),(v4 6),(v4 7),(.sl ((V.elems (v4 8))++([c28]:List V))),(.sl ((V.elems (v4 9))++([a2]:List V)))]))))))))
else
(unV .not (v4 0)).bind fun x30=>
(asBool x30).bind fun b31=>
((if b31=true then
(
  unV .not x3).bind fun x32=>
  some x32
else some (.bool false):Option V)).bind fun x33=>
(asBool x33).bind fun b34=>
((if b34=true then
(fldV a0 6).bind fun c35=>
(asSl 1 c35).bind fun l36=>
(idxV (v4 1) (l36.length)).bind fun i37=>
(l36[i37]?).bind fun e38=>
(fldV e38 0).bind fun c39=>
(
  binV .gtr c39 a1).bind fun x40=>
  some x40
else some (.bool false):Option V)).bind fun x41=>
(
  asBool x41).bind fun b42=>
  if b42=true then
  tst (okN 1 a1) ((fldV a1 0).bind fun c43=>
  tst (szOk 1 [c43]) (tst (appOk 16 ((V.elems (v4 8)).length) (List.length (α:=V) [c43])) (tst (okN 8 a2) (tst (szOk 8 [a2]) (tst (appOk 120 ((V.elems (v4 9)).length) (List.length (α:=V) [a2])) ((fldV a0 6).bind fun c44=>
(asSl 1 c44).bind fun l45=>
(idxV (v4 1) (l45.length)).bind fun i46=>
(l45[i46]?).bind fun e47=>
(
  fldV e47 0).bind fun c48=>
  tst (okN 1 c48) ((fldV c48 0).bind fun c49=>
  tst (szOk 1 [c49]) (tst (appOk 16 (((V.elems (v4 8))++([c43]:List V)).length) (List.length (α:=V) [c49])) ((fldV a0 7).bind fun c50=>
(asSl 8 c50).bind fun l51=>
(idxV (v4 1) (l51.length)).bind fun i52=>
(
  l51[i52]?).bind fun e53=>
  tst (okN 8 e53) (tst (szOk 8 [e53]) (tst (appOk 120 (((V.elems (v4 9))++([a2]:List V)).length) (List.length (α:=V) [e53])) ((binV .add (v4 1) (.int .i64 1)).bind fun x54=>
  some (.inl (vec [(.bool true),x54,(v4 2),(v4 3),(v4 4),(.sl (V.elems (v4 5))),(v4 6),(v4 7),(.sl (((V.elems (v4 8))++([c43]:List V))++([c49]:List V))),(.sl (((V.elems (v4 9))++([a2]:List V))++([e53]:List V)))]))))))))))))))
else
(fldV a0 6).bind fun c55=>
(asSl 1 c55).bind fun l56=>
(idxV (v4 1) (l56.length)).bind fun i57=>
(l56[i57]?).bind fun e58=>
(
  fldV e58 0).bind fun c59=>
  tst (okN 1 c59) ((fldV c59 0).bind fun c60=>
  tst (szOk 1 [c60]) (tst (appOk 16 ((V.elems (v4 8)).length) (List.length (α:=V) [c60])) ((fldV a0 7).bind fun c61=>
(asSl 8 c61).bind fun l62=>
(idxV (v4 1) (l62.length)).bind fun i63=>
(
  l62[i63]?).bind fun e64=>
  tst (okN 8 e64) (tst (szOk 8 [e64]) (tst (appOk 120 ((V.elems (v4 9)).length) (List.length (α:=V) [e64])) ((binV .add (v4 1) (.int .i64 1)).bind fun x65=>
  some (.inl (vec [(v4 0),x65,(v4 2),(v4 3),(v4 4),(.sl (V.elems (v4 5))),(v4 6),(v4 7),(.sl ((V.elems (v4 8))++([c60]:List V))),(.sl ((V.elems (v4 9))++([e64]:List V)))]))))))))
else
 some (.inr (0,(vec [(v4 0),(v4 2),(v4 3),(v4 4),(.sl (V.elems (v4 5))),(v4 6),(v4 7),(.sl (V.elems (v4 8))),(.sl (V.elems (v4 9)))])))
noncomputable def F_ref05_Set(a0:V)(a1:V)(a2:V):Option (V×List V):=
 tst (okN 8 a0) (tst (okN 8 a2) ((P0 f_ref05_Member [.v a0,.v a1] []).bind fun r1=>
(extV r1.1 0).bind fun x2=>
(
  extV r1.1 1).bind fun x3=>
  tst (okN 8 x2) ((loopL (L_ref05_Set_1 a0 a1 a2 x3) (vec [(.bool false),(.int .i64 0),(.int .i64 7),(.bool false),(.bool false),(.sl []),(.int .i64 0),(.str []),(.sl []),(.sl [])])).bind fun o66=>
(unV .not (o66.2 0)).bind fun x67=>
(
  asBool x67).bind fun b68=>
  if b68=true then
  tst (okN 1 a1) ((fldV a1 0).bind fun c69=>
  tst (szOk 1 [c69]) (tst (appOk 16 ((V.elems (o66.2 7)).length) (List.length (α:=V) [c69])) (tst (okN 8 a2) (tst (szOk 8 [a2]) (tst (appOk 120 ((V.elems (o66.2 8)).length) (List.length (α:=V) [a2])) (some ((.agg [(o66.2 1),(o66.2 2),(o66.2 3),(.sl (V.elems (o66.2 4))),(o66.2 5),(o66.2 6),(.sl ((V.elems (o66.2 7))++([c69]:List V))),(.sl ((V.elems (o66.2 8))++([a2]:List V)))]),[])))))))
else
 some ((.agg [(o66.2 1),(o66.2 2),(o66.2 3),(.sl (V.elems (o66.2 4))),(o66.2 5),(o66.2 6),(.sl (V.elems (o66.2 7))),(.sl (V.elems (o66.2 8)))]),[]))))
theorem eq_ref05_Set(a0:V)(a1:V)(a2:V):P0 f_ref05_Set [.v a0,.v a1,.v a2] []=F_ref05_Set a0 a1 a2:=
 (pcL_eq (fn:=p_ref05_Set) (by kernel_rfl) _ _).trans (by kernel_rfl)
noncomputable def F_tree_cut(a0:V):Option (V×List V):=
 tst (okN 8 a0) ((fldV a0 0).bind fun c1=>
(binV .neq c1 (.int .i64 7)).bind fun x2=>
(
  asBool x2).bind fun b3=>
  if b3=true then
  some ((.tup [(.sl []),(.sl [])]),[])
else
(fldV a0 6).bind fun c4=>
(lenV c4).bind fun n5=>
(fldV a0 7).bind fun c6=>
(lenV c6).bind fun n7=>
(minV (.int .i64 ((n5:Nat):Int)) [(.int .i64 ((n7:Nat):Int))]).bind fun x8=>
(fldV a0 6).bind fun c9=>
(asSl 1 c9).bind fun l10=>
(bnd3 none (some x8) (some x8) (l10.length)).bind fun q11=>
(fldV a0 7).bind fun c12=>
(asSl 8 c12).bind fun l13=>
(
  bnd3 none (some x8) (some x8) (l13.length)).bind fun q14=>
  some ((.tup [(.sl ((l10.drop q11.1).take (q11.2 - q11.1))),(.sl ((l13.drop q14.1).take (q14.2 - q14.1)))]),[]))
theorem eq_tree_cut(a0:V):P0 f_tree_cut [.v a0] []=F_tree_cut a0:=
 (pcL_eq (fn:=p_tree_cut) (by kernel_rfl) _ _).trans (by kernel_rfl)
noncomputable def L_slices_Index_string_1(n1:Nat)(a0:V)(a1:V)(v2:Nat→V):Option ((Nat→V) ⊕ (Nat×(Nat→V))):=
(binV .lss (v2 0) (.int .i64 ((n1:Nat):Int))).bind fun x3=>
(
  asBool x3).bind fun b4=>
  if b4=true then
(asSl 1 a0).bind fun l5=>
(idxV (v2 0) (l5.length)).bind fun i6=>
(l5[i6]?).bind fun e7=>
(fldV e7 0).bind fun c8=>
(binV .eql a1 c8).bind fun x9=>
(
  asBool x9).bind fun b10=>
  if b10=true then
  some (.inr (1,(vec [(v2 0)])))
else
(
  binV .add (v2 0) (.int .i64 1)).bind fun x11=>
  some (.inl (vec [x11]))
else
 some (.inr (0,(vec [])))
noncomputable def F_slices_Index_string(a0:V)(a1:V):Option (V×List V):=
(lenV a0).bind fun n1=>
(
  loopL (L_slices_Index_string_1 n1 a0 a1) (vec [(.int .i64 0)])).bind fun o12=>
  if o12.1=0 then
  some ((.int .i64 (-1)),[])
else
 some ((o12.2 0),[])
theorem eq_slices_Index_string(a0:V)(a1:V):P0 f_slices_Index_string [.v a0,.v a1] []=F_slices_Index_string a0 a1:=
 (pcL_eq (fn:=p_slices_Index_string) (by kernel_rfl) _ _).trans (by kernel_rfl)
noncomputable def L_slices_IndexFunc_string_1(n1:Nat)(a0:V)(a1:Nat)(y1000:V)(v2:Nat→V):Option ((Nat→V) ⊕ (Nat×(Nat→V))):=
(binV .lss (v2 0) (.int .i64 ((n1:Nat):Int))).bind fun x3=>
(
  asBool x3).bind fun b4=>
  if b4=true then
(asSl 1 a0).bind fun l5=>
(idxV (v2 0) (l5.length)).bind fun i6=>
(l5[i6]?).bind fun e7=>
(fldV e7 0).bind fun c8=>
(P0 a1 [.v c8,.p 0 0] [(true,1,y1000)]).bind fun r9=>
(
  asBool r9.1).bind fun b10=>
  if b10=true then
  some (.inr (1,(vec [(v2 0)])))
else
(
  binV .add (v2 0) (.int .i64 1)).bind fun x11=>
  some (.inl (vec [x11]))
else
 some (.inr (0,(vec [])))
noncomputable def F_slices_IndexFunc_string(a0:V)(a1:Nat)(y1000:V):Option (V×List V):=
(lenV a0).bind fun n1=>
(
  loopL (L_slices_IndexFunc_string_1 n1 a0 a1 y1000) (vec [(.int .i64 0)])).bind fun o12=>
  if o12.1=0 then
  some ((.int .i64 (-1)),[y1000])
else
 some ((o12.2 0),[y1000])
theorem eq_slices_IndexFunc_string(a0:V)(a1:Nat)(y1000:V):P0 f_slices_IndexFunc_string [.v a0,.fn a1 [.p 0 0]] [(false,1,y1000)]=F_slices_IndexFunc_string a0 a1 y1000:=
 (pcL_eq (fn:=p_slices_IndexFunc_string) (by kernel_rfl) _ _).trans (by kernel_rfl)
noncomputable def F_tree_Set_1(a0:V)(a1:V):Option (V×List V):=
(
  binV .gtr a0 a1).bind fun x1=>
  some (x1,[a1])
theorem eq_tree_Set_1(a0:V)(a1:V):P0 f_tree_Set_1 [.v a0,.p 0 0] [(true,1,a1)]=F_tree_Set_1 a0 a1:=
 (pcL_eq (fn:=p_tree_Set_1) (by kernel_rfl) _ _).trans (by kernel_rfl)
noncomputable def L_slices_Concat_string_1(n1:Nat)(a0:V)(v2:Nat→V):Option ((Nat→V) ⊕ (Nat×(Nat→V))):=
(binV .lss (v2 1) (.int .i64 ((n1:Nat):Int))).bind fun x3=>
(
  asBool x3).bind fun b4=>
  if b4=true then
(asSl 1 a0).bind fun l5=>
(idxV (v2 1) (l5.length)).bind fun i6=>
(l5[i6]?).bind fun e7=>
(fldV e7 0).bind fun c8=>
(lenV c8).bind fun n9=>
(binV .add (v2 0) (.int .i64 ((n9:Nat):Int))).bind fun x10=>
(binV .lss x10 (.int .i64 0)).bind fun x11=>
(
  asBool x11).bind fun b12=>
  if b12=true then
  none
else
(
  binV .add (v2 1) (.int .i64 1)).bind fun x13=>
  some (.inl (vec [x10,x13]))
else
 some (.inr (0,(vec [(v2 0)])))
noncomputable def L_slices_Concat_string_2(n17:Nat)(a0:V)(v18:Nat→V):Option ((Nat→V) ⊕ (Nat×(Nat→V))):=
(binV .lss (v18 1) (.int .i64 ((n17:Nat):Int))).bind fun x19=>
(
  asBool x19).bind fun b20=>
  if b20=true then
(asSl 1 a0).bind fun l21=>
(idxV (v18 1) (l21.length)).bind fun i22=>
(l21[i22]?).bind fun e23=>
(fldV e23 0).bind fun c24=>
(
  asEl 1 c24).bind fun l25=>
  tst (appOk 16 ((V.elems (v18 0)).length) (l25.length)) ((binV .add (v18 1) (.int .i64 1)).bind fun x26=>
  some (.inl (vec [(.sl ((V.elems (v18 0))++l25)),x26])))
else
 some (.inr (0,(vec [(.sl (V.elems (v18 0)))])))
noncomputable def F_slices_Concat_string(a0:V):Option (V×List V):=
(lenV a0).bind fun n1=>
(loopL (L_slices_Concat_string_1 n1 a0) (vec [(.int .i64 0),(.int .i64 0)])).bind fun o14=>
(P0 f_slices_Grow_string [.g,.v (.sl []),.v (o14.2 0)] []).bind fun r15=>
(slV r15.1).bind fun l16=>
(lenV a0).bind fun n17=>
(
  loopL (L_slices_Concat_string_2 n17 a0) (vec [(.sl l16),(.int .i64 0)])).bind fun o27=>
  some ((.sl (V.elems (o27.2 0))),[])
theorem eq_slices_Concat_string(a0:V):P0 f_slices_Concat_string [.v a0] []=F_slices_Concat_string a0:=
 (pcL_eq (fn:=p_slices_Concat_string) (by kernel_rfl) _ _).trans (by kernel_rfl)
noncomputable def L_slices_Concat_aT_1(n1:Nat)(a0:V)(v2:Nat→V):Option ((Nat→V) ⊕ (Nat×(Nat→V))):=
(binV .lss (v2 1) (.int .i64 ((n1:Nat):Int))).bind fun x3=>
(
  asBool x3).bind fun b4=>
  if b4=true then
(asSl 1 a0).bind fun l5=>
(idxV (v2 1) (l5.length)).bind fun i6=>
(l5[i6]?).bind fun e7=>
(fldV e7 0).bind fun c8=>
(lenV c8).bind fun n9=>
(binV .add (v2 0) (.int .i64 ((n9:Nat):Int))).bind fun x10=>
(binV .lss x10 (.int .i64 0)).bind fun x11=>
(
  asBool x11).bind fun b12=>
  if b12=true then
  none
else
(
  binV .add (v2 1) (.int .i64 1)).bind fun x13=>
  some (.inl (vec [x10,x13]))
else
 some (.inr (0,(vec [(v2 0)])))
noncomputable def L_slices_Concat_aT_2(n17:Nat)(a0:V)(v18:Nat→V):Option ((Nat→V) ⊕ (Nat×(Nat→V))):=
(binV .lss (v18 1) (.int .i64 ((n17:Nat):Int))).bind fun x19=>
(
  asBool x19).bind fun b20=>
  if b20=true then
(asSl 1 a0).bind fun l21=>
(idxV (v18 1) (l21.length)).bind fun i22=>
(l21[i22]?).bind fun e23=>
(fldV e23 0).bind fun c24=>
(
  asEl 8 c24).bind fun l25=>
  tst (appOk 120 ((V.elems (v18 0)).length) (l25.length)) ((binV .add (v18 1) (.int .i64 1)).bind fun x26=>
  some (.inl (vec [(.sl ((V.elems (v18 0))++l25)),x26])))
else
 some (.inr (0,(vec [(.sl (V.elems (v18 0)))])))
noncomputable def F_slices_Concat_aT(a0:V):Option (V×List V):=
(lenV a0).bind fun n1=>
(loopL (L_slices_Concat_aT_1 n1 a0) (vec [(.int .i64 0),(.int .i64 0)])).bind fun o14=>
(P0 f_slices_Grow_aT [.g,.v (.sl []),.v (o14.2 0)] []).bind fun r15=>
(slV r15.1).bind fun l16=>
(lenV a0).bind fun n17=>
(
  loopL (L_slices_Concat_aT_2 n17 a0) (vec [(.sl l16),(.int .i64 0)])).bind fun o27=>
  some ((.sl (V.elems (o27.2 0))),[])
theorem eq_slices_Concat_aT(a0:V):P0 f_slices_Concat_aT [.v a0] []=F_slices_Concat_aT a0:=
 (pcL_eq (fn:=p_slices_Concat_aT) (by kernel_rfl) _ _).trans (by kernel_rfl)
noncomputable def F_tree_own(a0:V):Option (V×List V):=
 tst (okN 8 a0) ((fldV a0 1).bind fun c1=>
(unV .not c1).bind fun x2=>
(fldV a0 2).bind fun c3=>
(unV .not c3).bind fun x4=>
(asBool x4).bind fun b5=>
((if b5=true then
(fldV a0 3).bind fun c6=>
(
  lenV c6).bind fun n7=>
  some (.bool ((((n7:Nat):Int):Int) == 0))
else some (.bool false):Option V)).bind fun x8=>
(asBool x8).bind fun b9=>
((if b9=true then
(fldV a0 4).bind fun c10=>
(
  binV .eql c10 (.int .i64 0)).bind fun x11=>
  some x11
else some (.bool false):Option V)).bind fun x12=>
(fldV a0 5).bind fun c13=>
(binV .eql c13 (.str [])).bind fun x14=>
(fldV a0 6).bind fun c15=>
(lenV c15).bind fun n16=>
(fldV a0 7).bind fun c17=>
(lenV c17).bind fun n18=>
(((fldV a0 0).bind fun c19=>
(((binV .eql c19 (.int .i64 1)).bind fun x20=>
(
  asBool x20).bind fun b21=>
  if b21=true then
  some (0,(vec [x2,x12,x14,(.bool ((((n16:Nat):Int):Int) == 0))]))
else
(binV .eql c19 (.int .i64 2)).bind fun x22=>
(
  asBool x22).bind fun b23=>
  if b23=true then
  some (0,(vec [(.bool true),x12,x14,(.bool ((((n16:Nat):Int):Int) == 0))]))
else
(binV .eql c19 (.int .i64 3)).bind fun x24=>
(
  asBool x24).bind fun b25=>
  if b25=true then
(
  P0 f_num_Check [.v (subV a0 2 3)] []).bind fun r26=>
  some (0,(vec [x2,r26.1,x14,(.bool ((((n16:Nat):Int):Int) == 0))]))
else
(binV .eql c19 (.int .i64 4)).bind fun x27=>
(
  asBool x27).bind fun b28=>
  if b28=true then
(fldV a0 5).bind fun c29=>
(
  P0 f_tree_text [.v c29] []).bind fun r30=>
  some (0,(vec [x2,x12,r30.1,(.bool ((((n16:Nat):Int):Int) == 0))]))
else
(binV .eql c19 (.int .i64 5)).bind fun x31=>
(
  asBool x31).bind fun b32=>
  if b32=true then
(fldV a0 5).bind fun c33=>
(
  lnsV c33).bind fun n34=>
  some (0,(vec [x2,x12,(.bool (decide ((((n34:Nat):Int):Int)≤2000))),(.bool ((((n16:Nat):Int):Int) == 0))]))
else
(binV .eql c19 (.int .i64 7)).bind fun x35=>
(
  asBool x35).bind fun b36=>
  if b36=true then
(fldV a0 6).bind fun c37=>
(P0 f_tree_names [.v c37] []).bind fun r38=>
(asBool r38.1).bind fun b39=>
((if b39=true then
(fldV a0 6).bind fun c40=>
(lenV c40).bind fun n41=>
(fldV a0 7).bind fun c42=>
(
  lenV c42).bind fun n43=>
  some (.bool ((((n41:Nat):Int):Int) == ((n43:Nat):Int)))
else some (.bool false):Option V)).bind fun x44=>
 some (2,(vec [x2,x12,x14,x44]))
else
(binV .eql c19 (.int .i64 6)).bind fun x45=>
(
  asBool x45).bind fun b46=>
  if b46=true then
  some (2,(vec [x2,x12,x14,(.bool ((((n16:Nat):Int):Int) == 0))]))
else
 some (1,(vec [])):Option (Nat×(Nat→V)))).bind fun o47=>
 if o47.1=0 then
 some (0,(vec [(o47.2 0),(o47.2 1),(o47.2 2),(o47.2 3),(.bool ((((n18:Nat):Int):Int) == 0))]))
else
 if(o47.1 - 1)=0 then
 some (1,(vec [(.bool false)]))
else
(fldV a0 7).bind fun c48=>
(
  lenV c48).bind fun n49=>
  some (0,(vec [(o47.2 0),(o47.2 1),(o47.2 2),(o47.2 3),(.bool (decide ((((n49:Nat):Int):Int)≤300)))])):Option (Nat×(Nat→V)))).bind fun o50=>
  if o50.1=0 then
(asBool (o50.2 0)).bind fun b51=>
(
  (if b51=true then
  some (o50.2 1)
else some (.bool false):Option V)).bind fun x52=>
(asBool x52).bind fun b53=>
(
  (if b53=true then
  some (o50.2 2)
else some (.bool false):Option V)).bind fun x54=>
(asBool x54).bind fun b55=>
(
  (if b55=true then
  some (o50.2 3)
else some (.bool false):Option V)).bind fun x56=>
(asBool x56).bind fun b57=>
(
  (if b57=true then
  some (o50.2 4)
else some (.bool false):Option V)).bind fun x58=>
 some (x58,[])
else
 some ((o50.2 0),[]))
theorem eq_tree_own(a0:V):P0 f_tree_own [.v a0] []=F_tree_own a0:=
 (pcL_eq (fn:=p_tree_own) (by kernel_rfl) _ _).trans (by kernel_rfl)
noncomputable def F_law00_Limbs(a0:V):Option (V×List V):=
(
  asEl 1 a0).bind fun l1=>
  tst (appOk 4 (List.length (α:=V) []) (l1.length)) (some ((.sl (([]:List V)++l1)),[]))
theorem eq_law00_Limbs(a0:V):P0 f_law00_Limbs [.g,.v a0] []=F_law00_Limbs a0:=
 (pcL_eq (fn:=p_law00_Limbs) (by kernel_rfl) _ _).trans (by kernel_rfl)
noncomputable def F_merge_few(a0:V):Option (V×List V):=
 tst (okN 8 a0) ((fldV a0 7).bind fun c1=>
(lenV c1).bind fun n2=>
((if(decide ((((n2:Nat):Int):Int)≤300))=true then
(fldV a0 7).bind fun c3=>
(P0 f_slices_ContainsFunc_aT [.v c3,.fn f_merge_few_1 []] []).bind fun r4=>
(
  unV .not r4.1).bind fun x5=>
  some x5
else some (.bool false):Option V)).bind fun x6=>
 some (x6,[]))
theorem eq_merge_few(a0:V):P0 f_merge_few [.v a0] []=F_merge_few a0:=
 (pcL_eq (fn:=p_merge_few) (by kernel_rfl) _ _).trans (by kernel_rfl)
noncomputable def L_ref05_Weight_1(a0:V)(v14:Nat→V):Option ((Nat→V) ⊕ (Nat×(Nat→V))):=
(fldV a0 7).bind fun c15=>
(lenV c15).bind fun n16=>
(binV .lss (v14 1) (.int .i64 ((n16:Nat):Int))).bind fun x17=>
(
  asBool x17).bind fun b18=>
  if b18=true then
(fldV a0 7).bind fun c19=>
(asSl 8 c19).bind fun l20=>
(idxV (v14 1) (l20.length)).bind fun i21=>
(l20[i21]?).bind fun e22=>
(P0 f_ref05_Weight [.v e22] []).bind fun r23=>
(binV .add (v14 0) r23.1).bind fun x24=>
(
  binV .add (v14 1) (.int .i64 1)).bind fun x25=>
  some (.inl (vec [x24,x25]))
else
 some (.inr (0,(vec [(v14 0)])))
noncomputable def F_ref05_Weight(a0:V):Option (V×List V):=
 tst (okN 8 a0) ((((fldV a0 0).bind fun c1=>
(binV .eql c1 (.int .i64 3)).bind fun x2=>
(
  asBool x2).bind fun b3=>
  if b3=true then
(fldV a0 3).bind fun c4=>
(
  lenV c4).bind fun n5=>
  some (0,(vec [(.int .i64 (IntKind.wrap .i64 (1+((n5:Nat):Int))))]))
else
(((binV .eql c1 (.int .i64 4)).bind fun x6=>
(
  asBool x6).bind fun b7=>
  if b7=true then
  some (0,(vec [x6]))
else
(
  binV .eql c1 (.int .i64 5)).bind fun x8=>
  some (0,(vec [x8])):Option (Nat×(Nat→V)))).bind fun o9=>
(
  asBool (o9.2 0)).bind fun b10=>
  if b10=true then
(fldV a0 5).bind fun c11=>
(
  lnsV c11).bind fun n12=>
  some (0,(vec [(.int .i64 (IntKind.wrap .i64 (1+((n12:Nat):Int))))]))
else
 some (0,(vec [(.int .i64 1)])):Option (Nat×(Nat→V)))).bind fun o13=>
(
  loopL (L_ref05_Weight_1 a0) (vec [(o13.2 0),(.int .i64 0)])).bind fun o26=>
  some ((o26.2 0),[]))
theorem eq_ref05_Weight(a0:V):P0 f_ref05_Weight [.v a0] []=F_ref05_Weight a0:=
 (pcL_eq (fn:=p_ref05_Weight) (by kernel_rfl) _ _).trans (by kernel_rfl)
noncomputable def L_ref05_Nodes_1(a0:V)(v1:Nat→V):Option ((Nat→V) ⊕ (Nat×(Nat→V))):=
(fldV a0 7).bind fun c2=>
(lenV c2).bind fun n3=>
(binV .lss (v1 1) (.int .i64 ((n3:Nat):Int))).bind fun x4=>
(
  asBool x4).bind fun b5=>
  if b5=true then
(fldV a0 7).bind fun c6=>
(asSl 8 c6).bind fun l7=>
(idxV (v1 1) (l7.length)).bind fun i9=>
(l7[i9]?).bind fun e10=>
(P0 f_ref05_Nodes [.v e10] []).bind fun r11=>
(binV .add (v1 0) r11.1).bind fun x12=>
(
  binV .add (v1 1) (.int .i64 1)).bind fun x13=>
  some (.inl (vec [x12,x13]))
else
 some (.inr (0,(vec [(v1 0)])))
noncomputable def F_ref05_Nodes(a0:V):Option (V×List V):=
 tst (okN 8 a0) ((loopL (L_ref05_Nodes_1 a0) (vec [(.int .i64 1),(.int .i64 0)])).bind fun o14=>
 some ((o14.2 0),[]))
theorem eq_ref05_Nodes(a0:V):P0 f_ref05_Nodes [.v a0] []=F_ref05_Nodes a0:=
 (pcL_eq (fn:=p_ref05_Nodes) (by kernel_rfl) _ _).trans (by kernel_rfl)
noncomputable def L_ref05_Depth_1(a0:V)(v1:Nat→V):Option ((Nat→V) ⊕ (Nat×(Nat→V))):=
(fldV a0 7).bind fun c2=>
(lenV c2).bind fun n3=>
(binV .lss (v1 1) (.int .i64 ((n3:Nat):Int))).bind fun x4=>
(
  asBool x4).bind fun b5=>
  if b5=true then
(fldV a0 7).bind fun c6=>
(asSl 8 c6).bind fun l7=>
(idxV (v1 1) (l7.length)).bind fun i9=>
(l7[i9]?).bind fun e10=>
(P0 f_ref05_Depth [.v e10] []).bind fun r11=>
(maxV (v1 0) [r11.1]).bind fun x12=>
(
  binV .add (v1 1) (.int .i64 1)).bind fun x13=>
  some (.inl (vec [x12,x13]))
else
 some (.inr (0,(vec [(v1 0)])))
noncomputable def F_ref05_Depth(a0:V):Option (V×List V):=
 tst (okN 8 a0) ((loopL (L_ref05_Depth_1 a0) (vec [(.int .i64 0),(.int .i64 0)])).bind fun o14=>
(
  binV .add (o14.2 0) (.int .i64 1)).bind fun x15=>
  some (x15,[]))
theorem eq_ref05_Depth(a0:V):P0 f_ref05_Depth [.v a0] []=F_ref05_Depth a0:=
 (pcL_eq (fn:=p_ref05_Depth) (by kernel_rfl) _ _).trans (by kernel_rfl)
noncomputable def L_ref15_wide_1(a0:V)(v1:Nat→V):Option ((Nat→V) ⊕ (Nat×(Nat→V))):=
(fldV a0 7).bind fun c2=>
(lenV c2).bind fun n3=>
(binV .lss (v1 0) (.int .i64 ((n3:Nat):Int))).bind fun x4=>
(
  asBool x4).bind fun b5=>
  if b5=true then
(fldV a0 7).bind fun c6=>
(asSl 8 c6).bind fun l7=>
(idxV (v1 0) (l7.length)).bind fun i9=>
(l7[i9]?).bind fun e10=>
(P0 f_ref15_wide [.v e10] []).bind fun r11=>
(
  asBool r11.1).bind fun b12=>
  if b12=true then
  some (.inr (1,(vec [(.bool true)])))
else
(
  binV .add (v1 0) (.int .i64 1)).bind fun x13=>
  some (.inl (vec [x13]))
else
 some (.inr (0,(vec [])))
noncomputable def F_ref15_wide(a0:V):Option (V×List V):=
 tst (okN 8 a0) ((loopL (L_ref15_wide_1 a0) (vec [(.int .i64 0)])).bind fun o14=>
 if o14.1=0 then
(fldV a0 7).bind fun c15=>
(
  lenV c15).bind fun n16=>
  some ((.bool (decide ((((n16:Nat):Int):Int) > 300))),[])
else
 some ((o14.2 0),[]))
theorem eq_ref15_wide(a0:V):P0 f_ref15_wide [.v a0] []=F_ref15_wide a0:=
 (pcL_eq (fn:=p_ref15_wide) (by kernel_rfl) _ _).trans (by kernel_rfl)
noncomputable def L_law00_SameLimbs_1(a0:V)(a1:V)(v3:Nat→V):Option ((Nat→V) ⊕ (Nat×(Nat→V))):=
(lenV a0).bind fun n4=>
(binV .lss (v3 0) (.int .i64 ((n4:Nat):Int))).bind fun x5=>
(
  asBool x5).bind fun b6=>
  if b6=true then
(asSl 1 a0).bind fun l7=>
(idxV (v3 0) (l7.length)).bind fun i9=>
(l7[i9]?).bind fun e10=>
(fldV e10 0).bind fun c11=>
(asSl 1 a1).bind fun l12=>
(idxV (v3 0) (l12.length)).bind fun i13=>
(l12[i13]?).bind fun e14=>
(fldV e14 0).bind fun c15=>
(binV .neq c11 c15).bind fun x16=>
(
  asBool x16).bind fun b17=>
  if b17=true then
  some (.inr (1,(vec [(.bool false)])))
else
(
  binV .add (v3 0) (.int .i64 1)).bind fun x18=>
  some (.inl (vec [x18]))
else
 some (.inr (0,(vec [])))
noncomputable def F_law00_SameLimbs(a0:V)(a1:V):Option (V×List V):=
(lenV a0).bind fun n1=>
(
  lenV a1).bind fun n2=>
  if((((n1:Nat):Int):Int) != ((n2:Nat):Int))=true then
  some ((.bool false),[])
else
(
  loopL (L_law00_SameLimbs_1 a0 a1) (vec [(.int .i64 0)])).bind fun o19=>
  if o19.1=0 then
  some ((.bool true),[])
else
 some ((o19.2 0),[])
theorem eq_law00_SameLimbs(a0:V)(a1:V):P0 f_law00_SameLimbs [.v a0,.v a1] []=F_law00_SameLimbs a0 a1:=
 (pcL_eq (fn:=p_law00_SameLimbs) (by kernel_rfl) _ _).trans (by kernel_rfl)
noncomputable def L_slices_IndexFunc_aT_1(n1:Nat)(a0:V)(a1:Nat)(v2:Nat→V):Option ((Nat→V) ⊕ (Nat×(Nat→V))):=
(binV .lss (v2 0) (.int .i64 ((n1:Nat):Int))).bind fun x3=>
(
  asBool x3).bind fun b4=>
  if b4=true then
(asSl 8 a0).bind fun l5=>
(idxV (v2 0) (l5.length)).bind fun i6=>
(l5[i6]?).bind fun e7=>
(P0 a1 [.v e7] []).bind fun r8=>
(
  asBool r8.1).bind fun b9=>
  if b9=true then
  some (.inr (1,(vec [(v2 0)])))
else
(
  binV .add (v2 0) (.int .i64 1)).bind fun x10=>
  some (.inl (vec [x10]))
else
 some (.inr (0,(vec [])))
noncomputable def F_slices_IndexFunc_aT(a0:V)(a1:Nat):Option (V×List V):=
(lenV a0).bind fun n1=>
(
  loopL (L_slices_IndexFunc_aT_1 n1 a0 a1) (vec [(.int .i64 0)])).bind fun o11=>
  if o11.1=0 then
  some ((.int .i64 (-1)),[])
else
 some ((o11.2 0),[])
theorem eq_slices_IndexFunc_aT(a0:V)(a1:Nat):P0 f_slices_IndexFunc_aT [.v a0,.fn a1 []] []=F_slices_IndexFunc_aT a0 a1:=
 (pcL_eq (fn:=p_slices_IndexFunc_aT) (by kernel_rfl) _ _).trans (by kernel_rfl)
noncomputable def F_ref05_fields(a0:V):Option (V×List V):=
 tst (okN 8 a0) ((fldV a0 0).bind fun c1=>
(binV .neq c1 (.int .i64 2)).bind fun x2=>
(asBool x2).bind fun b3=>
((if b3=true then
(
  fldV a0 1).bind fun c4=>
  some c4
else some (.bool false):Option V)).bind fun x5=>
(asBool x5).bind fun b6=>
((if b6=false then
(fldV a0 0).bind fun c7=>
(binV .neq c7 (.int .i64 3)).bind fun x8=>
(asBool x8).bind fun b9=>
((if b9=true then
(P0 f_ref05_zero [.v (subV a0 2 3)] []).bind fun r10=>
(
  unV .not r10.1).bind fun x11=>
  some x11
else some (.bool false):Option V)).bind fun x12=>
 some x12
else some (.bool true):Option V)).bind fun x13=>
(asBool x13).bind fun b14=>
((if b14=false then
(fldV a0 0).bind fun c15=>
(binV .neq c15 (.int .i64 4)).bind fun x16=>
(asBool x16).bind fun b17=>
((if b17=true then
(fldV a0 0).bind fun c18=>
(
  binV .neq c18 (.int .i64 5)).bind fun x19=>
  some x19
else some (.bool false):Option V)).bind fun x20=>
(asBool x20).bind fun b21=>
((if b21=true then
(fldV a0 5).bind fun c22=>
(
  binV .neq c22 (.str [])).bind fun x23=>
  some x23
else some (.bool false):Option V)).bind fun x24=>
 some x24
else some (.bool true):Option V)).bind fun x25=>
(asBool x25).bind fun b26=>
((if b26=false then
(fldV a0 0).bind fun c27=>
(binV .neq c27 (.int .i64 7)).bind fun x28=>
(asBool x28).bind fun b29=>
((if b29=true then
(fldV a0 6).bind fun c30=>
(
  lenV c30).bind fun n31=>
  some (.bool (decide ((((n31:Nat):Int):Int) > 0)))
else some (.bool false):Option V)).bind fun x32=>
 some x32
else some (.bool true):Option V)).bind fun x33=>
(asBool x33).bind fun b34=>
((if b34=false then
(fldV a0 0).bind fun c35=>
(binV .neq c35 (.int .i64 7)).bind fun x36=>
(asBool x36).bind fun b37=>
((if b37=true then
(fldV a0 0).bind fun c38=>
(
  binV .neq c38 (.int .i64 6)).bind fun x39=>
  some x39
else some (.bool false):Option V)).bind fun x40=>
(asBool x40).bind fun b41=>
((if b41=true then
(fldV a0 7).bind fun c42=>
(
  lenV c42).bind fun n43=>
  some (.bool (decide ((((n43:Nat):Int):Int) > 0)))
else some (.bool false):Option V)).bind fun x44=>
 some x44
else some (.bool true):Option V)).bind fun x45=>
(
  asBool x45).bind fun b46=>
  if b46=true then
  some ((.bool false),[])
else
(fldV a0 0).bind fun c47=>
(((binV .eql c47 (.int .i64 1)).bind fun x48=>
(
  asBool x48).bind fun b49=>
  if b49=true then
  some (0,(vec [x48]))
else
(
  binV .eql c47 (.int .i64 2)).bind fun x50=>
  some (0,(vec [x50])):Option (Nat×(Nat→V)))).bind fun o51=>
(
  asBool (o51.2 0)).bind fun b52=>
  if b52=true then
  some ((.bool true),[])
else
(binV .eql c47 (.int .i64 3)).bind fun x53=>
(
  asBool x53).bind fun b54=>
  if b54=true then
(
  P0 f_ref02_Check [.v (subV a0 2 3)] []).bind fun r55=>
  some (r55.1,[])
else
(binV .eql c47 (.int .i64 4)).bind fun x56=>
(
  asBool x56).bind fun b57=>
  if b57=true then
(fldV a0 5).bind fun c58=>
(P0 f_ref04_Valid [.v c58] []).bind fun r59=>
(asBool r59.1).bind fun b60=>
((if b60=true then
(fldV a0 5).bind fun c61=>
(
  lnsV c61).bind fun n62=>
  some (.bool (decide ((((n62:Nat):Int):Int)≤2000)))
else some (.bool false):Option V)).bind fun x63=>
 some (x63,[])
else
(binV .eql c47 (.int .i64 5)).bind fun x64=>
(
  asBool x64).bind fun b65=>
  if b65=true then
(fldV a0 5).bind fun c66=>
(
  lnsV c66).bind fun n67=>
  some ((.bool (decide ((((n67:Nat):Int):Int)≤2000))),[])
else
(binV .eql c47 (.int .i64 6)).bind fun x68=>
(
  asBool x68).bind fun b69=>
  if b69=true then
(fldV a0 7).bind fun c70=>
(
  lenV c70).bind fun n71=>
  some ((.bool (decide ((((n71:Nat):Int):Int)≤300))),[])
else
(binV .eql c47 (.int .i64 7)).bind fun x72=>
(
  asBool x72).bind fun b73=>
  if b73=true then
(fldV a0 6).bind fun c74=>
(P0 f_ref05_names [.v c74] []).bind fun r75=>
(asBool r75.1).bind fun b76=>
((if b76=true then
(fldV a0 6).bind fun c77=>
(lenV c77).bind fun n78=>
(fldV a0 7).bind fun c79=>
(
  lenV c79).bind fun n80=>
  some (.bool ((((n78:Nat):Int):Int) == ((n80:Nat):Int)))
else some (.bool false):Option V)).bind fun x81=>
 some (x81,[])
else
 some ((.bool false),[]))
theorem eq_ref05_fields(a0:V):P0 f_ref05_fields [.v a0] []=F_ref05_fields a0:=
 (pcL_eq (fn:=p_ref05_fields) (by kernel_rfl) _ _).trans (by kernel_rfl)
noncomputable def F_ref02_Is(a0:V):Option (V×List V):=
 tst (okN 3 a0) ((P0 f_ref02_Check [.v a0] []).bind fun r1=>
(
  asBool r1.1).bind fun b2=>
  if b2=true then
  tst (okN 3 a0) (some (a0,[]))
else
 some ((.agg [(.bool false),(.sl []),(.int .i64 0)]),[]))
theorem eq_ref02_Is(a0:V):P0 f_ref02_Is [.v a0] []=F_ref02_Is a0:=
 (pcL_eq (fn:=p_ref02_Is) (by kernel_rfl) _ _).trans (by kernel_rfl)
noncomputable def L_ref01_Cmp_1(a0:V)(a1:V)(v5:Nat→V):Option ((Nat→V) ⊕ (Nat×(Nat→V))):=
(binV .geq (v5 0) (.int .i64 0)).bind fun x6=>
(
  asBool x6).bind fun b7=>
  if b7=true then
(P0 f_ref01_limb [.v a0,.v (v5 0)] []).bind fun r8=>
(P0 f_ref01_limb [.v a1,.v (v5 0)] []).bind fun r9=>
(binV .lss r8.1 r9.1).bind fun x10=>
(
  asBool x10).bind fun b11=>
  if b11=true then
  some (.inr (1,(vec [(.int .i64 (-1))])))
else
(P0 f_ref01_limb [.v a0,.v (v5 0)] []).bind fun r12=>
(P0 f_ref01_limb [.v a1,.v (v5 0)] []).bind fun r13=>
(binV .gtr r12.1 r13.1).bind fun x14=>
(
  asBool x14).bind fun b15=>
  if b15=true then
  some (.inr (1,(vec [(.int .i64 1)])))
else
(
  binV .sub (v5 0) (.int .i64 1)).bind fun x16=>
  some (.inl (vec [x16]))
else
 some (.inr (0,(vec [])))
noncomputable def F_ref01_Cmp(a0:V)(a1:V):Option (V×List V):=
(lenV a0).bind fun n1=>
(lenV a1).bind fun n2=>
(maxV (.int .i64 ((n1:Nat):Int)) [(.int .i64 ((n2:Nat):Int))]).bind fun x3=>
(binV .sub x3 (.int .i64 1)).bind fun x4=>
(
  loopL (L_ref01_Cmp_1 a0 a1) (vec [x4])).bind fun o17=>
  if o17.1=0 then
  some ((.int .i64 0),[])
else
 some ((o17.2 0),[])
theorem eq_ref01_Cmp(a0:V)(a1:V):P0 f_ref01_Cmp [.v a0,.v a1] []=F_ref01_Cmp a0 a1:=
 (pcL_eq (fn:=p_ref01_Cmp) (by kernel_rfl) _ _).trans (by kernel_rfl)
noncomputable def F_num_Check(a0:V):Option (V×List V):=
 tst (okN 3 a0) ((fldV a0 1).bind fun c1=>
(
  lenV c1).bind fun n2=>
  if((((n2:Nat):Int):Int) == 0)=true then
(fldV a0 0).bind fun c3=>
(unV .not c3).bind fun x4=>
(asBool x4).bind fun b5=>
((if b5=true then
(fldV a0 2).bind fun c6=>
(
  binV .eql c6 (.int .i64 0)).bind fun x7=>
  some x7
else some (.bool false):Option V)).bind fun x8=>
 some (x8,[])
else
((if(decide ((((n2:Nat):Int):Int) > 90))=false then
(fldV a0 1).bind fun c9=>
(asSl 1 c9).bind fun l10=>
(idxV (.int .i64 (IntKind.wrap .i64 (((n2:Nat):Int) - 1))) (l10.length)).bind fun i11=>
(l10[i11]?).bind fun e12=>
(fldV e12 0).bind fun c13=>
(
  binV .eql c13 (.int .u32 0)).bind fun x14=>
  some x14
else some (.bool true):Option V)).bind fun x15=>
(asBool x15).bind fun b16=>
((if b16=false then
(fldV a0 2).bind fun c17=>
(
  binV .lss c17 (.int .i64 (-1200))).bind fun x18=>
  some x18
else some (.bool true):Option V)).bind fun x19=>
(asBool x19).bind fun b20=>
((if b20=false then
(fldV a0 2).bind fun c21=>
(
  binV .gtr c21 (.int .i64 1200)).bind fun x22=>
  some x22
else some (.bool true):Option V)).bind fun x23=>
(
  asBool x23).bind fun b24=>
  if b24=true then
  some ((.bool false),[])
else
(fldV a0 1).bind fun c25=>
(P0 f_nat_Trim [.v c25] []).bind fun r26=>
(extV r26.1 0).bind fun x27=>
(extV r26.1 1).bind fun x28=>
(
  binV .eql x28 (.int .i64 0)).bind fun x29=>
  some (x29,[]))
theorem eq_num_Check(a0:V):P0 f_num_Check [.v a0] []=F_num_Check a0:=
 (pcL_eq (fn:=p_num_Check) (by kernel_rfl) _ _).trans (by kernel_rfl)
noncomputable def F_tree_text(a0:V):Option (V×List V):=
(lnsV a0).bind fun n1=>
((if(decide ((((n1:Nat):Int):Int)≤2000))=true then
(
  P0 f_utf_Valid [.v a0] []).bind fun r2=>
  some r2.1
else some (.bool false):Option V)).bind fun x3=>
 some (x3,[])
theorem eq_tree_text(a0:V):P0 f_tree_text [.v a0] []=F_tree_text a0:=
 (pcL_eq (fn:=p_tree_text) (by kernel_rfl) _ _).trans (by kernel_rfl)
noncomputable def L_tree_names_1(n1:Nat)(a0:V)(v2:Nat→V):Option ((Nat→V) ⊕ (Nat×(Nat→V))):=
(binV .lss (v2 0) (.int .i64 ((n1:Nat):Int))).bind fun x3=>
(
  asBool x3).bind fun b4=>
  if b4=true then
(asSl 1 a0).bind fun l5=>
(idxV (v2 0) (l5.length)).bind fun i6=>
(l5[i6]?).bind fun e7=>
(fldV e7 0).bind fun c8=>
(P0 f_tree_text [.v c8] []).bind fun r9=>
(unV .not r9.1).bind fun x10=>
(asBool x10).bind fun b11=>
((if b11=false then
(binV .gtr (v2 0) (.int .i64 0)).bind fun x12=>
(asBool x12).bind fun b13=>
((if b13=true then
(binV .sub (v2 0) (.int .i64 1)).bind fun x14=>
(asSl 1 a0).bind fun l15=>
(idxV x14 (l15.length)).bind fun i17=>
(l15[i17]?).bind fun e18=>
(fldV e18 0).bind fun c19=>
(
  binV .geq c19 c8).bind fun x20=>
  some x20
else some (.bool false):Option V)).bind fun x21=>
 some x21
else some (.bool true):Option V)).bind fun x22=>
(
  asBool x22).bind fun b23=>
  if b23=true then
  some (.inr (1,(vec [(.bool false)])))
else
(
  binV .add (v2 0) (.int .i64 1)).bind fun x24=>
  some (.inl (vec [x24]))
else
 some (.inr (0,(vec [])))
noncomputable def F_tree_names(a0:V):Option (V×List V):=
(lenV a0).bind fun n1=>
(
  loopL (L_tree_names_1 n1 a0) (vec [(.int .i64 0)])).bind fun o25=>
  if o25.1=0 then
(
  lenV a0).bind fun n26=>
  some ((.bool (decide ((((n26:Nat):Int):Int)≤300))),[])
else
 some ((o25.2 0),[])
theorem eq_tree_names(a0:V):P0 f_tree_names [.v a0] []=F_tree_names a0:=
 (pcL_eq (fn:=p_tree_names) (by kernel_rfl) _ _).trans (by kernel_rfl)
noncomputable def F_merge_few_1(a0:V):Option (V×List V):=
 tst (okN 8 a0) ((P0 f_merge_few [.v a0] []).bind fun r1=>
(
  unV .not r1.1).bind fun x2=>
  some (x2,[]))
theorem eq_merge_few_1(a0:V):P0 f_merge_few_1 [.v a0] []=F_merge_few_1 a0:=
 (pcL_eq (fn:=p_merge_few_1) (by kernel_rfl) _ _).trans (by kernel_rfl)
noncomputable def F_ref05_zero(a0:V):Option (V×List V):=
 tst (okN 3 a0) ((fldV a0 0).bind fun c1=>
(unV .not c1).bind fun x2=>
(asBool x2).bind fun b3=>
((if b3=true then
(fldV a0 1).bind fun c4=>
(
  lenV c4).bind fun n5=>
  some (.bool ((((n5:Nat):Int):Int) == 0))
else some (.bool false):Option V)).bind fun x6=>
(asBool x6).bind fun b7=>
((if b7=true then
(fldV a0 2).bind fun c8=>
(
  binV .eql c8 (.int .i64 0)).bind fun x9=>
  some x9
else some (.bool false):Option V)).bind fun x10=>
 some (x10,[]))
theorem eq_ref05_zero(a0:V):P0 f_ref05_zero [.v a0] []=F_ref05_zero a0:=
 (pcL_eq (fn:=p_ref05_zero) (by kernel_rfl) _ _).trans (by kernel_rfl)
noncomputable def F_ref02_Check(a0:V):Option (V×List V):=
 tst (okN 3 a0) ((fldV a0 1).bind fun c1=>
(
  lenV c1).bind fun n2=>
  if((((n2:Nat):Int):Int) == 0)=true then
(fldV a0 0).bind fun c3=>
(unV .not c3).bind fun x4=>
(asBool x4).bind fun b5=>
((if b5=true then
(fldV a0 2).bind fun c6=>
(
  binV .eql c6 (.int .i64 0)).bind fun x7=>
  some x7
else some (.bool false):Option V)).bind fun x8=>
 some (x8,[])
else
((if(decide ((((n2:Nat):Int):Int) > 90))=false then
(fldV a0 1).bind fun c9=>
(asSl 1 c9).bind fun l10=>
(idxV (.int .i64 (IntKind.wrap .i64 (((n2:Nat):Int) - 1))) (l10.length)).bind fun i11=>
(l10[i11]?).bind fun e12=>
(fldV e12 0).bind fun c13=>
(
  binV .eql c13 (.int .u32 0)).bind fun x14=>
  some x14
else some (.bool true):Option V)).bind fun x15=>
(asBool x15).bind fun b16=>
((if b16=false then
(fldV a0 2).bind fun c17=>
(
  binV .lss c17 (.int .i64 (-1200))).bind fun x18=>
  some x18
else some (.bool true):Option V)).bind fun x19=>
(asBool x19).bind fun b20=>
((if b20=false then
(fldV a0 2).bind fun c21=>
(
  binV .gtr c21 (.int .i64 1200)).bind fun x22=>
  some x22
else some (.bool true):Option V)).bind fun x23=>
(
  asBool x23).bind fun b24=>
  if b24=true then
  some ((.bool false),[])
else
(fldV a0 1).bind fun c25=>
(P0 f_ref01_Small [.v c25,.v (.int .u32 10)] []).bind fun r26=>
(extV r26.1 0).bind fun x27=>
(extV r26.1 1).bind fun x28=>
(
  binV .neq x28 (.int .u32 0)).bind fun x29=>
  some (x29,[]))
theorem eq_ref02_Check(a0:V):P0 f_ref02_Check [.v a0] []=F_ref02_Check a0:=
 (pcL_eq (fn:=p_ref02_Check) (by kernel_rfl) _ _).trans (by kernel_rfl)
noncomputable def L_ref04_Valid_1(r1:V×List V)(v2:Nat→V):Option ((Nat→V) ⊕ (Nat×(Nat→V))):=
(lenV r1.1).bind fun n3=>
(binV .lss (v2 0) (.int .i64 ((n3:Nat):Int))).bind fun x4=>
(
  asBool x4).bind fun b5=>
  if b5=true then
(asSl 1 r1.1).bind fun l6=>
(idxV (v2 0) (l6.length)).bind fun i7=>
(l6[i7]?).bind fun e8=>
(fldV e8 0).bind fun c9=>
(binV .lss c9 (.int .i32 0)).bind fun x10=>
(
  asBool x10).bind fun b11=>
  if b11=true then
  some (.inr (1,(vec [(.bool false)])))
else
(
  binV .add (v2 0) (.int .i64 1)).bind fun x12=>
  some (.inl (vec [x12]))
else
 some (.inr (0,(vec [])))
noncomputable def F_ref04_Valid(a0:V):Option (V×List V):=
(P0 f_ref04_Runes [.v a0] []).bind fun r1=>
(
  loopL (L_ref04_Valid_1 r1) (vec [(.int .i64 0)])).bind fun o13=>
  if o13.1=0 then
  some ((.bool true),[])
else
 some ((o13.2 0),[])
theorem eq_ref04_Valid(a0:V):P0 f_ref04_Valid [.v a0] []=F_ref04_Valid a0:=
 (pcL_eq (fn:=p_ref04_Valid) (by kernel_rfl) _ _).trans (by kernel_rfl)
noncomputable def L_ref05_names_1(a0:V)(v1:Nat→V):Option ((Nat→V) ⊕ (Nat×(Nat→V))):=
(lenV a0).bind fun n2=>
(binV .lss (v1 0) (.int .i64 ((n2:Nat):Int))).bind fun x3=>
(
  asBool x3).bind fun b4=>
  if b4=true then
(asSl 1 a0).bind fun l5=>
(idxV (v1 0) (l5.length)).bind fun i6=>
(l5[i6]?).bind fun e7=>
(fldV e7 0).bind fun c8=>
(P0 f_ref04_Valid [.v c8] []).bind fun r9=>
(unV .not r9.1).bind fun x10=>
(asBool x10).bind fun b11=>
((if b11=false then
(asSl 1 a0).bind fun l12=>
(idxV (v1 0) (l12.length)).bind fun i13=>
(l12[i13]?).bind fun e14=>
(fldV e14 0).bind fun c15=>
(
  lnsV c15).bind fun n16=>
  some (.bool (decide ((((n16:Nat):Int):Int) > 2000)))
else some (.bool true):Option V)).bind fun x17=>
(asBool x17).bind fun b18=>
((if b18=false then
(binV .gtr (v1 0) (.int .i64 0)).bind fun x19=>
(asBool x19).bind fun b20=>
((if b20=true then
(asSl 1 a0).bind fun l21=>
(idxV (v1 0) (l21.length)).bind fun i22=>
(l21[i22]?).bind fun e23=>
(fldV e23 0).bind fun c24=>
(binV .sub (v1 0) (.int .i64 1)).bind fun x25=>
(asSl 1 a0).bind fun l26=>
(idxV x25 (l26.length)).bind fun i27=>
(l26[i27]?).bind fun e28=>
(fldV e28 0).bind fun c29=>
(
  binV .leq c24 c29).bind fun x30=>
  some x30
else some (.bool false):Option V)).bind fun x31=>
 some x31
else some (.bool true):Option V)).bind fun x32=>
(
  asBool x32).bind fun b33=>
  if b33=true then
  some (.inr (1,(vec [(.bool false)])))
else
(
  binV .add (v1 0) (.int .i64 1)).bind fun x34=>
  some (.inl (vec [x34]))
else
 some (.inr (0,(vec [])))
noncomputable def F_ref05_names(a0:V):Option (V×List V):=
(
  loopL (L_ref05_names_1 a0) (vec [(.int .i64 0)])).bind fun o35=>
  if o35.1=0 then
(
  lenV a0).bind fun n36=>
  some ((.bool (decide ((((n36:Nat):Int):Int)≤300))),[])
else
 some ((o35.2 0),[])
theorem eq_ref05_names(a0:V):P0 f_ref05_names [.v a0] []=F_ref05_names a0:=
 (pcL_eq (fn:=p_ref05_names) (by kernel_rfl) _ _).trans (by kernel_rfl)
noncomputable def F_ref01_limb(a0:V)(a1:V):Option (V×List V):=
(lenV a0).bind fun n1=>
(binV .lss a1 (.int .i64 ((n1:Nat):Int))).bind fun x2=>
(
  asBool x2).bind fun b3=>
  if b3=true then
(asSl 1 a0).bind fun l4=>
(idxV a1 (l4.length)).bind fun i5=>
(l4[i5]?).bind fun e6=>
(fldV e6 0).bind fun c7=>
(
  cviV .u64 c7).bind fun x8=>
  some (x8,[])
else
 some ((.int .u64 0),[])
theorem eq_ref01_limb(a0:V)(a1:V):P0 f_ref01_limb [.v a0,.v a1] []=F_ref01_limb a0 a1:=
 (pcL_eq (fn:=p_ref01_limb) (by kernel_rfl) _ _).trans (by kernel_rfl)
noncomputable def L_nat_Trim_1(v2:Nat→V):Option ((Nat→V) ⊕ (Nat×(Nat→V))):=
(
  lenV (v2 0)).bind fun n3=>
  if(decide ((((n3:Nat):Int):Int) > 0))=true then
(P0 f_nat_small [.v (v2 0),.v (.int .u32 10)] []).bind fun r4=>
(extV r4.1 0).bind fun x5=>
(extV r4.1 1).bind fun x6=>
(binV .neq x6 (.int .u32 0)).bind fun x7=>
(
  asBool x7).bind fun b8=>
  if b8=true then
  some (.inr (0,(vec [(v2 0),(v2 1)])))
else
(
  binV .add (v2 1) (.int .i64 1)).bind fun x9=>
  some (.inl (vec [x5,x9]))
else
 some (.inr (0,(vec [(v2 0),(v2 1)])))
noncomputable def F_nat_Trim(a0:V):Option (V×List V):=
(P0 f_nat_Norm [.v a0] []).bind fun r1=>
(
  loopL (L_nat_Trim_1) (vec [r1.1,(.int .i64 0)])).bind fun o10=>
  some ((.tup [(o10.2 0),(o10.2 1)]),[])
theorem eq_nat_Trim(a0:V):P0 f_nat_Trim [.v a0] []=F_nat_Trim a0:=
 (pcL_eq (fn:=p_nat_Trim) (by kernel_rfl) _ _).trans (by kernel_rfl)
noncomputable def L_utf_Valid_1(a0:V)(v2:Nat→V):Option ((Nat→V) ⊕ (Nat×(Nat→V))):=
 if(natV (v2 1))<List.length (α:=UInt8) (txtV (v2 0))then
 if(((Utf8.decode ⟨((txtV (v2 0))).toArray⟩ (natV (v2 1))).1:Int) != 65533)=true then
 some (.inl (vec [(.str (txtV (v2 0))),(.int .i64 ((((natV (v2 1))+(Utf8.decode ⟨((txtV (v2 0))).toArray⟩ (natV (v2 1))).2):Nat):Int))]))
else
(slsV a0 (some (.int .i64 (((natV (v2 1)):Nat):Int))) none).bind fun x3=>
(P0 f_u8_DecodeRuneInString [.v x3] []).bind fun r4=>
(extV r4.1 0).bind fun x5=>
(extV r4.1 1).bind fun x6=>
(binV .eql x6 (.int .i64 1)).bind fun x7=>
(
  asBool x7).bind fun b8=>
  if b8=true then
  some (.inr (1,(vec [(.bool false)])))
else
 some (.inl (vec [(.str (txtV (v2 0))),(.int .i64 ((((natV (v2 1))+(Utf8.decode ⟨((txtV (v2 0))).toArray⟩ (natV (v2 1))).2):Nat):Int))]))
else
 some (.inr (0,(vec [])))
noncomputable def F_utf_Valid(a0:V):Option (V×List V):=
(asStr a0).bind fun s1=>
(
  loopL (L_utf_Valid_1 a0) (vec [(.str s1),(.int .i64 ((0:Nat):Int))])).bind fun o9=>
  if o9.1=0 then
  some ((.bool true),[])
else
 some ((o9.2 0),[])
theorem eq_utf_Valid(a0:V):P0 f_utf_Valid [.v a0] []=F_utf_Valid a0:=
 (pcL_eq (fn:=p_utf_Valid) (by kernel_rfl) _ _).trans (by kernel_rfl)
noncomputable def L_ref01_Small_1(a0:V)(a1:V)(q2:Nat×Nat)(v4:Nat→V):Option ((Nat→V) ⊕ (Nat×(Nat→V))):=
(binV .geq (v4 1) (.int .i64 0)).bind fun x5=>
(
  asBool x5).bind fun b6=>
  if b6=true then
(binV .shl (v4 0) (.int .u64 32)).bind fun x7=>
(asSl 1 a0).bind fun l8=>
(idxV (v4 1) (l8.length)).bind fun i9=>
(l8[i9]?).bind fun e10=>
(fldV e10 0).bind fun c11=>
(cviV .u64 c11).bind fun x12=>
(binV .add x7 x12).bind fun x13=>
(cviV .u64 a1).bind fun x14=>
(binV .quo x13 x14).bind fun x15=>
(cviV .u32 x15).bind fun x16=>
(
  idxV (v4 1) q2.1).bind fun i17=>
  tst (okN 1 x16) ((fldV x16 0).bind fun c18=>
(cviV .u64 a1).bind fun x19=>
(binV .rem x13 x19).bind fun x20=>
(
  binV .sub (v4 1) (.int .i64 1)).bind fun x21=>
  some (.inl (vec [x20,x21,(.sl ((V.elems (v4 2)).set (0+i17) c18))])))
else
 some (.inr (0,(vec [(v4 0),(.sl (V.elems (v4 2)))])))
noncomputable def F_ref01_Small(a0:V)(a1:V):Option (V×List V):=
(lenV a0).bind fun n1=>
(mksV 4 (.int .i64 ((n1:Nat):Int)) (.int .i64 ((n1:Nat):Int))).bind fun q2=>
(lenV a0).bind fun n3=>
(loopL (L_ref01_Small_1 a0 a1 q2) (vec [(.int .u64 0),(.int .i64 (IntKind.wrap .i64 (((n3:Nat):Int) - 1))),(.sl (List.replicate q2.2 (.int .u32 0)))])).bind fun o22=>
(P0 f_ref01_Norm [.v (.sl (((V.elems (o22.2 1)).drop 0).take q2.1))] []).bind fun r23=>
(
  cviV .u32 (o22.2 0)).bind fun x24=>
  some ((.tup [r23.1,x24]),[])
theorem eq_ref01_Small(a0:V)(a1:V):P0 f_ref01_Small [.v a0,.v a1] []=F_ref01_Small a0 a1:=
 (pcL_eq (fn:=p_ref01_Small) (by kernel_rfl) _ _).trans (by kernel_rfl)
noncomputable def L_ref04_Runes_1(a0:V)(v1:Nat→V):Option ((Nat→V) ⊕ (Nat×(Nat→V))):=
(lnsV a0).bind fun n2=>
(binV .lss (v1 1) (.int .i64 ((n2:Nat):Int))).bind fun x3=>
(
  asBool x3).bind fun b4=>
  if b4=true then
(P0 f_ref04_Rune [.v a0,.v (v1 1)] []).bind fun r5=>
(extV r5.1 0).bind fun x6=>
(
  extV r5.1 1).bind fun x7=>
  tst (okN 1 x6) ((fldV x6 0).bind fun c8=>
  tst (szOk 1 [c8]) (tst (appOk 4 ((V.elems (v1 0)).length) (List.length (α:=V) [c8])) ((binV .add (v1 1) x7).bind fun x9=>
  some (.inl (vec [(.sl ((V.elems (v1 0))++([c8]:List V))),x9])))))
else
 some (.inr (0,(vec [(.sl (V.elems (v1 0)))])))
noncomputable def F_ref04_Runes(a0:V):Option (V×List V):=
(
  loopL (L_ref04_Runes_1 a0) (vec [(.sl []),(.int .i64 0)])).bind fun o10=>
  some ((.sl (V.elems (o10.2 0))),[])
theorem eq_ref04_Runes(a0:V):P0 f_ref04_Runes [.v a0] []=F_ref04_Runes a0:=
 (pcL_eq (fn:=p_ref04_Runes) (by kernel_rfl) _ _).trans (by kernel_rfl)
noncomputable def L_nat_Norm_1(a0:V)(v2:Nat→V):Option ((Nat→V) ⊕ (Nat×(Nat→V))):=
(binV .gtr (v2 0) (.int .i64 0)).bind fun x3=>
(asBool x3).bind fun b4=>
((if b4=true then
(binV .sub (v2 0) (.int .i64 1)).bind fun x5=>
(asSl 1 a0).bind fun l6=>
(idxV x5 (l6.length)).bind fun i7=>
(l6[i7]?).bind fun e8=>
(fldV e8 0).bind fun c9=>
(
  binV .eql c9 (.int .u32 0)).bind fun x10=>
  some x10
else some (.bool false):Option V)).bind fun x11=>
(
  asBool x11).bind fun b12=>
  if b12=true then
(
  binV .sub (v2 0) (.int .i64 1)).bind fun x13=>
  some (.inl (vec [x13]))
else
 some (.inr (0,(vec [(v2 0)])))
noncomputable def F_nat_Norm(a0:V):Option (V×List V):=
(lenV a0).bind fun n1=>
(loopL (L_nat_Norm_1 a0) (vec [(.int .i64 ((n1:Nat):Int))])).bind fun o14=>
(binV .eql (o14.2 0) (.int .i64 0)).bind fun x15=>
(
  asBool x15).bind fun b16=>
  if b16=true then
  some ((.sl []),[])
else
(mksV 4 (o14.2 0) (o14.2 0)).bind fun q17=>
(
  asEl 1 a0).bind fun l18=>
  some ((.sl (((setL (List.replicate q17.2 (.int .u32 0)) 0 (l18.take (Nat.min (l18.length) q17.1))).drop 0).take q17.1)),[])
theorem eq_nat_Norm(a0:V):P0 f_nat_Norm [.v a0] []=F_nat_Norm a0:=
 (pcL_eq (fn:=p_nat_Norm) (by kernel_rfl) _ _).trans (by kernel_rfl)
noncomputable def L_nat_small_1(a0:V)(a1:V)(q2:Nat×Nat)(v4:Nat→V):Option ((Nat→V) ⊕ (Nat×(Nat→V))):=
(binV .geq (v4 1) (.int .i64 0)).bind fun x5=>
(
  asBool x5).bind fun b6=>
  if b6=true then
(binV .shl (v4 0) (.int .u64 32)).bind fun x7=>
(asSl 1 a0).bind fun l8=>
(idxV (v4 1) (l8.length)).bind fun i9=>
(l8[i9]?).bind fun e10=>
(fldV e10 0).bind fun c11=>
(cviV .u64 c11).bind fun x12=>
(binV .or x7 x12).bind fun x13=>
(cviV .u64 a1).bind fun x14=>
(binV .quo x13 x14).bind fun x15=>
(cviV .u32 x15).bind fun x16=>
(
  idxV (v4 1) q2.1).bind fun i17=>
  tst (okN 1 x16) ((fldV x16 0).bind fun c18=>
(cviV .u64 a1).bind fun x19=>
(binV .rem x13 x19).bind fun x20=>
(
  binV .sub (v4 1) (.int .i64 1)).bind fun x21=>
  some (.inl (vec [x20,x21,(.sl ((V.elems (v4 2)).set (0+i17) c18))])))
else
 some (.inr (0,(vec [(v4 0),(.sl (V.elems (v4 2)))])))
noncomputable def F_nat_small(a0:V)(a1:V):Option (V×List V):=
(lenV a0).bind fun n1=>
(mksV 4 (.int .i64 ((n1:Nat):Int)) (.int .i64 ((n1:Nat):Int))).bind fun q2=>
(lenV a0).bind fun n3=>
(loopL (L_nat_small_1 a0 a1 q2) (vec [(.int .u64 0),(.int .i64 (IntKind.wrap .i64 (((n3:Nat):Int) - 1))),(.sl (List.replicate q2.2 (.int .u32 0)))])).bind fun o22=>
(P0 f_nat_Norm [.v (.sl (((V.elems (o22.2 1)).drop 0).take q2.1))] []).bind fun r23=>
(
  cviV .u32 (o22.2 0)).bind fun x24=>
  some ((.tup [r23.1,x24]),[])
theorem eq_nat_small(a0:V)(a1:V):P0 f_nat_small [.v a0,.v a1] []=F_nat_small a0 a1:=
 (pcL_eq (fn:=p_nat_small) (by kernel_rfl) _ _).trans (by kernel_rfl)
noncomputable def F_u8_DecodeRuneInString(a0:V):Option (V×List V):=
(binV .neq a0 (.str [])).bind fun x1=>
(asBool x1).bind fun b2=>
((if b2=true then
(ixsV a0 (.int .i64 0)).bind fun x3=>
(
  binV .lss x3 (.int .u8 128)).bind fun x4=>
  some x4
else some (.bool false):Option V)).bind fun x5=>
(
  asBool x5).bind fun b6=>
  if b6=true then
(ixsV a0 (.int .i64 0)).bind fun x7=>
(
  cviV .i32 x7).bind fun x8=>
  some ((.tup [x8,(.int .i64 1)]),[])
else
(P0 f_u8_decodeRuneInStringSlow [.v a0] []).bind fun r9=>
(extV r9.1 0).bind fun x10=>
(
  extV r9.1 1).bind fun x11=>
  some ((.tup [x10,x11]),[])
theorem eq_u8_DecodeRuneInString(a0:V):P0 f_u8_DecodeRuneInString [.v a0] []=F_u8_DecodeRuneInString a0:=
 (pcL_eq (fn:=p_u8_DecodeRuneInString) (by kernel_rfl) _ _).trans (by kernel_rfl)
noncomputable def L_ref01_Norm_1(a0:V)(v2:Nat→V):Option ((Nat→V) ⊕ (Nat×(Nat→V))):=
(binV .gtr (v2 0) (.int .i64 0)).bind fun x3=>
(asBool x3).bind fun b4=>
((if b4=true then
(binV .sub (v2 0) (.int .i64 1)).bind fun x5=>
(asSl 1 a0).bind fun l6=>
(idxV x5 (l6.length)).bind fun i7=>
(l6[i7]?).bind fun e8=>
(fldV e8 0).bind fun c9=>
(
  binV .eql c9 (.int .u32 0)).bind fun x10=>
  some x10
else some (.bool false):Option V)).bind fun x11=>
(
  asBool x11).bind fun b12=>
  if b12=true then
(
  binV .sub (v2 0) (.int .i64 1)).bind fun x13=>
  some (.inl (vec [x13]))
else
 some (.inr (0,(vec [(v2 0)])))
noncomputable def F_ref01_Norm(a0:V):Option (V×List V):=
(lenV a0).bind fun n1=>
(loopL (L_ref01_Norm_1 a0) (vec [(.int .i64 ((n1:Nat):Int))])).bind fun o14=>
(asSl 1 a0).bind fun l15=>
(bnd2 none (some (o14.2 0)) (l15.length)).bind fun q16=>
(
  asEl 1 (.sl ((l15.drop q16.1).take (q16.2 - q16.1)))).bind fun l17=>
  tst (appOk 4 (List.length (α:=V) []) (l17.length)) (some ((.sl (([]:List V)++l17)),[]))
theorem eq_ref01_Norm(a0:V):P0 f_ref01_Norm [.v a0] []=F_ref01_Norm a0:=
 (pcL_eq (fn:=p_ref01_Norm) (by kernel_rfl) _ _).trans (by kernel_rfl)
noncomputable def F_ref04_Rune(a0:V)(a1:V):Option (V×List V):=
(binV .lss a1 (.int .i64 0)).bind fun x1=>
(asBool x1).bind fun b2=>
((if b2=false then
(lnsV a0).bind fun n3=>
(
  binV .geq a1 (.int .i64 ((n3:Nat):Int))).bind fun x4=>
  some x4
else some (.bool true):Option V)).bind fun x5=>
(
  asBool x5).bind fun b6=>
  if b6=true then
  some ((.tup [(.int .i32 (-1)),(.int .i64 0)]),[])
else
(ixsV a0 a1).bind fun x7=>
(cviV .i32 x7).bind fun x8=>
(binV .lss x8 (.int .i32 128)).bind fun x9=>
(
  asBool x9).bind fun b10=>
  if b10=true then
  some ((.tup [x8,(.int .i64 1)]),[])
else
(binV .geq x8 (.int .i32 194)).bind fun x11=>
(asBool x11).bind fun b12=>
((if b12=true then
(
  binV .lss x8 (.int .i32 224)).bind fun x13=>
  some x13
else some (.bool false):Option V)).bind fun x14=>
(asBool x14).bind fun b15=>
((if b15=true then
(binV .add a1 (.int .i64 1)).bind fun x16=>
(
  P0 f_ref04_cont [.v a0,.v x16] []).bind fun r17=>
  some r17.1
else some (.bool false):Option V)).bind fun x18=>
(
  asBool x18).bind fun b19=>
  if b19=true then
(binV .and x8 (.int .i32 31)).bind fun x20=>
(binV .shl x20 (.int .u64 6)).bind fun x21=>
(binV .add a1 (.int .i64 1)).bind fun x22=>
(ixsV a0 x22).bind fun x23=>
(binV .and x23 (.int .u8 63)).bind fun x24=>
(cviV .i32 x24).bind fun x25=>
(
  binV .or x21 x25).bind fun x26=>
  some ((.tup [x26,(.int .i64 2)]),[])
else
(binV .geq x8 (.int .i32 224)).bind fun x27=>
(asBool x27).bind fun b28=>
((if b28=true then
(
  binV .lss x8 (.int .i32 240)).bind fun x29=>
  some x29
else some (.bool false):Option V)).bind fun x30=>
(asBool x30).bind fun b31=>
((if b31=true then
(binV .add a1 (.int .i64 1)).bind fun x32=>
(
  P0 f_ref04_cont [.v a0,.v x32] []).bind fun r33=>
  some r33.1
else some (.bool false):Option V)).bind fun x34=>
(asBool x34).bind fun b35=>
((if b35=true then
(binV .add a1 (.int .i64 2)).bind fun x36=>
(
  P0 f_ref04_cont [.v a0,.v x36] []).bind fun r37=>
  some r37.1
else some (.bool false):Option V)).bind fun x38=>
(
  asBool x38).bind fun b39=>
  if b39=true then
(binV .and x8 (.int .i32 15)).bind fun x40=>
(binV .shl x40 (.int .u64 12)).bind fun x41=>
(binV .add a1 (.int .i64 1)).bind fun x42=>
(ixsV a0 x42).bind fun x43=>
(binV .and x43 (.int .u8 63)).bind fun x44=>
(cviV .i32 x44).bind fun x45=>
(binV .shl x45 (.int .u64 6)).bind fun x46=>
(binV .or x41 x46).bind fun x47=>
(binV .add a1 (.int .i64 2)).bind fun x48=>
(ixsV a0 x48).bind fun x49=>
(binV .and x49 (.int .u8 63)).bind fun x50=>
(cviV .i32 x50).bind fun x51=>
(binV .or x47 x51).bind fun x52=>
(binV .geq x52 (.int .i32 2048)).bind fun x53=>
(asBool x53).bind fun b54=>
((if b54=true then
(binV .lss x52 (.int .i32 55296)).bind fun x55=>
(asBool x55).bind fun b56=>
((if b56=false then
(
  binV .gtr x52 (.int .i32 57343)).bind fun x57=>
  some x57
else some (.bool true):Option V)).bind fun x58=>
 some x58
else some (.bool false):Option V)).bind fun x59=>
(
  asBool x59).bind fun b60=>
  if b60=true then
  some ((.tup [x52,(.int .i64 3)]),[])
else
 some ((.tup [(.int .i32 (-1)),(.int .i64 1)]),[])
else
(binV .geq x8 (.int .i32 240)).bind fun x61=>
(asBool x61).bind fun b62=>
((if b62=true then
(
  binV .lss x8 (.int .i32 245)).bind fun x63=>
  some x63
else some (.bool false):Option V)).bind fun x64=>
(asBool x64).bind fun b65=>
((if b65=true then
(binV .add a1 (.int .i64 1)).bind fun x66=>
(
  P0 f_ref04_cont [.v a0,.v x66] []).bind fun r67=>
  some r67.1
else some (.bool false):Option V)).bind fun x68=>
(asBool x68).bind fun b69=>
((if b69=true then
(binV .add a1 (.int .i64 2)).bind fun x70=>
(
  P0 f_ref04_cont [.v a0,.v x70] []).bind fun r71=>
  some r71.1
else some (.bool false):Option V)).bind fun x72=>
(asBool x72).bind fun b73=>
((if b73=true then
(binV .add a1 (.int .i64 3)).bind fun x74=>
(
  P0 f_ref04_cont [.v a0,.v x74] []).bind fun r75=>
  some r75.1
else some (.bool false):Option V)).bind fun x76=>
(
  asBool x76).bind fun b77=>
  if b77=true then
(binV .and x8 (.int .i32 7)).bind fun x78=>
(binV .shl x78 (.int .u64 18)).bind fun x79=>
(binV .add a1 (.int .i64 1)).bind fun x80=>
(ixsV a0 x80).bind fun x81=>
(binV .and x81 (.int .u8 63)).bind fun x82=>
(cviV .i32 x82).bind fun x83=>
(binV .shl x83 (.int .u64 12)).bind fun x84=>
(binV .or x79 x84).bind fun x85=>
(binV .add a1 (.int .i64 2)).bind fun x86=>
(ixsV a0 x86).bind fun x87=>
(binV .and x87 (.int .u8 63)).bind fun x88=>
(cviV .i32 x88).bind fun x89=>
(binV .shl x89 (.int .u64 6)).bind fun x90=>
(binV .or x85 x90).bind fun x91=>
(binV .add a1 (.int .i64 3)).bind fun x92=>
(ixsV a0 x92).bind fun x93=>
(binV .and x93 (.int .u8 63)).bind fun x94=>
(cviV .i32 x94).bind fun x95=>
(binV .or x91 x95).bind fun x96=>
(binV .geq x96 (.int .i32 65536)).bind fun x97=>
(asBool x97).bind fun b98=>
((if b98=true then
(
  binV .leq x96 (.int .i32 1114111)).bind fun x99=>
  some x99
else some (.bool false):Option V)).bind fun x100=>
(
  asBool x100).bind fun b101=>
  if b101=true then
  some ((.tup [x96,(.int .i64 4)]),[])
else
 some ((.tup [(.int .i32 (-1)),(.int .i64 1)]),[])
else
 some ((.tup [(.int .i32 (-1)),(.int .i64 1)]),[])
theorem eq_ref04_Rune(a0:V)(a1:V):P0 f_ref04_Rune [.v a0,.v a1] []=F_ref04_Rune a0 a1:=
 (pcL_eq (fn:=p_ref04_Rune) (by kernel_rfl) _ _).trans (by kernel_rfl)
noncomputable def F_u8_decodeRuneInStringSlow(a0:V):Option (V×List V):=
(
  lnsV a0).bind fun n1=>
  if(decide ((((n1:Nat):Int):Int)<1))=true then
  some ((.tup [(.int .i32 65533),(.int .i64 0)]),[])
else
(ixsV a0 (.int .i64 0)).bind fun x2=>
(idxV x2 256).bind fun i3=>
((G_0.drop (i3 * 1))[0]?).bind fun c4=>
(binV .geq c4 (.int .u8 240)).bind fun x5=>
(
  asBool x5).bind fun b6=>
  if b6=true then
(cviV .i32 c4).bind fun x7=>
(binV .shl x7 (.int .u64 31)).bind fun x8=>
(binV .shr x8 (.int .u64 31)).bind fun x9=>
(ixsV a0 (.int .i64 0)).bind fun x10=>
(cviV .i32 x10).bind fun x11=>
(binV .andNot x11 x9).bind fun x12=>
(binV .and (.int .i32 65533) x9).bind fun x13=>
(
  binV .or x12 x13).bind fun x14=>
  some ((.tup [x14,(.int .i64 1)]),[])
else
(binV .and c4 (.int .u8 7)).bind fun x15=>
(cviV .i64 x15).bind fun x16=>
(binV .shr c4 (.int .u64 4)).bind fun x17=>
(
  idxV x17 16).bind fun i18=>
  tst (Nat.ble 2 (G_1.drop (i18 * 2)).length) (tst (okN 2 (.agg ((G_1.drop (i18 * 2)).take 2))) ((binV .lss (.int .i64 ((n1:Nat):Int)) x16).bind fun x19=>
(
  asBool x19).bind fun b20=>
  if b20=true then
  some ((.tup [(.int .i32 65533),(.int .i64 1)]),[])
else
(ixsV a0 (.int .i64 1)).bind fun x21=>
(fldV (.agg ((G_1.drop (i18 * 2)).take 2)) 0).bind fun c22=>
(binV .lss x21 c22).bind fun x23=>
(asBool x23).bind fun b24=>
((if b24=false then
(fldV (.agg ((G_1.drop (i18 * 2)).take 2)) 1).bind fun c25=>
(
  binV .lss c25 x21).bind fun x26=>
  some x26
else some (.bool true):Option V)).bind fun x27=>
(
  asBool x27).bind fun b28=>
  if b28=true then
  some ((.tup [(.int .i32 65533),(.int .i64 1)]),[])
else
(binV .leq x16 (.int .i64 2)).bind fun x29=>
(
  asBool x29).bind fun b30=>
  if b30=true then
(binV .and x2 (.int .u8 31)).bind fun x31=>
(cviV .i32 x31).bind fun x32=>
(binV .shl x32 (.int .u64 6)).bind fun x33=>
(binV .and x21 (.int .u8 63)).bind fun x34=>
(cviV .i32 x34).bind fun x35=>
(
  binV .or x33 x35).bind fun x36=>
  some ((.tup [x36,(.int .i64 2)]),[])
else
(ixsV a0 (.int .i64 2)).bind fun x37=>
(binV .lss x37 (.int .u8 128)).bind fun x38=>
(asBool x38).bind fun b39=>
((if b39=false then
(
  binV .lss (.int .u8 191) x37).bind fun x40=>
  some x40
else some (.bool true):Option V)).bind fun x41=>
(
  asBool x41).bind fun b42=>
  if b42=true then
  some ((.tup [(.int .i32 65533),(.int .i64 1)]),[])
else
(binV .leq x16 (.int .i64 3)).bind fun x43=>
(
  asBool x43).bind fun b44=>
  if b44=true then
(binV .and x2 (.int .u8 15)).bind fun x45=>
(cviV .i32 x45).bind fun x46=>
(binV .shl x46 (.int .u64 12)).bind fun x47=>
(binV .and x21 (.int .u8 63)).bind fun x48=>
(cviV .i32 x48).bind fun x49=>
(binV .shl x49 (.int .u64 6)).bind fun x50=>
(binV .or x47 x50).bind fun x51=>
(binV .and x37 (.int .u8 63)).bind fun x52=>
(cviV .i32 x52).bind fun x53=>
(
  binV .or x51 x53).bind fun x54=>
  some ((.tup [x54,(.int .i64 3)]),[])
else
(ixsV a0 (.int .i64 3)).bind fun x55=>
(binV .lss x55 (.int .u8 128)).bind fun x56=>
(asBool x56).bind fun b57=>
((if b57=false then
(
  binV .lss (.int .u8 191) x55).bind fun x58=>
  some x58
else some (.bool true):Option V)).bind fun x59=>
(
  asBool x59).bind fun b60=>
  if b60=true then
  some ((.tup [(.int .i32 65533),(.int .i64 1)]),[])
else
(binV .and x2 (.int .u8 7)).bind fun x61=>
(cviV .i32 x61).bind fun x62=>
(binV .shl x62 (.int .u64 18)).bind fun x63=>
(binV .and x21 (.int .u8 63)).bind fun x64=>
(cviV .i32 x64).bind fun x65=>
(binV .shl x65 (.int .u64 12)).bind fun x66=>
(binV .or x63 x66).bind fun x67=>
(binV .and x37 (.int .u8 63)).bind fun x68=>
(cviV .i32 x68).bind fun x69=>
(binV .shl x69 (.int .u64 6)).bind fun x70=>
(binV .or x67 x70).bind fun x71=>
(binV .and x55 (.int .u8 63)).bind fun x72=>
(cviV .i32 x72).bind fun x73=>
(
  binV .or x71 x73).bind fun x74=>
  some ((.tup [x74,(.int .i64 4)]),[])))
theorem eq_u8_decodeRuneInStringSlow(a0:V):P0 f_u8_decodeRuneInStringSlow [.v a0] []=F_u8_decodeRuneInStringSlow a0:=
 (pcL_eq (fn:=p_u8_decodeRuneInStringSlow) (by kernel_rfl) _ _).trans (by kernel_rfl)
noncomputable def F_ref04_cont(a0:V)(a1:V):Option (V×List V):=
(lnsV a0).bind fun n1=>
(binV .lss a1 (.int .i64 ((n1:Nat):Int))).bind fun x2=>
(asBool x2).bind fun b3=>
((if b3=true then
(ixsV a0 a1).bind fun x4=>
(binV .and x4 (.int .u8 192)).bind fun x5=>
(
  binV .eql x5 (.int .u8 128)).bind fun x6=>
  some x6
else some (.bool false):Option V)).bind fun x7=>
 some (x7,[])
theorem eq_ref04_cont(a0:V)(a1:V):P0 f_ref04_cont [.v a0,.v a1] []=F_ref04_cont a0 a1:=
 (pcL_eq (fn:=p_ref04_cont) (by kernel_rfl) _ _).trans (by kernel_rfl)
theorem tell_slices_Insert_string(as:List PA):P0 f_slices_Insert_string as []=tellK (txInsert 1 16) (.ful) as []:=pcL_tell (gl:=gl0) (tab:=tab0) (f:=f_slices_Insert_string) rfl rfl as []
theorem tell_slices_Insert_aT(as:List PA):P0 f_slices_Insert_aT as []=tellK (txInsert 8 120) (.ful) as []:=pcL_tell (gl:=gl0) (tab:=tab0) (f:=f_slices_Insert_aT) rfl rfl as []
theorem tell_slices_Grow_string(as:List PA):P0 f_slices_Grow_string as []=tellK (txGrow 16) (.gvf 1) as []:=pcL_tell (gl:=gl0) (tab:=tab0) (f:=f_slices_Grow_string) rfl rfl as []
theorem tell_slices_Grow_aT(as:List PA):P0 f_slices_Grow_aT as []=tellK (txGrow 120) (.gvf 8) as []:=pcL_tell (gl:=gl0) (tab:=tab0) (f:=f_slices_Grow_aT) rfl rfl as []
end Go.Ev
