/- What the functions compute. -/
import Derived.Test.YtineambfljmbgaaDoorKCode
import Derived.KernelRfl
set_option linter.all false
namespace Go.Ev
noncomputable def F_law05_TreeSame (a0 : V) (a1 : V) : Option (V × List V) :=
(lenV a0).bind fun n1 =>
((if (decide ((((n1 : Nat) : Int) : Int) > 60)) = false then
(lenV a1).bind fun n2 =>
 some (.bool (decide ((((n2 : Nat) : Int) : Int) > 60)))
else some (.bool true) : Option V)).bind fun x3 =>
(asBool x3).bind fun b4 =>
 if b4 = true then
(P0 f_law05_awake [] []).bind fun r5 =>
 some (r5.1, [])
else
(P0 f_law00_Made [.v a0, .v (.int .i64 4)] []).bind fun r6 =>
(P0 f_law00_Made [.v a1, .v (.int .i64 4)] []).bind fun r7 =>
 tst (okN 8 r6.1) (tst (okN 8 r7.1) (tst (okN 8 r6.1) (tst (okN 8 r7.1) (tst (okN 8 r7.1) (tst (okN 8 r6.1) (tst (okN 8 r6.1) (tst (okN 8 r6.1) ((P0 f_law00_Tree [.v r6.1] []).bind fun r8 =>
(P0 f_tree_Same [.v r6.1, .v r8.1] []).bind fun r9 =>
(asBool r9.1).bind fun b10 =>
((if b10 = true then
(P0 f_tree_Same [.v (.agg [(.int .i64 6), (.bool false), (.bool false), (.sl []), (.int .i64 0), (.str []), (.sl []), (.sl [r6.1, r7.1])]), .v (.agg [(.int .i64 6), (.bool false), (.bool false), (.sl []), (.int .i64 0), (.str []), (.sl []), (.sl [r7.1, r6.1])])] []).bind fun r11 =>
(P0 f_tree_Same [.v r6.1, .v r7.1] []).bind fun r12 =>
(asBool r11.1).bind fun b13 =>
(asBool r12.1).bind fun b14 =>
 some (.bool (b13 == b14))
else some (.bool false) : Option V)).bind fun x15 =>
(asBool x15).bind fun b16 =>
((if b16 = true then
(P0 f_tree_Same [.v r6.1, .v r7.1] []).bind fun r17 =>
(P0 f_tree_Same [.v r7.1, .v r6.1] []).bind fun r18 =>
(asBool r17.1).bind fun b19 =>
(asBool r18.1).bind fun b20 =>
 some (.bool (b19 == b20))
else some (.bool false) : Option V)).bind fun x21 =>
(asBool x21).bind fun b22 =>
((if b22 = true then
 tst (okN 8 r6.1) ((P0 f_tree_Same [.v (.agg [(.int .i64 6), (.bool false), (.bool false), (.sl []), (.int .i64 0), (.str []), (.sl []), (.sl [r6.1, r7.1])]), .v (.agg [(.int .i64 6), (.bool false), (.bool false), (.sl []), (.int .i64 0), (.str []), (.sl []), (.sl [r6.1])])] []).bind fun r23 =>
(unV .not r23.1).bind fun x24 =>
 some x24)
else some (.bool false) : Option V)).bind fun x25 =>
(asBool x25).bind fun b26 =>
((if b26 = true then
(P0 f_tree_Same [.v (.agg [(.int .i64 7), (.bool false), (.bool false), (.sl []), (.int .i64 0), (.str []), (.sl [(.str [97])]), (.sl [r6.1])]), .v (.agg [(.int .i64 7), (.bool false), (.bool false), (.sl []), (.int .i64 0), (.str []), (.sl [(.str [98])]), (.sl [r6.1])])] []).bind fun r27 =>
(unV .not r27.1).bind fun x28 =>
 some x28
else some (.bool false) : Option V)).bind fun x29 =>
(asBool x29).bind fun b30 =>
((if b30 = true then
(P0 f_tree_Same [.v (.agg [(.int .i64 7), (.bool false), (.bool false), (.sl []), (.int .i64 0), (.str []), (.sl [(.str [97])]), (.sl [r6.1])]), .v r6.1] []).bind fun r31 =>
(unV .not r31.1).bind fun x32 =>
 some x32
else some (.bool false) : Option V)).bind fun x33 =>
(asBool x33).bind fun b34 =>
((if b34 = true then
(P0 f_tree_Weight [.v (.agg [(.int .i64 6), (.bool false), (.bool false), (.sl []), (.int .i64 0), (.str []), (.sl []), (.sl [r6.1, r7.1])])] []).bind fun r35 =>
(P0 f_tree_Weight [.v r6.1] []).bind fun r36 =>
(binV .add (.int .i64 1) r36.1).bind fun x37 =>
(P0 f_tree_Weight [.v r7.1] []).bind fun r38 =>
(binV .add x37 r38.1).bind fun x39 =>
(binV .eql r35.1 x39).bind fun x40 =>
 some x40
else some (.bool false) : Option V)).bind fun x41 =>
(asBool x41).bind fun b42 =>
((if b42 = true then
(P0 f_tree_Nodes [.v (.agg [(.int .i64 7), (.bool false), (.bool false), (.sl []), (.int .i64 0), (.str []), (.sl [(.str [97])]), (.sl [r6.1])])] []).bind fun r43 =>
(P0 f_tree_Nodes [.v r6.1] []).bind fun r44 =>
(binV .add (.int .i64 1) r44.1).bind fun x45 =>
(binV .eql r43.1 x45).bind fun x46 =>
 some x46
else some (.bool false) : Option V)).bind fun x47 =>
(asBool x47).bind fun b48 =>
((if b48 = true then
(P0 f_tree_Depth [.v (.agg [(.int .i64 6), (.bool false), (.bool false), (.sl []), (.int .i64 0), (.str []), (.sl []), (.sl [r6.1, r7.1])])] []).bind fun r49 =>
(P0 f_tree_Depth [.v r6.1] []).bind fun r50 =>
(P0 f_tree_Depth [.v r7.1] []).bind fun r51 =>
(maxV r50.1 [r51.1]).bind fun x52 =>
(binV .add (.int .i64 1) x52).bind fun x53 =>
(binV .eql r49.1 x53).bind fun x54 =>
 some x54
else some (.bool false) : Option V)).bind fun x55 =>
(asBool x55).bind fun b56 =>
((if b56 = true then
(P0 f_law05_awake [] []).bind fun r57 =>
 some r57.1
else some (.bool false) : Option V)).bind fun x58 =>
 some (x58, [])))))))))
theorem eq_law05_TreeSame (a0 : V) (a1 : V) : P0 f_law05_TreeSame [.v a0, .v a1] [] = F_law05_TreeSame a0 a1 :=
  (pcL_eq (fn := p_law05_TreeSame) (by kernel_rfl) _ _).trans (by kernel_rfl)
noncomputable def F_law00_Place (a0 : V) (a1 : V) : Option (V × List V) :=
(binV .rem a0 a1).bind fun x1 =>
(binV .lss x1 (.int .i64 0)).bind fun x2 =>
(asBool x2).bind fun b3 =>
 if b3 = true then
(binV .add x1 a1).bind fun x4 =>
 some (x4, [])
else
 some (x1, [])
theorem eq_law00_Place (a0 : V) (a1 : V) : P0 f_law00_Place [.v a0, .v a1] [] = F_law00_Place a0 a1 :=
  (pcL_eq (fn := p_law00_Place) (by kernel_rfl) _ _).trans (by kernel_rfl)
noncomputable def F_tree_Check (a0 : V) : Option (V × List V) :=
 tst (okN 8 a0) ((P0 f_tree_check [.v a0, .v (.int .i64 1), .p 0 0] [(false, 1, (.int .i64 2000))]).bind fun r1 =>
(r1.2[0]?).bind fun y2 =>
 some (r1.1, []))
theorem eq_tree_Check (a0 : V) : P0 f_tree_Check [.v a0] [] = F_tree_Check a0 :=
  (pcL_eq (fn := p_tree_Check) (by kernel_rfl) _ _).trans (by kernel_rfl)
noncomputable def L_tree_Depth_1 (n2 : Nat) (c1 : V) (v3 : Nat → V) : Option ((Nat → V) ⊕ (Nat × (Nat → V))) :=
(binV .lss (v3 1) (.int .i64 ((n2 : Nat) : Int))).bind fun x4 =>
(asBool x4).bind fun b5 =>
 if b5 = true then
(asSl 8 c1).bind fun l6 =>
(idxV (v3 1) (l6.length)).bind fun i7 =>
(l6[i7]?).bind fun e8 =>
 tst (okN 8 e8) ((P0 f_tree_Depth [.v e8] []).bind fun r9 =>
(maxV (v3 0) [r9.1]).bind fun x10 =>
(binV .add (v3 1) (.int .i64 1)).bind fun x11 =>
 some (.inl (vec [x10, x11])))
else
 some (.inr (0, (vec [(v3 0)])))
noncomputable def F_tree_Depth (a0 : V) : Option (V × List V) :=
 tst (okN 8 a0) ((fldV a0 7).bind fun c1 =>
(lenV c1).bind fun n2 =>
(loopL (L_tree_Depth_1 n2 c1) (vec [(.int .i64 0), (.int .i64 0)])).bind fun o12 =>
(binV .add (.int .i64 1) (o12.2 0)).bind fun x13 =>
 some (x13, []))
theorem eq_tree_Depth (a0 : V) : P0 f_tree_Depth [.v a0] [] = F_tree_Depth a0 :=
  (pcL_eq (fn := p_tree_Depth) (by kernel_rfl) _ _).trans (by kernel_rfl)
noncomputable def L_tree_Weight_1 (n15 : Nat) (c14 : V) (v16 : Nat → V) : Option ((Nat → V) ⊕ (Nat × (Nat → V))) :=
(binV .lss (v16 1) (.int .i64 ((n15 : Nat) : Int))).bind fun x17 =>
(asBool x17).bind fun b18 =>
 if b18 = true then
(asSl 8 c14).bind fun l19 =>
(idxV (v16 1) (l19.length)).bind fun i20 =>
(l19[i20]?).bind fun e21 =>
 tst (okN 8 e21) ((P0 f_tree_Weight [.v e21] []).bind fun r22 =>
(binV .add (v16 0) r22.1).bind fun x23 =>
(binV .add (v16 1) (.int .i64 1)).bind fun x24 =>
 some (.inl (vec [x23, x24])))
else
 some (.inr (0, (vec [(v16 0)])))
noncomputable def F_tree_Weight (a0 : V) : Option (V × List V) :=
 tst (okN 8 a0) ((((fldV a0 0).bind fun c1 =>
(binV .eql c1 (.int .i64 3)).bind fun x2 =>
(asBool x2).bind fun b3 =>
 if b3 = true then
(fldV a0 3).bind fun c4 =>
(lenV c4).bind fun n5 =>
 some (0, (vec [(.int .i64 (IntKind.wrap .i64 (1 + ((n5 : Nat) : Int))))]))
else
(((binV .eql c1 (.int .i64 4)).bind fun x6 =>
(asBool x6).bind fun b7 =>
 if b7 = true then
 some (0, (vec [x6]))
else
(binV .eql c1 (.int .i64 5)).bind fun x8 =>
 some (0, (vec [x8])) : Option (Nat × (Nat → V)))).bind fun o9 =>
(asBool (o9.2 0)).bind fun b10 =>
 if b10 = true then
(fldV a0 5).bind fun c11 =>
(lnsV c11).bind fun n12 =>
 some (0, (vec [(.int .i64 (IntKind.wrap .i64 (1 + ((n12 : Nat) : Int))))]))
else
 some (0, (vec [(.int .i64 1)])) : Option (Nat × (Nat → V)))).bind fun o13 =>
(fldV a0 7).bind fun c14 =>
(lenV c14).bind fun n15 =>
(loopL (L_tree_Weight_1 n15 c14) (vec [(o13.2 0), (.int .i64 0)])).bind fun o25 =>
 some ((o25.2 0), []))
theorem eq_tree_Weight (a0 : V) : P0 f_tree_Weight [.v a0] [] = F_tree_Weight a0 :=
  (pcL_eq (fn := p_tree_Weight) (by kernel_rfl) _ _).trans (by kernel_rfl)
noncomputable def F_law05_awake : Option (V × List V) :=
(P0 f_tree_Weight [.v (.agg [(.int .i64 7), (.bool false), (.bool false), (.sl []), (.int .i64 0), (.str []), (.sl [(.str [97])]), (.sl [(.agg [(.int .i64 6), (.bool false), (.bool false), (.sl []), (.int .i64 0), (.str []), (.sl []), (.sl [(.agg [(.int .i64 3), (.bool false), (.bool false), (.sl [(.int .u32 1)]), (.int .i64 0), (.str []), (.sl []), (.sl [])]), (.agg [(.int .i64 4), (.bool false), (.bool false), (.sl []), (.int .i64 0), (.str [120, 121]), (.sl []), (.sl [])])])])])])] []).bind fun r1 =>
(binV .eql r1.1 (.int .i64 7)).bind fun x2 =>
(asBool x2).bind fun b3 =>
((if b3 = true then
(P0 f_tree_Check [.v (.agg [(.int .i64 7), (.bool false), (.bool false), (.sl []), (.int .i64 0), (.str []), (.sl [(.str [97])]), (.sl [(.agg [(.int .i64 6), (.bool false), (.bool false), (.sl []), (.int .i64 0), (.str []), (.sl []), (.sl [(.agg [(.int .i64 3), (.bool false), (.bool false), (.sl [(.int .u32 1)]), (.int .i64 0), (.str []), (.sl []), (.sl [])]), (.agg [(.int .i64 4), (.bool false), (.bool false), (.sl []), (.int .i64 0), (.str [120, 121]), (.sl []), (.sl [])])])])])])] []).bind fun r4 =>
 some r4.1
else some (.bool false) : Option V)).bind fun x5 =>
(asBool x5).bind fun b6 =>
((if b6 = true then
(P0 f_tree_Nodes [.v (.agg [(.int .i64 7), (.bool false), (.bool false), (.sl []), (.int .i64 0), (.str []), (.sl [(.str [97])]), (.sl [(.agg [(.int .i64 6), (.bool false), (.bool false), (.sl []), (.int .i64 0), (.str []), (.sl []), (.sl [(.agg [(.int .i64 3), (.bool false), (.bool false), (.sl [(.int .u32 1)]), (.int .i64 0), (.str []), (.sl []), (.sl [])]), (.agg [(.int .i64 4), (.bool false), (.bool false), (.sl []), (.int .i64 0), (.str [120, 121]), (.sl []), (.sl [])])])])])])] []).bind fun r7 =>
(binV .eql r7.1 (.int .i64 4)).bind fun x8 =>
 some x8
else some (.bool false) : Option V)).bind fun x9 =>
(asBool x9).bind fun b10 =>
((if b10 = true then
(P0 f_tree_Depth [.v (.agg [(.int .i64 7), (.bool false), (.bool false), (.sl []), (.int .i64 0), (.str []), (.sl [(.str [97])]), (.sl [(.agg [(.int .i64 6), (.bool false), (.bool false), (.sl []), (.int .i64 0), (.str []), (.sl []), (.sl [(.agg [(.int .i64 3), (.bool false), (.bool false), (.sl [(.int .u32 1)]), (.int .i64 0), (.str []), (.sl []), (.sl [])]), (.agg [(.int .i64 4), (.bool false), (.bool false), (.sl []), (.int .i64 0), (.str [120, 121]), (.sl []), (.sl [])])])])])])] []).bind fun r11 =>
(binV .eql r11.1 (.int .i64 3)).bind fun x12 =>
 some x12
else some (.bool false) : Option V)).bind fun x13 =>
 some (x13, [])
theorem eq_law05_awake : P0 f_law05_awake [] [] = F_law05_awake :=
  (pcL_eq (fn := p_law05_awake) (by kernel_rfl) _ _).trans (by kernel_rfl)
noncomputable def F_law00_Made (a0 : V) (a1 : V) : Option (V × List V) :=
(P0 f_law00_made [.v a0, .v a1] []).bind fun r1 =>
(extV r1.1 0).bind fun x2 =>
(extV r1.1 1).bind fun x3 =>
 tst (okN 8 x2) (tst (okN 8 x2) (some (x2, [])))
theorem eq_law00_Made (a0 : V) (a1 : V) : P0 f_law00_Made [.v a0, .v a1] [] = F_law00_Made a0 a1 :=
  (pcL_eq (fn := p_law00_Made) (by kernel_rfl) _ _).trans (by kernel_rfl)
noncomputable def L_law00_Tree_1 (a0 : V) (v14 : Nat → V) : Option ((Nat → V) ⊕ (Nat × (Nat → V))) :=
(fldV a0 7).bind fun c15 =>
(lenV c15).bind fun n16 =>
(binV .lss (v14 0) (.int .i64 ((n16 : Nat) : Int))).bind fun x17 =>
(asBool x17).bind fun b18 =>
 if b18 = true then
(fldV a0 7).bind fun c19 =>
(asSl 8 c19).bind fun l20 =>
(idxV (v14 0) (l20.length)).bind fun i21 =>
(l20[i21]?).bind fun e22 =>
(P0 f_law00_Tree [.v e22] []).bind fun r23 =>
 tst (okN 8 r23.1) (tst (szOk 8 [r23.1]) (tst (appOk 120 ((V.elems (v14 8)).length) (List.length (α := V) [r23.1])) ((binV .add (v14 0) (.int .i64 1)).bind fun x24 =>
 some (.inl (vec [x24, (v14 1), (v14 2), (v14 3), (v14 4), (v14 5), (v14 6), (v14 7), (.sl ((V.elems (v14 8)) ++ ([r23.1] : List V)))])))))
else
 some (.inr (0, (vec [(v14 1), (v14 2), (v14 3), (v14 4), (v14 5), (v14 6), (v14 7), (.sl (V.elems (v14 8)))])))
noncomputable def F_law00_Tree (a0 : V) : Option (V × List V) :=
 tst (okN 8 a0) ((fldV a0 0).bind fun c1 =>
(fldV a0 1).bind fun c2 =>
(P0 f_law00_Num [.v (subV a0 2 3)] []).bind fun r3 =>
(fldV a0 5).bind fun c4 =>
(fldV a0 6).bind fun c5 =>
(P0 f_law00_Strings [.v c5] []).bind fun r6 =>
 tst (okN 1 c1) ((fldV c1 0).bind fun c7 =>
 tst (okN 1 c2) ((fldV c2 0).bind fun c8 =>
 tst (okN 3 r3.1) ((fldV r3.1 0).bind fun c9 =>
(fldV r3.1 1).bind fun c10 =>
(fldV r3.1 2).bind fun c11 =>
 tst (okN 1 c4) ((fldV c4 0).bind fun c12 =>
 tst (okN 1 r6.1) ((fldV r6.1 0).bind fun c13 =>
(loopL (L_law00_Tree_1 a0) (vec [(.int .i64 0), c7, c8, c9, c10, c11, c12, c13, (.sl [])])).bind fun o25 =>
 some ((.agg [(o25.2 0), (o25.2 1), (o25.2 2), (o25.2 3), (o25.2 4), (o25.2 5), (o25.2 6), (.sl (V.elems (o25.2 7)))]), [])))))))
theorem eq_law00_Tree (a0 : V) : P0 f_law00_Tree [.v a0] [] = F_law00_Tree a0 :=
  (pcL_eq (fn := p_law00_Tree) (by kernel_rfl) _ _).trans (by kernel_rfl)
noncomputable def F_tree_Same (a0 : V) (a1 : V) : Option (V × List V) :=
 tst (okN 8 a0) (tst (okN 8 a1) ((fldV a0 0).bind fun c1 =>
(fldV a1 0).bind fun c2 =>
(binV .neq c1 c2).bind fun x3 =>
(asBool x3).bind fun b4 =>
 if b4 = true then
 some ((.bool false), [])
else
(fldV a0 0).bind fun c5 =>
(((binV .eql c5 (.int .i64 2)).bind fun x6 =>
(asBool x6).bind fun b7 =>
 if b7 = true then
(fldV a0 1).bind fun c8 =>
(fldV a1 1).bind fun c9 =>
(asBool c8).bind fun b10 =>
(asBool c9).bind fun b11 =>
 some (4, (vec [(.bool (b10 == b11))]))
else
(binV .eql c5 (.int .i64 3)).bind fun x12 =>
(asBool x12).bind fun b13 =>
 if b13 = true then
(P0 f_num_Same [.v (subV a0 2 3), .v (subV a1 2 3)] []).bind fun r14 =>
 some (4, (vec [r14.1]))
else
(binV .eql c5 (.int .i64 4)).bind fun x15 =>
(asBool x15).bind fun b16 =>
 if b16 = true then
 some (3, (vec []))
else
(binV .eql c5 (.int .i64 5)).bind fun x17 =>
(asBool x17).bind fun b18 =>
 if b18 = true then
 some (3, (vec []))
else
(binV .eql c5 (.int .i64 7)).bind fun x19 =>
(asBool x19).bind fun b20 =>
 if b20 = true then
 some (1, (vec []))
else
(binV .eql c5 (.int .i64 6)).bind fun x21 =>
(asBool x21).bind fun b22 =>
 if b22 = true then
 some (2, (vec []))
else
 some (0, (vec [])) : Option (Nat × (Nat → V)))).bind fun o23 =>
 if o23.1 = 0 then
 some ((.bool true), [])
else
 if (o23.1 - 1) = 0 then
(fldV a0 6).bind fun c24 =>
(fldV a1 6).bind fun c25 =>
(P0 f_slices_Equal_string [.v c24, .v c25] []).bind fun r26 =>
(asBool r26.1).bind fun b27 =>
((if b27 = true then
(fldV a0 7).bind fun c28 =>
(fldV a1 7).bind fun c29 =>
(P0 f_slices_EqualFunc_erratum_api_Tree [.v c28, .v c29, .fn f_tree_Same []] []).bind fun r30 =>
 some r30.1
else some (.bool false) : Option V)).bind fun x31 =>
 some (x31, [])
else
 if ((o23.1 - 1) - 1) = 0 then
(fldV a0 7).bind fun c32 =>
(fldV a1 7).bind fun c33 =>
(P0 f_slices_EqualFunc_erratum_api_Tree [.v c32, .v c33, .fn f_tree_Same []] []).bind fun r34 =>
 some (r34.1, [])
else
 if (((o23.1 - 1) - 1) - 1) = 0 then
(fldV a0 5).bind fun c35 =>
(fldV a1 5).bind fun c36 =>
(binV .eql c35 c36).bind fun x37 =>
 some (x37, [])
else
 some ((o23.2 0), [])))
theorem eq_tree_Same (a0 : V) (a1 : V) : P0 f_tree_Same [.v a0, .v a1] [] = F_tree_Same a0 a1 :=
  (pcL_eq (fn := p_tree_Same) (by kernel_rfl) _ _).trans (by kernel_rfl)
noncomputable def L_tree_Nodes_1 (n2 : Nat) (c1 : V) (v3 : Nat → V) : Option ((Nat → V) ⊕ (Nat × (Nat → V))) :=
(binV .lss (v3 1) (.int .i64 ((n2 : Nat) : Int))).bind fun x4 =>
(asBool x4).bind fun b5 =>
 if b5 = true then
(asSl 8 c1).bind fun l6 =>
(idxV (v3 1) (l6.length)).bind fun i7 =>
(l6[i7]?).bind fun e8 =>
 tst (okN 8 e8) ((P0 f_tree_Nodes [.v e8] []).bind fun r9 =>
(binV .add (v3 0) r9.1).bind fun x10 =>
(binV .add (v3 1) (.int .i64 1)).bind fun x11 =>
 some (.inl (vec [x10, x11])))
else
 some (.inr (0, (vec [(v3 0)])))
noncomputable def F_tree_Nodes (a0 : V) : Option (V × List V) :=
 tst (okN 8 a0) ((fldV a0 7).bind fun c1 =>
(lenV c1).bind fun n2 =>
(loopL (L_tree_Nodes_1 n2 c1) (vec [(.int .i64 1), (.int .i64 0)])).bind fun o12 =>
 some ((o12.2 0), []))
theorem eq_tree_Nodes (a0 : V) : P0 f_tree_Nodes [.v a0] [] = F_tree_Nodes a0 :=
  (pcL_eq (fn := p_tree_Nodes) (by kernel_rfl) _ _).trans (by kernel_rfl)
noncomputable def L_tree_check_1 (n13 : Nat) (c12 : V) (a1 : V) (v14 : Nat → V) : Option ((Nat → V) ⊕ (Nat × (Nat → V))) :=
(binV .lss (v14 0) (.int .i64 ((n13 : Nat) : Int))).bind fun x15 =>
(asBool x15).bind fun b16 =>
 if b16 = true then
(asSl 8 c12).bind fun l17 =>
(idxV (v14 0) (l17.length)).bind fun i18 =>
(l17[i18]?).bind fun e19 =>
 tst (okN 8 e19) ((binV .add a1 (.int .i64 1)).bind fun x20 =>
(P0 f_tree_check [.v e19, .v x20, .p 0 0] [(false, 1, (v14 1))]).bind fun r21 =>
(r21.2[0]?).bind fun y22 =>
(unV .not r21.1).bind fun x23 =>
(asBool x23).bind fun b24 =>
 if b24 = true then
 some (.inr (1, (vec [(.bool false), y22])))
else
(binV .add (v14 0) (.int .i64 1)).bind fun x25 =>
 some (.inl (vec [x25, y22])))
else
 some (.inr (0, (vec [(v14 1)])))
noncomputable def F_tree_check (a0 : V) (a1 : V) (a2 : V) : Option (V × List V) :=
 tst (okN 8 a0) ((binV .sub a2 (.int .i64 1)).bind fun x1 =>
 tst (okN 1 x1) ((fldV x1 0).bind fun c2 =>
(binV .lss c2 (.int .i64 0)).bind fun x3 =>
(asBool x3).bind fun b4 =>
((if b4 = false then
(binV .gtr a1 (.int .i64 64)).bind fun x5 =>
 some x5
else some (.bool true) : Option V)).bind fun x6 =>
(asBool x6).bind fun b7 =>
((if b7 = false then
(P0 f_tree_own [.v a0] []).bind fun r8 =>
(unV .not r8.1).bind fun x9 =>
 some x9
else some (.bool true) : Option V)).bind fun x10 =>
(asBool x10).bind fun b11 =>
 if b11 = true then
 some ((.bool false), [c2])
else
(fldV a0 7).bind fun c12 =>
(lenV c12).bind fun n13 =>
(loopL (L_tree_check_1 n13 c12 a1) (vec [(.int .i64 0), c2])).bind fun o26 =>
 if o26.1 = 0 then
 some ((.bool true), [(o26.2 0)])
else
 some ((o26.2 0), [(o26.2 1)])))
theorem eq_tree_check (a0 : V) (a1 : V) (a2 : V) : P0 f_tree_check [.v a0, .v a1, .p 0 0] [(false, 1, a2)] = F_tree_check a0 a1 a2 :=
  (pcL_eq (fn := p_tree_check) (by kernel_rfl) _ _).trans (by kernel_rfl)
noncomputable def L_law00_made_1 (r6 : V × List V) (a1 : V) (v55 : Nat → V) : Option ((Nat → V) ⊕ (Nat × (Nat → V))) :=
(binV .quo r6.1 (.int .i64 12)).bind fun x56 =>
(binV .rem x56 (.int .i64 4)).bind fun x57 =>
(binV .lss (v55 1) x57).bind fun x58 =>
(asBool x58).bind fun b59 =>
 if b59 = true then
(binV .sub a1 (.int .i64 1)).bind fun x60 =>
(P0 f_law00_made [.v (v55 0), .v x60] []).bind fun r61 =>
(extV r61.1 0).bind fun x62 =>
(extV r61.1 1).bind fun x63 =>
 tst (okN 8 x62) (tst (okN 8 x62) (tst (szOk 8 [x62]) (tst (appOk 120 ((V.elems (v55 17)).length) (List.length (α := V) [x62])) ((binV .add (v55 1) (.int .i64 1)).bind fun x64 =>
 some (.inl (vec [x63, x64, (v55 2), (v55 3), (v55 4), (.sl (V.elems (v55 5))), (v55 6), (v55 7), (.sl (V.elems (v55 8))), (.sl (V.elems (v55 9))), (v55 10), (v55 11), (v55 12), (.sl (V.elems (v55 13))), (v55 14), (v55 15), (.sl (V.elems (v55 16))), (.sl ((V.elems (v55 17)) ++ ([x62] : List V)))]))))))
else
 some (.inr (0, (vec [(v55 0), (v55 2), (v55 3), (v55 4), (.sl (V.elems (v55 5))), (v55 6), (v55 7), (.sl (V.elems (v55 8))), (.sl (V.elems (v55 9))), (v55 10), (v55 11), (v55 12), (.sl (V.elems (v55 13))), (v55 14), (v55 15), (.sl (V.elems (v55 16))), (.sl (V.elems (v55 17)))])))
noncomputable def L_law00_made_2 (r6 : V × List V) (a1 : V) (v67 : Nat → V) : Option ((Nat → V) ⊕ (Nat × (Nat → V))) :=
(binV .quo r6.1 (.int .i64 12)).bind fun x68 =>
(binV .rem x68 (.int .i64 4)).bind fun x69 =>
(binV .lss (v67 1) x69).bind fun x70 =>
(asBool x70).bind fun b71 =>
 if b71 = true then
(binV .sub a1 (.int .i64 1)).bind fun x72 =>
(P0 f_law00_made [.v (v67 0), .v x72] []).bind fun r73 =>
(extV r73.1 0).bind fun x74 =>
(extV r73.1 1).bind fun x75 =>
 tst (okN 8 x74) ((P0 f_law00_Names [.g] []).bind fun r76 =>
(slV r76.1).bind fun l77 =>
(binV .quo r6.1 (.int .i64 48)).bind fun x78 =>
(binV .mul (.int .i64 3) (v67 1)).bind fun x79 =>
(binV .add x78 x79).bind fun x80 =>
(binV .rem x80 (.int .i64 8)).bind fun x81 =>
 tst (szOk 1 l77) ((idxV x81 (l77.length)).bind fun i82 =>
(l77[i82]?).bind fun e83 =>
(fldV e83 0).bind fun c84 =>
(P0 f_ref05_Set [.v (.agg [(v67 10), (v67 11), (v67 12), (v67 13), (v67 14), (v67 15), (v67 16), (v67 17)]), .v c84, .v x74] []).bind fun r85 =>
 tst (okN 8 r85.1) ((binV .add (v67 1) (.int .i64 1)).bind fun x86 =>
(fldV r85.1 0).bind fun c87 =>
(fldV r85.1 1).bind fun c88 =>
(fldV r85.1 2).bind fun c89 =>
(fldV r85.1 3).bind fun c90 =>
(fldV r85.1 4).bind fun c91 =>
(fldV r85.1 5).bind fun c92 =>
(fldV r85.1 6).bind fun c93 =>
(fldV r85.1 7).bind fun c94 =>
 some (.inl (vec [x75, x86, (v67 2), (v67 3), (v67 4), (.sl (V.elems (v67 5))), (v67 6), (v67 7), (.sl (V.elems (v67 8))), (.sl (V.elems (v67 9))), c87, c88, c89, c90, c91, c92, c93, c94])))))
else
 some (.inr (0, (vec [(v67 0), (v67 2), (v67 3), (v67 4), (.sl (V.elems (v67 5))), (v67 6), (v67 7), (.sl (V.elems (v67 8))), (.sl (V.elems (v67 9))), (.agg [(v67 10), (v67 11), (v67 12), (v67 13), (v67 14), (v67 15), (v67 16), (v67 17)])])))
noncomputable def F_law00_made (a0 : V) (a1 : V) : Option (V × List V) :=
(lenV a0).bind fun n1 =>
 if ((((n1 : Nat) : Int) : Int) == 0) = true then
 some ((.tup [(.agg [(.int .i64 1), (.bool false), (.bool false), (.sl []), (.int .i64 0), (.str []), (.sl []), (.sl [])]), (.sl [])]), [])
else
(asSl 1 a0).bind fun l2 =>
(idxV (.int .i64 0) (l2.length)).bind fun i3 =>
(l2[i3]?).bind fun e4 =>
(fldV e4 0).bind fun c5 =>
(P0 f_law00_Place [.v c5, .v (.int .i64 1073741824)] []).bind fun r6 =>
(asSl 1 a0).bind fun l7 =>
(bnd2 (some (.int .i64 1)) none (l7.length)).bind fun q8 =>
(binV .rem r6.1 (.int .i64 12)).bind fun x9 =>
(((binV .leq a1 (.int .i64 0)).bind fun x10 =>
(asBool x10).bind fun b11 =>
((if b11 = true then
(binV .geq x9 (.int .i64 6)).bind fun x12 =>
 some x12
else some (.bool false) : Option V)).bind fun x13 =>
(asBool x13).bind fun b14 =>
 if b14 = true then
(binV .sub x9 (.int .i64 6)).bind fun x15 =>
 some (0, (vec [x15]))
else
 some (0, (vec [x9])) : Option (Nat × (Nat → V)))).bind fun o16 =>
(((binV .eql (o16.2 0) (.int .i64 0)).bind fun x17 =>
(asBool x17).bind fun b18 =>
 if b18 = true then
 some (1, (vec [(.sl ((l7.drop q8.1).take (q8.2 - q8.1))), (.int .i64 1), (.bool false), (.bool false), (.sl []), (.int .i64 0), (.str []), (.sl []), (.sl [])]))
else
(binV .eql (o16.2 0) (.int .i64 1)).bind fun x19 =>
(asBool x19).bind fun b20 =>
 if b20 = true then
(binV .quo r6.1 (.int .i64 12)).bind fun x21 =>
(binV .rem x21 (.int .i64 2)).bind fun x22 =>
(binV .eql x22 (.int .i64 1)).bind fun x23 =>
 tst (okN 1 x23) ((fldV x23 0).bind fun c24 =>
 some (1, (vec [(.sl ((l7.drop q8.1).take (q8.2 - q8.1))), (.int .i64 2), c24, (.bool false), (.sl []), (.int .i64 0), (.str []), (.sl []), (.sl [])])))
else
(((binV .eql (o16.2 0) (.int .i64 2)).bind fun x25 =>
(asBool x25).bind fun b26 =>
 if b26 = true then
 some (0, (vec [x25, (.int .i64 0), (.bool false), (.bool false), (.sl []), (.int .i64 0), (.str []), (.sl []), (.sl [])]))
else
(binV .eql (o16.2 0) (.int .i64 3)).bind fun x27 =>
 some (0, (vec [x27, (.int .i64 0), (.bool false), (.bool false), (.sl []), (.int .i64 0), (.str []), (.sl []), (.sl [])])) : Option (Nat × (Nat → V)))).bind fun o28 =>
(asBool (o28.2 0)).bind fun b29 =>
 if b29 = true then
(binV .quo r6.1 (.int .i64 12)).bind fun x30 =>
(P0 f_law00_number [.v x30] []).bind fun r31 =>
 tst (okN 3 r31.1) ((fldV r31.1 0).bind fun c32 =>
(fldV r31.1 1).bind fun c33 =>
(fldV r31.1 2).bind fun c34 =>
 some (1, (vec [(.sl ((l7.drop q8.1).take (q8.2 - q8.1))), (.int .i64 3), (.bool false), c32, c33, c34, (.str []), (.sl []), (.sl [])])))
else
(binV .eql (o16.2 0) (.int .i64 4)).bind fun x35 =>
(asBool x35).bind fun b36 =>
 if b36 = true then
(binV .quo r6.1 (.int .i64 12)).bind fun x37 =>
(binV .rem x37 (.int .i64 9)).bind fun x38 =>
(ixaV false 9 1 (.agg [(.int .i64 0), (.int .i64 1), (.int .i64 2), (.int .i64 3), (.int .i64 4), (.int .i64 5), (.int .i64 6), (.int .i64 8), (.int .i64 9)]) x38).bind fun x39 =>
(slsV (.str [97, 98, 99, 34, 92, 10, 195, 169, 122]) none (some x39)).bind fun x40 =>
 tst (okN 1 x40) ((fldV x40 0).bind fun c41 =>
 some (1, (vec [(.sl ((l7.drop q8.1).take (q8.2 - q8.1))), (.int .i64 4), (.bool false), (.bool false), (.sl []), (.int .i64 0), c41, (.sl []), (.sl [])])))
else
(binV .eql (o16.2 0) (.int .i64 5)).bind fun x42 =>
(asBool x42).bind fun b43 =>
 if b43 = true then
(binV .quo r6.1 (.int .i64 12)).bind fun x44 =>
(binV .rem x44 (.int .i64 5)).bind fun x45 =>
(slsV (.str [0, 255, 97, 98]) none (some x45)).bind fun x46 =>
 tst (okN 1 x46) ((fldV x46 0).bind fun c47 =>
 some (1, (vec [(.sl ((l7.drop q8.1).take (q8.2 - q8.1))), (.int .i64 5), (.bool false), (.bool false), (.sl []), (.int .i64 0), c47, (.sl []), (.sl [])])))
else
(((binV .eql (o16.2 0) (.int .i64 6)).bind fun x48 =>
(asBool x48).bind fun b49 =>
 if b49 = true then
 some (0, (vec [x48, (o28.2 1), (o28.2 2), (o28.2 3), (.sl (V.elems (o28.2 4))), (o28.2 5), (o28.2 6), (.sl (V.elems (o28.2 7))), (.sl (V.elems (o28.2 8)))]))
else
(binV .eql (o16.2 0) (.int .i64 7)).bind fun x50 =>
(asBool x50).bind fun b51 =>
 if b51 = true then
 some (0, (vec [x50, (o28.2 1), (o28.2 2), (o28.2 3), (.sl (V.elems (o28.2 4))), (o28.2 5), (o28.2 6), (.sl (V.elems (o28.2 7))), (.sl (V.elems (o28.2 8)))]))
else
(binV .eql (o16.2 0) (.int .i64 8)).bind fun x52 =>
 some (0, (vec [x52, (o28.2 1), (o28.2 2), (o28.2 3), (.sl (V.elems (o28.2 4))), (o28.2 5), (o28.2 6), (.sl (V.elems (o28.2 7))), (.sl (V.elems (o28.2 8)))])) : Option (Nat × (Nat → V)))).bind fun o53 =>
(asBool (o53.2 0)).bind fun b54 =>
 if b54 = true then
(loopL (L_law00_made_1 r6 a1) (vec [(.sl ((l7.drop q8.1).take (q8.2 - q8.1))), (.int .i64 0), (o53.2 1), (o53.2 2), (o53.2 3), (.sl (V.elems (o53.2 4))), (o53.2 5), (o53.2 6), (.sl (V.elems (o53.2 7))), (.sl (V.elems (o53.2 8))), (.int .i64 6), (.bool false), (.bool false), (.sl []), (.int .i64 0), (.str []), (.sl []), (.sl [])])).bind fun o65 =>
 some (1, (vec [(o65.2 0), (o65.2 9), (o65.2 10), (o65.2 11), (.sl (V.elems (o65.2 12))), (o65.2 13), (o65.2 14), (.sl (V.elems (o65.2 15))), (.sl (V.elems (o65.2 16)))]))
else
 some (0, (vec [(.sl ((l7.drop q8.1).take (q8.2 - q8.1))), (o53.2 1), (o53.2 2), (o53.2 3), (.sl (V.elems (o53.2 4))), (o53.2 5), (o53.2 6), (.sl (V.elems (o53.2 7))), (.sl (V.elems (o53.2 8)))])) : Option (Nat × (Nat → V)))).bind fun o66 =>
 if o66.1 = 0 then
(loopL (L_law00_made_2 r6 a1) (vec [(o66.2 0), (.int .i64 0), (o66.2 1), (o66.2 2), (o66.2 3), (.sl (V.elems (o66.2 4))), (o66.2 5), (o66.2 6), (.sl (V.elems (o66.2 7))), (.sl (V.elems (o66.2 8))), (.int .i64 7), (.bool false), (.bool false), (.sl []), (.int .i64 0), (.str []), (.sl []), (.sl [])])).bind fun o95 =>
 tst (okN 8 (o95.2 9)) (some ((.tup [(o95.2 9), (o95.2 0)]), []))
else
 some ((.tup [(.agg [(o66.2 1), (o66.2 2), (o66.2 3), (o66.2 4), (o66.2 5), (o66.2 6), (.sl (V.elems (o66.2 7))), (.sl (V.elems (o66.2 8)))]), (o66.2 0)]), [])
theorem eq_law00_made (a0 : V) (a1 : V) : P0 f_law00_made [.v a0, .v a1] [] = F_law00_made a0 a1 :=
  (pcL_eq (fn := p_law00_made) (by kernel_rfl) _ _).trans (by kernel_rfl)
noncomputable def F_law00_Num (a0 : V) : Option (V × List V) :=
 tst (okN 3 a0) ((fldV a0 0).bind fun c1 =>
(fldV a0 1).bind fun c2 =>
(P0 f_law00_Limbs [.g, .v c2] []).bind fun r3 =>
(slV r3.1).bind fun l4 =>
(fldV a0 2).bind fun c5 =>
 tst (okN 1 c1) ((fldV c1 0).bind fun c6 =>
 tst (okN 1 c5) ((fldV c5 0).bind fun c7 =>
 some ((.agg [c6, (.sl l4), c7]), []))))
theorem eq_law00_Num (a0 : V) : P0 f_law00_Num [.v a0] [] = F_law00_Num a0 :=
  (pcL_eq (fn := p_law00_Num) (by kernel_rfl) _ _).trans (by kernel_rfl)
noncomputable def F_law00_Strings (a0 : V) : Option (V × List V) :=
(asEl 1 a0).bind fun l1 =>
 tst (appOk 16 (List.length (α := V) []) (l1.length)) (some ((.sl (([] : List V) ++ l1)), []))
theorem eq_law00_Strings (a0 : V) : P0 f_law00_Strings [.v a0] [] = F_law00_Strings a0 :=
  (pcL_eq (fn := p_law00_Strings) (by kernel_rfl) _ _).trans (by kernel_rfl)
noncomputable def F_num_Same (a0 : V) (a1 : V) : Option (V × List V) :=
 tst (okN 3 a0) (tst (okN 3 a1) ((P0 f_num_of [.v a0] []).bind fun r1 =>
(P0 f_num_of [.v a1] []).bind fun r2 =>
 tst (okN 3 r1.1) (tst (okN 3 r2.1) ((fldV r1.1 0).bind fun c3 =>
(fldV r2.1 0).bind fun c4 =>
(asBool c3).bind fun b5 =>
(asBool c4).bind fun b6 =>
((if (b5 == b6) = true then
(fldV r1.1 2).bind fun c7 =>
(fldV r2.1 2).bind fun c8 =>
(binV .eql c7 c8).bind fun x9 =>
 some x9
else some (.bool false) : Option V)).bind fun x10 =>
(asBool x10).bind fun b11 =>
((if b11 = true then
(fldV r1.1 1).bind fun c12 =>
(fldV r2.1 1).bind fun c13 =>
(P0 f_slices_Equal_uint32 [.v c12, .v c13] []).bind fun r14 =>
 some r14.1
else some (.bool false) : Option V)).bind fun x15 =>
 some (x15, [])))))
theorem eq_num_Same (a0 : V) (a1 : V) : P0 f_num_Same [.v a0, .v a1] [] = F_num_Same a0 a1 :=
  (pcL_eq (fn := p_num_Same) (by kernel_rfl) _ _).trans (by kernel_rfl)
noncomputable def L_slices_Equal_string_1 (n3 : Nat) (a0 : V) (a1 : V) (v4 : Nat → V) : Option ((Nat → V) ⊕ (Nat × (Nat → V))) :=
(binV .lss (v4 0) (.int .i64 ((n3 : Nat) : Int))).bind fun x5 =>
(asBool x5).bind fun b6 =>
 if b6 = true then
(asSl 1 a0).bind fun l7 =>
(idxV (v4 0) (l7.length)).bind fun i9 =>
(l7[i9]?).bind fun e10 =>
(fldV e10 0).bind fun c11 =>
(asSl 1 a1).bind fun l12 =>
(idxV (v4 0) (l12.length)).bind fun i13 =>
(l12[i13]?).bind fun e14 =>
(fldV e14 0).bind fun c15 =>
(binV .neq c11 c15).bind fun x16 =>
(asBool x16).bind fun b17 =>
 if b17 = true then
 some (.inr (1, (vec [(.bool false)])))
else
(binV .add (v4 0) (.int .i64 1)).bind fun x18 =>
 some (.inl (vec [x18]))
else
 some (.inr (0, (vec [])))
noncomputable def F_slices_Equal_string (a0 : V) (a1 : V) : Option (V × List V) :=
(lenV a0).bind fun n1 =>
(lenV a1).bind fun n2 =>
 if ((((n1 : Nat) : Int) : Int) != ((n2 : Nat) : Int)) = true then
 some ((.bool false), [])
else
(lenV a0).bind fun n3 =>
(loopL (L_slices_Equal_string_1 n3 a0 a1) (vec [(.int .i64 0)])).bind fun o19 =>
 if o19.1 = 0 then
 some ((.bool true), [])
else
 some ((o19.2 0), [])
theorem eq_slices_Equal_string (a0 : V) (a1 : V) : P0 f_slices_Equal_string [.v a0, .v a1] [] = F_slices_Equal_string a0 a1 :=
  (pcL_eq (fn := p_slices_Equal_string) (by kernel_rfl) _ _).trans (by kernel_rfl)
noncomputable def L_slices_EqualFunc_erratum_api_Tree_1 (n3 : Nat) (a0 : V) (a1 : V) (a2 : Nat) (v4 : Nat → V) : Option ((Nat → V) ⊕ (Nat × (Nat → V))) :=
(binV .lss (v4 0) (.int .i64 ((n3 : Nat) : Int))).bind fun x5 =>
(asBool x5).bind fun b6 =>
 if b6 = true then
(asSl 8 a0).bind fun l7 =>
(idxV (v4 0) (l7.length)).bind fun i9 =>
(l7[i9]?).bind fun e10 =>
 tst (okN 8 e10) ((asSl 8 a1).bind fun l11 =>
(idxV (v4 0) (l11.length)).bind fun i12 =>
(l11[i12]?).bind fun e13 =>
 tst (okN 8 e13) ((P0 a2 [.v e10, .v e13] []).bind fun r14 =>
(unV .not r14.1).bind fun x15 =>
(asBool x15).bind fun b16 =>
 if b16 = true then
 some (.inr (1, (vec [(.bool false)])))
else
(binV .add (v4 0) (.int .i64 1)).bind fun x17 =>
 some (.inl (vec [x17]))))
else
 some (.inr (0, (vec [])))
noncomputable def F_slices_EqualFunc_erratum_api_Tree (a0 : V) (a1 : V) (a2 : Nat) : Option (V × List V) :=
(lenV a0).bind fun n1 =>
(lenV a1).bind fun n2 =>
 if ((((n1 : Nat) : Int) : Int) != ((n2 : Nat) : Int)) = true then
 some ((.bool false), [])
else
(lenV a0).bind fun n3 =>
(loopL (L_slices_EqualFunc_erratum_api_Tree_1 n3 a0 a1 a2) (vec [(.int .i64 0)])).bind fun o18 =>
 if o18.1 = 0 then
 some ((.bool true), [])
else
 some ((o18.2 0), [])
theorem eq_slices_EqualFunc_erratum_api_Tree (a0 : V) (a1 : V) (a2 : Nat) : P0 f_slices_EqualFunc_erratum_api_Tree [.v a0, .v a1, .fn a2 []] [] = F_slices_EqualFunc_erratum_api_Tree a0 a1 a2 :=
  (pcL_eq (fn := p_slices_EqualFunc_erratum_api_Tree) (by kernel_rfl) _ _).trans (by kernel_rfl)
noncomputable def L_ref05_Member_1 (a0 : V) (a1 : V) (v1 : Nat → V) : Option ((Nat → V) ⊕ (Nat × (Nat → V))) :=
(fldV a0 6).bind fun c2 =>
(lenV c2).bind fun n3 =>
(binV .lss (v1 0) (.int .i64 ((n3 : Nat) : Int))).bind fun x4 =>
(asBool x4).bind fun b5 =>
((if b5 = true then
(fldV a0 7).bind fun c6 =>
(lenV c6).bind fun n7 =>
(binV .lss (v1 0) (.int .i64 ((n7 : Nat) : Int))).bind fun x8 =>
 some x8
else some (.bool false) : Option V)).bind fun x9 =>
(asBool x9).bind fun b10 =>
((if b10 = true then
(fldV a0 0).bind fun c11 =>
(binV .eql c11 (.int .i64 7)).bind fun x12 =>
 some x12
else some (.bool false) : Option V)).bind fun x13 =>
(asBool x13).bind fun b14 =>
 if b14 = true then
(fldV a0 6).bind fun c15 =>
(asSl 1 c15).bind fun l16 =>
(idxV (v1 0) (l16.length)).bind fun i17 =>
(l16[i17]?).bind fun e18 =>
(fldV e18 0).bind fun c19 =>
(binV .eql c19 a1).bind fun x20 =>
(asBool x20).bind fun b21 =>
 if b21 = true then
(fldV a0 7).bind fun c22 =>
(asSl 8 c22).bind fun l23 =>
(idxV (v1 0) (l23.length)).bind fun i24 =>
(l23[i24]?).bind fun e25 =>
 tst (okN 8 e25) (some (.inr (1, (vec [(.bool true), e25]))))
else
(binV .add (v1 0) (.int .i64 1)).bind fun x26 =>
 some (.inl (vec [x26, (v1 1), (v1 2), (v1 3), (v1 4), (v1 5), (v1 6), (v1 7), (v1 8)]))
else
 some (.inr (0, (vec [(.agg [(v1 1), (v1 2), (v1 3), (v1 4), (v1 5), (v1 6), (v1 7), (v1 8)])])))
noncomputable def F_ref05_Member (a0 : V) (a1 : V) : Option (V × List V) :=
 tst (okN 8 a0) ((loopL (L_ref05_Member_1 a0 a1) (vec [(.int .i64 0), (.int .i64 0), (.bool false), (.bool false), (.sl []), (.int .i64 0), (.str []), (.sl []), (.sl [])])).bind fun o27 =>
 if o27.1 = 0 then
 some ((.tup [(.agg [(.int .i64 0), (.bool false), (.bool false), (.sl []), (.int .i64 0), (.str []), (.sl []), (.sl [])]), (.bool false)]), [])
else
 some ((.tup [(o27.2 1), (o27.2 0)]), []))
theorem eq_ref05_Member (a0 : V) (a1 : V) : P0 f_ref05_Member [.v a0, .v a1] [] = F_ref05_Member a0 a1 :=
  (pcL_eq (fn := p_ref05_Member) (by kernel_rfl) _ _).trans (by kernel_rfl)
noncomputable def L_ref05_Set_1 (a0 : V) (a1 : V) (a2 : V) (x3 : V) (v4 : Nat → V) : Option ((Nat → V) ⊕ (Nat × (Nat → V))) :=
(fldV a0 6).bind fun c5 =>
(lenV c5).bind fun n6 =>
(binV .lss (v4 1) (.int .i64 ((n6 : Nat) : Int))).bind fun x7 =>
(asBool x7).bind fun b8 =>
((if b8 = true then
(fldV a0 7).bind fun c9 =>
(lenV c9).bind fun n10 =>
(binV .lss (v4 1) (.int .i64 ((n10 : Nat) : Int))).bind fun x11 =>
 some x11
else some (.bool false) : Option V)).bind fun x12 =>
(asBool x12).bind fun b13 =>
((if b13 = true then
(fldV a0 0).bind fun c14 =>
(binV .eql c14 (.int .i64 7)).bind fun x15 =>
 some x15
else some (.bool false) : Option V)).bind fun x16 =>
(asBool x16).bind fun b17 =>
 if b17 = true then
(unV .not (v4 0)).bind fun x18 =>
(asBool x18).bind fun b19 =>
((if b19 = true then
(fldV a0 6).bind fun c20 =>
(asSl 1 c20).bind fun l21 =>
(idxV (v4 1) (l21.length)).bind fun i22 =>
(l21[i22]?).bind fun e23 =>
(fldV e23 0).bind fun c24 =>
(binV .eql c24 a1).bind fun x25 =>
 some x25
else some (.bool false) : Option V)).bind fun x26 =>
(asBool x26).bind fun b27 =>
 if b27 = true then
 tst (okN 1 a1) ((fldV a1 0).bind fun c28 =>
 tst (szOk 1 [c28]) (tst (appOk 16 ((V.elems (v4 8)).length) (List.length (α := V) [c28])) (tst (okN 8 a2) (tst (szOk 8 [a2]) (tst (appOk 120 ((V.elems (v4 9)).length) (List.length (α := V) [a2])) ((binV .add (v4 1) (.int .i64 1)).bind fun x29 =>
 some (.inl (vec [(.bool true), x29, (v4 2), (v4 3), (v4 4), (.sl (V.elems (v4 5))), (v4 6), (v4 7), (.sl ((V.elems (v4 8)) ++ ([c28] : List V))), (.sl ((V.elems (v4 9)) ++ ([a2] : List V)))]))))))))
else
(unV .not (v4 0)).bind fun x30 =>
(asBool x30).bind fun b31 =>
((if b31 = true then
(unV .not x3).bind fun x32 =>
 some x32
else some (.bool false) : Option V)).bind fun x33 =>
(asBool x33).bind fun b34 =>
((if b34 = true then
(fldV a0 6).bind fun c35 =>
(asSl 1 c35).bind fun l36 =>
(idxV (v4 1) (l36.length)).bind fun i37 =>
(l36[i37]?).bind fun e38 =>
(fldV e38 0).bind fun c39 =>
(binV .gtr c39 a1).bind fun x40 =>
 some x40
else some (.bool false) : Option V)).bind fun x41 =>
(asBool x41).bind fun b42 =>
 if b42 = true then
 tst (okN 1 a1) ((fldV a1 0).bind fun c43 =>
 tst (szOk 1 [c43]) (tst (appOk 16 ((V.elems (v4 8)).length) (List.length (α := V) [c43])) (tst (okN 8 a2) (tst (szOk 8 [a2]) (tst (appOk 120 ((V.elems (v4 9)).length) (List.length (α := V) [a2])) ((fldV a0 6).bind fun c44 =>
(asSl 1 c44).bind fun l45 =>
(idxV (v4 1) (l45.length)).bind fun i46 =>
(l45[i46]?).bind fun e47 =>
(fldV e47 0).bind fun c48 =>
 tst (okN 1 c48) ((fldV c48 0).bind fun c49 =>
 tst (szOk 1 [c49]) (tst (appOk 16 (((V.elems (v4 8)) ++ ([c43] : List V)).length) (List.length (α := V) [c49])) ((fldV a0 7).bind fun c50 =>
(asSl 8 c50).bind fun l51 =>
(idxV (v4 1) (l51.length)).bind fun i52 =>
(l51[i52]?).bind fun e53 =>
 tst (okN 8 e53) (tst (szOk 8 [e53]) (tst (appOk 120 (((V.elems (v4 9)) ++ ([a2] : List V)).length) (List.length (α := V) [e53])) ((binV .add (v4 1) (.int .i64 1)).bind fun x54 =>
 some (.inl (vec [(.bool true), x54, (v4 2), (v4 3), (v4 4), (.sl (V.elems (v4 5))), (v4 6), (v4 7), (.sl (((V.elems (v4 8)) ++ ([c43] : List V)) ++ ([c49] : List V))), (.sl (((V.elems (v4 9)) ++ ([a2] : List V)) ++ ([e53] : List V)))]))))))))))))))
else
(fldV a0 6).bind fun c55 =>
(asSl 1 c55).bind fun l56 =>
(idxV (v4 1) (l56.length)).bind fun i57 =>
(l56[i57]?).bind fun e58 =>
(fldV e58 0).bind fun c59 =>
 tst (okN 1 c59) ((fldV c59 0).bind fun c60 =>
 tst (szOk 1 [c60]) (tst (appOk 16 ((V.elems (v4 8)).length) (List.length (α := V) [c60])) ((fldV a0 7).bind fun c61 =>
(asSl 8 c61).bind fun l62 =>
(idxV (v4 1) (l62.length)).bind fun i63 =>
(l62[i63]?).bind fun e64 =>
 tst (okN 8 e64) (tst (szOk 8 [e64]) (tst (appOk 120 ((V.elems (v4 9)).length) (List.length (α := V) [e64])) ((binV .add (v4 1) (.int .i64 1)).bind fun x65 =>
 some (.inl (vec [(v4 0), x65, (v4 2), (v4 3), (v4 4), (.sl (V.elems (v4 5))), (v4 6), (v4 7), (.sl ((V.elems (v4 8)) ++ ([c60] : List V))), (.sl ((V.elems (v4 9)) ++ ([e64] : List V)))]))))))))
else
 some (.inr (0, (vec [(v4 0), (v4 2), (v4 3), (v4 4), (.sl (V.elems (v4 5))), (v4 6), (v4 7), (.sl (V.elems (v4 8))), (.sl (V.elems (v4 9)))])))
noncomputable def F_ref05_Set (a0 : V) (a1 : V) (a2 : V) : Option (V × List V) :=
 tst (okN 8 a0) (tst (okN 8 a2) ((P0 f_ref05_Member [.v a0, .v a1] []).bind fun r1 =>
(extV r1.1 0).bind fun x2 =>
(extV r1.1 1).bind fun x3 =>
 tst (okN 8 x2) ((loopL (L_ref05_Set_1 a0 a1 a2 x3) (vec [(.bool false), (.int .i64 0), (.int .i64 7), (.bool false), (.bool false), (.sl []), (.int .i64 0), (.str []), (.sl []), (.sl [])])).bind fun o66 =>
(unV .not (o66.2 0)).bind fun x67 =>
(asBool x67).bind fun b68 =>
 if b68 = true then
 tst (okN 1 a1) ((fldV a1 0).bind fun c69 =>
 tst (szOk 1 [c69]) (tst (appOk 16 ((V.elems (o66.2 7)).length) (List.length (α := V) [c69])) (tst (okN 8 a2) (tst (szOk 8 [a2]) (tst (appOk 120 ((V.elems (o66.2 8)).length) (List.length (α := V) [a2])) (some ((.agg [(o66.2 1), (o66.2 2), (o66.2 3), (.sl (V.elems (o66.2 4))), (o66.2 5), (o66.2 6), (.sl ((V.elems (o66.2 7)) ++ ([c69] : List V))), (.sl ((V.elems (o66.2 8)) ++ ([a2] : List V)))]), [])))))))
else
 some ((.agg [(o66.2 1), (o66.2 2), (o66.2 3), (.sl (V.elems (o66.2 4))), (o66.2 5), (o66.2 6), (.sl (V.elems (o66.2 7))), (.sl (V.elems (o66.2 8)))]), []))))
theorem eq_ref05_Set (a0 : V) (a1 : V) (a2 : V) : P0 f_ref05_Set [.v a0, .v a1, .v a2] [] = F_ref05_Set a0 a1 a2 :=
  (pcL_eq (fn := p_ref05_Set) (by kernel_rfl) _ _).trans (by kernel_rfl)
noncomputable def F_tree_own (a0 : V) : Option (V × List V) :=
 tst (okN 8 a0) ((fldV a0 1).bind fun c1 =>
(unV .not c1).bind fun x2 =>
(fldV a0 2).bind fun c3 =>
(unV .not c3).bind fun x4 =>
(asBool x4).bind fun b5 =>
((if b5 = true then
(fldV a0 3).bind fun c6 =>
(lenV c6).bind fun n7 =>
 some (.bool ((((n7 : Nat) : Int) : Int) == 0))
else some (.bool false) : Option V)).bind fun x8 =>
(asBool x8).bind fun b9 =>
((if b9 = true then
(fldV a0 4).bind fun c10 =>
(binV .eql c10 (.int .i64 0)).bind fun x11 =>
 some x11
else some (.bool false) : Option V)).bind fun x12 =>
(fldV a0 5).bind fun c13 =>
(binV .eql c13 (.str [])).bind fun x14 =>
(fldV a0 6).bind fun c15 =>
(lenV c15).bind fun n16 =>
(fldV a0 7).bind fun c17 =>
(lenV c17).bind fun n18 =>
(((fldV a0 0).bind fun c19 =>
(((binV .eql c19 (.int .i64 1)).bind fun x20 =>
(asBool x20).bind fun b21 =>
 if b21 = true then
 some (0, (vec [x2, x12, x14, (.bool ((((n16 : Nat) : Int) : Int) == 0))]))
else
(binV .eql c19 (.int .i64 2)).bind fun x22 =>
(asBool x22).bind fun b23 =>
 if b23 = true then
 some (0, (vec [(.bool true), x12, x14, (.bool ((((n16 : Nat) : Int) : Int) == 0))]))
else
(binV .eql c19 (.int .i64 3)).bind fun x24 =>
(asBool x24).bind fun b25 =>
 if b25 = true then
(P0 f_num_Check [.v (subV a0 2 3)] []).bind fun r26 =>
 some (0, (vec [x2, r26.1, x14, (.bool ((((n16 : Nat) : Int) : Int) == 0))]))
else
(binV .eql c19 (.int .i64 4)).bind fun x27 =>
(asBool x27).bind fun b28 =>
 if b28 = true then
(fldV a0 5).bind fun c29 =>
(P0 f_tree_text [.v c29] []).bind fun r30 =>
 some (0, (vec [x2, x12, r30.1, (.bool ((((n16 : Nat) : Int) : Int) == 0))]))
else
(binV .eql c19 (.int .i64 5)).bind fun x31 =>
(asBool x31).bind fun b32 =>
 if b32 = true then
(fldV a0 5).bind fun c33 =>
(lnsV c33).bind fun n34 =>
 some (0, (vec [x2, x12, (.bool (decide ((((n34 : Nat) : Int) : Int) ≤ 2000))), (.bool ((((n16 : Nat) : Int) : Int) == 0))]))
else
(binV .eql c19 (.int .i64 7)).bind fun x35 =>
(asBool x35).bind fun b36 =>
 if b36 = true then
(fldV a0 6).bind fun c37 =>
(P0 f_tree_names [.v c37] []).bind fun r38 =>
(asBool r38.1).bind fun b39 =>
((if b39 = true then
(fldV a0 6).bind fun c40 =>
(lenV c40).bind fun n41 =>
(fldV a0 7).bind fun c42 =>
(lenV c42).bind fun n43 =>
 some (.bool ((((n41 : Nat) : Int) : Int) == ((n43 : Nat) : Int)))
else some (.bool false) : Option V)).bind fun x44 =>
 some (2, (vec [x2, x12, x14, x44]))
else
(binV .eql c19 (.int .i64 6)).bind fun x45 =>
(asBool x45).bind fun b46 =>
 if b46 = true then
 some (2, (vec [x2, x12, x14, (.bool ((((n16 : Nat) : Int) : Int) == 0))]))
else
 some (1, (vec [])) : Option (Nat × (Nat → V)))).bind fun o47 =>
 if o47.1 = 0 then
 some (0, (vec [(o47.2 0), (o47.2 1), (o47.2 2), (o47.2 3), (.bool ((((n18 : Nat) : Int) : Int) == 0))]))
else
 if (o47.1 - 1) = 0 then
 some (1, (vec [(.bool false)]))
else
(fldV a0 7).bind fun c48 =>
(lenV c48).bind fun n49 =>
 some (0, (vec [(o47.2 0), (o47.2 1), (o47.2 2), (o47.2 3), (.bool (decide ((((n49 : Nat) : Int) : Int) ≤ 300)))])) : Option (Nat × (Nat → V)))).bind fun o50 =>
 if o50.1 = 0 then
(asBool (o50.2 0)).bind fun b51 =>
((if b51 = true then
 some (o50.2 1)
else some (.bool false) : Option V)).bind fun x52 =>
(asBool x52).bind fun b53 =>
((if b53 = true then
 some (o50.2 2)
else some (.bool false) : Option V)).bind fun x54 =>
(asBool x54).bind fun b55 =>
((if b55 = true then
 some (o50.2 3)
else some (.bool false) : Option V)).bind fun x56 =>
(asBool x56).bind fun b57 =>
((if b57 = true then
 some (o50.2 4)
else some (.bool false) : Option V)).bind fun x58 =>
 some (x58, [])
else
 some ((o50.2 0), []))
theorem eq_tree_own (a0 : V) : P0 f_tree_own [.v a0] [] = F_tree_own a0 :=
  (pcL_eq (fn := p_tree_own) (by kernel_rfl) _ _).trans (by kernel_rfl)
noncomputable def F_law00_number (a0 : V) : Option (V × List V) :=
(binV .rem a0 (.int .i64 5)).bind fun x1 =>
(binV .eql x1 (.int .i64 0)).bind fun x2 =>
(asBool x2).bind fun b3 =>
 if b3 = true then
(binV .quo a0 (.int .i64 5)).bind fun x4 =>
(binV .rem x4 (.int .i64 60)).bind fun x5 =>
(binV .sub x5 (.int .i64 20)).bind fun x6 =>
(P0 f_ref02_Of [.v x6] []).bind fun r7 =>
 tst (okN 3 r7.1) (some (r7.1, []))
else
(binV .eql x1 (.int .i64 1)).bind fun x8 =>
(asBool x8).bind fun b9 =>
 if b9 = true then
(binV .quo a0 (.int .i64 5)).bind fun x10 =>
(binV .rem x10 (.int .i64 2)).bind fun x11 =>
(binV .eql x11 (.int .i64 1)).bind fun x12 =>
(binV .quo a0 (.int .i64 10)).bind fun x13 =>
(binV .rem x13 (.int .i64 2000)).bind fun x14 =>
(cviV .u32 x14).bind fun x15 =>
 tst (okN 1 x15) ((fldV x15 0).bind fun c16 =>
(binV .quo a0 (.int .i64 7)).bind fun x17 =>
(binV .rem x17 (.int .i64 9)).bind fun x18 =>
(binV .sub x18 (.int .i64 5)).bind fun x19 =>
(P0 f_ref02_Make [.v x12, .v (.sl [c16]), .v x19] []).bind fun r20 =>
(extV r20.1 0).bind fun x21 =>
(extV r20.1 1).bind fun x22 =>
 tst (okN 3 x21) (tst (okN 3 x21) (some (x21, []))))
else
(binV .eql x1 (.int .i64 2)).bind fun x23 =>
(asBool x23).bind fun b24 =>
 if b24 = true then
(cviV .u32 a0).bind fun x25 =>
(binV .quo a0 (.int .i64 3)).bind fun x26 =>
(cviV .u32 x26).bind fun x27 =>
(binV .rem a0 (.int .i64 7)).bind fun x28 =>
(cviV .u32 x28).bind fun x29 =>
 tst (okN 1 x25) ((fldV x25 0).bind fun c30 =>
 tst (okN 1 x27) ((fldV x27 0).bind fun c31 =>
 tst (okN 1 x29) ((fldV x29 0).bind fun c32 =>
(P0 f_ref02_Make [.v (.bool false), .v (.sl [c30, c31, c32]), .v (.int .i64 0)] []).bind fun r33 =>
(extV r33.1 0).bind fun x34 =>
(extV r33.1 1).bind fun x35 =>
 tst (okN 3 x34) (tst (okN 3 x34) (some (x34, []))))))
else
(binV .eql x1 (.int .i64 3)).bind fun x36 =>
(asBool x36).bind fun b37 =>
 if b37 = true then
(binV .rem a0 (.int .i64 2)).bind fun x38 =>
(binV .eql x38 (.int .i64 1)).bind fun x39 =>
(cviV .u32 a0).bind fun x40 =>
 tst (okN 1 x40) ((fldV x40 0).bind fun c41 =>
(binV .quo a0 (.int .i64 5)).bind fun x42 =>
(binV .rem x42 (.int .i64 30)).bind fun x43 =>
(unV .neg x43).bind fun x44 =>
(P0 f_ref02_Make [.v x39, .v (.sl [(.int .u32 5), c41]), .v x44] []).bind fun r45 =>
(extV r45.1 0).bind fun x46 =>
(extV r45.1 1).bind fun x47 =>
 tst (okN 3 x46) (tst (okN 3 x46) (some (x46, []))))
else
(P0 f_ref02_Of [.v a0] []).bind fun r48 =>
 tst (okN 3 r48.1) (some (r48.1, []))
theorem eq_law00_number (a0 : V) : P0 f_law00_number [.v a0] [] = F_law00_number a0 :=
  (pcL_eq (fn := p_law00_number) (by kernel_rfl) _ _).trans (by kernel_rfl)
noncomputable def F_law00_Names : Option (V × List V) :=
 tst (szOk 1 [(.str [97]), (.str [98]), (.str [99]), (.str [100, 100]), (.str [101]), (.str []), (.str [120, 47, 121]), (.str [122, 126])]) (some ((.sl [(.str [97]), (.str [98]), (.str [99]), (.str [100, 100]), (.str [101]), (.str []), (.str [120, 47, 121]), (.str [122, 126])]), []))
theorem eq_law00_Names : P0 f_law00_Names [.g] [] = F_law00_Names :=
  (pcL_eq (fn := p_law00_Names) (by kernel_rfl) _ _).trans (by kernel_rfl)
noncomputable def F_law00_Limbs (a0 : V) : Option (V × List V) :=
(asEl 1 a0).bind fun l1 =>
 tst (appOk 4 (List.length (α := V) []) (l1.length)) (some ((.sl (([] : List V) ++ l1)), []))
theorem eq_law00_Limbs (a0 : V) : P0 f_law00_Limbs [.g, .v a0] [] = F_law00_Limbs a0 :=
  (pcL_eq (fn := p_law00_Limbs) (by kernel_rfl) _ _).trans (by kernel_rfl)
noncomputable def F_num_of (a0 : V) : Option (V × List V) :=
 tst (okN 3 a0) ((P0 f_num_Check [.v a0] []).bind fun r1 =>
(unV .not r1.1).bind fun x2 =>
(asBool x2).bind fun b3 =>
 if b3 = true then
 some ((.agg [(.bool false), (.sl []), (.int .i64 0)]), [])
else
 tst (okN 3 a0) (some (a0, [])))
theorem eq_num_of (a0 : V) : P0 f_num_of [.v a0] [] = F_num_of a0 :=
  (pcL_eq (fn := p_num_of) (by kernel_rfl) _ _).trans (by kernel_rfl)
noncomputable def L_slices_Equal_uint32_1 (n3 : Nat) (a0 : V) (a1 : V) (v4 : Nat → V) : Option ((Nat → V) ⊕ (Nat × (Nat → V))) :=
(binV .lss (v4 0) (.int .i64 ((n3 : Nat) : Int))).bind fun x5 =>
(asBool x5).bind fun b6 =>
 if b6 = true then
(asSl 1 a0).bind fun l7 =>
(idxV (v4 0) (l7.length)).bind fun i9 =>
(l7[i9]?).bind fun e10 =>
(fldV e10 0).bind fun c11 =>
(asSl 1 a1).bind fun l12 =>
(idxV (v4 0) (l12.length)).bind fun i13 =>
(l12[i13]?).bind fun e14 =>
(fldV e14 0).bind fun c15 =>
(binV .neq c11 c15).bind fun x16 =>
(asBool x16).bind fun b17 =>
 if b17 = true then
 some (.inr (1, (vec [(.bool false)])))
else
(binV .add (v4 0) (.int .i64 1)).bind fun x18 =>
 some (.inl (vec [x18]))
else
 some (.inr (0, (vec [])))
noncomputable def F_slices_Equal_uint32 (a0 : V) (a1 : V) : Option (V × List V) :=
(lenV a0).bind fun n1 =>
(lenV a1).bind fun n2 =>
 if ((((n1 : Nat) : Int) : Int) != ((n2 : Nat) : Int)) = true then
 some ((.bool false), [])
else
(lenV a0).bind fun n3 =>
(loopL (L_slices_Equal_uint32_1 n3 a0 a1) (vec [(.int .i64 0)])).bind fun o19 =>
 if o19.1 = 0 then
 some ((.bool true), [])
else
 some ((o19.2 0), [])
theorem eq_slices_Equal_uint32 (a0 : V) (a1 : V) : P0 f_slices_Equal_uint32 [.v a0, .v a1] [] = F_slices_Equal_uint32 a0 a1 :=
  (pcL_eq (fn := p_slices_Equal_uint32) (by kernel_rfl) _ _).trans (by kernel_rfl)
noncomputable def F_num_Check (a0 : V) : Option (V × List V) :=
 tst (okN 3 a0) ((fldV a0 1).bind fun c1 =>
(lenV c1).bind fun n2 =>
 if ((((n2 : Nat) : Int) : Int) == 0) = true then
(fldV a0 0).bind fun c3 =>
(unV .not c3).bind fun x4 =>
(asBool x4).bind fun b5 =>
((if b5 = true then
(fldV a0 2).bind fun c6 =>
(binV .eql c6 (.int .i64 0)).bind fun x7 =>
 some x7
else some (.bool false) : Option V)).bind fun x8 =>
 some (x8, [])
else
((if (decide ((((n2 : Nat) : Int) : Int) > 90)) = false then
(fldV a0 1).bind fun c9 =>
(asSl 1 c9).bind fun l10 =>
(idxV (.int .i64 (IntKind.wrap .i64 (((n2 : Nat) : Int) - 1))) (l10.length)).bind fun i11 =>
(l10[i11]?).bind fun e12 =>
(fldV e12 0).bind fun c13 =>
(binV .eql c13 (.int .u32 0)).bind fun x14 =>
 some x14
else some (.bool true) : Option V)).bind fun x15 =>
(asBool x15).bind fun b16 =>
((if b16 = false then
(fldV a0 2).bind fun c17 =>
(binV .lss c17 (.int .i64 (-1200))).bind fun x18 =>
 some x18
else some (.bool true) : Option V)).bind fun x19 =>
(asBool x19).bind fun b20 =>
((if b20 = false then
(fldV a0 2).bind fun c21 =>
(binV .gtr c21 (.int .i64 1200)).bind fun x22 =>
 some x22
else some (.bool true) : Option V)).bind fun x23 =>
(asBool x23).bind fun b24 =>
 if b24 = true then
 some ((.bool false), [])
else
(fldV a0 1).bind fun c25 =>
(P0 f_nat_Trim [.v c25] []).bind fun r26 =>
(extV r26.1 0).bind fun x27 =>
(extV r26.1 1).bind fun x28 =>
(binV .eql x28 (.int .i64 0)).bind fun x29 =>
 some (x29, []))
theorem eq_num_Check (a0 : V) : P0 f_num_Check [.v a0] [] = F_num_Check a0 :=
  (pcL_eq (fn := p_num_Check) (by kernel_rfl) _ _).trans (by kernel_rfl)
noncomputable def F_tree_text (a0 : V) : Option (V × List V) :=
(lnsV a0).bind fun n1 =>
((if (decide ((((n1 : Nat) : Int) : Int) ≤ 2000)) = true then
(P0 f_utf_Valid [.v a0] []).bind fun r2 =>
 some r2.1
else some (.bool false) : Option V)).bind fun x3 =>
 some (x3, [])
theorem eq_tree_text (a0 : V) : P0 f_tree_text [.v a0] [] = F_tree_text a0 :=
  (pcL_eq (fn := p_tree_text) (by kernel_rfl) _ _).trans (by kernel_rfl)
noncomputable def L_tree_names_1 (n1 : Nat) (a0 : V) (v2 : Nat → V) : Option ((Nat → V) ⊕ (Nat × (Nat → V))) :=
(binV .lss (v2 0) (.int .i64 ((n1 : Nat) : Int))).bind fun x3 =>
(asBool x3).bind fun b4 =>
 if b4 = true then
(asSl 1 a0).bind fun l5 =>
(idxV (v2 0) (l5.length)).bind fun i6 =>
(l5[i6]?).bind fun e7 =>
(fldV e7 0).bind fun c8 =>
(P0 f_tree_text [.v c8] []).bind fun r9 =>
(unV .not r9.1).bind fun x10 =>
(asBool x10).bind fun b11 =>
((if b11 = false then
(binV .gtr (v2 0) (.int .i64 0)).bind fun x12 =>
(asBool x12).bind fun b13 =>
((if b13 = true then
(binV .sub (v2 0) (.int .i64 1)).bind fun x14 =>
(asSl 1 a0).bind fun l15 =>
(idxV x14 (l15.length)).bind fun i17 =>
(l15[i17]?).bind fun e18 =>
(fldV e18 0).bind fun c19 =>
(binV .geq c19 c8).bind fun x20 =>
 some x20
else some (.bool false) : Option V)).bind fun x21 =>
 some x21
else some (.bool true) : Option V)).bind fun x22 =>
(asBool x22).bind fun b23 =>
 if b23 = true then
 some (.inr (1, (vec [(.bool false)])))
else
(binV .add (v2 0) (.int .i64 1)).bind fun x24 =>
 some (.inl (vec [x24]))
else
 some (.inr (0, (vec [])))
noncomputable def F_tree_names (a0 : V) : Option (V × List V) :=
(lenV a0).bind fun n1 =>
(loopL (L_tree_names_1 n1 a0) (vec [(.int .i64 0)])).bind fun o25 =>
 if o25.1 = 0 then
(lenV a0).bind fun n26 =>
 some ((.bool (decide ((((n26 : Nat) : Int) : Int) ≤ 300))), [])
else
 some ((o25.2 0), [])
theorem eq_tree_names (a0 : V) : P0 f_tree_names [.v a0] [] = F_tree_names a0 :=
  (pcL_eq (fn := p_tree_names) (by kernel_rfl) _ _).trans (by kernel_rfl)
noncomputable def F_ref02_Of (a0 : V) : Option (V × List V) :=
(cviV .u64 a0).bind fun x1 =>
(((binV .lss a0 (.int .i64 0)).bind fun x2 =>
(asBool x2).bind fun b3 =>
 if b3 = true then
(unV .neg x1).bind fun x4 =>
 some (0, (vec [x4]))
else
 some (0, (vec [x1])) : Option (Nat × (Nat → V)))).bind fun o5 =>
(binV .lss a0 (.int .i64 0)).bind fun x6 =>
(cviV .u32 (o5.2 0)).bind fun x7 =>
(binV .shr (o5.2 0) (.int .u64 32)).bind fun x8 =>
(cviV .u32 x8).bind fun x9 =>
 tst (okN 1 x7) ((fldV x7 0).bind fun c10 =>
 tst (okN 1 x9) ((fldV x9 0).bind fun c11 =>
(P0 f_ref02_Make [.v x6, .v (.sl [c10, c11]), .v (.int .i64 0)] []).bind fun r12 =>
(extV r12.1 0).bind fun x13 =>
(extV r12.1 1).bind fun x14 =>
 tst (okN 3 x13) (tst (okN 3 x13) (some (x13, [])))))
theorem eq_ref02_Of (a0 : V) : P0 f_ref02_Of [.v a0] [] = F_ref02_Of a0 :=
  (pcL_eq (fn := p_ref02_Of) (by kernel_rfl) _ _).trans (by kernel_rfl)
noncomputable def F_ref02_Make (a0 : V) (a1 : V) (a2 : V) : Option (V × List V) :=
(P0 f_ref01_Trim [.v a1] []).bind fun r1 =>
(extV r1.1 0).bind fun x2 =>
(extV r1.1 1).bind fun x3 =>
(lenV x2).bind fun n4 =>
 if ((((n4 : Nat) : Int) : Int) == 0) = true then
 some ((.tup [(.agg [(.bool false), (.sl []), (.int .i64 0)]), (.bool true)]), [])
else
(lenV x2).bind fun n5 =>
((if (decide ((((n5 : Nat) : Int) : Int) > 90)) = false then
(binV .lss a2 (.int .i64 (-1099511627776))).bind fun x6 =>
 some x6
else some (.bool true) : Option V)).bind fun x7 =>
(asBool x7).bind fun b8 =>
((if b8 = false then
(binV .gtr a2 (.int .i64 1099511627776)).bind fun x9 =>
 some x9
else some (.bool true) : Option V)).bind fun x10 =>
(asBool x10).bind fun b11 =>
((if b11 = false then
(binV .gtr x3 (.int .i64 1099511627776)).bind fun x12 =>
 some x12
else some (.bool true) : Option V)).bind fun x13 =>
(asBool x13).bind fun b14 =>
((if b14 = false then
(binV .add a2 x3).bind fun x15 =>
(binV .lss x15 (.int .i64 (-1200))).bind fun x16 =>
 some x16
else some (.bool true) : Option V)).bind fun x17 =>
(asBool x17).bind fun b18 =>
((if b18 = false then
(binV .add a2 x3).bind fun x19 =>
(binV .gtr x19 (.int .i64 1200)).bind fun x20 =>
 some x20
else some (.bool true) : Option V)).bind fun x21 =>
(asBool x21).bind fun b22 =>
 if b22 = true then
 some ((.tup [(.agg [(.bool false), (.sl []), (.int .i64 0)]), (.bool false)]), [])
else
(binV .add a2 x3).bind fun x23 =>
 tst (okN 1 a0) ((fldV a0 0).bind fun c24 =>
 tst (okN 1 x2) ((fldV x2 0).bind fun c25 =>
 tst (okN 1 x23) ((fldV x23 0).bind fun c26 =>
 tst (okN 3 (.agg [c24, c25, c26])) (some ((.tup [(.agg [c24, c25, c26]), (.bool true)]), [])))))
theorem eq_ref02_Make (a0 : V) (a1 : V) (a2 : V) : P0 f_ref02_Make [.v a0, .v a1, .v a2] [] = F_ref02_Make a0 a1 a2 :=
  (pcL_eq (fn := p_ref02_Make) (by kernel_rfl) _ _).trans (by kernel_rfl)
noncomputable def L_nat_Trim_1 (v2 : Nat → V) : Option ((Nat → V) ⊕ (Nat × (Nat → V))) :=
(lenV (v2 0)).bind fun n3 =>
 if (decide ((((n3 : Nat) : Int) : Int) > 0)) = true then
(P0 f_nat_small [.v (v2 0), .v (.int .u32 10)] []).bind fun r4 =>
(extV r4.1 0).bind fun x5 =>
(extV r4.1 1).bind fun x6 =>
(binV .neq x6 (.int .u32 0)).bind fun x7 =>
(asBool x7).bind fun b8 =>
 if b8 = true then
 some (.inr (0, (vec [(v2 0), (v2 1)])))
else
(binV .add (v2 1) (.int .i64 1)).bind fun x9 =>
 some (.inl (vec [x5, x9]))
else
 some (.inr (0, (vec [(v2 0), (v2 1)])))
noncomputable def F_nat_Trim (a0 : V) : Option (V × List V) :=
(P0 f_nat_Norm [.v a0] []).bind fun r1 =>
(loopL (L_nat_Trim_1) (vec [r1.1, (.int .i64 0)])).bind fun o10 =>
 some ((.tup [(o10.2 0), (o10.2 1)]), [])
theorem eq_nat_Trim (a0 : V) : P0 f_nat_Trim [.v a0] [] = F_nat_Trim a0 :=
  (pcL_eq (fn := p_nat_Trim) (by kernel_rfl) _ _).trans (by kernel_rfl)
noncomputable def L_utf_Valid_1 (a0 : V) (v2 : Nat → V) : Option ((Nat → V) ⊕ (Nat × (Nat → V))) :=
 if (natV (v2 1)) < List.length (α := UInt8) (txtV (v2 0)) then
 if (((Utf8.decode ⟨((txtV (v2 0))).toArray⟩ (natV (v2 1))).1 : Int) != 65533) = true then
 some (.inl (vec [(.str (txtV (v2 0))), (.int .i64 ((((natV (v2 1)) + (Utf8.decode ⟨((txtV (v2 0))).toArray⟩ (natV (v2 1))).2) : Nat) : Int))]))
else
(slsV a0 (some (.int .i64 (((natV (v2 1)) : Nat) : Int))) none).bind fun x3 =>
(P0 f_unicode_utf8_DecodeRuneInString [.v x3] []).bind fun r4 =>
(extV r4.1 0).bind fun x5 =>
(extV r4.1 1).bind fun x6 =>
(binV .eql x6 (.int .i64 1)).bind fun x7 =>
(asBool x7).bind fun b8 =>
 if b8 = true then
 some (.inr (1, (vec [(.bool false)])))
else
 some (.inl (vec [(.str (txtV (v2 0))), (.int .i64 ((((natV (v2 1)) + (Utf8.decode ⟨((txtV (v2 0))).toArray⟩ (natV (v2 1))).2) : Nat) : Int))]))
else
 some (.inr (0, (vec [])))
noncomputable def F_utf_Valid (a0 : V) : Option (V × List V) :=
(asStr a0).bind fun s1 =>
(loopL (L_utf_Valid_1 a0) (vec [(.str s1), (.int .i64 ((0 : Nat) : Int))])).bind fun o9 =>
 if o9.1 = 0 then
 some ((.bool true), [])
else
 some ((o9.2 0), [])
theorem eq_utf_Valid (a0 : V) : P0 f_utf_Valid [.v a0] [] = F_utf_Valid a0 :=
  (pcL_eq (fn := p_utf_Valid) (by kernel_rfl) _ _).trans (by kernel_rfl)
noncomputable def L_ref01_Trim_1 (v2 : Nat → V) : Option ((Nat → V) ⊕ (Nat × (Nat → V))) :=
(lenV (v2 0)).bind fun n3 =>
 if (decide ((((n3 : Nat) : Int) : Int) > 0)) = true then
(P0 f_ref01_Small [.v (v2 0), .v (.int .u32 10)] []).bind fun r4 =>
(extV r4.1 0).bind fun x5 =>
(extV r4.1 1).bind fun x6 =>
(binV .neq x6 (.int .u32 0)).bind fun x7 =>
(asBool x7).bind fun b8 =>
 if b8 = true then
 some (.inr (0, (vec [(v2 0), (v2 1)])))
else
(binV .add (v2 1) (.int .i64 1)).bind fun x9 =>
 some (.inl (vec [x5, x9]))
else
 some (.inr (0, (vec [(v2 0), (v2 1)])))
noncomputable def F_ref01_Trim (a0 : V) : Option (V × List V) :=
(P0 f_ref01_Norm [.v a0] []).bind fun r1 =>
(loopL (L_ref01_Trim_1) (vec [r1.1, (.int .i64 0)])).bind fun o10 =>
 some ((.tup [(o10.2 0), (o10.2 1)]), [])
theorem eq_ref01_Trim (a0 : V) : P0 f_ref01_Trim [.v a0] [] = F_ref01_Trim a0 :=
  (pcL_eq (fn := p_ref01_Trim) (by kernel_rfl) _ _).trans (by kernel_rfl)
noncomputable def L_ref01_Small_1 (a0 : V) (a1 : V) (q2 : Nat × Nat) (v4 : Nat → V) : Option ((Nat → V) ⊕ (Nat × (Nat → V))) :=
(binV .geq (v4 1) (.int .i64 0)).bind fun x5 =>
(asBool x5).bind fun b6 =>
 if b6 = true then
(binV .shl (v4 0) (.int .u64 32)).bind fun x7 =>
(asSl 1 a0).bind fun l8 =>
(idxV (v4 1) (l8.length)).bind fun i9 =>
(l8[i9]?).bind fun e10 =>
(fldV e10 0).bind fun c11 =>
(cviV .u64 c11).bind fun x12 =>
(binV .add x7 x12).bind fun x13 =>
(cviV .u64 a1).bind fun x14 =>
(binV .quo x13 x14).bind fun x15 =>
(cviV .u32 x15).bind fun x16 =>
(idxV (v4 1) q2.1).bind fun i17 =>
 tst (okN 1 x16) ((fldV x16 0).bind fun c18 =>
(cviV .u64 a1).bind fun x19 =>
(binV .rem x13 x19).bind fun x20 =>
(binV .sub (v4 1) (.int .i64 1)).bind fun x21 =>
 some (.inl (vec [x20, x21, (.sl ((V.elems (v4 2)).set (0 + i17) c18))])))
else
 some (.inr (0, (vec [(v4 0), (.sl (V.elems (v4 2)))])))
noncomputable def F_ref01_Small (a0 : V) (a1 : V) : Option (V × List V) :=
(lenV a0).bind fun n1 =>
(mksV 4 (.int .i64 ((n1 : Nat) : Int)) (.int .i64 ((n1 : Nat) : Int))).bind fun q2 =>
(lenV a0).bind fun n3 =>
(loopL (L_ref01_Small_1 a0 a1 q2) (vec [(.int .u64 0), (.int .i64 (IntKind.wrap .i64 (((n3 : Nat) : Int) - 1))), (.sl (List.replicate q2.2 (.int .u32 0)))])).bind fun o22 =>
(P0 f_ref01_Norm [.v (.sl (((V.elems (o22.2 1)).drop 0).take q2.1))] []).bind fun r23 =>
(cviV .u32 (o22.2 0)).bind fun x24 =>
 some ((.tup [r23.1, x24]), [])
theorem eq_ref01_Small (a0 : V) (a1 : V) : P0 f_ref01_Small [.v a0, .v a1] [] = F_ref01_Small a0 a1 :=
  (pcL_eq (fn := p_ref01_Small) (by kernel_rfl) _ _).trans (by kernel_rfl)
noncomputable def L_nat_Norm_1 (a0 : V) (v2 : Nat → V) : Option ((Nat → V) ⊕ (Nat × (Nat → V))) :=
(binV .gtr (v2 0) (.int .i64 0)).bind fun x3 =>
(asBool x3).bind fun b4 =>
((if b4 = true then
(binV .sub (v2 0) (.int .i64 1)).bind fun x5 =>
(asSl 1 a0).bind fun l6 =>
(idxV x5 (l6.length)).bind fun i7 =>
(l6[i7]?).bind fun e8 =>
(fldV e8 0).bind fun c9 =>
(binV .eql c9 (.int .u32 0)).bind fun x10 =>
 some x10
else some (.bool false) : Option V)).bind fun x11 =>
(asBool x11).bind fun b12 =>
 if b12 = true then
(binV .sub (v2 0) (.int .i64 1)).bind fun x13 =>
 some (.inl (vec [x13]))
else
 some (.inr (0, (vec [(v2 0)])))
noncomputable def F_nat_Norm (a0 : V) : Option (V × List V) :=
(lenV a0).bind fun n1 =>
(loopL (L_nat_Norm_1 a0) (vec [(.int .i64 ((n1 : Nat) : Int))])).bind fun o14 =>
(binV .eql (o14.2 0) (.int .i64 0)).bind fun x15 =>
(asBool x15).bind fun b16 =>
 if b16 = true then
 some ((.sl []), [])
else
(mksV 4 (o14.2 0) (o14.2 0)).bind fun q17 =>
(asEl 1 a0).bind fun l18 =>
 some ((.sl (((setL (List.replicate q17.2 (.int .u32 0)) 0 (l18.take (Nat.min (l18.length) q17.1))).drop 0).take q17.1)), [])
theorem eq_nat_Norm (a0 : V) : P0 f_nat_Norm [.v a0] [] = F_nat_Norm a0 :=
  (pcL_eq (fn := p_nat_Norm) (by kernel_rfl) _ _).trans (by kernel_rfl)
noncomputable def L_nat_small_1 (a0 : V) (a1 : V) (q2 : Nat × Nat) (v4 : Nat → V) : Option ((Nat → V) ⊕ (Nat × (Nat → V))) :=
(binV .geq (v4 1) (.int .i64 0)).bind fun x5 =>
(asBool x5).bind fun b6 =>
 if b6 = true then
(binV .shl (v4 0) (.int .u64 32)).bind fun x7 =>
(asSl 1 a0).bind fun l8 =>
(idxV (v4 1) (l8.length)).bind fun i9 =>
(l8[i9]?).bind fun e10 =>
(fldV e10 0).bind fun c11 =>
(cviV .u64 c11).bind fun x12 =>
(binV .or x7 x12).bind fun x13 =>
(cviV .u64 a1).bind fun x14 =>
(binV .quo x13 x14).bind fun x15 =>
(cviV .u32 x15).bind fun x16 =>
(idxV (v4 1) q2.1).bind fun i17 =>
 tst (okN 1 x16) ((fldV x16 0).bind fun c18 =>
(cviV .u64 a1).bind fun x19 =>
(binV .rem x13 x19).bind fun x20 =>
(binV .sub (v4 1) (.int .i64 1)).bind fun x21 =>
 some (.inl (vec [x20, x21, (.sl ((V.elems (v4 2)).set (0 + i17) c18))])))
else
 some (.inr (0, (vec [(v4 0), (.sl (V.elems (v4 2)))])))
noncomputable def F_nat_small (a0 : V) (a1 : V) : Option (V × List V) :=
(lenV a0).bind fun n1 =>
(mksV 4 (.int .i64 ((n1 : Nat) : Int)) (.int .i64 ((n1 : Nat) : Int))).bind fun q2 =>
(lenV a0).bind fun n3 =>
(loopL (L_nat_small_1 a0 a1 q2) (vec [(.int .u64 0), (.int .i64 (IntKind.wrap .i64 (((n3 : Nat) : Int) - 1))), (.sl (List.replicate q2.2 (.int .u32 0)))])).bind fun o22 =>
(P0 f_nat_Norm [.v (.sl (((V.elems (o22.2 1)).drop 0).take q2.1))] []).bind fun r23 =>
(cviV .u32 (o22.2 0)).bind fun x24 =>
 some ((.tup [r23.1, x24]), [])
theorem eq_nat_small (a0 : V) (a1 : V) : P0 f_nat_small [.v a0, .v a1] [] = F_nat_small a0 a1 :=
  (pcL_eq (fn := p_nat_small) (by kernel_rfl) _ _).trans (by kernel_rfl)
noncomputable def F_unicode_utf8_DecodeRuneInString (a0 : V) : Option (V × List V) :=
(binV .neq a0 (.str [])).bind fun x1 =>
(asBool x1).bind fun b2 =>
((if b2 = true then
(ixsV a0 (.int .i64 0)).bind fun x3 =>
(binV .lss x3 (.int .u8 128)).bind fun x4 =>
 some x4
else some (.bool false) : Option V)).bind fun x5 =>
(asBool x5).bind fun b6 =>
 if b6 = true then
(ixsV a0 (.int .i64 0)).bind fun x7 =>
(cviV .i32 x7).bind fun x8 =>
 some ((.tup [x8, (.int .i64 1)]), [])
else
(P0 f_unicode_utf8_decodeRuneInStringSlow [.v a0] []).bind fun r9 =>
(extV r9.1 0).bind fun x10 =>
(extV r9.1 1).bind fun x11 =>
 some ((.tup [x10, x11]), [])
theorem eq_unicode_utf8_DecodeRuneInString (a0 : V) : P0 f_unicode_utf8_DecodeRuneInString [.v a0] [] = F_unicode_utf8_DecodeRuneInString a0 :=
  (pcL_eq (fn := p_unicode_utf8_DecodeRuneInString) (by kernel_rfl) _ _).trans (by kernel_rfl)
noncomputable def L_ref01_Norm_1 (a0 : V) (v2 : Nat → V) : Option ((Nat → V) ⊕ (Nat × (Nat → V))) :=
(binV .gtr (v2 0) (.int .i64 0)).bind fun x3 =>
(asBool x3).bind fun b4 =>
((if b4 = true then
(binV .sub (v2 0) (.int .i64 1)).bind fun x5 =>
(asSl 1 a0).bind fun l6 =>
(idxV x5 (l6.length)).bind fun i7 =>
(l6[i7]?).bind fun e8 =>
(fldV e8 0).bind fun c9 =>
(binV .eql c9 (.int .u32 0)).bind fun x10 =>
 some x10
else some (.bool false) : Option V)).bind fun x11 =>
(asBool x11).bind fun b12 =>
 if b12 = true then
(binV .sub (v2 0) (.int .i64 1)).bind fun x13 =>
 some (.inl (vec [x13]))
else
 some (.inr (0, (vec [(v2 0)])))
noncomputable def F_ref01_Norm (a0 : V) : Option (V × List V) :=
(lenV a0).bind fun n1 =>
(loopL (L_ref01_Norm_1 a0) (vec [(.int .i64 ((n1 : Nat) : Int))])).bind fun o14 =>
(asSl 1 a0).bind fun l15 =>
(bnd2 none (some (o14.2 0)) (l15.length)).bind fun q16 =>
(asEl 1 (.sl ((l15.drop q16.1).take (q16.2 - q16.1)))).bind fun l17 =>
 tst (appOk 4 (List.length (α := V) []) (l17.length)) (some ((.sl (([] : List V) ++ l17)), []))
theorem eq_ref01_Norm (a0 : V) : P0 f_ref01_Norm [.v a0] [] = F_ref01_Norm a0 :=
  (pcL_eq (fn := p_ref01_Norm) (by kernel_rfl) _ _).trans (by kernel_rfl)
noncomputable def F_unicode_utf8_decodeRuneInStringSlow (a0 : V) : Option (V × List V) :=
(lnsV a0).bind fun n1 =>
 if (decide ((((n1 : Nat) : Int) : Int) < 1)) = true then
 some ((.tup [(.int .i32 65533), (.int .i64 0)]), [])
else
(ixsV a0 (.int .i64 0)).bind fun x2 =>
(idxV x2 256).bind fun i3 =>
((G_0.drop (i3 * 1))[0]?).bind fun c4 =>
(binV .geq c4 (.int .u8 240)).bind fun x5 =>
(asBool x5).bind fun b6 =>
 if b6 = true then
(cviV .i32 c4).bind fun x7 =>
(binV .shl x7 (.int .u64 31)).bind fun x8 =>
(binV .shr x8 (.int .u64 31)).bind fun x9 =>
(ixsV a0 (.int .i64 0)).bind fun x10 =>
(cviV .i32 x10).bind fun x11 =>
(binV .andNot x11 x9).bind fun x12 =>
(binV .and (.int .i32 65533) x9).bind fun x13 =>
(binV .or x12 x13).bind fun x14 =>
 some ((.tup [x14, (.int .i64 1)]), [])
else
(binV .and c4 (.int .u8 7)).bind fun x15 =>
(cviV .i64 x15).bind fun x16 =>
(binV .shr c4 (.int .u64 4)).bind fun x17 =>
(idxV x17 16).bind fun i18 =>
 tst (Nat.ble 2 (G_1.drop (i18 * 2)).length) (tst (okN 2 (.agg ((G_1.drop (i18 * 2)).take 2))) ((binV .lss (.int .i64 ((n1 : Nat) : Int)) x16).bind fun x19 =>
(asBool x19).bind fun b20 =>
 if b20 = true then
 some ((.tup [(.int .i32 65533), (.int .i64 1)]), [])
else
(ixsV a0 (.int .i64 1)).bind fun x21 =>
(fldV (.agg ((G_1.drop (i18 * 2)).take 2)) 0).bind fun c22 =>
(binV .lss x21 c22).bind fun x23 =>
(asBool x23).bind fun b24 =>
((if b24 = false then
(fldV (.agg ((G_1.drop (i18 * 2)).take 2)) 1).bind fun c25 =>
(binV .lss c25 x21).bind fun x26 =>
 some x26
else some (.bool true) : Option V)).bind fun x27 =>
(asBool x27).bind fun b28 =>
 if b28 = true then
 some ((.tup [(.int .i32 65533), (.int .i64 1)]), [])
else
(binV .leq x16 (.int .i64 2)).bind fun x29 =>
(asBool x29).bind fun b30 =>
 if b30 = true then
(binV .and x2 (.int .u8 31)).bind fun x31 =>
(cviV .i32 x31).bind fun x32 =>
(binV .shl x32 (.int .u64 6)).bind fun x33 =>
(binV .and x21 (.int .u8 63)).bind fun x34 =>
(cviV .i32 x34).bind fun x35 =>
(binV .or x33 x35).bind fun x36 =>
 some ((.tup [x36, (.int .i64 2)]), [])
else
(ixsV a0 (.int .i64 2)).bind fun x37 =>
(binV .lss x37 (.int .u8 128)).bind fun x38 =>
(asBool x38).bind fun b39 =>
((if b39 = false then
(binV .lss (.int .u8 191) x37).bind fun x40 =>
 some x40
else some (.bool true) : Option V)).bind fun x41 =>
(asBool x41).bind fun b42 =>
 if b42 = true then
 some ((.tup [(.int .i32 65533), (.int .i64 1)]), [])
else
(binV .leq x16 (.int .i64 3)).bind fun x43 =>
(asBool x43).bind fun b44 =>
 if b44 = true then
(binV .and x2 (.int .u8 15)).bind fun x45 =>
(cviV .i32 x45).bind fun x46 =>
(binV .shl x46 (.int .u64 12)).bind fun x47 =>
(binV .and x21 (.int .u8 63)).bind fun x48 =>
(cviV .i32 x48).bind fun x49 =>
(binV .shl x49 (.int .u64 6)).bind fun x50 =>
(binV .or x47 x50).bind fun x51 =>
(binV .and x37 (.int .u8 63)).bind fun x52 =>
(cviV .i32 x52).bind fun x53 =>
(binV .or x51 x53).bind fun x54 =>
 some ((.tup [x54, (.int .i64 3)]), [])
else
(ixsV a0 (.int .i64 3)).bind fun x55 =>
(binV .lss x55 (.int .u8 128)).bind fun x56 =>
(asBool x56).bind fun b57 =>
((if b57 = false then
(binV .lss (.int .u8 191) x55).bind fun x58 =>
 some x58
else some (.bool true) : Option V)).bind fun x59 =>
(asBool x59).bind fun b60 =>
 if b60 = true then
 some ((.tup [(.int .i32 65533), (.int .i64 1)]), [])
else
(binV .and x2 (.int .u8 7)).bind fun x61 =>
(cviV .i32 x61).bind fun x62 =>
(binV .shl x62 (.int .u64 18)).bind fun x63 =>
(binV .and x21 (.int .u8 63)).bind fun x64 =>
(cviV .i32 x64).bind fun x65 =>
(binV .shl x65 (.int .u64 12)).bind fun x66 =>
(binV .or x63 x66).bind fun x67 =>
(binV .and x37 (.int .u8 63)).bind fun x68 =>
(cviV .i32 x68).bind fun x69 =>
(binV .shl x69 (.int .u64 6)).bind fun x70 =>
(binV .or x67 x70).bind fun x71 =>
(binV .and x55 (.int .u8 63)).bind fun x72 =>
(cviV .i32 x72).bind fun x73 =>
(binV .or x71 x73).bind fun x74 =>
 some ((.tup [x74, (.int .i64 4)]), [])))
theorem eq_unicode_utf8_decodeRuneInStringSlow (a0 : V) : P0 f_unicode_utf8_decodeRuneInStringSlow [.v a0] [] = F_unicode_utf8_decodeRuneInStringSlow a0 :=
  (pcL_eq (fn := p_unicode_utf8_decodeRuneInStringSlow) (by kernel_rfl) _ _).trans (by kernel_rfl)
end Go.Ev
