/- What the functions compute. -/
import Derived.Test.YtineambfljmbgaaDoorKCode
import Derived.KernelRfl
set_option linter.all false
namespace Go.Ev
noncomputable def L_law05_TreeSets_1 (a0 : V) (r24 : V × List V) (a1 : V) (v57 : Nat → V) : Option ((Nat → V) ⊕ (Nat × (Nat → V))) :=
(fldV a0 6).bind fun c58 =>
(lenV c58).bind fun n59 =>
(binV .lss (v57 0) (.int .i64 ((n59 : Nat) : Int))).bind fun x60 =>
(asBool x60).bind fun b61 =>
 if b61 = true then
(fldV a0 6).bind fun c62 =>
(asSl 1 c62).bind fun l63 =>
(idxV (v57 0) (l63.length)).bind fun i65 =>
(l63[i65]?).bind fun e66 =>
(fldV e66 0).bind fun c67 =>
(P0 f_tree_Member [.v r24.1, .v c67] []).bind fun r68 =>
(extV r68.1 0).bind fun x69 =>
(extV r68.1 1).bind fun x70 =>
 tst (okN 8 x69) ((unV .not x70).bind fun x71 =>
(asBool x71).bind fun b72 =>
((if b72 = false then
(fldV a0 6).bind fun c73 =>
(asSl 1 c73).bind fun l74 =>
(idxV (v57 0) (l74.length)).bind fun i75 =>
(l74[i75]?).bind fun e76 =>
(fldV e76 0).bind fun c77 =>
(binV .neq c77 a1).bind fun x78 =>
(asBool x78).bind fun b79 =>
((if b79 = true then
(fldV a0 7).bind fun c80 =>
(asSl 8 c80).bind fun l81 =>
(idxV (v57 0) (l81.length)).bind fun i82 =>
(l81[i82]?).bind fun e83 =>
(P0 f_tree_Same [.v x69, .v e83] []).bind fun r84 =>
(unV .not r84.1).bind fun x85 =>
 some x85
else some (.bool false) : Option V)).bind fun x86 =>
 some x86
else some (.bool true) : Option V)).bind fun x87 =>
(asBool x87).bind fun b88 =>
 if b88 = true then
 some (.inr (1, (vec [(.bool false)])))
else
(binV .add (v57 0) (.int .i64 1)).bind fun x89 =>
 some (.inl (vec [x89])))
else
 some (.inr (0, (vec [])))
noncomputable def L_law05_TreeSets_2 (r24 : V × List V) (v91 : Nat → V) : Option ((Nat → V) ⊕ (Nat × (Nat → V))) :=
(fldV r24.1 6).bind fun c92 =>
(lenV c92).bind fun n93 =>
(binV .lss (v91 0) (.int .i64 ((n93 : Nat) : Int))).bind fun x94 =>
(asBool x94).bind fun b95 =>
 if b95 = true then
(fldV r24.1 6).bind fun c96 =>
(asSl 1 c96).bind fun l97 =>
(idxV (v91 0) (l97.length)).bind fun i98 =>
(l97[i98]?).bind fun e99 =>
(fldV e99 0).bind fun c100 =>
(fldV r24.1 6).bind fun c101 =>
(binV .sub (v91 0) (.int .i64 1)).bind fun x102 =>
(asSl 1 c101).bind fun l103 =>
(idxV x102 (l103.length)).bind fun i104 =>
(l103[i104]?).bind fun e105 =>
(fldV e105 0).bind fun c106 =>
(binV .leq c100 c106).bind fun x107 =>
(asBool x107).bind fun b108 =>
 if b108 = true then
 some (.inr (1, (vec [(.bool false)])))
else
(binV .add (v91 0) (.int .i64 1)).bind fun x109 =>
 some (.inl (vec [x109]))
else
 some (.inr (0, (vec [])))
noncomputable def F_law05_TreeSets (a0 : V) (a1 : V) (a2 : V) : Option (V × List V) :=
 tst (okN 8 a0) (tst (okN 8 a2) ((P0 f_tree_Check [.v a0] []).bind fun r1 =>
(unV .not r1.1).bind fun x2 =>
(asBool x2).bind fun b3 =>
((if b3 = false then
(P0 f_tree_Check [.v a2] []).bind fun r4 =>
(unV .not r4.1).bind fun x5 =>
 some x5
else some (.bool true) : Option V)).bind fun x6 =>
(asBool x6).bind fun b7 =>
((if b7 = false then
(P0 f_law00_Light [.v a0, .v (.int .i64 100)] []).bind fun r8 =>
(unV .not r8.1).bind fun x9 =>
 some x9
else some (.bool true) : Option V)).bind fun x10 =>
(asBool x10).bind fun b11 =>
((if b11 = false then
(P0 f_law00_Light [.v a2, .v (.int .i64 60)] []).bind fun r12 =>
(unV .not r12.1).bind fun x13 =>
 some x13
else some (.bool true) : Option V)).bind fun x14 =>
(asBool x14).bind fun b15 =>
((if b15 = false then
(fldV a0 0).bind fun c16 =>
(binV .neq c16 (.int .i64 7)).bind fun x17 =>
 some x17
else some (.bool true) : Option V)).bind fun x18 =>
(asBool x18).bind fun b19 =>
((if b19 = false then
(lnsV a1).bind fun n20 =>
 some (.bool (decide ((((n20 : Nat) : Int) : Int) > 100)))
else some (.bool true) : Option V)).bind fun x21 =>
(asBool x21).bind fun b22 =>
 if b22 = true then
(P0 f_law05_awake [] []).bind fun r23 =>
 some (r23.1, [])
else
(P0 f_tree_Set [.v a0, .v a1, .v a2] []).bind fun r24 =>
 tst (okN 8 r24.1) ((P0 f_tree_Member [.v r24.1, .v a1] []).bind fun r25 =>
(extV r25.1 0).bind fun x26 =>
(extV r25.1 1).bind fun x27 =>
 tst (okN 8 x26) ((P0 f_tree_Member [.v a0, .v a1] []).bind fun r28 =>
(extV r28.1 0).bind fun x29 =>
(extV r28.1 1).bind fun x30 =>
 tst (okN 8 x29) ((P0 f_tree_Unset [.v r24.1, .v a1] []).bind fun r31 =>
 tst (okN 8 r31.1) ((unV .not x27).bind fun x32 =>
(asBool x32).bind fun b33 =>
((if b33 = false then
(P0 f_tree_Same [.v x26, .v a2] []).bind fun r34 =>
(unV .not r34.1).bind fun x35 =>
 some x35
else some (.bool true) : Option V)).bind fun x36 =>
(asBool x36).bind fun b37 =>
((if b37 = false then
(fldV r24.1 6).bind fun c38 =>
(lenV c38).bind fun n39 =>
(fldV r24.1 7).bind fun c40 =>
(lenV c40).bind fun n41 =>
 some (.bool ((((n39 : Nat) : Int) : Int) != ((n41 : Nat) : Int)))
else some (.bool true) : Option V)).bind fun x42 =>
(asBool x42).bind fun b43 =>
((if b43 = false then
(fldV r24.1 6).bind fun c44 =>
(lenV c44).bind fun n45 =>
(fldV r31.1 6).bind fun c46 =>
(lenV c46).bind fun n47 =>
 some (.bool ((((n45 : Nat) : Int) : Int) != (IntKind.wrap .i64 (((n47 : Nat) : Int) + 1))))
else some (.bool true) : Option V)).bind fun x48 =>
(asBool x48).bind fun b49 =>
((if b49 = false then
(fldV r24.1 6).bind fun c50 =>
(lenV c50).bind fun n51 =>
(fldV a0 6).bind fun c52 =>
(lenV c52).bind fun n53 =>
(asBool x30).bind fun b54 =>
 some (.bool (!(b54 == ((((n51 : Nat) : Int) : Int) == ((n53 : Nat) : Int)))))
else some (.bool true) : Option V)).bind fun x55 =>
(asBool x55).bind fun b56 =>
 if b56 = true then
 some ((.bool false), [])
else
(loopL (L_law05_TreeSets_1 a0 r24 a1) (vec [(.int .i64 0)])).bind fun o90 =>
 if o90.1 = 0 then
(loopL (L_law05_TreeSets_2 r24) (vec [(.int .i64 1)])).bind fun o110 =>
 if o110.1 = 0 then
(P0 f_tree_Unset [.v a0, .v a1] []).bind fun r111 =>
(P0 f_tree_Same [.v r31.1, .v r111.1] []).bind fun r112 =>
(asBool r112.1).bind fun b113 =>
((if b113 = true then
(asBool x30).bind fun b114 =>
((if b114 = false then
(P0 f_tree_Same [.v r31.1, .v a0] []).bind fun r115 =>
 some r115.1
else some (.bool true) : Option V)).bind fun x116 =>
 some x116
else some (.bool false) : Option V)).bind fun x117 =>
(asBool x117).bind fun b118 =>
((if b118 = true then
(P0 f_law05_awake [] []).bind fun r119 =>
 some r119.1
else some (.bool false) : Option V)).bind fun x120 =>
 some (x120, [])
else
 some ((o110.2 0), [])
else
 some ((o90.2 0), [])))))))
theorem eq_law05_TreeSets (a0 : V) (a1 : V) (a2 : V) : P0 f_law05_TreeSets [.v a0, .v a1, .v a2] [] = F_law05_TreeSets a0 a1 a2 :=
  (pcL_eq (fn := p_law05_TreeSets) (by kernel_rfl) _ _).trans (by kernel_rfl)
noncomputable def F_tree_Check (a0 : V) : Option (V × List V) :=
 tst (okN 8 a0) ((P0 f_tree_check [.v a0, .v (.int .i64 1), .p 0 0] [(false, 1, (.int .i64 2000))]).bind fun r1 =>
(r1.2[0]?).bind fun y2 =>
 some (r1.1, []))
theorem eq_tree_Check (a0 : V) : P0 f_tree_Check [.v a0] [] = F_tree_Check a0 :=
  (pcL_eq (fn := p_tree_Check) (by kernel_rfl) _ _).trans (by kernel_rfl)
noncomputable def L_tree_Depth_1 (n2 : Nat) (c1 : V) (v3 : Nat → V) : Option ((Nat → V) ⊕ (Nat × (Nat → V))) :=
(binV .lss (v3 1) (.int .i64 ((n2 : Nat) : Int))).bind fun x4 =>
(asBool x4).bind fun b5 =>
 if b5 = true then
(asSl 8 c1).bind fun l6 =>
(idxV (v3 1) (l6.length)).bind fun i7 =>
(l6[i7]?).bind fun e8 =>
 tst (okN 8 e8) ((P0 f_tree_Depth [.v e8] []).bind fun r9 =>
(maxV (v3 0) [r9.1]).bind fun x10 =>
(binV .add (v3 1) (.int .i64 1)).bind fun x11 =>
 some (.inl (vec [x10, x11])))
else
 some (.inr (0, (vec [(v3 0)])))
noncomputable def F_tree_Depth (a0 : V) : Option (V × List V) :=
 tst (okN 8 a0) ((fldV a0 7).bind fun c1 =>
(lenV c1).bind fun n2 =>
(loopL (L_tree_Depth_1 n2 c1) (vec [(.int .i64 0), (.int .i64 0)])).bind fun o12 =>
(binV .add (.int .i64 1) (o12.2 0)).bind fun x13 =>
 some (x13, []))
theorem eq_tree_Depth (a0 : V) : P0 f_tree_Depth [.v a0] [] = F_tree_Depth a0 :=
  (pcL_eq (fn := p_tree_Depth) (by kernel_rfl) _ _).trans (by kernel_rfl)
noncomputable def L_tree_Weight_1 (n15 : Nat) (c14 : V) (v16 : Nat → V) : Option ((Nat → V) ⊕ (Nat × (Nat → V))) :=
(binV .lss (v16 1) (.int .i64 ((n15 : Nat) : Int))).bind fun x17 =>
(asBool x17).bind fun b18 =>
 if b18 = true then
(asSl 8 c14).bind fun l19 =>
(idxV (v16 1) (l19.length)).bind fun i20 =>
(l19[i20]?).bind fun e21 =>
 tst (okN 8 e21) ((P0 f_tree_Weight [.v e21] []).bind fun r22 =>
(binV .add (v16 0) r22.1).bind fun x23 =>
(binV .add (v16 1) (.int .i64 1)).bind fun x24 =>
 some (.inl (vec [x23, x24])))
else
 some (.inr (0, (vec [(v16 0)])))
noncomputable def F_tree_Weight (a0 : V) : Option (V × List V) :=
 tst (okN 8 a0) ((((fldV a0 0).bind fun c1 =>
(binV .eql c1 (.int .i64 3)).bind fun x2 =>
(asBool x2).bind fun b3 =>
 if b3 = true then
(fldV a0 3).bind fun c4 =>
(lenV c4).bind fun n5 =>
 some (0, (vec [(.int .i64 (IntKind.wrap .i64 (1 + ((n5 : Nat) : Int))))]))
else
(((binV .eql c1 (.int .i64 4)).bind fun x6 =>
(asBool x6).bind fun b7 =>
 if b7 = true then
 some (0, (vec [x6]))
else
(binV .eql c1 (.int .i64 5)).bind fun x8 =>
 some (0, (vec [x8])) : Option (Nat × (Nat → V)))).bind fun o9 =>
(asBool (o9.2 0)).bind fun b10 =>
 if b10 = true then
(fldV a0 5).bind fun c11 =>
(lnsV c11).bind fun n12 =>
 some (0, (vec [(.int .i64 (IntKind.wrap .i64 (1 + ((n12 : Nat) : Int))))]))
else
 some (0, (vec [(.int .i64 1)])) : Option (Nat × (Nat → V)))).bind fun o13 =>
(fldV a0 7).bind fun c14 =>
(lenV c14).bind fun n15 =>
(loopL (L_tree_Weight_1 n15 c14) (vec [(o13.2 0), (.int .i64 0)])).bind fun o25 =>
 some ((o25.2 0), []))
theorem eq_tree_Weight (a0 : V) : P0 f_tree_Weight [.v a0] [] = F_tree_Weight a0 :=
  (pcL_eq (fn := p_tree_Weight) (by kernel_rfl) _ _).trans (by kernel_rfl)
noncomputable def F_law05_awake : Option (V × List V) :=
(P0 f_tree_Weight [.v (.agg [(.int .i64 7), (.bool false), (.bool false), (.sl []), (.int .i64 0), (.str []), (.sl [(.str [97])]), (.sl [(.agg [(.int .i64 6), (.bool false), (.bool false), (.sl []), (.int .i64 0), (.str []), (.sl []), (.sl [(.agg [(.int .i64 3), (.bool false), (.bool false), (.sl [(.int .u32 1)]), (.int .i64 0), (.str []), (.sl []), (.sl [])]), (.agg [(.int .i64 4), (.bool false), (.bool false), (.sl []), (.int .i64 0), (.str [120, 121]), (.sl []), (.sl [])])])])])])] []).bind fun r1 =>
(binV .eql r1.1 (.int .i64 7)).bind fun x2 =>
(asBool x2).bind fun b3 =>
((if b3 = true then
(P0 f_tree_Check [.v (.agg [(.int .i64 7), (.bool false), (.bool false), (.sl []), (.int .i64 0), (.str []), (.sl [(.str [97])]), (.sl [(.agg [(.int .i64 6), (.bool false), (.bool false), (.sl []), (.int .i64 0), (.str []), (.sl []), (.sl [(.agg [(.int .i64 3), (.bool false), (.bool false), (.sl [(.int .u32 1)]), (.int .i64 0), (.str []), (.sl []), (.sl [])]), (.agg [(.int .i64 4), (.bool false), (.bool false), (.sl []), (.int .i64 0), (.str [120, 121]), (.sl []), (.sl [])])])])])])] []).bind fun r4 =>
 some r4.1
else some (.bool false) : Option V)).bind fun x5 =>
(asBool x5).bind fun b6 =>
((if b6 = true then
(P0 f_tree_Nodes [.v (.agg [(.int .i64 7), (.bool false), (.bool false), (.sl []), (.int .i64 0), (.str []), (.sl [(.str [97])]), (.sl [(.agg [(.int .i64 6), (.bool false), (.bool false), (.sl []), (.int .i64 0), (.str []), (.sl []), (.sl [(.agg [(.int .i64 3), (.bool false), (.bool false), (.sl [(.int .u32 1)]), (.int .i64 0), (.str []), (.sl []), (.sl [])]), (.agg [(.int .i64 4), (.bool false), (.bool false), (.sl []), (.int .i64 0), (.str [120, 121]), (.sl []), (.sl [])])])])])])] []).bind fun r7 =>
(binV .eql r7.1 (.int .i64 4)).bind fun x8 =>
 some x8
else some (.bool false) : Option V)).bind fun x9 =>
(asBool x9).bind fun b10 =>
((if b10 = true then
(P0 f_tree_Depth [.v (.agg [(.int .i64 7), (.bool false), (.bool false), (.sl []), (.int .i64 0), (.str []), (.sl [(.str [97])]), (.sl [(.agg [(.int .i64 6), (.bool false), (.bool false), (.sl []), (.int .i64 0), (.str []), (.sl []), (.sl [(.agg [(.int .i64 3), (.bool false), (.bool false), (.sl [(.int .u32 1)]), (.int .i64 0), (.str []), (.sl []), (.sl [])]), (.agg [(.int .i64 4), (.bool false), (.bool false), (.sl []), (.int .i64 0), (.str [120, 121]), (.sl []), (.sl [])])])])])])] []).bind fun r11 =>
(binV .eql r11.1 (.int .i64 3)).bind fun x12 =>
 some x12
else some (.bool false) : Option V)).bind fun x13 =>
 some (x13, [])
theorem eq_law05_awake : P0 f_law05_awake [] [] = F_law05_awake :=
  (pcL_eq (fn := p_law05_awake) (by kernel_rfl) _ _).trans (by kernel_rfl)
noncomputable def F_tree_Same (a0 : V) (a1 : V) : Option (V × List V) :=
 tst (okN 8 a0) (tst (okN 8 a1) ((fldV a0 0).bind fun c1 =>
(fldV a1 0).bind fun c2 =>
(binV .neq c1 c2).bind fun x3 =>
(asBool x3).bind fun b4 =>
 if b4 = true then
 some ((.bool false), [])
else
(fldV a0 0).bind fun c5 =>
(((binV .eql c5 (.int .i64 2)).bind fun x6 =>
(asBool x6).bind fun b7 =>
 if b7 = true then
(fldV a0 1).bind fun c8 =>
(fldV a1 1).bind fun c9 =>
(asBool c8).bind fun b10 =>
(asBool c9).bind fun b11 =>
 some (4, (vec [(.bool (b10 == b11))]))
else
(binV .eql c5 (.int .i64 3)).bind fun x12 =>
(asBool x12).bind fun b13 =>
 if b13 = true then
(P0 f_num_Same [.v (subV a0 2 3), .v (subV a1 2 3)] []).bind fun r14 =>
 some (4, (vec [r14.1]))
else
(binV .eql c5 (.int .i64 4)).bind fun x15 =>
(asBool x15).bind fun b16 =>
 if b16 = true then
 some (3, (vec []))
else
(binV .eql c5 (.int .i64 5)).bind fun x17 =>
(asBool x17).bind fun b18 =>
 if b18 = true then
 some (3, (vec []))
else
(binV .eql c5 (.int .i64 7)).bind fun x19 =>
(asBool x19).bind fun b20 =>
 if b20 = true then
 some (1, (vec []))
else
(binV .eql c5 (.int .i64 6)).bind fun x21 =>
(asBool x21).bind fun b22 =>
 if b22 = true then
 some (2, (vec []))
else
 some (0, (vec [])) : Option (Nat × (Nat → V)))).bind fun o23 =>
 if o23.1 = 0 then
 some ((.bool true), [])
else
 if (o23.1 - 1) = 0 then
(fldV a0 6).bind fun c24 =>
(fldV a1 6).bind fun c25 =>
(P0 f_slices_Equal_string [.v c24, .v c25] []).bind fun r26 =>
(asBool r26.1).bind fun b27 =>
((if b27 = true then
(fldV a0 7).bind fun c28 =>
(fldV a1 7).bind fun c29 =>
(P0 f_slices_EqualFunc_erratum_api_Tree [.v c28, .v c29, .fn f_tree_Same []] []).bind fun r30 =>
 some r30.1
else some (.bool false) : Option V)).bind fun x31 =>
 some (x31, [])
else
 if ((o23.1 - 1) - 1) = 0 then
(fldV a0 7).bind fun c32 =>
(fldV a1 7).bind fun c33 =>
(P0 f_slices_EqualFunc_erratum_api_Tree [.v c32, .v c33, .fn f_tree_Same []] []).bind fun r34 =>
 some (r34.1, [])
else
 if (((o23.1 - 1) - 1) - 1) = 0 then
(fldV a0 5).bind fun c35 =>
(fldV a1 5).bind fun c36 =>
(binV .eql c35 c36).bind fun x37 =>
 some (x37, [])
else
 some ((o23.2 0), [])))
theorem eq_tree_Same (a0 : V) (a1 : V) : P0 f_tree_Same [.v a0, .v a1] [] = F_tree_Same a0 a1 :=
  (pcL_eq (fn := p_tree_Same) (by kernel_rfl) _ _).trans (by kernel_rfl)
noncomputable def L_tree_Nodes_1 (n2 : Nat) (c1 : V) (v3 : Nat → V) : Option ((Nat → V) ⊕ (Nat × (Nat → V))) :=
(binV .lss (v3 1) (.int .i64 ((n2 : Nat) : Int))).bind fun x4 =>
(asBool x4).bind fun b5 =>
 if b5 = true then
(asSl 8 c1).bind fun l6 =>
(idxV (v3 1) (l6.length)).bind fun i7 =>
(l6[i7]?).bind fun e8 =>
 tst (okN 8 e8) ((P0 f_tree_Nodes [.v e8] []).bind fun r9 =>
(binV .add (v3 0) r9.1).bind fun x10 =>
(binV .add (v3 1) (.int .i64 1)).bind fun x11 =>
 some (.inl (vec [x10, x11])))
else
 some (.inr (0, (vec [(v3 0)])))
noncomputable def F_tree_Nodes (a0 : V) : Option (V × List V) :=
 tst (okN 8 a0) ((fldV a0 7).bind fun c1 =>
(lenV c1).bind fun n2 =>
(loopL (L_tree_Nodes_1 n2 c1) (vec [(.int .i64 1), (.int .i64 0)])).bind fun o12 =>
 some ((o12.2 0), []))
theorem eq_tree_Nodes (a0 : V) : P0 f_tree_Nodes [.v a0] [] = F_tree_Nodes a0 :=
  (pcL_eq (fn := p_tree_Nodes) (by kernel_rfl) _ _).trans (by kernel_rfl)
noncomputable def F_law00_Light (a0 : V) (a1 : V) : Option (V × List V) :=
 tst (okN 8 a0) ((P0 f_law00_light [.v a0, .v a1] []).bind fun r1 =>
(binV .geq r1.1 (.int .i64 0)).bind fun x2 =>
 some (x2, []))
theorem eq_law00_Light (a0 : V) (a1 : V) : P0 f_law00_Light [.v a0, .v a1] [] = F_law00_Light a0 a1 :=
  (pcL_eq (fn := p_law00_Light) (by kernel_rfl) _ _).trans (by kernel_rfl)
noncomputable def F_tree_Set (a0 : V) (a1 : V) (a2 : V) : Option (V × List V) :=
 tst (okN 8 a0) (tst (okN 1 a1) ((fldV a1 0).bind fun c1 =>
 tst (okN 8 a2) ((P0 f_tree_cut [.v a0] []).bind fun r2 =>
(extV r2.1 0).bind fun x3 =>
(extV r2.1 1).bind fun x4 =>
(lenV x3).bind fun n5 =>
(lenV x4).bind fun n6 =>
(mksV 16 (.int .i64 ((n5 : Nat) : Int)) (.int .i64 ((n5 : Nat) : Int))).bind fun q7 =>
(mksV 120 (.int .i64 ((n6 : Nat) : Int)) (.int .i64 ((n6 : Nat) : Int))).bind fun q8 =>
(asEl 1 x3).bind fun l9 =>
(asEl 8 x4).bind fun l10 =>
(P0 f_slices_Index_string [.v (.sl (((setL (List.replicate q7.2 (.str [])) 0 (l9.take (Nat.min (l9.length) q7.1))).drop 0).take q7.1)), .v c1] []).bind fun r11 =>
(binV .geq r11.1 (.int .i64 0)).bind fun x12 =>
(asBool x12).bind fun b13 =>
 if b13 = true then
(idxV r11.1 q8.1).bind fun i14 =>
 tst (okN 8 a2) (some ((.agg [(.int .i64 7), (.bool false), (.bool false), (.sl []), (.int .i64 0), (.str []), (.sl (((setL (List.replicate q7.2 (.str [])) 0 (l9.take (Nat.min (l9.length) q7.1))).drop 0).take q7.1)), (.sl ((((setL (List.replicate q8.2 (.agg [(.int .i64 0), (.bool false), (.bool false), (.sl []), (.int .i64 0), (.str []), (.sl []), (.sl [])])) 0 (l10.take (Nat.min (l10.length) q8.1))).set (0 + i14) a2).drop 0).take q8.1))]), []))
else
(P0 f_slices_IndexFunc_string [.v (.sl (((setL (List.replicate q7.2 (.str [])) 0 (l9.take (Nat.min (l9.length) q7.1))).drop 0).take q7.1)), .fn f_tree_Set_1 [.p 0 0]] [(false, 1, c1)]).bind fun r15 =>
(r15.2[0]?).bind fun y16 =>
(((binV .lss r15.1 (.int .i64 0)).bind fun x17 =>
(asBool x17).bind fun b18 =>
 if b18 = true then
 some (0, (vec [(.int .i64 ((q7.1 : Nat) : Int))]))
else
 some (0, (vec [r15.1])) : Option (Nat × (Nat → V)))).bind fun o19 =>
 tst (okN 1 y16) ((fldV y16 0).bind fun c20 =>
 tst (Nat.beq q7.1 q7.2) ((P0 f_slices_Insert_string [.u, .v (.sl (((setL (List.replicate q7.2 (.str [])) 0 (l9.take (Nat.min (l9.length) q7.1))).drop 0).take q7.1)), .v (o19.2 0), .v (.sl [c20])] []).bind fun r21 =>
 tst (okN 8 a2) (tst (Nat.beq q8.1 q8.2) ((P0 f_slices_Insert_erratum_api_Tree [.u, .v (.sl (((setL (List.replicate q8.2 (.agg [(.int .i64 0), (.bool false), (.bool false), (.sl []), (.int .i64 0), (.str []), (.sl []), (.sl [])])) 0 (l10.take (Nat.min (l10.length) q8.1))).drop 0).take q8.1)), .v (o19.2 0), .v (.sl [a2])] []).bind fun r22 =>
 tst (okN 1 r21.1) ((fldV r21.1 0).bind fun c23 =>
 tst (okN 1 r22.1) ((fldV r22.1 0).bind fun c24 =>
 some ((.agg [(.int .i64 7), (.bool false), (.bool false), (.sl []), (.int .i64 0), (.str []), c23, c24]), []))))))))))
theorem eq_tree_Set (a0 : V) (a1 : V) (a2 : V) : P0 f_tree_Set [.v a0, .v a1, .v a2] [] = F_tree_Set a0 a1 a2 :=
  (pcL_eq (fn := p_tree_Set) (by kernel_rfl) _ _).trans (by kernel_rfl)
noncomputable def F_tree_Member (a0 : V) (a1 : V) : Option (V × List V) :=
 tst (okN 8 a0) ((P0 f_tree_cut [.v a0] []).bind fun r1 =>
(extV r1.1 0).bind fun x2 =>
(extV r1.1 1).bind fun x3 =>
(P0 f_slices_Index_string [.v x2, .v a1] []).bind fun r4 =>
(binV .geq r4.1 (.int .i64 0)).bind fun x5 =>
(asBool x5).bind fun b6 =>
 if b6 = true then
(asSl 8 x3).bind fun l7 =>
(idxV r4.1 (l7.length)).bind fun i9 =>
(l7[i9]?).bind fun e10 =>
 tst (okN 8 e10) (some ((.tup [e10, (.bool true)]), []))
else
 some ((.tup [(.agg [(.int .i64 0), (.bool false), (.bool false), (.sl []), (.int .i64 0), (.str []), (.sl []), (.sl [])]), (.bool false)]), []))
theorem eq_tree_Member (a0 : V) (a1 : V) : P0 f_tree_Member [.v a0, .v a1] [] = F_tree_Member a0 a1 :=
  (pcL_eq (fn := p_tree_Member) (by kernel_rfl) _ _).trans (by kernel_rfl)
noncomputable def F_tree_Unset (a0 : V) (a1 : V) : Option (V × List V) :=
 tst (okN 8 a0) ((P0 f_tree_cut [.v a0] []).bind fun r1 =>
(extV r1.1 0).bind fun x2 =>
(extV r1.1 1).bind fun x3 =>
(P0 f_slices_Index_string [.v x2, .v a1] []).bind fun r4 =>
(binV .lss r4.1 (.int .i64 0)).bind fun x5 =>
(asBool x5).bind fun b6 =>
 if b6 = true then
 tst (okN 8 a0) (some (a0, []))
else
(asSl 1 x2).bind fun l7 =>
(bnd2 none (some r4.1) (l7.length)).bind fun q8 =>
(binV .add r4.1 (.int .i64 1)).bind fun x9 =>
(asSl 1 x2).bind fun l10 =>
(bnd2 (some x9) none (l10.length)).bind fun q11 =>
(P0 f_slices_Concat_string [.v (.sl [(.sl ((l7.drop q8.1).take (q8.2 - q8.1))), (.sl ((l10.drop q11.1).take (q11.2 - q11.1)))])] []).bind fun r12 =>
(asSl 8 x3).bind fun l13 =>
(bnd2 none (some r4.1) (l13.length)).bind fun q14 =>
(binV .add r4.1 (.int .i64 1)).bind fun x15 =>
(asSl 8 x3).bind fun l16 =>
(bnd2 (some x15) none (l16.length)).bind fun q17 =>
(P0 f_slices_Concat_erratum_api_Tree [.v (.sl [(.sl ((l13.drop q14.1).take (q14.2 - q14.1))), (.sl ((l16.drop q17.1).take (q17.2 - q17.1)))])] []).bind fun r18 =>
 tst (okN 1 r12.1) ((fldV r12.1 0).bind fun c19 =>
 tst (okN 1 r18.1) ((fldV r18.1 0).bind fun c20 =>
 some ((.agg [(.int .i64 7), (.bool false), (.bool false), (.sl []), (.int .i64 0), (.str []), c19, c20]), []))))
theorem eq_tree_Unset (a0 : V) (a1 : V) : P0 f_tree_Unset [.v a0, .v a1] [] = F_tree_Unset a0 a1 :=
  (pcL_eq (fn := p_tree_Unset) (by kernel_rfl) _ _).trans (by kernel_rfl)
noncomputable def L_tree_check_1 (n13 : Nat) (c12 : V) (a1 : V) (v14 : Nat → V) : Option ((Nat → V) ⊕ (Nat × (Nat → V))) :=
(binV .lss (v14 0) (.int .i64 ((n13 : Nat) : Int))).bind fun x15 =>
(asBool x15).bind fun b16 =>
 if b16 = true then
(asSl 8 c12).bind fun l17 =>
(idxV (v14 0) (l17.length)).bind fun i18 =>
(l17[i18]?).bind fun e19 =>
 tst (okN 8 e19) ((binV .add a1 (.int .i64 1)).bind fun x20 =>
(P0 f_tree_check [.v e19, .v x20, .p 0 0] [(false, 1, (v14 1))]).bind fun r21 =>
(r21.2[0]?).bind fun y22 =>
(unV .not r21.1).bind fun x23 =>
(asBool x23).bind fun b24 =>
 if b24 = true then
 some (.inr (1, (vec [(.bool false), y22])))
else
(binV .add (v14 0) (.int .i64 1)).bind fun x25 =>
 some (.inl (vec [x25, y22])))
else
 some (.inr (0, (vec [(v14 1)])))
noncomputable def F_tree_check (a0 : V) (a1 : V) (a2 : V) : Option (V × List V) :=
 tst (okN 8 a0) ((binV .sub a2 (.int .i64 1)).bind fun x1 =>
 tst (okN 1 x1) ((fldV x1 0).bind fun c2 =>
(binV .lss c2 (.int .i64 0)).bind fun x3 =>
(asBool x3).bind fun b4 =>
((if b4 = false then
(binV .gtr a1 (.int .i64 64)).bind fun x5 =>
 some x5
else some (.bool true) : Option V)).bind fun x6 =>
(asBool x6).bind fun b7 =>
((if b7 = false then
(P0 f_tree_own [.v a0] []).bind fun r8 =>
(unV .not r8.1).bind fun x9 =>
 some x9
else some (.bool true) : Option V)).bind fun x10 =>
(asBool x10).bind fun b11 =>
 if b11 = true then
 some ((.bool false), [c2])
else
(fldV a0 7).bind fun c12 =>
(lenV c12).bind fun n13 =>
(loopL (L_tree_check_1 n13 c12 a1) (vec [(.int .i64 0), c2])).bind fun o26 =>
 if o26.1 = 0 then
 some ((.bool true), [(o26.2 0)])
else
 some ((o26.2 0), [(o26.2 1)])))
theorem eq_tree_check (a0 : V) (a1 : V) (a2 : V) : P0 f_tree_check [.v a0, .v a1, .p 0 0] [(false, 1, a2)] = F_tree_check a0 a1 a2 :=
  (pcL_eq (fn := p_tree_check) (by kernel_rfl) _ _).trans (by kernel_rfl)
noncomputable def F_num_Same (a0 : V) (a1 : V) : Option (V × List V) :=
 tst (okN 3 a0) (tst (okN 3 a1) ((P0 f_num_of [.v a0] []).bind fun r1 =>
(P0 f_num_of [.v a1] []).bind fun r2 =>
 tst (okN 3 r1.1) (tst (okN 3 r2.1) ((fldV r1.1 0).bind fun c3 =>
(fldV r2.1 0).bind fun c4 =>
(asBool c3).bind fun b5 =>
(asBool c4).bind fun b6 =>
((if (b5 == b6) = true then
(fldV r1.1 2).bind fun c7 =>
(fldV r2.1 2).bind fun c8 =>
(binV .eql c7 c8).bind fun x9 =>
 some x9
else some (.bool false) : Option V)).bind fun x10 =>
(asBool x10).bind fun b11 =>
((if b11 = true then
(fldV r1.1 1).bind fun c12 =>
(fldV r2.1 1).bind fun c13 =>
(P0 f_slices_Equal_uint32 [.v c12, .v c13] []).bind fun r14 =>
 some r14.1
else some (.bool false) : Option V)).bind fun x15 =>
 some (x15, [])))))
theorem eq_num_Same (a0 : V) (a1 : V) : P0 f_num_Same [.v a0, .v a1] [] = F_num_Same a0 a1 :=
  (pcL_eq (fn := p_num_Same) (by kernel_rfl) _ _).trans (by kernel_rfl)
noncomputable def L_slices_Equal_string_1 (n3 : Nat) (a0 : V) (a1 : V) (v4 : Nat → V) : Option ((Nat → V) ⊕ (Nat × (Nat → V))) :=
(binV .lss (v4 0) (.int .i64 ((n3 : Nat) : Int))).bind fun x5 =>
(asBool x5).bind fun b6 =>
 if b6 = true then
(asSl 1 a0).bind fun l7 =>
(idxV (v4 0) (l7.length)).bind fun i9 =>
(l7[i9]?).bind fun e10 =>
(fldV e10 0).bind fun c11 =>
(asSl 1 a1).bind fun l12 =>
(idxV (v4 0) (l12.length)).bind fun i13 =>
(l12[i13]?).bind fun e14 =>
(fldV e14 0).bind fun c15 =>
(binV .neq c11 c15).bind fun x16 =>
(asBool x16).bind fun b17 =>
 if b17 = true then
 some (.inr (1, (vec [(.bool false)])))
else
(binV .add (v4 0) (.int .i64 1)).bind fun x18 =>
 some (.inl (vec [x18]))
else
 some (.inr (0, (vec [])))
noncomputable def F_slices_Equal_string (a0 : V) (a1 : V) : Option (V × List V) :=
(lenV a0).bind fun n1 =>
(lenV a1).bind fun n2 =>
 if ((((n1 : Nat) : Int) : Int) != ((n2 : Nat) : Int)) = true then
 some ((.bool false), [])
else
(lenV a0).bind fun n3 =>
(loopL (L_slices_Equal_string_1 n3 a0 a1) (vec [(.int .i64 0)])).bind fun o19 =>
 if o19.1 = 0 then
 some ((.bool true), [])
else
 some ((o19.2 0), [])
theorem eq_slices_Equal_string (a0 : V) (a1 : V) : P0 f_slices_Equal_string [.v a0, .v a1] [] = F_slices_Equal_string a0 a1 :=
  (pcL_eq (fn := p_slices_Equal_string) (by kernel_rfl) _ _).trans (by kernel_rfl)
noncomputable def L_slices_EqualFunc_erratum_api_Tree_1 (n3 : Nat) (a0 : V) (a1 : V) (a2 : Nat) (v4 : Nat → V) : Option ((Nat → V) ⊕ (Nat × (Nat → V))) :=
(binV .lss (v4 0) (.int .i64 ((n3 : Nat) : Int))).bind fun x5 =>
(asBool x5).bind fun b6 =>
 if b6 = true then
(asSl 8 a0).bind fun l7 =>
(idxV (v4 0) (l7.length)).bind fun i9 =>
(l7[i9]?).bind fun e10 =>
 tst (okN 8 e10) ((asSl 8 a1).bind fun l11 =>
(idxV (v4 0) (l11.length)).bind fun i12 =>
(l11[i12]?).bind fun e13 =>
 tst (okN 8 e13) ((P0 a2 [.v e10, .v e13] []).bind fun r14 =>
(unV .not r14.1).bind fun x15 =>
(asBool x15).bind fun b16 =>
 if b16 = true then
 some (.inr (1, (vec [(.bool false)])))
else
(binV .add (v4 0) (.int .i64 1)).bind fun x17 =>
 some (.inl (vec [x17]))))
else
 some (.inr (0, (vec [])))
noncomputable def F_slices_EqualFunc_erratum_api_Tree (a0 : V) (a1 : V) (a2 : Nat) : Option (V × List V) :=
(lenV a0).bind fun n1 =>
(lenV a1).bind fun n2 =>
 if ((((n1 : Nat) : Int) : Int) != ((n2 : Nat) : Int)) = true then
 some ((.bool false), [])
else
(lenV a0).bind fun n3 =>
(loopL (L_slices_EqualFunc_erratum_api_Tree_1 n3 a0 a1 a2) (vec [(.int .i64 0)])).bind fun o18 =>
 if o18.1 = 0 then
 some ((.bool true), [])
else
 some ((o18.2 0), [])
theorem eq_slices_EqualFunc_erratum_api_Tree (a0 : V) (a1 : V) (a2 : Nat) : P0 f_slices_EqualFunc_erratum_api_Tree [.v a0, .v a1, .fn a2 []] [] = F_slices_EqualFunc_erratum_api_Tree a0 a1 a2 :=
  (pcL_eq (fn := p_slices_EqualFunc_erratum_api_Tree) (by kernel_rfl) _ _).trans (by kernel_rfl)
noncomputable def L_law00_light_1 (a0 : V) (v16 : Nat → V) : Option ((Nat → V) ⊕ (Nat × (Nat → V))) :=
(fldV a0 6).bind fun c17 =>
(lenV c17).bind fun n18 =>
(binV .lss (v16 0) (.int .i64 ((n18 : Nat) : Int))).bind fun x19 =>
(asBool x19).bind fun b20 =>
 if b20 = true then
(fldV a0 6).bind fun c21 =>
(asSl 1 c21).bind fun l22 =>
(idxV (v16 0) (l22.length)).bind fun i23 =>
(l22[i23]?).bind fun e24 =>
(fldV e24 0).bind fun c25 =>
(lnsV c25).bind fun n26 =>
 if (decide ((((n26 : Nat) : Int) : Int) > 2100)) = true then
 some (.inr (1, (vec [(.int .i64 (-1))])))
else
(binV .add (v16 0) (.int .i64 1)).bind fun x27 =>
 some (.inl (vec [x27]))
else
 some (.inr (0, (vec [])))
noncomputable def L_law00_light_2 (a0 : V) (v29 : Nat → V) : Option ((Nat → V) ⊕ (Nat × (Nat → V))) :=
(fldV a0 7).bind fun c30 =>
(lenV c30).bind fun n31 =>
(binV .lss (v29 1) (.int .i64 ((n31 : Nat) : Int))).bind fun x32 =>
(asBool x32).bind fun b33 =>
((if b33 = true then
(binV .geq (v29 0) (.int .i64 0)).bind fun x34 =>
 some x34
else some (.bool false) : Option V)).bind fun x35 =>
(asBool x35).bind fun b36 =>
 if b36 = true then
(fldV a0 7).bind fun c37 =>
(asSl 8 c37).bind fun l38 =>
(idxV (v29 1) (l38.length)).bind fun i39 =>
(l38[i39]?).bind fun e40 =>
(P0 f_law00_light [.v e40, .v (v29 0)] []).bind fun r41 =>
(binV .add (v29 1) (.int .i64 1)).bind fun x42 =>
 some (.inl (vec [r41.1, x42]))
else
 some (.inr (0, (vec [(v29 0)])))
noncomputable def F_law00_light (a0 : V) (a1 : V) : Option (V × List V) :=
 tst (okN 8 a0) ((binV .sub a1 (.int .i64 1)).bind fun x1 =>
(fldV a0 3).bind fun c2 =>
(lenV c2).bind fun n3 =>
((if (decide ((((n3 : Nat) : Int) : Int) > 95)) = false then
(fldV a0 5).bind fun c4 =>
(lnsV c4).bind fun n5 =>
 some (.bool (decide ((((n5 : Nat) : Int) : Int) > 2100)))
else some (.bool true) : Option V)).bind fun x6 =>
(asBool x6).bind fun b7 =>
((if b7 = false then
(fldV a0 6).bind fun c8 =>
(lenV c8).bind fun n9 =>
 some (.bool (decide ((((n9 : Nat) : Int) : Int) > 40)))
else some (.bool true) : Option V)).bind fun x10 =>
(asBool x10).bind fun b11 =>
((if b11 = false then
(fldV a0 7).bind fun c12 =>
(lenV c12).bind fun n13 =>
 some (.bool (decide ((((n13 : Nat) : Int) : Int) > 40)))
else some (.bool true) : Option V)).bind fun x14 =>
(asBool x14).bind fun b15 =>
 if b15 = true then
 some ((.int .i64 (-1)), [])
else
(loopL (L_law00_light_1 a0) (vec [(.int .i64 0)])).bind fun o28 =>
 if o28.1 = 0 then
(loopL (L_law00_light_2 a0) (vec [x1, (.int .i64 0)])).bind fun o43 =>
 some ((o43.2 0), [])
else
 some ((o28.2 0), []))
theorem eq_law00_light (a0 : V) (a1 : V) : P0 f_law00_light [.v a0, .v a1] [] = F_law00_light a0 a1 :=
  (pcL_eq (fn := p_law00_light) (by kernel_rfl) _ _).trans (by kernel_rfl)
noncomputable def F_tree_cut (a0 : V) : Option (V × List V) :=
 tst (okN 8 a0) ((fldV a0 0).bind fun c1 =>
(binV .neq c1 (.int .i64 7)).bind fun x2 =>
(asBool x2).bind fun b3 =>
 if b3 = true then
 some ((.tup [(.sl []), (.sl [])]), [])
else
(fldV a0 6).bind fun c4 =>
(lenV c4).bind fun n5 =>
(fldV a0 7).bind fun c6 =>
(lenV c6).bind fun n7 =>
(minV (.int .i64 ((n5 : Nat) : Int)) [(.int .i64 ((n7 : Nat) : Int))]).bind fun x8 =>
(fldV a0 6).bind fun c9 =>
(asSl 1 c9).bind fun l10 =>
(bnd3 none (some x8) (some x8) (l10.length)).bind fun q11 =>
(fldV a0 7).bind fun c12 =>
(asSl 8 c12).bind fun l13 =>
(bnd3 none (some x8) (some x8) (l13.length)).bind fun q14 =>
 some ((.tup [(.sl ((l10.drop q11.1).take (q11.2 - q11.1))), (.sl ((l13.drop q14.1).take (q14.2 - q14.1)))]), []))
theorem eq_tree_cut (a0 : V) : P0 f_tree_cut [.v a0] [] = F_tree_cut a0 :=
  (pcL_eq (fn := p_tree_cut) (by kernel_rfl) _ _).trans (by kernel_rfl)
noncomputable def L_slices_Index_string_1 (n1 : Nat) (a0 : V) (a1 : V) (v2 : Nat → V) : Option ((Nat → V) ⊕ (Nat × (Nat → V))) :=
(binV .lss (v2 0) (.int .i64 ((n1 : Nat) : Int))).bind fun x3 =>
(asBool x3).bind fun b4 =>
 if b4 = true then
(asSl 1 a0).bind fun l5 =>
(idxV (v2 0) (l5.length)).bind fun i6 =>
(l5[i6]?).bind fun e7 =>
(fldV e7 0).bind fun c8 =>
(binV .eql a1 c8).bind fun x9 =>
(asBool x9).bind fun b10 =>
 if b10 = true then
 some (.inr (1, (vec [(v2 0)])))
else
(binV .add (v2 0) (.int .i64 1)).bind fun x11 =>
 some (.inl (vec [x11]))
else
 some (.inr (0, (vec [])))
noncomputable def F_slices_Index_string (a0 : V) (a1 : V) : Option (V × List V) :=
(lenV a0).bind fun n1 =>
(loopL (L_slices_Index_string_1 n1 a0 a1) (vec [(.int .i64 0)])).bind fun o12 =>
 if o12.1 = 0 then
 some ((.int .i64 (-1)), [])
else
 some ((o12.2 0), [])
theorem eq_slices_Index_string (a0 : V) (a1 : V) : P0 f_slices_Index_string [.v a0, .v a1] [] = F_slices_Index_string a0 a1 :=
  (pcL_eq (fn := p_slices_Index_string) (by kernel_rfl) _ _).trans (by kernel_rfl)
noncomputable def L_slices_IndexFunc_string_1 (n1 : Nat) (a0 : V) (a1 : Nat) (y1000 : V) (v2 : Nat → V) : Option ((Nat → V) ⊕ (Nat × (Nat → V))) :=
(binV .lss (v2 0) (.int .i64 ((n1 : Nat) : Int))).bind fun x3 =>
(asBool x3).bind fun b4 =>
 if b4 = true then
(asSl 1 a0).bind fun l5 =>
(idxV (v2 0) (l5.length)).bind fun i6 =>
(l5[i6]?).bind fun e7 =>
(fldV e7 0).bind fun c8 =>
(P0 a1 [.v c8, .p 0 0] [(true, 1, y1000)]).bind fun r9 =>
(asBool r9.1).bind fun b10 =>
 if b10 = true then
 some (.inr (1, (vec [(v2 0)])))
else
(binV .add (v2 0) (.int .i64 1)).bind fun x11 =>
 some (.inl (vec [x11]))
else
 some (.inr (0, (vec [])))
noncomputable def F_slices_IndexFunc_string (a0 : V) (a1 : Nat) (y1000 : V) : Option (V × List V) :=
(lenV a0).bind fun n1 =>
(loopL (L_slices_IndexFunc_string_1 n1 a0 a1 y1000) (vec [(.int .i64 0)])).bind fun o12 =>
 if o12.1 = 0 then
 some ((.int .i64 (-1)), [y1000])
else
 some ((o12.2 0), [y1000])
theorem eq_slices_IndexFunc_string (a0 : V) (a1 : Nat) (y1000 : V) : P0 f_slices_IndexFunc_string [.v a0, .fn a1 [.p 0 0]] [(false, 1, y1000)] = F_slices_IndexFunc_string a0 a1 y1000 :=
  (pcL_eq (fn := p_slices_IndexFunc_string) (by kernel_rfl) _ _).trans (by kernel_rfl)
noncomputable def F_tree_Set_1 (a0 : V) (a1 : V) : Option (V × List V) :=
(binV .gtr a0 a1).bind fun x1 =>
 some (x1, [a1])
theorem eq_tree_Set_1 (a0 : V) (a1 : V) : P0 f_tree_Set_1 [.v a0, .p 0 0] [(true, 1, a1)] = F_tree_Set_1 a0 a1 :=
  (pcL_eq (fn := p_tree_Set_1) (by kernel_rfl) _ _).trans (by kernel_rfl)
noncomputable def L_slices_Concat_string_1 (n1 : Nat) (a0 : V) (v2 : Nat → V) : Option ((Nat → V) ⊕ (Nat × (Nat → V))) :=
(binV .lss (v2 1) (.int .i64 ((n1 : Nat) : Int))).bind fun x3 =>
(asBool x3).bind fun b4 =>
 if b4 = true then
(asSl 1 a0).bind fun l5 =>
(idxV (v2 1) (l5.length)).bind fun i6 =>
(l5[i6]?).bind fun e7 =>
(fldV e7 0).bind fun c8 =>
(lenV c8).bind fun n9 =>
(binV .add (v2 0) (.int .i64 ((n9 : Nat) : Int))).bind fun x10 =>
(binV .lss x10 (.int .i64 0)).bind fun x11 =>
(asBool x11).bind fun b12 =>
 if b12 = true then
 none
else
(binV .add (v2 1) (.int .i64 1)).bind fun x13 =>
 some (.inl (vec [x10, x13]))
else
 some (.inr (0, (vec [(v2 0)])))
noncomputable def L_slices_Concat_string_2 (n17 : Nat) (a0 : V) (v18 : Nat → V) : Option ((Nat → V) ⊕ (Nat × (Nat → V))) :=
(binV .lss (v18 1) (.int .i64 ((n17 : Nat) : Int))).bind fun x19 =>
(asBool x19).bind fun b20 =>
 if b20 = true then
(asSl 1 a0).bind fun l21 =>
(idxV (v18 1) (l21.length)).bind fun i22 =>
(l21[i22]?).bind fun e23 =>
(fldV e23 0).bind fun c24 =>
(asEl 1 c24).bind fun l25 =>
 tst (appOk 16 ((V.elems (v18 0)).length) (l25.length)) ((binV .add (v18 1) (.int .i64 1)).bind fun x26 =>
 some (.inl (vec [(.sl ((V.elems (v18 0)) ++ l25)), x26])))
else
 some (.inr (0, (vec [(.sl (V.elems (v18 0)))])))
noncomputable def F_slices_Concat_string (a0 : V) : Option (V × List V) :=
(lenV a0).bind fun n1 =>
(loopL (L_slices_Concat_string_1 n1 a0) (vec [(.int .i64 0), (.int .i64 0)])).bind fun o14 =>
(P0 f_slices_Grow_string [.g, .v (.sl []), .v (o14.2 0)] []).bind fun r15 =>
(slV r15.1).bind fun l16 =>
(lenV a0).bind fun n17 =>
(loopL (L_slices_Concat_string_2 n17 a0) (vec [(.sl l16), (.int .i64 0)])).bind fun o27 =>
 some ((.sl (V.elems (o27.2 0))), [])
theorem eq_slices_Concat_string (a0 : V) : P0 f_slices_Concat_string [.v a0] [] = F_slices_Concat_string a0 :=
  (pcL_eq (fn := p_slices_Concat_string) (by kernel_rfl) _ _).trans (by kernel_rfl)
noncomputable def L_slices_Concat_erratum_api_Tree_1 (n1 : Nat) (a0 : V) (v2 : Nat → V) : Option ((Nat → V) ⊕ (Nat × (Nat → V))) :=
(binV .lss (v2 1) (.int .i64 ((n1 : Nat) : Int))).bind fun x3 =>
(asBool x3).bind fun b4 =>
 if b4 = true then
(asSl 1 a0).bind fun l5 =>
(idxV (v2 1) (l5.length)).bind fun i6 =>
(l5[i6]?).bind fun e7 =>
(fldV e7 0).bind fun c8 =>
(lenV c8).bind fun n9 =>
(binV .add (v2 0) (.int .i64 ((n9 : Nat) : Int))).bind fun x10 =>
(binV .lss x10 (.int .i64 0)).bind fun x11 =>
(asBool x11).bind fun b12 =>
 if b12 = true then
 none
else
(binV .add (v2 1) (.int .i64 1)).bind fun x13 =>
 some (.inl (vec [x10, x13]))
else
 some (.inr (0, (vec [(v2 0)])))
noncomputable def L_slices_Concat_erratum_api_Tree_2 (n17 : Nat) (a0 : V) (v18 : Nat → V) : Option ((Nat → V) ⊕ (Nat × (Nat → V))) :=
(binV .lss (v18 1) (.int .i64 ((n17 : Nat) : Int))).bind fun x19 =>
(asBool x19).bind fun b20 =>
 if b20 = true then
(asSl 1 a0).bind fun l21 =>
(idxV (v18 1) (l21.length)).bind fun i22 =>
(l21[i22]?).bind fun e23 =>
(fldV e23 0).bind fun c24 =>
(asEl 8 c24).bind fun l25 =>
 tst (appOk 120 ((V.elems (v18 0)).length) (l25.length)) ((binV .add (v18 1) (.int .i64 1)).bind fun x26 =>
 some (.inl (vec [(.sl ((V.elems (v18 0)) ++ l25)), x26])))
else
 some (.inr (0, (vec [(.sl (V.elems (v18 0)))])))
noncomputable def F_slices_Concat_erratum_api_Tree (a0 : V) : Option (V × List V) :=
(lenV a0).bind fun n1 =>
(loopL (L_slices_Concat_erratum_api_Tree_1 n1 a0) (vec [(.int .i64 0), (.int .i64 0)])).bind fun o14 =>
(P0 f_slices_Grow_erratum_api_Tree [.g, .v (.sl []), .v (o14.2 0)] []).bind fun r15 =>
(slV r15.1).bind fun l16 =>
(lenV a0).bind fun n17 =>
(loopL (L_slices_Concat_erratum_api_Tree_2 n17 a0) (vec [(.sl l16), (.int .i64 0)])).bind fun o27 =>
 some ((.sl (V.elems (o27.2 0))), [])
theorem eq_slices_Concat_erratum_api_Tree (a0 : V) : P0 f_slices_Concat_erratum_api_Tree [.v a0] [] = F_slices_Concat_erratum_api_Tree a0 :=
  (pcL_eq (fn := p_slices_Concat_erratum_api_Tree) (by kernel_rfl) _ _).trans (by kernel_rfl)
noncomputable def F_tree_own (a0 : V) : Option (V × List V) :=
 tst (okN 8 a0) ((fldV a0 1).bind fun c1 =>
(unV .not c1).bind fun x2 =>
(fldV a0 2).bind fun c3 =>
(unV .not c3).bind fun x4 =>
(asBool x4).bind fun b5 =>
((if b5 = true then
(fldV a0 3).bind fun c6 =>
(lenV c6).bind fun n7 =>
 some (.bool ((((n7 : Nat) : Int) : Int) == 0))
else some (.bool false) : Option V)).bind fun x8 =>
(asBool x8).bind fun b9 =>
((if b9 = true then
(fldV a0 4).bind fun c10 =>
(binV .eql c10 (.int .i64 0)).bind fun x11 =>
 some x11
else some (.bool false) : Option V)).bind fun x12 =>
(fldV a0 5).bind fun c13 =>
(binV .eql c13 (.str [])).bind fun x14 =>
(fldV a0 6).bind fun c15 =>
(lenV c15).bind fun n16 =>
(fldV a0 7).bind fun c17 =>
(lenV c17).bind fun n18 =>
(((fldV a0 0).bind fun c19 =>
(((binV .eql c19 (.int .i64 1)).bind fun x20 =>
(asBool x20).bind fun b21 =>
 if b21 = true then
 some (0, (vec [x2, x12, x14, (.bool ((((n16 : Nat) : Int) : Int) == 0))]))
else
(binV .eql c19 (.int .i64 2)).bind fun x22 =>
(asBool x22).bind fun b23 =>
 if b23 = true then
 some (0, (vec [(.bool true), x12, x14, (.bool ((((n16 : Nat) : Int) : Int) == 0))]))
else
(binV .eql c19 (.int .i64 3)).bind fun x24 =>
(asBool x24).bind fun b25 =>
 if b25 = true then
(P0 f_num_Check [.v (subV a0 2 3)] []).bind fun r26 =>
 some (0, (vec [x2, r26.1, x14, (.bool ((((n16 : Nat) : Int) : Int) == 0))]))
else
(binV .eql c19 (.int .i64 4)).bind fun x27 =>
(asBool x27).bind fun b28 =>
 if b28 = true then
(fldV a0 5).bind fun c29 =>
(P0 f_tree_text [.v c29] []).bind fun r30 =>
 some (0, (vec [x2, x12, r30.1, (.bool ((((n16 : Nat) : Int) : Int) == 0))]))
else
(binV .eql c19 (.int .i64 5)).bind fun x31 =>
(asBool x31).bind fun b32 =>
 if b32 = true then
(fldV a0 5).bind fun c33 =>
(lnsV c33).bind fun n34 =>
 some (0, (vec [x2, x12, (.bool (decide ((((n34 : Nat) : Int) : Int) ≤ 2000))), (.bool ((((n16 : Nat) : Int) : Int) == 0))]))
else
(binV .eql c19 (.int .i64 7)).bind fun x35 =>
(asBool x35).bind fun b36 =>
 if b36 = true then
(fldV a0 6).bind fun c37 =>
(P0 f_tree_names [.v c37] []).bind fun r38 =>
(asBool r38.1).bind fun b39 =>
((if b39 = true then
(fldV a0 6).bind fun c40 =>
(lenV c40).bind fun n41 =>
(fldV a0 7).bind fun c42 =>
(lenV c42).bind fun n43 =>
 some (.bool ((((n41 : Nat) : Int) : Int) == ((n43 : Nat) : Int)))
else some (.bool false) : Option V)).bind fun x44 =>
 some (2, (vec [x2, x12, x14, x44]))
else
(binV .eql c19 (.int .i64 6)).bind fun x45 =>
(asBool x45).bind fun b46 =>
 if b46 = true then
 some (2, (vec [x2, x12, x14, (.bool ((((n16 : Nat) : Int) : Int) == 0))]))
else
 some (1, (vec [])) : Option (Nat × (Nat → V)))).bind fun o47 =>
 if o47.1 = 0 then
 some (0, (vec [(o47.2 0), (o47.2 1), (o47.2 2), (o47.2 3), (.bool ((((n18 : Nat) : Int) : Int) == 0))]))
else
 if (o47.1 - 1) = 0 then
 some (1, (vec [(.bool false)]))
else
(fldV a0 7).bind fun c48 =>
(lenV c48).bind fun n49 =>
 some (0, (vec [(o47.2 0), (o47.2 1), (o47.2 2), (o47.2 3), (.bool (decide ((((n49 : Nat) : Int) : Int) ≤ 300)))])) : Option (Nat × (Nat → V)))).bind fun o50 =>
 if o50.1 = 0 then
(asBool (o50.2 0)).bind fun b51 =>
((if b51 = true then
 some (o50.2 1)
else some (.bool false) : Option V)).bind fun x52 =>
(asBool x52).bind fun b53 =>
((if b53 = true then
 some (o50.2 2)
else some (.bool false) : Option V)).bind fun x54 =>
(asBool x54).bind fun b55 =>
((if b55 = true then
 some (o50.2 3)
else some (.bool false) : Option V)).bind fun x56 =>
(asBool x56).bind fun b57 =>
((if b57 = true then
 some (o50.2 4)
else some (.bool false) : Option V)).bind fun x58 =>
 some (x58, [])
else
 some ((o50.2 0), []))
theorem eq_tree_own (a0 : V) : P0 f_tree_own [.v a0] [] = F_tree_own a0 :=
  (pcL_eq (fn := p_tree_own) (by kernel_rfl) _ _).trans (by kernel_rfl)
noncomputable def F_num_of (a0 : V) : Option (V × List V) :=
 tst (okN 3 a0) ((P0 f_num_Check [.v a0] []).bind fun r1 =>
(unV .not r1.1).bind fun x2 =>
(asBool x2).bind fun b3 =>
 if b3 = true then
 some ((.agg [(.bool false), (.sl []), (.int .i64 0)]), [])
else
 tst (okN 3 a0) (some (a0, [])))
theorem eq_num_of (a0 : V) : P0 f_num_of [.v a0] [] = F_num_of a0 :=
  (pcL_eq (fn := p_num_of) (by kernel_rfl) _ _).trans (by kernel_rfl)
noncomputable def L_slices_Equal_uint32_1 (n3 : Nat) (a0 : V) (a1 : V) (v4 : Nat → V) : Option ((Nat → V) ⊕ (Nat × (Nat → V))) :=
(binV .lss (v4 0) (.int .i64 ((n3 : Nat) : Int))).bind fun x5 =>
(asBool x5).bind fun b6 =>
 if b6 = true then
(asSl 1 a0).bind fun l7 =>
(idxV (v4 0) (l7.length)).bind fun i9 =>
(l7[i9]?).bind fun e10 =>
(fldV e10 0).bind fun c11 =>
(asSl 1 a1).bind fun l12 =>
(idxV (v4 0) (l12.length)).bind fun i13 =>
(l12[i13]?).bind fun e14 =>
(fldV e14 0).bind fun c15 =>
(binV .neq c11 c15).bind fun x16 =>
(asBool x16).bind fun b17 =>
 if b17 = true then
 some (.inr (1, (vec [(.bool false)])))
else
(binV .add (v4 0) (.int .i64 1)).bind fun x18 =>
 some (.inl (vec [x18]))
else
 some (.inr (0, (vec [])))
noncomputable def F_slices_Equal_uint32 (a0 : V) (a1 : V) : Option (V × List V) :=
(lenV a0).bind fun n1 =>
(lenV a1).bind fun n2 =>
 if ((((n1 : Nat) : Int) : Int) != ((n2 : Nat) : Int)) = true then
 some ((.bool false), [])
else
(lenV a0).bind fun n3 =>
(loopL (L_slices_Equal_uint32_1 n3 a0 a1) (vec [(.int .i64 0)])).bind fun o19 =>
 if o19.1 = 0 then
 some ((.bool true), [])
else
 some ((o19.2 0), [])
theorem eq_slices_Equal_uint32 (a0 : V) (a1 : V) : P0 f_slices_Equal_uint32 [.v a0, .v a1] [] = F_slices_Equal_uint32 a0 a1 :=
  (pcL_eq (fn := p_slices_Equal_uint32) (by kernel_rfl) _ _).trans (by kernel_rfl)
noncomputable def F_num_Check (a0 : V) : Option (V × List V) :=
 tst (okN 3 a0) ((fldV a0 1).bind fun c1 =>
(lenV c1).bind fun n2 =>
 if ((((n2 : Nat) : Int) : Int) == 0) = true then
(fldV a0 0).bind fun c3 =>
(unV .not c3).bind fun x4 =>
(asBool x4).bind fun b5 =>
((if b5 = true then
(fldV a0 2).bind fun c6 =>
(binV .eql c6 (.int .i64 0)).bind fun x7 =>
 some x7
else some (.bool false) : Option V)).bind fun x8 =>
 some (x8, [])
else
((if (decide ((((n2 : Nat) : Int) : Int) > 90)) = false then
(fldV a0 1).bind fun c9 =>
(asSl 1 c9).bind fun l10 =>
(idxV (.int .i64 (IntKind.wrap .i64 (((n2 : Nat) : Int) - 1))) (l10.length)).bind fun i11 =>
(l10[i11]?).bind fun e12 =>
(fldV e12 0).bind fun c13 =>
(binV .eql c13 (.int .u32 0)).bind fun x14 =>
 some x14
else some (.bool true) : Option V)).bind fun x15 =>
(asBool x15).bind fun b16 =>
((if b16 = false then
(fldV a0 2).bind fun c17 =>
(binV .lss c17 (.int .i64 (-1200))).bind fun x18 =>
 some x18
else some (.bool true) : Option V)).bind fun x19 =>
(asBool x19).bind fun b20 =>
((if b20 = false then
(fldV a0 2).bind fun c21 =>
(binV .gtr c21 (.int .i64 1200)).bind fun x22 =>
 some x22
else some (.bool true) : Option V)).bind fun x23 =>
(asBool x23).bind fun b24 =>
 if b24 = true then
 some ((.bool false), [])
else
(fldV a0 1).bind fun c25 =>
(P0 f_nat_Trim [.v c25] []).bind fun r26 =>
(extV r26.1 0).bind fun x27 =>
(extV r26.1 1).bind fun x28 =>
(binV .eql x28 (.int .i64 0)).bind fun x29 =>
 some (x29, []))
theorem eq_num_Check (a0 : V) : P0 f_num_Check [.v a0] [] = F_num_Check a0 :=
  (pcL_eq (fn := p_num_Check) (by kernel_rfl) _ _).trans (by kernel_rfl)
noncomputable def F_tree_text (a0 : V) : Option (V × List V) :=
(lnsV a0).bind fun n1 =>
((if (decide ((((n1 : Nat) : Int) : Int) ≤ 2000)) = true then
(P0 f_utf_Valid [.v a0] []).bind fun r2 =>
 some r2.1
else some (.bool false) : Option V)).bind fun x3 =>
 some (x3, [])
theorem eq_tree_text (a0 : V) : P0 f_tree_text [.v a0] [] = F_tree_text a0 :=
  (pcL_eq (fn := p_tree_text) (by kernel_rfl) _ _).trans (by kernel_rfl)
noncomputable def L_tree_names_1 (n1 : Nat) (a0 : V) (v2 : Nat → V) : Option ((Nat → V) ⊕ (Nat × (Nat → V))) :=
(binV .lss (v2 0) (.int .i64 ((n1 : Nat) : Int))).bind fun x3 =>
(asBool x3).bind fun b4 =>
 if b4 = true then
(asSl 1 a0).bind fun l5 =>
(idxV (v2 0) (l5.length)).bind fun i6 =>
(l5[i6]?).bind fun e7 =>
(fldV e7 0).bind fun c8 =>
(P0 f_tree_text [.v c8] []).bind fun r9 =>
(unV .not r9.1).bind fun x10 =>
(asBool x10).bind fun b11 =>
((if b11 = false then
(binV .gtr (v2 0) (.int .i64 0)).bind fun x12 =>
(asBool x12).bind fun b13 =>
((if b13 = true then
(binV .sub (v2 0) (.int .i64 1)).bind fun x14 =>
(asSl 1 a0).bind fun l15 =>
(idxV x14 (l15.length)).bind fun i17 =>
(l15[i17]?).bind fun e18 =>
(fldV e18 0).bind fun c19 =>
(binV .geq c19 c8).bind fun x20 =>
 some x20
else some (.bool false) : Option V)).bind fun x21 =>
 some x21
else some (.bool true) : Option V)).bind fun x22 =>
(asBool x22).bind fun b23 =>
 if b23 = true then
 some (.inr (1, (vec [(.bool false)])))
else
(binV .add (v2 0) (.int .i64 1)).bind fun x24 =>
 some (.inl (vec [x24]))
else
 some (.inr (0, (vec [])))
noncomputable def F_tree_names (a0 : V) : Option (V × List V) :=
(lenV a0).bind fun n1 =>
(loopL (L_tree_names_1 n1 a0) (vec [(.int .i64 0)])).bind fun o25 =>
 if o25.1 = 0 then
(lenV a0).bind fun n26 =>
 some ((.bool (decide ((((n26 : Nat) : Int) : Int) ≤ 300))), [])
else
 some ((o25.2 0), [])
theorem eq_tree_names (a0 : V) : P0 f_tree_names [.v a0] [] = F_tree_names a0 :=
  (pcL_eq (fn := p_tree_names) (by kernel_rfl) _ _).trans (by kernel_rfl)
noncomputable def L_nat_Trim_1 (v2 : Nat → V) : Option ((Nat → V) ⊕ (Nat × (Nat → V))) :=
(lenV (v2 0)).bind fun n3 =>
 if (decide ((((n3 : Nat) : Int) : Int) > 0)) = true then
(P0 f_nat_small [.v (v2 0), .v (.int .u32 10)] []).bind fun r4 =>
(extV r4.1 0).bind fun x5 =>
(extV r4.1 1).bind fun x6 =>
(binV .neq x6 (.int .u32 0)).bind fun x7 =>
(asBool x7).bind fun b8 =>
 if b8 = true then
 some (.inr (0, (vec [(v2 0), (v2 1)])))
else
(binV .add (v2 1) (.int .i64 1)).bind fun x9 =>
 some (.inl (vec [x5, x9]))
else
 some (.inr (0, (vec [(v2 0), (v2 1)])))
noncomputable def F_nat_Trim (a0 : V) : Option (V × List V) :=
(P0 f_nat_Norm [.v a0] []).bind fun r1 =>
(loopL (L_nat_Trim_1) (vec [r1.1, (.int .i64 0)])).bind fun o10 =>
 some ((.tup [(o10.2 0), (o10.2 1)]), [])
theorem eq_nat_Trim (a0 : V) : P0 f_nat_Trim [.v a0] [] = F_nat_Trim a0 :=
  (pcL_eq (fn := p_nat_Trim) (by kernel_rfl) _ _).trans (by kernel_rfl)
noncomputable def L_utf_Valid_1 (a0 : V) (v2 : Nat → V) : Option ((Nat → V) ⊕ (Nat × (Nat → V))) :=
 if (natV (v2 1)) < List.length (α := UInt8) (txtV (v2 0)) then
 if (((Utf8.decode ⟨((txtV (v2 0))).toArray⟩ (natV (v2 1))).1 : Int) != 65533) = true then
 some (.inl (vec [(.str (txtV (v2 0))), (.int .i64 ((((natV (v2 1)) + (Utf8.decode ⟨((txtV (v2 0))).toArray⟩ (natV (v2 1))).2) : Nat) : Int))]))
else
(slsV a0 (some (.int .i64 (((natV (v2 1)) : Nat) : Int))) none).bind fun x3 =>
(P0 f_unicode_utf8_DecodeRuneInString [.v x3] []).bind fun r4 =>
(extV r4.1 0).bind fun x5 =>
(extV r4.1 1).bind fun x6 =>
(binV .eql x6 (.int .i64 1)).bind fun x7 =>
(asBool x7).bind fun b8 =>
 if b8 = true then
 some (.inr (1, (vec [(.bool false)])))
else
 some (.inl (vec [(.str (txtV (v2 0))), (.int .i64 ((((natV (v2 1)) + (Utf8.decode ⟨((txtV (v2 0))).toArray⟩ (natV (v2 1))).2) : Nat) : Int))]))
else
 some (.inr (0, (vec [])))
noncomputable def F_utf_Valid (a0 : V) : Option (V × List V) :=
(asStr a0).bind fun s1 =>
(loopL (L_utf_Valid_1 a0) (vec [(.str s1), (.int .i64 ((0 : Nat) : Int))])).bind fun o9 =>
 if o9.1 = 0 then
 some ((.bool true), [])
else
 some ((o9.2 0), [])
theorem eq_utf_Valid (a0 : V) : P0 f_utf_Valid [.v a0] [] = F_utf_Valid a0 :=
  (pcL_eq (fn := p_utf_Valid) (by kernel_rfl) _ _).trans (by kernel_rfl)
noncomputable def L_nat_Norm_1 (a0 : V) (v2 : Nat → V) : Option ((Nat → V) ⊕ (Nat × (Nat → V))) :=
(binV .gtr (v2 0) (.int .i64 0)).bind fun x3 =>
(asBool x3).bind fun b4 =>
((if b4 = true then
(binV .sub (v2 0) (.int .i64 1)).bind fun x5 =>
(asSl 1 a0).bind fun l6 =>
(idxV x5 (l6.length)).bind fun i7 =>
(l6[i7]?).bind fun e8 =>
(fldV e8 0).bind fun c9 =>
(binV .eql c9 (.int .u32 0)).bind fun x10 =>
 some x10
else some (.bool false) : Option V)).bind fun x11 =>
(asBool x11).bind fun b12 =>
 if b12 = true then
(binV .sub (v2 0) (.int .i64 1)).bind fun x13 =>
 some (.inl (vec [x13]))
else
 some (.inr (0, (vec [(v2 0)])))
noncomputable def F_nat_Norm (a0 : V) : Option (V × List V) :=
(lenV a0).bind fun n1 =>
(loopL (L_nat_Norm_1 a0) (vec [(.int .i64 ((n1 : Nat) : Int))])).bind fun o14 =>
(binV .eql (o14.2 0) (.int .i64 0)).bind fun x15 =>
(asBool x15).bind fun b16 =>
 if b16 = true then
 some ((.sl []), [])
else
(mksV 4 (o14.2 0) (o14.2 0)).bind fun q17 =>
(asEl 1 a0).bind fun l18 =>
 some ((.sl (((setL (List.replicate q17.2 (.int .u32 0)) 0 (l18.take (Nat.min (l18.length) q17.1))).drop 0).take q17.1)), [])
theorem eq_nat_Norm (a0 : V) : P0 f_nat_Norm [.v a0] [] = F_nat_Norm a0 :=
  (pcL_eq (fn := p_nat_Norm) (by kernel_rfl) _ _).trans (by kernel_rfl)
noncomputable def L_nat_small_1 (a0 : V) (a1 : V) (q2 : Nat × Nat) (v4 : Nat → V) : Option ((Nat → V) ⊕ (Nat × (Nat → V))) :=
(binV .geq (v4 1) (.int .i64 0)).bind fun x5 =>
(asBool x5).bind fun b6 =>
 if b6 = true then
(binV .shl (v4 0) (.int .u64 32)).bind fun x7 =>
(asSl 1 a0).bind fun l8 =>
(idxV (v4 1) (l8.length)).bind fun i9 =>
(l8[i9]?).bind fun e10 =>
(fldV e10 0).bind fun c11 =>
(cviV .u64 c11).bind fun x12 =>
(binV .or x7 x12).bind fun x13 =>
(cviV .u64 a1).bind fun x14 =>
(binV .quo x13 x14).bind fun x15 =>
(cviV .u32 x15).bind fun x16 =>
(idxV (v4 1) q2.1).bind fun i17 =>
 tst (okN 1 x16) ((fldV x16 0).bind fun c18 =>
(cviV .u64 a1).bind fun x19 =>
(binV .rem x13 x19).bind fun x20 =>
(binV .sub (v4 1) (.int .i64 1)).bind fun x21 =>
 some (.inl (vec [x20, x21, (.sl ((V.elems (v4 2)).set (0 + i17) c18))])))
else
 some (.inr (0, (vec [(v4 0), (.sl (V.elems (v4 2)))])))
noncomputable def F_nat_small (a0 : V) (a1 : V) : Option (V × List V) :=
(lenV a0).bind fun n1 =>
(mksV 4 (.int .i64 ((n1 : Nat) : Int)) (.int .i64 ((n1 : Nat) : Int))).bind fun q2 =>
(lenV a0).bind fun n3 =>
(loopL (L_nat_small_1 a0 a1 q2) (vec [(.int .u64 0), (.int .i64 (IntKind.wrap .i64 (((n3 : Nat) : Int) - 1))), (.sl (List.replicate q2.2 (.int .u32 0)))])).bind fun o22 =>
(P0 f_nat_Norm [.v (.sl (((V.elems (o22.2 1)).drop 0).take q2.1))] []).bind fun r23 =>
(cviV .u32 (o22.2 0)).bind fun x24 =>
 some ((.tup [r23.1, x24]), [])
theorem eq_nat_small (a0 : V) (a1 : V) : P0 f_nat_small [.v a0, .v a1] [] = F_nat_small a0 a1 :=
  (pcL_eq (fn := p_nat_small) (by kernel_rfl) _ _).trans (by kernel_rfl)
noncomputable def F_unicode_utf8_DecodeRuneInString (a0 : V) : Option (V × List V) :=
(binV .neq a0 (.str [])).bind fun x1 =>
(asBool x1).bind fun b2 =>
((if b2 = true then
(ixsV a0 (.int .i64 0)).bind fun x3 =>
(binV .lss x3 (.int .u8 128)).bind fun x4 =>
 some x4
else some (.bool false) : Option V)).bind fun x5 =>
(asBool x5).bind fun b6 =>
 if b6 = true then
(ixsV a0 (.int .i64 0)).bind fun x7 =>
(cviV .i32 x7).bind fun x8 =>
 some ((.tup [x8, (.int .i64 1)]), [])
else
(P0 f_unicode_utf8_decodeRuneInStringSlow [.v a0] []).bind fun r9 =>
(extV r9.1 0).bind fun x10 =>
(extV r9.1 1).bind fun x11 =>
 some ((.tup [x10, x11]), [])
theorem eq_unicode_utf8_DecodeRuneInString (a0 : V) : P0 f_unicode_utf8_DecodeRuneInString [.v a0] [] = F_unicode_utf8_DecodeRuneInString a0 :=
  (pcL_eq (fn := p_unicode_utf8_DecodeRuneInString) (by kernel_rfl) _ _).trans (by kernel_rfl)
noncomputable def F_unicode_utf8_decodeRuneInStringSlow (a0 : V) : Option (V × List V) :=
(lnsV a0).bind fun n1 =>
 if (decide ((((n1 : Nat) : Int) : Int) < 1)) = true then
 some ((.tup [(.int .i32 65533), (.int .i64 0)]), [])
else
(ixsV a0 (.int .i64 0)).bind fun x2 =>
(idxV x2 256).bind fun i3 =>
((G_0.drop (i3 * 1))[0]?).bind fun c4 =>
(binV .geq c4 (.int .u8 240)).bind fun x5 =>
(asBool x5).bind fun b6 =>
 if b6 = true then
(cviV .i32 c4).bind fun x7 =>
(binV .shl x7 (.int .u64 31)).bind fun x8 =>
(binV .shr x8 (.int .u64 31)).bind fun x9 =>
(ixsV a0 (.int .i64 0)).bind fun x10 =>
(cviV .i32 x10).bind fun x11 =>
(binV .andNot x11 x9).bind fun x12 =>
(binV .and (.int .i32 65533) x9).bind fun x13 =>
(binV .or x12 x13).bind fun x14 =>
 some ((.tup [x14, (.int .i64 1)]), [])
else
(binV .and c4 (.int .u8 7)).bind fun x15 =>
(cviV .i64 x15).bind fun x16 =>
(binV .shr c4 (.int .u64 4)).bind fun x17 =>
(idxV x17 16).bind fun i18 =>
 tst (Nat.ble 2 (G_1.drop (i18 * 2)).length) (tst (okN 2 (.agg ((G_1.drop (i18 * 2)).take 2))) ((binV .lss (.int .i64 ((n1 : Nat) : Int)) x16).bind fun x19 =>
(asBool x19).bind fun b20 =>
 if b20 = true then
 some ((.tup [(.int .i32 65533), (.int .i64 1)]), [])
else
(ixsV a0 (.int .i64 1)).bind fun x21 =>
(fldV (.agg ((G_1.drop (i18 * 2)).take 2)) 0).bind fun c22 =>
(binV .lss x21 c22).bind fun x23 =>
(asBool x23).bind fun b24 =>
((if b24 = false then
(fldV (.agg ((G_1.drop (i18 * 2)).take 2)) 1).bind fun c25 =>
(binV .lss c25 x21).bind fun x26 =>
 some x26
else some (.bool true) : Option V)).bind fun x27 =>
(asBool x27).bind fun b28 =>
 if b28 = true then
 some ((.tup [(.int .i32 65533), (.int .i64 1)]), [])
else
(binV .leq x16 (.int .i64 2)).bind fun x29 =>
(asBool x29).bind fun b30 =>
 if b30 = true then
(binV .and x2 (.int .u8 31)).bind fun x31 =>
(cviV .i32 x31).bind fun x32 =>
(binV .shl x32 (.int .u64 6)).bind fun x33 =>
(binV .and x21 (.int .u8 63)).bind fun x34 =>
(cviV .i32 x34).bind fun x35 =>
(binV .or x33 x35).bind fun x36 =>
 some ((.tup [x36, (.int .i64 2)]), [])
else
(ixsV a0 (.int .i64 2)).bind fun x37 =>
(binV .lss x37 (.int .u8 128)).bind fun x38 =>
(asBool x38).bind fun b39 =>
((if b39 = false then
(binV .lss (.int .u8 191) x37).bind fun x40 =>
 some x40
else some (.bool true) : Option V)).bind fun x41 =>
(asBool x41).bind fun b42 =>
 if b42 = true then
 some ((.tup [(.int .i32 65533), (.int .i64 1)]), [])
else
(binV .leq x16 (.int .i64 3)).bind fun x43 =>
(asBool x43).bind fun b44 =>
 if b44 = true then
(binV .and x2 (.int .u8 15)).bind fun x45 =>
(cviV .i32 x45).bind fun x46 =>
(binV .shl x46 (.int .u64 12)).bind fun x47 =>
(binV .and x21 (.int .u8 63)).bind fun x48 =>
(cviV .i32 x48).bind fun x49 =>
(binV .shl x49 (.int .u64 6)).bind fun x50 =>
(binV .or x47 x50).bind fun x51 =>
(binV .and x37 (.int .u8 63)).bind fun x52 =>
(cviV .i32 x52).bind fun x53 =>
(binV .or x51 x53).bind fun x54 =>
 some ((.tup [x54, (.int .i64 3)]), [])
else
(ixsV a0 (.int .i64 3)).bind fun x55 =>
(binV .lss x55 (.int .u8 128)).bind fun x56 =>
(asBool x56).bind fun b57 =>
((if b57 = false then
(binV .lss (.int .u8 191) x55).bind fun x58 =>
 some x58
else some (.bool true) : Option V)).bind fun x59 =>
(asBool x59).bind fun b60 =>
 if b60 = true then
 some ((.tup [(.int .i32 65533), (.int .i64 1)]), [])
else
(binV .and x2 (.int .u8 7)).bind fun x61 =>
(cviV .i32 x61).bind fun x62 =>
(binV .shl x62 (.int .u64 18)).bind fun x63 =>
(binV .and x21 (.int .u8 63)).bind fun x64 =>
(cviV .i32 x64).bind fun x65 =>
(binV .shl x65 (.int .u64 12)).bind fun x66 =>
(binV .or x63 x66).bind fun x67 =>
(binV .and x37 (.int .u8 63)).bind fun x68 =>
(cviV .i32 x68).bind fun x69 =>
(binV .shl x69 (.int .u64 6)).bind fun x70 =>
(binV .or x67 x70).bind fun x71 =>
(binV .and x55 (.int .u8 63)).bind fun x72 =>
(cviV .i32 x72).bind fun x73 =>
(binV .or x71 x73).bind fun x74 =>
 some ((.tup [x74, (.int .i64 4)]), [])))
theorem eq_unicode_utf8_decodeRuneInStringSlow (a0 : V) : P0 f_unicode_utf8_decodeRuneInStringSlow [.v a0] [] = F_unicode_utf8_decodeRuneInStringSlow a0 :=
  (pcL_eq (fn := p_unicode_utf8_decodeRuneInStringSlow) (by kernel_rfl) _ _).trans (by kernel_rfl)
theorem tell_slices_Insert_string (as : List PA) : P0 f_slices_Insert_string as [] = tellK (txInsert 1 16) (.ful) as [] := pcL_tell (gl := gl0) (tab := tab0) (f := f_slices_Insert_string) rfl rfl as []
theorem tell_slices_Insert_erratum_api_Tree (as : List PA) : P0 f_slices_Insert_erratum_api_Tree as [] = tellK (txInsert 8 120) (.ful) as [] := pcL_tell (gl := gl0) (tab := tab0) (f := f_slices_Insert_erratum_api_Tree) rfl rfl as []
theorem tell_slices_Grow_string (as : List PA) : P0 f_slices_Grow_string as [] = tellK (txGrow 16) (.gvf 1) as [] := pcL_tell (gl := gl0) (tab := tab0) (f := f_slices_Grow_string) rfl rfl as []
theorem tell_slices_Grow_erratum_api_Tree (as : List PA) : P0 f_slices_Grow_erratum_api_Tree as [] = tellK (txGrow 120) (.gvf 8) as [] := pcL_tell (gl := gl0) (tab := tab0) (f := f_slices_Grow_erratum_api_Tree) rfl rfl as []
end Go.Ev
