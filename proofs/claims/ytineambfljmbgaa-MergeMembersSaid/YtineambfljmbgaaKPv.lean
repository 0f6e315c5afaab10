/- What the functions compute. -/
import Derived.Test.YtineambfljmbgaaKCode
import Derived.KernelRfl
set_option linter.all false
namespace Go.Ev
noncomputable def F_law16_MergeMembers (a0 : V) (a1 : V) (a2 : V) : Option (V × List V) :=
(lenV a0).bind fun n1 =>
((if (decide ((((n1 : Nat) : Int) : Int) > 60)) = false then
(lenV a1).bind fun n2 =>
 some (.bool (decide ((((n2 : Nat) : Int) : Int) > 60)))
else some (.bool true) : Option V)).bind fun x3 =>
(asBool x3).bind fun b4 =>
 if b4 = true then
(P0 f_law16_awake [] []).bind fun r5 =>
 some (r5.1, [])
else
(asEl 1 a0).bind fun l6 =>
 tst (szOk 1 [(.int .i64 45)]) (tst (appOk 8 (List.length (α := V) [(.int .i64 45)]) (l6.length)) ((P0 f_law00_Made [.v (.sl (([(.int .i64 45)] : List V) ++ l6)), .v (.int .i64 3)] []).bind fun r7 =>
(asEl 1 a1).bind fun l8 =>
 tst (szOk 1 [(.int .i64 45)]) (tst (appOk 8 (List.length (α := V) [(.int .i64 45)]) (l8.length)) ((P0 f_law00_Made [.v (.sl (([(.int .i64 45)] : List V) ++ l8)), .v (.int .i64 3)] []).bind fun r9 =>
 tst (okN 8 r7.1) (tst (okN 8 r9.1) ((fldV r7.1 0).bind fun c10 =>
(binV .neq c10 (.int .i64 7)).bind fun x11 =>
(asBool x11).bind fun b12 =>
((if b12 = false then
(fldV r9.1 0).bind fun c13 =>
(binV .neq c13 (.int .i64 7)).bind fun x14 =>
 some x14
else some (.bool true) : Option V)).bind fun x15 =>
(asBool x15).bind fun b16 =>
 if b16 = true then
 some ((.bool false), [])
else
(P0 f_merge_Merge [.v r7.1, .v r9.1] []).bind fun r17 =>
 tst (okN 8 r17.1) ((P0 f_law00_Names [.g] []).bind fun r18 =>
(slV r18.1).bind fun l19 =>
 tst (szOk 1 [(.str [110, 111, 110, 101])]) (tst (appOk 16 (l19.length) (List.length (α := V) [(.str [110, 111, 110, 101])])) ((P0 f_law00_Place [.v a2, .v (.int .i64 ((((l19 ++ ([(.str [110, 111, 110, 101])] : List V)).length) : Nat) : Int))] []).bind fun r20 =>
 tst (szOk 1 (l19 ++ ([(.str [110, 111, 110, 101])] : List V))) ((idxV r20.1 ((l19 ++ ([(.str [110, 111, 110, 101])] : List V)).length)).bind fun i21 =>
((l19 ++ ([(.str [110, 111, 110, 101])] : List V))[i21]?).bind fun e22 =>
(fldV e22 0).bind fun c23 =>
(P0 f_ref05_Member [.v r7.1, .v c23] []).bind fun r24 =>
(extV r24.1 0).bind fun x25 =>
(extV r24.1 1).bind fun x26 =>
 tst (okN 8 x25) ((P0 f_ref05_Member [.v r9.1, .v c23] []).bind fun r27 =>
(extV r27.1 0).bind fun x28 =>
(extV r27.1 1).bind fun x29 =>
 tst (okN 8 x28) ((P0 f_ref05_Member [.v r17.1, .v c23] []).bind fun r30 =>
(extV r30.1 0).bind fun x31 =>
(extV r30.1 1).bind fun x32 =>
 tst (okN 8 x31) ((unV .not x29).bind fun x33 =>
(asBool x33).bind fun b34 =>
 if b34 = true then
(asBool x32).bind fun b35 =>
(asBool x26).bind fun b36 =>
((if (b35 == b36) = true then
(P0 f_ref05_Same [.v x31, .v x25] []).bind fun r37 =>
 some r37.1
else some (.bool false) : Option V)).bind fun x38 =>
(asBool x38).bind fun b39 =>
((if b39 = true then
(P0 f_law16_awake [] []).bind fun r40 =>
 some r40.1
else some (.bool false) : Option V)).bind fun x41 =>
 some (x41, [])
else
(fldV x28 0).bind fun c42 =>
(binV .eql c42 (.int .i64 1)).bind fun x43 =>
(asBool x43).bind fun b44 =>
 if b44 = true then
(unV .not x32).bind fun x45 =>
(asBool x45).bind fun b46 =>
((if b46 = true then
(P0 f_law16_awake [] []).bind fun r47 =>
 some r47.1
else some (.bool false) : Option V)).bind fun x48 =>
 some (x48, [])
else
(fldV x28 0).bind fun c49 =>
(binV .neq c49 (.int .i64 7)).bind fun x50 =>
(asBool x50).bind fun b51 =>
 if b51 = true then
(asBool x32).bind fun b52 =>
((if b52 = true then
(P0 f_ref05_Same [.v x31, .v x28] []).bind fun r53 =>
 some r53.1
else some (.bool false) : Option V)).bind fun x54 =>
(asBool x54).bind fun b55 =>
((if b55 = true then
(P0 f_law16_awake [] []).bind fun r56 =>
 some r56.1
else some (.bool false) : Option V)).bind fun x57 =>
 some (x57, [])
else
(asBool x26).bind fun b58 =>
((if b58 = true then
(fldV x25 0).bind fun c59 =>
(binV .eql c59 (.int .i64 7)).bind fun x60 =>
 some x60
else some (.bool false) : Option V)).bind fun x61 =>
(asBool x61).bind fun b62 =>
 if b62 = true then
(asBool x32).bind fun b63 =>
((if b63 = true then
(P0 f_merge_Merge [.v x25, .v x28] []).bind fun r64 =>
(P0 f_ref05_Same [.v x31, .v r64.1] []).bind fun r65 =>
 some r65.1
else some (.bool false) : Option V)).bind fun x66 =>
(asBool x66).bind fun b67 =>
((if b67 = true then
(P0 f_law16_awake [] []).bind fun r68 =>
 some r68.1
else some (.bool false) : Option V)).bind fun x69 =>
 some (x69, [])
else
(asBool x32).bind fun b70 =>
((if b70 = true then
(fldV x31 0).bind fun c71 =>
(binV .eql c71 (.int .i64 7)).bind fun x72 =>
 some x72
else some (.bool false) : Option V)).bind fun x73 =>
(asBool x73).bind fun b74 =>
((if b74 = true then
(P0 f_merge_Merge [.v (.agg [(.int .i64 1), (.bool false), (.bool false), (.sl []), (.int .i64 0), (.str []), (.sl []), (.sl [])]), .v x28] []).bind fun r75 =>
(P0 f_ref05_Same [.v x31, .v r75.1] []).bind fun r76 =>
 some r76.1
else some (.bool false) : Option V)).bind fun x77 =>
(asBool x77).bind fun b78 =>
((if b78 = true then
(P0 f_law16_awake [] []).bind fun r79 =>
 some r79.1
else some (.bool false) : Option V)).bind fun x80 =>
 some (x80, []))))))))))))))
theorem eq_law16_MergeMembers (a0 : V) (a1 : V) (a2 : V) : P0 f_law16_MergeMembers [.v a0, .v a1, .v a2] [] = F_law16_MergeMembers a0 a1 a2 :=
  (pcL_eq (fn := p_law16_MergeMembers) (by kernel_rfl) _ _).trans (by kernel_rfl)
noncomputable def F_law16_awake : Option (V × List V) :=
(P0 f_merge_Merge [.v (.agg [(.int .i64 7), (.bool false), (.bool false), (.sl []), (.int .i64 0), (.str []), (.sl [(.str [97]), (.str [98])]), (.sl [(.agg [(.int .i64 2), (.bool false), (.bool false), (.sl []), (.int .i64 0), (.str []), (.sl []), (.sl [])]), (.agg [(.int .i64 2), (.bool false), (.bool false), (.sl []), (.int .i64 0), (.str []), (.sl []), (.sl [])])])]), .v (.agg [(.int .i64 7), (.bool false), (.bool false), (.sl []), (.int .i64 0), (.str []), (.sl [(.str [97]), (.str [99])]), (.sl [(.agg [(.int .i64 1), (.bool false), (.bool false), (.sl []), (.int .i64 0), (.str []), (.sl []), (.sl [])]), (.agg [(.int .i64 2), (.bool true), (.bool false), (.sl []), (.int .i64 0), (.str []), (.sl []), (.sl [])])])])] []).bind fun r1 =>
 tst (okN 8 r1.1) ((fldV r1.1 6).bind fun c2 =>
(lenV c2).bind fun n3 =>
((if ((((n3 : Nat) : Int) : Int) == 2) = true then
(fldV r1.1 7).bind fun c4 =>
(lenV c4).bind fun n5 =>
 some (.bool ((((n5 : Nat) : Int) : Int) == 2))
else some (.bool false) : Option V)).bind fun x6 =>
(asBool x6).bind fun b7 =>
((if b7 = true then
(fldV r1.1 6).bind fun c8 =>
(asSl 1 c8).bind fun l9 =>
(idxV (.int .i64 0) (l9.length)).bind fun i10 =>
(l9[i10]?).bind fun e11 =>
(fldV e11 0).bind fun c12 =>
(binV .eql c12 (.str [98])).bind fun x13 =>
 some x13
else some (.bool false) : Option V)).bind fun x14 =>
(asBool x14).bind fun b15 =>
((if b15 = true then
(fldV r1.1 6).bind fun c16 =>
(asSl 1 c16).bind fun l17 =>
(idxV (.int .i64 1) (l17.length)).bind fun i18 =>
(l17[i18]?).bind fun e19 =>
(fldV e19 0).bind fun c20 =>
(binV .eql c20 (.str [99])).bind fun x21 =>
 some x21
else some (.bool false) : Option V)).bind fun x22 =>
(asBool x22).bind fun b23 =>
((if b23 = true then
(fldV r1.1 7).bind fun c24 =>
(asSl 8 c24).bind fun l25 =>
(idxV (.int .i64 1) (l25.length)).bind fun i26 =>
(l25[i26]?).bind fun e27 =>
(fldV e27 1).bind fun c28 =>
 some c28
else some (.bool false) : Option V)).bind fun x29 =>
(asBool x29).bind fun b30 =>
((if b30 = true then
(P0 f_merge_Clean [.v r1.1] []).bind fun r31 =>
 some r31.1
else some (.bool false) : Option V)).bind fun x32 =>
 some (x32, []))
theorem eq_law16_awake : P0 f_law16_awake [] [] = F_law16_awake :=
  (pcL_eq (fn := p_law16_awake) (by kernel_rfl) _ _).trans (by kernel_rfl)
noncomputable def F_law00_Made (a0 : V) (a1 : V) : Option (V × List V) :=
(P0 f_law00_made [.v a0, .v a1] []).bind fun r1 =>
(extV r1.1 0).bind fun x2 =>
(extV r1.1 1).bind fun x3 =>
 tst (okN 8 x2) (tst (okN 8 x2) (some (x2, [])))
theorem eq_law00_Made (a0 : V) (a1 : V) : P0 f_law00_Made [.v a0, .v a1] [] = F_law00_Made a0 a1 :=
  (pcL_eq (fn := p_law00_Made) (by kernel_rfl) _ _).trans (by kernel_rfl)
noncomputable def L_merge_Merge_1 (l22 : List V) (q23 : Nat × Nat) (a1 : V) (v24 : Nat → V) : Option ((Nat → V) ⊕ (Nat × (Nat → V))) :=
(binV .lss (v24 0) (.int .i64 (((((l22.drop q23.1).take (q23.2 - q23.1)).length) : Nat) : Int))).bind fun x25 =>
(asBool x25).bind fun b26 =>
 if b26 = true then
(asSl 1 (.sl ((l22.drop q23.1).take (q23.2 - q23.1)))).bind fun l27 =>
(idxV (v24 0) (l27.length)).bind fun i28 =>
(l27[i28]?).bind fun e29 =>
(fldV e29 0).bind fun c30 =>
(fldV a1 7).bind fun c31 =>
(asSl 8 c31).bind fun l32 =>
(idxV (v24 0) (l32.length)).bind fun i33 =>
(l32[i33]?).bind fun e34 =>
(fldV e34 0).bind fun c35 =>
(binV .eql c35 (.int .i64 1)).bind fun x36 =>
(asBool x36).bind fun b37 =>
 if b37 = true then
(P0 f_tree_Unset [.v (v24 1), .v c30] []).bind fun r38 =>
 tst (okN 8 r38.1) ((binV .add (v24 0) (.int .i64 1)).bind fun x39 =>
 some (.inl (vec [x39, r38.1])))
else
(P0 f_tree_Member [.v (v24 1), .v c30] []).bind fun r40 =>
(extV r40.1 0).bind fun x41 =>
(extV r40.1 1).bind fun x42 =>
 tst (okN 8 x41) ((((unV .not x42).bind fun x43 =>
(asBool x43).bind fun b44 =>
 if b44 = true then
 some (0, (vec [(.int .i64 1), (.bool false), (.bool false), (.sl []), (.int .i64 0), (.str []), (.sl []), (.sl [])]))
else
(fldV x41 0).bind fun c45 =>
(fldV x41 1).bind fun c46 =>
(fldV x41 2).bind fun c47 =>
(fldV x41 3).bind fun c48 =>
(fldV x41 4).bind fun c49 =>
(fldV x41 5).bind fun c50 =>
(fldV x41 6).bind fun c51 =>
(fldV x41 7).bind fun c52 =>
 some (0, (vec [c45, c46, c47, c48, c49, c50, c51, c52])) : Option (Nat × (Nat → V)))).bind fun o53 =>
(fldV a1 7).bind fun c54 =>
(asSl 8 c54).bind fun l55 =>
(idxV (v24 0) (l55.length)).bind fun i56 =>
(l55[i56]?).bind fun e57 =>
(P0 f_merge_Merge [.v (.agg [(o53.2 0), (o53.2 1), (o53.2 2), (o53.2 3), (o53.2 4), (o53.2 5), (o53.2 6), (o53.2 7)]), .v e57] []).bind fun r58 =>
(P0 f_tree_Set [.v (v24 1), .v c30, .v r58.1] []).bind fun r59 =>
 tst (okN 8 r59.1) ((binV .add (v24 0) (.int .i64 1)).bind fun x60 =>
 some (.inl (vec [x60, r59.1]))))
else
 some (.inr (0, (vec [(v24 1)])))
noncomputable def F_merge_Merge (a0 : V) (a1 : V) : Option (V × List V) :=
 tst (okN 8 a0) (tst (okN 8 a1) ((fldV a1 0).bind fun c1 =>
(binV .neq c1 (.int .i64 7)).bind fun x2 =>
(asBool x2).bind fun b3 =>
 if b3 = true then
 tst (okN 8 a1) (some (a1, []))
else
(((fldV a0 0).bind fun c4 =>
(binV .neq c4 (.int .i64 7)).bind fun x5 =>
(asBool x5).bind fun b6 =>
 if b6 = true then
 some (0, (vec [(.int .i64 7), (.bool false), (.bool false), (.sl []), (.int .i64 0), (.str []), (.sl []), (.sl [])]))
else
(fldV a0 0).bind fun c7 =>
(fldV a0 1).bind fun c8 =>
(fldV a0 2).bind fun c9 =>
(fldV a0 3).bind fun c10 =>
(fldV a0 4).bind fun c11 =>
(fldV a0 5).bind fun c12 =>
(fldV a0 6).bind fun c13 =>
(fldV a0 7).bind fun c14 =>
 some (0, (vec [c7, c8, c9, c10, c11, c12, c13, c14])) : Option (Nat × (Nat → V)))).bind fun o15 =>
(fldV a1 6).bind fun c16 =>
(fldV a1 6).bind fun c17 =>
(lenV c17).bind fun n18 =>
(fldV a1 7).bind fun c19 =>
(lenV c19).bind fun n20 =>
(minV (.int .i64 ((n18 : Nat) : Int)) [(.int .i64 ((n20 : Nat) : Int))]).bind fun x21 =>
(asSl 1 c16).bind fun l22 =>
(bnd2 none (some x21) (l22.length)).bind fun q23 =>
(loopL (L_merge_Merge_1 l22 q23 a1) (vec [(.int .i64 0), (.agg [(o15.2 0), (o15.2 1), (o15.2 2), (o15.2 3), (o15.2 4), (o15.2 5), (o15.2 6), (o15.2 7)])])).bind fun o61 =>
 tst (okN 8 (o61.2 0)) (some ((o61.2 0), []))))
theorem eq_merge_Merge (a0 : V) (a1 : V) : P0 f_merge_Merge [.v a0, .v a1] [] = F_merge_Merge a0 a1 :=
  (pcL_eq (fn := p_merge_Merge) (by kernel_rfl) _ _).trans (by kernel_rfl)
noncomputable def L_ref05_Same_1 (a0 : V) (a1 : V) (v42 : Nat → V) : Option ((Nat → V) ⊕ (Nat × (Nat → V))) :=
(fldV a0 6).bind fun c43 =>
(lenV c43).bind fun n44 =>
(binV .lss (v42 0) (.int .i64 ((n44 : Nat) : Int))).bind fun x45 =>
(asBool x45).bind fun b46 =>
((if b46 = true then
(fldV a0 0).bind fun c47 =>
(binV .eql c47 (.int .i64 7)).bind fun x48 =>
 some x48
else some (.bool false) : Option V)).bind fun x49 =>
(asBool x49).bind fun b50 =>
 if b50 = true then
(fldV a0 6).bind fun c51 =>
(asSl 1 c51).bind fun l52 =>
(idxV (v42 0) (l52.length)).bind fun i53 =>
(l52[i53]?).bind fun e54 =>
(fldV e54 0).bind fun c55 =>
(fldV a1 6).bind fun c56 =>
(asSl 1 c56).bind fun l57 =>
(idxV (v42 0) (l57.length)).bind fun i58 =>
(l57[i58]?).bind fun e59 =>
(fldV e59 0).bind fun c60 =>
(binV .neq c55 c60).bind fun x61 =>
(asBool x61).bind fun b62 =>
 if b62 = true then
 some (.inr (1, (vec [(.bool false)])))
else
(binV .add (v42 0) (.int .i64 1)).bind fun x63 =>
 some (.inl (vec [x63]))
else
 some (.inr (0, (vec [])))
noncomputable def L_ref05_Same_2 (a0 : V) (a1 : V) (v65 : Nat → V) : Option ((Nat → V) ⊕ (Nat × (Nat → V))) :=
(fldV a0 7).bind fun c66 =>
(lenV c66).bind fun n67 =>
(binV .lss (v65 0) (.int .i64 ((n67 : Nat) : Int))).bind fun x68 =>
(asBool x68).bind fun b69 =>
 if b69 = true then
(fldV a0 7).bind fun c70 =>
(asSl 8 c70).bind fun l71 =>
(idxV (v65 0) (l71.length)).bind fun i72 =>
(l71[i72]?).bind fun e73 =>
(fldV a1 7).bind fun c74 =>
(asSl 8 c74).bind fun l75 =>
(idxV (v65 0) (l75.length)).bind fun i76 =>
(l75[i76]?).bind fun e77 =>
(P0 f_ref05_Same [.v e73, .v e77] []).bind fun r78 =>
(unV .not r78.1).bind fun x79 =>
(asBool x79).bind fun b80 =>
 if b80 = true then
 some (.inr (1, (vec [(.bool false)])))
else
(binV .add (v65 0) (.int .i64 1)).bind fun x81 =>
 some (.inl (vec [x81]))
else
 some (.inr (0, (vec [])))
noncomputable def F_ref05_Same (a0 : V) (a1 : V) : Option (V × List V) :=
 tst (okN 8 a0) (tst (okN 8 a1) ((fldV a0 0).bind fun c1 =>
(fldV a1 0).bind fun c2 =>
(binV .neq c1 c2).bind fun x3 =>
(asBool x3).bind fun b4 =>
 if b4 = true then
 some ((.bool false), [])
else
(fldV a0 0).bind fun c5 =>
(binV .eql c5 (.int .i64 2)).bind fun x6 =>
(asBool x6).bind fun b7 =>
 if b7 = true then
(fldV a0 1).bind fun c8 =>
(fldV a1 1).bind fun c9 =>
(asBool c8).bind fun b10 =>
(asBool c9).bind fun b11 =>
 some ((.bool (b10 == b11)), [])
else
(binV .eql c5 (.int .i64 3)).bind fun x12 =>
(asBool x12).bind fun b13 =>
 if b13 = true then
(P0 f_ref02_Same [.v (subV a0 2 3), .v (subV a1 2 3)] []).bind fun r14 =>
 some (r14.1, [])
else
(((binV .eql c5 (.int .i64 4)).bind fun x15 =>
(asBool x15).bind fun b16 =>
 if b16 = true then
 some (0, (vec [x15]))
else
(binV .eql c5 (.int .i64 5)).bind fun x17 =>
 some (0, (vec [x17])) : Option (Nat × (Nat → V)))).bind fun o18 =>
(asBool (o18.2 0)).bind fun b19 =>
 if b19 = true then
(fldV a0 5).bind fun c20 =>
(fldV a1 5).bind fun c21 =>
(binV .eql c20 c21).bind fun x22 =>
 some (x22, [])
else
(((binV .eql c5 (.int .i64 6)).bind fun x23 =>
(asBool x23).bind fun b24 =>
 if b24 = true then
 some (0, (vec [x23]))
else
(binV .eql c5 (.int .i64 7)).bind fun x25 =>
 some (0, (vec [x25])) : Option (Nat × (Nat → V)))).bind fun o26 =>
(asBool (o26.2 0)).bind fun b27 =>
 if b27 = true then
(fldV a0 7).bind fun c28 =>
(lenV c28).bind fun n29 =>
(fldV a1 7).bind fun c30 =>
(lenV c30).bind fun n31 =>
((if ((((n29 : Nat) : Int) : Int) != ((n31 : Nat) : Int)) = false then
(fldV a0 0).bind fun c32 =>
(binV .eql c32 (.int .i64 7)).bind fun x33 =>
(asBool x33).bind fun b34 =>
((if b34 = true then
(fldV a0 6).bind fun c35 =>
(lenV c35).bind fun n36 =>
(fldV a1 6).bind fun c37 =>
(lenV c37).bind fun n38 =>
 some (.bool ((((n36 : Nat) : Int) : Int) != ((n38 : Nat) : Int)))
else some (.bool false) : Option V)).bind fun x39 =>
 some x39
else some (.bool true) : Option V)).bind fun x40 =>
(asBool x40).bind fun b41 =>
 if b41 = true then
 some ((.bool false), [])
else
(loopL (L_ref05_Same_1 a0 a1) (vec [(.int .i64 0)])).bind fun o64 =>
 if o64.1 = 0 then
(loopL (L_ref05_Same_2 a0 a1) (vec [(.int .i64 0)])).bind fun o82 =>
 if o82.1 = 0 then
 some ((.bool true), [])
else
 some ((o82.2 0), [])
else
 some ((o64.2 0), [])
else
 some ((.bool true), [])))
theorem eq_ref05_Same (a0 : V) (a1 : V) : P0 f_ref05_Same [.v a0, .v a1] [] = F_ref05_Same a0 a1 :=
  (pcL_eq (fn := p_ref05_Same) (by kernel_rfl) _ _).trans (by kernel_rfl)
noncomputable def F_merge_Clean (a0 : V) : Option (V × List V) :=
 tst (okN 8 a0) ((fldV a0 0).bind fun c1 =>
(binV .neq c1 (.int .i64 7)).bind fun x2 =>
(asBool x2).bind fun b3 =>
((if b3 = false then
(fldV a0 7).bind fun c4 =>
(P0 f_slices_ContainsFunc_erratum_api_Tree [.v c4, .fn f_merge_Clean_1 []] []).bind fun r5 =>
(unV .not r5.1).bind fun x6 =>
 some x6
else some (.bool true) : Option V)).bind fun x7 =>
 some (x7, []))
theorem eq_merge_Clean (a0 : V) : P0 f_merge_Clean [.v a0] [] = F_merge_Clean a0 :=
  (pcL_eq (fn := p_merge_Clean) (by kernel_rfl) _ _).trans (by kernel_rfl)
noncomputable def F_law00_Names : Option (V × List V) :=
 tst (szOk 1 [(.str [97]), (.str [98]), (.str [99]), (.str [100, 100]), (.str [101]), (.str []), (.str [120, 47, 121]), (.str [122, 126])]) (some ((.sl [(.str [97]), (.str [98]), (.str [99]), (.str [100, 100]), (.str [101]), (.str []), (.str [120, 47, 121]), (.str [122, 126])]), []))
theorem eq_law00_Names : P0 f_law00_Names [.g] [] = F_law00_Names :=
  (pcL_eq (fn := p_law00_Names) (by kernel_rfl) _ _).trans (by kernel_rfl)
noncomputable def F_law00_Place (a0 : V) (a1 : V) : Option (V × List V) :=
(binV .rem a0 a1).bind fun x1 =>
(binV .lss x1 (.int .i64 0)).bind fun x2 =>
(asBool x2).bind fun b3 =>
 if b3 = true then
(binV .add x1 a1).bind fun x4 =>
 some (x4, [])
else
 some (x1, [])
theorem eq_law00_Place (a0 : V) (a1 : V) : P0 f_law00_Place [.v a0, .v a1] [] = F_law00_Place a0 a1 :=
  (pcL_eq (fn := p_law00_Place) (by kernel_rfl) _ _).trans (by kernel_rfl)
noncomputable def L_ref05_Member_1 (a0 : V) (a1 : V) (v1 : Nat → V) : Option ((Nat → V) ⊕ (Nat × (Nat → V))) :=
(fldV a0 6).bind fun c2 =>
(lenV c2).bind fun n3 =>
(binV .lss (v1 0) (.int .i64 ((n3 : Nat) : Int))).bind fun x4 =>
(asBool x4).bind fun b5 =>
((if b5 = true then
(fldV a0 7).bind fun c6 =>
(lenV c6).bind fun n7 =>
(binV .lss (v1 0) (.int .i64 ((n7 : Nat) : Int))).bind fun x8 =>
 some x8
else some (.bool false) : Option V)).bind fun x9 =>
(asBool x9).bind fun b10 =>
((if b10 = true then
(fldV a0 0).bind fun c11 =>
(binV .eql c11 (.int .i64 7)).bind fun x12 =>
 some x12
else some (.bool false) : Option V)).bind fun x13 =>
(asBool x13).bind fun b14 =>
 if b14 = true then
(fldV a0 6).bind fun c15 =>
(asSl 1 c15).bind fun l16 =>
(idxV (v1 0) (l16.length)).bind fun i17 =>
(l16[i17]?).bind fun e18 =>
(fldV e18 0).bind fun c19 =>
(binV .eql c19 a1).bind fun x20 =>
(asBool x20).bind fun b21 =>
 if b21 = true then
(fldV a0 7).bind fun c22 =>
(asSl 8 c22).bind fun l23 =>
(idxV (v1 0) (l23.length)).bind fun i24 =>
(l23[i24]?).bind fun e25 =>
 tst (okN 8 e25) (some (.inr (1, (vec [(.bool true), e25]))))
else
(binV .add (v1 0) (.int .i64 1)).bind fun x26 =>
 some (.inl (vec [x26, (v1 1), (v1 2), (v1 3), (v1 4), (v1 5), (v1 6), (v1 7), (v1 8)]))
else
 some (.inr (0, (vec [(.agg [(v1 1), (v1 2), (v1 3), (v1 4), (v1 5), (v1 6), (v1 7), (v1 8)])])))
noncomputable def F_ref05_Member (a0 : V) (a1 : V) : Option (V × List V) :=
 tst (okN 8 a0) ((loopL (L_ref05_Member_1 a0 a1) (vec [(.int .i64 0), (.int .i64 0), (.bool false), (.bool false), (.sl []), (.int .i64 0), (.str []), (.sl []), (.sl [])])).bind fun o27 =>
 if o27.1 = 0 then
 some ((.tup [(.agg [(.int .i64 0), (.bool false), (.bool false), (.sl []), (.int .i64 0), (.str []), (.sl []), (.sl [])]), (.bool false)]), [])
else
 some ((.tup [(o27.2 1), (o27.2 0)]), []))
theorem eq_ref05_Member (a0 : V) (a1 : V) : P0 f_ref05_Member [.v a0, .v a1] [] = F_ref05_Member a0 a1 :=
  (pcL_eq (fn := p_ref05_Member) (by kernel_rfl) _ _).trans (by kernel_rfl)
noncomputable def L_law00_made_1 (r6 : V × List V) (a1 : V) (v55 : Nat → V) : Option ((Nat → V) ⊕ (Nat × (Nat → V))) :=
(binV .quo r6.1 (.int .i64 12)).bind fun x56 =>
(binV .rem x56 (.int .i64 4)).bind fun x57 =>
(binV .lss (v55 1) x57).bind fun x58 =>
(asBool x58).bind fun b59 =>
 if b59 = true then
(binV .sub a1 (.int .i64 1)).bind fun x60 =>
(P0 f_law00_made [.v (v55 0), .v x60] []).bind fun r61 =>
(extV r61.1 0).bind fun x62 =>
(extV r61.1 1).bind fun x63 =>
 tst (okN 8 x62) (tst (okN 8 x62) (tst (szOk 8 [x62]) (tst (appOk 120 ((V.elems (v55 17)).length) (List.length (α := V) [x62])) ((binV .add (v55 1) (.int .i64 1)).bind fun x64 =>
 some (.inl (vec [x63, x64, (v55 2), (v55 3), (v55 4), (.sl (V.elems (v55 5))), (v55 6), (v55 7), (.sl (V.elems (v55 8))), (.sl (V.elems (v55 9))), (v55 10), (v55 11), (v55 12), (.sl (V.elems (v55 13))), (v55 14), (v55 15), (.sl (V.elems (v55 16))), (.sl ((V.elems (v55 17)) ++ ([x62] : List V)))]))))))
else
 some (.inr (0, (vec [(v55 0), (v55 2), (v55 3), (v55 4), (.sl (V.elems (v55 5))), (v55 6), (v55 7), (.sl (V.elems (v55 8))), (.sl (V.elems (v55 9))), (v55 10), (v55 11), (v55 12), (.sl (V.elems (v55 13))), (v55 14), (v55 15), (.sl (V.elems (v55 16))), (.sl (V.elems (v55 17)))])))
noncomputable def L_law00_made_2 (r6 : V × List V) (a1 : V) (v67 : Nat → V) : Option ((Nat → V) ⊕ (Nat × (Nat → V))) :=
(binV .quo r6.1 (.int .i64 12)).bind fun x68 =>
(binV .rem x68 (.int .i64 4)).bind fun x69 =>
(binV .lss (v67 1) x69).bind fun x70 =>
(asBool x70).bind fun b71 =>
 if b71 = true then
(binV .sub a1 (.int .i64 1)).bind fun x72 =>
(P0 f_law00_made [.v (v67 0), .v x72] []).bind fun r73 =>
(extV r73.1 0).bind fun x74 =>
(extV r73.1 1).bind fun x75 =>
 tst (okN 8 x74) ((P0 f_law00_Names [.g] []).bind fun r76 =>
(slV r76.1).bind fun l77 =>
(binV .quo r6.1 (.int .i64 48)).bind fun x78 =>
(binV .mul (.int .i64 3) (v67 1)).bind fun x79 =>
(binV .add x78 x79).bind fun x80 =>
(binV .rem x80 (.int .i64 8)).bind fun x81 =>
 tst (szOk 1 l77) ((idxV x81 (l77.length)).bind fun i82 =>
(l77[i82]?).bind fun e83 =>
(fldV e83 0).bind fun c84 =>
(P0 f_ref05_Set [.v (.agg [(v67 10), (v67 11), (v67 12), (v67 13), (v67 14), (v67 15), (v67 16), (v67 17)]), .v c84, .v x74] []).bind fun r85 =>
 tst (okN 8 r85.1) ((binV .add (v67 1) (.int .i64 1)).bind fun x86 =>
(fldV r85.1 0).bind fun c87 =>
(fldV r85.1 1).bind fun c88 =>
(fldV r85.1 2).bind fun c89 =>
(fldV r85.1 3).bind fun c90 =>
(fldV r85.1 4).bind fun c91 =>
(fldV r85.1 5).bind fun c92 =>
(fldV r85.1 6).bind fun c93 =>
(fldV r85.1 7).bind fun c94 =>
 some (.inl (vec [x75, x86, (v67 2), (v67 3), (v67 4), (.sl (V.elems (v67 5))), (v67 6), (v67 7), (.sl (V.elems (v67 8))), (.sl (V.elems (v67 9))), c87, c88, c89, c90, c91, c92, c93, c94])))))
else
 some (.inr (0, (vec [(v67 0), (v67 2), (v67 3), (v67 4), (.sl (V.elems (v67 5))), (v67 6), (v67 7), (.sl (V.elems (v67 8))), (.sl (V.elems (v67 9))), (.agg [(v67 10), (v67 11), (v67 12), (v67 13), (v67 14), (v67 15), (v67 16), (v67 17)])])))
noncomputable def F_law00_made (a0 : V) (a1 : V) : Option (V × List V) :=
(lenV a0).bind fun n1 =>
 if ((((n1 : Nat) : Int) : Int) == 0) = true then
 some ((.tup [(.agg [(.int .i64 1), (.bool false), (.bool false), (.sl []), (.int .i64 0), (.str []), (.sl []), (.sl [])]), (.sl [])]), [])
else
(asSl 1 a0).bind fun l2 =>
(idxV (.int .i64 0) (l2.length)).bind fun i3 =>
(l2[i3]?).bind fun e4 =>
(fldV e4 0).bind fun c5 =>
(P0 f_law00_Place [.v c5, .v (.int .i64 1073741824)] []).bind fun r6 =>
(asSl 1 a0).bind fun l7 =>
(bnd2 (some (.int .i64 1)) none (l7.length)).bind fun q8 =>
(binV .rem r6.1 (.int .i64 12)).bind fun x9 =>
(((binV .leq a1 (.int .i64 0)).bind fun x10 =>
(asBool x10).bind fun b11 =>
((if b11 = true then
(binV .geq x9 (.int .i64 6)).bind fun x12 =>
 some x12
else some (.bool false) : Option V)).bind fun x13 =>
(asBool x13).bind fun b14 =>
 if b14 = true then
(binV .sub x9 (.int .i64 6)).bind fun x15 =>
 some (0, (vec [x15]))
else
 some (0, (vec [x9])) : Option (Nat × (Nat → V)))).bind fun o16 =>
(((binV .eql (o16.2 0) (.int .i64 0)).bind fun x17 =>
(asBool x17).bind fun b18 =>
 if b18 = true then
 some (1, (vec [(.sl ((l7.drop q8.1).take (q8.2 - q8.1))), (.int .i64 1), (.bool false), (.bool false), (.sl []), (.int .i64 0), (.str []), (.sl []), (.sl [])]))
else
(binV .eql (o16.2 0) (.int .i64 1)).bind fun x19 =>
(asBool x19).bind fun b20 =>
 if b20 = true then
(binV .quo r6.1 (.int .i64 12)).bind fun x21 =>
(binV .rem x21 (.int .i64 2)).bind fun x22 =>
(binV .eql x22 (.int .i64 1)).bind fun x23 =>
 tst (okN 1 x23) ((fldV x23 0).bind fun c24 =>
 some (1, (vec [(.sl ((l7.drop q8.1).take (q8.2 - q8.1))), (.int .i64 2), c24, (.bool false), (.sl []), (.int .i64 0), (.str []), (.sl []), (.sl [])])))
else
(((binV .eql (o16.2 0) (.int .i64 2)).bind fun x25 =>
(asBool x25).bind fun b26 =>
 if b26 = true then
 some (0, (vec [x25, (.int .i64 0), (.bool false), (.bool false), (.sl []), (.int .i64 0), (.str []), (.sl []), (.sl [])]))
else
(binV .eql (o16.2 0) (.int .i64 3)).bind fun x27 =>
 some (0, (vec [x27, (.int .i64 0), (.bool false), (.bool false), (.sl []), (.int .i64 0), (.str []), (.sl []), (.sl [])])) : Option (Nat × (Nat → V)))).bind fun o28 =>
(asBool (o28.2 0)).bind fun b29 =>
 if b29 = true then
(binV .quo r6.1 (.int .i64 12)).bind fun x30 =>
(P0 f_law00_number [.v x30] []).bind fun r31 =>
 tst (okN 3 r31.1) ((fldV r31.1 0).bind fun c32 =>
(fldV r31.1 1).bind fun c33 =>
(fldV r31.1 2).bind fun c34 =>
 some (1, (vec [(.sl ((l7.drop q8.1).take (q8.2 - q8.1))), (.int .i64 3), (.bool false), c32, c33, c34, (.str []), (.sl []), (.sl [])])))
else
(binV .eql (o16.2 0) (.int .i64 4)).bind fun x35 =>
(asBool x35).bind fun b36 =>
 if b36 = true then
(binV .quo r6.1 (.int .i64 12)).bind fun x37 =>
(binV .rem x37 (.int .i64 9)).bind fun x38 =>
(ixaV false 9 1 (.agg [(.int .i64 0), (.int .i64 1), (.int .i64 2), (.int .i64 3), (.int .i64 4), (.int .i64 5), (.int .i64 6), (.int .i64 8), (.int .i64 9)]) x38).bind fun x39 =>
(slsV (.str [97, 98, 99, 34, 92, 10, 195, 169, 122]) none (some x39)).bind fun x40 =>
 tst (okN 1 x40) ((fldV x40 0).bind fun c41 =>
 some (1, (vec [(.sl ((l7.drop q8.1).take (q8.2 - q8.1))), (.int .i64 4), (.bool false), (.bool false), (.sl []), (.int .i64 0), c41, (.sl []), (.sl [])])))
else
(binV .eql (o16.2 0) (.int .i64 5)).bind fun x42 =>
(asBool x42).bind fun b43 =>
 if b43 = true then
(binV .quo r6.1 (.int .i64 12)).bind fun x44 =>
(binV .rem x44 (.int .i64 5)).bind fun x45 =>
(slsV (.str [0, 255, 97, 98]) none (some x45)).bind fun x46 =>
 tst (okN 1 x46) ((fldV x46 0).bind fun c47 =>
 some (1, (vec [(.sl ((l7.drop q8.1).take (q8.2 - q8.1))), (.int .i64 5), (.bool false), (.bool false), (.sl []), (.int .i64 0), c47, (.sl []), (.sl [])])))
else
(((binV .eql (o16.2 0) (.int .i64 6)).bind fun x48 =>
(asBool x48).bind fun b49 =>
 if b49 = true then
 some (0, (vec [x48, (o28.2 1), (o28.2 2), (o28.2 3), (.sl (V.elems (o28.2 4))), (o28.2 5), (o28.2 6), (.sl (V.elems (o28.2 7))), (.sl (V.elems (o28.2 8)))]))
else
(binV .eql (o16.2 0) (.int .i64 7)).bind fun x50 =>
(asBool x50).bind fun b51 =>
 if b51 = true then
 some (0, (vec [x50, (o28.2 1), (o28.2 2), (o28.2 3), (.sl (V.elems (o28.2 4))), (o28.2 5), (o28.2 6), (.sl (V.elems (o28.2 7))), (.sl (V.elems (o28.2 8)))]))
else
(binV .eql (o16.2 0) (.int .i64 8)).bind fun x52 =>
 some (0, (vec [x52, (o28.2 1), (o28.2 2), (o28.2 3), (.sl (V.elems (o28.2 4))), (o28.2 5), (o28.2 6), (.sl (V.elems (o28.2 7))), (.sl (V.elems (o28.2 8)))])) : Option (Nat × (Nat → V)))).bind fun o53 =>
(asBool (o53.2 0)).bind fun b54 =>
 if b54 = true then
(loopL (L_law00_made_1 r6 a1) (vec [(.sl ((l7.drop q8.1).take (q8.2 - q8.1))), (.int .i64 0), (o53.2 1), (o53.2 2), (o53.2 3), (.sl (V.elems (o53.2 4))), (o53.2 5), (o53.2 6), (.sl (V.elems (o53.2 7))), (.sl (V.elems (o53.2 8))), (.int .i64 6), (.bool false), (.bool false), (.sl []), (.int .i64 0), (.str []), (.sl []), (.sl [])])).bind fun o65 =>
 some (1, (vec [(o65.2 0), (o65.2 9), (o65.2 10), (o65.2 11), (.sl (V.elems (o65.2 12))), (o65.2 13), (o65.2 14), (.sl (V.elems (o65.2 15))), (.sl (V.elems (o65.2 16)))]))
else
 some (0, (vec [(.sl ((l7.drop q8.1).take (q8.2 - q8.1))), (o53.2 1), (o53.2 2), (o53.2 3), (.sl (V.elems (o53.2 4))), (o53.2 5), (o53.2 6), (.sl (V.elems (o53.2 7))), (.sl (V.elems (o53.2 8)))])) : Option (Nat × (Nat → V)))).bind fun o66 =>
 if o66.1 = 0 then
(loopL (L_law00_made_2 r6 a1) (vec [(o66.2 0), (.int .i64 0), (o66.2 1), (o66.2 2), (o66.2 3), (.sl (V.elems (o66.2 4))), (o66.2 5), (o66.2 6), (.sl (V.elems (o66.2 7))), (.sl (V.elems (o66.2 8))), (.int .i64 7), (.bool false), (.bool false), (.sl []), (.int .i64 0), (.str []), (.sl []), (.sl [])])).bind fun o95 =>
 tst (okN 8 (o95.2 9)) (some ((.tup [(o95.2 9), (o95.2 0)]), []))
else
 some ((.tup [(.agg [(o66.2 1), (o66.2 2), (o66.2 3), (o66.2 4), (o66.2 5), (o66.2 6), (.sl (V.elems (o66.2 7))), (.sl (V.elems (o66.2 8)))]), (o66.2 0)]), [])
theorem eq_law00_made (a0 : V) (a1 : V) : P0 f_law00_made [.v a0, .v a1] [] = F_law00_made a0 a1 :=
  (pcL_eq (fn := p_law00_made) (by kernel_rfl) _ _).trans (by kernel_rfl)
noncomputable def F_tree_Unset (a0 : V) (a1 : V) : Option (V × List V) :=
 tst (okN 8 a0) ((P0 f_tree_cut [.v a0] []).bind fun r1 =>
(extV r1.1 0).bind fun x2 =>
(extV r1.1 1).bind fun x3 =>
(P0 f_slices_Index_string [.v x2, .v a1] []).bind fun r4 =>
(binV .lss r4.1 (.int .i64 0)).bind fun x5 =>
(asBool x5).bind fun b6 =>
 if b6 = true then
 tst (okN 8 a0) (some (a0, []))
else
(asSl 1 x2).bind fun l7 =>
(bnd2 none (some r4.1) (l7.length)).bind fun q8 =>
(binV .add r4.1 (.int .i64 1)).bind fun x9 =>
(asSl 1 x2).bind fun l10 =>
(bnd2 (some x9) none (l10.length)).bind fun q11 =>
(P0 f_slices_Concat_string [.v (.sl [(.sl ((l7.drop q8.1).take (q8.2 - q8.1))), (.sl ((l10.drop q11.1).take (q11.2 - q11.1)))])] []).bind fun r12 =>
(asSl 8 x3).bind fun l13 =>
(bnd2 none (some r4.1) (l13.length)).bind fun q14 =>
(binV .add r4.1 (.int .i64 1)).bind fun x15 =>
(asSl 8 x3).bind fun l16 =>
(bnd2 (some x15) none (l16.length)).bind fun q17 =>
(P0 f_slices_Concat_erratum_api_Tree [.v (.sl [(.sl ((l13.drop q14.1).take (q14.2 - q14.1))), (.sl ((l16.drop q17.1).take (q17.2 - q17.1)))])] []).bind fun r18 =>
 tst (okN 1 r12.1) ((fldV r12.1 0).bind fun c19 =>
 tst (okN 1 r18.1) ((fldV r18.1 0).bind fun c20 =>
 some ((.agg [(.int .i64 7), (.bool false), (.bool false), (.sl []), (.int .i64 0), (.str []), c19, c20]), []))))
theorem eq_tree_Unset (a0 : V) (a1 : V) : P0 f_tree_Unset [.v a0, .v a1] [] = F_tree_Unset a0 a1 :=
  (pcL_eq (fn := p_tree_Unset) (by kernel_rfl) _ _).trans (by kernel_rfl)
noncomputable def F_tree_Member (a0 : V) (a1 : V) : Option (V × List V) :=
 tst (okN 8 a0) ((P0 f_tree_cut [.v a0] []).bind fun r1 =>
(extV r1.1 0).bind fun x2 =>
(extV r1.1 1).bind fun x3 =>
(P0 f_slices_Index_string [.v x2, .v a1] []).bind fun r4 =>
(binV .geq r4.1 (.int .i64 0)).bind fun x5 =>
(asBool x5).bind fun b6 =>
 if b6 = true then
(asSl 8 x3).bind fun l7 =>
(idxV r4.1 (l7.length)).bind fun i8 =>
(l7[i8]?).bind fun e9 =>
 tst (okN 8 e9) (some ((.tup [e9, (.bool true)]), []))
else
 some ((.tup [(.agg [(.int .i64 0), (.bool false), (.bool false), (.sl []), (.int .i64 0), (.str []), (.sl []), (.sl [])]), (.bool false)]), []))
theorem eq_tree_Member (a0 : V) (a1 : V) : P0 f_tree_Member [.v a0, .v a1] [] = F_tree_Member a0 a1 :=
  (pcL_eq (fn := p_tree_Member) (by kernel_rfl) _ _).trans (by kernel_rfl)
noncomputable def F_tree_Set (a0 : V) (a1 : V) (a2 : V) : Option (V × List V) :=
 tst (okN 8 a0) (tst (okN 1 a1) ((fldV a1 0).bind fun c1 =>
 tst (okN 8 a2) ((P0 f_tree_cut [.v a0] []).bind fun r2 =>
(extV r2.1 0).bind fun x3 =>
(extV r2.1 1).bind fun x4 =>
(lenV x3).bind fun n5 =>
(lenV x4).bind fun n6 =>
(mksV 16 (.int .i64 ((n5 : Nat) : Int)) (.int .i64 ((n5 : Nat) : Int))).bind fun q7 =>
(mksV 120 (.int .i64 ((n6 : Nat) : Int)) (.int .i64 ((n6 : Nat) : Int))).bind fun q8 =>
(asEl 1 x3).bind fun l9 =>
(asEl 8 x4).bind fun l10 =>
(P0 f_slices_Index_string [.v (.sl (((setL (List.replicate q7.2 (.str [])) 0 (l9.take (Nat.min (l9.length) q7.1))).drop 0).take q7.1)), .v c1] []).bind fun r11 =>
(binV .geq r11.1 (.int .i64 0)).bind fun x12 =>
(asBool x12).bind fun b13 =>
 if b13 = true then
(idxV r11.1 q8.1).bind fun i14 =>
 tst (okN 8 a2) (some ((.agg [(.int .i64 7), (.bool false), (.bool false), (.sl []), (.int .i64 0), (.str []), (.sl (((setL (List.replicate q7.2 (.str [])) 0 (l9.take (Nat.min (l9.length) q7.1))).drop 0).take q7.1)), (.sl ((((setL (List.replicate q8.2 (.agg [(.int .i64 0), (.bool false), (.bool false), (.sl []), (.int .i64 0), (.str []), (.sl []), (.sl [])])) 0 (l10.take (Nat.min (l10.length) q8.1))).set (0 + i14) a2).drop 0).take q8.1))]), []))
else
(P0 f_slices_IndexFunc_string [.v (.sl (((setL (List.replicate q7.2 (.str [])) 0 (l9.take (Nat.min (l9.length) q7.1))).drop 0).take q7.1)), .fn f_tree_Set_1 [.p 0 0]] [(false, 1, c1)]).bind fun r15 =>
(r15.2[0]?).bind fun y16 =>
(((binV .lss r15.1 (.int .i64 0)).bind fun x17 =>
(asBool x17).bind fun b18 =>
 if b18 = true then
 some (0, (vec [(.int .i64 ((q7.1 : Nat) : Int))]))
else
 some (0, (vec [r15.1])) : Option (Nat × (Nat → V)))).bind fun o19 =>
 tst (okN 1 y16) ((fldV y16 0).bind fun c20 =>
 tst (Nat.beq q7.1 q7.2) ((P0 f_slices_Insert_string [.u, .v (.sl (((setL (List.replicate q7.2 (.str [])) 0 (l9.take (Nat.min (l9.length) q7.1))).drop 0).take q7.1)), .v (o19.2 0), .v (.sl [c20])] []).bind fun r21 =>
 tst (okN 8 a2) (tst (Nat.beq q8.1 q8.2) ((P0 f_slices_Insert_erratum_api_Tree [.u, .v (.sl (((setL (List.replicate q8.2 (.agg [(.int .i64 0), (.bool false), (.bool false), (.sl []), (.int .i64 0), (.str []), (.sl []), (.sl [])])) 0 (l10.take (Nat.min (l10.length) q8.1))).drop 0).take q8.1)), .v (o19.2 0), .v (.sl [a2])] []).bind fun r22 =>
 tst (okN 1 r21.1) ((fldV r21.1 0).bind fun c23 =>
 tst (okN 1 r22.1) ((fldV r22.1 0).bind fun c24 =>
 some ((.agg [(.int .i64 7), (.bool false), (.bool false), (.sl []), (.int .i64 0), (.str []), c23, c24]), []))))))))))
theorem eq_tree_Set (a0 : V) (a1 : V) (a2 : V) : P0 f_tree_Set [.v a0, .v a1, .v a2] [] = F_tree_Set a0 a1 a2 :=
  (pcL_eq (fn := p_tree_Set) (by kernel_rfl) _ _).trans (by kernel_rfl)
noncomputable def F_ref02_Same (a0 : V) (a1 : V) : Option (V × List V) :=
 tst (okN 3 a0) (tst (okN 3 a1) ((P0 f_ref02_Is [.v a0] []).bind fun r1 =>
(P0 f_ref02_Is [.v a1] []).bind fun r2 =>
 tst (okN 3 r1.1) (tst (okN 3 r2.1) ((fldV r1.1 0).bind fun c3 =>
(fldV r2.1 0).bind fun c4 =>
(asBool c3).bind fun b5 =>
(asBool c4).bind fun b6 =>
((if (b5 == b6) = true then
(fldV r1.1 2).bind fun c7 =>
(fldV r2.1 2).bind fun c8 =>
(binV .eql c7 c8).bind fun x9 =>
 some x9
else some (.bool false) : Option V)).bind fun x10 =>
(asBool x10).bind fun b11 =>
((if b11 = true then
(fldV r1.1 1).bind fun c12 =>
(fldV r2.1 1).bind fun c13 =>
(P0 f_ref01_Cmp [.v c12, .v c13] []).bind fun r14 =>
(binV .eql r14.1 (.int .i64 0)).bind fun x15 =>
 some x15
else some (.bool false) : Option V)).bind fun x16 =>
 some (x16, [])))))
theorem eq_ref02_Same (a0 : V) (a1 : V) : P0 f_ref02_Same [.v a0, .v a1] [] = F_ref02_Same a0 a1 :=
  (pcL_eq (fn := p_ref02_Same) (by kernel_rfl) _ _).trans (by kernel_rfl)
noncomputable def F_slices_ContainsFunc_erratum_api_Tree (a0 : V) (a1 : Nat) : Option (V × List V) :=
(P0 f_slices_IndexFunc_erratum_api_Tree [.v a0, .fn a1 []] []).bind fun r1 =>
(binV .geq r1.1 (.int .i64 0)).bind fun x2 =>
 some (x2, [])
theorem eq_slices_ContainsFunc_erratum_api_Tree (a0 : V) (a1 : Nat) : P0 f_slices_ContainsFunc_erratum_api_Tree [.v a0, .fn a1 []] [] = F_slices_ContainsFunc_erratum_api_Tree a0 a1 :=
  (pcL_eq (fn := p_slices_ContainsFunc_erratum_api_Tree) (by kernel_rfl) _ _).trans (by kernel_rfl)
noncomputable def F_merge_Clean_1 (a0 : V) : Option (V × List V) :=
 tst (okN 8 a0) ((fldV a0 0).bind fun c1 =>
(binV .eql c1 (.int .i64 1)).bind fun x2 =>
(asBool x2).bind fun b3 =>
((if b3 = false then
(P0 f_merge_Clean [.v a0] []).bind fun r4 =>
(unV .not r4.1).bind fun x5 =>
 some x5
else some (.bool true) : Option V)).bind fun x6 =>
 some (x6, []))
theorem eq_merge_Clean_1 (a0 : V) : P0 f_merge_Clean_1 [.v a0] [] = F_merge_Clean_1 a0 :=
  (pcL_eq (fn := p_merge_Clean_1) (by kernel_rfl) _ _).trans (by kernel_rfl)
noncomputable def F_law00_number (a0 : V) : Option (V × List V) :=
(binV .rem a0 (.int .i64 5)).bind fun x1 =>
(binV .eql x1 (.int .i64 0)).bind fun x2 =>
(asBool x2).bind fun b3 =>
 if b3 = true then
(binV .quo a0 (.int .i64 5)).bind fun x4 =>
(binV .rem x4 (.int .i64 60)).bind fun x5 =>
(binV .sub x5 (.int .i64 20)).bind fun x6 =>
(P0 f_ref02_Of [.v x6] []).bind fun r7 =>
 tst (okN 3 r7.1) (some (r7.1, []))
else
(binV .eql x1 (.int .i64 1)).bind fun x8 =>
(asBool x8).bind fun b9 =>
 if b9 = true then
(binV .quo a0 (.int .i64 5)).bind fun x10 =>
(binV .rem x10 (.int .i64 2)).bind fun x11 =>
(binV .eql x11 (.int .i64 1)).bind fun x12 =>
(binV .quo a0 (.int .i64 10)).bind fun x13 =>
(binV .rem x13 (.int .i64 2000)).bind fun x14 =>
(cviV .u32 x14).bind fun x15 =>
 tst (okN 1 x15) ((fldV x15 0).bind fun c16 =>
(binV .quo a0 (.int .i64 7)).bind fun x17 =>
(binV .rem x17 (.int .i64 9)).bind fun x18 =>
(binV .sub x18 (.int .i64 5)).bind fun x19 =>
(P0 f_ref02_Make [.v x12, .v (.sl [c16]), .v x19] []).bind fun r20 =>
(extV r20.1 0).bind fun x21 =>
(extV r20.1 1).bind fun x22 =>
 tst (okN 3 x21) (tst (okN 3 x21) (some (x21, []))))
else
(binV .eql x1 (.int .i64 2)).bind fun x23 =>
(asBool x23).bind fun b24 =>
 if b24 = true then
(cviV .u32 a0).bind fun x25 =>
(binV .quo a0 (.int .i64 3)).bind fun x26 =>
(cviV .u32 x26).bind fun x27 =>
(binV .rem a0 (.int .i64 7)).bind fun x28 =>
(cviV .u32 x28).bind fun x29 =>
 tst (okN 1 x25) ((fldV x25 0).bind fun c30 =>
 tst (okN 1 x27) ((fldV x27 0).bind fun c31 =>
 tst (okN 1 x29) ((fldV x29 0).bind fun c32 =>
(P0 f_ref02_Make [.v (.bool false), .v (.sl [c30, c31, c32]), .v (.int .i64 0)] []).bind fun r33 =>
(extV r33.1 0).bind fun x34 =>
(extV r33.1 1).bind fun x35 =>
 tst (okN 3 x34) (tst (okN 3 x34) (some (x34, []))))))
else
(binV .eql x1 (.int .i64 3)).bind fun x36 =>
(asBool x36).bind fun b37 =>
 if b37 = true then
(binV .rem a0 (.int .i64 2)).bind fun x38 =>
(binV .eql x38 (.int .i64 1)).bind fun x39 =>
(cviV .u32 a0).bind fun x40 =>
 tst (okN 1 x40) ((fldV x40 0).bind fun c41 =>
(binV .quo a0 (.int .i64 5)).bind fun x42 =>
(binV .rem x42 (.int .i64 30)).bind fun x43 =>
(unV .neg x43).bind fun x44 =>
(P0 f_ref02_Make [.v x39, .v (.sl [(.int .u32 5), c41]), .v x44] []).bind fun r45 =>
(extV r45.1 0).bind fun x46 =>
(extV r45.1 1).bind fun x47 =>
 tst (okN 3 x46) (tst (okN 3 x46) (some (x46, []))))
else
(P0 f_ref02_Of [.v a0] []).bind fun r48 =>
 tst (okN 3 r48.1) (some (r48.1, []))
theorem eq_law00_number (a0 : V) : P0 f_law00_number [.v a0] [] = F_law00_number a0 :=
  (pcL_eq (fn := p_law00_number) (by kernel_rfl) _ _).trans (by kernel_rfl)
noncomputable def L_ref05_Set_1 (a0 : V) (a1 : V) (a2 : V) (x3 : V) (v4 : Nat → V) : Option ((Nat → V) ⊕ (Nat × (Nat → V))) :=
(fldV a0 6).bind fun c5 =>
(lenV c5).bind fun n6 =>
(binV .lss (v4 1) (.int .i64 ((n6 : Nat) : Int))).bind fun x7 =>
(asBool x7).bind fun b8 =>
((if b8 = true then
(fldV a0 7).bind fun c9 =>
(lenV c9).bind fun n10 =>
(binV .lss (v4 1) (.int .i64 ((n10 : Nat) : Int))).bind fun x11 =>
 some x11
else some (.bool false) : Option V)).bind fun x12 =>
(asBool x12).bind fun b13 =>
((if b13 = true then
(fldV a0 0).bind fun c14 =>
(binV .eql c14 (.int .i64 7)).bind fun x15 =>
 some x15
else some (.bool false) : Option V)).bind fun x16 =>
(asBool x16).bind fun b17 =>
 if b17 = true then
(unV .not (v4 0)).bind fun x18 =>
(asBool x18).bind fun b19 =>
((if b19 = true then
(fldV a0 6).bind fun c20 =>
(asSl 1 c20).bind fun l21 =>
(idxV (v4 1) (l21.length)).bind fun i22 =>
(l21[i22]?).bind fun e23 =>
(fldV e23 0).bind fun c24 =>
(binV .eql c24 a1).bind fun x25 =>
 some x25
else some (.bool false) : Option V)).bind fun x26 =>
(asBool x26).bind fun b27 =>
 if b27 = true then
 tst (okN 1 a1) ((fldV a1 0).bind fun c28 =>
 tst (szOk 1 [c28]) (tst (appOk 16 ((V.elems (v4 8)).length) (List.length (α := V) [c28])) (tst (okN 8 a2) (tst (szOk 8 [a2]) (tst (appOk 120 ((V.elems (v4 9)).length) (List.length (α := V) [a2])) ((binV .add (v4 1) (.int .i64 1)).bind fun x29 =>
 some (.inl (vec [(.bool true), x29, (v4 2), (v4 3), (v4 4), (.sl (V.elems (v4 5))), (v4 6), (v4 7), (.sl ((V.elems (v4 8)) ++ ([c28] : List V))), (.sl ((V.elems (v4 9)) ++ ([a2] : List V)))]))))))))
else
(unV .not (v4 0)).bind fun x30 =>
(asBool x30).bind fun b31 =>
((if b31 = true then
(unV .not x3).bind fun x32 =>
 some x32
else some (.bool false) : Option V)).bind fun x33 =>
(asBool x33).bind fun b34 =>
((if b34 = true then
(fldV a0 6).bind fun c35 =>
(asSl 1 c35).bind fun l36 =>
(idxV (v4 1) (l36.length)).bind fun i37 =>
(l36[i37]?).bind fun e38 =>
(fldV e38 0).bind fun c39 =>
(binV .gtr c39 a1).bind fun x40 =>
 some x40
else some (.bool false) : Option V)).bind fun x41 =>
(asBool x41).bind fun b42 =>
 if b42 = true then
 tst (okN 1 a1) ((fldV a1 0).bind fun c43 =>
 tst (szOk 1 [c43]) (tst (appOk 16 ((V.elems (v4 8)).length) (List.length (α := V) [c43])) (tst (okN 8 a2) (tst (szOk 8 [a2]) (tst (appOk 120 ((V.elems (v4 9)).length) (List.length (α := V) [a2])) ((fldV a0 6).bind fun c44 =>
(asSl 1 c44).bind fun l45 =>
(idxV (v4 1) (l45.length)).bind fun i46 =>
(l45[i46]?).bind fun e47 =>
(fldV e47 0).bind fun c48 =>
 tst (okN 1 c48) ((fldV c48 0).bind fun c49 =>
 tst (szOk 1 [c49]) (tst (appOk 16 (((V.elems (v4 8)) ++ ([c43] : List V)).length) (List.length (α := V) [c49])) ((fldV a0 7).bind fun c50 =>
(asSl 8 c50).bind fun l51 =>
(idxV (v4 1) (l51.length)).bind fun i52 =>
(l51[i52]?).bind fun e53 =>
 tst (okN 8 e53) (tst (szOk 8 [e53]) (tst (appOk 120 (((V.elems (v4 9)) ++ ([a2] : List V)).length) (List.length (α := V) [e53])) ((binV .add (v4 1) (.int .i64 1)).bind fun x54 =>
 some (.inl (vec [(.bool true), x54, (v4 2), (v4 3), (v4 4), (.sl (V.elems (v4 5))), (v4 6), (v4 7), (.sl (((V.elems (v4 8)) ++ ([c43] : List V)) ++ ([c49] : List V))), (.sl (((V.elems (v4 9)) ++ ([a2] : List V)) ++ ([e53] : List V)))]))))))))))))))
else
(fldV a0 6).bind fun c55 =>
(asSl 1 c55).bind fun l56 =>
(idxV (v4 1) (l56.length)).bind fun i57 =>
(l56[i57]?).bind fun e58 =>
(fldV e58 0).bind fun c59 =>
 tst (okN 1 c59) ((fldV c59 0).bind fun c60 =>
 tst (szOk 1 [c60]) (tst (appOk 16 ((V.elems (v4 8)).length) (List.length (α := V) [c60])) ((fldV a0 7).bind fun c61 =>
(asSl 8 c61).bind fun l62 =>
(idxV (v4 1) (l62.length)).bind fun i63 =>
(l62[i63]?).bind fun e64 =>
 tst (okN 8 e64) (tst (szOk 8 [e64]) (tst (appOk 120 ((V.elems (v4 9)).length) (List.length (α := V) [e64])) ((binV .add (v4 1) (.int .i64 1)).bind fun x65 =>
 some (.inl (vec [(v4 0), x65, (v4 2), (v4 3), (v4 4), (.sl (V.elems (v4 5))), (v4 6), (v4 7), (.sl ((V.elems (v4 8)) ++ ([c60] : List V))), (.sl ((V.elems (v4 9)) ++ ([e64] : List V)))]))))))))
else
 some (.inr (0, (vec [(v4 0), (v4 2), (v4 3), (v4 4), (.sl (V.elems (v4 5))), (v4 6), (v4 7), (.sl (V.elems (v4 8))), (.sl (V.elems (v4 9)))])))
noncomputable def F_ref05_Set (a0 : V) (a1 : V) (a2 : V) : Option (V × List V) :=
 tst (okN 8 a0) (tst (okN 8 a2) ((P0 f_ref05_Member [.v a0, .v a1] []).bind fun r1 =>
(extV r1.1 0).bind fun x2 =>
(extV r1.1 1).bind fun x3 =>
 tst (okN 8 x2) ((loopL (L_ref05_Set_1 a0 a1 a2 x3) (vec [(.bool false), (.int .i64 0), (.int .i64 7), (.bool false), (.bool false), (.sl []), (.int .i64 0), (.str []), (.sl []), (.sl [])])).bind fun o66 =>
(unV .not (o66.2 0)).bind fun x67 =>
(asBool x67).bind fun b68 =>
 if b68 = true then
 tst (okN 1 a1) ((fldV a1 0).bind fun c69 =>
 tst (szOk 1 [c69]) (tst (appOk 16 ((V.elems (o66.2 7)).length) (List.length (α := V) [c69])) (tst (okN 8 a2) (tst (szOk 8 [a2]) (tst (appOk 120 ((V.elems (o66.2 8)).length) (List.length (α := V) [a2])) (some ((.agg [(o66.2 1), (o66.2 2), (o66.2 3), (.sl (V.elems (o66.2 4))), (o66.2 5), (o66.2 6), (.sl ((V.elems (o66.2 7)) ++ ([c69] : List V))), (.sl ((V.elems (o66.2 8)) ++ ([a2] : List V)))]), [])))))))
else
 some ((.agg [(o66.2 1), (o66.2 2), (o66.2 3), (.sl (V.elems (o66.2 4))), (o66.2 5), (o66.2 6), (.sl (V.elems (o66.2 7))), (.sl (V.elems (o66.2 8)))]), []))))
theorem eq_ref05_Set (a0 : V) (a1 : V) (a2 : V) : P0 f_ref05_Set [.v a0, .v a1, .v a2] [] = F_ref05_Set a0 a1 a2 :=
  (pcL_eq (fn := p_ref05_Set) (by kernel_rfl) _ _).trans (by kernel_rfl)
noncomputable def F_tree_cut (a0 : V) : Option (V × List V) :=
 tst (okN 8 a0) ((fldV a0 0).bind fun c1 =>
(binV .neq c1 (.int .i64 7)).bind fun x2 =>
(asBool x2).bind fun b3 =>
 if b3 = true then
 some ((.tup [(.sl []), (.sl [])]), [])
else
(fldV a0 6).bind fun c4 =>
(lenV c4).bind fun n5 =>
(fldV a0 7).bind fun c6 =>
(lenV c6).bind fun n7 =>
(minV (.int .i64 ((n5 : Nat) : Int)) [(.int .i64 ((n7 : Nat) : Int))]).bind fun x8 =>
(fldV a0 6).bind fun c9 =>
(asSl 1 c9).bind fun l10 =>
(bnd3 none (some x8) (some x8) (l10.length)).bind fun q11 =>
(fldV a0 7).bind fun c12 =>
(asSl 8 c12).bind fun l13 =>
(bnd3 none (some x8) (some x8) (l13.length)).bind fun q14 =>
 some ((.tup [(.sl ((l10.drop q11.1).take (q11.2 - q11.1))), (.sl ((l13.drop q14.1).take (q14.2 - q14.1)))]), []))
theorem eq_tree_cut (a0 : V) : P0 f_tree_cut [.v a0] [] = F_tree_cut a0 :=
  (pcL_eq (fn := p_tree_cut) (by kernel_rfl) _ _).trans (by kernel_rfl)
noncomputable def L_slices_Index_string_1 (n1 : Nat) (a0 : V) (a1 : V) (v2 : Nat → V) : Option ((Nat → V) ⊕ (Nat × (Nat → V))) :=
(binV .lss (v2 0) (.int .i64 ((n1 : Nat) : Int))).bind fun x3 =>
(asBool x3).bind fun b4 =>
 if b4 = true then
(asSl 1 a0).bind fun l5 =>
(idxV (v2 0) (l5.length)).bind fun i6 =>
(l5[i6]?).bind fun e7 =>
(fldV e7 0).bind fun c8 =>
(binV .eql a1 c8).bind fun x9 =>
(asBool x9).bind fun b10 =>
 if b10 = true then
 some (.inr (1, (vec [(v2 0)])))
else
(binV .add (v2 0) (.int .i64 1)).bind fun x11 =>
 some (.inl (vec [x11]))
else
 some (.inr (0, (vec [])))
noncomputable def F_slices_Index_string (a0 : V) (a1 : V) : Option (V × List V) :=
(lenV a0).bind fun n1 =>
(loopL (L_slices_Index_string_1 n1 a0 a1) (vec [(.int .i64 0)])).bind fun o12 =>
 if o12.1 = 0 then
 some ((.int .i64 (-1)), [])
else
 some ((o12.2 0), [])
theorem eq_slices_Index_string (a0 : V) (a1 : V) : P0 f_slices_Index_string [.v a0, .v a1] [] = F_slices_Index_string a0 a1 :=
  (pcL_eq (fn := p_slices_Index_string) (by kernel_rfl) _ _).trans (by kernel_rfl)
noncomputable def L_slices_Concat_string_1 (n1 : Nat) (a0 : V) (v2 : Nat → V) : Option ((Nat → V) ⊕ (Nat × (Nat → V))) :=
(binV .lss (v2 1) (.int .i64 ((n1 : Nat) : Int))).bind fun x3 =>
(asBool x3).bind fun b4 =>
 if b4 = true then
(asSl 1 a0).bind fun l5 =>
(idxV (v2 1) (l5.length)).bind fun i6 =>
(l5[i6]?).bind fun e7 =>
(fldV e7 0).bind fun c8 =>
(lenV c8).bind fun n9 =>
(binV .add (v2 0) (.int .i64 ((n9 : Nat) : Int))).bind fun x10 =>
(binV .lss x10 (.int .i64 0)).bind fun x11 =>
(asBool x11).bind fun b12 =>
 if b12 = true then
 none
else
(binV .add (v2 1) (.int .i64 1)).bind fun x13 =>
 some (.inl (vec [x10, x13]))
else
 some (.inr (0, (vec [(v2 0)])))
noncomputable def L_slices_Concat_string_2 (n17 : Nat) (a0 : V) (v18 : Nat → V) : Option ((Nat → V) ⊕ (Nat × (Nat → V))) :=
(binV .lss (v18 1) (.int .i64 ((n17 : Nat) : Int))).bind fun x19 =>
(asBool x19).bind fun b20 =>
 if b20 = true then
(asSl 1 a0).bind fun l21 =>
(idxV (v18 1) (l21.length)).bind fun i22 =>
(l21[i22]?).bind fun e23 =>
(fldV e23 0).bind fun c24 =>
(asEl 1 c24).bind fun l25 =>
 tst (appOk 16 ((V.elems (v18 0)).length) (l25.length)) ((binV .add (v18 1) (.int .i64 1)).bind fun x26 =>
 some (.inl (vec [(.sl ((V.elems (v18 0)) ++ l25)), x26])))
else
 some (.inr (0, (vec [(.sl (V.elems (v18 0)))])))
noncomputable def F_slices_Concat_string (a0 : V) : Option (V × List V) :=
(lenV a0).bind fun n1 =>
(loopL (L_slices_Concat_string_1 n1 a0) (vec [(.int .i64 0), (.int .i64 0)])).bind fun o14 =>
(P0 f_slices_Grow_string [.g, .v (.sl []), .v (o14.2 0)] []).bind fun r15 =>
(slV r15.1).bind fun l16 =>
(lenV a0).bind fun n17 =>
(loopL (L_slices_Concat_string_2 n17 a0) (vec [(.sl l16), (.int .i64 0)])).bind fun o27 =>
 some ((.sl (V.elems (o27.2 0))), [])
theorem eq_slices_Concat_string (a0 : V) : P0 f_slices_Concat_string [.v a0] [] = F_slices_Concat_string a0 :=
  (pcL_eq (fn := p_slices_Concat_string) (by kernel_rfl) _ _).trans (by kernel_rfl)
noncomputable def L_slices_Concat_erratum_api_Tree_1 (n1 : Nat) (a0 : V) (v2 : Nat → V) : Option ((Nat → V) ⊕ (Nat × (Nat → V))) :=
(binV .lss (v2 1) (.int .i64 ((n1 : Nat) : Int))).bind fun x3 =>
(asBool x3).bind fun b4 =>
 if b4 = true then
(asSl 1 a0).bind fun l5 =>
(idxV (v2 1) (l5.length)).bind fun i6 =>
(l5[i6]?).bind fun e7 =>
(fldV e7 0).bind fun c8 =>
(lenV c8).bind fun n9 =>
(binV .add (v2 0) (.int .i64 ((n9 : Nat) : Int))).bind fun x10 =>
(binV .lss x10 (.int .i64 0)).bind fun x11 =>
(asBool x11).bind fun b12 =>
 if b12 = true then
 none
else
(binV .add (v2 1) (.int .i64 1)).bind fun x13 =>
 some (.inl (vec [x10, x13]))
else
 some (.inr (0, (vec [(v2 0)])))
noncomputable def L_slices_Concat_erratum_api_Tree_2 (n17 : Nat) (a0 : V) (v18 : Nat → V) : Option ((Nat → V) ⊕ (Nat × (Nat → V))) :=
(binV .lss (v18 1) (.int .i64 ((n17 : Nat) : Int))).bind fun x19 =>
(asBool x19).bind fun b20 =>
 if b20 = true then
(asSl 1 a0).bind fun l21 =>
(idxV (v18 1) (l21.length)).bind fun i22 =>
(l21[i22]?).bind fun e23 =>
(fldV e23 0).bind fun c24 =>
(asEl 8 c24).bind fun l25 =>
 tst (appOk 120 ((V.elems (v18 0)).length) (l25.length)) ((binV .add (v18 1) (.int .i64 1)).bind fun x26 =>
 some (.inl (vec [(.sl ((V.elems (v18 0)) ++ l25)), x26])))
else
 some (.inr (0, (vec [(.sl (V.elems (v18 0)))])))
noncomputable def F_slices_Concat_erratum_api_Tree (a0 : V) : Option (V × List V) :=
(lenV a0).bind fun n1 =>
(loopL (L_slices_Concat_erratum_api_Tree_1 n1 a0) (vec [(.int .i64 0), (.int .i64 0)])).bind fun o14 =>
(P0 f_slices_Grow_erratum_api_Tree [.g, .v (.sl []), .v (o14.2 0)] []).bind fun r15 =>
(slV r15.1).bind fun l16 =>
(lenV a0).bind fun n17 =>
(loopL (L_slices_Concat_erratum_api_Tree_2 n17 a0) (vec [(.sl l16), (.int .i64 0)])).bind fun o27 =>
 some ((.sl (V.elems (o27.2 0))), [])
theorem eq_slices_Concat_erratum_api_Tree (a0 : V) : P0 f_slices_Concat_erratum_api_Tree [.v a0] [] = F_slices_Concat_erratum_api_Tree a0 :=
  (pcL_eq (fn := p_slices_Concat_erratum_api_Tree) (by kernel_rfl) _ _).trans (by kernel_rfl)
noncomputable def L_slices_IndexFunc_string_1 (n1 : Nat) (a0 : V) (a1 : Nat) (y1000 : V) (v2 : Nat → V) : Option ((Nat → V) ⊕ (Nat × (Nat → V))) :=
(binV .lss (v2 0) (.int .i64 ((n1 : Nat) : Int))).bind fun x3 =>
(asBool x3).bind fun b4 =>
 if b4 = true then
(asSl 1 a0).bind fun l5 =>
(idxV (v2 0) (l5.length)).bind fun i6 =>
(l5[i6]?).bind fun e7 =>
(fldV e7 0).bind fun c8 =>
(P0 a1 [.v c8, .p 0 0] [(true, 1, y1000)]).bind fun r9 =>
(asBool r9.1).bind fun b10 =>
 if b10 = true then
 some (.inr (1, (vec [(v2 0)])))
else
(binV .add (v2 0) (.int .i64 1)).bind fun x11 =>
 some (.inl (vec [x11]))
else
 some (.inr (0, (vec [])))
noncomputable def F_slices_IndexFunc_string (a0 : V) (a1 : Nat) (y1000 : V) : Option (V × List V) :=
(lenV a0).bind fun n1 =>
(loopL (L_slices_IndexFunc_string_1 n1 a0 a1 y1000) (vec [(.int .i64 0)])).bind fun o12 =>
 if o12.1 = 0 then
 some ((.int .i64 (-1)), [y1000])
else
 some ((o12.2 0), [y1000])
theorem eq_slices_IndexFunc_string (a0 : V) (a1 : Nat) (y1000 : V) : P0 f_slices_IndexFunc_string [.v a0, .fn a1 [.p 0 0]] [(false, 1, y1000)] = F_slices_IndexFunc_string a0 a1 y1000 :=
  (pcL_eq (fn := p_slices_IndexFunc_string) (by kernel_rfl) _ _).trans (by kernel_rfl)
noncomputable def F_tree_Set_1 (a0 : V) (a1 : V) : Option (V × List V) :=
(binV .gtr a0 a1).bind fun x1 =>
 some (x1, [a1])
theorem eq_tree_Set_1 (a0 : V) (a1 : V) : P0 f_tree_Set_1 [.v a0, .p 0 0] [(true, 1, a1)] = F_tree_Set_1 a0 a1 :=
  (pcL_eq (fn := p_tree_Set_1) (by kernel_rfl) _ _).trans (by kernel_rfl)
noncomputable def F_ref02_Is (a0 : V) : Option (V × List V) :=
 tst (okN 3 a0) ((P0 f_ref02_Check [.v a0] []).bind fun r1 =>
(asBool r1.1).bind fun b2 =>
 if b2 = true then
 tst (okN 3 a0) (some (a0, []))
else
 some ((.agg [(.bool false), (.sl []), (.int .i64 0)]), []))
theorem eq_ref02_Is (a0 : V) : P0 f_ref02_Is [.v a0] [] = F_ref02_Is a0 :=
  (pcL_eq (fn := p_ref02_Is) (by kernel_rfl) _ _).trans (by kernel_rfl)
noncomputable def L_ref01_Cmp_1 (a0 : V) (a1 : V) (v5 : Nat → V) : Option ((Nat → V) ⊕ (Nat × (Nat → V))) :=
(binV .geq (v5 0) (.int .i64 0)).bind fun x6 =>
(asBool x6).bind fun b7 =>
 if b7 = true then
(P0 f_ref01_limb [.v a0, .v (v5 0)] []).bind fun r8 =>
(P0 f_ref01_limb [.v a1, .v (v5 0)] []).bind fun r9 =>
(binV .lss r8.1 r9.1).bind fun x10 =>
(asBool x10).bind fun b11 =>
 if b11 = true then
 some (.inr (1, (vec [(.int .i64 (-1))])))
else
(P0 f_ref01_limb [.v a0, .v (v5 0)] []).bind fun r12 =>
(P0 f_ref01_limb [.v a1, .v (v5 0)] []).bind fun r13 =>
(binV .gtr r12.1 r13.1).bind fun x14 =>
(asBool x14).bind fun b15 =>
 if b15 = true then
 some (.inr (1, (vec [(.int .i64 1)])))
else
(binV .sub (v5 0) (.int .i64 1)).bind fun x16 =>
 some (.inl (vec [x16]))
else
 some (.inr (0, (vec [])))
noncomputable def F_ref01_Cmp (a0 : V) (a1 : V) : Option (V × List V) :=
(lenV a0).bind fun n1 =>
(lenV a1).bind fun n2 =>
(maxV (.int .i64 ((n1 : Nat) : Int)) [(.int .i64 ((n2 : Nat) : Int))]).bind fun x3 =>
(binV .sub x3 (.int .i64 1)).bind fun x4 =>
(loopL (L_ref01_Cmp_1 a0 a1) (vec [x4])).bind fun o17 =>
 if o17.1 = 0 then
 some ((.int .i64 0), [])
else
 some ((o17.2 0), [])
theorem eq_ref01_Cmp (a0 : V) (a1 : V) : P0 f_ref01_Cmp [.v a0, .v a1] [] = F_ref01_Cmp a0 a1 :=
  (pcL_eq (fn := p_ref01_Cmp) (by kernel_rfl) _ _).trans (by kernel_rfl)
noncomputable def L_slices_IndexFunc_erratum_api_Tree_1 (n1 : Nat) (a0 : V) (a1 : Nat) (v2 : Nat → V) : Option ((Nat → V) ⊕ (Nat × (Nat → V))) :=
(binV .lss (v2 0) (.int .i64 ((n1 : Nat) : Int))).bind fun x3 =>
(asBool x3).bind fun b4 =>
 if b4 = true then
(asSl 8 a0).bind fun l5 =>
(idxV (v2 0) (l5.length)).bind fun i6 =>
(l5[i6]?).bind fun e7 =>
(P0 a1 [.v e7] []).bind fun r8 =>
(asBool r8.1).bind fun b9 =>
 if b9 = true then
 some (.inr (1, (vec [(v2 0)])))
else
(binV .add (v2 0) (.int .i64 1)).bind fun x10 =>
 some (.inl (vec [x10]))
else
 some (.inr (0, (vec [])))
noncomputable def F_slices_IndexFunc_erratum_api_Tree (a0 : V) (a1 : Nat) : Option (V × List V) :=
(lenV a0).bind fun n1 =>
(loopL (L_slices_IndexFunc_erratum_api_Tree_1 n1 a0 a1) (vec [(.int .i64 0)])).bind fun o11 =>
 if o11.1 = 0 then
 some ((.int .i64 (-1)), [])
else
 some ((o11.2 0), [])
theorem eq_slices_IndexFunc_erratum_api_Tree (a0 : V) (a1 : Nat) : P0 f_slices_IndexFunc_erratum_api_Tree [.v a0, .fn a1 []] [] = F_slices_IndexFunc_erratum_api_Tree a0 a1 :=
  (pcL_eq (fn := p_slices_IndexFunc_erratum_api_Tree) (by kernel_rfl) _ _).trans (by kernel_rfl)
noncomputable def F_ref02_Of (a0 : V) : Option (V × List V) :=
(cviV .u64 a0).bind fun x1 =>
(((binV .lss a0 (.int .i64 0)).bind fun x2 =>
(asBool x2).bind fun b3 =>
 if b3 = true then
(unV .neg x1).bind fun x4 =>
 some (0, (vec [x4]))
else
 some (0, (vec [x1])) : Option (Nat × (Nat → V)))).bind fun o5 =>
(binV .lss a0 (.int .i64 0)).bind fun x6 =>
(cviV .u32 (o5.2 0)).bind fun x7 =>
(binV .shr (o5.2 0) (.int .u64 32)).bind fun x8 =>
(cviV .u32 x8).bind fun x9 =>
 tst (okN 1 x7) ((fldV x7 0).bind fun c10 =>
 tst (okN 1 x9) ((fldV x9 0).bind fun c11 =>
(P0 f_ref02_Make [.v x6, .v (.sl [c10, c11]), .v (.int .i64 0)] []).bind fun r12 =>
(extV r12.1 0).bind fun x13 =>
(extV r12.1 1).bind fun x14 =>
 tst (okN 3 x13) (tst (okN 3 x13) (some (x13, [])))))
theorem eq_ref02_Of (a0 : V) : P0 f_ref02_Of [.v a0] [] = F_ref02_Of a0 :=
  (pcL_eq (fn := p_ref02_Of) (by kernel_rfl) _ _).trans (by kernel_rfl)
noncomputable def F_ref02_Make (a0 : V) (a1 : V) (a2 : V) : Option (V × List V) :=
(P0 f_ref01_Trim [.v a1] []).bind fun r1 =>
(extV r1.1 0).bind fun x2 =>
(extV r1.1 1).bind fun x3 =>
(lenV x2).bind fun n4 =>
 if ((((n4 : Nat) : Int) : Int) == 0) = true then
 some ((.tup [(.agg [(.bool false), (.sl []), (.int .i64 0)]), (.bool true)]), [])
else
(lenV x2).bind fun n5 =>
((if (decide ((((n5 : Nat) : Int) : Int) > 90)) = false then
(binV .lss a2 (.int .i64 (-1099511627776))).bind fun x6 =>
 some x6
else some (.bool true) : Option V)).bind fun x7 =>
(asBool x7).bind fun b8 =>
((if b8 = false then
(binV .gtr a2 (.int .i64 1099511627776)).bind fun x9 =>
 some x9
else some (.bool true) : Option V)).bind fun x10 =>
(asBool x10).bind fun b11 =>
((if b11 = false then
(binV .gtr x3 (.int .i64 1099511627776)).bind fun x12 =>
 some x12
else some (.bool true) : Option V)).bind fun x13 =>
(asBool x13).bind fun b14 =>
((if b14 = false then
(binV .add a2 x3).bind fun x15 =>
(binV .lss x15 (.int .i64 (-1200))).bind fun x16 =>
 some x16
else some (.bool true) : Option V)).bind fun x17 =>
(asBool x17).bind fun b18 =>
((if b18 = false then
(binV .add a2 x3).bind fun x19 =>
(binV .gtr x19 (.int .i64 1200)).bind fun x20 =>
 some x20
else some (.bool true) : Option V)).bind fun x21 =>
(asBool x21).bind fun b22 =>
 if b22 = true then
 some ((.tup [(.agg [(.bool false), (.sl []), (.int .i64 0)]), (.bool false)]), [])
else
(binV .add a2 x3).bind fun x23 =>
 tst (okN 1 a0) ((fldV a0 0).bind fun c24 =>
 tst (okN 1 x2) ((fldV x2 0).bind fun c25 =>
 tst (okN 1 x23) ((fldV x23 0).bind fun c26 =>
 tst (okN 3 (.agg [c24, c25, c26])) (some ((.tup [(.agg [c24, c25, c26]), (.bool true)]), [])))))
theorem eq_ref02_Make (a0 : V) (a1 : V) (a2 : V) : P0 f_ref02_Make [.v a0, .v a1, .v a2] [] = F_ref02_Make a0 a1 a2 :=
  (pcL_eq (fn := p_ref02_Make) (by kernel_rfl) _ _).trans (by kernel_rfl)
noncomputable def F_ref02_Check (a0 : V) : Option (V × List V) :=
 tst (okN 3 a0) ((fldV a0 1).bind fun c1 =>
(lenV c1).bind fun n2 =>
 if ((((n2 : Nat) : Int) : Int) == 0) = true then
(fldV a0 0).bind fun c3 =>
(unV .not c3).bind fun x4 =>
(asBool x4).bind fun b5 =>
((if b5 = true then
(fldV a0 2).bind fun c6 =>
(binV .eql c6 (.int .i64 0)).bind fun x7 =>
 some x7
else some (.bool false) : Option V)).bind fun x8 =>
 some (x8, [])
else
((if (decide ((((n2 : Nat) : Int) : Int) > 90)) = false then
(fldV a0 1).bind fun c9 =>
(asSl 1 c9).bind fun l10 =>
(idxV (.int .i64 (IntKind.wrap .i64 (((n2 : Nat) : Int) - 1))) (l10.length)).bind fun i11 =>
(l10[i11]?).bind fun e12 =>
(fldV e12 0).bind fun c13 =>
(binV .eql c13 (.int .u32 0)).bind fun x14 =>
 some x14
else some (.bool true) : Option V)).bind fun x15 =>
(asBool x15).bind fun b16 =>
((if b16 = false then
(fldV a0 2).bind fun c17 =>
(binV .lss c17 (.int .i64 (-1200))).bind fun x18 =>
 some x18
else some (.bool true) : Option V)).bind fun x19 =>
(asBool x19).bind fun b20 =>
((if b20 = false then
(fldV a0 2).bind fun c21 =>
(binV .gtr c21 (.int .i64 1200)).bind fun x22 =>
 some x22
else some (.bool true) : Option V)).bind fun x23 =>
(asBool x23).bind fun b24 =>
 if b24 = true then
 some ((.bool false), [])
else
(fldV a0 1).bind fun c25 =>
(P0 f_ref01_Small [.v c25, .v (.int .u32 10)] []).bind fun r26 =>
(extV r26.1 0).bind fun x27 =>
(extV r26.1 1).bind fun x28 =>
(binV .neq x28 (.int .u32 0)).bind fun x29 =>
 some (x29, []))
theorem eq_ref02_Check (a0 : V) : P0 f_ref02_Check [.v a0] [] = F_ref02_Check a0 :=
  (pcL_eq (fn := p_ref02_Check) (by kernel_rfl) _ _).trans (by kernel_rfl)
noncomputable def F_ref01_limb (a0 : V) (a1 : V) : Option (V × List V) :=
(lenV a0).bind fun n1 =>
(binV .lss a1 (.int .i64 ((n1 : Nat) : Int))).bind fun x2 =>
(asBool x2).bind fun b3 =>
 if b3 = true then
(asSl 1 a0).bind fun l4 =>
(idxV a1 (l4.length)).bind fun i5 =>
(l4[i5]?).bind fun e6 =>
(fldV e6 0).bind fun c7 =>
(cviV .u64 c7).bind fun x8 =>
 some (x8, [])
else
 some ((.int .u64 0), [])
theorem eq_ref01_limb (a0 : V) (a1 : V) : P0 f_ref01_limb [.v a0, .v a1] [] = F_ref01_limb a0 a1 :=
  (pcL_eq (fn := p_ref01_limb) (by kernel_rfl) _ _).trans (by kernel_rfl)
noncomputable def L_ref01_Trim_1 (v2 : Nat → V) : Option ((Nat → V) ⊕ (Nat × (Nat → V))) :=
(lenV (v2 0)).bind fun n3 =>
 if (decide ((((n3 : Nat) : Int) : Int) > 0)) = true then
(P0 f_ref01_Small [.v (v2 0), .v (.int .u32 10)] []).bind fun r4 =>
(extV r4.1 0).bind fun x5 =>
(extV r4.1 1).bind fun x6 =>
(binV .neq x6 (.int .u32 0)).bind fun x7 =>
(asBool x7).bind fun b8 =>
 if b8 = true then
 some (.inr (0, (vec [(v2 0), (v2 1)])))
else
(binV .add (v2 1) (.int .i64 1)).bind fun x9 =>
 some (.inl (vec [x5, x9]))
else
 some (.inr (0, (vec [(v2 0), (v2 1)])))
noncomputable def F_ref01_Trim (a0 : V) : Option (V × List V) :=
(P0 f_ref01_Norm [.v a0] []).bind fun r1 =>
(loopL (L_ref01_Trim_1) (vec [r1.1, (.int .i64 0)])).bind fun o10 =>
 some ((.tup [(o10.2 0), (o10.2 1)]), [])
theorem eq_ref01_Trim (a0 : V) : P0 f_ref01_Trim [.v a0] [] = F_ref01_Trim a0 :=
  (pcL_eq (fn := p_ref01_Trim) (by kernel_rfl) _ _).trans (by kernel_rfl)
noncomputable def L_ref01_Small_1 (a0 : V) (a1 : V) (q2 : Nat × Nat) (v4 : Nat → V) : Option ((Nat → V) ⊕ (Nat × (Nat → V))) :=
(binV .geq (v4 1) (.int .i64 0)).bind fun x5 =>
(asBool x5).bind fun b6 =>
 if b6 = true then
(binV .shl (v4 0) (.int .u64 32)).bind fun x7 =>
(asSl 1 a0).bind fun l8 =>
(idxV (v4 1) (l8.length)).bind fun i9 =>
(l8[i9]?).bind fun e10 =>
(fldV e10 0).bind fun c11 =>
(cviV .u64 c11).bind fun x12 =>
(binV .add x7 x12).bind fun x13 =>
(cviV .u64 a1).bind fun x14 =>
(binV .quo x13 x14).bind fun x15 =>
(cviV .u32 x15).bind fun x16 =>
(idxV (v4 1) q2.1).bind fun i17 =>
 tst (okN 1 x16) ((fldV x16 0).bind fun c18 =>
(cviV .u64 a1).bind fun x19 =>
(binV .rem x13 x19).bind fun x20 =>
(binV .sub (v4 1) (.int .i64 1)).bind fun x21 =>
 some (.inl (vec [x20, x21, (.sl ((V.elems (v4 2)).set (0 + i17) c18))])))
else
 some (.inr (0, (vec [(v4 0), (.sl (V.elems (v4 2)))])))
noncomputable def F_ref01_Small (a0 : V) (a1 : V) : Option (V × List V) :=
(lenV a0).bind fun n1 =>
(mksV 4 (.int .i64 ((n1 : Nat) : Int)) (.int .i64 ((n1 : Nat) : Int))).bind fun q2 =>
(lenV a0).bind fun n3 =>
(loopL (L_ref01_Small_1 a0 a1 q2) (vec [(.int .u64 0), (.int .i64 (IntKind.wrap .i64 (((n3 : Nat) : Int) - 1))), (.sl (List.replicate q2.2 (.int .u32 0)))])).bind fun o22 =>
(P0 f_ref01_Norm [.v (.sl (((V.elems (o22.2 1)).drop 0).take q2.1))] []).bind fun r23 =>
(cviV .u32 (o22.2 0)).bind fun x24 =>
 some ((.tup [r23.1, x24]), [])
theorem eq_ref01_Small (a0 : V) (a1 : V) : P0 f_ref01_Small [.v a0, .v a1] [] = F_ref01_Small a0 a1 :=
  (pcL_eq (fn := p_ref01_Small) (by kernel_rfl) _ _).trans (by kernel_rfl)
noncomputable def L_ref01_Norm_1 (a0 : V) (v2 : Nat → V) : Option ((Nat → V) ⊕ (Nat × (Nat → V))) :=
(binV .gtr (v2 0) (.int .i64 0)).bind fun x3 =>
(asBool x3).bind fun b4 =>
((if b4 = true then
(binV .sub (v2 0) (.int .i64 1)).bind fun x5 =>
(asSl 1 a0).bind fun l6 =>
(idxV x5 (l6.length)).bind fun i7 =>
(l6[i7]?).bind fun e8 =>
(fldV e8 0).bind fun c9 =>
(binV .eql c9 (.int .u32 0)).bind fun x10 =>
 some x10
else some (.bool false) : Option V)).bind fun x11 =>
(asBool x11).bind fun b12 =>
 if b12 = true then
(binV .sub (v2 0) (.int .i64 1)).bind fun x13 =>
 some (.inl (vec [x13]))
else
 some (.inr (0, (vec [(v2 0)])))
noncomputable def F_ref01_Norm (a0 : V) : Option (V × List V) :=
(lenV a0).bind fun n1 =>
(loopL (L_ref01_Norm_1 a0) (vec [(.int .i64 ((n1 : Nat) : Int))])).bind fun o14 =>
(asSl 1 a0).bind fun l15 =>
(bnd2 none (some (o14.2 0)) (l15.length)).bind fun q16 =>
(asEl 1 (.sl ((l15.drop q16.1).take (q16.2 - q16.1)))).bind fun l17 =>
 tst (appOk 4 (List.length (α := V) []) (l17.length)) (some ((.sl (([] : List V) ++ l17)), []))
theorem eq_ref01_Norm (a0 : V) : P0 f_ref01_Norm [.v a0] [] = F_ref01_Norm a0 :=
  (pcL_eq (fn := p_ref01_Norm) (by kernel_rfl) _ _).trans (by kernel_rfl)
theorem tell_slices_Insert_string (as : List PA) : P0 f_slices_Insert_string as [] = tellK (txInsert 1 16) (.ful) as [] := pcL_tell (gl := gl0) (tab := tab0) (f := f_slices_Insert_string) rfl rfl as []
theorem tell_slices_Insert_erratum_api_Tree (as : List PA) : P0 f_slices_Insert_erratum_api_Tree as [] = tellK (txInsert 8 120) (.ful) as [] := pcL_tell (gl := gl0) (tab := tab0) (f := f_slices_Insert_erratum_api_Tree) rfl rfl as []
theorem tell_slices_Grow_string (as : List PA) : P0 f_slices_Grow_string as [] = tellK (txGrow 16) (.gvf 1) as [] := pcL_tell (gl := gl0) (tab := tab0) (f := f_slices_Grow_string) rfl rfl as []
theorem tell_slices_Grow_erratum_api_Tree (as : List PA) : P0 f_slices_Grow_erratum_api_Tree as [] = tellK (txGrow 120) (.gvf 8) as [] := pcL_tell (gl := gl0) (tab := tab0) (f := f_slices_Grow_erratum_api_Tree) rfl rfl as []
end Go.Ev
