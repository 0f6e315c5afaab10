/- What the functions compute. -/
import Derived.Test.YtppkffipolncbaaKCode
import Derived.KernelRfl
set_option linter.all false
namespace Go.Ev
noncomputable def F_law11_MheadBack (a0 : V) (a1 : V) (a2 : V) : Option (V × List V) :=
(P0 f_law00_Place [.v a0, .v (.int .i64 11)] []).bind fun r1 =>
(ixaV false 11 1 (.agg [(.int .i64 1), (.int .i64 2), (.int .i64 3), (.int .i64 4), (.int .i64 5), (.int .i64 6), (.int .i64 7), (.int .i64 8), (.int .i64 9), (.int .i64 10), (.int .i64 12)]) r1.1).bind fun x2 =>
(P0 f_law00_Place [.v a2, .v (.int .i64 65)] []).bind fun r3 =>
(((binV .lss r3.1 (.int .i64 64)).bind fun x4 =>
(asBool x4).bind fun b5 =>
 if b5 = true then
(cviV .u64 r3.1).bind fun x6 =>
(binV .shl (.int .u64 1) x6).bind fun x7 =>
(binV .sub x7 (.int .u64 1)).bind fun x8 =>
(binV .and a1 x8).bind fun x9 =>
 some (0, (vec [x9]))
else
 some (0, (vec [a1])) : Option (Nat × (Nat → V)))).bind fun o10 =>
(((((binV .eql x2 (.int .i64 1)).bind fun x11 =>
(asBool x11).bind fun b12 =>
 if b12 = true then
 some (0, (vec [x11]))
else
(binV .eql x2 (.int .i64 2)).bind fun x13 =>
(asBool x13).bind fun b14 =>
 if b14 = true then
 some (0, (vec [x13]))
else
(binV .eql x2 (.int .i64 3)).bind fun x15 =>
 some (0, (vec [x15])) : Option (Nat × (Nat → V)))).bind fun o16 =>
(asBool (o16.2 0)).bind fun b17 =>
 if b17 = true then
 some (0, (vec [(.int .u64 0)]))
else
(binV .eql x2 (.int .i64 5)).bind fun x18 =>
(asBool x18).bind fun b19 =>
 if b19 = true then
(binV .and (o10.2 0) (.int .u64 9223372036854775807)).bind fun x20 =>
(unV .xor x20).bind fun x21 =>
 some (0, (vec [x21]))
else
(((binV .eql x2 (.int .i64 7)).bind fun x22 =>
(asBool x22).bind fun b23 =>
 if b23 = true then
 some (0, (vec [x22]))
else
(binV .eql x2 (.int .i64 8)).bind fun x24 =>
(asBool x24).bind fun b25 =>
 if b25 = true then
 some (0, (vec [x24]))
else
(binV .eql x2 (.int .i64 9)).bind fun x26 =>
(asBool x26).bind fun b27 =>
 if b27 = true then
 some (0, (vec [x26]))
else
(binV .eql x2 (.int .i64 10)).bind fun x28 =>
(asBool x28).bind fun b29 =>
 if b29 = true then
 some (0, (vec [x28]))
else
(binV .eql x2 (.int .i64 12)).bind fun x30 =>
 some (0, (vec [x30])) : Option (Nat × (Nat → V)))).bind fun o31 =>
(asBool (o31.2 0)).bind fun b32 =>
 if b32 = true then
(binV .and (o10.2 0) (.int .u64 4294967295)).bind fun x33 =>
 some (0, (vec [x33]))
else
 some (0, (vec [(o10.2 0)])) : Option (Nat × (Nat → V)))).bind fun o34 =>
(P0 f_mhead_Put [.v (.sl [(.int .u8 7), (.int .u8 7)]), .v x2, .v (o34.2 0)] []).bind fun r35 =>
(lenV r35.1).bind fun n36 =>
((if (decide ((((n36 : Nat) : Int) : Int) < 3)) = false then
(lenV r35.1).bind fun n37 =>
 some (.bool (decide ((((n37 : Nat) : Int) : Int) > 11)))
else some (.bool true) : Option V)).bind fun x38 =>
(asBool x38).bind fun b39 =>
 if b39 = true then
 some ((.bool false), [])
else
(P0 f_mhead_Get [.v r35.1, .v (.int .i64 2)] []).bind fun r40 =>
(extV r40.1 0).bind fun x41 =>
(extV r40.1 1).bind fun x42 =>
(extV r40.1 2).bind fun x43 =>
(extV r40.1 3).bind fun x44 =>
(lenV r35.1).bind fun n45 =>
(asSl 1 r35.1).bind fun l46 =>
(bnd2 none (some (.int .i64 (IntKind.wrap .i64 (((n45 : Nat) : Int) - 1)))) (l46.length)).bind fun q47 =>
(P0 f_mhead_Get [.v (.sl ((l46.drop q47.1).take (q47.2 - q47.1))), .v (.int .i64 2)] []).bind fun r48 =>
(extV r48.1 0).bind fun x49 =>
(extV r48.1 1).bind fun x50 =>
(extV r48.1 2).bind fun x51 =>
(extV r48.1 3).bind fun x52 =>
(binV .eql x41 x2).bind fun x53 =>
(asBool x53).bind fun b54 =>
((if b54 = true then
(binV .eql x42 (o34.2 0)).bind fun x55 =>
 some x55
else some (.bool false) : Option V)).bind fun x56 =>
(asBool x56).bind fun b57 =>
((if b57 = true then
(lenV r35.1).bind fun n58 =>
(binV .eql x43 (.int .i64 ((n58 : Nat) : Int))).bind fun x59 =>
 some x59
else some (.bool false) : Option V)).bind fun x60 =>
(asBool x60).bind fun b61 =>
((if b61 = true then
(binV .eql x44 (.int .i64 0)).bind fun x62 =>
 some x62
else some (.bool false) : Option V)).bind fun x63 =>
(asBool x63).bind fun b64 =>
((if b64 = true then
(binV .eql x52 (.int .i64 2)).bind fun x65 =>
 some x65
else some (.bool false) : Option V)).bind fun x66 =>
(asBool x66).bind fun b67 =>
((if b67 = true then
(P0 f_mhead_Put [.v (.sl []), .v (.int .i64 11), .v a1] []).bind fun r68 =>
(lenV r68.1).bind fun n69 =>
 some (.bool ((((n69 : Nat) : Int) : Int) == 0))
else some (.bool false) : Option V)).bind fun x70 =>
(asBool x70).bind fun b71 =>
((if b71 = true then
(P0 f_law11_awake [] []).bind fun r72 =>
 some r72.1
else some (.bool false) : Option V)).bind fun x73 =>
 some (x73, [])
theorem eq_law11_MheadBack (a0 : V) (a1 : V) (a2 : V) : P0 f_law11_MheadBack [.v a0, .v a1, .v a2] [] = F_law11_MheadBack a0 a1 a2 :=
  (pcL_eq (fn := p_law11_MheadBack) (by kernel_rfl) _ _).trans (by kernel_rfl)
noncomputable def F_law11_awake : Option (V × List V) :=
(P0 f_mhead_Put [.v (.sl []), .v (.int .i64 7), .v (.int .u64 40)] []).bind fun r1 =>
(asSl 1 r1.1).bind fun l2 =>
(asBytesV l2).bind fun s3 =>
(binV .eql (.str s3) (.str [217, 40])).bind fun x4 =>
(asBool x4).bind fun b5 =>
(asBool (if b5 = true then (.bool true) else (.bool false))).bind fun b6 =>
 some ((if b6 = true then (.bool true) else (.bool false)), [])
theorem eq_law11_awake : P0 f_law11_awake [] [] = F_law11_awake :=
  (pcL_eq (fn := p_law11_awake) (by kernel_rfl) _ _).trans (by kernel_rfl)
noncomputable def F_mhead_Put (a0 : V) (a1 : V) (a2 : V) : Option (V × List V) :=
(lenV a0).bind fun n1 =>
(lenV a0).bind fun n2 =>
(asSl 1 a0).bind fun l3 =>
(bnd3 none (some (.int .i64 ((n1 : Nat) : Int))) (some (.int .i64 ((n2 : Nat) : Int))) (l3.length)).bind fun q4 =>
(binV .and a2 (.int .u64 4294967295)).bind fun x5 =>
(((binV .eql a1 (.int .i64 1)).bind fun x6 =>
(asBool x6).bind fun b7 =>
 if b7 = true then
 tst (szOk 1 [(.int .u8 192)]) (tst (szOk 1 ((l3.drop q4.1).take (q4.2 - q4.1))) (tst (appOk 1 (((l3.drop q4.1).take (q4.2 - q4.1)).length) (List.length (α := V) [(.int .u8 192)])) (some (8, (vec [(.sl (((l3.drop q4.1).take (q4.2 - q4.1)) ++ ([(.int .u8 192)] : List V)))])))))
else
(binV .eql a1 (.int .i64 2)).bind fun x8 =>
(asBool x8).bind fun b9 =>
 if b9 = true then
 tst (szOk 1 [(.int .u8 194)]) (tst (szOk 1 ((l3.drop q4.1).take (q4.2 - q4.1))) (tst (appOk 1 (((l3.drop q4.1).take (q4.2 - q4.1)).length) (List.length (α := V) [(.int .u8 194)])) (some (8, (vec [(.sl (((l3.drop q4.1).take (q4.2 - q4.1)) ++ ([(.int .u8 194)] : List V)))])))))
else
(binV .eql a1 (.int .i64 3)).bind fun x10 =>
(asBool x10).bind fun b11 =>
 if b11 = true then
 tst (szOk 1 [(.int .u8 195)]) (tst (szOk 1 ((l3.drop q4.1).take (q4.2 - q4.1))) (tst (appOk 1 (((l3.drop q4.1).take (q4.2 - q4.1)).length) (List.length (α := V) [(.int .u8 195)])) (some (8, (vec [(.sl (((l3.drop q4.1).take (q4.2 - q4.1)) ++ ([(.int .u8 195)] : List V)))])))))
else
(binV .eql a1 (.int .i64 4)).bind fun x12 =>
(asBool x12).bind fun b13 =>
 if b13 = true then
(binV .gtr a2 (.int .u64 9223372036854775807)).bind fun x14 =>
(asBool x14).bind fun b15 =>
 if b15 = true then
 tst (szOk 1 ((l3.drop q4.1).take (q4.2 - q4.1))) ((P0 f_mhead_sized [.o 1 ((l3.drop q4.1).take (q4.2 - q4.1)), .v a2, .v (.int .u8 204), .v (.sl [(.int .i64 1), (.int .i64 2), (.int .i64 4), (.int .i64 8)])] []).bind fun r16 =>
 some (8, (vec [r16.1])))
else
 some (7, (vec []))
else
(binV .eql a1 (.int .i64 5)).bind fun x17 =>
(asBool x17).bind fun b18 =>
 if b18 = true then
 some (7, (vec []))
else
(binV .eql a1 (.int .i64 6)).bind fun x19 =>
(asBool x19).bind fun b20 =>
 if b20 = true then
 some (3, (vec []))
else
(binV .eql a1 (.int .i64 12)).bind fun x21 =>
(asBool x21).bind fun b22 =>
 if b22 = true then
 some (4, (vec []))
else
(binV .eql a1 (.int .i64 7)).bind fun x23 =>
(asBool x23).bind fun b24 =>
 if b24 = true then
 some (5, (vec []))
else
(binV .eql a1 (.int .i64 8)).bind fun x25 =>
(asBool x25).bind fun b26 =>
 if b26 = true then
 some (6, (vec []))
else
(binV .eql a1 (.int .i64 9)).bind fun x27 =>
(asBool x27).bind fun b28 =>
 if b28 = true then
 some (1, (vec []))
else
(binV .eql a1 (.int .i64 10)).bind fun x29 =>
(asBool x29).bind fun b30 =>
 if b30 = true then
 some (2, (vec []))
else
 some (0, (vec [])) : Option (Nat × (Nat → V)))).bind fun o31 =>
 if o31.1 = 0 then
 some ((.sl ((l3.drop q4.1).take (q4.2 - q4.1))), [])
else
 if (o31.1 - 1) = 0 then
(binV .lss x5 (.int .u64 16)).bind fun x32 =>
(asBool x32).bind fun b33 =>
 if b33 = true then
(cviV .u8 x5).bind fun x34 =>
(binV .or (.int .u8 144) x34).bind fun x35 =>
 tst (okN 1 x35) ((fldV x35 0).bind fun c36 =>
 tst (szOk 1 [c36]) (tst (szOk 1 ((l3.drop q4.1).take (q4.2 - q4.1))) (tst (appOk 1 (((l3.drop q4.1).take (q4.2 - q4.1)).length) (List.length (α := V) [c36])) (some ((.sl (((l3.drop q4.1).take (q4.2 - q4.1)) ++ ([c36] : List V))), [])))))
else
 tst (szOk 1 ((l3.drop q4.1).take (q4.2 - q4.1))) ((P0 f_mhead_sized [.o 1 ((l3.drop q4.1).take (q4.2 - q4.1)), .v x5, .v (.int .u8 220), .v (.sl [(.int .i64 2), (.int .i64 4)])] []).bind fun r37 =>
 some (r37.1, []))
else
 if ((o31.1 - 1) - 1) = 0 then
(binV .lss x5 (.int .u64 16)).bind fun x38 =>
(asBool x38).bind fun b39 =>
 if b39 = true then
(cviV .u8 x5).bind fun x40 =>
(binV .or (.int .u8 128) x40).bind fun x41 =>
 tst (okN 1 x41) ((fldV x41 0).bind fun c42 =>
 tst (szOk 1 [c42]) (tst (szOk 1 ((l3.drop q4.1).take (q4.2 - q4.1))) (tst (appOk 1 (((l3.drop q4.1).take (q4.2 - q4.1)).length) (List.length (α := V) [c42])) (some ((.sl (((l3.drop q4.1).take (q4.2 - q4.1)) ++ ([c42] : List V))), [])))))
else
 tst (szOk 1 ((l3.drop q4.1).take (q4.2 - q4.1))) ((P0 f_mhead_sized [.o 1 ((l3.drop q4.1).take (q4.2 - q4.1)), .v x5, .v (.int .u8 222), .v (.sl [(.int .i64 2), (.int .i64 4)])] []).bind fun r43 =>
 some (r43.1, []))
else
 if (((o31.1 - 1) - 1) - 1) = 0 then
 tst (szOk 1 [(.int .u8 203)]) (tst (szOk 1 ((l3.drop q4.1).take (q4.2 - q4.1))) (tst (appOk 1 (((l3.drop q4.1).take (q4.2 - q4.1)).length) (List.length (α := V) [(.int .u8 203)])) ((P0 f_mhead_bytes [.o 1 (((l3.drop q4.1).take (q4.2 - q4.1)) ++ ([(.int .u8 203)] : List V)), .v a2, .v (.int .i64 8)] []).bind fun r44 =>
 some (r44.1, []))))
else
 if ((((o31.1 - 1) - 1) - 1) - 1) = 0 then
 tst (szOk 1 [(.int .u8 202)]) (tst (szOk 1 ((l3.drop q4.1).take (q4.2 - q4.1))) (tst (appOk 1 (((l3.drop q4.1).take (q4.2 - q4.1)).length) (List.length (α := V) [(.int .u8 202)])) ((P0 f_mhead_bytes [.o 1 (((l3.drop q4.1).take (q4.2 - q4.1)) ++ ([(.int .u8 202)] : List V)), .v x5, .v (.int .i64 4)] []).bind fun r45 =>
 some (r45.1, []))))
else
 if (((((o31.1 - 1) - 1) - 1) - 1) - 1) = 0 then
(binV .lss x5 (.int .u64 32)).bind fun x46 =>
(asBool x46).bind fun b47 =>
 if b47 = true then
(cviV .u8 x5).bind fun x48 =>
(binV .or (.int .u8 160) x48).bind fun x49 =>
 tst (okN 1 x49) ((fldV x49 0).bind fun c50 =>
 tst (szOk 1 [c50]) (tst (szOk 1 ((l3.drop q4.1).take (q4.2 - q4.1))) (tst (appOk 1 (((l3.drop q4.1).take (q4.2 - q4.1)).length) (List.length (α := V) [c50])) (some ((.sl (((l3.drop q4.1).take (q4.2 - q4.1)) ++ ([c50] : List V))), [])))))
else
 tst (szOk 1 ((l3.drop q4.1).take (q4.2 - q4.1))) ((P0 f_mhead_sized [.o 1 ((l3.drop q4.1).take (q4.2 - q4.1)), .v x5, .v (.int .u8 217), .v (.sl [(.int .i64 1), (.int .i64 2), (.int .i64 4)])] []).bind fun r51 =>
 some (r51.1, []))
else
 if ((((((o31.1 - 1) - 1) - 1) - 1) - 1) - 1) = 0 then
 tst (szOk 1 ((l3.drop q4.1).take (q4.2 - q4.1))) ((P0 f_mhead_sized [.o 1 ((l3.drop q4.1).take (q4.2 - q4.1)), .v x5, .v (.int .u8 196), .v (.sl [(.int .i64 1), (.int .i64 2), (.int .i64 4)])] []).bind fun r52 =>
 some (r52.1, []))
else
 if (((((((o31.1 - 1) - 1) - 1) - 1) - 1) - 1) - 1) = 0 then
 tst (szOk 1 ((l3.drop q4.1).take (q4.2 - q4.1))) ((P0 f_mhead_number [.o 1 ((l3.drop q4.1).take (q4.2 - q4.1)), .v a2] []).bind fun r53 =>
 some (r53.1, []))
else
 some ((o31.2 0), [])
theorem eq_mhead_Put (a0 : V) (a1 : V) (a2 : V) : P0 f_mhead_Put [.v a0, .v a1, .v a2] [] = F_mhead_Put a0 a1 a2 :=
  (pcL_eq (fn := p_mhead_Put) (by kernel_rfl) _ _).trans (by kernel_rfl)
noncomputable def L_mhead_Get_1 (l33 : List V) (q34 : Nat × Nat) (v35 : Nat → V) : Option ((Nat → V) ⊕ (Nat × (Nat → V))) :=
(binV .lss (v35 1) (.int .i64 (((((l33.drop q34.1).take (q34.2 - q34.1)).length) : Nat) : Int))).bind fun x36 =>
(asBool x36).bind fun b37 =>
 if b37 = true then
(asSl 1 (.sl ((l33.drop q34.1).take (q34.2 - q34.1)))).bind fun l38 =>
(idxV (v35 1) (l38.length)).bind fun i39 =>
(l38[i39]?).bind fun e40 =>
(fldV e40 0).bind fun c41 =>
(binV .shl (v35 0) (.int .u64 8)).bind fun x42 =>
(cviV .u64 c41).bind fun x43 =>
(binV .or x42 x43).bind fun x44 =>
(binV .add (v35 1) (.int .i64 1)).bind fun x45 =>
 some (.inl (vec [x44, x45]))
else
 some (.inr (0, (vec [(v35 0)])))
noncomputable def F_mhead_Get (a0 : V) (a1 : V) : Option (V × List V) :=
(binV .lss a1 (.int .i64 0)).bind fun x1 =>
(asBool x1).bind fun b2 =>
((if b2 = false then
(lenV a0).bind fun n3 =>
(binV .gtr a1 (.int .i64 ((n3 : Nat) : Int))).bind fun x4 =>
 some x4
else some (.bool true) : Option V)).bind fun x5 =>
(asBool x5).bind fun b6 =>
 if b6 = true then
 some ((.tup [(.int .i64 0), (.int .u64 0), (.int .i64 0), (.int .i64 1)]), [])
else
(lenV a0).bind fun n7 =>
(binV .eql a1 (.int .i64 ((n7 : Nat) : Int))).bind fun x8 =>
(asBool x8).bind fun b9 =>
 if b9 = true then
 some ((.tup [(.int .i64 0), (.int .u64 0), (.int .i64 0), (.int .i64 2)]), [])
else
(asSl 1 a0).bind fun l10 =>
(idxV a1 (l10.length)).bind fun i11 =>
(l10[i11]?).bind fun e12 =>
(fldV e12 0).bind fun c13 =>
(P0 f_mhead_of [.v c13] []).bind fun r14 =>
(extV r14.1 0).bind fun x15 =>
(extV r14.1 1).bind fun x16 =>
 tst (okN 4 x15) ((unV .not x16).bind fun x17 =>
(asBool x17).bind fun b18 =>
 if b18 = true then
 some ((.tup [(.int .i64 0), (.int .u64 0), (.int .i64 0), (.int .i64 3)]), [])
else
(binV .add a1 (.int .i64 1)).bind fun x19 =>
(fldV x15 1).bind fun c20 =>
(((fldV x15 0).bind fun c21 =>
(binV .eql c21 (.int .i64 11)).bind fun x22 =>
(asBool x22).bind fun b23 =>
 if b23 = true then
(binV .add c20 (.int .i64 1)).bind fun x24 =>
 some (0, (vec [x24]))
else
 some (0, (vec [c20])) : Option (Nat × (Nat → V)))).bind fun o25 =>
(lenV a0).bind fun n26 =>
(binV .sub (.int .i64 ((n26 : Nat) : Int)) x19).bind fun x27 =>
(binV .gtr (o25.2 0) x27).bind fun x28 =>
(asBool x28).bind fun b29 =>
 if b29 = true then
 some ((.tup [(.int .i64 0), (.int .u64 0), (.int .i64 0), (.int .i64 2)]), [])
else
(fldV x15 2).bind fun c30 =>
(fldV x15 1).bind fun c31 =>
(binV .add x19 c31).bind fun x32 =>
(asSl 1 a0).bind fun l33 =>
(bnd2 (some x19) (some x32) (l33.length)).bind fun q34 =>
(loopL (L_mhead_Get_1 l33 q34) (vec [c30, (.int .i64 0)])).bind fun o46 =>
(((fldV x15 1).bind fun c47 =>
(binV .mul (.int .i64 8) c47).bind fun x48 =>
(binV .sub (.int .i64 64) x48).bind fun x49 =>
(fldV x15 3).bind fun c50 =>
(asBool c50).bind fun b51 =>
 if b51 = true then
(binV .shl (o46.2 0) x49).bind fun x52 =>
(cviV .i64 x52).bind fun x53 =>
(binV .shr x53 x49).bind fun x54 =>
(cviV .u64 x54).bind fun x55 =>
 some (0, (vec [x55]))
else
 some (0, (vec [(o46.2 0)])) : Option (Nat × (Nat → V)))).bind fun o56 =>
(fldV x15 0).bind fun c57 =>
(binV .add x19 (o25.2 0)).bind fun x58 =>
 some ((.tup [c57, (o56.2 0), x58, (.int .i64 0)]), []))
theorem eq_mhead_Get (a0 : V) (a1 : V) : P0 f_mhead_Get [.v a0, .v a1] [] = F_mhead_Get a0 a1 :=
  (pcL_eq (fn := p_mhead_Get) (by kernel_rfl) _ _).trans (by kernel_rfl)
noncomputable def F_law00_Place (a0 : V) (a1 : V) : Option (V × List V) :=
(binV .rem a0 a1).bind fun x1 =>
(binV .lss x1 (.int .i64 0)).bind fun x2 =>
(asBool x2).bind fun b3 =>
 if b3 = true then
(binV .add x1 a1).bind fun x4 =>
 some (x4, [])
else
 some (x1, [])
theorem eq_law00_Place (a0 : V) (a1 : V) : P0 f_law00_Place [.v a0, .v a1] [] = F_law00_Place a0 a1 :=
  (pcL_eq (fn := p_law00_Place) (by kernel_rfl) _ _).trans (by kernel_rfl)
noncomputable def L_mhead_sized_1 (n1 : Nat) (a3 : V) (a1 : V) (a2 : V) (v2 : Nat → V) : Option ((Nat → V) ⊕ (Nat × (Nat → V))) :=
(binV .lss (v2 1) (.int .i64 ((n1 : Nat) : Int))).bind fun x3 =>
(asBool x3).bind fun b4 =>
 if b4 = true then
(asSl 1 a3).bind fun l5 =>
(idxV (v2 1) (l5.length)).bind fun i6 =>
(l5[i6]?).bind fun e7 =>
(fldV e7 0).bind fun c8 =>
(binV .eql c8 (.int .i64 8)).bind fun x9 =>
(asBool x9).bind fun b10 =>
((if b10 = false then
(binV .mul (.int .i64 8) c8).bind fun x11 =>
(binV .shr a1 x11).bind fun x12 =>
(binV .eql x12 (.int .u64 0)).bind fun x13 =>
 some x13
else some (.bool true) : Option V)).bind fun x14 =>
(asBool x14).bind fun b15 =>
 if b15 = true then
(cviV .u8 (v2 1)).bind fun x16 =>
(binV .add a2 x16).bind fun x17 =>
 tst (okN 1 x17) ((fldV x17 0).bind fun c18 =>
 tst (szOk 1 [c18]) (tst (appOk 1 ((V.elems (v2 0)).length) (List.length (α := V) [c18])) ((P0 f_mhead_bytes [.o 1 ((V.elems (v2 0)) ++ ([c18] : List V)), .v a1, .v c8] []).bind fun r19 =>
 some (.inr (1, (vec [r19.1]))))))
else
(binV .add (v2 1) (.int .i64 1)).bind fun x20 =>
 some (.inl (vec [(.sl (V.elems (v2 0))), x20]))
else
 some (.inr (0, (vec [(.sl (V.elems (v2 0)))])))
noncomputable def F_mhead_sized (a0 : List V) (a1 : V) (a2 : V) (a3 : V) : Option (V × List V) :=
(lenV a3).bind fun n1 =>
(loopL (L_mhead_sized_1 n1 a3 a1 a2) (vec [(.sl a0), (.int .i64 0)])).bind fun o21 =>
 if o21.1 = 0 then
 some ((.sl (V.elems (o21.2 0))), [])
else
 some ((o21.2 0), [])
theorem eq_mhead_sized (a0 : List V) (a1 : V) (a2 : V) (a3 : V) : P0 f_mhead_sized [.o 1 a0, .v a1, .v a2, .v a3] [] = F_mhead_sized a0 a1 a2 a3 :=
  (pcL_eq (fn := p_mhead_sized) (by kernel_rfl) _ _).trans (by kernel_rfl)
noncomputable def F_mhead_number (a0 : List V) (a1 : V) : Option (V × List V) :=
(((cviV .i64 a1).bind fun x1 =>
(((binV .geq x1 (.int .i64 0)).bind fun x2 =>
(asBool x2).bind fun b3 =>
((if b3 = true then
(binV .lss x1 (.int .i64 128)).bind fun x4 =>
 some x4
else some (.bool false) : Option V)).bind fun x5 =>
(asBool x5).bind fun b6 =>
 if b6 = true then
 some (0, (vec [(.sl a0), x5]))
else
(binV .lss x1 (.int .i64 0)).bind fun x7 =>
(asBool x7).bind fun b8 =>
((if b8 = true then
(binV .geq x1 (.int .i64 (-32))).bind fun x9 =>
 some x9
else some (.bool false) : Option V)).bind fun x10 =>
 some (0, (vec [(.sl a0), x10])) : Option (Nat × (Nat → V)))).bind fun o11 =>
(asBool (o11.2 1)).bind fun b12 =>
 if b12 = true then
(cviV .u8 x1).bind fun x13 =>
 tst (okN 1 x13) ((fldV x13 0).bind fun c14 =>
 tst (szOk 1 [c14]) (tst (appOk 1 ((V.elems (o11.2 0)).length) (List.length (α := V) [c14])) (some (1, (vec [(.sl ((V.elems (o11.2 0)) ++ ([c14] : List V)))])))))
else
(binV .geq x1 (.int .i64 0)).bind fun x15 =>
(asBool x15).bind fun b16 =>
 if b16 = true then
(P0 f_mhead_sized [.o 1 (V.elems (o11.2 0)), .v a1, .v (.int .u8 204), .v (.sl [(.int .i64 1), (.int .i64 2), (.int .i64 4), (.int .i64 8)])] []).bind fun r17 =>
 some (1, (vec [r17.1]))
else
(binV .geq x1 (.int .i64 (-128))).bind fun x18 =>
(asBool x18).bind fun b19 =>
 if b19 = true then
 tst (szOk 1 [(.int .u8 208)]) (tst (appOk 1 ((V.elems (o11.2 0)).length) (List.length (α := V) [(.int .u8 208)])) ((P0 f_mhead_bytes [.o 1 ((V.elems (o11.2 0)) ++ ([(.int .u8 208)] : List V)), .v a1, .v (.int .i64 1)] []).bind fun r20 =>
 some (1, (vec [r20.1]))))
else
(binV .geq x1 (.int .i64 (-32768))).bind fun x21 =>
(asBool x21).bind fun b22 =>
 if b22 = true then
 tst (szOk 1 [(.int .u8 209)]) (tst (appOk 1 ((V.elems (o11.2 0)).length) (List.length (α := V) [(.int .u8 209)])) ((P0 f_mhead_bytes [.o 1 ((V.elems (o11.2 0)) ++ ([(.int .u8 209)] : List V)), .v a1, .v (.int .i64 2)] []).bind fun r23 =>
 some (1, (vec [r23.1]))))
else
(binV .geq x1 (.int .i64 (-2147483648))).bind fun x24 =>
(asBool x24).bind fun b25 =>
 if b25 = true then
 tst (szOk 1 [(.int .u8 210)]) (tst (appOk 1 ((V.elems (o11.2 0)).length) (List.length (α := V) [(.int .u8 210)])) ((P0 f_mhead_bytes [.o 1 ((V.elems (o11.2 0)) ++ ([(.int .u8 210)] : List V)), .v a1, .v (.int .i64 4)] []).bind fun r26 =>
 some (1, (vec [r26.1]))))
else
 some (0, (vec [(.sl (V.elems (o11.2 0)))])) : Option (Nat × (Nat → V)))).bind fun o27 =>
 if o27.1 = 0 then
 tst (szOk 1 [(.int .u8 211)]) (tst (appOk 1 ((V.elems (o27.2 0)).length) (List.length (α := V) [(.int .u8 211)])) ((P0 f_mhead_bytes [.o 1 ((V.elems (o27.2 0)) ++ ([(.int .u8 211)] : List V)), .v a1, .v (.int .i64 8)] []).bind fun r28 =>
 some (r28.1, [])))
else
 some ((o27.2 0), [])
theorem eq_mhead_number (a0 : List V) (a1 : V) : P0 f_mhead_number [.o 1 a0, .v a1] [] = F_mhead_number a0 a1 :=
  (pcL_eq (fn := p_mhead_number) (by kernel_rfl) _ _).trans (by kernel_rfl)
noncomputable def L_mhead_bytes_1 (a1 : V) (v2 : Nat → V) : Option ((Nat → V) ⊕ (Nat × (Nat → V))) :=
(binV .geq (v2 1) (.int .i64 0)).bind fun x3 =>
(asBool x3).bind fun b4 =>
 if b4 = true then
(binV .mul (.int .i64 8) (v2 1)).bind fun x5 =>
(binV .shr a1 x5).bind fun x6 =>
(cviV .u8 x6).bind fun x7 =>
 tst (okN 1 x7) ((fldV x7 0).bind fun c8 =>
 tst (szOk 1 [c8]) (tst (appOk 1 ((V.elems (v2 0)).length) (List.length (α := V) [c8])) ((binV .sub (v2 1) (.int .i64 1)).bind fun x9 =>
 some (.inl (vec [(.sl ((V.elems (v2 0)) ++ ([c8] : List V))), x9])))))
else
 some (.inr (0, (vec [(.sl (V.elems (v2 0)))])))
noncomputable def F_mhead_bytes (a0 : List V) (a1 : V) (a2 : V) : Option (V × List V) :=
(binV .sub a2 (.int .i64 1)).bind fun x1 =>
(loopL (L_mhead_bytes_1 a1) (vec [(.sl a0), x1])).bind fun o10 =>
 some ((.sl (V.elems (o10.2 0))), [])
theorem eq_mhead_bytes (a0 : List V) (a1 : V) (a2 : V) : P0 f_mhead_bytes [.o 1 a0, .v a1, .v a2] [] = F_mhead_bytes a0 a1 a2 :=
  (pcL_eq (fn := p_mhead_bytes) (by kernel_rfl) _ _).trans (by kernel_rfl)
noncomputable def F_mhead_of (a0 : V) : Option (V × List V) :=
(cviV .u64 a0).bind fun x1 =>
(binV .lss a0 (.int .u8 128)).bind fun x2 =>
(asBool x2).bind fun b3 =>
 if b3 = true then
 tst (okN 1 x1) ((fldV x1 0).bind fun c4 =>
 tst (okN 4 (.agg [(.int .i64 4), (.int .i64 0), c4, (.bool false)])) (some ((.tup [(.agg [(.int .i64 4), (.int .i64 0), c4, (.bool false)]), (.bool true)]), [])))
else
(binV .lss a0 (.int .u8 144)).bind fun x5 =>
(asBool x5).bind fun b6 =>
 if b6 = true then
(binV .and x1 (.int .u64 15)).bind fun x7 =>
 tst (okN 1 x7) ((fldV x7 0).bind fun c8 =>
 tst (okN 4 (.agg [(.int .i64 10), (.int .i64 0), c8, (.bool false)])) (some ((.tup [(.agg [(.int .i64 10), (.int .i64 0), c8, (.bool false)]), (.bool true)]), [])))
else
(binV .lss a0 (.int .u8 160)).bind fun x9 =>
(asBool x9).bind fun b10 =>
 if b10 = true then
(binV .and x1 (.int .u64 15)).bind fun x11 =>
 tst (okN 1 x11) ((fldV x11 0).bind fun c12 =>
 tst (okN 4 (.agg [(.int .i64 9), (.int .i64 0), c12, (.bool false)])) (some ((.tup [(.agg [(.int .i64 9), (.int .i64 0), c12, (.bool false)]), (.bool true)]), [])))
else
(binV .lss a0 (.int .u8 192)).bind fun x13 =>
(asBool x13).bind fun b14 =>
 if b14 = true then
(binV .and x1 (.int .u64 31)).bind fun x15 =>
 tst (okN 1 x15) ((fldV x15 0).bind fun c16 =>
 tst (okN 4 (.agg [(.int .i64 7), (.int .i64 0), c16, (.bool false)])) (some ((.tup [(.agg [(.int .i64 7), (.int .i64 0), c16, (.bool false)]), (.bool true)]), [])))
else
(binV .geq a0 (.int .u8 224)).bind fun x17 =>
(asBool x17).bind fun b18 =>
 if b18 = true then
(binV .sub x1 (.int .u64 256)).bind fun x19 =>
 tst (okN 1 x19) ((fldV x19 0).bind fun c20 =>
 tst (okN 4 (.agg [(.int .i64 5), (.int .i64 0), c20, (.bool false)])) (some ((.tup [(.agg [(.int .i64 5), (.int .i64 0), c20, (.bool false)]), (.bool true)]), [])))
else
(binV .and a0 (.int .u8 15)).bind fun x21 =>
(cviV .i64 x21).bind fun x22 =>
(((binV .eql a0 (.int .u8 192)).bind fun x23 =>
(asBool x23).bind fun b24 =>
 if b24 = true then
 some (1, (vec [(.bool true), (.agg [(.int .i64 1), (.int .i64 0), (.int .u64 0), (.bool false)])]))
else
(((binV .eql a0 (.int .u8 194)).bind fun x25 =>
(asBool x25).bind fun b26 =>
 if b26 = true then
 some (0, (vec [x25]))
else
(binV .eql a0 (.int .u8 195)).bind fun x27 =>
 some (0, (vec [x27])) : Option (Nat × (Nat → V)))).bind fun o28 =>
(asBool (o28.2 0)).bind fun b29 =>
 if b29 = true then
(binV .add (.int .i64 2) x22).bind fun x30 =>
(binV .sub x30 (.int .i64 2)).bind fun x31 =>
 tst (okN 1 x31) ((fldV x31 0).bind fun c32 =>
 tst (okN 4 (.agg [c32, (.int .i64 0), (.int .u64 0), (.bool false)])) (some (1, (vec [(.bool true), (.agg [c32, (.int .i64 0), (.int .u64 0), (.bool false)])]))))
else
(((binV .eql a0 (.int .u8 196)).bind fun x33 =>
(asBool x33).bind fun b34 =>
 if b34 = true then
 some (0, (vec [x33]))
else
(binV .eql a0 (.int .u8 197)).bind fun x35 =>
(asBool x35).bind fun b36 =>
 if b36 = true then
 some (0, (vec [x35]))
else
(binV .eql a0 (.int .u8 198)).bind fun x37 =>
 some (0, (vec [x37])) : Option (Nat × (Nat → V)))).bind fun o38 =>
(asBool (o38.2 0)).bind fun b39 =>
 if b39 = true then
(binV .sub x22 (.int .i64 4)).bind fun x40 =>
(binV .shl (.int .i64 1) x40).bind fun x41 =>
 tst (okN 1 x41) ((fldV x41 0).bind fun c42 =>
 tst (okN 4 (.agg [(.int .i64 8), c42, (.int .u64 0), (.bool false)])) (some (1, (vec [(.bool true), (.agg [(.int .i64 8), c42, (.int .u64 0), (.bool false)])]))))
else
(((binV .eql a0 (.int .u8 199)).bind fun x43 =>
(asBool x43).bind fun b44 =>
 if b44 = true then
 some (0, (vec [x43]))
else
(binV .eql a0 (.int .u8 200)).bind fun x45 =>
(asBool x45).bind fun b46 =>
 if b46 = true then
 some (0, (vec [x45]))
else
(binV .eql a0 (.int .u8 201)).bind fun x47 =>
 some (0, (vec [x47])) : Option (Nat × (Nat → V)))).bind fun o48 =>
(asBool (o48.2 0)).bind fun b49 =>
 if b49 = true then
(binV .sub x22 (.int .i64 7)).bind fun x50 =>
(binV .shl (.int .i64 1) x50).bind fun x51 =>
 tst (okN 1 x51) ((fldV x51 0).bind fun c52 =>
 tst (okN 4 (.agg [(.int .i64 11), c52, (.int .u64 0), (.bool false)])) (some (1, (vec [(.bool true), (.agg [(.int .i64 11), c52, (.int .u64 0), (.bool false)])]))))
else
(binV .eql a0 (.int .u8 202)).bind fun x53 =>
(asBool x53).bind fun b54 =>
 if b54 = true then
 some (1, (vec [(.bool true), (.agg [(.int .i64 12), (.int .i64 4), (.int .u64 0), (.bool false)])]))
else
(binV .eql a0 (.int .u8 203)).bind fun x55 =>
(asBool x55).bind fun b56 =>
 if b56 = true then
 some (1, (vec [(.bool true), (.agg [(.int .i64 6), (.int .i64 8), (.int .u64 0), (.bool false)])]))
else
(((binV .eql a0 (.int .u8 204)).bind fun x57 =>
(asBool x57).bind fun b58 =>
 if b58 = true then
 some (0, (vec [x57]))
else
(binV .eql a0 (.int .u8 205)).bind fun x59 =>
(asBool x59).bind fun b60 =>
 if b60 = true then
 some (0, (vec [x59]))
else
(binV .eql a0 (.int .u8 206)).bind fun x61 =>
(asBool x61).bind fun b62 =>
 if b62 = true then
 some (0, (vec [x61]))
else
(binV .eql a0 (.int .u8 207)).bind fun x63 =>
 some (0, (vec [x63])) : Option (Nat × (Nat → V)))).bind fun o64 =>
(asBool (o64.2 0)).bind fun b65 =>
 if b65 = true then
(binV .sub x22 (.int .i64 12)).bind fun x66 =>
(binV .shl (.int .i64 1) x66).bind fun x67 =>
 tst (okN 1 x67) ((fldV x67 0).bind fun c68 =>
 tst (okN 4 (.agg [(.int .i64 4), c68, (.int .u64 0), (.bool false)])) (some (1, (vec [(.bool true), (.agg [(.int .i64 4), c68, (.int .u64 0), (.bool false)])]))))
else
(((binV .eql a0 (.int .u8 208)).bind fun x69 =>
(asBool x69).bind fun b70 =>
 if b70 = true then
 some (0, (vec [x69]))
else
(binV .eql a0 (.int .u8 209)).bind fun x71 =>
(asBool x71).bind fun b72 =>
 if b72 = true then
 some (0, (vec [x71]))
else
(binV .eql a0 (.int .u8 210)).bind fun x73 =>
(asBool x73).bind fun b74 =>
 if b74 = true then
 some (0, (vec [x73]))
else
(binV .eql a0 (.int .u8 211)).bind fun x75 =>
 some (0, (vec [x75])) : Option (Nat × (Nat → V)))).bind fun o76 =>
(asBool (o76.2 0)).bind fun b77 =>
 if b77 = true then
(binV .shl (.int .i64 1) x22).bind fun x78 =>
 tst (okN 1 x78) ((fldV x78 0).bind fun c79 =>
 tst (okN 4 (.agg [(.int .i64 5), c79, (.int .u64 0), (.bool true)])) (some (1, (vec [(.bool true), (.agg [(.int .i64 5), c79, (.int .u64 0), (.bool true)])]))))
else
(((binV .eql a0 (.int .u8 212)).bind fun x80 =>
(asBool x80).bind fun b81 =>
 if b81 = true then
 some (0, (vec [x80]))
else
(binV .eql a0 (.int .u8 213)).bind fun x82 =>
(asBool x82).bind fun b83 =>
 if b83 = true then
 some (0, (vec [x82]))
else
(binV .eql a0 (.int .u8 214)).bind fun x84 =>
(asBool x84).bind fun b85 =>
 if b85 = true then
 some (0, (vec [x84]))
else
(binV .eql a0 (.int .u8 215)).bind fun x86 =>
(asBool x86).bind fun b87 =>
 if b87 = true then
 some (0, (vec [x86]))
else
(binV .eql a0 (.int .u8 216)).bind fun x88 =>
 some (0, (vec [x88])) : Option (Nat × (Nat → V)))).bind fun o89 =>
(asBool (o89.2 0)).bind fun b90 =>
 if b90 = true then
(binV .sub x22 (.int .i64 4)).bind fun x91 =>
(binV .shl (.int .u64 1) x91).bind fun x92 =>
 tst (okN 1 x92) ((fldV x92 0).bind fun c93 =>
 tst (okN 4 (.agg [(.int .i64 11), (.int .i64 0), c93, (.bool false)])) (some (1, (vec [(.bool true), (.agg [(.int .i64 11), (.int .i64 0), c93, (.bool false)])]))))
else
(((binV .eql a0 (.int .u8 217)).bind fun x94 =>
(asBool x94).bind fun b95 =>
 if b95 = true then
 some (0, (vec [x94]))
else
(binV .eql a0 (.int .u8 218)).bind fun x96 =>
(asBool x96).bind fun b97 =>
 if b97 = true then
 some (0, (vec [x96]))
else
(binV .eql a0 (.int .u8 219)).bind fun x98 =>
 some (0, (vec [x98])) : Option (Nat × (Nat → V)))).bind fun o99 =>
(asBool (o99.2 0)).bind fun b100 =>
 if b100 = true then
(binV .sub x22 (.int .i64 9)).bind fun x101 =>
(binV .shl (.int .i64 1) x101).bind fun x102 =>
 tst (okN 1 x102) ((fldV x102 0).bind fun c103 =>
 tst (okN 4 (.agg [(.int .i64 7), c103, (.int .u64 0), (.bool false)])) (some (1, (vec [(.bool true), (.agg [(.int .i64 7), c103, (.int .u64 0), (.bool false)])]))))
else
(((binV .eql a0 (.int .u8 220)).bind fun x104 =>
(asBool x104).bind fun b105 =>
 if b105 = true then
 some (0, (vec [x104]))
else
(binV .eql a0 (.int .u8 221)).bind fun x106 =>
 some (0, (vec [x106])) : Option (Nat × (Nat → V)))).bind fun o107 =>
(asBool (o107.2 0)).bind fun b108 =>
 if b108 = true then
(binV .sub x22 (.int .i64 12)).bind fun x109 =>
(binV .shl (.int .i64 2) x109).bind fun x110 =>
 tst (okN 1 x110) ((fldV x110 0).bind fun c111 =>
 tst (okN 4 (.agg [(.int .i64 9), c111, (.int .u64 0), (.bool false)])) (some (1, (vec [(.bool true), (.agg [(.int .i64 9), c111, (.int .u64 0), (.bool false)])]))))
else
(((binV .eql a0 (.int .u8 222)).bind fun x112 =>
(asBool x112).bind fun b113 =>
 if b113 = true then
 some (0, (vec [x112]))
else
(binV .eql a0 (.int .u8 223)).bind fun x114 =>
 some (0, (vec [x114])) : Option (Nat × (Nat → V)))).bind fun o115 =>
(asBool (o115.2 0)).bind fun b116 =>
 if b116 = true then
(binV .sub x22 (.int .i64 14)).bind fun x117 =>
(binV .shl (.int .i64 2) x117).bind fun x118 =>
 tst (okN 1 x118) ((fldV x118 0).bind fun c119 =>
 tst (okN 4 (.agg [(.int .i64 10), c119, (.int .u64 0), (.bool false)])) (some (1, (vec [(.bool true), (.agg [(.int .i64 10), c119, (.int .u64 0), (.bool false)])]))))
else
 some (0, (vec [(.agg [(.int .i64 0), (.int .i64 0), (.int .u64 0), (.bool false)])])) : Option (Nat × (Nat → V)))).bind fun o120 =>
 if o120.1 = 0 then
 some ((.tup [(.agg [(.int .i64 0), (.int .i64 0), (.int .u64 0), (.bool false)]), (.bool false)]), [])
else
 some ((.tup [(o120.2 1), (o120.2 0)]), [])
theorem eq_mhead_of (a0 : V) : P0 f_mhead_of [.v a0] [] = F_mhead_of a0 :=
  (pcL_eq (fn := p_mhead_of) (by kernel_rfl) _ _).trans (by kernel_rfl)
end Go.Ev
