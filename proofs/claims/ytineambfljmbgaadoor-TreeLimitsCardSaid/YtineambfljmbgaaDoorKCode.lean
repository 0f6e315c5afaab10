/- The functions' code. -/
import Derived.Test.YtineambfljmbgaaDoorKEvD
import Derived.Test.YtineambfljmbgaaDoorKNums
set_option linter.all false
namespace Go.Ev
@[reducible] def oq (i : Nat) (o : O) (r : PO) : PO := .one ⟨some i, o, none⟩ r
@[reducible] def oz (o : O) (r : PO) : PO := .one ⟨none, o, none⟩ r
@[reducible] def zt8 : List D := [.int .i64 0, .bool false, .bool false, .sl .full 0 [], .int .i64 0, .str [], .sl .full 0 [], .sl .full 0 []]
def G_0 : List V := [.int .u8 240, .int .u8 240, .int .u8 240, .int .u8 240, .int .u8 240, .int .u8 240, .int .u8 240, .int .u8 240, .int .u8 240, .int .u8 240, .int .u8 240, .int .u8 240, .int .u8 240, .int .u8 240, .int .u8 240, .int .u8 240, .int .u8 240, .int .u8 240, .int .u8 240, .int .u8 240, .int .u8 240, .int .u8 240, .int .u8 240, .int .u8 240, .int .u8 240, .int .u8 240, .int .u8 240, .int .u8 240, .int .u8 240, .int .u8 240, .int .u8 240, .int .u8 240, .int .u8 240, .int .u8 240, .int .u8 240, .int .u8 240, .int .u8 240, .int .u8 240, .int .u8 240, .int .u8 240, .int .u8 240, .int .u8 240, .int .u8 240, .int .u8 240, .int .u8 240, .int .u8 240, .int .u8 240, .int .u8 240, .int .u8 240, .int .u8 240, .int .u8 240, .int .u8 240, .int .u8 240, .int .u8 240, .int .u8 240, .int .u8 240, .int .u8 240, .int .u8 240, .int .u8 240, .int .u8 240, .int .u8 240, .int .u8 240, .int .u8 240, .int .u8 240, .int .u8 240, .int .u8 240, .int .u8 240, .int .u8 240, .int .u8 240, .int .u8 240, .int .u8 240, .int .u8 240, .int .u8 240, .int .u8 240, .int .u8 240, .int .u8 240, .int .u8 240, .int .u8 240, .int .u8 240, .int .u8 240, .int .u8 240, .int .u8 240, .int .u8 240, .int .u8 240, .int .u8 240, .int .u8 240, .int .u8 240, .int .u8 240, .int .u8 240, .int .u8 240, .int .u8 240, .int .u8 240, .int .u8 240, .int .u8 240, .int .u8 240, .int .u8 240, .int .u8 240, .int .u8 240, .int .u8 240, .int .u8 240, .int .u8 240, .int .u8 240, .int .u8 240, .int .u8 240, .int .u8 240, .int .u8 240, .int .u8 240, .int .u8 240, .int .u8 240, .int .u8 240, .int .u8 240, .int .u8 240, .int .u8 240, .int .u8 240, .int .u8 240, .int .u8 240, .int .u8 240, .int .u8 240, .int .u8 240, .int .u8 240, .int .u8 240, .int .u8 240, .int .u8 240, .int .u8 240, .int .u8 240, .int .u8 240, .int .u8 240, .int .u8 240, .int .u8 241, .int .u8 241, .int .u8 241, .int .u8 241, .int .u8 241, .int .u8 241, .int .u8 241, .int .u8 241, .int .u8 241, .int .u8 241, .int .u8 241, .int .u8 241, .int .u8 241, .int .u8 241, .int .u8 241, .int .u8 241, .int .u8 241, .int .u8 241, .int .u8 241, .int .u8 241, .int .u8 241, .int .u8 241, .int .u8 241, .int .u8 241, .int .u8 241, .int .u8 241, .int .u8 241, .int .u8 241, .int .u8 241, .int .u8 241, .int .u8 241, .int .u8 241, .int .u8 241, .int .u8 241, .int .u8 241, .int .u8 241, .int .u8 241, .int .u8 241, .int .u8 241, .int .u8 241, .int .u8 241, .int .u8 241, .int .u8 241, .int .u8 241, .int .u8 241, .int .u8 241, .int .u8 241, .int .u8 241, .int .u8 241, .int .u8 241, .int .u8 241, .int .u8 241, .int .u8 241, .int .u8 241, .int .u8 241, .int .u8 241, .int .u8 241, .int .u8 241, .int .u8 241, .int .u8 241, .int .u8 241, .int .u8 241, .int .u8 241, .int .u8 241, .int .u8 241, .int .u8 241, .int .u8 2, .int .u8 2, .int .u8 2, .int .u8 2, .int .u8 2, .int .u8 2, .int .u8 2, .int .u8 2, .int .u8 2, .int .u8 2, .int .u8 2, .int .u8 2, .int .u8 2, .int .u8 2, .int .u8 2, .int .u8 2, .int .u8 2, .int .u8 2, .int .u8 2, .int .u8 2, .int .u8 2, .int .u8 2, .int .u8 2, .int .u8 2, .int .u8 2, .int .u8 2, .int .u8 2, .int .u8 2, .int .u8 2, .int .u8 2, .int .u8 19, .int .u8 3, .int .u8 3, .int .u8 3, .int .u8 3, .int .u8 3, .int .u8 3, .int .u8 3, .int .u8 3, .int .u8 3, .int .u8 3, .int .u8 3, .int .u8 3, .int .u8 35, .int .u8 3, .int .u8 3, .int .u8 52, .int .u8 4, .int .u8 4, .int .u8 4, .int .u8 68, .int .u8 241, .int .u8 241, .int .u8 241, .int .u8 241, .int .u8 241, .int .u8 241, .int .u8 241, .int .u8 241, .int .u8 241, .int .u8 241, .int .u8 241]
def G_1 : List V := [.int .u8 128, .int .u8 191, .int .u8 160, .int .u8 191, .int .u8 128, .int .u8 159, .int .u8 144, .int .u8 191, .int .u8 128, .int .u8 143, .int .u8 0, .int .u8 0, .int .u8 0, .int .u8 0, .int .u8 0, .int .u8 0, .int .u8 0, .int .u8 0, .int .u8 0, .int .u8 0, .int .u8 0, .int .u8 0, .int .u8 0, .int .u8 0, .int .u8 0, .int .u8 0, .int .u8 0, .int .u8 0, .int .u8 0, .int .u8 0, .int .u8 0, .int .u8 0]
def q_law05_TreeLimits : PC :=
 (.seq
 (.reg (oq 6 (.mv (.k (.bool false))) <|
 .nil) [0, 1, 2])
 (.seq
 (.reg (oq 15 (.mv (.s 0)) <|
 oq 16 (.call f_law00_Place [.s 15, (.k (.int .i64 80))]) <|
 oq 7 (.mv (.s 16)) <|
 .nil) [1, 2, 7])
 (.seq
 (.reg (oq 17 (.build zt8 [(0, 1, (.k (.int .i64 1)))]) <|
 oq 8 (.alloc zt8) <|
 oz (.store 8 (.s 8) (.s 17)) <|
 .nil) [1, 2, 7, 8])
 (.seq
 (.seq
 (.reg (oq 9 (.mv (.k (.int .i64 0))) <|
 .nil) [1, 2, 7, 8, 9])
 (.blk 0
 (.loop ⟨[(1, .same), (2, .same), (7, .same), (8, .same), (9, .v)], [(.cells [.v, .v, .v, .v, .v, .v, .v, .v])]⟩ [(.ext 0, ⟨[(1, .same), (2, .same), (7, .same), (8, .same)], [(.box 8)]⟩)]
 (.seq
 (.seq
 (.reg (oq 18 (.mv (.s 9)) <|
 oq 19 (.mv (.s 7)) <|
 oq 20 (.bin .lss (.s 18) (.s 19)) <|
 .nil) [1, 2, 7, 8, 9, 20])
 (.cond (.s 20)
 .skip
 (.exit 0)))
 (.seq
 (.blk 1
 (.reg (oq 23 (.load true 8 (.s 8)) <|
 oq 24 (.lit 1 zt8 [(0, 8, (.s 23))]) <|
 oq 25 (.build zt8 [(0, 1, (.k (.int .i64 6))), (7, 1, (.s 24))]) <|
 oz (.store 8 (.s 8) (.s 25)) <|
 .nil) [1, 2, 7, 8, 9]))
 (.reg (oq 21 (.mv (.s 9)) <|
 oq 22 (.bin .add (.s 21) (.k (.int .i64 1))) <|
 oq 9 (.mv (.s 22)) <|
 .nil) [1, 2, 7, 8, 9]))))))
 (.seq
 (.reg (oq 26 (.mv (.s 1)) <|
 oq 27 (.call f_law00_Place [.s 26, (.k (.int .i64 320))]) <|
 oq 10 (.mv (.s 27)) <|
 .nil) [2, 7, 8, 10])
 (.seq
 (.reg (oq 28 (.build zt8 [(0, 1, (.k (.int .i64 6)))]) <|
 oq 11 (.alloc zt8) <|
 oz (.store 8 (.s 11) (.s 28)) <|
 .nil) [2, 7, 8, 10, 11])
 (.seq
 (.seq
 (.reg (oq 12 (.mv (.k (.int .i64 0))) <|
 .nil) [2, 7, 8, 10, 11, 12])
 (.blk 2
 (.loop ⟨[(2, .same), (7, .same), (8, .same), (10, .same), (11, .same), (12, .v)], [.same, (.cells [.v, .v, .v, (.own 8), .v, .v, (.own 8), (.own 8)])]⟩ [(.ext 2, ⟨[(2, .same), (7, .same), (8, .same), (10, .same), (11, .same)], [.same, (.cells [.v, .v, .v, (.own 8), .v, .v, (.own 8), (.own 8)])]⟩)]
 (.seq
 (.seq
 (.reg (oq 29 (.mv (.s 12)) <|
 oq 30 (.mv (.s 10)) <|
 oq 31 (.bin .lss (.s 29) (.s 30)) <|
 .nil) [2, 7, 8, 10, 11, 12, 31])
 (.cond (.s 31)
 .skip
 (.exit 2)))
 (.seq
 (.blk 3
 (.reg (oq 34 (.fad 7 (.s 11)) <|
 oq 35 (.load false 1 (.s 34)) <|
 oq 36 (.build zt8 [(0, 1, (.k (.int .i64 2))), (1, 1, (.k (.bool true)))]) <|
 oq 37 (.lit 1 zt8 [(0, 8, (.s 36))]) <|
 oq 38 (.app 8 120 (.s 35) (.s 37)) <|
 oq 39 (.fad 7 (.s 11)) <|
 oz (.store 1 (.s 39) (.s 38)) <|
 .nil) [2, 7, 8, 10, 11, 12]))
 (.reg (oq 32 (.mv (.s 12)) <|
 oq 33 (.bin .add (.s 32) (.k (.int .i64 1))) <|
 oq 12 (.mv (.s 33)) <|
 .nil) [2, 7, 8, 10, 11, 12]))))))
 (.seq
 (.reg (oq 40 (.mv (.s 2)) <|
 oq 41 (.call f_law00_Place [.s 40, (.k (.int .i64 2100))]) <|
 oq 13 (.mv (.s 41)) <|
 .nil) [7, 8, 10, 11, 13])
 (.seq
 (.reg (oq 42 (.mv (.s 13)) <|
 oq 43 (.mks [.int .u8 0] 1 (.s 42) (.s 42)) <|
 oq 44 (.cbs (.s 43)) <|
 oq 45 (.build zt8 [(0, 1, (.k (.int .i64 4))), (5, 1, (.s 44))]) <|
 oq 14 (.alloc zt8) <|
 oz (.store 8 (.s 14) (.s 45)) <|
 .nil) [7, 8, 10, 11, 13, 14])
 (.seq
 (.reg (oq 46 (.load true 8 (.s 8)) <|
 oq 47 (.call f_tree_Check [.s 46]) <|
 oq 48 (.mv (.s 7)) <|
 oq 49 (.bin .lss (.s 48) (.k (.int .i64 64))) <|
 oq 50 (.beq false (.s 47) (.s 49)) <|
 oq 51 (.mv (.s 50)) <|
 .grp 51 true (oq 52 (.load true 8 (.s 8)) <|
 oq 53 (.call f_tree_Depth [.s 52]) <|
 oq 54 (.mv (.s 7)) <|
 oq 55 (.bin .add (.s 54) (.k (.int .i64 1))) <|
 oq 56 (.bin .eql (.s 53) (.s 55)) <|
 .nil) 57 (.s 56) (.k (.bool false)) <|
 oq 58 (.mv (.s 57)) <|
 .grp 58 true (oq 59 (.load true 8 (.s 11)) <|
 oq 60 (.call f_tree_Check [.s 59]) <|
 oq 61 (.mv (.s 10)) <|
 oq 62 (.bin .leq (.s 61) (.k (.int .i64 300))) <|
 oq 63 (.beq false (.s 60) (.s 62)) <|
 .nil) 64 (.s 63) (.k (.bool false)) <|
 oq 65 (.mv (.s 64)) <|
 .grp 65 true (oq 66 (.load true 8 (.s 11)) <|
 oq 67 (.call f_tree_Weight [.s 66]) <|
 oq 68 (.mv (.s 10)) <|
 oq 69 (.bin .add (.s 68) (.k (.int .i64 1))) <|
 oq 70 (.bin .eql (.s 67) (.s 69)) <|
 .nil) 71 (.s 70) (.k (.bool false)) <|
 oq 72 (.mv (.s 71)) <|
 .grp 72 true (oq 73 (.load true 8 (.s 14)) <|
 oq 74 (.call f_tree_Check [.s 73]) <|
 oq 75 (.mv (.s 13)) <|
 oq 76 (.bin .leq (.s 75) (.k (.int .i64 2000))) <|
 oq 77 (.beq false (.s 74) (.s 76)) <|
 .nil) 78 (.s 77) (.k (.bool false)) <|
 oq 79 (.mv (.s 78)) <|
 .grp 79 true (oq 80 (.call f_law05_awake []) <|
 .nil) 81 (.s 80) (.k (.bool false)) <|
 oq 6 (.mv (.s 81)) <|
 .nil) [6])
 .ret))))))))))
def p_law05_TreeLimits : PFn := ⟨[.tmp 6], q_law05_TreeLimits⟩
def n_law05_TreeLimits : Fn := ⟨3, [.tmp 6], false, false, erase q_law05_TreeLimits⟩
def q_law00_Place : PC :=
 (.seq
 (.reg (oq 4 (.mv (.k (.int .i64 0))) <|
 .nil) [0, 1])
 (.seq
 (.reg (oq 6 (.mv (.s 0)) <|
 oq 7 (.mv (.s 1)) <|
 oq 8 (.bin .rem (.s 6) (.s 7)) <|
 oq 5 (.mv (.s 8)) <|
 .nil) [1, 5])
 (.seq
 (.seq
 (.reg (oq 9 (.mv (.s 5)) <|
 oq 10 (.bin .lss (.s 9) (.k (.int .i64 0))) <|
 .nil) [1, 5, 10])
 (.cond (.s 10)
 (.reg (oq 11 (.mv (.s 5)) <|
 oq 12 (.mv (.s 1)) <|
 oq 13 (.bin .add (.s 11) (.s 12)) <|
 oq 5 (.mv (.s 13)) <|
 .nil) [5])
 .skip))
 (.seq
 (.reg (oq 14 (.mv (.s 5)) <|
 oq 4 (.mv (.s 14)) <|
 .nil) [4])
 .ret))))
def p_law00_Place : PFn := ⟨[.tmp 4], q_law00_Place⟩
def n_law00_Place : Fn := ⟨2, [.tmp 4], false, false, erase q_law00_Place⟩
def q_tree_Check : PC :=
 (.seq
 (.reg (.box 8 1 (.s 0) <|
 oq 2 (.mv (.k (.bool false))) <|
 .nil) [1])
 (.seq
 (.reg (oq 3 (.alloc [.int .i64 0]) <|
 oz (.store 1 (.s 3) (.k (.int .i64 2000))) <|
 .nil) [1, 3])
 (.seq
 (.reg (oq 4 (.load true 8 (.s 1)) <|
 oq 5 (.call f_tree_check [.s 4, (.k (.int .i64 1)), .s 3]) <|
 oq 2 (.mv (.s 5)) <|
 .nil) [2])
 .ret)))
def p_tree_Check : PFn := ⟨[.tmp 2], q_tree_Check⟩
def n_tree_Check : Fn := ⟨1, [.tmp 2], false, false, erase q_tree_Check⟩
def q_tree_Depth : PC :=
 (.seq
 (.reg (.box 8 1 (.s 0) <|
 oq 2 (.mv (.k (.int .i64 0))) <|
 .nil) [1])
 (.seq
 (.reg (oq 3 (.mv (.k (.int .i64 0))) <|
 .nil) [1, 3])
 (.seq
 (.seq
 (.reg (oq 6 (.fad 7 (.s 1)) <|
 oq 7 (.load false 1 (.s 6)) <|
 oq 8 (.len (.s 7)) <|
 oq 9 (.mv (.k (.int .i64 0))) <|
 .nil) [3, 7, 8, 9])
 (.blk 0
 (.loop ⟨[(3, .v), (7, .same), (8, .same), (9, .v)], [.same]⟩ [(.ext 0, ⟨[(3, .v)], [.same]⟩)]
 (.seq
 (.reg (oq 10 (.bin .lss (.s 9) (.s 8)) <|
 .nil) [3, 7, 8, 9, 10])
 (.seq
 (.cond (.s 10)
 .skip
 (.exit 0))
 (.seq
 (.blk 1
 (.seq
 (.reg (oq 11 (.iad 8 (.s 7) (.s 9)) <|
 oq 12 (.load true 8 (.s 11)) <|
 oq 5 (.alloc zt8) <|
 oz (.store 8 (.s 5) (.s 12)) <|
 .nil) [3, 5, 7, 8, 9])
 (.reg (oq 13 (.mv (.s 3)) <|
 oq 14 (.load true 8 (.s 5)) <|
 oq 15 (.call f_tree_Depth [.s 14]) <|
 oq 16 (.max [.s 13, .s 15]) <|
 oq 3 (.mv (.s 16)) <|
 .nil) [3, 7, 8, 9])))
 (.reg (oq 17 (.bin .add (.s 9) (.k (.int .i64 1))) <|
 oq 9 (.mv (.s 17)) <|
 .nil) [3, 7, 8, 9])))))))
 (.seq
 (.reg (oq 18 (.mv (.s 3)) <|
 oq 19 (.bin .add (.k (.int .i64 1)) (.s 18)) <|
 oq 2 (.mv (.s 19)) <|
 .nil) [2])
 .ret))))
def p_tree_Depth : PFn := ⟨[.tmp 2], q_tree_Depth⟩
def n_tree_Depth : Fn := ⟨1, [.tmp 2], false, false, erase q_tree_Depth⟩
def q_tree_Weight : PC :=
 (.seq
 (.reg (.box 8 1 (.s 0) <|
 oq 2 (.mv (.k (.int .i64 0))) <|
 .nil) [1])
 (.seq
 (.reg (oq 3 (.mv (.k (.int .i64 1))) <|
 .nil) [1, 3])
 (.seq
 (.cut ⟨[(1, .same), (3, .v)], [.same]⟩ [(.nrm, ⟨[(1, .same), (3, .v)], [.same]⟩)]
 (.seq
 (.reg (oq 6 (.fad 0 (.s 1)) <|
 oq 7 (.load false 1 (.s 6)) <|
 .nil) [1, 3, 7])
 (.blk 0
 (.seq
 (.reg (oq 9 (.bin .eql (.s 7) (.k (.int .i64 3))) <|
 oq 8 (.mv (.s 9)) <|
 .nil) [1, 3, 7, 8])
 (.cond (.s 8)
 (.reg (oq 10 (.mv (.s 3)) <|
 oq 11 (.fad 2 (.s 1)) <|
 oq 12 (.fad 1 (.s 11)) <|
 oq 13 (.load false 1 (.s 12)) <|
 oq 14 (.len (.s 13)) <|
 oq 15 (.bin .add (.s 10) (.s 14)) <|
 oq 3 (.mv (.s 15)) <|
 .nil) [1, 3])
 (.seq
 (.cut ⟨[(1, .same), (3, .same), (7, .same)], [.same]⟩ [(.nrm, ⟨[(1, .same), (3, .same), (16, .v)], [.same]⟩)]
 (.seq
 (.reg (oq 17 (.bin .eql (.s 7) (.k (.int .i64 4))) <|
 oq 16 (.mv (.s 17)) <|
 .nil) [1, 3, 7, 16])
 (.cond (.s 16)
 .skip
 (.reg (oq 18 (.bin .eql (.s 7) (.k (.int .i64 5))) <|
 oq 16 (.mv (.s 18)) <|
 .nil) [1, 3, 16]))))
 (.cond (.s 16)
 (.reg (oq 19 (.mv (.s 3)) <|
 oq 20 (.fad 5 (.s 1)) <|
 oq 21 (.load false 1 (.s 20)) <|
 oq 22 (.lns (.s 21)) <|
 oq 23 (.bin .add (.s 19) (.s 22)) <|
 oq 3 (.mv (.s 23)) <|
 .nil) [1, 3])
 .skip)))))))
 (.seq
 (.seq
 (.reg (oq 24 (.fad 7 (.s 1)) <|
 oq 25 (.load false 1 (.s 24)) <|
 oq 26 (.len (.s 25)) <|
 oq 27 (.mv (.k (.int .i64 0))) <|
 .nil) [3, 25, 26, 27])
 (.blk 1
 (.loop ⟨[(3, .v), (25, .same), (26, .same), (27, .v)], [.same]⟩ [(.ext 1, ⟨[(3, .v)], [.same]⟩)]
 (.seq
 (.reg (oq 28 (.bin .lss (.s 27) (.s 26)) <|
 .nil) [3, 25, 26, 27, 28])
 (.seq
 (.cond (.s 28)
 .skip
 (.exit 1))
 (.seq
 (.blk 2
 (.seq
 (.reg (oq 29 (.iad 8 (.s 25) (.s 27)) <|
 oq 30 (.load true 8 (.s 29)) <|
 oq 5 (.alloc zt8) <|
 oz (.store 8 (.s 5) (.s 30)) <|
 .nil) [3, 5, 25, 26, 27])
 (.reg (oq 31 (.mv (.s 3)) <|
 oq 32 (.load true 8 (.s 5)) <|
 oq 33 (.call f_tree_Weight [.s 32]) <|
 oq 34 (.bin .add (.s 31) (.s 33)) <|
 oq 3 (.mv (.s 34)) <|
 .nil) [3, 25, 26, 27])))
 (.reg (oq 35 (.bin .add (.s 27) (.k (.int .i64 1))) <|
 oq 27 (.mv (.s 35)) <|
 .nil) [3, 25, 26, 27])))))))
 (.seq
 (.reg (oq 36 (.mv (.s 3)) <|
 oq 2 (.mv (.s 36)) <|
 .nil) [2])
 .ret)))))
def p_tree_Weight : PFn := ⟨[.tmp 2], q_tree_Weight⟩
def n_tree_Weight : Fn := ⟨1, [.tmp 2], false, false, erase q_tree_Weight⟩
def q_law05_awake : PC :=
 (.seq
 (.reg (oq 0 (.mv (.k (.bool false))) <|
 .nil) [])
 (.seq
 (.reg (oq 2 (.lit 1 [(.str [])] [(0, 1, (.k (.str [97])))]) <|
 oq 3 (.lit 1 [.int .u32 0] [(0, 1, (.k (.int .u32 1)))]) <|
 oq 4 (.build [.bool false, (.sl .full 0 []), .int .i64 0] [(1, 1, (.s 3))]) <|
 oq 5 (.build zt8 [(0, 1, (.k (.int .i64 3))), (2, 3, (.s 4))]) <|
 oq 6 (.build zt8 [(0, 1, (.k (.int .i64 4))), (5, 1, (.k (.str [120, 121])))]) <|
 oq 7 (.lit 2 zt8 [(0, 8, (.s 5)), (8, 8, (.s 6))]) <|
 oq 8 (.build zt8 [(0, 1, (.k (.int .i64 6))), (7, 1, (.s 7))]) <|
 oq 9 (.lit 1 zt8 [(0, 8, (.s 8))]) <|
 oq 10 (.build zt8 [(0, 1, (.k (.int .i64 7))), (6, 1, (.s 2)), (7, 1, (.s 9))]) <|
 oq 1 (.alloc zt8) <|
 oz (.store 8 (.s 1) (.s 10)) <|
 .nil) [1])
 (.seq
 (.reg (oq 11 (.load true 8 (.s 1)) <|
 oq 12 (.call f_tree_Weight [.s 11]) <|
 oq 13 (.bin .eql (.s 12) (.k (.int .i64 7))) <|
 oq 14 (.mv (.s 13)) <|
 .grp 14 true (oq 15 (.load true 8 (.s 1)) <|
 oq 16 (.call f_tree_Check [.s 15]) <|
 .nil) 17 (.s 16) (.k (.bool false)) <|
 oq 18 (.mv (.s 17)) <|
 .grp 18 true (oq 19 (.load true 8 (.s 1)) <|
 oq 20 (.call f_tree_Nodes [.s 19]) <|
 oq 21 (.bin .eql (.s 20) (.k (.int .i64 4))) <|
 .nil) 22 (.s 21) (.k (.bool false)) <|
 oq 23 (.mv (.s 22)) <|
 .grp 23 true (oq 24 (.load true 8 (.s 1)) <|
 oq 25 (.call f_tree_Depth [.s 24]) <|
 oq 26 (.bin .eql (.s 25) (.k (.int .i64 3))) <|
 .nil) 27 (.s 26) (.k (.bool false)) <|
 oq 0 (.mv (.s 27)) <|
 .nil) [0])
 .ret)))
def p_law05_awake : PFn := ⟨[.tmp 0], q_law05_awake⟩
def n_law05_awake : Fn := ⟨0, [.tmp 0], false, false, erase q_law05_awake⟩
def q_tree_Nodes : PC :=
 (.seq
 (.reg (.box 8 1 (.s 0) <|
 oq 2 (.mv (.k (.int .i64 0))) <|
 .nil) [1])
 (.seq
 (.reg (oq 3 (.mv (.k (.int .i64 1))) <|
 .nil) [1, 3])
 (.seq
 (.seq
 (.reg (oq 6 (.fad 7 (.s 1)) <|
 oq 7 (.load false 1 (.s 6)) <|
 oq 8 (.len (.s 7)) <|
 oq 9 (.mv (.k (.int .i64 0))) <|
 .nil) [3, 7, 8, 9])
 (.blk 0
 (.loop ⟨[(3, .v), (7, .same), (8, .same), (9, .v)], [.same]⟩ [(.ext 0, ⟨[(3, .v)], [.same]⟩)]
 (.seq
 (.reg (oq 10 (.bin .lss (.s 9) (.s 8)) <|
 .nil) [3, 7, 8, 9, 10])
 (.seq
 (.cond (.s 10)
 .skip
 (.exit 0))
 (.seq
 (.blk 1
 (.seq
 (.reg (oq 11 (.iad 8 (.s 7) (.s 9)) <|
 oq 12 (.load true 8 (.s 11)) <|
 oq 5 (.alloc zt8) <|
 oz (.store 8 (.s 5) (.s 12)) <|
 .nil) [3, 5, 7, 8, 9])
 (.reg (oq 13 (.mv (.s 3)) <|
 oq 14 (.load true 8 (.s 5)) <|
 oq 15 (.call f_tree_Nodes [.s 14]) <|
 oq 16 (.bin .add (.s 13) (.s 15)) <|
 oq 3 (.mv (.s 16)) <|
 .nil) [3, 7, 8, 9])))
 (.reg (oq 17 (.bin .add (.s 9) (.k (.int .i64 1))) <|
 oq 9 (.mv (.s 17)) <|
 .nil) [3, 7, 8, 9])))))))
 (.seq
 (.reg (oq 18 (.mv (.s 3)) <|
 oq 2 (.mv (.s 18)) <|
 .nil) [2])
 .ret))))
def p_tree_Nodes : PFn := ⟨[.tmp 2], q_tree_Nodes⟩
def n_tree_Nodes : Fn := ⟨1, [.tmp 2], false, false, erase q_tree_Nodes⟩
def q_tree_check : PC :=
 (.seq
 (.reg (.box 8 3 (.s 0) <|
 oq 6 (.mv (.k (.bool false))) <|
 .nil) [1, 2, 3])
 (.seq
 (.reg (oq 9 (.mv (.s 2)) <|
 oq 10 (.chk (.s 9)) <|
 oq 11 (.load false 1 (.s 10)) <|
 oq 12 (.bin .sub (.s 11) (.k (.int .i64 1))) <|
 oq 13 (.chk (.s 9)) <|
 oz (.store 1 (.s 13) (.s 12)) <|
 .nil) [1, 2, 3])
 (.seq
 (.seq
 (.reg (oq 14 (.mv (.s 2)) <|
 oq 15 (.chk (.s 14)) <|
 oq 16 (.load false 1 (.s 15)) <|
 oq 17 (.bin .lss (.s 16) (.k (.int .i64 0))) <|
 oq 18 (.mv (.s 17)) <|
 .grp 18 false (oq 19 (.mv (.s 1)) <|
 oq 20 (.bin .gtr (.s 19) (.k (.int .i64 64))) <|
 .nil) 21 (.s 20) (.k (.bool true)) <|
 oq 22 (.mv (.s 21)) <|
 .grp 22 false (oq 23 (.load true 8 (.s 3)) <|
 oq 24 (.call f_tree_own [.s 23]) <|
 oq 25 (.un .not (.s 24)) <|
 .nil) 26 (.s 25) (.k (.bool true)) <|
 .nil) [1, 2, 3, 26])
 (.cond (.s 26)
 (.seq
 (.reg (oq 6 (.mv (.k (.bool false))) <|
 .nil) [6])
 .ret)
 .skip))
 (.seq
 (.seq
 (.reg (oq 27 (.fad 7 (.s 3)) <|
 oq 28 (.load false 1 (.s 27)) <|
 oq 29 (.len (.s 28)) <|
 oq 30 (.mv (.k (.int .i64 0))) <|
 .nil) [1, 2, 28, 29, 30])
 (.blk 0
 (.loop ⟨[(1, .same), (2, .same), (28, .same), (29, .same), (30, .v)], [(.cells [.v]), .same]⟩ [(.ext 0, ⟨[], [(.cells [.v]), .same]⟩), (.ret, ⟨[(6, .v)], [(.cells [.v]), .same]⟩)]
 (.seq
 (.reg (oq 31 (.bin .lss (.s 30) (.s 29)) <|
 .nil) [1, 2, 28, 29, 30, 31])
 (.seq
 (.cond (.s 31)
 .skip
 (.exit 0))
 (.seq
 (.blk 1
 (.seq
 (.reg (oq 32 (.iad 8 (.s 28) (.s 30)) <|
 oq 33 (.load true 8 (.s 32)) <|
 oq 8 (.alloc zt8) <|
 oz (.store 8 (.s 8) (.s 33)) <|
 .nil) [1, 2, 8, 28, 29, 30])
 (.seq
 (.reg (oq 34 (.load true 8 (.s 8)) <|
 oq 35 (.mv (.s 1)) <|
 oq 36 (.bin .add (.s 35) (.k (.int .i64 1))) <|
 oq 37 (.mv (.s 2)) <|
 oq 38 (.call f_tree_check [.s 34, .s 36, .s 37]) <|
 oq 39 (.un .not (.s 38)) <|
 .nil) [1, 2, 28, 29, 30, 39])
 (.cond (.s 39)
 (.seq
 (.reg (oq 6 (.mv (.k (.bool false))) <|
 .nil) [6])
 .ret)
 .skip))))
 (.reg (oq 40 (.bin .add (.s 30) (.k (.int .i64 1))) <|
 oq 30 (.mv (.s 40)) <|
 .nil) [1, 2, 28, 29, 30])))))))
 (.seq
 (.reg (oq 6 (.mv (.k (.bool true))) <|
 .nil) [6])
 .ret)))))
def p_tree_check : PFn := ⟨[.tmp 6], q_tree_check⟩
def n_tree_check : Fn := ⟨3, [.tmp 6], false, false, erase q_tree_check⟩
def q_tree_own : PC :=
 (.seq
 (.reg (.box 8 1 (.s 0) <|
 oq 2 (.mv (.k (.bool false))) <|
 .nil) [1])
 (.seq
 (.drw (.nil)
 (oq 8 (.fad 1 (.s 1)) <|
 oq 9 (.load false 1 (.s 8)) <|
 oq 10 (.un .not (.s 9)) <|
 oq 11 (.fad 2 (.s 1)) <|
 oq 12 (.fad 0 (.s 11)) <|
 oq 13 (.load false 1 (.s 12)) <|
 oq 14 (.un .not (.s 13)) <|
 oq 15 (.mv (.s 14)) <|
 .grp 15 true (oq 16 (.fad 2 (.s 1)) <|
 oq 17 (.fad 1 (.s 16)) <|
 oq 18 (.load false 1 (.s 17)) <|
 oq 19 (.len (.s 18)) <|
 oq 20 (.bin .eql (.s 19) (.k (.int .i64 0))) <|
 .nil) 21 (.s 20) (.k (.bool false)) <|
 oq 22 (.mv (.s 21)) <|
 .grp 22 true (oq 23 (.fad 2 (.s 1)) <|
 oq 24 (.fad 2 (.s 23)) <|
 oq 25 (.load false 1 (.s 24)) <|
 oq 26 (.bin .eql (.s 25) (.k (.int .i64 0))) <|
 .nil) 27 (.s 26) (.k (.bool false)) <|
 oq 28 (.fad 5 (.s 1)) <|
 oq 29 (.load false 1 (.s 28)) <|
 oq 30 (.bin .eql (.s 29) (.k (.str []))) <|
 oq 3 (.mv (.s 10)) <|
 oq 4 (.mv (.s 27)) <|
 .nil)
 (oq 5 (.mv (.s 30)) <|
 .nil) [1, 3, 4, 5])
 (.seq
 (.drw (.nil)
 (oq 31 (.fad 6 (.s 1)) <|
 oq 32 (.load false 1 (.s 31)) <|
 oq 33 (.len (.s 32)) <|
 oq 34 (.bin .eql (.s 33) (.k (.int .i64 0))) <|
 oq 35 (.fad 7 (.s 1)) <|
 oq 36 (.load false 1 (.s 35)) <|
 oq 37 (.len (.s 36)) <|
 oq 38 (.bin .eql (.s 37) (.k (.int .i64 0))) <|
 oq 6 (.mv (.s 34)) <|
 .nil)
 (oq 7 (.mv (.s 38)) <|
 .nil) [1, 3, 4, 5, 6, 7])
 (.seq
 (.cut ⟨[(1, .same), (3, .v), (4, .v), (5, .v), (6, .v), (7, .v)], [.same]⟩ [(.nrm, ⟨[(3, .v), (4, .v), (5, .v), (6, .v), (7, .v)], [.same]⟩), (.ret, ⟨[(2, .v)], [.same]⟩)]
 (.seq
 (.reg (oq 39 (.fad 0 (.s 1)) <|
 oq 40 (.load false 1 (.s 39)) <|
 .nil) [1, 3, 4, 5, 6, 7, 40])
 (.blk 0
 (.seq
 (.blk 8
 (.seq
 (.cut ⟨[(1, .same), (3, .v), (4, .v), (5, .v), (6, .v), (7, .same), (40, .same)], [.same]⟩ [(.ext 0, ⟨[(3, .v), (4, .v), (5, .v), (6, .v), (7, .same)], [.same]⟩), (.ext 8, ⟨[], [.same]⟩), (.nrm, ⟨[(1, .same), (3, .v), (4, .v), (5, .v), (6, .v)], [.same]⟩)]
 (.blk 7
 (.seq
 (.blk 6
 (.seq
 (.blk 5
 (.seq
 (.blk 4
 (.seq
 (.blk 3
 (.seq
 (.blk 2
 (.seq
 (.blk 1
 (.seq
 (.seq
 (.seq
 (.reg (oq 42 (.bin .eql (.s 40) (.k (.int .i64 1))) <|
 oq 41 (.mv (.s 42)) <|
 .nil) [1, 3, 4, 5, 6, 7, 40, 41])
 (.cond (.s 41)
 (.exit 1)
 .skip))
 (.seq
 (.seq
 (.reg (oq 44 (.bin .eql (.s 40) (.k (.int .i64 2))) <|
 oq 43 (.mv (.s 44)) <|
 .nil) [1, 3, 4, 5, 6, 7, 40, 43])
 (.cond (.s 43)
 (.exit 2)
 .skip))
 (.seq
 (.seq
 (.reg (oq 46 (.bin .eql (.s 40) (.k (.int .i64 3))) <|
 oq 45 (.mv (.s 46)) <|
 .nil) [1, 3, 4, 5, 6, 7, 40, 45])
 (.cond (.s 45)
 (.exit 3)
 .skip))
 (.seq
 (.seq
 (.reg (oq 48 (.bin .eql (.s 40) (.k (.int .i64 4))) <|
 oq 47 (.mv (.s 48)) <|
 .nil) [1, 3, 4, 5, 6, 7, 40, 47])
 (.cond (.s 47)
 (.exit 4)
 .skip))
 (.seq
 (.seq
 (.reg (oq 50 (.bin .eql (.s 40) (.k (.int .i64 5))) <|
 oq 49 (.mv (.s 50)) <|
 .nil) [1, 3, 4, 5, 6, 7, 40, 49])
 (.cond (.s 49)
 (.exit 5)
 .skip))
 (.seq
 (.seq
 (.reg (oq 52 (.bin .eql (.s 40) (.k (.int .i64 7))) <|
 oq 51 (.mv (.s 52)) <|
 .nil) [1, 3, 4, 5, 6, 40, 51])
 (.cond (.s 51)
 (.exit 6)
 .skip))
 (.seq
 (.reg (oq 54 (.bin .eql (.s 40) (.k (.int .i64 6))) <|
 oq 53 (.mv (.s 54)) <|
 .nil) [1, 3, 4, 5, 6, 53])
 (.cond (.s 53)
 (.exit 7)
 .skip))))))))
 (.exit 8)))
 (.exit 0)))
 (.seq
 (.reg (oq 3 (.mv (.k (.bool true))) <|
 .nil) [3, 4, 5, 6, 7])
 (.exit 0))))
 (.seq
 (.reg (oq 55 (.fad 2 (.s 1)) <|
 oq 56 (.load true 3 (.s 55)) <|
 oq 57 (.call f_num_Check [.s 56]) <|
 oq 4 (.mv (.s 57)) <|
 .nil) [3, 4, 5, 6, 7])
 (.exit 0))))
 (.seq
 (.reg (oq 58 (.fad 5 (.s 1)) <|
 oq 59 (.load false 1 (.s 58)) <|
 oq 60 (.call f_tree_text [.s 59]) <|
 oq 5 (.mv (.s 60)) <|
 .nil) [3, 4, 5, 6, 7])
 (.exit 0))))
 (.seq
 (.reg (oq 61 (.fad 5 (.s 1)) <|
 oq 62 (.load false 1 (.s 61)) <|
 oq 63 (.lns (.s 62)) <|
 oq 64 (.bin .leq (.s 63) (.k (.int .i64 2000))) <|
 oq 5 (.mv (.s 64)) <|
 .nil) [3, 4, 5, 6, 7])
 (.exit 0))))
 (.reg (oq 65 (.fad 6 (.s 1)) <|
 oq 66 (.load false 1 (.s 65)) <|
 oq 67 (.call f_tree_names [.s 66]) <|
 oq 68 (.mv (.s 67)) <|
 .grp 68 true (oq 69 (.fad 6 (.s 1)) <|
 oq 70 (.load false 1 (.s 69)) <|
 oq 71 (.len (.s 70)) <|
 oq 72 (.fad 7 (.s 1)) <|
 oq 73 (.load false 1 (.s 72)) <|
 oq 74 (.len (.s 73)) <|
 oq 75 (.bin .eql (.s 71) (.s 74)) <|
 .nil) 76 (.s 75) (.k (.bool false)) <|
 oq 6 (.mv (.s 76)) <|
 .nil) [1, 3, 4, 5, 6]))))
 (.seq
 (.reg (oq 77 (.fad 7 (.s 1)) <|
 oq 78 (.load false 1 (.s 77)) <|
 oq 79 (.len (.s 78)) <|
 oq 80 (.bin .leq (.s 79) (.k (.int .i64 300))) <|
 oq 7 (.mv (.s 80)) <|
 .nil) [3, 4, 5, 6, 7])
 (.exit 0))))
 (.seq
 (.seq
 (.reg (oq 2 (.mv (.k (.bool false))) <|
 .nil) [2])
 .ret)
 (.exit 0))))))
 (.seq
 (.reg (oq 81 (.mv (.s 3)) <|
 oq 82 (.mv (.s 81)) <|
 .grp 82 true (oq 83 (.mv (.s 4)) <|
 .nil) 84 (.s 83) (.k (.bool false)) <|
 oq 85 (.mv (.s 84)) <|
 .grp 85 true (oq 86 (.mv (.s 5)) <|
 .nil) 87 (.s 86) (.k (.bool false)) <|
 oq 88 (.mv (.s 87)) <|
 .grp 88 true (oq 89 (.mv (.s 6)) <|
 .nil) 90 (.s 89) (.k (.bool false)) <|
 oq 91 (.mv (.s 90)) <|
 .grp 91 true (oq 92 (.mv (.s 7)) <|
 .nil) 93 (.s 92) (.k (.bool false)) <|
 oq 2 (.mv (.s 93)) <|
 .nil) [2])
 .ret)))))
def p_tree_own : PFn := ⟨[.tmp 2], q_tree_own⟩
def n_tree_own : Fn := ⟨1, [.tmp 2], false, false, erase q_tree_own⟩
def q_num_Check : PC :=
 (.seq
 (.reg (.box 3 1 (.s 0) <|
 oq 2 (.mv (.k (.bool false))) <|
 .nil) [1])
 (.seq
 (.reg (oq 6 (.fad 1 (.s 1)) <|
 oq 7 (.load false 1 (.s 6)) <|
 oq 8 (.len (.s 7)) <|
 oq 3 (.mv (.s 8)) <|
 .nil) [1, 3])
 (.seq
 (.seq
 (.reg (oq 9 (.mv (.s 3)) <|
 oq 10 (.bin .eql (.s 9) (.k (.int .i64 0))) <|
 .nil) [1, 3, 10])
 (.cond (.s 10)
 (.seq
 (.reg (oq 11 (.fad 0 (.s 1)) <|
 oq 12 (.load false 1 (.s 11)) <|
 oq 13 (.un .not (.s 12)) <|
 oq 14 (.mv (.s 13)) <|
 .grp 14 true (oq 15 (.fad 2 (.s 1)) <|
 oq 16 (.load false 1 (.s 15)) <|
 oq 17 (.bin .eql (.s 16) (.k (.int .i64 0))) <|
 .nil) 18 (.s 17) (.k (.bool false)) <|
 oq 2 (.mv (.s 18)) <|
 .nil) [2])
 .ret)
 .skip))
 (.seq
 (.seq
 (.reg (oq 19 (.mv (.s 3)) <|
 oq 20 (.bin .gtr (.s 19) (.k (.int .i64 90))) <|
 oq 21 (.mv (.s 20)) <|
 .grp 21 false (oq 22 (.fad 1 (.s 1)) <|
 oq 23 (.load false 1 (.s 22)) <|
 oq 24 (.mv (.s 3)) <|
 oq 25 (.bin .sub (.s 24) (.k (.int .i64 1))) <|
 oq 26 (.iad 1 (.s 23) (.s 25)) <|
 oq 27 (.load false 1 (.s 26)) <|
 oq 28 (.bin .eql (.s 27) (.k (.int .u32 0))) <|
 .nil) 29 (.s 28) (.k (.bool true)) <|
 oq 30 (.mv (.s 29)) <|
 .grp 30 false (oq 31 (.fad 2 (.s 1)) <|
 oq 32 (.load false 1 (.s 31)) <|
 oq 33 (.bin .lss (.s 32) (.k (.int .i64 (-1200)))) <|
 .nil) 34 (.s 33) (.k (.bool true)) <|
 oq 35 (.mv (.s 34)) <|
 .grp 35 false (oq 36 (.fad 2 (.s 1)) <|
 oq 37 (.load false 1 (.s 36)) <|
 oq 38 (.bin .gtr (.s 37) (.k (.int .i64 1200))) <|
 .nil) 39 (.s 38) (.k (.bool true)) <|
 .nil) [1, 39])
 (.cond (.s 39)
 (.seq
 (.reg (oq 2 (.mv (.k (.bool false))) <|
 .nil) [2])
 .ret)
 .skip))
 (.seq
 (.reg (oq 41 (.fad 1 (.s 1)) <|
 oq 42 (.load false 1 (.s 41)) <|
 oq 43 (.call f_nat_Trim [.s 42]) <|
 oq 40 (.mv (.s 43)) <|
 oq 44 (.ext (.s 40) 0) <|
 oq 45 (.ext (.s 40) 1) <|
 oq 4 (.mv (.s 44)) <|
 oq 5 (.mv (.s 45)) <|
 .nil) [5])
 (.seq
 (.reg (oq 46 (.mv (.s 5)) <|
 oq 47 (.bin .eql (.s 46) (.k (.int .i64 0))) <|
 oq 2 (.mv (.s 47)) <|
 .nil) [2])
 .ret))))))
def p_num_Check : PFn := ⟨[.tmp 2], q_num_Check⟩
def n_num_Check : Fn := ⟨1, [.tmp 2], false, false, erase q_num_Check⟩
def q_tree_text : PC :=
 (.seq
 (.reg (oq 2 (.mv (.k (.bool false))) <|
 .nil) [0])
 (.seq
 (.reg (oq 3 (.mv (.s 0)) <|
 oq 4 (.lns (.s 3)) <|
 oq 5 (.bin .leq (.s 4) (.k (.int .i64 2000))) <|
 oq 6 (.mv (.s 5)) <|
 .grp 6 true (oq 7 (.mv (.s 0)) <|
 oq 8 (.call f_utf_Valid [.s 7]) <|
 .nil) 9 (.s 8) (.k (.bool false)) <|
 oq 2 (.mv (.s 9)) <|
 .nil) [2])
 .ret))
def p_tree_text : PFn := ⟨[.tmp 2], q_tree_text⟩
def n_tree_text : Fn := ⟨1, [.tmp 2], false, false, erase q_tree_text⟩
def q_tree_names : PC :=
 (.seq
 (.reg (oq 2 (.mv (.k (.bool false))) <|
 .nil) [0])
 (.seq
 (.seq
 (.reg (oq 5 (.mv (.s 0)) <|
 oq 6 (.len (.s 5)) <|
 oq 7 (.mv (.k (.int .i64 0))) <|
 .nil) [0, 5, 6, 7])
 (.blk 0
 (.loop ⟨[(0, .same), (5, .same), (6, .same), (7, .v)], []⟩ [(.ext 0, ⟨[(0, .same)], []⟩), (.ret, ⟨[(2, .v)], []⟩)]
 (.seq
 (.reg (oq 8 (.bin .lss (.s 7) (.s 6)) <|
 .nil) [0, 5, 6, 7, 8])
 (.seq
 (.cond (.s 8)
 .skip
 (.exit 0))
 (.seq
 (.blk 1
 (.seq
 (.reg (oq 9 (.mv (.s 7)) <|
 oq 10 (.iad 1 (.s 5) (.s 7)) <|
 oq 11 (.load false 1 (.s 10)) <|
 oq 3 (.mv (.s 9)) <|
 oq 4 (.mv (.s 11)) <|
 .nil) [0, 3, 4, 5, 6, 7])
 (.seq
 (.reg (oq 12 (.mv (.s 4)) <|
 oq 13 (.call f_tree_text [.s 12]) <|
 oq 14 (.un .not (.s 13)) <|
 oq 15 (.mv (.s 14)) <|
 .grp 15 false (oq 16 (.mv (.s 3)) <|
 oq 17 (.bin .gtr (.s 16) (.k (.int .i64 0))) <|
 oq 18 (.mv (.s 17)) <|
 .grp 18 true (oq 19 (.mv (.s 0)) <|
 oq 20 (.mv (.s 3)) <|
 oq 21 (.bin .sub (.s 20) (.k (.int .i64 1))) <|
 oq 22 (.iad 1 (.s 19) (.s 21)) <|
 oq 23 (.load false 1 (.s 22)) <|
 oq 24 (.mv (.s 4)) <|
 oq 25 (.bin .geq (.s 23) (.s 24)) <|
 .nil) 26 (.s 25) (.k (.bool false)) <|
 .nil) 27 (.s 26) (.k (.bool true)) <|
 .nil) [0, 5, 6, 7, 27])
 (.cond (.s 27)
 (.seq
 (.reg (oq 2 (.mv (.k (.bool false))) <|
 .nil) [2])
 .ret)
 .skip))))
 (.reg (oq 28 (.bin .add (.s 7) (.k (.int .i64 1))) <|
 oq 7 (.mv (.s 28)) <|
 .nil) [0, 5, 6, 7])))))))
 (.seq
 (.reg (oq 29 (.mv (.s 0)) <|
 oq 30 (.len (.s 29)) <|
 oq 31 (.bin .leq (.s 30) (.k (.int .i64 300))) <|
 oq 2 (.mv (.s 31)) <|
 .nil) [2])
 .ret)))
def p_tree_names : PFn := ⟨[.tmp 2], q_tree_names⟩
def n_tree_names : Fn := ⟨1, [.tmp 2], false, false, erase q_tree_names⟩
def q_nat_Trim : PC :=
 (.seq
 (.reg (oq 2 (.mv (.k (.sl .full 0 []))) <|
 oq 3 (.mv (.k (.int .i64 0))) <|
 .nil) [0])
 (.seq
 (.reg (oq 7 (.mv (.s 0)) <|
 oq 8 (.call f_nat_Norm [.s 7]) <|
 oq 0 (.mv (.s 8)) <|
 .nil) [0])
 (.seq
 (.reg (oq 4 (.mv (.k (.int .i64 0))) <|
 .nil) [0, 4])
 (.seq
 .skip
 (.seq
 (.blk 0
 (.loop ⟨[(0, .v), (4, .v)], []⟩ [(.ext 0, ⟨[(0, .v), (4, .v)], []⟩)]
 (.seq
 (.seq
 (.reg (oq 9 (.mv (.s 0)) <|
 oq 10 (.len (.s 9)) <|
 oq 11 (.bin .gtr (.s 10) (.k (.int .i64 0))) <|
 .nil) [0, 4, 11])
 (.cond (.s 11)
 .skip
 (.exit 0)))
 (.blk 1
 (.seq
 (.reg (oq 13 (.mv (.s 0)) <|
 oq 14 (.call f_nat_small [.s 13, (.k (.int .u32 10))]) <|
 oq 12 (.mv (.s 14)) <|
 oq 15 (.ext (.s 12) 0) <|
 oq 16 (.ext (.s 12) 1) <|
 oq 5 (.mv (.s 15)) <|
 oq 6 (.mv (.s 16)) <|
 .nil) [0, 4, 5, 6])
 (.seq
 (.seq
 (.reg (oq 17 (.mv (.s 6)) <|
 oq 18 (.bin .neq (.s 17) (.k (.int .u32 0))) <|
 .nil) [0, 4, 5, 18])
 (.cond (.s 18)
 (.exit 0)
 .skip))
 (.seq
 (.reg (oq 19 (.mv (.s 5)) <|
 oq 0 (.mv (.s 19)) <|
 .nil) [0, 4])
 (.reg (oq 20 (.mv (.s 4)) <|
 oq 21 (.bin .add (.s 20) (.k (.int .i64 1))) <|
 oq 4 (.mv (.s 21)) <|
 .nil) [0, 4]))))))))
 (.seq
 (.reg (oq 22 (.mv (.s 0)) <|
 oq 23 (.mv (.s 4)) <|
 oq 2 (.mv (.s 22)) <|
 oq 3 (.mv (.s 23)) <|
 .nil) [2, 3])
 .ret))))))
def p_nat_Trim : PFn := ⟨[.tmp 2, .tmp 3], q_nat_Trim⟩
def n_nat_Trim : Fn := ⟨1, [.tmp 2, .tmp 3], false, false, erase q_nat_Trim⟩
def q_utf_Valid : PC :=
 (.seq
 (.reg (oq 2 (.mv (.k (.bool false))) <|
 .nil) [0])
 (.seq
 .skip
 (.seq
 (.seq
 (.reg (oq 7 (.mv (.s 0)) <|
 oq 8 (.rng (.s 7)) <|
 .nil) [0, 8])
 (.blk 0
 (.loop ⟨[(0, .same), (8, .same)], [.iter]⟩ [(.ext 0, ⟨[], [.dead]⟩), (.ret, ⟨[(2, .v)], [.dead]⟩)]
 (.seq
 (.reg (oq 9 (.nxt (.s 8)) <|
 oq 10 (.ext (.s 9) 0) <|
 .nil) [0, 8, 9, 10])
 (.seq
 (.cond (.s 10)
 .skip
 (.exit 0))
 (.blk 1
 (.seq
 (.reg (oq 11 (.ext (.s 9) 1) <|
 oq 12 (.ext (.s 9) 2) <|
 oq 3 (.mv (.s 11)) <|
 oq 4 (.mv (.s 12)) <|
 .nil) [0, 3, 4, 8])
 (.seq
 (.seq
 (.reg (oq 13 (.mv (.s 4)) <|
 oq 14 (.bin .neq (.s 13) (.k (.int .i32 65533))) <|
 .nil) [0, 3, 8, 14])
 (.cond (.s 14)
 (.exit 1)
 .skip))
 (.seq
 (.reg (oq 16 (.mv (.s 0)) <|
 oq 17 (.mv (.s 3)) <|
 oq 18 (.sls (.s 16) (some (.s 17)) none) <|
 oq 19 (.call f_unicode_utf8_DecodeRuneInString [.s 18]) <|
 oq 15 (.mv (.s 19)) <|
 oq 20 (.ext (.s 15) 0) <|
 oq 21 (.ext (.s 15) 1) <|
 oq 5 (.mv (.s 20)) <|
 oq 6 (.mv (.s 21)) <|
 .nil) [0, 6, 8])
 (.seq
 (.reg (oq 22 (.mv (.s 6)) <|
 oq 23 (.bin .eql (.s 22) (.k (.int .i64 1))) <|
 .nil) [0, 8, 23])
 (.cond (.s 23)
 (.seq
 (.reg (oq 2 (.mv (.k (.bool false))) <|
 .nil) [2])
 .ret)
 .skip)))))))))))
 (.seq
 (.reg (oq 2 (.mv (.k (.bool true))) <|
 .nil) [2])
 .ret))))
def p_utf_Valid : PFn := ⟨[.tmp 2], q_utf_Valid⟩
def n_utf_Valid : Fn := ⟨1, [.tmp 2], false, false, erase q_utf_Valid⟩
def q_nat_Norm : PC :=
 (.seq
 (.reg (oq 2 (.mv (.k (.sl .full 0 []))) <|
 .nil) [0])
 (.seq
 (.reg (oq 5 (.mv (.s 0)) <|
 oq 6 (.len (.s 5)) <|
 oq 3 (.mv (.s 6)) <|
 .nil) [0, 3])
 (.seq
 (.blk 0
 (.loop ⟨[(0, .same), (3, .v)], []⟩ [(.ext 0, ⟨[(0, .same), (3, .v)], []⟩)]
 (.seq
 (.seq
 (.reg (oq 7 (.mv (.s 3)) <|
 oq 8 (.bin .gtr (.s 7) (.k (.int .i64 0))) <|
 oq 9 (.mv (.s 8)) <|
 .grp 9 true (oq 10 (.mv (.s 0)) <|
 oq 11 (.mv (.s 3)) <|
 oq 12 (.bin .sub (.s 11) (.k (.int .i64 1))) <|
 oq 13 (.iad 1 (.s 10) (.s 12)) <|
 oq 14 (.load false 1 (.s 13)) <|
 oq 15 (.bin .eql (.s 14) (.k (.int .u32 0))) <|
 .nil) 16 (.s 15) (.k (.bool false)) <|
 .nil) [0, 3, 16])
 (.cond (.s 16)
 .skip
 (.exit 0)))
 (.blk 1
 (.reg (oq 17 (.mv (.s 3)) <|
 oq 18 (.bin .sub (.s 17) (.k (.int .i64 1))) <|
 oq 3 (.mv (.s 18)) <|
 .nil) [0, 3])))))
 (.seq
 (.seq
 (.reg (oq 19 (.mv (.s 3)) <|
 oq 20 (.bin .eql (.s 19) (.k (.int .i64 0))) <|
 .nil) [0, 3, 20])
 (.cond (.s 20)
 (.seq
 (.reg (oq 2 (.mv (.k (.sl .full 0 []))) <|
 .nil) [2])
 .ret)
 .skip))
 (.seq
 (.reg (oq 21 (.mv (.s 3)) <|
 oq 22 (.mks [.int .u32 0] 4 (.s 21) (.s 21)) <|
 oq 4 (.mv (.s 22)) <|
 .nil) [0, 4])
 (.seq
 (.reg (oq 23 (.mv (.s 4)) <|
 oq 24 (.mv (.s 0)) <|
 oq 25 (.cpy 1 (.s 23) (.s 24)) <|
 .nil) [4])
 (.seq
 (.reg (oq 26 (.mv (.s 4)) <|
 oq 2 (.mv (.s 26)) <|
 .nil) [2])
 .ret)))))))
def p_nat_Norm : PFn := ⟨[.tmp 2], q_nat_Norm⟩
def n_nat_Norm : Fn := ⟨1, [.tmp 2], false, false, erase q_nat_Norm⟩
def q_nat_small : PC :=
 (.seq
 (.reg (oq 4 (.mv (.k (.sl .full 0 []))) <|
 oq 5 (.mv (.k (.int .u32 0))) <|
 .nil) [0, 1])
 (.seq
 (.reg (oq 9 (.mv (.s 0)) <|
 oq 10 (.len (.s 9)) <|
 oq 11 (.mks [.int .u32 0] 4 (.s 10) (.s 10)) <|
 oq 6 (.mv (.s 11)) <|
 .nil) [0, 1, 6])
 (.seq
 (.reg (oq 7 (.mv (.k (.int .u64 0))) <|
 .nil) [0, 1, 6, 7])
 (.seq
 (.seq
 (.reg (oq 12 (.mv (.s 0)) <|
 oq 13 (.len (.s 12)) <|
 oq 14 (.bin .sub (.s 13) (.k (.int .i64 1))) <|
 oq 8 (.mv (.s 14)) <|
 .nil) [0, 1, 6, 7, 8])
 (.blk 0
 (.loop ⟨[(0, .same), (1, .same), (6, .same), (7, .v), (8, .v)], [(.arr .no 1)]⟩ [(.ext 0, ⟨[(6, .same), (7, .v)], [(.arr .no 1)]⟩)]
 (.seq
 (.seq
 (.reg (oq 15 (.mv (.s 8)) <|
 oq 16 (.bin .geq (.s 15) (.k (.int .i64 0))) <|
 .nil) [0, 1, 6, 7, 8, 16])
 (.cond (.s 16)
 .skip
 (.exit 0)))
 (.seq
 (.blk 1
 (.seq
 (.reg (oq 19 (.mv (.s 7)) <|
 oq 20 (.bin .shl (.s 19) (.k (.int .u64 32))) <|
 oq 21 (.mv (.s 0)) <|
 oq 22 (.mv (.s 8)) <|
 oq 23 (.iad 1 (.s 21) (.s 22)) <|
 oq 24 (.load false 1 (.s 23)) <|
 oq 25 (.cvi .u64 (.s 24)) <|
 oq 26 (.bin .or (.s 20) (.s 25)) <|
 oq 7 (.mv (.s 26)) <|
 .nil) [0, 1, 6, 7, 8])
 (.seq
 (.reg (oq 27 (.mv (.s 6)) <|
 oq 28 (.mv (.s 8)) <|
 oq 29 (.mv (.s 7)) <|
 oq 30 (.mv (.s 1)) <|
 oq 31 (.cvi .u64 (.s 30)) <|
 oq 32 (.bin .quo (.s 29) (.s 31)) <|
 oq 33 (.cvi .u32 (.s 32)) <|
 oq 34 (.iad 1 (.s 27) (.s 28)) <|
 oz (.store 1 (.s 34) (.s 33)) <|
 .nil) [0, 1, 6, 7, 8])
 (.reg (oq 35 (.mv (.s 7)) <|
 oq 36 (.mv (.s 1)) <|
 oq 37 (.cvi .u64 (.s 36)) <|
 oq 38 (.bin .rem (.s 35) (.s 37)) <|
 oq 7 (.mv (.s 38)) <|
 .nil) [0, 1, 6, 7, 8]))))
 (.reg (oq 17 (.mv (.s 8)) <|
 oq 18 (.bin .sub (.s 17) (.k (.int .i64 1))) <|
 oq 8 (.mv (.s 18)) <|
 .nil) [0, 1, 6, 7, 8]))))))
 (.seq
 (.reg (oq 39 (.mv (.s 6)) <|
 oq 40 (.call f_nat_Norm [.s 39]) <|
 oq 41 (.mv (.s 7)) <|
 oq 42 (.cvi .u32 (.s 41)) <|
 oq 4 (.mv (.s 40)) <|
 oq 5 (.mv (.s 42)) <|
 .nil) [4, 5])
 .ret)))))
def p_nat_small : PFn := ⟨[.tmp 4, .tmp 5], q_nat_small⟩
def n_nat_small : Fn := ⟨2, [.tmp 4, .tmp 5], false, false, erase q_nat_small⟩
def q_unicode_utf8_DecodeRuneInString : PC :=
 (.seq
 (.reg (oq 2 (.mv (.k (.int .i32 0))) <|
 oq 3 (.mv (.k (.int .i64 0))) <|
 .nil) [0])
 (.seq
 (.seq
 (.reg (oq 4 (.mv (.s 0)) <|
 oq 5 (.bin .neq (.s 4) (.k (.str []))) <|
 oq 6 (.mv (.s 5)) <|
 .grp 6 true (oq 7 (.mv (.s 0)) <|
 oq 8 (.ixs (.s 7) (.k (.int .i64 0))) <|
 oq 9 (.bin .lss (.s 8) (.k (.int .u8 128))) <|
 .nil) 10 (.s 9) (.k (.bool false)) <|
 .nil) [0, 10])
 (.cond (.s 10)
 (.seq
 (.reg (oq 11 (.mv (.s 0)) <|
 oq 12 (.ixs (.s 11) (.k (.int .i64 0))) <|
 oq 13 (.cvi .i32 (.s 12)) <|
 oq 2 (.mv (.s 13)) <|
 oq 3 (.mv (.k (.int .i64 1))) <|
 .nil) [2, 3])
 .ret)
 (.reg (oq 15 (.mv (.s 0)) <|
 oq 16 (.call f_unicode_utf8_decodeRuneInStringSlow [.s 15]) <|
 oq 14 (.mv (.s 16)) <|
 oq 17 (.ext (.s 14) 0) <|
 oq 18 (.ext (.s 14) 1) <|
 oq 2 (.mv (.s 17)) <|
 oq 3 (.mv (.s 18)) <|
 .nil) [2, 3])))
 .ret))
def p_unicode_utf8_DecodeRuneInString : PFn := ⟨[.tmp 2, .tmp 3], q_unicode_utf8_DecodeRuneInString⟩
def n_unicode_utf8_DecodeRuneInString : Fn := ⟨1, [.tmp 2, .tmp 3], false, false, erase q_unicode_utf8_DecodeRuneInString⟩
def q_unicode_utf8_decodeRuneInStringSlow : PC :=
 (.seq
 (.reg (oq 2 (.mv (.k (.int .i32 0))) <|
 oq 3 (.mv (.k (.int .i64 0))) <|
 .nil) [0])
 (.seq
 (.reg (oq 13 (.mv (.s 0)) <|
 oq 14 (.lns (.s 13)) <|
 oq 4 (.mv (.s 14)) <|
 .nil) [0, 4])
 (.seq
 (.seq
 (.reg (oq 15 (.mv (.s 4)) <|
 oq 16 (.bin .lss (.s 15) (.k (.int .i64 1))) <|
 .nil) [0, 4, 16])
 (.cond (.s 16)
 (.seq
 (.reg (oq 2 (.mv (.k (.int .i32 65533))) <|
 oq 3 (.mv (.k (.int .i64 0))) <|
 .nil) [2, 3])
 .ret)
 .skip))
 (.seq
 (.reg (oq 17 (.mv (.s 0)) <|
 oq 18 (.ixs (.s 17) (.k (.int .i64 0))) <|
 oq 5 (.mv (.s 18)) <|
 .nil) [0, 4, 5])
 (.seq
 (.reg (oq 19 (.mv (.s 5)) <|
 oq 20 (.iaa 256 1 (.g 0) (.s 19)) <|
 oq 21 (.load false 1 (.s 20)) <|
 oq 6 (.mv (.s 21)) <|
 .nil) [0, 4, 5, 6])
 (.seq
 (.seq
 (.reg (oq 22 (.mv (.s 6)) <|
 oq 23 (.bin .geq (.s 22) (.k (.int .u8 240))) <|
 .nil) [0, 4, 5, 6, 23])
 (.cond (.s 23)
 (.seq
 (.reg (oq 24 (.mv (.s 6)) <|
 oq 25 (.cvi .i32 (.s 24)) <|
 oq 26 (.bin .shl (.s 25) (.k (.int .u64 31))) <|
 oq 27 (.bin .shr (.s 26) (.k (.int .u64 31))) <|
 oq 7 (.mv (.s 27)) <|
 .nil) [0, 7])
 (.seq
 (.reg (oq 28 (.mv (.s 0)) <|
 oq 29 (.ixs (.s 28) (.k (.int .i64 0))) <|
 oq 30 (.cvi .i32 (.s 29)) <|
 oq 31 (.mv (.s 7)) <|
 oq 32 (.bin .andNot (.s 30) (.s 31)) <|
 oq 33 (.mv (.s 7)) <|
 oq 34 (.bin .and (.k (.int .i32 65533)) (.s 33)) <|
 oq 35 (.bin .or (.s 32) (.s 34)) <|
 oq 2 (.mv (.s 35)) <|
 oq 3 (.mv (.k (.int .i64 1))) <|
 .nil) [2, 3])
 .ret))
 .skip))
 (.seq
 (.reg (oq 36 (.mv (.s 6)) <|
 oq 37 (.bin .and (.s 36) (.k (.int .u8 7))) <|
 oq 38 (.cvi .i64 (.s 37)) <|
 oq 8 (.mv (.s 38)) <|
 .nil) [0, 4, 5, 6, 8])
 (.seq
 (.reg (oq 39 (.mv (.s 6)) <|
 oq 40 (.bin .shr (.s 39) (.k (.int .u64 4))) <|
 oq 41 (.iaa 16 2 (.g 1) (.s 40)) <|
 oq 42 (.load true 2 (.s 41)) <|
 oq 9 (.alloc [.int .u8 0, .int .u8 0]) <|
 oz (.store 2 (.s 9) (.s 42)) <|
 .nil) [0, 4, 5, 8, 9])
 (.seq
 (.seq
 (.reg (oq 43 (.mv (.s 4)) <|
 oq 44 (.mv (.s 8)) <|
 oq 45 (.bin .lss (.s 43) (.s 44)) <|
 .nil) [0, 5, 8, 9, 45])
 (.cond (.s 45)
 (.seq
 (.reg (oq 2 (.mv (.k (.int .i32 65533))) <|
 oq 3 (.mv (.k (.int .i64 1))) <|
 .nil) [2, 3])
 .ret)
 .skip))
 (.seq
 (.reg (oq 46 (.mv (.s 0)) <|
 oq 47 (.ixs (.s 46) (.k (.int .i64 1))) <|
 oq 10 (.mv (.s 47)) <|
 .nil) [0, 5, 8, 9, 10])
 (.seq
 (.seq
 (.reg (oq 48 (.mv (.s 10)) <|
 oq 49 (.fad 0 (.s 9)) <|
 oq 50 (.load false 1 (.s 49)) <|
 oq 51 (.bin .lss (.s 48) (.s 50)) <|
 oq 52 (.mv (.s 51)) <|
 .grp 52 false (oq 53 (.fad 1 (.s 9)) <|
 oq 54 (.load false 1 (.s 53)) <|
 oq 55 (.mv (.s 10)) <|
 oq 56 (.bin .lss (.s 54) (.s 55)) <|
 .nil) 57 (.s 56) (.k (.bool true)) <|
 .nil) [0, 5, 8, 10, 57])
 (.cond (.s 57)
 (.seq
 (.reg (oq 2 (.mv (.k (.int .i32 65533))) <|
 oq 3 (.mv (.k (.int .i64 1))) <|
 .nil) [2, 3])
 .ret)
 .skip))
 (.seq
 (.seq
 (.reg (oq 58 (.mv (.s 8)) <|
 oq 59 (.bin .leq (.s 58) (.k (.int .i64 2))) <|
 .nil) [0, 5, 8, 10, 59])
 (.cond (.s 59)
 (.seq
 (.reg (oq 60 (.mv (.s 5)) <|
 oq 61 (.bin .and (.s 60) (.k (.int .u8 31))) <|
 oq 62 (.cvi .i32 (.s 61)) <|
 oq 63 (.bin .shl (.s 62) (.k (.int .u64 6))) <|
 oq 64 (.mv (.s 10)) <|
 oq 65 (.bin .and (.s 64) (.k (.int .u8 63))) <|
 oq 66 (.cvi .i32 (.s 65)) <|
 oq 67 (.bin .or (.s 63) (.s 66)) <|
 oq 2 (.mv (.s 67)) <|
 oq 3 (.mv (.k (.int .i64 2))) <|
 .nil) [2, 3])
 .ret)
 .skip))
 (.seq
 (.reg (oq 68 (.mv (.s 0)) <|
 oq 69 (.ixs (.s 68) (.k (.int .i64 2))) <|
 oq 11 (.mv (.s 69)) <|
 .nil) [0, 5, 8, 10, 11])
 (.seq
 (.seq
 (.reg (oq 70 (.mv (.s 11)) <|
 oq 71 (.bin .lss (.s 70) (.k (.int .u8 128))) <|
 oq 72 (.mv (.s 71)) <|
 .grp 72 false (oq 73 (.mv (.s 11)) <|
 oq 74 (.bin .lss (.k (.int .u8 191)) (.s 73)) <|
 .nil) 75 (.s 74) (.k (.bool true)) <|
 .nil) [0, 5, 8, 10, 11, 75])
 (.cond (.s 75)
 (.seq
 (.reg (oq 2 (.mv (.k (.int .i32 65533))) <|
 oq 3 (.mv (.k (.int .i64 1))) <|
 .nil) [2, 3])
 .ret)
 .skip))
 (.seq
 (.seq
 (.reg (oq 76 (.mv (.s 8)) <|
 oq 77 (.bin .leq (.s 76) (.k (.int .i64 3))) <|
 .nil) [0, 5, 10, 11, 77])
 (.cond (.s 77)
 (.seq
 (.reg (oq 78 (.mv (.s 5)) <|
 oq 79 (.bin .and (.s 78) (.k (.int .u8 15))) <|
 oq 80 (.cvi .i32 (.s 79)) <|
 oq 81 (.bin .shl (.s 80) (.k (.int .u64 12))) <|
 oq 82 (.mv (.s 10)) <|
 oq 83 (.bin .and (.s 82) (.k (.int .u8 63))) <|
 oq 84 (.cvi .i32 (.s 83)) <|
 oq 85 (.bin .shl (.s 84) (.k (.int .u64 6))) <|
 oq 86 (.bin .or (.s 81) (.s 85)) <|
 oq 87 (.mv (.s 11)) <|
 oq 88 (.bin .and (.s 87) (.k (.int .u8 63))) <|
 oq 89 (.cvi .i32 (.s 88)) <|
 oq 90 (.bin .or (.s 86) (.s 89)) <|
 oq 2 (.mv (.s 90)) <|
 oq 3 (.mv (.k (.int .i64 3))) <|
 .nil) [2, 3])
 .ret)
 .skip))
 (.seq
 (.reg (oq 91 (.mv (.s 0)) <|
 oq 92 (.ixs (.s 91) (.k (.int .i64 3))) <|
 oq 12 (.mv (.s 92)) <|
 .nil) [5, 10, 11, 12])
 (.seq
 (.seq
 (.reg (oq 93 (.mv (.s 12)) <|
 oq 94 (.bin .lss (.s 93) (.k (.int .u8 128))) <|
 oq 95 (.mv (.s 94)) <|
 .grp 95 false (oq 96 (.mv (.s 12)) <|
 oq 97 (.bin .lss (.k (.int .u8 191)) (.s 96)) <|
 .nil) 98 (.s 97) (.k (.bool true)) <|
 .nil) [5, 10, 11, 12, 98])
 (.cond (.s 98)
 (.seq
 (.reg (oq 2 (.mv (.k (.int .i32 65533))) <|
 oq 3 (.mv (.k (.int .i64 1))) <|
 .nil) [2, 3])
 .ret)
 .skip))
 (.seq
 (.reg (oq 99 (.mv (.s 5)) <|
 oq 100 (.bin .and (.s 99) (.k (.int .u8 7))) <|
 oq 101 (.cvi .i32 (.s 100)) <|
 oq 102 (.bin .shl (.s 101) (.k (.int .u64 18))) <|
 oq 103 (.mv (.s 10)) <|
 oq 104 (.bin .and (.s 103) (.k (.int .u8 63))) <|
 oq 105 (.cvi .i32 (.s 104)) <|
 oq 106 (.bin .shl (.s 105) (.k (.int .u64 12))) <|
 oq 107 (.bin .or (.s 102) (.s 106)) <|
 oq 108 (.mv (.s 11)) <|
 oq 109 (.bin .and (.s 108) (.k (.int .u8 63))) <|
 oq 110 (.cvi .i32 (.s 109)) <|
 oq 111 (.bin .shl (.s 110) (.k (.int .u64 6))) <|
 oq 112 (.bin .or (.s 107) (.s 111)) <|
 oq 113 (.mv (.s 12)) <|
 oq 114 (.bin .and (.s 113) (.k (.int .u8 63))) <|
 oq 115 (.cvi .i32 (.s 114)) <|
 oq 116 (.bin .or (.s 112) (.s 115)) <|
 oq 2 (.mv (.s 116)) <|
 oq 3 (.mv (.k (.int .i64 4))) <|
 .nil) [2, 3])
 .ret))))))))))))))))))
def p_unicode_utf8_decodeRuneInStringSlow : PFn := ⟨[.tmp 2, .tmp 3], q_unicode_utf8_decodeRuneInStringSlow⟩
def n_unicode_utf8_decodeRuneInStringSlow : Fn := ⟨1, [.tmp 2, .tmp 3], false, false, erase q_unicode_utf8_decodeRuneInStringSlow⟩
def tab0 : Nat → Option PFn := fun f => (match f with | 3 => some p_law05_TreeLimits | 8 => some p_law00_Place | 9 => some p_tree_Check | 10 => some p_tree_Depth | 11 => some p_tree_Weight | 12 => some p_law05_awake | 16 => some p_tree_Nodes | 31 => some p_tree_check | 58 => some p_tree_own | 80 => some p_num_Check | 81 => some p_tree_text | 82 => some p_tree_names | 93 => some p_nat_Trim | 94 => some p_utf_Valid | 100 => some p_nat_Norm | 101 => some p_nat_small | 102 => some p_unicode_utf8_DecodeRuneInString | 105 => some p_unicode_utf8_decodeRuneInStringSlow | _ => none)
def fnTab : List (Nat × Fn) := [(f_law05_TreeLimits, n_law05_TreeLimits), (f_law00_Place, n_law00_Place), (f_tree_Check, n_tree_Check), (f_tree_Depth, n_tree_Depth), (f_tree_Weight, n_tree_Weight), (f_law05_awake, n_law05_awake), (f_tree_Nodes, n_tree_Nodes), (f_tree_check, n_tree_check), (f_tree_own, n_tree_own), (f_num_Check, n_num_Check), (f_tree_text, n_tree_text), (f_tree_names, n_tree_names), (f_nat_Trim, n_nat_Trim), (f_utf_Valid, n_utf_Valid), (f_nat_Norm, n_nat_Norm), (f_nat_small, n_nat_small), (f_unicode_utf8_DecodeRuneInString, n_unicode_utf8_DecodeRuneInString), (f_unicode_utf8_decodeRuneInStringSlow, n_unicode_utf8_decodeRuneInStringSlow)]
def ex0 : Nat → Option (List D → List D → Option D) := fun _ => none
def glT : Nat → Option (List V) := fun g => match g with | 0 => some G_0 | 1 => some G_1 | _ => none
def E0 : Env := ⟨look fnTab, fun g => (glT g).map toDL, ex0⟩
def md0 : Nat → Md := fun f => (match f with | _ => .pl)
def tx0 : Nat → Option (List V → Option V) := fun _ => none
def gl0 : Gl := ⟨glT, md0, tx0⟩
noncomputable def P0 : PcT := pcL gl0 tab0
end Go.Ev
