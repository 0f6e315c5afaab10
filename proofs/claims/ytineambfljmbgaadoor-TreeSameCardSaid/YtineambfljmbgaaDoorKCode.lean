/- The functions' code. -/
import Derived.Test.YtineambfljmbgaaDoorKEvD
import Derived.Test.YtineambfljmbgaaDoorKNums
set_option linter.all false
namespace Go.Ev
@[reducible] def oq (i : Nat) (o : O) (r : PO) : PO := .one ⟨some i, o, none⟩ r
@[reducible] def oz (o : O) (r : PO) : PO := .one ⟨none, o, none⟩ r
@[reducible] def zt8 : List D := [.int .i64 0, .bool false, .bool false, .sl .full 0 [], .int .i64 0, .str [], .sl .full 0 [], .sl .full 0 []]
def G_0 : List V := [.int .u8 240, .int .u8 240, .int .u8 240, .int .u8 240, .int .u8 240, .int .u8 240, .int .u8 240, .int .u8 240, .int .u8 240, .int .u8 240, .int .u8 240, .int .u8 240, .int .u8 240, .int .u8 240, .int .u8 240, .int .u8 240, .int .u8 240, .int .u8 240, .int .u8 240, .int .u8 240, .int .u8 240, .int .u8 240, .int .u8 240, .int .u8 240, .int .u8 240, .int .u8 240, .int .u8 240, .int .u8 240, .int .u8 240, .int .u8 240, .int .u8 240, .int .u8 240, .int .u8 240, .int .u8 240, .int .u8 240, .int .u8 240, .int .u8 240, .int .u8 240, .int .u8 240, .int .u8 240, .int .u8 240, .int .u8 240, .int .u8 240, .int .u8 240, .int .u8 240, .int .u8 240, .int .u8 240, .int .u8 240, .int .u8 240, .int .u8 240, .int .u8 240, .int .u8 240, .int .u8 240, .int .u8 240, .int .u8 240, .int .u8 240, .int .u8 240, .int .u8 240, .int .u8 240, .int .u8 240, .int .u8 240, .int .u8 240, .int .u8 240, .int .u8 240, .int .u8 240, .int .u8 240, .int .u8 240, .int .u8 240, .int .u8 240, .int .u8 240, .int .u8 240, .int .u8 240, .int .u8 240, .int .u8 240, .int .u8 240, .int .u8 240, .int .u8 240, .int .u8 240, .int .u8 240, .int .u8 240, .int .u8 240, .int .u8 240, .int .u8 240, .int .u8 240, .int .u8 240, .int .u8 240, .int .u8 240, .int .u8 240, .int .u8 240, .int .u8 240, .int .u8 240, .int .u8 240, .int .u8 240, .int .u8 240, .int .u8 240, .int .u8 240, .int .u8 240, .int .u8 240, .int .u8 240, .int .u8 240, .int .u8 240, .int .u8 240, .int .u8 240, .int .u8 240, .int .u8 240, .int .u8 240, .int .u8 240, .int .u8 240, .int .u8 240, .int .u8 240, .int .u8 240, .int .u8 240, .int .u8 240, .int .u8 240, .int .u8 240, .int .u8 240, .int .u8 240, .int .u8 240, .int .u8 240, .int .u8 240, .int .u8 240, .int .u8 240, .int .u8 240, .int .u8 240, .int .u8 240, .int .u8 240, .int .u8 240, .int .u8 240, .int .u8 241, .int .u8 241, .int .u8 241, .int .u8 241, .int .u8 241, .int .u8 241, .int .u8 241, .int .u8 241, .int .u8 241, .int .u8 241, .int .u8 241, .int .u8 241, .int .u8 241, .int .u8 241, .int .u8 241, .int .u8 241, .int .u8 241, .int .u8 241, .int .u8 241, .int .u8 241, .int .u8 241, .int .u8 241, .int .u8 241, .int .u8 241, .int .u8 241, .int .u8 241, .int .u8 241, .int .u8 241, .int .u8 241, .int .u8 241, .int .u8 241, .int .u8 241, .int .u8 241, .int .u8 241, .int .u8 241, .int .u8 241, .int .u8 241, .int .u8 241, .int .u8 241, .int .u8 241, .int .u8 241, .int .u8 241, .int .u8 241, .int .u8 241, .int .u8 241, .int .u8 241, .int .u8 241, .int .u8 241, .int .u8 241, .int .u8 241, .int .u8 241, .int .u8 241, .int .u8 241, .int .u8 241, .int .u8 241, .int .u8 241, .int .u8 241, .int .u8 241, .int .u8 241, .int .u8 241, .int .u8 241, .int .u8 241, .int .u8 241, .int .u8 241, .int .u8 241, .int .u8 241, .int .u8 2, .int .u8 2, .int .u8 2, .int .u8 2, .int .u8 2, .int .u8 2, .int .u8 2, .int .u8 2, .int .u8 2, .int .u8 2, .int .u8 2, .int .u8 2, .int .u8 2, .int .u8 2, .int .u8 2, .int .u8 2, .int .u8 2, .int .u8 2, .int .u8 2, .int .u8 2, .int .u8 2, .int .u8 2, .int .u8 2, .int .u8 2, .int .u8 2, .int .u8 2, .int .u8 2, .int .u8 2, .int .u8 2, .int .u8 2, .int .u8 19, .int .u8 3, .int .u8 3, .int .u8 3, .int .u8 3, .int .u8 3, .int .u8 3, .int .u8 3, .int .u8 3, .int .u8 3, .int .u8 3, .int .u8 3, .int .u8 3, .int .u8 35, .int .u8 3, .int .u8 3, .int .u8 52, .int .u8 4, .int .u8 4, .int .u8 4, .int .u8 68, .int .u8 241, .int .u8 241, .int .u8 241, .int .u8 241, .int .u8 241, .int .u8 241, .int .u8 241, .int .u8 241, .int .u8 241, .int .u8 241, .int .u8 241]
def G_1 : List V := [.int .u8 128, .int .u8 191, .int .u8 160, .int .u8 191, .int .u8 128, .int .u8 159, .int .u8 144, .int .u8 191, .int .u8 128, .int .u8 143, .int .u8 0, .int .u8 0, .int .u8 0, .int .u8 0, .int .u8 0, .int .u8 0, .int .u8 0, .int .u8 0, .int .u8 0, .int .u8 0, .int .u8 0, .int .u8 0, .int .u8 0, .int .u8 0, .int .u8 0, .int .u8 0, .int .u8 0, .int .u8 0, .int .u8 0, .int .u8 0, .int .u8 0, .int .u8 0]
def q_law05_TreeSame : PC :=
 (.seq
 (.reg (oq 4 (.mv (.k (.bool false))) <|
 .nil) [0, 1])
 (.seq
 (.seq
 (.reg (oq 11 (.mv (.s 0)) <|
 oq 12 (.len (.s 11)) <|
 oq 13 (.bin .gtr (.s 12) (.k (.int .i64 60))) <|
 oq 14 (.mv (.s 13)) <|
 .grp 14 false (oq 15 (.mv (.s 1)) <|
 oq 16 (.len (.s 15)) <|
 oq 17 (.bin .gtr (.s 16) (.k (.int .i64 60))) <|
 .nil) 18 (.s 17) (.k (.bool true)) <|
 .nil) [0, 1, 18])
 (.cond (.s 18)
 (.seq
 (.reg (oq 19 (.call f_law05_awake []) <|
 oq 4 (.mv (.s 19)) <|
 .nil) [4])
 .ret)
 .skip))
 (.seq
 (.reg (oq 20 (.mv (.s 0)) <|
 oq 21 (.call f_law00_Made [.s 20, (.k (.int .i64 4))]) <|
 oq 22 (.mv (.s 1)) <|
 oq 23 (.call f_law00_Made [.s 22, (.k (.int .i64 4))]) <|
 oq 5 (.alloc zt8) <|
 oq 6 (.alloc zt8) <|
 oz (.store 8 (.s 5) (.s 21)) <|
 oz (.store 8 (.s 6) (.s 23)) <|
 .nil) [5, 6])
 (.seq
 (.reg (oq 24 (.load true 8 (.s 5)) <|
 oq 25 (.load true 8 (.s 6)) <|
 oq 26 (.lit 2 zt8 [(0, 8, (.s 24)), (8, 8, (.s 25))]) <|
 oq 27 (.build zt8 [(0, 1, (.k (.int .i64 6))), (7, 1, (.s 26))]) <|
 oq 7 (.alloc zt8) <|
 oz (.store 8 (.s 7) (.s 27)) <|
 .nil) [5, 6, 7])
 (.seq
 (.reg (oq 28 (.load true 8 (.s 6)) <|
 oq 29 (.load true 8 (.s 5)) <|
 oq 30 (.lit 2 zt8 [(0, 8, (.s 28)), (8, 8, (.s 29))]) <|
 oq 31 (.build zt8 [(0, 1, (.k (.int .i64 6))), (7, 1, (.s 30))]) <|
 oq 8 (.alloc zt8) <|
 oz (.store 8 (.s 8) (.s 31)) <|
 .nil) [5, 6, 7, 8])
 (.seq
 (.reg (oq 32 (.lit 1 [(.str [])] [(0, 1, (.k (.str [97])))]) <|
 oq 33 (.load true 8 (.s 5)) <|
 oq 34 (.lit 1 zt8 [(0, 8, (.s 33))]) <|
 oq 35 (.build zt8 [(0, 1, (.k (.int .i64 7))), (6, 1, (.s 32)), (7, 1, (.s 34))]) <|
 oq 9 (.alloc zt8) <|
 oz (.store 8 (.s 9) (.s 35)) <|
 .nil) [5, 6, 7, 8, 9])
 (.seq
 (.reg (oq 36 (.lit 1 [(.str [])] [(0, 1, (.k (.str [98])))]) <|
 oq 37 (.load true 8 (.s 5)) <|
 oq 38 (.lit 1 zt8 [(0, 8, (.s 37))]) <|
 oq 39 (.build zt8 [(0, 1, (.k (.int .i64 7))), (6, 1, (.s 36)), (7, 1, (.s 38))]) <|
 oq 10 (.alloc zt8) <|
 oz (.store 8 (.s 10) (.s 39)) <|
 .nil) [5, 6, 7, 8, 9, 10])
 (.seq
 (.drw (.nil)
 (oq 40 (.load true 8 (.s 5)) <|
 oq 41 (.load true 8 (.s 5)) <|
 oq 42 (.call f_law00_Tree [.s 41]) <|
 oq 43 (.call f_tree_Same [.s 40, .s 42]) <|
 oq 44 (.mv (.s 43)) <|
 .grp 44 true (oq 45 (.load true 8 (.s 7)) <|
 oq 46 (.load true 8 (.s 8)) <|
 oq 47 (.call f_tree_Same [.s 45, .s 46]) <|
 oq 48 (.load true 8 (.s 5)) <|
 oq 49 (.load true 8 (.s 6)) <|
 oq 50 (.call f_tree_Same [.s 48, .s 49]) <|
 oq 51 (.beq false (.s 47) (.s 50)) <|
 .nil) 52 (.s 51) (.k (.bool false)) <|
 oq 53 (.mv (.s 52)) <|
 .grp 53 true (oq 54 (.load true 8 (.s 5)) <|
 oq 55 (.load true 8 (.s 6)) <|
 oq 56 (.call f_tree_Same [.s 54, .s 55]) <|
 oq 57 (.load true 8 (.s 6)) <|
 oq 58 (.load true 8 (.s 5)) <|
 oq 59 (.call f_tree_Same [.s 57, .s 58]) <|
 oq 60 (.beq false (.s 56) (.s 59)) <|
 .nil) 61 (.s 60) (.k (.bool false)) <|
 oq 62 (.mv (.s 61)) <|
 .grp 62 true (oq 63 (.load true 8 (.s 7)) <|
 oq 64 (.load true 8 (.s 5)) <|
 oq 65 (.lit 1 zt8 [(0, 8, (.s 64))]) <|
 oq 66 (.build zt8 [(0, 1, (.k (.int .i64 6))), (7, 1, (.s 65))]) <|
 oq 67 (.call f_tree_Same [.s 63, .s 66]) <|
 oq 68 (.un .not (.s 67)) <|
 .nil) 69 (.s 68) (.k (.bool false)) <|
 oq 70 (.mv (.s 69)) <|
 .grp 70 true (oq 71 (.load true 8 (.s 9)) <|
 oq 72 (.load true 8 (.s 10)) <|
 oq 73 (.call f_tree_Same [.s 71, .s 72]) <|
 oq 74 (.un .not (.s 73)) <|
 .nil) 75 (.s 74) (.k (.bool false)) <|
 oq 76 (.mv (.s 75)) <|
 .grp 76 true (oq 77 (.load true 8 (.s 9)) <|
 oq 78 (.load true 8 (.s 5)) <|
 oq 79 (.call f_tree_Same [.s 77, .s 78]) <|
 oq 80 (.un .not (.s 79)) <|
 .nil) 81 (.s 80) (.k (.bool false)) <|
 oq 82 (.mv (.s 81)) <|
 .grp 82 true (oq 83 (.load true 8 (.s 7)) <|
 oq 84 (.call f_tree_Weight [.s 83]) <|
 oq 85 (.load true 8 (.s 5)) <|
 oq 86 (.call f_tree_Weight [.s 85]) <|
 oq 87 (.bin .add (.k (.int .i64 1)) (.s 86)) <|
 oq 88 (.load true 8 (.s 6)) <|
 oq 89 (.call f_tree_Weight [.s 88]) <|
 oq 90 (.bin .add (.s 87) (.s 89)) <|
 oq 91 (.bin .eql (.s 84) (.s 90)) <|
 .nil) 92 (.s 91) (.k (.bool false)) <|
 oq 93 (.mv (.s 92)) <|
 .grp 93 true (oq 94 (.load true 8 (.s 9)) <|
 oq 95 (.call f_tree_Nodes [.s 94]) <|
 oq 96 (.load true 8 (.s 5)) <|
 oq 97 (.call f_tree_Nodes [.s 96]) <|
 oq 98 (.bin .add (.k (.int .i64 1)) (.s 97)) <|
 oq 99 (.bin .eql (.s 95) (.s 98)) <|
 .nil) 100 (.s 99) (.k (.bool false)) <|
 oq 101 (.mv (.s 100)) <|
 .grp 101 true (oq 102 (.load true 8 (.s 7)) <|
 oq 103 (.call f_tree_Depth [.s 102]) <|
 oq 104 (.load true 8 (.s 5)) <|
 oq 105 (.call f_tree_Depth [.s 104]) <|
 oq 106 (.load true 8 (.s 6)) <|
 oq 107 (.call f_tree_Depth [.s 106]) <|
 oq 108 (.max [.s 105, .s 107]) <|
 oq 109 (.bin .add (.k (.int .i64 1)) (.s 108)) <|
 oq 110 (.bin .eql (.s 103) (.s 109)) <|
 .nil) 111 (.s 110) (.k (.bool false)) <|
 .nil)
 (oq 112 (.mv (.s 111)) <|
 .grp 112 true (oq 113 (.call f_law05_awake []) <|
 .nil) 114 (.s 113) (.k (.bool false)) <|
 oq 4 (.mv (.s 114)) <|
 .nil) [4])
 .ret))))))))
def p_law05_TreeSame : PFn := ⟨[.tmp 4], q_law05_TreeSame⟩
def n_law05_TreeSame : Fn := ⟨2, [.tmp 4], false, false, erase q_law05_TreeSame⟩
def q_law00_Place : PC :=
 (.seq
 (.reg (oq 4 (.mv (.k (.int .i64 0))) <|
 .nil) [0, 1])
 (.seq
 (.reg (oq 6 (.mv (.s 0)) <|
 oq 7 (.mv (.s 1)) <|
 oq 8 (.bin .rem (.s 6) (.s 7)) <|
 oq 5 (.mv (.s 8)) <|
 .nil) [1, 5])
 (.seq
 (.seq
 (.reg (oq 9 (.mv (.s 5)) <|
 oq 10 (.bin .lss (.s 9) (.k (.int .i64 0))) <|
 .nil) [1, 5, 10])
 (.cond (.s 10)
 (.reg (oq 11 (.mv (.s 5)) <|
 oq 12 (.mv (.s 1)) <|
 oq 13 (.bin .add (.s 11) (.s 12)) <|
 oq 5 (.mv (.s 13)) <|
 .nil) [5])
 .skip))
 (.seq
 (.reg (oq 14 (.mv (.s 5)) <|
 oq 4 (.mv (.s 14)) <|
 .nil) [4])
 .ret))))
def p_law00_Place : PFn := ⟨[.tmp 4], q_law00_Place⟩
def n_law00_Place : Fn := ⟨2, [.tmp 4], false, false, erase q_law00_Place⟩
def q_tree_Check : PC :=
 (.seq
 (.reg (.box 8 1 (.s 0) <|
 oq 2 (.mv (.k (.bool false))) <|
 .nil) [1])
 (.seq
 (.reg (oq 3 (.alloc [.int .i64 0]) <|
 oz (.store 1 (.s 3) (.k (.int .i64 2000))) <|
 .nil) [1, 3])
 (.seq
 (.reg (oq 4 (.load true 8 (.s 1)) <|
 oq 5 (.call f_tree_check [.s 4, (.k (.int .i64 1)), .s 3]) <|
 oq 2 (.mv (.s 5)) <|
 .nil) [2])
 .ret)))
def p_tree_Check : PFn := ⟨[.tmp 2], q_tree_Check⟩
def n_tree_Check : Fn := ⟨1, [.tmp 2], false, false, erase q_tree_Check⟩
def q_tree_Depth : PC :=
 (.seq
 (.reg (.box 8 1 (.s 0) <|
 oq 2 (.mv (.k (.int .i64 0))) <|
 .nil) [1])
 (.seq
 (.reg (oq 3 (.mv (.k (.int .i64 0))) <|
 .nil) [1, 3])
 (.seq
 (.seq
 (.reg (oq 6 (.fad 7 (.s 1)) <|
 oq 7 (.load false 1 (.s 6)) <|
 oq 8 (.len (.s 7)) <|
 oq 9 (.mv (.k (.int .i64 0))) <|
 .nil) [3, 7, 8, 9])
 (.blk 0
 (.loop ⟨[(3, .v), (7, .same), (8, .same), (9, .v)], [.same]⟩ [(.ext 0, ⟨[(3, .v)], [.same]⟩)]
 (.seq
 (.reg (oq 10 (.bin .lss (.s 9) (.s 8)) <|
 .nil) [3, 7, 8, 9, 10])
 (.seq
 (.cond (.s 10)
 .skip
 (.exit 0))
 (.seq
 (.blk 1
 (.seq
 (.reg (oq 11 (.iad 8 (.s 7) (.s 9)) <|
 oq 12 (.load true 8 (.s 11)) <|
 oq 5 (.alloc zt8) <|
 oz (.store 8 (.s 5) (.s 12)) <|
 .nil) [3, 5, 7, 8, 9])
 (.reg (oq 13 (.mv (.s 3)) <|
 oq 14 (.load true 8 (.s 5)) <|
 oq 15 (.call f_tree_Depth [.s 14]) <|
 oq 16 (.max [.s 13, .s 15]) <|
 oq 3 (.mv (.s 16)) <|
 .nil) [3, 7, 8, 9])))
 (.reg (oq 17 (.bin .add (.s 9) (.k (.int .i64 1))) <|
 oq 9 (.mv (.s 17)) <|
 .nil) [3, 7, 8, 9])))))))
 (.seq
 (.reg (oq 18 (.mv (.s 3)) <|
 oq 19 (.bin .add (.k (.int .i64 1)) (.s 18)) <|
 oq 2 (.mv (.s 19)) <|
 .nil) [2])
 .ret))))
def p_tree_Depth : PFn := ⟨[.tmp 2], q_tree_Depth⟩
def n_tree_Depth : Fn := ⟨1, [.tmp 2], false, false, erase q_tree_Depth⟩
def q_tree_Weight : PC :=
 (.seq
 (.reg (.box 8 1 (.s 0) <|
 oq 2 (.mv (.k (.int .i64 0))) <|
 .nil) [1])
 (.seq
 (.reg (oq 3 (.mv (.k (.int .i64 1))) <|
 .nil) [1, 3])
 (.seq
 (.cut ⟨[(1, .same), (3, .v)], [.same]⟩ [(.nrm, ⟨[(1, .same), (3, .v)], [.same]⟩)]
 (.seq
 (.reg (oq 6 (.fad 0 (.s 1)) <|
 oq 7 (.load false 1 (.s 6)) <|
 .nil) [1, 3, 7])
 (.blk 0
 (.seq
 (.reg (oq 9 (.bin .eql (.s 7) (.k (.int .i64 3))) <|
 oq 8 (.mv (.s 9)) <|
 .nil) [1, 3, 7, 8])
 (.cond (.s 8)
 (.reg (oq 10 (.mv (.s 3)) <|
 oq 11 (.fad 2 (.s 1)) <|
 oq 12 (.fad 1 (.s 11)) <|
 oq 13 (.load false 1 (.s 12)) <|
 oq 14 (.len (.s 13)) <|
 oq 15 (.bin .add (.s 10) (.s 14)) <|
 oq 3 (.mv (.s 15)) <|
 .nil) [1, 3])
 (.seq
 (.cut ⟨[(1, .same), (3, .same), (7, .same)], [.same]⟩ [(.nrm, ⟨[(1, .same), (3, .same), (16, .v)], [.same]⟩)]
 (.seq
 (.reg (oq 17 (.bin .eql (.s 7) (.k (.int .i64 4))) <|
 oq 16 (.mv (.s 17)) <|
 .nil) [1, 3, 7, 16])
 (.cond (.s 16)
 .skip
 (.reg (oq 18 (.bin .eql (.s 7) (.k (.int .i64 5))) <|
 oq 16 (.mv (.s 18)) <|
 .nil) [1, 3, 16]))))
 (.cond (.s 16)
 (.reg (oq 19 (.mv (.s 3)) <|
 oq 20 (.fad 5 (.s 1)) <|
 oq 21 (.load false 1 (.s 20)) <|
 oq 22 (.lns (.s 21)) <|
 oq 23 (.bin .add (.s 19) (.s 22)) <|
 oq 3 (.mv (.s 23)) <|
 .nil) [1, 3])
 .skip)))))))
 (.seq
 (.seq
 (.reg (oq 24 (.fad 7 (.s 1)) <|
 oq 25 (.load false 1 (.s 24)) <|
 oq 26 (.len (.s 25)) <|
 oq 27 (.mv (.k (.int .i64 0))) <|
 .nil) [3, 25, 26, 27])
 (.blk 1
 (.loop ⟨[(3, .v), (25, .same), (26, .same), (27, .v)], [.same]⟩ [(.ext 1, ⟨[(3, .v)], [.same]⟩)]
 (.seq
 (.reg (oq 28 (.bin .lss (.s 27) (.s 26)) <|
 .nil) [3, 25, 26, 27, 28])
 (.seq
 (.cond (.s 28)
 .skip
 (.exit 1))
 (.seq
 (.blk 2
 (.seq
 (.reg (oq 29 (.iad 8 (.s 25) (.s 27)) <|
 oq 30 (.load true 8 (.s 29)) <|
 oq 5 (.alloc zt8) <|
 oz (.store 8 (.s 5) (.s 30)) <|
 .nil) [3, 5, 25, 26, 27])
 (.reg (oq 31 (.mv (.s 3)) <|
 oq 32 (.load true 8 (.s 5)) <|
 oq 33 (.call f_tree_Weight [.s 32]) <|
 oq 34 (.bin .add (.s 31) (.s 33)) <|
 oq 3 (.mv (.s 34)) <|
 .nil) [3, 25, 26, 27])))
 (.reg (oq 35 (.bin .add (.s 27) (.k (.int .i64 1))) <|
 oq 27 (.mv (.s 35)) <|
 .nil) [3, 25, 26, 27])))))))
 (.seq
 (.reg (oq 36 (.mv (.s 3)) <|
 oq 2 (.mv (.s 36)) <|
 .nil) [2])
 .ret)))))
def p_tree_Weight : PFn := ⟨[.tmp 2], q_tree_Weight⟩
def n_tree_Weight : Fn := ⟨1, [.tmp 2], false, false, erase q_tree_Weight⟩
def q_law05_awake : PC :=
 (.seq
 (.reg (oq 0 (.mv (.k (.bool false))) <|
 .nil) [])
 (.seq
 (.reg (oq 2 (.lit 1 [(.str [])] [(0, 1, (.k (.str [97])))]) <|
 oq 3 (.lit 1 [.int .u32 0] [(0, 1, (.k (.int .u32 1)))]) <|
 oq 4 (.build [.bool false, (.sl .full 0 []), .int .i64 0] [(1, 1, (.s 3))]) <|
 oq 5 (.build zt8 [(0, 1, (.k (.int .i64 3))), (2, 3, (.s 4))]) <|
 oq 6 (.build zt8 [(0, 1, (.k (.int .i64 4))), (5, 1, (.k (.str [120, 121])))]) <|
 oq 7 (.lit 2 zt8 [(0, 8, (.s 5)), (8, 8, (.s 6))]) <|
 oq 8 (.build zt8 [(0, 1, (.k (.int .i64 6))), (7, 1, (.s 7))]) <|
 oq 9 (.lit 1 zt8 [(0, 8, (.s 8))]) <|
 oq 10 (.build zt8 [(0, 1, (.k (.int .i64 7))), (6, 1, (.s 2)), (7, 1, (.s 9))]) <|
 oq 1 (.alloc zt8) <|
 oz (.store 8 (.s 1) (.s 10)) <|
 .nil) [1])
 (.seq
 (.reg (oq 11 (.load true 8 (.s 1)) <|
 oq 12 (.call f_tree_Weight [.s 11]) <|
 oq 13 (.bin .eql (.s 12) (.k (.int .i64 7))) <|
 oq 14 (.mv (.s 13)) <|
 .grp 14 true (oq 15 (.load true 8 (.s 1)) <|
 oq 16 (.call f_tree_Check [.s 15]) <|
 .nil) 17 (.s 16) (.k (.bool false)) <|
 oq 18 (.mv (.s 17)) <|
 .grp 18 true (oq 19 (.load true 8 (.s 1)) <|
 oq 20 (.call f_tree_Nodes [.s 19]) <|
 oq 21 (.bin .eql (.s 20) (.k (.int .i64 4))) <|
 .nil) 22 (.s 21) (.k (.bool false)) <|
 oq 23 (.mv (.s 22)) <|
 .grp 23 true (oq 24 (.load true 8 (.s 1)) <|
 oq 25 (.call f_tree_Depth [.s 24]) <|
 oq 26 (.bin .eql (.s 25) (.k (.int .i64 3))) <|
 .nil) 27 (.s 26) (.k (.bool false)) <|
 oq 0 (.mv (.s 27)) <|
 .nil) [0])
 .ret)))
def p_law05_awake : PFn := ⟨[.tmp 0], q_law05_awake⟩
def n_law05_awake : Fn := ⟨0, [.tmp 0], false, false, erase q_law05_awake⟩
def q_law00_Made : PC :=
 (.seq
 (.reg (oq 4 (.alloc zt8) <|
 .nil) [0, 1, 4])
 (.seq
 (.reg (oq 8 (.mv (.s 0)) <|
 oq 9 (.mv (.s 1)) <|
 oq 10 (.call f_law00_made [.s 8, .s 9]) <|
 oq 7 (.mv (.s 10)) <|
 oq 11 (.ext (.s 7) 0) <|
 oq 12 (.ext (.s 7) 1) <|
 oq 5 (.alloc zt8) <|
 oz (.store 8 (.s 5) (.s 11)) <|
 oq 6 (.mv (.s 12)) <|
 .nil) [4, 5])
 (.seq
 (.reg (oq 13 (.load true 8 (.s 5)) <|
 oz (.store 8 (.s 4) (.s 13)) <|
 .nil) [4])
 .ret)))
def p_law00_Made : PFn := ⟨[.cell 4 true 8], q_law00_Made⟩
def n_law00_Made : Fn := ⟨2, [.cell 4 true 8], false, false, erase q_law00_Made⟩
def q_law00_Tree : PC :=
 (.seq
 (.reg (.box 8 1 (.s 0) <|
 oq 2 (.alloc zt8) <|
 .nil) [1, 2])
 (.seq
 (.drw (oq 3 (.alloc zt8) <|
 .nil)
 (oq 5 (.fad 0 (.s 1)) <|
 oq 6 (.load false 1 (.s 5)) <|
 oq 7 (.fad 1 (.s 1)) <|
 oq 8 (.load false 1 (.s 7)) <|
 oq 9 (.fad 2 (.s 1)) <|
 oq 10 (.load true 3 (.s 9)) <|
 oq 11 (.call f_law00_Num [.s 10]) <|
 oq 12 (.fad 5 (.s 1)) <|
 oq 13 (.load false 1 (.s 12)) <|
 oq 14 (.fad 6 (.s 1)) <|
 oq 15 (.load false 1 (.s 14)) <|
 oq 16 (.call f_law00_Strings [.s 15]) <|
 oq 17 (.build zt8 [(0, 1, (.s 6)), (1, 1, (.s 8)), (2, 3, (.s 11)), (5, 1, (.s 13)), (6, 1, (.s 16))]) <|
 .nil)
 (oz (.store 8 (.s 3) (.s 17)) <|
 .nil) [1, 2, 3])
 (.seq
 (.seq
 (.reg (oq 4 (.mv (.k (.int .i64 0))) <|
 .nil) [1, 2, 3, 4])
 (.blk 0
 (.loop ⟨[(1, .same), (2, .same), (3, .same), (4, .v)], [.same, .same, (.cells [.v, .v, .v, .v, .v, .v, .v, (.own 8)])]⟩ [(.ext 0, ⟨[(2, .same), (3, .same)], [.same, .same, (.cells [.v, .v, .v, .v, .v, .v, .v, (.own 8)])]⟩)]
 (.seq
 (.seq
 (.reg (oq 18 (.mv (.s 4)) <|
 oq 19 (.fad 7 (.s 1)) <|
 oq 20 (.load false 1 (.s 19)) <|
 oq 21 (.len (.s 20)) <|
 oq 22 (.bin .lss (.s 18) (.s 21)) <|
 .nil) [1, 2, 3, 4, 22])
 (.cond (.s 22)
 .skip
 (.exit 0)))
 (.seq
 (.blk 1
 (.drq (.nil)
 (oq 25 (.fad 7 (.s 3)) <|
 oq 26 (.load false 1 (.s 25)) <|
 oq 27 (.fad 7 (.s 1)) <|
 oq 28 (.load false 1 (.s 27)) <|
 oq 29 (.mv (.s 4)) <|
 oq 30 (.iad 8 (.s 28) (.s 29)) <|
 oq 31 (.load true 8 (.s 30)) <|
 oq 32 (.call f_law00_Tree [.s 31]) <|
 oq 33 (.lit 1 zt8 [(0, 8, (.s 32))]) <|
 .nil)
 (oq 34 (.app 8 120 (.s 26) (.s 33)) <|
 oq 35 (.fad 7 (.s 3)) <|
 oz (.store 1 (.s 35) (.s 34)) <|
 .nil) [1, 2, 3, 4]))
 (.reg (oq 23 (.mv (.s 4)) <|
 oq 24 (.bin .add (.s 23) (.k (.int .i64 1))) <|
 oq 4 (.mv (.s 24)) <|
 .nil) [1, 2, 3, 4]))))))
 (.seq
 (.reg (oq 36 (.load true 8 (.s 3)) <|
 oz (.store 8 (.s 2) (.s 36)) <|
 .nil) [2])
 .ret))))
def p_law00_Tree : PFn := ⟨[.cell 2 true 8], q_law00_Tree⟩
def n_law00_Tree : Fn := ⟨1, [.cell 2 true 8], false, false, erase q_law00_Tree⟩
def q_tree_Same : PC :=
 (.seq
 (.reg (.box 8 2 (.s 0) <|
 .box 8 3 (.s 1) <|
 oq 4 (.mv (.k (.bool false))) <|
 .nil) [2, 3])
 (.seq
 (.seq
 (.reg (oq 5 (.fad 0 (.s 2)) <|
 oq 6 (.load false 1 (.s 5)) <|
 oq 7 (.fad 0 (.s 3)) <|
 oq 8 (.load false 1 (.s 7)) <|
 oq 9 (.bin .neq (.s 6) (.s 8)) <|
 .nil) [2, 3, 9])
 (.cond (.s 9)
 (.seq
 (.reg (oq 4 (.mv (.k (.bool false))) <|
 .nil) [4])
 .ret)
 .skip))
 (.seq
 (.seq
 (.reg (oq 10 (.fad 0 (.s 2)) <|
 oq 11 (.load false 1 (.s 10)) <|
 .nil) [2, 3, 11])
 (.blk 0
 (.seq
 (.blk 6
 (.seq
 (.blk 5
 (.seq
 (.cut ⟨[(2, .same), (3, .same), (11, .same)], [.same, .same]⟩ [(.ext 0, ⟨[], [.same, .same]⟩), (.ext 5, ⟨[(2, .same), (3, .same)], [.same, .same]⟩), (.ext 6, ⟨[(2, .same), (3, .same)], [.same, .same]⟩), (.nrm, ⟨[(2, .same), (3, .same)], [.same, .same]⟩), (.ret, ⟨[(4, .v)], [.same, .same]⟩)]
 (.blk 4
 (.blk 3
 (.seq
 (.blk 2
 (.seq
 (.blk 1
 (.seq
 (.seq
 (.seq
 (.reg (oq 13 (.bin .eql (.s 11) (.k (.int .i64 2))) <|
 oq 12 (.mv (.s 13)) <|
 .nil) [2, 3, 11, 12])
 (.cond (.s 12)
 (.exit 1)
 .skip))
 (.seq
 (.seq
 (.reg (oq 15 (.bin .eql (.s 11) (.k (.int .i64 3))) <|
 oq 14 (.mv (.s 15)) <|
 .nil) [2, 3, 11, 14])
 (.cond (.s 14)
 (.exit 2)
 .skip))
 (.seq
 (.seq
 (.reg (oq 17 (.bin .eql (.s 11) (.k (.int .i64 4))) <|
 oq 16 (.mv (.s 17)) <|
 .nil) [2, 3, 11, 16])
 (.cond (.s 16)
 (.exit 3)
 .skip))
 (.seq
 (.seq
 (.reg (oq 19 (.bin .eql (.s 11) (.k (.int .i64 5))) <|
 oq 18 (.mv (.s 19)) <|
 .nil) [2, 3, 11, 18])
 (.cond (.s 18)
 (.exit 4)
 .skip))
 (.seq
 (.seq
 (.reg (oq 21 (.bin .eql (.s 11) (.k (.int .i64 7))) <|
 oq 20 (.mv (.s 21)) <|
 .nil) [2, 3, 11, 20])
 (.cond (.s 20)
 (.exit 5)
 .skip))
 (.seq
 (.reg (oq 23 (.bin .eql (.s 11) (.k (.int .i64 6))) <|
 oq 22 (.mv (.s 23)) <|
 .nil) [2, 3, 22])
 (.cond (.s 22)
 (.exit 6)
 .skip)))))))
 (.exit 0)))
 (.seq
 (.seq
 (.reg (oq 24 (.fad 1 (.s 2)) <|
 oq 25 (.load false 1 (.s 24)) <|
 oq 26 (.fad 1 (.s 3)) <|
 oq 27 (.load false 1 (.s 26)) <|
 oq 28 (.beq false (.s 25) (.s 27)) <|
 oq 4 (.mv (.s 28)) <|
 .nil) [4])
 .ret)
 (.exit 0))))
 (.seq
 (.seq
 (.reg (oq 29 (.fad 2 (.s 2)) <|
 oq 30 (.load true 3 (.s 29)) <|
 oq 31 (.fad 2 (.s 3)) <|
 oq 32 (.load true 3 (.s 31)) <|
 oq 33 (.call f_num_Same [.s 30, .s 32]) <|
 oq 4 (.mv (.s 33)) <|
 .nil) [4])
 .ret)
 (.exit 0))))))
 (.seq
 (.seq
 (.reg (oq 34 (.fad 5 (.s 2)) <|
 oq 35 (.load false 1 (.s 34)) <|
 oq 36 (.fad 5 (.s 3)) <|
 oq 37 (.load false 1 (.s 36)) <|
 oq 38 (.bin .eql (.s 35) (.s 37)) <|
 oq 4 (.mv (.s 38)) <|
 .nil) [4])
 .ret)
 (.exit 0))))
 (.seq
 (.seq
 (.reg (oq 39 (.fad 6 (.s 2)) <|
 oq 40 (.load false 1 (.s 39)) <|
 oq 41 (.fad 6 (.s 3)) <|
 oq 42 (.load false 1 (.s 41)) <|
 oq 43 (.call f_slices_Equal_string [.s 40, .s 42]) <|
 oq 44 (.mv (.s 43)) <|
 .grp 44 true (oq 45 (.fad 7 (.s 2)) <|
 oq 46 (.load false 1 (.s 45)) <|
 oq 47 (.fad 7 (.s 3)) <|
 oq 48 (.load false 1 (.s 47)) <|
 oq 49 (.call f_slices_EqualFunc_erratum_api_Tree [.s 46, .s 48, (.k (.fn f_tree_Same []))]) <|
 .nil) 50 (.s 49) (.k (.bool false)) <|
 oq 4 (.mv (.s 50)) <|
 .nil) [4])
 .ret)
 (.exit 0))))
 (.seq
 (.seq
 (.reg (oq 51 (.fad 7 (.s 2)) <|
 oq 52 (.load false 1 (.s 51)) <|
 oq 53 (.fad 7 (.s 3)) <|
 oq 54 (.load false 1 (.s 53)) <|
 oq 55 (.call f_slices_EqualFunc_erratum_api_Tree [.s 52, .s 54, (.k (.fn f_tree_Same []))]) <|
 oq 4 (.mv (.s 55)) <|
 .nil) [4])
 .ret)
 (.exit 0)))))
 (.seq
 (.reg (oq 4 (.mv (.k (.bool true))) <|
 .nil) [4])
 .ret))))
def p_tree_Same : PFn := ⟨[.tmp 4], q_tree_Same⟩
def n_tree_Same : Fn := ⟨2, [.tmp 4], false, false, erase q_tree_Same⟩
def q_tree_Nodes : PC :=
 (.seq
 (.reg (.box 8 1 (.s 0) <|
 oq 2 (.mv (.k (.int .i64 0))) <|
 .nil) [1])
 (.seq
 (.reg (oq 3 (.mv (.k (.int .i64 1))) <|
 .nil) [1, 3])
 (.seq
 (.seq
 (.reg (oq 6 (.fad 7 (.s 1)) <|
 oq 7 (.load false 1 (.s 6)) <|
 oq 8 (.len (.s 7)) <|
 oq 9 (.mv (.k (.int .i64 0))) <|
 .nil) [3, 7, 8, 9])
 (.blk 0
 (.loop ⟨[(3, .v), (7, .same), (8, .same), (9, .v)], [.same]⟩ [(.ext 0, ⟨[(3, .v)], [.same]⟩)]
 (.seq
 (.reg (oq 10 (.bin .lss (.s 9) (.s 8)) <|
 .nil) [3, 7, 8, 9, 10])
 (.seq
 (.cond (.s 10)
 .skip
 (.exit 0))
 (.seq
 (.blk 1
 (.seq
 (.reg (oq 11 (.iad 8 (.s 7) (.s 9)) <|
 oq 12 (.load true 8 (.s 11)) <|
 oq 5 (.alloc zt8) <|
 oz (.store 8 (.s 5) (.s 12)) <|
 .nil) [3, 5, 7, 8, 9])
 (.reg (oq 13 (.mv (.s 3)) <|
 oq 14 (.load true 8 (.s 5)) <|
 oq 15 (.call f_tree_Nodes [.s 14]) <|
 oq 16 (.bin .add (.s 13) (.s 15)) <|
 oq 3 (.mv (.s 16)) <|
 .nil) [3, 7, 8, 9])))
 (.reg (oq 17 (.bin .add (.s 9) (.k (.int .i64 1))) <|
 oq 9 (.mv (.s 17)) <|
 .nil) [3, 7, 8, 9])))))))
 (.seq
 (.reg (oq 18 (.mv (.s 3)) <|
 oq 2 (.mv (.s 18)) <|
 .nil) [2])
 .ret))))
def p_tree_Nodes : PFn := ⟨[.tmp 2], q_tree_Nodes⟩
def n_tree_Nodes : Fn := ⟨1, [.tmp 2], false, false, erase q_tree_Nodes⟩
def q_tree_check : PC :=
 (.seq
 (.reg (.box 8 3 (.s 0) <|
 oq 6 (.mv (.k (.bool false))) <|
 .nil) [1, 2, 3])
 (.seq
 (.reg (oq 9 (.mv (.s 2)) <|
 oq 10 (.chk (.s 9)) <|
 oq 11 (.load false 1 (.s 10)) <|
 oq 12 (.bin .sub (.s 11) (.k (.int .i64 1))) <|
 oq 13 (.chk (.s 9)) <|
 oz (.store 1 (.s 13) (.s 12)) <|
 .nil) [1, 2, 3])
 (.seq
 (.seq
 (.reg (oq 14 (.mv (.s 2)) <|
 oq 15 (.chk (.s 14)) <|
 oq 16 (.load false 1 (.s 15)) <|
 oq 17 (.bin .lss (.s 16) (.k (.int .i64 0))) <|
 oq 18 (.mv (.s 17)) <|
 .grp 18 false (oq 19 (.mv (.s 1)) <|
 oq 20 (.bin .gtr (.s 19) (.k (.int .i64 64))) <|
 .nil) 21 (.s 20) (.k (.bool true)) <|
 oq 22 (.mv (.s 21)) <|
 .grp 22 false (oq 23 (.load true 8 (.s 3)) <|
 oq 24 (.call f_tree_own [.s 23]) <|
 oq 25 (.un .not (.s 24)) <|
 .nil) 26 (.s 25) (.k (.bool true)) <|
 .nil) [1, 2, 3, 26])
 (.cond (.s 26)
 (.seq
 (.reg (oq 6 (.mv (.k (.bool false))) <|
 .nil) [6])
 .ret)
 .skip))
 (.seq
 (.seq
 (.reg (oq 27 (.fad 7 (.s 3)) <|
 oq 28 (.load false 1 (.s 27)) <|
 oq 29 (.len (.s 28)) <|
 oq 30 (.mv (.k (.int .i64 0))) <|
 .nil) [1, 2, 28, 29, 30])
 (.blk 0
 (.loop ⟨[(1, .same), (2, .same), (28, .same), (29, .same), (30, .v)], [(.cells [.v]), .same]⟩ [(.ext 0, ⟨[], [(.cells [.v]), .same]⟩), (.ret, ⟨[(6, .v)], [(.cells [.v]), .same]⟩)]
 (.seq
 (.reg (oq 31 (.bin .lss (.s 30) (.s 29)) <|
 .nil) [1, 2, 28, 29, 30, 31])
 (.seq
 (.cond (.s 31)
 .skip
 (.exit 0))
 (.seq
 (.blk 1
 (.seq
 (.reg (oq 32 (.iad 8 (.s 28) (.s 30)) <|
 oq 33 (.load true 8 (.s 32)) <|
 oq 8 (.alloc zt8) <|
 oz (.store 8 (.s 8) (.s 33)) <|
 .nil) [1, 2, 8, 28, 29, 30])
 (.seq
 (.reg (oq 34 (.load true 8 (.s 8)) <|
 oq 35 (.mv (.s 1)) <|
 oq 36 (.bin .add (.s 35) (.k (.int .i64 1))) <|
 oq 37 (.mv (.s 2)) <|
 oq 38 (.call f_tree_check [.s 34, .s 36, .s 37]) <|
 oq 39 (.un .not (.s 38)) <|
 .nil) [1, 2, 28, 29, 30, 39])
 (.cond (.s 39)
 (.seq
 (.reg (oq 6 (.mv (.k (.bool false))) <|
 .nil) [6])
 .ret)
 .skip))))
 (.reg (oq 40 (.bin .add (.s 30) (.k (.int .i64 1))) <|
 oq 30 (.mv (.s 40)) <|
 .nil) [1, 2, 28, 29, 30])))))))
 (.seq
 (.reg (oq 6 (.mv (.k (.bool true))) <|
 .nil) [6])
 .ret)))))
def p_tree_check : PFn := ⟨[.tmp 6], q_tree_check⟩
def n_tree_check : Fn := ⟨3, [.tmp 6], false, false, erase q_tree_check⟩
def q_law00_made : PC :=
 (.seq
 (.reg (oq 4 (.alloc zt8) <|
 oq 5 (.mv (.k (.sl .full 0 []))) <|
 .nil) [0, 1, 4])
 (.seq
 (.seq
 (.reg (oq 16 (.mv (.s 0)) <|
 oq 17 (.len (.s 16)) <|
 oq 18 (.bin .eql (.s 17) (.k (.int .i64 0))) <|
 .nil) [0, 1, 4, 18])
 (.cond (.s 18)
 (.seq
 (.reg (oq 19 (.build zt8 [(0, 1, (.k (.int .i64 1)))]) <|
 oz (.store 8 (.s 4) (.s 19)) <|
 oq 5 (.mv (.k (.sl .full 0 []))) <|
 .nil) [4, 5])
 .ret)
 .skip))
 (.seq
 (.reg (oq 20 (.mv (.s 0)) <|
 oq 21 (.iad 1 (.s 20) (.k (.int .i64 0))) <|
 oq 22 (.load false 1 (.s 21)) <|
 oq 23 (.call f_law00_Place [.s 22, (.k (.int .i64 1073741824))]) <|
 oq 6 (.mv (.s 23)) <|
 .nil) [0, 1, 4, 6])
 (.seq
 (.reg (oq 24 (.mv (.s 0)) <|
 oq 25 (.slc 1 (.s 24) (some (.k (.int .i64 1))) none none) <|
 oq 0 (.mv (.s 25)) <|
 .nil) [0, 1, 4, 6])
 (.seq
 (.reg (oq 26 (.mv (.s 6)) <|
 oq 27 (.bin .rem (.s 26) (.k (.int .i64 12))) <|
 oq 7 (.mv (.s 27)) <|
 .nil) [0, 1, 4, 6, 7])
 (.seq
 (.cut ⟨[(0, .same), (1, .same), (4, .same), (6, .same), (7, .v)], [.same]⟩ [(.nrm, ⟨[(0, .same), (1, .same), (4, .same), (6, .same), (7, .v)], [.same]⟩)]
 (.seq
 (.reg (oq 28 (.mv (.s 1)) <|
 oq 29 (.bin .leq (.s 28) (.k (.int .i64 0))) <|
 oq 30 (.mv (.s 29)) <|
 .grp 30 true (oq 31 (.mv (.s 7)) <|
 oq 32 (.bin .geq (.s 31) (.k (.int .i64 6))) <|
 .nil) 33 (.s 32) (.k (.bool false)) <|
 .nil) [0, 1, 4, 6, 7, 33])
 (.cond (.s 33)
 (.reg (oq 34 (.mv (.s 7)) <|
 oq 35 (.bin .sub (.s 34) (.k (.int .i64 6))) <|
 oq 7 (.mv (.s 35)) <|
 .nil) [0, 1, 4, 6, 7])
 .skip)))
 (.seq
 (.cut ⟨[(0, .v), (1, .same), (4, .same), (6, .same), (7, .same)], [(.cells [.v, .v, .v, (.own 8), .v, .v, (.own 8), (.own 8)])]⟩ [(.nrm, ⟨[(0, .v), (1, .same), (4, .same), (6, .same)], [(.cells [.v, .v, .v, (.own 8), .v, .v, (.own 8), (.own 8)])]⟩), (.ret, ⟨[(4, .same), (5, .v)], [(.cells [.v, .v, .v, .v, .v, .v, (.own 8), (.own 8)])]⟩)]
 (.seq
 (.reg (oq 36 (.mv (.s 7)) <|
 .nil) [0, 1, 4, 6, 36])
 (.blk 0
 (.seq
 (.reg (oq 38 (.bin .eql (.s 36) (.k (.int .i64 0))) <|
 oq 37 (.mv (.s 38)) <|
 .nil) [0, 1, 4, 6, 36, 37])
 (.cond (.s 37)
 (.seq
 (.reg (oq 39 (.build zt8 [(0, 1, (.k (.int .i64 1)))]) <|
 oq 40 (.mv (.s 0)) <|
 oz (.store 8 (.s 4) (.s 39)) <|
 oq 5 (.mv (.s 40)) <|
 .nil) [4, 5])
 .ret)
 (.seq
 (.reg (oq 42 (.bin .eql (.s 36) (.k (.int .i64 1))) <|
 oq 41 (.mv (.s 42)) <|
 .nil) [0, 1, 4, 6, 36, 41])
 (.cond (.s 41)
 (.seq
 (.reg (oq 43 (.mv (.s 6)) <|
 oq 44 (.bin .quo (.s 43) (.k (.int .i64 12))) <|
 oq 45 (.bin .rem (.s 44) (.k (.int .i64 2))) <|
 oq 46 (.bin .eql (.s 45) (.k (.int .i64 1))) <|
 oq 47 (.build zt8 [(0, 1, (.k (.int .i64 2))), (1, 1, (.s 46))]) <|
 oq 48 (.mv (.s 0)) <|
 oz (.store 8 (.s 4) (.s 47)) <|
 oq 5 (.mv (.s 48)) <|
 .nil) [4, 5])
 .ret)
 (.seq
 (.cut ⟨[(0, .same), (1, .same), (4, .same), (6, .same), (36, .same)], [(.cells [.v, .v, .v, (.own 8), .v, .v, (.own 8), (.own 8)])]⟩ [(.nrm, ⟨[(0, .same), (1, .same), (4, .same), (6, .same), (36, .same), (49, .v)], [(.cells [.v, .v, .v, (.own 8), .v, .v, (.own 8), (.own 8)])]⟩)]
 (.seq
 (.reg (oq 50 (.bin .eql (.s 36) (.k (.int .i64 2))) <|
 oq 49 (.mv (.s 50)) <|
 .nil) [0, 1, 4, 6, 36, 49])
 (.cond (.s 49)
 .skip
 (.reg (oq 51 (.bin .eql (.s 36) (.k (.int .i64 3))) <|
 oq 49 (.mv (.s 51)) <|
 .nil) [0, 1, 4, 6, 36, 49]))))
 (.cond (.s 49)
 (.seq
 (.reg (oq 52 (.mv (.s 6)) <|
 oq 53 (.bin .quo (.s 52) (.k (.int .i64 12))) <|
 oq 54 (.call f_law00_number [.s 53]) <|
 oq 55 (.build zt8 [(0, 1, (.k (.int .i64 3))), (2, 3, (.s 54))]) <|
 oq 56 (.mv (.s 0)) <|
 oz (.store 8 (.s 4) (.s 55)) <|
 oq 5 (.mv (.s 56)) <|
 .nil) [4, 5])
 .ret)
 (.seq
 (.reg (oq 58 (.bin .eql (.s 36) (.k (.int .i64 4))) <|
 oq 57 (.mv (.s 58)) <|
 .nil) [0, 1, 4, 6, 36, 57])
 (.cond (.s 57)
 (.seq
 (.reg (oq 59 (.build [.int .i64 0, .int .i64 0, .int .i64 0, .int .i64 0, .int .i64 0, .int .i64 0, .int .i64 0, .int .i64 0, .int .i64 0] [(0, 1, (.k (.int .i64 0))), (1, 1, (.k (.int .i64 1))), (2, 1, (.k (.int .i64 2))), (3, 1, (.k (.int .i64 3))), (4, 1, (.k (.int .i64 4))), (5, 1, (.k (.int .i64 5))), (6, 1, (.k (.int .i64 6))), (7, 1, (.k (.int .i64 8))), (8, 1, (.k (.int .i64 9)))]) <|
 oq 60 (.mv (.s 6)) <|
 oq 61 (.bin .quo (.s 60) (.k (.int .i64 12))) <|
 oq 62 (.bin .rem (.s 61) (.k (.int .i64 9))) <|
 oq 63 (.ixa false 9 1 (.s 59) (.s 62)) <|
 oq 64 (.sls (.k (.str [97, 98, 99, 34, 92, 10, 195, 169, 122])) none (some (.s 63))) <|
 oq 65 (.build zt8 [(0, 1, (.k (.int .i64 4))), (5, 1, (.s 64))]) <|
 oq 66 (.mv (.s 0)) <|
 oz (.store 8 (.s 4) (.s 65)) <|
 oq 5 (.mv (.s 66)) <|
 .nil) [4, 5])
 .ret)
 (.seq
 (.reg (oq 68 (.bin .eql (.s 36) (.k (.int .i64 5))) <|
 oq 67 (.mv (.s 68)) <|
 .nil) [0, 1, 4, 6, 36, 67])
 (.cond (.s 67)
 (.seq
 (.reg (oq 69 (.mv (.s 6)) <|
 oq 70 (.bin .quo (.s 69) (.k (.int .i64 12))) <|
 oq 71 (.bin .rem (.s 70) (.k (.int .i64 5))) <|
 oq 72 (.sls (.k (.str [0, 255, 97, 98])) none (some (.s 71))) <|
 oq 73 (.build zt8 [(0, 1, (.k (.int .i64 5))), (5, 1, (.s 72))]) <|
 oq 74 (.mv (.s 0)) <|
 oz (.store 8 (.s 4) (.s 73)) <|
 oq 5 (.mv (.s 74)) <|
 .nil) [4, 5])
 .ret)
 (.seq
 (.cut ⟨[(0, .same), (1, .same), (4, .same), (6, .same), (36, .same)], [(.cells [.v, .v, .v, (.own 8), .v, .v, (.own 8), (.own 8)])]⟩ [(.nrm, ⟨[(0, .same), (1, .same), (4, .same), (6, .same), (75, .v)], [(.cells [.v, .v, .v, (.own 8), .v, .v, (.own 8), (.own 8)])]⟩)]
 (.seq
 (.reg (oq 76 (.bin .eql (.s 36) (.k (.int .i64 6))) <|
 oq 75 (.mv (.s 76)) <|
 .nil) [0, 1, 4, 6, 36, 75])
 (.cond (.s 75)
 .skip
 (.seq
 (.reg (oq 77 (.bin .eql (.s 36) (.k (.int .i64 7))) <|
 oq 75 (.mv (.s 77)) <|
 .nil) [0, 1, 4, 6, 36, 75])
 (.cond (.s 75)
 .skip
 (.reg (oq 78 (.bin .eql (.s 36) (.k (.int .i64 8))) <|
 oq 75 (.mv (.s 78)) <|
 .nil) [0, 1, 4, 6, 75]))))))
 (.cond (.s 75)
 (.seq
 (.reg (oq 79 (.build zt8 [(0, 1, (.k (.int .i64 6)))]) <|
 oq 8 (.alloc zt8) <|
 oz (.store 8 (.s 8) (.s 79)) <|
 .nil) [0, 1, 4, 6, 8])
 (.seq
 (.seq
 (.reg (oq 9 (.mv (.k (.int .i64 0))) <|
 .nil) [0, 1, 4, 6, 8, 9])
 (.blk 1
 (.loop ⟨[(0, .v), (1, .same), (4, .same), (6, .same), (8, .same), (9, .v)], [(.cells [.v, .v, .v, (.own 8), .v, .v, (.own 8), (.own 8)]), (.cells [.v, .v, .v, (.own 8), .v, .v, (.own 8), (.own 8)])]⟩ [(.ext 1, ⟨[(0, .v), (4, .same), (8, .same)], [(.cells [.v, .v, .v, (.own 8), .v, .v, (.own 8), (.own 8)]), (.cells [.v, .v, .v, (.own 8), .v, .v, (.own 8), (.own 8)])]⟩)]
 (.seq
 (.seq
 (.reg (oq 80 (.mv (.s 9)) <|
 oq 81 (.mv (.s 6)) <|
 oq 82 (.bin .quo (.s 81) (.k (.int .i64 12))) <|
 oq 83 (.bin .rem (.s 82) (.k (.int .i64 4))) <|
 oq 84 (.bin .lss (.s 80) (.s 83)) <|
 .nil) [0, 1, 4, 6, 8, 9, 84])
 (.cond (.s 84)
 .skip
 (.exit 1)))
 (.seq
 (.blk 2
 (.seq
 (.reg (oq 88 (.mv (.s 0)) <|
 oq 89 (.mv (.s 1)) <|
 oq 90 (.bin .sub (.s 89) (.k (.int .i64 1))) <|
 oq 91 (.call f_law00_made [.s 88, .s 90]) <|
 oq 87 (.mv (.s 91)) <|
 oq 92 (.ext (.s 87) 0) <|
 oq 93 (.ext (.s 87) 1) <|
 oq 10 (.alloc zt8) <|
 oz (.store 8 (.s 10) (.s 92)) <|
 oq 11 (.mv (.s 93)) <|
 .nil) [1, 4, 6, 8, 9, 10, 11])
 (.seq
 (.reg (oq 94 (.fad 7 (.s 8)) <|
 oq 95 (.load false 1 (.s 94)) <|
 oq 96 (.load true 8 (.s 10)) <|
 oq 97 (.lit 1 zt8 [(0, 8, (.s 96))]) <|
 oq 98 (.app 8 120 (.s 95) (.s 97)) <|
 oq 99 (.fad 7 (.s 8)) <|
 oz (.store 1 (.s 99) (.s 98)) <|
 .nil) [1, 4, 6, 8, 9, 11])
 (.reg (oq 100 (.mv (.s 11)) <|
 oq 0 (.mv (.s 100)) <|
 .nil) [0, 1, 4, 6, 8, 9]))))
 (.reg (oq 85 (.mv (.s 9)) <|
 oq 86 (.bin .add (.s 85) (.k (.int .i64 1))) <|
 oq 9 (.mv (.s 86)) <|
 .nil) [0, 1, 4, 6, 8, 9]))))))
 (.seq
 (.reg (oq 101 (.load true 8 (.s 8)) <|
 oq 102 (.mv (.s 0)) <|
 oz (.store 8 (.s 4) (.s 101)) <|
 oq 5 (.mv (.s 102)) <|
 .nil) [4, 5])
 .ret)))
 .skip)))))))))))))))
 (.seq
 (.reg (oq 103 (.build zt8 [(0, 1, (.k (.int .i64 7)))]) <|
 oq 12 (.alloc zt8) <|
 oz (.store 8 (.s 12) (.s 103)) <|
 .nil) [0, 1, 4, 6, 12])
 (.seq
 (.seq
 (.reg (oq 13 (.mv (.k (.int .i64 0))) <|
 .nil) [0, 1, 4, 6, 12, 13])
 (.blk 3
 (.loop ⟨[(0, .v), (1, .same), (4, .same), (6, .same), (12, .same), (13, .v)], [(.cells [.v, .v, .v, (.own 8), .v, .v, (.own 8), (.own 8)]), (.cells [.v, .v, .v, .v, .v, .v, .v, .v])]⟩ [(.ext 3, ⟨[(0, .v), (4, .same), (12, .same)], [(.cells [.v, .v, .v, (.own 8), .v, .v, (.own 8), (.own 8)]), (.box 8)]⟩)]
 (.seq
 (.seq
 (.reg (oq 104 (.mv (.s 13)) <|
 oq 105 (.mv (.s 6)) <|
 oq 106 (.bin .quo (.s 105) (.k (.int .i64 12))) <|
 oq 107 (.bin .rem (.s 106) (.k (.int .i64 4))) <|
 oq 108 (.bin .lss (.s 104) (.s 107)) <|
 .nil) [0, 1, 4, 6, 12, 13, 108])
 (.cond (.s 108)
 .skip
 (.exit 3)))
 (.seq
 (.blk 4
 (.seq
 (.reg (oq 112 (.mv (.s 0)) <|
 oq 113 (.mv (.s 1)) <|
 oq 114 (.bin .sub (.s 113) (.k (.int .i64 1))) <|
 oq 115 (.call f_law00_made [.s 112, .s 114]) <|
 oq 111 (.mv (.s 115)) <|
 oq 116 (.ext (.s 111) 0) <|
 oq 117 (.ext (.s 111) 1) <|
 oq 14 (.alloc zt8) <|
 oz (.store 8 (.s 14) (.s 116)) <|
 oq 15 (.mv (.s 117)) <|
 .nil) [1, 4, 6, 12, 13, 14, 15])
 (.seq
 (.drw (.nil)
 (oq 118 (.load true 8 (.s 12)) <|
 oq 119 (.call f_law00_Names []) <|
 oq 120 (.mv (.s 6)) <|
 oq 121 (.bin .quo (.s 120) (.k (.int .i64 48))) <|
 oq 122 (.mv (.s 13)) <|
 oq 123 (.bin .mul (.k (.int .i64 3)) (.s 122)) <|
 oq 124 (.bin .add (.s 121) (.s 123)) <|
 oq 125 (.bin .rem (.s 124) (.k (.int .i64 8))) <|
 oq 126 (.iad 1 (.s 119) (.s 125)) <|
 oq 127 (.load false 1 (.s 126)) <|
 oq 128 (.load true 8 (.s 14)) <|
 .nil)
 (oq 129 (.call f_ref05_Set [.s 118, .s 127, .s 128]) <|
 oz (.store 8 (.s 12) (.s 129)) <|
 .nil) [1, 4, 6, 12, 13, 15])
 (.reg (oq 130 (.mv (.s 15)) <|
 oq 0 (.mv (.s 130)) <|
 .nil) [0, 1, 4, 6, 12, 13]))))
 (.reg (oq 109 (.mv (.s 13)) <|
 oq 110 (.bin .add (.s 109) (.k (.int .i64 1))) <|
 oq 13 (.mv (.s 110)) <|
 .nil) [0, 1, 4, 6, 12, 13]))))))
 (.seq
 (.reg (oq 131 (.load true 8 (.s 12)) <|
 oq 132 (.mv (.s 0)) <|
 oz (.store 8 (.s 4) (.s 131)) <|
 oq 5 (.mv (.s 132)) <|
 .nil) [4, 5])
 .ret))))))))))
def p_law00_made : PFn := ⟨[.cell 4 true 8, .tmp 5], q_law00_made⟩
def n_law00_made : Fn := ⟨2, [.cell 4 true 8, .tmp 5], false, false, erase q_law00_made⟩
def q_law00_Num : PC :=
 (.seq
 (.reg (.box 3 1 (.s 0) <|
 oq 2 (.alloc [.bool false, (.sl .full 0 []), .int .i64 0]) <|
 .nil) [1, 2])
 (.seq
 (.drw (.nil)
 (oq 3 (.fad 0 (.s 1)) <|
 oq 4 (.load false 1 (.s 3)) <|
 oq 5 (.fad 1 (.s 1)) <|
 oq 6 (.load false 1 (.s 5)) <|
 oq 7 (.call f_law00_Limbs [.s 6]) <|
 oq 8 (.fad 2 (.s 1)) <|
 oq 9 (.load false 1 (.s 8)) <|
 .nil)
 (oq 10 (.build [.bool false, (.sl .full 0 []), .int .i64 0] [(0, 1, (.s 4)), (1, 1, (.s 7)), (2, 1, (.s 9))]) <|
 oz (.store 3 (.s 2) (.s 10)) <|
 .nil) [2])
 .ret))
def p_law00_Num : PFn := ⟨[.cell 2 true 3], q_law00_Num⟩
def n_law00_Num : Fn := ⟨1, [.cell 2 true 3], false, false, erase q_law00_Num⟩
def q_law00_Strings : PC :=
 (.seq
 (.reg (oq 2 (.mv (.k (.sl .full 0 []))) <|
 .nil) [0])
 (.seq
 (.reg (oq 3 (.mv (.s 0)) <|
 oq 4 (.app 1 16 (.k (.sl .full 0 [])) (.s 3)) <|
 oq 2 (.mv (.s 4)) <|
 .nil) [2])
 .ret))
def p_law00_Strings : PFn := ⟨[.tmp 2], q_law00_Strings⟩
def n_law00_Strings : Fn := ⟨1, [.tmp 2], false, false, erase q_law00_Strings⟩
def q_num_Same : PC :=
 (.seq
 (.reg (.box 3 2 (.s 0) <|
 .box 3 3 (.s 1) <|
 oq 4 (.mv (.k (.bool false))) <|
 .nil) [2, 3])
 (.seq
 (.drw (.nil)
 (oq 5 (.load true 3 (.s 2)) <|
 oq 6 (.call f_num_of [.s 5]) <|
 oq 7 (.load true 3 (.s 3)) <|
 .nil)
 (oq 8 (.call f_num_of [.s 7]) <|
 oz (.store 3 (.s 2) (.s 6)) <|
 oz (.store 3 (.s 3) (.s 8)) <|
 .nil) [2, 3])
 (.seq
 (.reg (oq 9 (.fad 0 (.s 2)) <|
 oq 10 (.load false 1 (.s 9)) <|
 oq 11 (.fad 0 (.s 3)) <|
 oq 12 (.load false 1 (.s 11)) <|
 oq 13 (.beq false (.s 10) (.s 12)) <|
 oq 14 (.mv (.s 13)) <|
 .grp 14 true (oq 15 (.fad 2 (.s 2)) <|
 oq 16 (.load false 1 (.s 15)) <|
 oq 17 (.fad 2 (.s 3)) <|
 oq 18 (.load false 1 (.s 17)) <|
 oq 19 (.bin .eql (.s 16) (.s 18)) <|
 .nil) 20 (.s 19) (.k (.bool false)) <|
 oq 21 (.mv (.s 20)) <|
 .grp 21 true (oq 22 (.fad 1 (.s 2)) <|
 oq 23 (.load false 1 (.s 22)) <|
 oq 24 (.fad 1 (.s 3)) <|
 oq 25 (.load false 1 (.s 24)) <|
 oq 26 (.call f_slices_Equal_uint32 [.s 23, .s 25]) <|
 .nil) 27 (.s 26) (.k (.bool false)) <|
 oq 4 (.mv (.s 27)) <|
 .nil) [4])
 .ret)))
def p_num_Same : PFn := ⟨[.tmp 4], q_num_Same⟩
def n_num_Same : Fn := ⟨2, [.tmp 4], false, false, erase q_num_Same⟩
def q_slices_Equal_string : PC :=
 (.seq
 (.reg (oq 4 (.mv (.k (.bool false))) <|
 .nil) [0, 1])
 (.seq
 (.seq
 (.reg (oq 6 (.mv (.s 0)) <|
 oq 7 (.len (.s 6)) <|
 oq 8 (.mv (.s 1)) <|
 oq 9 (.len (.s 8)) <|
 oq 10 (.bin .neq (.s 7) (.s 9)) <|
 .nil) [0, 1, 10])
 (.cond (.s 10)
 (.seq
 (.reg (oq 4 (.mv (.k (.bool false))) <|
 .nil) [4])
 .ret)
 .skip))
 (.seq
 (.seq
 (.reg (oq 11 (.mv (.s 0)) <|
 oq 12 (.len (.s 11)) <|
 oq 13 (.mv (.k (.int .i64 0))) <|
 .nil) [0, 1, 12, 13])
 (.blk 0
 (.loop ⟨[(0, .same), (1, .same), (12, .same), (13, .v)], []⟩ [(.ext 0, ⟨[], []⟩), (.ret, ⟨[(4, .v)], []⟩)]
 (.seq
 (.reg (oq 14 (.bin .lss (.s 13) (.s 12)) <|
 .nil) [0, 1, 12, 13, 14])
 (.seq
 (.cond (.s 14)
 .skip
 (.exit 0))
 (.seq
 (.blk 1
 (.seq
 (.reg (oq 15 (.mv (.s 13)) <|
 oq 5 (.mv (.s 15)) <|
 .nil) [0, 1, 5, 12, 13])
 (.seq
 (.drw (.nil)
 (oq 16 (.mv (.s 0)) <|
 oq 17 (.mv (.s 5)) <|
 oq 18 (.iad 1 (.s 16) (.s 17)) <|
 oq 19 (.load false 1 (.s 18)) <|
 oq 20 (.mv (.s 1)) <|
 oq 21 (.mv (.s 5)) <|
 oq 22 (.iad 1 (.s 20) (.s 21)) <|
 oq 23 (.load false 1 (.s 22)) <|
 .nil)
 (oq 24 (.bin .neq (.s 19) (.s 23)) <|
 .nil) [0, 1, 12, 13, 24])
 (.cond (.s 24)
 (.seq
 (.reg (oq 4 (.mv (.k (.bool false))) <|
 .nil) [4])
 .ret)
 .skip))))
 (.reg (oq 25 (.bin .add (.s 13) (.k (.int .i64 1))) <|
 oq 13 (.mv (.s 25)) <|
 .nil) [0, 1, 12, 13])))))))
 (.seq
 (.reg (oq 4 (.mv (.k (.bool true))) <|
 .nil) [4])
 .ret))))
def p_slices_Equal_string : PFn := ⟨[.tmp 4], q_slices_Equal_string⟩
def n_slices_Equal_string : Fn := ⟨2, [.tmp 4], false, false, erase q_slices_Equal_string⟩
def q_slices_EqualFunc_erratum_api_Tree : PC :=
 (.seq
 (.reg (oq 6 (.mv (.k (.bool false))) <|
 .nil) [0, 1, 2])
 (.seq
 (.seq
 (.reg (oq 10 (.mv (.s 0)) <|
 oq 11 (.len (.s 10)) <|
 oq 12 (.mv (.s 1)) <|
 oq 13 (.len (.s 12)) <|
 oq 14 (.bin .neq (.s 11) (.s 13)) <|
 .nil) [0, 1, 2, 14])
 (.cond (.s 14)
 (.seq
 (.reg (oq 6 (.mv (.k (.bool false))) <|
 .nil) [6])
 .ret)
 .skip))
 (.seq
 (.seq
 (.reg (oq 15 (.mv (.s 0)) <|
 oq 16 (.len (.s 15)) <|
 oq 17 (.mv (.k (.int .i64 0))) <|
 .nil) [1, 2, 15, 16, 17])
 (.blk 0
 (.loop ⟨[(1, .same), (2, .same), (15, .same), (16, .same), (17, .v)], []⟩ [(.ext 0, ⟨[], []⟩), (.ret, ⟨[(6, .v)], []⟩)]
 (.seq
 (.reg (oq 18 (.bin .lss (.s 17) (.s 16)) <|
 .nil) [1, 2, 15, 16, 17, 18])
 (.seq
 (.cond (.s 18)
 .skip
 (.exit 0))
 (.seq
 (.blk 1
 (.seq
 (.reg (oq 19 (.mv (.s 17)) <|
 oq 20 (.iad 8 (.s 15) (.s 17)) <|
 oq 21 (.load true 8 (.s 20)) <|
 oq 8 (.alloc zt8) <|
 oq 7 (.mv (.s 19)) <|
 oz (.store 8 (.s 8) (.s 21)) <|
 .nil) [1, 2, 7, 8, 15, 16, 17])
 (.seq
 (.reg (oq 22 (.mv (.s 1)) <|
 oq 23 (.mv (.s 7)) <|
 oq 24 (.iad 8 (.s 22) (.s 23)) <|
 oq 25 (.load true 8 (.s 24)) <|
 oq 9 (.alloc zt8) <|
 oz (.store 8 (.s 9) (.s 25)) <|
 .nil) [1, 2, 8, 9, 15, 16, 17])
 (.seq
 (.reg (oq 26 (.mv (.s 2)) <|
 oq 27 (.load true 8 (.s 8)) <|
 oq 28 (.load true 8 (.s 9)) <|
 oq 29 (.callv (.s 26) [.s 27, .s 28]) <|
 oq 30 (.un .not (.s 29)) <|
 .nil) [1, 2, 15, 16, 17, 30])
 (.cond (.s 30)
 (.seq
 (.reg (oq 6 (.mv (.k (.bool false))) <|
 .nil) [6])
 .ret)
 .skip)))))
 (.reg (oq 31 (.bin .add (.s 17) (.k (.int .i64 1))) <|
 oq 17 (.mv (.s 31)) <|
 .nil) [1, 2, 15, 16, 17])))))))
 (.seq
 (.reg (oq 6 (.mv (.k (.bool true))) <|
 .nil) [6])
 .ret))))
def p_slices_EqualFunc_erratum_api_Tree : PFn := ⟨[.tmp 6], q_slices_EqualFunc_erratum_api_Tree⟩
def n_slices_EqualFunc_erratum_api_Tree : Fn := ⟨3, [.tmp 6], false, false, erase q_slices_EqualFunc_erratum_api_Tree⟩
def q_ref05_Member : PC :=
 (.seq
 (.reg (.box 8 2 (.s 0) <|
 oq 4 (.alloc zt8) <|
 oq 5 (.mv (.k (.bool false))) <|
 .nil) [1, 2, 4])
 (.seq
 (.seq
 (.reg (oq 6 (.mv (.k (.int .i64 0))) <|
 .nil) [1, 2, 4, 6])
 (.blk 0
 (.loop ⟨[(1, .same), (2, .same), (4, .same), (6, .v)], [.same, (.cells [.v, .v, .v, .v, .v, .v, .v, .v])]⟩ [(.ext 0, ⟨[(4, .same)], [.same, (.box 8)]⟩), (.ret, ⟨[(4, .same), (5, .v)], [.same, (.box 8)]⟩)]
 (.seq
 (.seq
 (.reg (oq 7 (.mv (.s 6)) <|
 oq 8 (.fad 6 (.s 2)) <|
 oq 9 (.load false 1 (.s 8)) <|
 oq 10 (.len (.s 9)) <|
 oq 11 (.bin .lss (.s 7) (.s 10)) <|
 oq 12 (.mv (.s 11)) <|
 .grp 12 true (oq 13 (.mv (.s 6)) <|
 oq 14 (.fad 7 (.s 2)) <|
 oq 15 (.load false 1 (.s 14)) <|
 oq 16 (.len (.s 15)) <|
 oq 17 (.bin .lss (.s 13) (.s 16)) <|
 .nil) 18 (.s 17) (.k (.bool false)) <|
 oq 19 (.mv (.s 18)) <|
 .grp 19 true (oq 20 (.fad 0 (.s 2)) <|
 oq 21 (.load false 1 (.s 20)) <|
 oq 22 (.bin .eql (.s 21) (.k (.int .i64 7))) <|
 .nil) 23 (.s 22) (.k (.bool false)) <|
 .nil) [1, 2, 4, 6, 23])
 (.cond (.s 23)
 .skip
 (.exit 0)))
 (.seq
 (.blk 1
 (.seq
 (.reg (oq 26 (.fad 6 (.s 2)) <|
 oq 27 (.load false 1 (.s 26)) <|
 oq 28 (.mv (.s 6)) <|
 oq 29 (.iad 1 (.s 27) (.s 28)) <|
 oq 30 (.load false 1 (.s 29)) <|
 oq 31 (.mv (.s 1)) <|
 oq 32 (.bin .eql (.s 30) (.s 31)) <|
 .nil) [1, 2, 4, 6, 32])
 (.cond (.s 32)
 (.seq
 (.reg (oq 33 (.fad 7 (.s 2)) <|
 oq 34 (.load false 1 (.s 33)) <|
 oq 35 (.mv (.s 6)) <|
 oq 36 (.iad 8 (.s 34) (.s 35)) <|
 oq 37 (.load true 8 (.s 36)) <|
 oz (.store 8 (.s 4) (.s 37)) <|
 oq 5 (.mv (.k (.bool true))) <|
 .nil) [4, 5])
 .ret)
 .skip)))
 (.reg (oq 24 (.mv (.s 6)) <|
 oq 25 (.bin .add (.s 24) (.k (.int .i64 1))) <|
 oq 6 (.mv (.s 25)) <|
 .nil) [1, 2, 4, 6]))))))
 (.seq
 (.reg (oq 38 (.build zt8 []) <|
 oz (.store 8 (.s 4) (.s 38)) <|
 oq 5 (.mv (.k (.bool false))) <|
 .nil) [4, 5])
 .ret)))
def p_ref05_Member : PFn := ⟨[.cell 4 true 8, .tmp 5], q_ref05_Member⟩
def n_ref05_Member : Fn := ⟨2, [.cell 4 true 8, .tmp 5], false, false, erase q_ref05_Member⟩
def q_ref05_Set : PC :=
 (.seq
 (.reg (.box 8 3 (.s 0) <|
 .box 8 5 (.s 2) <|
 oq 6 (.alloc zt8) <|
 .nil) [1, 3, 5, 6])
 (.seq
 (.reg (oq 12 (.build zt8 [(0, 1, (.k (.int .i64 7)))]) <|
 oq 7 (.alloc zt8) <|
 oz (.store 8 (.s 7) (.s 12)) <|
 .nil) [1, 3, 5, 6, 7])
 (.seq
 (.reg (oq 8 (.mv (.k (.bool false))) <|
 .nil) [1, 3, 5, 6, 7, 8])
 (.seq
 (.reg (oq 14 (.load true 8 (.s 3)) <|
 oq 15 (.mv (.s 1)) <|
 oq 16 (.call f_ref05_Member [.s 14, .s 15]) <|
 oq 13 (.mv (.s 16)) <|
 oq 17 (.ext (.s 13) 0) <|
 oq 18 (.ext (.s 13) 1) <|
 oq 9 (.alloc zt8) <|
 oz (.store 8 (.s 9) (.s 17)) <|
 oq 10 (.mv (.s 18)) <|
 .nil) [1, 3, 5, 6, 7, 8, 10])
 (.seq
 (.seq
 (.reg (oq 11 (.mv (.k (.int .i64 0))) <|
 .nil) [1, 3, 5, 6, 7, 8, 10, 11])
 (.blk 0
 (.loop ⟨[(1, .same), (3, .same), (5, .same), (6, .same), (7, .same), (8, .v), (10, .same), (11, .v)], [.same, .same, .same, (.cells [.v, .v, .v, (.own 1), .v, .v, (.own 1), (.own 8)]), .same]⟩ [(.ext 0, ⟨[(1, .same), (5, .same), (6, .same), (7, .same), (8, .v)], [.same, .same, .same, (.cells [.v, .v, .v, (.own 1), .v, .v, (.own 1), (.own 8)]), .same]⟩)]
 (.seq
 (.seq
 (.reg (oq 19 (.mv (.s 11)) <|
 oq 20 (.fad 6 (.s 3)) <|
 oq 21 (.load false 1 (.s 20)) <|
 oq 22 (.len (.s 21)) <|
 oq 23 (.bin .lss (.s 19) (.s 22)) <|
 oq 24 (.mv (.s 23)) <|
 .grp 24 true (oq 25 (.mv (.s 11)) <|
 oq 26 (.fad 7 (.s 3)) <|
 oq 27 (.load false 1 (.s 26)) <|
 oq 28 (.len (.s 27)) <|
 oq 29 (.bin .lss (.s 25) (.s 28)) <|
 .nil) 30 (.s 29) (.k (.bool false)) <|
 oq 31 (.mv (.s 30)) <|
 .grp 31 true (oq 32 (.fad 0 (.s 3)) <|
 oq 33 (.load false 1 (.s 32)) <|
 oq 34 (.bin .eql (.s 33) (.k (.int .i64 7))) <|
 .nil) 35 (.s 34) (.k (.bool false)) <|
 .nil) [1, 3, 5, 6, 7, 8, 10, 11, 35])
 (.cond (.s 35)
 .skip
 (.exit 0)))
 (.seq
 (.blk 1
 (.seq
 (.blk 2
 (.seq
 (.reg (oq 39 (.mv (.s 8)) <|
 oq 40 (.un .not (.s 39)) <|
 oq 41 (.mv (.s 40)) <|
 .grp 41 true (oq 42 (.fad 6 (.s 3)) <|
 oq 43 (.load false 1 (.s 42)) <|
 oq 44 (.mv (.s 11)) <|
 oq 45 (.iad 1 (.s 43) (.s 44)) <|
 oq 46 (.load false 1 (.s 45)) <|
 oq 47 (.mv (.s 1)) <|
 oq 48 (.bin .eql (.s 46) (.s 47)) <|
 .nil) 49 (.s 48) (.k (.bool false)) <|
 oq 38 (.mv (.s 49)) <|
 .nil) [1, 3, 5, 6, 7, 8, 10, 11, 38])
 (.cond (.s 38)
 (.seq
 (.drq (.nil)
 (oq 50 (.fad 6 (.s 7)) <|
 oq 51 (.load false 1 (.s 50)) <|
 oq 52 (.mv (.s 1)) <|
 oq 53 (.lit 1 [(.str [])] [(0, 1, (.s 52))]) <|
 oq 54 (.app 1 16 (.s 51) (.s 53)) <|
 oq 55 (.fad 7 (.s 7)) <|
 oq 56 (.load false 1 (.s 55)) <|
 oq 57 (.load true 8 (.s 5)) <|
 oq 58 (.lit 1 zt8 [(0, 8, (.s 57))]) <|
 oq 59 (.app 8 120 (.s 56) (.s 58)) <|
 oq 60 (.fad 6 (.s 7)) <|
 .nil)
 (oz (.store 1 (.s 60) (.s 54)) <|
 oq 61 (.fad 7 (.s 7)) <|
 oz (.store 1 (.s 61) (.s 59)) <|
 .nil) [1, 3, 5, 6, 7, 10, 11])
 (.seq
 (.reg (oq 8 (.mv (.k (.bool true))) <|
 .nil) [1, 3, 5, 6, 7, 8, 10, 11])
 (.exit 1)))
 (.seq
 (.reg (oq 63 (.mv (.s 8)) <|
 oq 64 (.un .not (.s 63)) <|
 oq 65 (.mv (.s 64)) <|
 .grp 65 true (oq 66 (.mv (.s 10)) <|
 oq 67 (.un .not (.s 66)) <|
 .nil) 68 (.s 67) (.k (.bool false)) <|
 oq 69 (.mv (.s 68)) <|
 .grp 69 true (oq 70 (.fad 6 (.s 3)) <|
 oq 71 (.load false 1 (.s 70)) <|
 oq 72 (.mv (.s 11)) <|
 oq 73 (.iad 1 (.s 71) (.s 72)) <|
 oq 74 (.load false 1 (.s 73)) <|
 oq 75 (.mv (.s 1)) <|
 oq 76 (.bin .gtr (.s 74) (.s 75)) <|
 .nil) 77 (.s 76) (.k (.bool false)) <|
 oq 62 (.mv (.s 77)) <|
 .nil) [1, 3, 5, 6, 7, 8, 10, 11, 62])
 (.cond (.s 62)
 (.seq
 (.drq (.nil)
 (oq 78 (.fad 6 (.s 7)) <|
 oq 79 (.load false 1 (.s 78)) <|
 oq 80 (.mv (.s 1)) <|
 oq 81 (.lit 1 [(.str [])] [(0, 1, (.s 80))]) <|
 oq 82 (.app 1 16 (.s 79) (.s 81)) <|
 oq 83 (.fad 7 (.s 7)) <|
 oq 84 (.load false 1 (.s 83)) <|
 oq 85 (.load true 8 (.s 5)) <|
 oq 86 (.lit 1 zt8 [(0, 8, (.s 85))]) <|
 oq 87 (.app 8 120 (.s 84) (.s 86)) <|
 oq 88 (.fad 6 (.s 7)) <|
 .nil)
 (oz (.store 1 (.s 88) (.s 82)) <|
 oq 89 (.fad 7 (.s 7)) <|
 oz (.store 1 (.s 89) (.s 87)) <|
 .nil) [1, 3, 5, 6, 7, 10, 11])
 (.reg (oq 8 (.mv (.k (.bool true))) <|
 .nil) [1, 3, 5, 6, 7, 8, 10, 11]))
 .skip)))))
 (.drq (.nil)
 (oq 90 (.fad 6 (.s 7)) <|
 oq 91 (.load false 1 (.s 90)) <|
 oq 92 (.fad 6 (.s 3)) <|
 oq 93 (.load false 1 (.s 92)) <|
 oq 94 (.mv (.s 11)) <|
 oq 95 (.iad 1 (.s 93) (.s 94)) <|
 oq 96 (.load false 1 (.s 95)) <|
 oq 97 (.lit 1 [(.str [])] [(0, 1, (.s 96))]) <|
 oq 98 (.app 1 16 (.s 91) (.s 97)) <|
 oq 99 (.fad 7 (.s 7)) <|
 oq 100 (.load false 1 (.s 99)) <|
 oq 101 (.fad 7 (.s 3)) <|
 oq 102 (.load false 1 (.s 101)) <|
 oq 103 (.mv (.s 11)) <|
 oq 104 (.iad 8 (.s 102) (.s 103)) <|
 oq 105 (.load true 8 (.s 104)) <|
 oq 106 (.lit 1 zt8 [(0, 8, (.s 105))]) <|
 oq 107 (.app 8 120 (.s 100) (.s 106)) <|
 oq 108 (.fad 6 (.s 7)) <|
 .nil)
 (oz (.store 1 (.s 108) (.s 98)) <|
 oq 109 (.fad 7 (.s 7)) <|
 oz (.store 1 (.s 109) (.s 107)) <|
 .nil) [1, 3, 5, 6, 7, 8, 10, 11])))
 (.reg (oq 36 (.mv (.s 11)) <|
 oq 37 (.bin .add (.s 36) (.k (.int .i64 1))) <|
 oq 11 (.mv (.s 37)) <|
 .nil) [1, 3, 5, 6, 7, 8, 10, 11]))))))
 (.seq
 (.seq
 (.reg (oq 110 (.mv (.s 8)) <|
 oq 111 (.un .not (.s 110)) <|
 .nil) [1, 5, 6, 7, 111])
 (.cond (.s 111)
 (.drq (.nil)
 (oq 112 (.fad 6 (.s 7)) <|
 oq 113 (.load false 1 (.s 112)) <|
 oq 114 (.mv (.s 1)) <|
 oq 115 (.lit 1 [(.str [])] [(0, 1, (.s 114))]) <|
 oq 116 (.app 1 16 (.s 113) (.s 115)) <|
 oq 117 (.fad 7 (.s 7)) <|
 oq 118 (.load false 1 (.s 117)) <|
 oq 119 (.load true 8 (.s 5)) <|
 oq 120 (.lit 1 zt8 [(0, 8, (.s 119))]) <|
 oq 121 (.app 8 120 (.s 118) (.s 120)) <|
 oq 122 (.fad 6 (.s 7)) <|
 .nil)
 (oz (.store 1 (.s 122) (.s 116)) <|
 oq 123 (.fad 7 (.s 7)) <|
 oz (.store 1 (.s 123) (.s 121)) <|
 .nil) [6, 7])
 .skip))
 (.seq
 (.reg (oq 124 (.load true 8 (.s 7)) <|
 oz (.store 8 (.s 6) (.s 124)) <|
 .nil) [6])
 .ret)))))))
def p_ref05_Set : PFn := ⟨[.cell 6 true 8], q_ref05_Set⟩
def n_ref05_Set : Fn := ⟨3, [.cell 6 true 8], false, false, erase q_ref05_Set⟩
def q_tree_own : PC :=
 (.seq
 (.reg (.box 8 1 (.s 0) <|
 oq 2 (.mv (.k (.bool false))) <|
 .nil) [1])
 (.seq
 (.drw (.nil)
 (oq 8 (.fad 1 (.s 1)) <|
 oq 9 (.load false 1 (.s 8)) <|
 oq 10 (.un .not (.s 9)) <|
 oq 11 (.fad 2 (.s 1)) <|
 oq 12 (.fad 0 (.s 11)) <|
 oq 13 (.load false 1 (.s 12)) <|
 oq 14 (.un .not (.s 13)) <|
 oq 15 (.mv (.s 14)) <|
 .grp 15 true (oq 16 (.fad 2 (.s 1)) <|
 oq 17 (.fad 1 (.s 16)) <|
 oq 18 (.load false 1 (.s 17)) <|
 oq 19 (.len (.s 18)) <|
 oq 20 (.bin .eql (.s 19) (.k (.int .i64 0))) <|
 .nil) 21 (.s 20) (.k (.bool false)) <|
 oq 22 (.mv (.s 21)) <|
 .grp 22 true (oq 23 (.fad 2 (.s 1)) <|
 oq 24 (.fad 2 (.s 23)) <|
 oq 25 (.load false 1 (.s 24)) <|
 oq 26 (.bin .eql (.s 25) (.k (.int .i64 0))) <|
 .nil) 27 (.s 26) (.k (.bool false)) <|
 oq 28 (.fad 5 (.s 1)) <|
 oq 29 (.load false 1 (.s 28)) <|
 oq 30 (.bin .eql (.s 29) (.k (.str []))) <|
 oq 3 (.mv (.s 10)) <|
 oq 4 (.mv (.s 27)) <|
 .nil)
 (oq 5 (.mv (.s 30)) <|
 .nil) [1, 3, 4, 5])
 (.seq
 (.drw (.nil)
 (oq 31 (.fad 6 (.s 1)) <|
 oq 32 (.load false 1 (.s 31)) <|
 oq 33 (.len (.s 32)) <|
 oq 34 (.bin .eql (.s 33) (.k (.int .i64 0))) <|
 oq 35 (.fad 7 (.s 1)) <|
 oq 36 (.load false 1 (.s 35)) <|
 oq 37 (.len (.s 36)) <|
 oq 38 (.bin .eql (.s 37) (.k (.int .i64 0))) <|
 oq 6 (.mv (.s 34)) <|
 .nil)
 (oq 7 (.mv (.s 38)) <|
 .nil) [1, 3, 4, 5, 6, 7])
 (.seq
 (.cut ⟨[(1, .same), (3, .v), (4, .v), (5, .v), (6, .v), (7, .v)], [.same]⟩ [(.nrm, ⟨[(3, .v), (4, .v), (5, .v), (6, .v), (7, .v)], [.same]⟩), (.ret, ⟨[(2, .v)], [.same]⟩)]
 (.seq
 (.reg (oq 39 (.fad 0 (.s 1)) <|
 oq 40 (.load false 1 (.s 39)) <|
 .nil) [1, 3, 4, 5, 6, 7, 40])
 (.blk 0
 (.seq
 (.blk 8
 (.seq
 (.cut ⟨[(1, .same), (3, .v), (4, .v), (5, .v), (6, .v), (7, .same), (40, .same)], [.same]⟩ [(.ext 0, ⟨[(3, .v), (4, .v), (5, .v), (6, .v), (7, .same)], [.same]⟩), (.ext 8, ⟨[], [.same]⟩), (.nrm, ⟨[(1, .same), (3, .v), (4, .v), (5, .v), (6, .v)], [.same]⟩)]
 (.blk 7
 (.seq
 (.blk 6
 (.seq
 (.blk 5
 (.seq
 (.blk 4
 (.seq
 (.blk 3
 (.seq
 (.blk 2
 (.seq
 (.blk 1
 (.seq
 (.seq
 (.seq
 (.reg (oq 42 (.bin .eql (.s 40) (.k (.int .i64 1))) <|
 oq 41 (.mv (.s 42)) <|
 .nil) [1, 3, 4, 5, 6, 7, 40, 41])
 (.cond (.s 41)
 (.exit 1)
 .skip))
 (.seq
 (.seq
 (.reg (oq 44 (.bin .eql (.s 40) (.k (.int .i64 2))) <|
 oq 43 (.mv (.s 44)) <|
 .nil) [1, 3, 4, 5, 6, 7, 40, 43])
 (.cond (.s 43)
 (.exit 2)
 .skip))
 (.seq
 (.seq
 (.reg (oq 46 (.bin .eql (.s 40) (.k (.int .i64 3))) <|
 oq 45 (.mv (.s 46)) <|
 .nil) [1, 3, 4, 5, 6, 7, 40, 45])
 (.cond (.s 45)
 (.exit 3)
 .skip))
 (.seq
 (.seq
 (.reg (oq 48 (.bin .eql (.s 40) (.k (.int .i64 4))) <|
 oq 47 (.mv (.s 48)) <|
 .nil) [1, 3, 4, 5, 6, 7, 40, 47])
 (.cond (.s 47)
 (.exit 4)
 .skip))
 (.seq
 (.seq
 (.reg (oq 50 (.bin .eql (.s 40) (.k (.int .i64 5))) <|
 oq 49 (.mv (.s 50)) <|
 .nil) [1, 3, 4, 5, 6, 7, 40, 49])
 (.cond (.s 49)
 (.exit 5)
 .skip))
 (.seq
 (.seq
 (.reg (oq 52 (.bin .eql (.s 40) (.k (.int .i64 7))) <|
 oq 51 (.mv (.s 52)) <|
 .nil) [1, 3, 4, 5, 6, 40, 51])
 (.cond (.s 51)
 (.exit 6)
 .skip))
 (.seq
 (.reg (oq 54 (.bin .eql (.s 40) (.k (.int .i64 6))) <|
 oq 53 (.mv (.s 54)) <|
 .nil) [1, 3, 4, 5, 6, 53])
 (.cond (.s 53)
 (.exit 7)
 .skip))))))))
 (.exit 8)))
 (.exit 0)))
 (.seq
 (.reg (oq 3 (.mv (.k (.bool true))) <|
 .nil) [3, 4, 5, 6, 7])
 (.exit 0))))
 (.seq
 (.reg (oq 55 (.fad 2 (.s 1)) <|
 oq 56 (.load true 3 (.s 55)) <|
 oq 57 (.call f_num_Check [.s 56]) <|
 oq 4 (.mv (.s 57)) <|
 .nil) [3, 4, 5, 6, 7])
 (.exit 0))))
 (.seq
 (.reg (oq 58 (.fad 5 (.s 1)) <|
 oq 59 (.load false 1 (.s 58)) <|
 oq 60 (.call f_tree_text [.s 59]) <|
 oq 5 (.mv (.s 60)) <|
 .nil) [3, 4, 5, 6, 7])
 (.exit 0))))
 (.seq
 (.reg (oq 61 (.fad 5 (.s 1)) <|
 oq 62 (.load false 1 (.s 61)) <|
 oq 63 (.lns (.s 62)) <|
 oq 64 (.bin .leq (.s 63) (.k (.int .i64 2000))) <|
 oq 5 (.mv (.s 64)) <|
 .nil) [3, 4, 5, 6, 7])
 (.exit 0))))
 (.reg (oq 65 (.fad 6 (.s 1)) <|
 oq 66 (.load false 1 (.s 65)) <|
 oq 67 (.call f_tree_names [.s 66]) <|
 oq 68 (.mv (.s 67)) <|
 .grp 68 true (oq 69 (.fad 6 (.s 1)) <|
 oq 70 (.load false 1 (.s 69)) <|
 oq 71 (.len (.s 70)) <|
 oq 72 (.fad 7 (.s 1)) <|
 oq 73 (.load false 1 (.s 72)) <|
 oq 74 (.len (.s 73)) <|
 oq 75 (.bin .eql (.s 71) (.s 74)) <|
 .nil) 76 (.s 75) (.k (.bool false)) <|
 oq 6 (.mv (.s 76)) <|
 .nil) [1, 3, 4, 5, 6]))))
 (.seq
 (.reg (oq 77 (.fad 7 (.s 1)) <|
 oq 78 (.load false 1 (.s 77)) <|
 oq 79 (.len (.s 78)) <|
 oq 80 (.bin .leq (.s 79) (.k (.int .i64 300))) <|
 oq 7 (.mv (.s 80)) <|
 .nil) [3, 4, 5, 6, 7])
 (.exit 0))))
 (.seq
 (.seq
 (.reg (oq 2 (.mv (.k (.bool false))) <|
 .nil) [2])
 .ret)
 (.exit 0))))))
 (.seq
 (.reg (oq 81 (.mv (.s 3)) <|
 oq 82 (.mv (.s 81)) <|
 .grp 82 true (oq 83 (.mv (.s 4)) <|
 .nil) 84 (.s 83) (.k (.bool false)) <|
 oq 85 (.mv (.s 84)) <|
 .grp 85 true (oq 86 (.mv (.s 5)) <|
 .nil) 87 (.s 86) (.k (.bool false)) <|
 oq 88 (.mv (.s 87)) <|
 .grp 88 true (oq 89 (.mv (.s 6)) <|
 .nil) 90 (.s 89) (.k (.bool false)) <|
 oq 91 (.mv (.s 90)) <|
 .grp 91 true (oq 92 (.mv (.s 7)) <|
 .nil) 93 (.s 92) (.k (.bool false)) <|
 oq 2 (.mv (.s 93)) <|
 .nil) [2])
 .ret)))))
def p_tree_own : PFn := ⟨[.tmp 2], q_tree_own⟩
def n_tree_own : Fn := ⟨1, [.tmp 2], false, false, erase q_tree_own⟩
def q_law00_number : PC :=
 (.seq
 (.reg (oq 2 (.alloc [.bool false, (.sl .full 0 []), .int .i64 0]) <|
 .nil) [0, 2])
 (.seq
 (.seq
 (.reg (oq 9 (.mv (.s 0)) <|
 oq 10 (.bin .rem (.s 9) (.k (.int .i64 5))) <|
 .nil) [0, 2, 10])
 (.blk 0
 (.seq
 (.reg (oq 12 (.bin .eql (.s 10) (.k (.int .i64 0))) <|
 oq 11 (.mv (.s 12)) <|
 .nil) [0, 2, 10, 11])
 (.cond (.s 11)
 (.seq
 (.reg (oq 13 (.mv (.s 0)) <|
 oq 14 (.bin .quo (.s 13) (.k (.int .i64 5))) <|
 oq 15 (.bin .rem (.s 14) (.k (.int .i64 60))) <|
 oq 16 (.bin .sub (.s 15) (.k (.int .i64 20))) <|
 oq 17 (.call f_ref02_Of [.s 16]) <|
 oz (.store 3 (.s 2) (.s 17)) <|
 .nil) [2])
 .ret)
 (.seq
 (.reg (oq 19 (.bin .eql (.s 10) (.k (.int .i64 1))) <|
 oq 18 (.mv (.s 19)) <|
 .nil) [0, 2, 10, 18])
 (.cond (.s 18)
 (.seq
 (.reg (oq 21 (.mv (.s 0)) <|
 oq 22 (.bin .quo (.s 21) (.k (.int .i64 5))) <|
 oq 23 (.bin .rem (.s 22) (.k (.int .i64 2))) <|
 oq 24 (.bin .eql (.s 23) (.k (.int .i64 1))) <|
 oq 25 (.mv (.s 0)) <|
 oq 26 (.bin .quo (.s 25) (.k (.int .i64 10))) <|
 oq 27 (.bin .rem (.s 26) (.k (.int .i64 2000))) <|
 oq 28 (.cvi .u32 (.s 27)) <|
 oq 29 (.lit 1 [.int .u32 0] [(0, 1, (.s 28))]) <|
 oq 30 (.mv (.s 0)) <|
 oq 31 (.bin .quo (.s 30) (.k (.int .i64 7))) <|
 oq 32 (.bin .rem (.s 31) (.k (.int .i64 9))) <|
 oq 33 (.bin .sub (.s 32) (.k (.int .i64 5))) <|
 oq 34 (.call f_ref02_Make [.s 24, .s 29, .s 33]) <|
 oq 20 (.mv (.s 34)) <|
 oq 35 (.ext (.s 20) 0) <|
 oq 36 (.ext (.s 20) 1) <|
 oq 3 (.alloc [.bool false, (.sl .full 0 []), .int .i64 0]) <|
 oz (.store 3 (.s 3) (.s 35)) <|
 oq 4 (.mv (.s 36)) <|
 .nil) [2, 3])
 (.seq
 (.reg (oq 37 (.load true 3 (.s 3)) <|
 oz (.store 3 (.s 2) (.s 37)) <|
 .nil) [2])
 .ret))
 (.seq
 (.reg (oq 39 (.bin .eql (.s 10) (.k (.int .i64 2))) <|
 oq 38 (.mv (.s 39)) <|
 .nil) [0, 2, 10, 38])
 (.cond (.s 38)
 (.seq
 (.reg (oq 41 (.mv (.s 0)) <|
 oq 42 (.cvi .u32 (.s 41)) <|
 oq 43 (.mv (.s 0)) <|
 oq 44 (.bin .quo (.s 43) (.k (.int .i64 3))) <|
 oq 45 (.cvi .u32 (.s 44)) <|
 oq 46 (.mv (.s 0)) <|
 oq 47 (.bin .rem (.s 46) (.k (.int .i64 7))) <|
 oq 48 (.cvi .u32 (.s 47)) <|
 oq 49 (.lit 3 [.int .u32 0] [(0, 1, (.s 42)), (1, 1, (.s 45)), (2, 1, (.s 48))]) <|
 oq 50 (.call f_ref02_Make [(.k (.bool false)), .s 49, (.k (.int .i64 0))]) <|
 oq 40 (.mv (.s 50)) <|
 oq 51 (.ext (.s 40) 0) <|
 oq 52 (.ext (.s 40) 1) <|
 oq 5 (.alloc [.bool false, (.sl .full 0 []), .int .i64 0]) <|
 oz (.store 3 (.s 5) (.s 51)) <|
 oq 6 (.mv (.s 52)) <|
 .nil) [2, 5])
 (.seq
 (.reg (oq 53 (.load true 3 (.s 5)) <|
 oz (.store 3 (.s 2) (.s 53)) <|
 .nil) [2])
 .ret))
 (.seq
 (.reg (oq 55 (.bin .eql (.s 10) (.k (.int .i64 3))) <|
 oq 54 (.mv (.s 55)) <|
 .nil) [0, 2, 54])
 (.cond (.s 54)
 (.seq
 (.reg (oq 57 (.mv (.s 0)) <|
 oq 58 (.bin .rem (.s 57) (.k (.int .i64 2))) <|
 oq 59 (.bin .eql (.s 58) (.k (.int .i64 1))) <|
 oq 60 (.mv (.s 0)) <|
 oq 61 (.cvi .u32 (.s 60)) <|
 oq 62 (.lit 2 [.int .u32 0] [(0, 1, (.k (.int .u32 5))), (1, 1, (.s 61))]) <|
 oq 63 (.mv (.s 0)) <|
 oq 64 (.bin .quo (.s 63) (.k (.int .i64 5))) <|
 oq 65 (.bin .rem (.s 64) (.k (.int .i64 30))) <|
 oq 66 (.un .neg (.s 65)) <|
 oq 67 (.call f_ref02_Make [.s 59, .s 62, .s 66]) <|
 oq 56 (.mv (.s 67)) <|
 oq 68 (.ext (.s 56) 0) <|
 oq 69 (.ext (.s 56) 1) <|
 oq 7 (.alloc [.bool false, (.sl .full 0 []), .int .i64 0]) <|
 oz (.store 3 (.s 7) (.s 68)) <|
 oq 8 (.mv (.s 69)) <|
 .nil) [2, 7])
 (.seq
 (.reg (oq 70 (.load true 3 (.s 7)) <|
 oz (.store 3 (.s 2) (.s 70)) <|
 .nil) [2])
 .ret))
 .skip))))))))))
 (.seq
 (.reg (oq 71 (.mv (.s 0)) <|
 oq 72 (.call f_ref02_Of [.s 71]) <|
 oz (.store 3 (.s 2) (.s 72)) <|
 .nil) [2])
 .ret)))
def p_law00_number : PFn := ⟨[.cell 2 true 3], q_law00_number⟩
def n_law00_number : Fn := ⟨1, [.cell 2 true 3], false, false, erase q_law00_number⟩
def q_law00_Names : PC :=
 (.seq
 (.reg (oq 0 (.mv (.k (.sl .full 0 []))) <|
 .nil) [])
 (.seq
 (.reg (oq 1 (.lit 8 [(.str [])] [(0, 1, (.k (.str [97]))), (1, 1, (.k (.str [98]))), (2, 1, (.k (.str [99]))), (3, 1, (.k (.str [100, 100]))), (4, 1, (.k (.str [101]))), (5, 1, (.k (.str []))), (6, 1, (.k (.str [120, 47, 121]))), (7, 1, (.k (.str [122, 126])))]) <|
 oq 0 (.mv (.s 1)) <|
 .nil) [0])
 .ret))
def p_law00_Names : PFn := ⟨[.tmp 0], q_law00_Names⟩
def n_law00_Names : Fn := ⟨0, [.tmp 0], false, true, erase q_law00_Names⟩
def q_law00_Limbs : PC :=
 (.seq
 (.reg (oq 2 (.mv (.k (.sl .full 0 []))) <|
 .nil) [0])
 (.seq
 (.reg (oq 3 (.mv (.s 0)) <|
 oq 4 (.app 1 4 (.k (.sl .full 0 [])) (.s 3)) <|
 oq 2 (.mv (.s 4)) <|
 .nil) [2])
 .ret))
def p_law00_Limbs : PFn := ⟨[.tmp 2], q_law00_Limbs⟩
def n_law00_Limbs : Fn := ⟨1, [.tmp 2], false, true, erase q_law00_Limbs⟩
def q_num_of : PC :=
 (.seq
 (.reg (.box 3 1 (.s 0) <|
 oq 2 (.alloc [.bool false, (.sl .full 0 []), .int .i64 0]) <|
 .nil) [1, 2])
 (.seq
 (.seq
 (.reg (oq 3 (.load true 3 (.s 1)) <|
 oq 4 (.call f_num_Check [.s 3]) <|
 oq 5 (.un .not (.s 4)) <|
 .nil) [1, 2, 5])
 (.cond (.s 5)
 (.seq
 (.reg (oq 6 (.build [.bool false, (.sl .full 0 []), .int .i64 0] []) <|
 oz (.store 3 (.s 2) (.s 6)) <|
 .nil) [2])
 .ret)
 .skip))
 (.seq
 (.reg (oq 7 (.load true 3 (.s 1)) <|
 oz (.store 3 (.s 2) (.s 7)) <|
 .nil) [2])
 .ret)))
def p_num_of : PFn := ⟨[.cell 2 true 3], q_num_of⟩
def n_num_of : Fn := ⟨1, [.cell 2 true 3], false, false, erase q_num_of⟩
def q_slices_Equal_uint32 : PC :=
 (.seq
 (.reg (oq 4 (.mv (.k (.bool false))) <|
 .nil) [0, 1])
 (.seq
 (.seq
 (.reg (oq 6 (.mv (.s 0)) <|
 oq 7 (.len (.s 6)) <|
 oq 8 (.mv (.s 1)) <|
 oq 9 (.len (.s 8)) <|
 oq 10 (.bin .neq (.s 7) (.s 9)) <|
 .nil) [0, 1, 10])
 (.cond (.s 10)
 (.seq
 (.reg (oq 4 (.mv (.k (.bool false))) <|
 .nil) [4])
 .ret)
 .skip))
 (.seq
 (.seq
 (.reg (oq 11 (.mv (.s 0)) <|
 oq 12 (.len (.s 11)) <|
 oq 13 (.mv (.k (.int .i64 0))) <|
 .nil) [0, 1, 12, 13])
 (.blk 0
 (.loop ⟨[(0, .same), (1, .same), (12, .same), (13, .v)], []⟩ [(.ext 0, ⟨[], []⟩), (.ret, ⟨[(4, .v)], []⟩)]
 (.seq
 (.reg (oq 14 (.bin .lss (.s 13) (.s 12)) <|
 .nil) [0, 1, 12, 13, 14])
 (.seq
 (.cond (.s 14)
 .skip
 (.exit 0))
 (.seq
 (.blk 1
 (.seq
 (.reg (oq 15 (.mv (.s 13)) <|
 oq 5 (.mv (.s 15)) <|
 .nil) [0, 1, 5, 12, 13])
 (.seq
 (.drw (.nil)
 (oq 16 (.mv (.s 0)) <|
 oq 17 (.mv (.s 5)) <|
 oq 18 (.iad 1 (.s 16) (.s 17)) <|
 oq 19 (.load false 1 (.s 18)) <|
 oq 20 (.mv (.s 1)) <|
 oq 21 (.mv (.s 5)) <|
 oq 22 (.iad 1 (.s 20) (.s 21)) <|
 oq 23 (.load false 1 (.s 22)) <|
 .nil)
 (oq 24 (.bin .neq (.s 19) (.s 23)) <|
 .nil) [0, 1, 12, 13, 24])
 (.cond (.s 24)
 (.seq
 (.reg (oq 4 (.mv (.k (.bool false))) <|
 .nil) [4])
 .ret)
 .skip))))
 (.reg (oq 25 (.bin .add (.s 13) (.k (.int .i64 1))) <|
 oq 13 (.mv (.s 25)) <|
 .nil) [0, 1, 12, 13])))))))
 (.seq
 (.reg (oq 4 (.mv (.k (.bool true))) <|
 .nil) [4])
 .ret))))
def p_slices_Equal_uint32 : PFn := ⟨[.tmp 4], q_slices_Equal_uint32⟩
def n_slices_Equal_uint32 : Fn := ⟨2, [.tmp 4], false, false, erase q_slices_Equal_uint32⟩
def q_num_Check : PC :=
 (.seq
 (.reg (.box 3 1 (.s 0) <|
 oq 2 (.mv (.k (.bool false))) <|
 .nil) [1])
 (.seq
 (.reg (oq 6 (.fad 1 (.s 1)) <|
 oq 7 (.load false 1 (.s 6)) <|
 oq 8 (.len (.s 7)) <|
 oq 3 (.mv (.s 8)) <|
 .nil) [1, 3])
 (.seq
 (.seq
 (.reg (oq 9 (.mv (.s 3)) <|
 oq 10 (.bin .eql (.s 9) (.k (.int .i64 0))) <|
 .nil) [1, 3, 10])
 (.cond (.s 10)
 (.seq
 (.reg (oq 11 (.fad 0 (.s 1)) <|
 oq 12 (.load false 1 (.s 11)) <|
 oq 13 (.un .not (.s 12)) <|
 oq 14 (.mv (.s 13)) <|
 .grp 14 true (oq 15 (.fad 2 (.s 1)) <|
 oq 16 (.load false 1 (.s 15)) <|
 oq 17 (.bin .eql (.s 16) (.k (.int .i64 0))) <|
 .nil) 18 (.s 17) (.k (.bool false)) <|
 oq 2 (.mv (.s 18)) <|
 .nil) [2])
 .ret)
 .skip))
 (.seq
 (.seq
 (.reg (oq 19 (.mv (.s 3)) <|
 oq 20 (.bin .gtr (.s 19) (.k (.int .i64 90))) <|
 oq 21 (.mv (.s 20)) <|
 .grp 21 false (oq 22 (.fad 1 (.s 1)) <|
 oq 23 (.load false 1 (.s 22)) <|
 oq 24 (.mv (.s 3)) <|
 oq 25 (.bin .sub (.s 24) (.k (.int .i64 1))) <|
 oq 26 (.iad 1 (.s 23) (.s 25)) <|
 oq 27 (.load false 1 (.s 26)) <|
 oq 28 (.bin .eql (.s 27) (.k (.int .u32 0))) <|
 .nil) 29 (.s 28) (.k (.bool true)) <|
 oq 30 (.mv (.s 29)) <|
 .grp 30 false (oq 31 (.fad 2 (.s 1)) <|
 oq 32 (.load false 1 (.s 31)) <|
 oq 33 (.bin .lss (.s 32) (.k (.int .i64 (-1200)))) <|
 .nil) 34 (.s 33) (.k (.bool true)) <|
 oq 35 (.mv (.s 34)) <|
 .grp 35 false (oq 36 (.fad 2 (.s 1)) <|
 oq 37 (.load false 1 (.s 36)) <|
 oq 38 (.bin .gtr (.s 37) (.k (.int .i64 1200))) <|
 .nil) 39 (.s 38) (.k (.bool true)) <|
 .nil) [1, 39])
 (.cond (.s 39)
 (.seq
 (.reg (oq 2 (.mv (.k (.bool false))) <|
 .nil) [2])
 .ret)
 .skip))
 (.seq
 (.reg (oq 41 (.fad 1 (.s 1)) <|
 oq 42 (.load false 1 (.s 41)) <|
 oq 43 (.call f_nat_Trim [.s 42]) <|
 oq 40 (.mv (.s 43)) <|
 oq 44 (.ext (.s 40) 0) <|
 oq 45 (.ext (.s 40) 1) <|
 oq 4 (.mv (.s 44)) <|
 oq 5 (.mv (.s 45)) <|
 .nil) [5])
 (.seq
 (.reg (oq 46 (.mv (.s 5)) <|
 oq 47 (.bin .eql (.s 46) (.k (.int .i64 0))) <|
 oq 2 (.mv (.s 47)) <|
 .nil) [2])
 .ret))))))
def p_num_Check : PFn := ⟨[.tmp 2], q_num_Check⟩
def n_num_Check : Fn := ⟨1, [.tmp 2], false, false, erase q_num_Check⟩
def q_tree_text : PC :=
 (.seq
 (.reg (oq 2 (.mv (.k (.bool false))) <|
 .nil) [0])
 (.seq
 (.reg (oq 3 (.mv (.s 0)) <|
 oq 4 (.lns (.s 3)) <|
 oq 5 (.bin .leq (.s 4) (.k (.int .i64 2000))) <|
 oq 6 (.mv (.s 5)) <|
 .grp 6 true (oq 7 (.mv (.s 0)) <|
 oq 8 (.call f_utf_Valid [.s 7]) <|
 .nil) 9 (.s 8) (.k (.bool false)) <|
 oq 2 (.mv (.s 9)) <|
 .nil) [2])
 .ret))
def p_tree_text : PFn := ⟨[.tmp 2], q_tree_text⟩
def n_tree_text : Fn := ⟨1, [.tmp 2], false, false, erase q_tree_text⟩
def q_tree_names : PC :=
 (.seq
 (.reg (oq 2 (.mv (.k (.bool false))) <|
 .nil) [0])
 (.seq
 (.seq
 (.reg (oq 5 (.mv (.s 0)) <|
 oq 6 (.len (.s 5)) <|
 oq 7 (.mv (.k (.int .i64 0))) <|
 .nil) [0, 5, 6, 7])
 (.blk 0
 (.loop ⟨[(0, .same), (5, .same), (6, .same), (7, .v)], []⟩ [(.ext 0, ⟨[(0, .same)], []⟩), (.ret, ⟨[(2, .v)], []⟩)]
 (.seq
 (.reg (oq 8 (.bin .lss (.s 7) (.s 6)) <|
 .nil) [0, 5, 6, 7, 8])
 (.seq
 (.cond (.s 8)
 .skip
 (.exit 0))
 (.seq
 (.blk 1
 (.seq
 (.reg (oq 9 (.mv (.s 7)) <|
 oq 10 (.iad 1 (.s 5) (.s 7)) <|
 oq 11 (.load false 1 (.s 10)) <|
 oq 3 (.mv (.s 9)) <|
 oq 4 (.mv (.s 11)) <|
 .nil) [0, 3, 4, 5, 6, 7])
 (.seq
 (.reg (oq 12 (.mv (.s 4)) <|
 oq 13 (.call f_tree_text [.s 12]) <|
 oq 14 (.un .not (.s 13)) <|
 oq 15 (.mv (.s 14)) <|
 .grp 15 false (oq 16 (.mv (.s 3)) <|
 oq 17 (.bin .gtr (.s 16) (.k (.int .i64 0))) <|
 oq 18 (.mv (.s 17)) <|
 .grp 18 true (oq 19 (.mv (.s 0)) <|
 oq 20 (.mv (.s 3)) <|
 oq 21 (.bin .sub (.s 20) (.k (.int .i64 1))) <|
 oq 22 (.iad 1 (.s 19) (.s 21)) <|
 oq 23 (.load false 1 (.s 22)) <|
 oq 24 (.mv (.s 4)) <|
 oq 25 (.bin .geq (.s 23) (.s 24)) <|
 .nil) 26 (.s 25) (.k (.bool false)) <|
 .nil) 27 (.s 26) (.k (.bool true)) <|
 .nil) [0, 5, 6, 7, 27])
 (.cond (.s 27)
 (.seq
 (.reg (oq 2 (.mv (.k (.bool false))) <|
 .nil) [2])
 .ret)
 .skip))))
 (.reg (oq 28 (.bin .add (.s 7) (.k (.int .i64 1))) <|
 oq 7 (.mv (.s 28)) <|
 .nil) [0, 5, 6, 7])))))))
 (.seq
 (.reg (oq 29 (.mv (.s 0)) <|
 oq 30 (.len (.s 29)) <|
 oq 31 (.bin .leq (.s 30) (.k (.int .i64 300))) <|
 oq 2 (.mv (.s 31)) <|
 .nil) [2])
 .ret)))
def p_tree_names : PFn := ⟨[.tmp 2], q_tree_names⟩
def n_tree_names : Fn := ⟨1, [.tmp 2], false, false, erase q_tree_names⟩
def q_ref02_Of : PC :=
 (.seq
 (.reg (oq 2 (.alloc [.bool false, (.sl .full 0 []), .int .i64 0]) <|
 .nil) [0, 2])
 (.seq
 (.reg (oq 6 (.mv (.s 0)) <|
 oq 7 (.cvi .u64 (.s 6)) <|
 oq 3 (.mv (.s 7)) <|
 .nil) [0, 2, 3])
 (.seq
 (.cut ⟨[(0, .same), (2, .same), (3, .v)], [.same]⟩ [(.nrm, ⟨[(0, .same), (2, .same), (3, .v)], [.same]⟩)]
 (.seq
 (.reg (oq 8 (.mv (.s 0)) <|
 oq 9 (.bin .lss (.s 8) (.k (.int .i64 0))) <|
 .nil) [0, 2, 3, 9])
 (.cond (.s 9)
 (.reg (oq 10 (.mv (.s 3)) <|
 oq 11 (.un .neg (.s 10)) <|
 oq 3 (.mv (.s 11)) <|
 .nil) [0, 2, 3])
 .skip)))
 (.seq
 (.reg (oq 13 (.mv (.s 0)) <|
 oq 14 (.bin .lss (.s 13) (.k (.int .i64 0))) <|
 oq 15 (.mv (.s 3)) <|
 oq 16 (.cvi .u32 (.s 15)) <|
 oq 17 (.mv (.s 3)) <|
 oq 18 (.bin .shr (.s 17) (.k (.int .u64 32))) <|
 oq 19 (.cvi .u32 (.s 18)) <|
 oq 20 (.lit 2 [.int .u32 0] [(0, 1, (.s 16)), (1, 1, (.s 19))]) <|
 oq 21 (.call f_ref02_Make [.s 14, .s 20, (.k (.int .i64 0))]) <|
 oq 12 (.mv (.s 21)) <|
 oq 22 (.ext (.s 12) 0) <|
 oq 23 (.ext (.s 12) 1) <|
 oq 4 (.alloc [.bool false, (.sl .full 0 []), .int .i64 0]) <|
 oz (.store 3 (.s 4) (.s 22)) <|
 oq 5 (.mv (.s 23)) <|
 .nil) [2, 4])
 (.seq
 (.reg (oq 24 (.load true 3 (.s 4)) <|
 oz (.store 3 (.s 2) (.s 24)) <|
 .nil) [2])
 .ret)))))
def p_ref02_Of : PFn := ⟨[.cell 2 true 3], q_ref02_Of⟩
def n_ref02_Of : Fn := ⟨1, [.cell 2 true 3], false, false, erase q_ref02_Of⟩
def q_ref02_Make : PC :=
 (.seq
 (.reg (oq 6 (.alloc [.bool false, (.sl .full 0 []), .int .i64 0]) <|
 oq 7 (.mv (.k (.bool false))) <|
 .nil) [0, 1, 2, 6])
 (.seq
 (.reg (oq 11 (.mv (.s 1)) <|
 oq 12 (.call f_ref01_Trim [.s 11]) <|
 oq 10 (.mv (.s 12)) <|
 oq 13 (.ext (.s 10) 0) <|
 oq 14 (.ext (.s 10) 1) <|
 oq 8 (.mv (.s 13)) <|
 oq 9 (.mv (.s 14)) <|
 .nil) [0, 2, 6, 8, 9])
 (.seq
 (.seq
 (.reg (oq 15 (.mv (.s 8)) <|
 oq 16 (.len (.s 15)) <|
 oq 17 (.bin .eql (.s 16) (.k (.int .i64 0))) <|
 .nil) [0, 2, 6, 8, 9, 17])
 (.cond (.s 17)
 (.seq
 (.reg (oq 18 (.build [.bool false, (.sl .full 0 []), .int .i64 0] []) <|
 oz (.store 3 (.s 6) (.s 18)) <|
 oq 7 (.mv (.k (.bool true))) <|
 .nil) [6, 7])
 .ret)
 .skip))
 (.seq
 (.seq
 (.reg (oq 19 (.mv (.s 8)) <|
 oq 20 (.len (.s 19)) <|
 oq 21 (.bin .gtr (.s 20) (.k (.int .i64 90))) <|
 oq 22 (.mv (.s 21)) <|
 .grp 22 false (oq 23 (.mv (.s 2)) <|
 oq 24 (.bin .lss (.s 23) (.k (.int .i64 (-1099511627776)))) <|
 .nil) 25 (.s 24) (.k (.bool true)) <|
 oq 26 (.mv (.s 25)) <|
 .grp 26 false (oq 27 (.mv (.s 2)) <|
 oq 28 (.bin .gtr (.s 27) (.k (.int .i64 1099511627776))) <|
 .nil) 29 (.s 28) (.k (.bool true)) <|
 oq 30 (.mv (.s 29)) <|
 .grp 30 false (oq 31 (.mv (.s 9)) <|
 oq 32 (.bin .gtr (.s 31) (.k (.int .i64 1099511627776))) <|
 .nil) 33 (.s 32) (.k (.bool true)) <|
 oq 34 (.mv (.s 33)) <|
 .grp 34 false (oq 35 (.mv (.s 2)) <|
 oq 36 (.mv (.s 9)) <|
 oq 37 (.bin .add (.s 35) (.s 36)) <|
 oq 38 (.bin .lss (.s 37) (.k (.int .i64 (-1200)))) <|
 .nil) 39 (.s 38) (.k (.bool true)) <|
 oq 40 (.mv (.s 39)) <|
 .grp 40 false (oq 41 (.mv (.s 2)) <|
 oq 42 (.mv (.s 9)) <|
 oq 43 (.bin .add (.s 41) (.s 42)) <|
 oq 44 (.bin .gtr (.s 43) (.k (.int .i64 1200))) <|
 .nil) 45 (.s 44) (.k (.bool true)) <|
 .nil) [0, 2, 6, 8, 9, 45])
 (.cond (.s 45)
 (.seq
 (.reg (oq 46 (.build [.bool false, (.sl .full 0 []), .int .i64 0] []) <|
 oz (.store 3 (.s 6) (.s 46)) <|
 oq 7 (.mv (.k (.bool false))) <|
 .nil) [6, 7])
 .ret)
 .skip))
 (.seq
 (.reg (oq 47 (.mv (.s 0)) <|
 oq 48 (.mv (.s 8)) <|
 oq 49 (.mv (.s 2)) <|
 oq 50 (.mv (.s 9)) <|
 oq 51 (.bin .add (.s 49) (.s 50)) <|
 oq 52 (.build [.bool false, (.sl .full 0 []), .int .i64 0] [(0, 1, (.s 47)), (1, 1, (.s 48)), (2, 1, (.s 51))]) <|
 oz (.store 3 (.s 6) (.s 52)) <|
 oq 7 (.mv (.k (.bool true))) <|
 .nil) [6, 7])
 .ret)))))
def p_ref02_Make : PFn := ⟨[.cell 6 true 3, .tmp 7], q_ref02_Make⟩
def n_ref02_Make : Fn := ⟨3, [.cell 6 true 3, .tmp 7], false, false, erase q_ref02_Make⟩
def q_nat_Trim : PC :=
 (.seq
 (.reg (oq 2 (.mv (.k (.sl .full 0 []))) <|
 oq 3 (.mv (.k (.int .i64 0))) <|
 .nil) [0])
 (.seq
 (.reg (oq 7 (.mv (.s 0)) <|
 oq 8 (.call f_nat_Norm [.s 7]) <|
 oq 0 (.mv (.s 8)) <|
 .nil) [0])
 (.seq
 (.reg (oq 4 (.mv (.k (.int .i64 0))) <|
 .nil) [0, 4])
 (.seq
 .skip
 (.seq
 (.blk 0
 (.loop ⟨[(0, .v), (4, .v)], []⟩ [(.ext 0, ⟨[(0, .v), (4, .v)], []⟩)]
 (.seq
 (.seq
 (.reg (oq 9 (.mv (.s 0)) <|
 oq 10 (.len (.s 9)) <|
 oq 11 (.bin .gtr (.s 10) (.k (.int .i64 0))) <|
 .nil) [0, 4, 11])
 (.cond (.s 11)
 .skip
 (.exit 0)))
 (.blk 1
 (.seq
 (.reg (oq 13 (.mv (.s 0)) <|
 oq 14 (.call f_nat_small [.s 13, (.k (.int .u32 10))]) <|
 oq 12 (.mv (.s 14)) <|
 oq 15 (.ext (.s 12) 0) <|
 oq 16 (.ext (.s 12) 1) <|
 oq 5 (.mv (.s 15)) <|
 oq 6 (.mv (.s 16)) <|
 .nil) [0, 4, 5, 6])
 (.seq
 (.seq
 (.reg (oq 17 (.mv (.s 6)) <|
 oq 18 (.bin .neq (.s 17) (.k (.int .u32 0))) <|
 .nil) [0, 4, 5, 18])
 (.cond (.s 18)
 (.exit 0)
 .skip))
 (.seq
 (.reg (oq 19 (.mv (.s 5)) <|
 oq 0 (.mv (.s 19)) <|
 .nil) [0, 4])
 (.reg (oq 20 (.mv (.s 4)) <|
 oq 21 (.bin .add (.s 20) (.k (.int .i64 1))) <|
 oq 4 (.mv (.s 21)) <|
 .nil) [0, 4]))))))))
 (.seq
 (.reg (oq 22 (.mv (.s 0)) <|
 oq 23 (.mv (.s 4)) <|
 oq 2 (.mv (.s 22)) <|
 oq 3 (.mv (.s 23)) <|
 .nil) [2, 3])
 .ret))))))
def p_nat_Trim : PFn := ⟨[.tmp 2, .tmp 3], q_nat_Trim⟩
def n_nat_Trim : Fn := ⟨1, [.tmp 2, .tmp 3], false, false, erase q_nat_Trim⟩
def q_utf_Valid : PC :=
 (.seq
 (.reg (oq 2 (.mv (.k (.bool false))) <|
 .nil) [0])
 (.seq
 .skip
 (.seq
 (.seq
 (.reg (oq 7 (.mv (.s 0)) <|
 oq 8 (.rng (.s 7)) <|
 .nil) [0, 8])
 (.blk 0
 (.loop ⟨[(0, .same), (8, .same)], [.iter]⟩ [(.ext 0, ⟨[], [.dead]⟩), (.ret, ⟨[(2, .v)], [.dead]⟩)]
 (.seq
 (.reg (oq 9 (.nxt (.s 8)) <|
 oq 10 (.ext (.s 9) 0) <|
 .nil) [0, 8, 9, 10])
 (.seq
 (.cond (.s 10)
 .skip
 (.exit 0))
 (.blk 1
 (.seq
 (.reg (oq 11 (.ext (.s 9) 1) <|
 oq 12 (.ext (.s 9) 2) <|
 oq 3 (.mv (.s 11)) <|
 oq 4 (.mv (.s 12)) <|
 .nil) [0, 3, 4, 8])
 (.seq
 (.seq
 (.reg (oq 13 (.mv (.s 4)) <|
 oq 14 (.bin .neq (.s 13) (.k (.int .i32 65533))) <|
 .nil) [0, 3, 8, 14])
 (.cond (.s 14)
 (.exit 1)
 .skip))
 (.seq
 (.reg (oq 16 (.mv (.s 0)) <|
 oq 17 (.mv (.s 3)) <|
 oq 18 (.sls (.s 16) (some (.s 17)) none) <|
 oq 19 (.call f_unicode_utf8_DecodeRuneInString [.s 18]) <|
 oq 15 (.mv (.s 19)) <|
 oq 20 (.ext (.s 15) 0) <|
 oq 21 (.ext (.s 15) 1) <|
 oq 5 (.mv (.s 20)) <|
 oq 6 (.mv (.s 21)) <|
 .nil) [0, 6, 8])
 (.seq
 (.reg (oq 22 (.mv (.s 6)) <|
 oq 23 (.bin .eql (.s 22) (.k (.int .i64 1))) <|
 .nil) [0, 8, 23])
 (.cond (.s 23)
 (.seq
 (.reg (oq 2 (.mv (.k (.bool false))) <|
 .nil) [2])
 .ret)
 .skip)))))))))))
 (.seq
 (.reg (oq 2 (.mv (.k (.bool true))) <|
 .nil) [2])
 .ret))))
def p_utf_Valid : PFn := ⟨[.tmp 2], q_utf_Valid⟩
def n_utf_Valid : Fn := ⟨1, [.tmp 2], false, false, erase q_utf_Valid⟩
def q_ref01_Trim : PC :=
 (.seq
 (.reg (oq 2 (.mv (.k (.sl .full 0 []))) <|
 oq 3 (.mv (.k (.int .i64 0))) <|
 .nil) [0])
 (.seq
 (.reg (oq 8 (.mv (.s 0)) <|
 oq 9 (.call f_ref01_Norm [.s 8]) <|
 oq 4 (.mv (.s 9)) <|
 .nil) [4])
 (.seq
 (.reg (oq 5 (.mv (.k (.int .i64 0))) <|
 .nil) [4, 5])
 (.seq
 (.blk 0
 (.loop ⟨[(4, .v), (5, .v)], []⟩ [(.ext 0, ⟨[(4, .v), (5, .v)], []⟩)]
 (.seq
 (.seq
 (.reg (oq 10 (.mv (.s 4)) <|
 oq 11 (.len (.s 10)) <|
 oq 12 (.bin .gtr (.s 11) (.k (.int .i64 0))) <|
 .nil) [4, 5, 12])
 (.cond (.s 12)
 .skip
 (.exit 0)))
 (.blk 1
 (.seq
 (.reg (oq 14 (.mv (.s 4)) <|
 oq 15 (.call f_ref01_Small [.s 14, (.k (.int .u32 10))]) <|
 oq 13 (.mv (.s 15)) <|
 oq 16 (.ext (.s 13) 0) <|
 oq 17 (.ext (.s 13) 1) <|
 oq 6 (.mv (.s 16)) <|
 oq 7 (.mv (.s 17)) <|
 .nil) [4, 5, 6, 7])
 (.seq
 (.seq
 (.reg (oq 18 (.mv (.s 7)) <|
 oq 19 (.bin .neq (.s 18) (.k (.int .u32 0))) <|
 .nil) [4, 5, 6, 19])
 (.cond (.s 19)
 (.exit 0)
 .skip))
 (.seq
 (.reg (oq 20 (.mv (.s 6)) <|
 oq 4 (.mv (.s 20)) <|
 .nil) [4, 5])
 (.reg (oq 21 (.mv (.s 5)) <|
 oq 22 (.bin .add (.s 21) (.k (.int .i64 1))) <|
 oq 5 (.mv (.s 22)) <|
 .nil) [4, 5]))))))))
 (.seq
 (.reg (oq 23 (.mv (.s 4)) <|
 oq 24 (.mv (.s 5)) <|
 oq 2 (.mv (.s 23)) <|
 oq 3 (.mv (.s 24)) <|
 .nil) [2, 3])
 .ret)))))
def p_ref01_Trim : PFn := ⟨[.tmp 2, .tmp 3], q_ref01_Trim⟩
def n_ref01_Trim : Fn := ⟨1, [.tmp 2, .tmp 3], false, false, erase q_ref01_Trim⟩
def q_ref01_Small : PC :=
 (.seq
 (.reg (oq 4 (.mv (.k (.sl .full 0 []))) <|
 oq 5 (.mv (.k (.int .u32 0))) <|
 .nil) [0, 1])
 (.seq
 (.reg (oq 9 (.mv (.s 0)) <|
 oq 10 (.len (.s 9)) <|
 oq 11 (.mks [.int .u32 0] 4 (.s 10) (.s 10)) <|
 oq 6 (.mv (.s 11)) <|
 .nil) [0, 1, 6])
 (.seq
 (.reg (oq 7 (.mv (.k (.int .u64 0))) <|
 .nil) [0, 1, 6, 7])
 (.seq
 (.seq
 (.reg (oq 12 (.mv (.s 0)) <|
 oq 13 (.len (.s 12)) <|
 oq 14 (.bin .sub (.s 13) (.k (.int .i64 1))) <|
 oq 8 (.mv (.s 14)) <|
 .nil) [0, 1, 6, 7, 8])
 (.blk 0
 (.loop ⟨[(0, .same), (1, .same), (6, .same), (7, .v), (8, .v)], [(.arr .no 1)]⟩ [(.ext 0, ⟨[(6, .same), (7, .v)], [(.arr .no 1)]⟩)]
 (.seq
 (.seq
 (.reg (oq 15 (.mv (.s 8)) <|
 oq 16 (.bin .geq (.s 15) (.k (.int .i64 0))) <|
 .nil) [0, 1, 6, 7, 8, 16])
 (.cond (.s 16)
 .skip
 (.exit 0)))
 (.seq
 (.blk 1
 (.seq
 (.reg (oq 19 (.mv (.s 7)) <|
 oq 20 (.bin .shl (.s 19) (.k (.int .u64 32))) <|
 oq 21 (.mv (.s 0)) <|
 oq 22 (.mv (.s 8)) <|
 oq 23 (.iad 1 (.s 21) (.s 22)) <|
 oq 24 (.load false 1 (.s 23)) <|
 oq 25 (.cvi .u64 (.s 24)) <|
 oq 26 (.bin .add (.s 20) (.s 25)) <|
 oq 7 (.mv (.s 26)) <|
 .nil) [0, 1, 6, 7, 8])
 (.seq
 (.reg (oq 27 (.mv (.s 6)) <|
 oq 28 (.mv (.s 8)) <|
 oq 29 (.mv (.s 7)) <|
 oq 30 (.mv (.s 1)) <|
 oq 31 (.cvi .u64 (.s 30)) <|
 oq 32 (.bin .quo (.s 29) (.s 31)) <|
 oq 33 (.cvi .u32 (.s 32)) <|
 oq 34 (.iad 1 (.s 27) (.s 28)) <|
 oz (.store 1 (.s 34) (.s 33)) <|
 .nil) [0, 1, 6, 7, 8])
 (.reg (oq 35 (.mv (.s 7)) <|
 oq 36 (.mv (.s 1)) <|
 oq 37 (.cvi .u64 (.s 36)) <|
 oq 38 (.bin .rem (.s 35) (.s 37)) <|
 oq 7 (.mv (.s 38)) <|
 .nil) [0, 1, 6, 7, 8]))))
 (.reg (oq 17 (.mv (.s 8)) <|
 oq 18 (.bin .sub (.s 17) (.k (.int .i64 1))) <|
 oq 8 (.mv (.s 18)) <|
 .nil) [0, 1, 6, 7, 8]))))))
 (.seq
 (.reg (oq 39 (.mv (.s 6)) <|
 oq 40 (.call f_ref01_Norm [.s 39]) <|
 oq 41 (.mv (.s 7)) <|
 oq 42 (.cvi .u32 (.s 41)) <|
 oq 4 (.mv (.s 40)) <|
 oq 5 (.mv (.s 42)) <|
 .nil) [4, 5])
 .ret)))))
def p_ref01_Small : PFn := ⟨[.tmp 4, .tmp 5], q_ref01_Small⟩
def n_ref01_Small : Fn := ⟨2, [.tmp 4, .tmp 5], false, false, erase q_ref01_Small⟩
def q_nat_Norm : PC :=
 (.seq
 (.reg (oq 2 (.mv (.k (.sl .full 0 []))) <|
 .nil) [0])
 (.seq
 (.reg (oq 5 (.mv (.s 0)) <|
 oq 6 (.len (.s 5)) <|
 oq 3 (.mv (.s 6)) <|
 .nil) [0, 3])
 (.seq
 (.blk 0
 (.loop ⟨[(0, .same), (3, .v)], []⟩ [(.ext 0, ⟨[(0, .same), (3, .v)], []⟩)]
 (.seq
 (.seq
 (.reg (oq 7 (.mv (.s 3)) <|
 oq 8 (.bin .gtr (.s 7) (.k (.int .i64 0))) <|
 oq 9 (.mv (.s 8)) <|
 .grp 9 true (oq 10 (.mv (.s 0)) <|
 oq 11 (.mv (.s 3)) <|
 oq 12 (.bin .sub (.s 11) (.k (.int .i64 1))) <|
 oq 13 (.iad 1 (.s 10) (.s 12)) <|
 oq 14 (.load false 1 (.s 13)) <|
 oq 15 (.bin .eql (.s 14) (.k (.int .u32 0))) <|
 .nil) 16 (.s 15) (.k (.bool false)) <|
 .nil) [0, 3, 16])
 (.cond (.s 16)
 .skip
 (.exit 0)))
 (.blk 1
 (.reg (oq 17 (.mv (.s 3)) <|
 oq 18 (.bin .sub (.s 17) (.k (.int .i64 1))) <|
 oq 3 (.mv (.s 18)) <|
 .nil) [0, 3])))))
 (.seq
 (.seq
 (.reg (oq 19 (.mv (.s 3)) <|
 oq 20 (.bin .eql (.s 19) (.k (.int .i64 0))) <|
 .nil) [0, 3, 20])
 (.cond (.s 20)
 (.seq
 (.reg (oq 2 (.mv (.k (.sl .full 0 []))) <|
 .nil) [2])
 .ret)
 .skip))
 (.seq
 (.reg (oq 21 (.mv (.s 3)) <|
 oq 22 (.mks [.int .u32 0] 4 (.s 21) (.s 21)) <|
 oq 4 (.mv (.s 22)) <|
 .nil) [0, 4])
 (.seq
 (.reg (oq 23 (.mv (.s 4)) <|
 oq 24 (.mv (.s 0)) <|
 oq 25 (.cpy 1 (.s 23) (.s 24)) <|
 .nil) [4])
 (.seq
 (.reg (oq 26 (.mv (.s 4)) <|
 oq 2 (.mv (.s 26)) <|
 .nil) [2])
 .ret)))))))
def p_nat_Norm : PFn := ⟨[.tmp 2], q_nat_Norm⟩
def n_nat_Norm : Fn := ⟨1, [.tmp 2], false, false, erase q_nat_Norm⟩
def q_nat_small : PC :=
 (.seq
 (.reg (oq 4 (.mv (.k (.sl .full 0 []))) <|
 oq 5 (.mv (.k (.int .u32 0))) <|
 .nil) [0, 1])
 (.seq
 (.reg (oq 9 (.mv (.s 0)) <|
 oq 10 (.len (.s 9)) <|
 oq 11 (.mks [.int .u32 0] 4 (.s 10) (.s 10)) <|
 oq 6 (.mv (.s 11)) <|
 .nil) [0, 1, 6])
 (.seq
 (.reg (oq 7 (.mv (.k (.int .u64 0))) <|
 .nil) [0, 1, 6, 7])
 (.seq
 (.seq
 (.reg (oq 12 (.mv (.s 0)) <|
 oq 13 (.len (.s 12)) <|
 oq 14 (.bin .sub (.s 13) (.k (.int .i64 1))) <|
 oq 8 (.mv (.s 14)) <|
 .nil) [0, 1, 6, 7, 8])
 (.blk 0
 (.loop ⟨[(0, .same), (1, .same), (6, .same), (7, .v), (8, .v)], [(.arr .no 1)]⟩ [(.ext 0, ⟨[(6, .same), (7, .v)], [(.arr .no 1)]⟩)]
 (.seq
 (.seq
 (.reg (oq 15 (.mv (.s 8)) <|
 oq 16 (.bin .geq (.s 15) (.k (.int .i64 0))) <|
 .nil) [0, 1, 6, 7, 8, 16])
 (.cond (.s 16)
 .skip
 (.exit 0)))
 (.seq
 (.blk 1
 (.seq
 (.reg (oq 19 (.mv (.s 7)) <|
 oq 20 (.bin .shl (.s 19) (.k (.int .u64 32))) <|
 oq 21 (.mv (.s 0)) <|
 oq 22 (.mv (.s 8)) <|
 oq 23 (.iad 1 (.s 21) (.s 22)) <|
 oq 24 (.load false 1 (.s 23)) <|
 oq 25 (.cvi .u64 (.s 24)) <|
 oq 26 (.bin .or (.s 20) (.s 25)) <|
 oq 7 (.mv (.s 26)) <|
 .nil) [0, 1, 6, 7, 8])
 (.seq
 (.reg (oq 27 (.mv (.s 6)) <|
 oq 28 (.mv (.s 8)) <|
 oq 29 (.mv (.s 7)) <|
 oq 30 (.mv (.s 1)) <|
 oq 31 (.cvi .u64 (.s 30)) <|
 oq 32 (.bin .quo (.s 29) (.s 31)) <|
 oq 33 (.cvi .u32 (.s 32)) <|
 oq 34 (.iad 1 (.s 27) (.s 28)) <|
 oz (.store 1 (.s 34) (.s 33)) <|
 .nil) [0, 1, 6, 7, 8])
 (.reg (oq 35 (.mv (.s 7)) <|
 oq 36 (.mv (.s 1)) <|
 oq 37 (.cvi .u64 (.s 36)) <|
 oq 38 (.bin .rem (.s 35) (.s 37)) <|
 oq 7 (.mv (.s 38)) <|
 .nil) [0, 1, 6, 7, 8]))))
 (.reg (oq 17 (.mv (.s 8)) <|
 oq 18 (.bin .sub (.s 17) (.k (.int .i64 1))) <|
 oq 8 (.mv (.s 18)) <|
 .nil) [0, 1, 6, 7, 8]))))))
 (.seq
 (.reg (oq 39 (.mv (.s 6)) <|
 oq 40 (.call f_nat_Norm [.s 39]) <|
 oq 41 (.mv (.s 7)) <|
 oq 42 (.cvi .u32 (.s 41)) <|
 oq 4 (.mv (.s 40)) <|
 oq 5 (.mv (.s 42)) <|
 .nil) [4, 5])
 .ret)))))
def p_nat_small : PFn := ⟨[.tmp 4, .tmp 5], q_nat_small⟩
def n_nat_small : Fn := ⟨2, [.tmp 4, .tmp 5], false, false, erase q_nat_small⟩
def q_unicode_utf8_DecodeRuneInString : PC :=
 (.seq
 (.reg (oq 2 (.mv (.k (.int .i32 0))) <|
 oq 3 (.mv (.k (.int .i64 0))) <|
 .nil) [0])
 (.seq
 (.seq
 (.reg (oq 4 (.mv (.s 0)) <|
 oq 5 (.bin .neq (.s 4) (.k (.str []))) <|
 oq 6 (.mv (.s 5)) <|
 .grp 6 true (oq 7 (.mv (.s 0)) <|
 oq 8 (.ixs (.s 7) (.k (.int .i64 0))) <|
 oq 9 (.bin .lss (.s 8) (.k (.int .u8 128))) <|
 .nil) 10 (.s 9) (.k (.bool false)) <|
 .nil) [0, 10])
 (.cond (.s 10)
 (.seq
 (.reg (oq 11 (.mv (.s 0)) <|
 oq 12 (.ixs (.s 11) (.k (.int .i64 0))) <|
 oq 13 (.cvi .i32 (.s 12)) <|
 oq 2 (.mv (.s 13)) <|
 oq 3 (.mv (.k (.int .i64 1))) <|
 .nil) [2, 3])
 .ret)
 (.reg (oq 15 (.mv (.s 0)) <|
 oq 16 (.call f_unicode_utf8_decodeRuneInStringSlow [.s 15]) <|
 oq 14 (.mv (.s 16)) <|
 oq 17 (.ext (.s 14) 0) <|
 oq 18 (.ext (.s 14) 1) <|
 oq 2 (.mv (.s 17)) <|
 oq 3 (.mv (.s 18)) <|
 .nil) [2, 3])))
 .ret))
def p_unicode_utf8_DecodeRuneInString : PFn := ⟨[.tmp 2, .tmp 3], q_unicode_utf8_DecodeRuneInString⟩
def n_unicode_utf8_DecodeRuneInString : Fn := ⟨1, [.tmp 2, .tmp 3], false, false, erase q_unicode_utf8_DecodeRuneInString⟩
def q_ref01_Norm : PC :=
 (.seq
 (.reg (oq 2 (.mv (.k (.sl .full 0 []))) <|
 .nil) [0])
 (.seq
 (.reg (oq 4 (.mv (.s 0)) <|
 oq 5 (.len (.s 4)) <|
 oq 3 (.mv (.s 5)) <|
 .nil) [0, 3])
 (.seq
 (.blk 0
 (.loop ⟨[(0, .same), (3, .v)], []⟩ [(.ext 0, ⟨[(0, .same), (3, .v)], []⟩)]
 (.seq
 (.seq
 (.reg (oq 6 (.mv (.s 3)) <|
 oq 7 (.bin .gtr (.s 6) (.k (.int .i64 0))) <|
 oq 8 (.mv (.s 7)) <|
 .grp 8 true (oq 9 (.mv (.s 0)) <|
 oq 10 (.mv (.s 3)) <|
 oq 11 (.bin .sub (.s 10) (.k (.int .i64 1))) <|
 oq 12 (.iad 1 (.s 9) (.s 11)) <|
 oq 13 (.load false 1 (.s 12)) <|
 oq 14 (.bin .eql (.s 13) (.k (.int .u32 0))) <|
 .nil) 15 (.s 14) (.k (.bool false)) <|
 .nil) [0, 3, 15])
 (.cond (.s 15)
 .skip
 (.exit 0)))
 (.blk 1
 (.reg (oq 16 (.mv (.s 3)) <|
 oq 17 (.bin .sub (.s 16) (.k (.int .i64 1))) <|
 oq 3 (.mv (.s 17)) <|
 .nil) [0, 3])))))
 (.seq
 (.reg (oq 18 (.mv (.s 0)) <|
 oq 19 (.mv (.s 3)) <|
 oq 20 (.slc 1 (.s 18) none (some (.s 19)) none) <|
 oq 21 (.app 1 4 (.k (.sl .full 0 [])) (.s 20)) <|
 oq 2 (.mv (.s 21)) <|
 .nil) [2])
 .ret))))
def p_ref01_Norm : PFn := ⟨[.tmp 2], q_ref01_Norm⟩
def n_ref01_Norm : Fn := ⟨1, [.tmp 2], false, false, erase q_ref01_Norm⟩
def q_unicode_utf8_decodeRuneInStringSlow : PC :=
 (.seq
 (.reg (oq 2 (.mv (.k (.int .i32 0))) <|
 oq 3 (.mv (.k (.int .i64 0))) <|
 .nil) [0])
 (.seq
 (.reg (oq 13 (.mv (.s 0)) <|
 oq 14 (.lns (.s 13)) <|
 oq 4 (.mv (.s 14)) <|
 .nil) [0, 4])
 (.seq
 (.seq
 (.reg (oq 15 (.mv (.s 4)) <|
 oq 16 (.bin .lss (.s 15) (.k (.int .i64 1))) <|
 .nil) [0, 4, 16])
 (.cond (.s 16)
 (.seq
 (.reg (oq 2 (.mv (.k (.int .i32 65533))) <|
 oq 3 (.mv (.k (.int .i64 0))) <|
 .nil) [2, 3])
 .ret)
 .skip))
 (.seq
 (.reg (oq 17 (.mv (.s 0)) <|
 oq 18 (.ixs (.s 17) (.k (.int .i64 0))) <|
 oq 5 (.mv (.s 18)) <|
 .nil) [0, 4, 5])
 (.seq
 (.reg (oq 19 (.mv (.s 5)) <|
 oq 20 (.iaa 256 1 (.g 0) (.s 19)) <|
 oq 21 (.load false 1 (.s 20)) <|
 oq 6 (.mv (.s 21)) <|
 .nil) [0, 4, 5, 6])
 (.seq
 (.seq
 (.reg (oq 22 (.mv (.s 6)) <|
 oq 23 (.bin .geq (.s 22) (.k (.int .u8 240))) <|
 .nil) [0, 4, 5, 6, 23])
 (.cond (.s 23)
 (.seq
 (.reg (oq 24 (.mv (.s 6)) <|
 oq 25 (.cvi .i32 (.s 24)) <|
 oq 26 (.bin .shl (.s 25) (.k (.int .u64 31))) <|
 oq 27 (.bin .shr (.s 26) (.k (.int .u64 31))) <|
 oq 7 (.mv (.s 27)) <|
 .nil) [0, 7])
 (.seq
 (.reg (oq 28 (.mv (.s 0)) <|
 oq 29 (.ixs (.s 28) (.k (.int .i64 0))) <|
 oq 30 (.cvi .i32 (.s 29)) <|
 oq 31 (.mv (.s 7)) <|
 oq 32 (.bin .andNot (.s 30) (.s 31)) <|
 oq 33 (.mv (.s 7)) <|
 oq 34 (.bin .and (.k (.int .i32 65533)) (.s 33)) <|
 oq 35 (.bin .or (.s 32) (.s 34)) <|
 oq 2 (.mv (.s 35)) <|
 oq 3 (.mv (.k (.int .i64 1))) <|
 .nil) [2, 3])
 .ret))
 .skip))
 (.seq
 (.reg (oq 36 (.mv (.s 6)) <|
 oq 37 (.bin .and (.s 36) (.k (.int .u8 7))) <|
 oq 38 (.cvi .i64 (.s 37)) <|
 oq 8 (.mv (.s 38)) <|
 .nil) [0, 4, 5, 6, 8])
 (.seq
 (.reg (oq 39 (.mv (.s 6)) <|
 oq 40 (.bin .shr (.s 39) (.k (.int .u64 4))) <|
 oq 41 (.iaa 16 2 (.g 1) (.s 40)) <|
 oq 42 (.load true 2 (.s 41)) <|
 oq 9 (.alloc [.int .u8 0, .int .u8 0]) <|
 oz (.store 2 (.s 9) (.s 42)) <|
 .nil) [0, 4, 5, 8, 9])
 (.seq
 (.seq
 (.reg (oq 43 (.mv (.s 4)) <|
 oq 44 (.mv (.s 8)) <|
 oq 45 (.bin .lss (.s 43) (.s 44)) <|
 .nil) [0, 5, 8, 9, 45])
 (.cond (.s 45)
 (.seq
 (.reg (oq 2 (.mv (.k (.int .i32 65533))) <|
 oq 3 (.mv (.k (.int .i64 1))) <|
 .nil) [2, 3])
 .ret)
 .skip))
 (.seq
 (.reg (oq 46 (.mv (.s 0)) <|
 oq 47 (.ixs (.s 46) (.k (.int .i64 1))) <|
 oq 10 (.mv (.s 47)) <|
 .nil) [0, 5, 8, 9, 10])
 (.seq
 (.seq
 (.reg (oq 48 (.mv (.s 10)) <|
 oq 49 (.fad 0 (.s 9)) <|
 oq 50 (.load false 1 (.s 49)) <|
 oq 51 (.bin .lss (.s 48) (.s 50)) <|
 oq 52 (.mv (.s 51)) <|
 .grp 52 false (oq 53 (.fad 1 (.s 9)) <|
 oq 54 (.load false 1 (.s 53)) <|
 oq 55 (.mv (.s 10)) <|
 oq 56 (.bin .lss (.s 54) (.s 55)) <|
 .nil) 57 (.s 56) (.k (.bool true)) <|
 .nil) [0, 5, 8, 10, 57])
 (.cond (.s 57)
 (.seq
 (.reg (oq 2 (.mv (.k (.int .i32 65533))) <|
 oq 3 (.mv (.k (.int .i64 1))) <|
 .nil) [2, 3])
 .ret)
 .skip))
 (.seq
 (.seq
 (.reg (oq 58 (.mv (.s 8)) <|
 oq 59 (.bin .leq (.s 58) (.k (.int .i64 2))) <|
 .nil) [0, 5, 8, 10, 59])
 (.cond (.s 59)
 (.seq
 (.reg (oq 60 (.mv (.s 5)) <|
 oq 61 (.bin .and (.s 60) (.k (.int .u8 31))) <|
 oq 62 (.cvi .i32 (.s 61)) <|
 oq 63 (.bin .shl (.s 62) (.k (.int .u64 6))) <|
 oq 64 (.mv (.s 10)) <|
 oq 65 (.bin .and (.s 64) (.k (.int .u8 63))) <|
 oq 66 (.cvi .i32 (.s 65)) <|
 oq 67 (.bin .or (.s 63) (.s 66)) <|
 oq 2 (.mv (.s 67)) <|
 oq 3 (.mv (.k (.int .i64 2))) <|
 .nil) [2, 3])
 .ret)
 .skip))
 (.seq
 (.reg (oq 68 (.mv (.s 0)) <|
 oq 69 (.ixs (.s 68) (.k (.int .i64 2))) <|
 oq 11 (.mv (.s 69)) <|
 .nil) [0, 5, 8, 10, 11])
 (.seq
 (.seq
 (.reg (oq 70 (.mv (.s 11)) <|
 oq 71 (.bin .lss (.s 70) (.k (.int .u8 128))) <|
 oq 72 (.mv (.s 71)) <|
 .grp 72 false (oq 73 (.mv (.s 11)) <|
 oq 74 (.bin .lss (.k (.int .u8 191)) (.s 73)) <|
 .nil) 75 (.s 74) (.k (.bool true)) <|
 .nil) [0, 5, 8, 10, 11, 75])
 (.cond (.s 75)
 (.seq
 (.reg (oq 2 (.mv (.k (.int .i32 65533))) <|
 oq 3 (.mv (.k (.int .i64 1))) <|
 .nil) [2, 3])
 .ret)
 .skip))
 (.seq
 (.seq
 (.reg (oq 76 (.mv (.s 8)) <|
 oq 77 (.bin .leq (.s 76) (.k (.int .i64 3))) <|
 .nil) [0, 5, 10, 11, 77])
 (.cond (.s 77)
 (.seq
 (.reg (oq 78 (.mv (.s 5)) <|
 oq 79 (.bin .and (.s 78) (.k (.int .u8 15))) <|
 oq 80 (.cvi .i32 (.s 79)) <|
 oq 81 (.bin .shl (.s 80) (.k (.int .u64 12))) <|
 oq 82 (.mv (.s 10)) <|
 oq 83 (.bin .and (.s 82) (.k (.int .u8 63))) <|
 oq 84 (.cvi .i32 (.s 83)) <|
 oq 85 (.bin .shl (.s 84) (.k (.int .u64 6))) <|
 oq 86 (.bin .or (.s 81) (.s 85)) <|
 oq 87 (.mv (.s 11)) <|
 oq 88 (.bin .and (.s 87) (.k (.int .u8 63))) <|
 oq 89 (.cvi .i32 (.s 88)) <|
 oq 90 (.bin .or (.s 86) (.s 89)) <|
 oq 2 (.mv (.s 90)) <|
 oq 3 (.mv (.k (.int .i64 3))) <|
 .nil) [2, 3])
 .ret)
 .skip))
 (.seq
 (.reg (oq 91 (.mv (.s 0)) <|
 oq 92 (.ixs (.s 91) (.k (.int .i64 3))) <|
 oq 12 (.mv (.s 92)) <|
 .nil) [5, 10, 11, 12])
 (.seq
 (.seq
 (.reg (oq 93 (.mv (.s 12)) <|
 oq 94 (.bin .lss (.s 93) (.k (.int .u8 128))) <|
 oq 95 (.mv (.s 94)) <|
 .grp 95 false (oq 96 (.mv (.s 12)) <|
 oq 97 (.bin .lss (.k (.int .u8 191)) (.s 96)) <|
 .nil) 98 (.s 97) (.k (.bool true)) <|
 .nil) [5, 10, 11, 12, 98])
 (.cond (.s 98)
 (.seq
 (.reg (oq 2 (.mv (.k (.int .i32 65533))) <|
 oq 3 (.mv (.k (.int .i64 1))) <|
 .nil) [2, 3])
 .ret)
 .skip))
 (.seq
 (.reg (oq 99 (.mv (.s 5)) <|
 oq 100 (.bin .and (.s 99) (.k (.int .u8 7))) <|
 oq 101 (.cvi .i32 (.s 100)) <|
 oq 102 (.bin .shl (.s 101) (.k (.int .u64 18))) <|
 oq 103 (.mv (.s 10)) <|
 oq 104 (.bin .and (.s 103) (.k (.int .u8 63))) <|
 oq 105 (.cvi .i32 (.s 104)) <|
 oq 106 (.bin .shl (.s 105) (.k (.int .u64 12))) <|
 oq 107 (.bin .or (.s 102) (.s 106)) <|
 oq 108 (.mv (.s 11)) <|
 oq 109 (.bin .and (.s 108) (.k (.int .u8 63))) <|
 oq 110 (.cvi .i32 (.s 109)) <|
 oq 111 (.bin .shl (.s 110) (.k (.int .u64 6))) <|
 oq 112 (.bin .or (.s 107) (.s 111)) <|
 oq 113 (.mv (.s 12)) <|
 oq 114 (.bin .and (.s 113) (.k (.int .u8 63))) <|
 oq 115 (.cvi .i32 (.s 114)) <|
 oq 116 (.bin .or (.s 112) (.s 115)) <|
 oq 2 (.mv (.s 116)) <|
 oq 3 (.mv (.k (.int .i64 4))) <|
 .nil) [2, 3])
 .ret))))))))))))))))))
def p_unicode_utf8_decodeRuneInStringSlow : PFn := ⟨[.tmp 2, .tmp 3], q_unicode_utf8_decodeRuneInStringSlow⟩
def n_unicode_utf8_decodeRuneInStringSlow : Fn := ⟨1, [.tmp 2, .tmp 3], false, false, erase q_unicode_utf8_decodeRuneInStringSlow⟩
def tab0 : Nat → Option PFn := fun f => (match f with | 5 => some p_law05_TreeSame | 8 => some p_law00_Place | 9 => some p_tree_Check | 10 => some p_tree_Depth | 11 => some p_tree_Weight | 12 => some p_law05_awake | 13 => some p_law00_Made | 14 => some p_law00_Tree | 15 => some p_tree_Same | 16 => some p_tree_Nodes | 31 => some p_tree_check | 32 => some p_law00_made | 33 => some p_law00_Num | 34 => some p_law00_Strings | 35 => some p_num_Same | 36 => some p_slices_Equal_string | 37 => some p_slices_EqualFunc_erratum_api_Tree | 56 => some p_ref05_Member | 57 => some p_ref05_Set | 58 => some p_tree_own | 59 => some p_law00_number | 60 => some p_law00_Names | 61 => some p_law00_Limbs | 62 => some p_num_of | 63 => some p_slices_Equal_uint32 | 80 => some p_num_Check | 81 => some p_tree_text | 82 => some p_tree_names | 83 => some p_ref02_Of | 84 => some p_ref02_Make | 93 => some p_nat_Trim | 94 => some p_utf_Valid | 95 => some p_ref01_Trim | 98 => some p_ref01_Small | 100 => some p_nat_Norm | 101 => some p_nat_small | 102 => some p_unicode_utf8_DecodeRuneInString | 103 => some p_ref01_Norm | 105 => some p_unicode_utf8_decodeRuneInStringSlow | _ => none)
def fnTab : List (Nat × Fn) := [(f_law05_TreeSame, n_law05_TreeSame), (f_law00_Place, n_law00_Place), (f_tree_Check, n_tree_Check), (f_tree_Depth, n_tree_Depth), (f_tree_Weight, n_tree_Weight), (f_law05_awake, n_law05_awake), (f_law00_Made, n_law00_Made), (f_law00_Tree, n_law00_Tree), (f_tree_Same, n_tree_Same), (f_tree_Nodes, n_tree_Nodes), (f_tree_check, n_tree_check), (f_law00_made, n_law00_made), (f_law00_Num, n_law00_Num), (f_law00_Strings, n_law00_Strings), (f_num_Same, n_num_Same), (f_slices_Equal_string, n_slices_Equal_string), (f_slices_EqualFunc_erratum_api_Tree, n_slices_EqualFunc_erratum_api_Tree), (f_ref05_Member, n_ref05_Member), (f_ref05_Set, n_ref05_Set), (f_tree_own, n_tree_own), (f_law00_number, n_law00_number), (f_law00_Names, n_law00_Names), (f_law00_Limbs, n_law00_Limbs), (f_num_of, n_num_of), (f_slices_Equal_uint32, n_slices_Equal_uint32), (f_num_Check, n_num_Check), (f_tree_text, n_tree_text), (f_tree_names, n_tree_names), (f_ref02_Of, n_ref02_Of), (f_ref02_Make, n_ref02_Make), (f_nat_Trim, n_nat_Trim), (f_utf_Valid, n_utf_Valid), (f_ref01_Trim, n_ref01_Trim), (f_ref01_Small, n_ref01_Small), (f_nat_Norm, n_nat_Norm), (f_nat_small, n_nat_small), (f_unicode_utf8_DecodeRuneInString, n_unicode_utf8_DecodeRuneInString), (f_ref01_Norm, n_ref01_Norm), (f_unicode_utf8_decodeRuneInStringSlow, n_unicode_utf8_decodeRuneInStringSlow)]
def ex0 : Nat → Option (List D → List D → Option D) := fun _ => none
def glT : Nat → Option (List V) := fun g => match g with | 0 => some G_0 | 1 => some G_1 | _ => none
def E0 : Env := ⟨look fnTab, fun g => (glT g).map toDL, ex0⟩
def md0 : Nat → Md := fun f => (match f with | 60 => .gv 1 | 61 => .gv 1 | _ => .pl)
def tx0 : Nat → Option (List V → Option V) := fun _ => none
def gl0 : Gl := ⟨glT, md0, tx0⟩
noncomputable def P0 : PcT := pcL gl0 tab0
end Go.Ev
