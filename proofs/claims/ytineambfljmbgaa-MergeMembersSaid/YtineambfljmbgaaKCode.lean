/- The functions' code. -/
import Derived.Test.YtineambfljmbgaaKEvD
import Derived.Test.YtineambfljmbgaaKNums
set_option linter.all false
namespace Go.Ev
@[reducible] def oq (i : Nat) (o : O) (r : PO) : PO := .one ⟨some i, o, none⟩ r
@[reducible] def oz (o : O) (r : PO) : PO := .one ⟨none, o, none⟩ r
@[reducible] def zt8 : List D := [.int .i64 0, .bool false, .bool false, .sl .full 0 [], .int .i64 0, .str [], .sl .full 0 [], .sl .full 0 []]
def q_law16_MergeMembers : PC :=
 (.seq
 (.reg (oq 6 (.mv (.k (.bool false))) <|
 .nil) [0, 1, 2])
 (.seq
 (.seq
 (.reg (oq 18 (.mv (.s 0)) <|
 oq 19 (.len (.s 18)) <|
 oq 20 (.bin .gtr (.s 19) (.k (.int .i64 60))) <|
 oq 21 (.mv (.s 20)) <|
 .grp 21 false (oq 22 (.mv (.s 1)) <|
 oq 23 (.len (.s 22)) <|
 oq 24 (.bin .gtr (.s 23) (.k (.int .i64 60))) <|
 .nil) 25 (.s 24) (.k (.bool true)) <|
 .nil) [0, 1, 2, 25])
 (.cond (.s 25)
 (.seq
 (.reg (oq 26 (.call f_law16_awake []) <|
 oq 6 (.mv (.s 26)) <|
 .nil) [6])
 .ret)
 .skip))
 (.seq
 (.reg (oq 27 (.lit 1 [.int .i64 0] [(0, 1, (.k (.int .i64 45)))]) <|
 oq 28 (.mv (.s 0)) <|
 oq 29 (.app 1 8 (.s 27) (.s 28)) <|
 oq 30 (.call f_law00_Made [.s 29, (.k (.int .i64 3))]) <|
 oq 31 (.lit 1 [.int .i64 0] [(0, 1, (.k (.int .i64 45)))]) <|
 oq 32 (.mv (.s 1)) <|
 oq 33 (.app 1 8 (.s 31) (.s 32)) <|
 oq 34 (.call f_law00_Made [.s 33, (.k (.int .i64 3))]) <|
 oq 7 (.alloc zt8) <|
 oq 8 (.alloc zt8) <|
 oz (.store 8 (.s 7) (.s 30)) <|
 oz (.store 8 (.s 8) (.s 34)) <|
 .nil) [2, 7, 8])
 (.seq
 (.seq
 (.reg (oq 35 (.fad 0 (.s 7)) <|
 oq 36 (.load false 1 (.s 35)) <|
 oq 37 (.bin .neq (.s 36) (.k (.int .i64 7))) <|
 oq 38 (.mv (.s 37)) <|
 .grp 38 false (oq 39 (.fad 0 (.s 8)) <|
 oq 40 (.load false 1 (.s 39)) <|
 oq 41 (.bin .neq (.s 40) (.k (.int .i64 7))) <|
 .nil) 42 (.s 41) (.k (.bool true)) <|
 .nil) [2, 7, 8, 42])
 (.cond (.s 42)
 (.seq
 (.reg (oq 6 (.mv (.k (.bool false))) <|
 .nil) [6])
 .ret)
 .skip))
 (.seq
 (.reg (oq 43 (.load true 8 (.s 7)) <|
 oq 44 (.load true 8 (.s 8)) <|
 oq 45 (.call f_merge_Merge [.s 43, .s 44]) <|
 oq 9 (.alloc zt8) <|
 oz (.store 8 (.s 9) (.s 45)) <|
 .nil) [2, 7, 8, 9])
 (.seq
 (.reg (oq 46 (.call f_law00_Names []) <|
 oq 47 (.lit 1 [(.str [])] [(0, 1, (.k (.str [110, 111, 110, 101])))]) <|
 oq 48 (.app 1 16 (.s 46) (.s 47)) <|
 oq 10 (.mv (.s 48)) <|
 .nil) [2, 7, 8, 9, 10])
 (.seq
 (.reg (oq 49 (.mv (.s 10)) <|
 oq 50 (.mv (.s 2)) <|
 oq 51 (.mv (.s 10)) <|
 oq 52 (.len (.s 51)) <|
 oq 53 (.call f_law00_Place [.s 50, .s 52]) <|
 oq 54 (.iad 1 (.s 49) (.s 53)) <|
 oq 55 (.load false 1 (.s 54)) <|
 oq 11 (.mv (.s 55)) <|
 .nil) [7, 8, 9, 11])
 (.seq
 (.reg (oq 57 (.load true 8 (.s 7)) <|
 oq 58 (.mv (.s 11)) <|
 oq 59 (.call f_ref05_Member [.s 57, .s 58]) <|
 oq 56 (.mv (.s 59)) <|
 oq 60 (.ext (.s 56) 0) <|
 oq 61 (.ext (.s 56) 1) <|
 oq 12 (.alloc zt8) <|
 oz (.store 8 (.s 12) (.s 60)) <|
 oq 13 (.mv (.s 61)) <|
 .nil) [8, 9, 11, 12, 13])
 (.seq
 (.reg (oq 63 (.load true 8 (.s 8)) <|
 oq 64 (.mv (.s 11)) <|
 oq 65 (.call f_ref05_Member [.s 63, .s 64]) <|
 oq 62 (.mv (.s 65)) <|
 oq 66 (.ext (.s 62) 0) <|
 oq 67 (.ext (.s 62) 1) <|
 oq 14 (.alloc zt8) <|
 oz (.store 8 (.s 14) (.s 66)) <|
 oq 15 (.mv (.s 67)) <|
 .nil) [9, 11, 12, 13, 14, 15])
 (.seq
 (.reg (oq 69 (.load true 8 (.s 9)) <|
 oq 70 (.mv (.s 11)) <|
 oq 71 (.call f_ref05_Member [.s 69, .s 70]) <|
 oq 68 (.mv (.s 71)) <|
 oq 72 (.ext (.s 68) 0) <|
 oq 73 (.ext (.s 68) 1) <|
 oq 16 (.alloc zt8) <|
 oz (.store 8 (.s 16) (.s 72)) <|
 oq 17 (.mv (.s 73)) <|
 .nil) [12, 13, 14, 15, 16, 17])
 (.seq
 (.blk 0
 (.seq
 (.reg (oq 75 (.mv (.s 15)) <|
 oq 76 (.un .not (.s 75)) <|
 oq 74 (.mv (.s 76)) <|
 .nil) [12, 13, 14, 16, 17, 74])
 (.cond (.s 74)
 (.seq
 (.reg (oq 77 (.mv (.s 17)) <|
 oq 78 (.mv (.s 13)) <|
 oq 79 (.beq false (.s 77) (.s 78)) <|
 oq 80 (.mv (.s 79)) <|
 .grp 80 true (oq 81 (.load true 8 (.s 16)) <|
 oq 82 (.load true 8 (.s 12)) <|
 oq 83 (.call f_ref05_Same [.s 81, .s 82]) <|
 .nil) 84 (.s 83) (.k (.bool false)) <|
 oq 85 (.mv (.s 84)) <|
 .grp 85 true (oq 86 (.call f_law16_awake []) <|
 .nil) 87 (.s 86) (.k (.bool false)) <|
 oq 6 (.mv (.s 87)) <|
 .nil) [6])
 .ret)
 (.seq
 (.reg (oq 89 (.fad 0 (.s 14)) <|
 oq 90 (.load false 1 (.s 89)) <|
 oq 91 (.bin .eql (.s 90) (.k (.int .i64 1))) <|
 oq 88 (.mv (.s 91)) <|
 .nil) [12, 13, 14, 16, 17, 88])
 (.cond (.s 88)
 (.seq
 (.reg (oq 92 (.mv (.s 17)) <|
 oq 93 (.un .not (.s 92)) <|
 oq 94 (.mv (.s 93)) <|
 .grp 94 true (oq 95 (.call f_law16_awake []) <|
 .nil) 96 (.s 95) (.k (.bool false)) <|
 oq 6 (.mv (.s 96)) <|
 .nil) [6])
 .ret)
 (.seq
 (.reg (oq 98 (.fad 0 (.s 14)) <|
 oq 99 (.load false 1 (.s 98)) <|
 oq 100 (.bin .neq (.s 99) (.k (.int .i64 7))) <|
 oq 97 (.mv (.s 100)) <|
 .nil) [12, 13, 14, 16, 17, 97])
 (.cond (.s 97)
 (.seq
 (.reg (oq 101 (.mv (.s 17)) <|
 oq 102 (.mv (.s 101)) <|
 .grp 102 true (oq 103 (.load true 8 (.s 16)) <|
 oq 104 (.load true 8 (.s 14)) <|
 oq 105 (.call f_ref05_Same [.s 103, .s 104]) <|
 .nil) 106 (.s 105) (.k (.bool false)) <|
 oq 107 (.mv (.s 106)) <|
 .grp 107 true (oq 108 (.call f_law16_awake []) <|
 .nil) 109 (.s 108) (.k (.bool false)) <|
 oq 6 (.mv (.s 109)) <|
 .nil) [6])
 .ret)
 (.seq
 (.reg (oq 111 (.mv (.s 13)) <|
 oq 112 (.mv (.s 111)) <|
 .grp 112 true (oq 113 (.fad 0 (.s 12)) <|
 oq 114 (.load false 1 (.s 113)) <|
 oq 115 (.bin .eql (.s 114) (.k (.int .i64 7))) <|
 .nil) 116 (.s 115) (.k (.bool false)) <|
 oq 110 (.mv (.s 116)) <|
 .nil) [12, 14, 16, 17, 110])
 (.cond (.s 110)
 (.seq
 (.drw (.nil)
 (oq 117 (.mv (.s 17)) <|
 oq 118 (.mv (.s 117)) <|
 .grp 118 true (oq 119 (.load true 8 (.s 16)) <|
 oq 120 (.load true 8 (.s 12)) <|
 oq 121 (.load true 8 (.s 14)) <|
 oq 122 (.call f_merge_Merge [.s 120, .s 121]) <|
 oq 123 (.call f_ref05_Same [.s 119, .s 122]) <|
 .nil) 124 (.s 123) (.k (.bool false)) <|
 .nil)
 (oq 125 (.mv (.s 124)) <|
 .grp 125 true (oq 126 (.call f_law16_awake []) <|
 .nil) 127 (.s 126) (.k (.bool false)) <|
 oq 6 (.mv (.s 127)) <|
 .nil) [6])
 .ret)
 .skip)))))))))
 (.seq
 (.drw (.nil)
 (oq 128 (.mv (.s 17)) <|
 oq 129 (.mv (.s 128)) <|
 .grp 129 true (oq 130 (.fad 0 (.s 16)) <|
 oq 131 (.load false 1 (.s 130)) <|
 oq 132 (.bin .eql (.s 131) (.k (.int .i64 7))) <|
 .nil) 133 (.s 132) (.k (.bool false)) <|
 oq 134 (.mv (.s 133)) <|
 .grp 134 true (oq 135 (.load true 8 (.s 16)) <|
 oq 136 (.build zt8 [(0, 1, (.k (.int .i64 1)))]) <|
 oq 137 (.load true 8 (.s 14)) <|
 oq 138 (.call f_merge_Merge [.s 136, .s 137]) <|
 oq 139 (.call f_ref05_Same [.s 135, .s 138]) <|
 .nil) 140 (.s 139) (.k (.bool false)) <|
 .nil)
 (oq 141 (.mv (.s 140)) <|
 .grp 141 true (oq 142 (.call f_law16_awake []) <|
 .nil) 143 (.s 142) (.k (.bool false)) <|
 oq 6 (.mv (.s 143)) <|
 .nil) [6])
 .ret))))))))))))
def p_law16_MergeMembers : PFn := ⟨[.tmp 6], q_law16_MergeMembers⟩
def n_law16_MergeMembers : Fn := ⟨3, [.tmp 6], false, false, erase q_law16_MergeMembers⟩
def q_law16_awake : PC :=
 (.seq
 (.reg (oq 0 (.mv (.k (.bool false))) <|
 .nil) [])
 (.seq
 (.reg (oq 3 (.build zt8 [(0, 1, (.k (.int .i64 1)))]) <|
 oq 1 (.alloc zt8) <|
 oz (.store 8 (.s 1) (.s 3)) <|
 .nil) [1])
 (.seq
 (.reg (oq 4 (.lit 2 [(.str [])] [(0, 1, (.k (.str [97]))), (1, 1, (.k (.str [98])))]) <|
 oq 5 (.build zt8 [(0, 1, (.k (.int .i64 2)))]) <|
 oq 6 (.build zt8 [(0, 1, (.k (.int .i64 2)))]) <|
 oq 7 (.lit 2 zt8 [(0, 8, (.s 5)), (8, 8, (.s 6))]) <|
 oq 8 (.build zt8 [(0, 1, (.k (.int .i64 7))), (6, 1, (.s 4)), (7, 1, (.s 7))]) <|
 oq 9 (.lit 2 [(.str [])] [(0, 1, (.k (.str [97]))), (1, 1, (.k (.str [99])))]) <|
 oq 10 (.load true 8 (.s 1)) <|
 oq 11 (.build zt8 [(0, 1, (.k (.int .i64 2))), (1, 1, (.k (.bool true)))]) <|
 oq 12 (.lit 2 zt8 [(0, 8, (.s 10)), (8, 8, (.s 11))]) <|
 oq 13 (.build zt8 [(0, 1, (.k (.int .i64 7))), (6, 1, (.s 9)), (7, 1, (.s 12))]) <|
 oq 14 (.call f_merge_Merge [.s 8, .s 13]) <|
 oq 2 (.alloc zt8) <|
 oz (.store 8 (.s 2) (.s 14)) <|
 .nil) [2])
 (.seq
 (.reg (oq 15 (.fad 6 (.s 2)) <|
 oq 16 (.load false 1 (.s 15)) <|
 oq 17 (.len (.s 16)) <|
 oq 18 (.bin .eql (.s 17) (.k (.int .i64 2))) <|
 oq 19 (.mv (.s 18)) <|
 .grp 19 true (oq 20 (.fad 7 (.s 2)) <|
 oq 21 (.load false 1 (.s 20)) <|
 oq 22 (.len (.s 21)) <|
 oq 23 (.bin .eql (.s 22) (.k (.int .i64 2))) <|
 .nil) 24 (.s 23) (.k (.bool false)) <|
 oq 25 (.mv (.s 24)) <|
 .grp 25 true (oq 26 (.fad 6 (.s 2)) <|
 oq 27 (.load false 1 (.s 26)) <|
 oq 28 (.iad 1 (.s 27) (.k (.int .i64 0))) <|
 oq 29 (.load false 1 (.s 28)) <|
 oq 30 (.bin .eql (.s 29) (.k (.str [98]))) <|
 .nil) 31 (.s 30) (.k (.bool false)) <|
 oq 32 (.mv (.s 31)) <|
 .grp 32 true (oq 33 (.fad 6 (.s 2)) <|
 oq 34 (.load false 1 (.s 33)) <|
 oq 35 (.iad 1 (.s 34) (.k (.int .i64 1))) <|
 oq 36 (.load false 1 (.s 35)) <|
 oq 37 (.bin .eql (.s 36) (.k (.str [99]))) <|
 .nil) 38 (.s 37) (.k (.bool false)) <|
 oq 39 (.mv (.s 38)) <|
 .grp 39 true (oq 40 (.fad 7 (.s 2)) <|
 oq 41 (.load false 1 (.s 40)) <|
 oq 42 (.iad 8 (.s 41) (.k (.int .i64 1))) <|
 oq 43 (.fad 1 (.s 42)) <|
 oq 44 (.load false 1 (.s 43)) <|
 .nil) 45 (.s 44) (.k (.bool false)) <|
 oq 46 (.mv (.s 45)) <|
 .grp 46 true (oq 47 (.load true 8 (.s 2)) <|
 oq 48 (.call f_merge_Clean [.s 47]) <|
 .nil) 49 (.s 48) (.k (.bool false)) <|
 oq 0 (.mv (.s 49)) <|
 .nil) [0])
 .ret))))
def p_law16_awake : PFn := ⟨[.tmp 0], q_law16_awake⟩
def n_law16_awake : Fn := ⟨0, [.tmp 0], false, false, erase q_law16_awake⟩
def q_law00_Made : PC :=
 (.seq
 (.reg (oq 4 (.alloc zt8) <|
 .nil) [0, 1, 4])
 (.seq
 (.reg (oq 8 (.mv (.s 0)) <|
 oq 9 (.mv (.s 1)) <|
 oq 10 (.call f_law00_made [.s 8, .s 9]) <|
 oq 7 (.mv (.s 10)) <|
 oq 11 (.ext (.s 7) 0) <|
 oq 12 (.ext (.s 7) 1) <|
 oq 5 (.alloc zt8) <|
 oz (.store 8 (.s 5) (.s 11)) <|
 oq 6 (.mv (.s 12)) <|
 .nil) [4, 5])
 (.seq
 (.reg (oq 13 (.load true 8 (.s 5)) <|
 oz (.store 8 (.s 4) (.s 13)) <|
 .nil) [4])
 .ret)))
def p_law00_Made : PFn := ⟨[.cell 4 true 8], q_law00_Made⟩
def n_law00_Made : Fn := ⟨2, [.cell 4 true 8], false, false, erase q_law00_Made⟩
def q_merge_Merge : PC :=
 (.seq
 (.reg (.box 8 2 (.s 0) <|
 .box 8 3 (.s 1) <|
 oq 4 (.alloc zt8) <|
 .nil) [2, 3, 4])
 (.seq
 (.seq
 (.reg (oq 9 (.fad 0 (.s 3)) <|
 oq 10 (.load false 1 (.s 9)) <|
 oq 11 (.bin .neq (.s 10) (.k (.int .i64 7))) <|
 .nil) [2, 3, 4, 11])
 (.cond (.s 11)
 (.seq
 (.reg (oq 12 (.load true 8 (.s 3)) <|
 oz (.store 8 (.s 4) (.s 12)) <|
 .nil) [4])
 .ret)
 .skip))
 (.seq
 (.cut ⟨[(2, .same), (3, .same), (4, .same)], [(.box 8), .same, .same]⟩ [(.nrm, ⟨[(2, .same), (3, .same), (4, .same)], [(.cells [.v, .v, .v, .v, .v, .v, .v, .v]), .same, .same]⟩)]
 (.seq
 (.reg (oq 13 (.fad 0 (.s 2)) <|
 oq 14 (.load false 1 (.s 13)) <|
 oq 15 (.bin .neq (.s 14) (.k (.int .i64 7))) <|
 .nil) [2, 3, 4, 15])
 (.cond (.s 15)
 (.reg (oq 16 (.build zt8 [(0, 1, (.k (.int .i64 7)))]) <|
 oz (.store 8 (.s 2) (.s 16)) <|
 .nil) [2, 3, 4])
 .skip)))
 (.seq
 .skip
 (.seq
 (.seq
 (.reg (oq 17 (.fad 6 (.s 3)) <|
 oq 18 (.load false 1 (.s 17)) <|
 oq 19 (.fad 6 (.s 3)) <|
 oq 20 (.load false 1 (.s 19)) <|
 oq 21 (.len (.s 20)) <|
 oq 22 (.fad 7 (.s 3)) <|
 oq 23 (.load false 1 (.s 22)) <|
 oq 24 (.len (.s 23)) <|
 oq 25 (.min [.s 21, .s 24]) <|
 oq 26 (.slc 1 (.s 18) none (some (.s 25)) none) <|
 oq 27 (.len (.s 26)) <|
 oq 28 (.mv (.k (.int .i64 0))) <|
 .nil) [2, 3, 4, 26, 27, 28])
 (.blk 0
 (.loop ⟨[(2, .same), (3, .same), (4, .same), (26, .same), (27, .same), (28, .v)], [(.box 8), .same, .same]⟩ [(.ext 0, ⟨[(2, .same), (4, .same)], [(.box 8), .same, .same]⟩)]
 (.seq
 (.reg (oq 29 (.bin .lss (.s 28) (.s 27)) <|
 .nil) [2, 3, 4, 26, 27, 28, 29])
 (.seq
 (.cond (.s 29)
 .skip
 (.exit 0))
 (.seq
 (.blk 1
 (.seq
 (.reg (oq 30 (.mv (.s 28)) <|
 oq 31 (.iad 1 (.s 26) (.s 28)) <|
 oq 32 (.load false 1 (.s 31)) <|
 oq 5 (.mv (.s 30)) <|
 oq 6 (.mv (.s 32)) <|
 .nil) [2, 3, 4, 5, 6, 26, 27, 28])
 (.seq
 (.seq
 (.reg (oq 33 (.fad 7 (.s 3)) <|
 oq 34 (.load false 1 (.s 33)) <|
 oq 35 (.mv (.s 5)) <|
 oq 36 (.iad 8 (.s 34) (.s 35)) <|
 oq 37 (.fad 0 (.s 36)) <|
 oq 38 (.load false 1 (.s 37)) <|
 oq 39 (.bin .eql (.s 38) (.k (.int .i64 1))) <|
 .nil) [2, 3, 4, 5, 6, 26, 27, 28, 39])
 (.cond (.s 39)
 (.seq
 (.reg (oq 40 (.load true 8 (.s 2)) <|
 oq 41 (.mv (.s 6)) <|
 oq 42 (.call f_tree_Unset [.s 40, .s 41]) <|
 oz (.store 8 (.s 2) (.s 42)) <|
 .nil) [2, 3, 4, 26, 27, 28])
 (.exit 1))
 .skip))
 (.seq
 (.reg (oq 44 (.load true 8 (.s 2)) <|
 oq 45 (.mv (.s 6)) <|
 oq 46 (.call f_tree_Member [.s 44, .s 45]) <|
 oq 43 (.mv (.s 46)) <|
 oq 47 (.ext (.s 43) 0) <|
 oq 48 (.ext (.s 43) 1) <|
 oq 7 (.alloc zt8) <|
 oz (.store 8 (.s 7) (.s 47)) <|
 oq 8 (.mv (.s 48)) <|
 .nil) [2, 3, 4, 5, 6, 7, 8, 26, 27, 28])
 (.seq
 (.cut ⟨[(2, .same), (3, .same), (4, .same), (26, .same), (27, .same), (28, .same), (5, .same), (6, .same), (7, .same), (8, .same)], [.same, .same, .same, (.box 8)]⟩ [(.nrm, ⟨[(2, .same), (3, .same), (4, .same), (26, .same), (27, .same), (28, .same), (5, .same), (6, .same), (7, .same)], [.same, .same, .same, (.cells [.v, .v, .v, .v, .v, .v, .v, .v])]⟩)]
 (.seq
 (.reg (oq 49 (.mv (.s 8)) <|
 oq 50 (.un .not (.s 49)) <|
 .nil) [2, 3, 4, 5, 6, 7, 26, 27, 28, 50])
 (.cond (.s 50)
 (.reg (oq 51 (.build zt8 [(0, 1, (.k (.int .i64 1)))]) <|
 oz (.store 8 (.s 7) (.s 51)) <|
 .nil) [2, 3, 4, 5, 6, 7, 26, 27, 28])
 .skip)))
 (.drw (.nil)
 (oq 52 (.load true 8 (.s 2)) <|
 oq 53 (.mv (.s 6)) <|
 oq 54 (.load true 8 (.s 7)) <|
 oq 55 (.fad 7 (.s 3)) <|
 oq 56 (.load false 1 (.s 55)) <|
 oq 57 (.mv (.s 5)) <|
 oq 58 (.iad 8 (.s 56) (.s 57)) <|
 oq 59 (.load true 8 (.s 58)) <|
 oq 60 (.call f_merge_Merge [.s 54, .s 59]) <|
 .nil)
 (oq 61 (.call f_tree_Set [.s 52, .s 53, .s 60]) <|
 oz (.store 8 (.s 2) (.s 61)) <|
 .nil) [2, 3, 4, 26, 27, 28]))))))
 (.reg (oq 62 (.bin .add (.s 28) (.k (.int .i64 1))) <|
 oq 28 (.mv (.s 62)) <|
 .nil) [2, 3, 4, 26, 27, 28])))))))
 (.seq
 (.reg (oq 63 (.load true 8 (.s 2)) <|
 oz (.store 8 (.s 4) (.s 63)) <|
 .nil) [4])
 .ret))))))
def p_merge_Merge : PFn := ⟨[.cell 4 true 8], q_merge_Merge⟩
def n_merge_Merge : Fn := ⟨2, [.cell 4 true 8], false, false, erase q_merge_Merge⟩
def q_ref05_Same : PC :=
 (.seq
 (.reg (.box 8 2 (.s 0) <|
 .box 8 3 (.s 1) <|
 oq 4 (.mv (.k (.bool false))) <|
 .nil) [2, 3])
 (.seq
 (.seq
 (.reg (oq 7 (.fad 0 (.s 2)) <|
 oq 8 (.load false 1 (.s 7)) <|
 oq 9 (.fad 0 (.s 3)) <|
 oq 10 (.load false 1 (.s 9)) <|
 oq 11 (.bin .neq (.s 8) (.s 10)) <|
 .nil) [2, 3, 11])
 (.cond (.s 11)
 (.seq
 (.reg (oq 4 (.mv (.k (.bool false))) <|
 .nil) [4])
 .ret)
 .skip))
 (.seq
 (.seq
 (.reg (oq 12 (.fad 0 (.s 2)) <|
 oq 13 (.load false 1 (.s 12)) <|
 .nil) [2, 3, 13])
 (.blk 0
 (.seq
 (.reg (oq 15 (.bin .eql (.s 13) (.k (.int .i64 2))) <|
 oq 14 (.mv (.s 15)) <|
 .nil) [2, 3, 13, 14])
 (.cond (.s 14)
 (.seq
 (.reg (oq 16 (.fad 1 (.s 2)) <|
 oq 17 (.load false 1 (.s 16)) <|
 oq 18 (.fad 1 (.s 3)) <|
 oq 19 (.load false 1 (.s 18)) <|
 oq 20 (.beq false (.s 17) (.s 19)) <|
 oq 4 (.mv (.s 20)) <|
 .nil) [4])
 .ret)
 (.seq
 (.reg (oq 22 (.bin .eql (.s 13) (.k (.int .i64 3))) <|
 oq 21 (.mv (.s 22)) <|
 .nil) [2, 3, 13, 21])
 (.cond (.s 21)
 (.seq
 (.reg (oq 23 (.fad 2 (.s 2)) <|
 oq 24 (.load true 3 (.s 23)) <|
 oq 25 (.fad 2 (.s 3)) <|
 oq 26 (.load true 3 (.s 25)) <|
 oq 27 (.call f_ref02_Same [.s 24, .s 26]) <|
 oq 4 (.mv (.s 27)) <|
 .nil) [4])
 .ret)
 (.seq
 (.cut ⟨[(2, .same), (3, .same), (13, .same)], [.same, .same]⟩ [(.nrm, ⟨[(2, .same), (3, .same), (13, .same), (28, .v)], [.same, .same]⟩)]
 (.seq
 (.reg (oq 29 (.bin .eql (.s 13) (.k (.int .i64 4))) <|
 oq 28 (.mv (.s 29)) <|
 .nil) [2, 3, 13, 28])
 (.cond (.s 28)
 .skip
 (.reg (oq 30 (.bin .eql (.s 13) (.k (.int .i64 5))) <|
 oq 28 (.mv (.s 30)) <|
 .nil) [2, 3, 13, 28]))))
 (.cond (.s 28)
 (.seq
 (.reg (oq 31 (.fad 5 (.s 2)) <|
 oq 32 (.load false 1 (.s 31)) <|
 oq 33 (.fad 5 (.s 3)) <|
 oq 34 (.load false 1 (.s 33)) <|
 oq 35 (.bin .eql (.s 32) (.s 34)) <|
 oq 4 (.mv (.s 35)) <|
 .nil) [4])
 .ret)
 (.seq
 (.cut ⟨[(2, .same), (3, .same), (13, .same)], [.same, .same]⟩ [(.nrm, ⟨[(2, .same), (3, .same), (36, .v)], [.same, .same]⟩)]
 (.seq
 (.reg (oq 37 (.bin .eql (.s 13) (.k (.int .i64 6))) <|
 oq 36 (.mv (.s 37)) <|
 .nil) [2, 3, 13, 36])
 (.cond (.s 36)
 .skip
 (.reg (oq 38 (.bin .eql (.s 13) (.k (.int .i64 7))) <|
 oq 36 (.mv (.s 38)) <|
 .nil) [2, 3, 36]))))
 (.cond (.s 36)
 (.seq
 (.seq
 (.reg (oq 39 (.fad 7 (.s 2)) <|
 oq 40 (.load false 1 (.s 39)) <|
 oq 41 (.len (.s 40)) <|
 oq 42 (.fad 7 (.s 3)) <|
 oq 43 (.load false 1 (.s 42)) <|
 oq 44 (.len (.s 43)) <|
 oq 45 (.bin .neq (.s 41) (.s 44)) <|
 oq 46 (.mv (.s 45)) <|
 .grp 46 false (oq 47 (.fad 0 (.s 2)) <|
 oq 48 (.load false 1 (.s 47)) <|
 oq 49 (.bin .eql (.s 48) (.k (.int .i64 7))) <|
 oq 50 (.mv (.s 49)) <|
 .grp 50 true (oq 51 (.fad 6 (.s 2)) <|
 oq 52 (.load false 1 (.s 51)) <|
 oq 53 (.len (.s 52)) <|
 oq 54 (.fad 6 (.s 3)) <|
 oq 55 (.load false 1 (.s 54)) <|
 oq 56 (.len (.s 55)) <|
 oq 57 (.bin .neq (.s 53) (.s 56)) <|
 .nil) 58 (.s 57) (.k (.bool false)) <|
 .nil) 59 (.s 58) (.k (.bool true)) <|
 .nil) [2, 3, 59])
 (.cond (.s 59)
 (.seq
 (.reg (oq 4 (.mv (.k (.bool false))) <|
 .nil) [4])
 .ret)
 .skip))
 (.seq
 (.seq
 (.reg (oq 5 (.mv (.k (.int .i64 0))) <|
 .nil) [2, 3, 5])
 (.blk 1
 (.loop ⟨[(2, .same), (3, .same), (5, .v)], [.same, .same]⟩ [(.ext 1, ⟨[(2, .same), (3, .same)], [.same, .same]⟩), (.ret, ⟨[(4, .v)], [.same, .same]⟩)]
 (.seq
 (.seq
 (.reg (oq 60 (.mv (.s 5)) <|
 oq 61 (.fad 6 (.s 2)) <|
 oq 62 (.load false 1 (.s 61)) <|
 oq 63 (.len (.s 62)) <|
 oq 64 (.bin .lss (.s 60) (.s 63)) <|
 oq 65 (.mv (.s 64)) <|
 .grp 65 true (oq 66 (.fad 0 (.s 2)) <|
 oq 67 (.load false 1 (.s 66)) <|
 oq 68 (.bin .eql (.s 67) (.k (.int .i64 7))) <|
 .nil) 69 (.s 68) (.k (.bool false)) <|
 .nil) [2, 3, 5, 69])
 (.cond (.s 69)
 .skip
 (.exit 1)))
 (.seq
 (.blk 2
 (.seq
 (.drw (.nil)
 (oq 72 (.fad 6 (.s 2)) <|
 oq 73 (.load false 1 (.s 72)) <|
 oq 74 (.mv (.s 5)) <|
 oq 75 (.iad 1 (.s 73) (.s 74)) <|
 oq 76 (.load false 1 (.s 75)) <|
 oq 77 (.fad 6 (.s 3)) <|
 oq 78 (.load false 1 (.s 77)) <|
 oq 79 (.mv (.s 5)) <|
 oq 80 (.iad 1 (.s 78) (.s 79)) <|
 oq 81 (.load false 1 (.s 80)) <|
 .nil)
 (oq 82 (.bin .neq (.s 76) (.s 81)) <|
 .nil) [2, 3, 5, 82])
 (.cond (.s 82)
 (.seq
 (.reg (oq 4 (.mv (.k (.bool false))) <|
 .nil) [4])
 .ret)
 .skip)))
 (.reg (oq 70 (.mv (.s 5)) <|
 oq 71 (.bin .add (.s 70) (.k (.int .i64 1))) <|
 oq 5 (.mv (.s 71)) <|
 .nil) [2, 3, 5]))))))
 (.seq
 (.reg (oq 6 (.mv (.k (.int .i64 0))) <|
 .nil) [2, 3, 6])
 (.blk 3
 (.loop ⟨[(2, .same), (3, .same), (6, .v)], [.same, .same]⟩ [(.ext 3, ⟨[], [.same, .same]⟩), (.ret, ⟨[(4, .v)], [.same, .same]⟩)]
 (.seq
 (.seq
 (.reg (oq 83 (.mv (.s 6)) <|
 oq 84 (.fad 7 (.s 2)) <|
 oq 85 (.load false 1 (.s 84)) <|
 oq 86 (.len (.s 85)) <|
 oq 87 (.bin .lss (.s 83) (.s 86)) <|
 .nil) [2, 3, 6, 87])
 (.cond (.s 87)
 .skip
 (.exit 3)))
 (.seq
 (.blk 4
 (.seq
 (.drw (.nil)
 (oq 90 (.fad 7 (.s 2)) <|
 oq 91 (.load false 1 (.s 90)) <|
 oq 92 (.mv (.s 6)) <|
 oq 93 (.iad 8 (.s 91) (.s 92)) <|
 oq 94 (.load true 8 (.s 93)) <|
 oq 95 (.fad 7 (.s 3)) <|
 oq 96 (.load false 1 (.s 95)) <|
 oq 97 (.mv (.s 6)) <|
 oq 98 (.iad 8 (.s 96) (.s 97)) <|
 oq 99 (.load true 8 (.s 98)) <|
 .nil)
 (oq 100 (.call f_ref05_Same [.s 94, .s 99]) <|
 oq 101 (.un .not (.s 100)) <|
 .nil) [2, 3, 6, 101])
 (.cond (.s 101)
 (.seq
 (.reg (oq 4 (.mv (.k (.bool false))) <|
 .nil) [4])
 .ret)
 .skip)))
 (.reg (oq 88 (.mv (.s 6)) <|
 oq 89 (.bin .add (.s 88) (.k (.int .i64 1))) <|
 oq 6 (.mv (.s 89)) <|
 .nil) [2, 3, 6]))))))))
 .skip))))))))))
 (.seq
 (.reg (oq 4 (.mv (.k (.bool true))) <|
 .nil) [4])
 .ret))))
def p_ref05_Same : PFn := ⟨[.tmp 4], q_ref05_Same⟩
def n_ref05_Same : Fn := ⟨2, [.tmp 4], false, false, erase q_ref05_Same⟩
def q_merge_Clean : PC :=
 (.seq
 (.reg (.box 8 1 (.s 0) <|
 oq 2 (.mv (.k (.bool false))) <|
 .nil) [1])
 (.seq
 (.reg (oq 3 (.fad 0 (.s 1)) <|
 oq 4 (.load false 1 (.s 3)) <|
 oq 5 (.bin .neq (.s 4) (.k (.int .i64 7))) <|
 oq 6 (.mv (.s 5)) <|
 .grp 6 false (oq 7 (.fad 7 (.s 1)) <|
 oq 8 (.load false 1 (.s 7)) <|
 oq 9 (.call f_slices_ContainsFunc_erratum_api_Tree [.s 8, (.k (.fn f_merge_Clean_1 []))]) <|
 oq 10 (.un .not (.s 9)) <|
 .nil) 11 (.s 10) (.k (.bool true)) <|
 oq 2 (.mv (.s 11)) <|
 .nil) [2])
 .ret))
def p_merge_Clean : PFn := ⟨[.tmp 2], q_merge_Clean⟩
def n_merge_Clean : Fn := ⟨1, [.tmp 2], false, false, erase q_merge_Clean⟩
def q_law00_Names : PC :=
 (.seq
 (.reg (oq 0 (.mv (.k (.sl .full 0 []))) <|
 .nil) [])
 (.seq
 (.reg (oq 1 (.lit 8 [(.str [])] [(0, 1, (.k (.str [97]))), (1, 1, (.k (.str [98]))), (2, 1, (.k (.str [99]))), (3, 1, (.k (.str [100, 100]))), (4, 1, (.k (.str [101]))), (5, 1, (.k (.str []))), (6, 1, (.k (.str [120, 47, 121]))), (7, 1, (.k (.str [122, 126])))]) <|
 oq 0 (.mv (.s 1)) <|
 .nil) [0])
 .ret))
def p_law00_Names : PFn := ⟨[.tmp 0], q_law00_Names⟩
def n_law00_Names : Fn := ⟨0, [.tmp 0], false, true, erase q_law00_Names⟩
def q_law00_Place : PC :=
 (.seq
 (.reg (oq 4 (.mv (.k (.int .i64 0))) <|
 .nil) [0, 1])
 (.seq
 (.reg (oq 6 (.mv (.s 0)) <|
 oq 7 (.mv (.s 1)) <|
 oq 8 (.bin .rem (.s 6) (.s 7)) <|
 oq 5 (.mv (.s 8)) <|
 .nil) [1, 5])
 (.seq
 (.seq
 (.reg (oq 9 (.mv (.s 5)) <|
 oq 10 (.bin .lss (.s 9) (.k (.int .i64 0))) <|
 .nil) [1, 5, 10])
 (.cond (.s 10)
 (.reg (oq 11 (.mv (.s 5)) <|
 oq 12 (.mv (.s 1)) <|
 oq 13 (.bin .add (.s 11) (.s 12)) <|
 oq 5 (.mv (.s 13)) <|
 .nil) [5])
 .skip))
 (.seq
 (.reg (oq 14 (.mv (.s 5)) <|
 oq 4 (.mv (.s 14)) <|
 .nil) [4])
 .ret))))
def p_law00_Place : PFn := ⟨[.tmp 4], q_law00_Place⟩
def n_law00_Place : Fn := ⟨2, [.tmp 4], false, false, erase q_law00_Place⟩
def q_ref05_Member : PC :=
 (.seq
 (.reg (.box 8 2 (.s 0) <|
 oq 4 (.alloc zt8) <|
 oq 5 (.mv (.k (.bool false))) <|
 .nil) [1, 2, 4])
 (.seq
 (.seq
 (.reg (oq 6 (.mv (.k (.int .i64 0))) <|
 .nil) [1, 2, 4, 6])
 (.blk 0
 (.loop ⟨[(1, .same), (2, .same), (4, .same), (6, .v)], [.same, (.cells [.v, .v, .v, .v, .v, .v, .v, .v])]⟩ [(.ext 0, ⟨[(4, .same)], [.same, (.box 8)]⟩), (.ret, ⟨[(4, .same), (5, .v)], [.same, (.box 8)]⟩)]
 (.seq
 (.seq
 (.reg (oq 7 (.mv (.s 6)) <|
 oq 8 (.fad 6 (.s 2)) <|
 oq 9 (.load false 1 (.s 8)) <|
 oq 10 (.len (.s 9)) <|
 oq 11 (.bin .lss (.s 7) (.s 10)) <|
 oq 12 (.mv (.s 11)) <|
 .grp 12 true (oq 13 (.mv (.s 6)) <|
 oq 14 (.fad 7 (.s 2)) <|
 oq 15 (.load false 1 (.s 14)) <|
 oq 16 (.len (.s 15)) <|
 oq 17 (.bin .lss (.s 13) (.s 16)) <|
 .nil) 18 (.s 17) (.k (.bool false)) <|
 oq 19 (.mv (.s 18)) <|
 .grp 19 true (oq 20 (.fad 0 (.s 2)) <|
 oq 21 (.load false 1 (.s 20)) <|
 oq 22 (.bin .eql (.s 21) (.k (.int .i64 7))) <|
 .nil) 23 (.s 22) (.k (.bool false)) <|
 .nil) [1, 2, 4, 6, 23])
 (.cond (.s 23)
 .skip
 (.exit 0)))
 (.seq
 (.blk 1
 (.seq
 (.reg (oq 26 (.fad 6 (.s 2)) <|
 oq 27 (.load false 1 (.s 26)) <|
 oq 28 (.mv (.s 6)) <|
 oq 29 (.iad 1 (.s 27) (.s 28)) <|
 oq 30 (.load false 1 (.s 29)) <|
 oq 31 (.mv (.s 1)) <|
 oq 32 (.bin .eql (.s 30) (.s 31)) <|
 .nil) [1, 2, 4, 6, 32])
 (.cond (.s 32)
 (.seq
 (.reg (oq 33 (.fad 7 (.s 2)) <|
 oq 34 (.load false 1 (.s 33)) <|
 oq 35 (.mv (.s 6)) <|
 oq 36 (.iad 8 (.s 34) (.s 35)) <|
 oq 37 (.load true 8 (.s 36)) <|
 oz (.store 8 (.s 4) (.s 37)) <|
 oq 5 (.mv (.k (.bool true))) <|
 .nil) [4, 5])
 .ret)
 .skip)))
 (.reg (oq 24 (.mv (.s 6)) <|
 oq 25 (.bin .add (.s 24) (.k (.int .i64 1))) <|
 oq 6 (.mv (.s 25)) <|
 .nil) [1, 2, 4, 6]))))))
 (.seq
 (.reg (oq 38 (.build zt8 []) <|
 oz (.store 8 (.s 4) (.s 38)) <|
 oq 5 (.mv (.k (.bool false))) <|
 .nil) [4, 5])
 .ret)))
def p_ref05_Member : PFn := ⟨[.cell 4 true 8, .tmp 5], q_ref05_Member⟩
def n_ref05_Member : Fn := ⟨2, [.cell 4 true 8, .tmp 5], false, false, erase q_ref05_Member⟩
def q_law00_made : PC :=
 (.seq
 (.reg (oq 4 (.alloc zt8) <|
 oq 5 (.mv (.k (.sl .full 0 []))) <|
 .nil) [0, 1, 4])
 (.seq
 (.seq
 (.reg (oq 16 (.mv (.s 0)) <|
 oq 17 (.len (.s 16)) <|
 oq 18 (.bin .eql (.s 17) (.k (.int .i64 0))) <|
 .nil) [0, 1, 4, 18])
 (.cond (.s 18)
 (.seq
 (.reg (oq 19 (.build zt8 [(0, 1, (.k (.int .i64 1)))]) <|
 oz (.store 8 (.s 4) (.s 19)) <|
 oq 5 (.mv (.k (.sl .full 0 []))) <|
 .nil) [4, 5])
 .ret)
 .skip))
 (.seq
 (.reg (oq 20 (.mv (.s 0)) <|
 oq 21 (.iad 1 (.s 20) (.k (.int .i64 0))) <|
 oq 22 (.load false 1 (.s 21)) <|
 oq 23 (.call f_law00_Place [.s 22, (.k (.int .i64 1073741824))]) <|
 oq 6 (.mv (.s 23)) <|
 .nil) [0, 1, 4, 6])
 (.seq
 (.reg (oq 24 (.mv (.s 0)) <|
 oq 25 (.slc 1 (.s 24) (some (.k (.int .i64 1))) none none) <|
 oq 0 (.mv (.s 25)) <|
 .nil) [0, 1, 4, 6])
 (.seq
 (.reg (oq 26 (.mv (.s 6)) <|
 oq 27 (.bin .rem (.s 26) (.k (.int .i64 12))) <|
 oq 7 (.mv (.s 27)) <|
 .nil) [0, 1, 4, 6, 7])
 (.seq
 (.cut ⟨[(0, .same), (1, .same), (4, .same), (6, .same), (7, .v)], [.same]⟩ [(.nrm, ⟨[(0, .same), (1, .same), (4, .same), (6, .same), (7, .v)], [.same]⟩)]
 (.seq
 (.reg (oq 28 (.mv (.s 1)) <|
 oq 29 (.bin .leq (.s 28) (.k (.int .i64 0))) <|
 oq 30 (.mv (.s 29)) <|
 .grp 30 true (oq 31 (.mv (.s 7)) <|
 oq 32 (.bin .geq (.s 31) (.k (.int .i64 6))) <|
 .nil) 33 (.s 32) (.k (.bool false)) <|
 .nil) [0, 1, 4, 6, 7, 33])
 (.cond (.s 33)
 (.reg (oq 34 (.mv (.s 7)) <|
 oq 35 (.bin .sub (.s 34) (.k (.int .i64 6))) <|
 oq 7 (.mv (.s 35)) <|
 .nil) [0, 1, 4, 6, 7])
 .skip)))
 (.seq
 (.cut ⟨[(0, .v), (1, .same), (4, .same), (6, .same), (7, .same)], [(.cells [.v, .v, .v, (.own 8), .v, .v, (.own 8), (.own 8)])]⟩ [(.nrm, ⟨[(0, .v), (1, .same), (4, .same), (6, .same)], [(.cells [.v, .v, .v, (.own 8), .v, .v, (.own 8), (.own 8)])]⟩), (.ret, ⟨[(4, .same), (5, .v)], [(.cells [.v, .v, .v, .v, .v, .v, (.own 8), (.own 8)])]⟩)]
 (.seq
 (.reg (oq 36 (.mv (.s 7)) <|
 .nil) [0, 1, 4, 6, 36])
 (.blk 0
 (.seq
 (.reg (oq 38 (.bin .eql (.s 36) (.k (.int .i64 0))) <|
 oq 37 (.mv (.s 38)) <|
 .nil) [0, 1, 4, 6, 36, 37])
 (.cond (.s 37)
 (.seq
 (.reg (oq 39 (.build zt8 [(0, 1, (.k (.int .i64 1)))]) <|
 oq 40 (.mv (.s 0)) <|
 oz (.store 8 (.s 4) (.s 39)) <|
 oq 5 (.mv (.s 40)) <|
 .nil) [4, 5])
 .ret)
 (.seq
 (.reg (oq 42 (.bin .eql (.s 36) (.k (.int .i64 1))) <|
 oq 41 (.mv (.s 42)) <|
 .nil) [0, 1, 4, 6, 36, 41])
 (.cond (.s 41)
 (.seq
 (.reg (oq 43 (.mv (.s 6)) <|
 oq 44 (.bin .quo (.s 43) (.k (.int .i64 12))) <|
 oq 45 (.bin .rem (.s 44) (.k (.int .i64 2))) <|
 oq 46 (.bin .eql (.s 45) (.k (.int .i64 1))) <|
 oq 47 (.build zt8 [(0, 1, (.k (.int .i64 2))), (1, 1, (.s 46))]) <|
 oq 48 (.mv (.s 0)) <|
 oz (.store 8 (.s 4) (.s 47)) <|
 oq 5 (.mv (.s 48)) <|
 .nil) [4, 5])
 .ret)
 (.seq
 (.cut ⟨[(0, .same), (1, .same), (4, .same), (6, .same), (36, .same)], [(.cells [.v, .v, .v, (.own 8), .v, .v, (.own 8), (.own 8)])]⟩ [(.nrm, ⟨[(0, .same), (1, .same), (4, .same), (6, .same), (36, .same), (49, .v)], [(.cells [.v, .v, .v, (.own 8), .v, .v, (.own 8), (.own 8)])]⟩)]
 (.seq
 (.reg (oq 50 (.bin .eql (.s 36) (.k (.int .i64 2))) <|
 oq 49 (.mv (.s 50)) <|
 .nil) [0, 1, 4, 6, 36, 49])
 (.cond (.s 49)
 .skip
 (.reg (oq 51 (.bin .eql (.s 36) (.k (.int .i64 3))) <|
 oq 49 (.mv (.s 51)) <|
 .nil) [0, 1, 4, 6, 36, 49]))))
 (.cond (.s 49)
 (.seq
 (.reg (oq 52 (.mv (.s 6)) <|
 oq 53 (.bin .quo (.s 52) (.k (.int .i64 12))) <|
 oq 54 (.call f_law00_number [.s 53]) <|
 oq 55 (.build zt8 [(0, 1, (.k (.int .i64 3))), (2, 3, (.s 54))]) <|
 oq 56 (.mv (.s 0)) <|
 oz (.store 8 (.s 4) (.s 55)) <|
 oq 5 (.mv (.s 56)) <|
 .nil) [4, 5])
 .ret)
 (.seq
 (.reg (oq 58 (.bin .eql (.s 36) (.k (.int .i64 4))) <|
 oq 57 (.mv (.s 58)) <|
 .nil) [0, 1, 4, 6, 36, 57])
 (.cond (.s 57)
 (.seq
 (.reg (oq 59 (.build [.int .i64 0, .int .i64 0, .int .i64 0, .int .i64 0, .int .i64 0, .int .i64 0, .int .i64 0, .int .i64 0, .int .i64 0] [(0, 1, (.k (.int .i64 0))), (1, 1, (.k (.int .i64 1))), (2, 1, (.k (.int .i64 2))), (3, 1, (.k (.int .i64 3))), (4, 1, (.k (.int .i64 4))), (5, 1, (.k (.int .i64 5))), (6, 1, (.k (.int .i64 6))), (7, 1, (.k (.int .i64 8))), (8, 1, (.k (.int .i64 9)))]) <|
 oq 60 (.mv (.s 6)) <|
 oq 61 (.bin .quo (.s 60) (.k (.int .i64 12))) <|
 oq 62 (.bin .rem (.s 61) (.k (.int .i64 9))) <|
 oq 63 (.ixa false 9 1 (.s 59) (.s 62)) <|
 oq 64 (.sls (.k (.str [97, 98, 99, 34, 92, 10, 195, 169, 122])) none (some (.s 63))) <|
 oq 65 (.build zt8 [(0, 1, (.k (.int .i64 4))), (5, 1, (.s 64))]) <|
 oq 66 (.mv (.s 0)) <|
 oz (.store 8 (.s 4) (.s 65)) <|
 oq 5 (.mv (.s 66)) <|
 .nil) [4, 5])
 .ret)
 (.seq
 (.reg (oq 68 (.bin .eql (.s 36) (.k (.int .i64 5))) <|
 oq 67 (.mv (.s 68)) <|
 .nil) [0, 1, 4, 6, 36, 67])
 (.cond (.s 67)
 (.seq
 (.reg (oq 69 (.mv (.s 6)) <|
 oq 70 (.bin .quo (.s 69) (.k (.int .i64 12))) <|
 oq 71 (.bin .rem (.s 70) (.k (.int .i64 5))) <|
 oq 72 (.sls (.k (.str [0, 255, 97, 98])) none (some (.s 71))) <|
 oq 73 (.build zt8 [(0, 1, (.k (.int .i64 5))), (5, 1, (.s 72))]) <|
 oq 74 (.mv (.s 0)) <|
 oz (.store 8 (.s 4) (.s 73)) <|
 oq 5 (.mv (.s 74)) <|
 .nil) [4, 5])
 .ret)
 (.seq
 (.cut ⟨[(0, .same), (1, .same), (4, .same), (6, .same), (36, .same)], [(.cells [.v, .v, .v, (.own 8), .v, .v, (.own 8), (.own 8)])]⟩ [(.nrm, ⟨[(0, .same), (1, .same), (4, .same), (6, .same), (75, .v)], [(.cells [.v, .v, .v, (.own 8), .v, .v, (.own 8), (.own 8)])]⟩)]
 (.seq
 (.reg (oq 76 (.bin .eql (.s 36) (.k (.int .i64 6))) <|
 oq 75 (.mv (.s 76)) <|
 .nil) [0, 1, 4, 6, 36, 75])
 (.cond (.s 75)
 .skip
 (.seq
 (.reg (oq 77 (.bin .eql (.s 36) (.k (.int .i64 7))) <|
 oq 75 (.mv (.s 77)) <|
 .nil) [0, 1, 4, 6, 36, 75])
 (.cond (.s 75)
 .skip
 (.reg (oq 78 (.bin .eql (.s 36) (.k (.int .i64 8))) <|
 oq 75 (.mv (.s 78)) <|
 .nil) [0, 1, 4, 6, 75]))))))
 (.cond (.s 75)
 (.seq
 (.reg (oq 79 (.build zt8 [(0, 1, (.k (.int .i64 6)))]) <|
 oq 8 (.alloc zt8) <|
 oz (.store 8 (.s 8) (.s 79)) <|
 .nil) [0, 1, 4, 6, 8])
 (.seq
 (.seq
 (.reg (oq 9 (.mv (.k (.int .i64 0))) <|
 .nil) [0, 1, 4, 6, 8, 9])
 (.blk 1
 (.loop ⟨[(0, .v), (1, .same), (4, .same), (6, .same), (8, .same), (9, .v)], [(.cells [.v, .v, .v, (.own 8), .v, .v, (.own 8), (.own 8)]), (.cells [.v, .v, .v, (.own 8), .v, .v, (.own 8), (.own 8)])]⟩ [(.ext 1, ⟨[(0, .v), (4, .same), (8, .same)], [(.cells [.v, .v, .v, (.own 8), .v, .v, (.own 8), (.own 8)]), (.cells [.v, .v, .v, (.own 8), .v, .v, (.own 8), (.own 8)])]⟩)]
 (.seq
 (.seq
 (.reg (oq 80 (.mv (.s 9)) <|
 oq 81 (.mv (.s 6)) <|
 oq 82 (.bin .quo (.s 81) (.k (.int .i64 12))) <|
 oq 83 (.bin .rem (.s 82) (.k (.int .i64 4))) <|
 oq 84 (.bin .lss (.s 80) (.s 83)) <|
 .nil) [0, 1, 4, 6, 8, 9, 84])
 (.cond (.s 84)
 .skip
 (.exit 1)))
 (.seq
 (.blk 2
 (.seq
 (.reg (oq 88 (.mv (.s 0)) <|
 oq 89 (.mv (.s 1)) <|
 oq 90 (.bin .sub (.s 89) (.k (.int .i64 1))) <|
 oq 91 (.call f_law00_made [.s 88, .s 90]) <|
 oq 87 (.mv (.s 91)) <|
 oq 92 (.ext (.s 87) 0) <|
 oq 93 (.ext (.s 87) 1) <|
 oq 10 (.alloc zt8) <|
 oz (.store 8 (.s 10) (.s 92)) <|
 oq 11 (.mv (.s 93)) <|
 .nil) [1, 4, 6, 8, 9, 10, 11])
 (.seq
 (.reg (oq 94 (.fad 7 (.s 8)) <|
 oq 95 (.load false 1 (.s 94)) <|
 oq 96 (.load true 8 (.s 10)) <|
 oq 97 (.lit 1 zt8 [(0, 8, (.s 96))]) <|
 oq 98 (.app 8 120 (.s 95) (.s 97)) <|
 oq 99 (.fad 7 (.s 8)) <|
 oz (.store 1 (.s 99) (.s 98)) <|
 .nil) [1, 4, 6, 8, 9, 11])
 (.reg (oq 100 (.mv (.s 11)) <|
 oq 0 (.mv (.s 100)) <|
 .nil) [0, 1, 4, 6, 8, 9]))))
 (.reg (oq 85 (.mv (.s 9)) <|
 oq 86 (.bin .add (.s 85) (.k (.int .i64 1))) <|
 oq 9 (.mv (.s 86)) <|
 .nil) [0, 1, 4, 6, 8, 9]))))))
 (.seq
 (.reg (oq 101 (.load true 8 (.s 8)) <|
 oq 102 (.mv (.s 0)) <|
 oz (.store 8 (.s 4) (.s 101)) <|
 oq 5 (.mv (.s 102)) <|
 .nil) [4, 5])
 .ret)))
 .skip)))))))))))))))
 (.seq
 (.reg (oq 103 (.build zt8 [(0, 1, (.k (.int .i64 7)))]) <|
 oq 12 (.alloc zt8) <|
 oz (.store 8 (.s 12) (.s 103)) <|
 .nil) [0, 1, 4, 6, 12])
 (.seq
 (.seq
 (.reg (oq 13 (.mv (.k (.int .i64 0))) <|
 .nil) [0, 1, 4, 6, 12, 13])
 (.blk 3
 (.loop ⟨[(0, .v), (1, .same), (4, .same), (6, .same), (12, .same), (13, .v)], [(.cells [.v, .v, .v, (.own 8), .v, .v, (.own 8), (.own 8)]), (.cells [.v, .v, .v, .v, .v, .v, .v, .v])]⟩ [(.ext 3, ⟨[(0, .v), (4, .same), (12, .same)], [(.cells [.v, .v, .v, (.own 8), .v, .v, (.own 8), (.own 8)]), (.box 8)]⟩)]
 (.seq
 (.seq
 (.reg (oq 104 (.mv (.s 13)) <|
 oq 105 (.mv (.s 6)) <|
 oq 106 (.bin .quo (.s 105) (.k (.int .i64 12))) <|
 oq 107 (.bin .rem (.s 106) (.k (.int .i64 4))) <|
 oq 108 (.bin .lss (.s 104) (.s 107)) <|
 .nil) [0, 1, 4, 6, 12, 13, 108])
 (.cond (.s 108)
 .skip
 (.exit 3)))
 (.seq
 (.blk 4
 (.seq
 (.reg (oq 112 (.mv (.s 0)) <|
 oq 113 (.mv (.s 1)) <|
 oq 114 (.bin .sub (.s 113) (.k (.int .i64 1))) <|
 oq 115 (.call f_law00_made [.s 112, .s 114]) <|
 oq 111 (.mv (.s 115)) <|
 oq 116 (.ext (.s 111) 0) <|
 oq 117 (.ext (.s 111) 1) <|
 oq 14 (.alloc zt8) <|
 oz (.store 8 (.s 14) (.s 116)) <|
 oq 15 (.mv (.s 117)) <|
 .nil) [1, 4, 6, 12, 13, 14, 15])
 (.seq
 (.drw (.nil)
 (oq 118 (.load true 8 (.s 12)) <|
 oq 119 (.call f_law00_Names []) <|
 oq 120 (.mv (.s 6)) <|
 oq 121 (.bin .quo (.s 120) (.k (.int .i64 48))) <|
 oq 122 (.mv (.s 13)) <|
 oq 123 (.bin .mul (.k (.int .i64 3)) (.s 122)) <|
 oq 124 (.bin .add (.s 121) (.s 123)) <|
 oq 125 (.bin .rem (.s 124) (.k (.int .i64 8))) <|
 oq 126 (.iad 1 (.s 119) (.s 125)) <|
 oq 127 (.load false 1 (.s 126)) <|
 oq 128 (.load true 8 (.s 14)) <|
 .nil)
 (oq 129 (.call f_ref05_Set [.s 118, .s 127, .s 128]) <|
 oz (.store 8 (.s 12) (.s 129)) <|
 .nil) [1, 4, 6, 12, 13, 15])
 (.reg (oq 130 (.mv (.s 15)) <|
 oq 0 (.mv (.s 130)) <|
 .nil) [0, 1, 4, 6, 12, 13]))))
 (.reg (oq 109 (.mv (.s 13)) <|
 oq 110 (.bin .add (.s 109) (.k (.int .i64 1))) <|
 oq 13 (.mv (.s 110)) <|
 .nil) [0, 1, 4, 6, 12, 13]))))))
 (.seq
 (.reg (oq 131 (.load true 8 (.s 12)) <|
 oq 132 (.mv (.s 0)) <|
 oz (.store 8 (.s 4) (.s 131)) <|
 oq 5 (.mv (.s 132)) <|
 .nil) [4, 5])
 .ret))))))))))
def p_law00_made : PFn := ⟨[.cell 4 true 8, .tmp 5], q_law00_made⟩
def n_law00_made : Fn := ⟨2, [.cell 4 true 8, .tmp 5], false, false, erase q_law00_made⟩
def q_tree_Unset : PC :=
 (.seq
 (.reg (.box 8 2 (.s 0) <|
 oq 4 (.alloc zt8) <|
 .nil) [1, 2, 4])
 (.seq
 (.reg (oq 9 (.load true 8 (.s 2)) <|
 oq 10 (.call f_tree_cut [.s 9]) <|
 oq 8 (.mv (.s 10)) <|
 oq 11 (.ext (.s 8) 0) <|
 oq 12 (.ext (.s 8) 1) <|
 oq 5 (.mv (.s 11)) <|
 oq 6 (.mv (.s 12)) <|
 .nil) [1, 2, 4, 5, 6])
 (.seq
 (.reg (oq 13 (.mv (.s 5)) <|
 oq 14 (.mv (.s 1)) <|
 oq 15 (.call f_slices_Index_string [.s 13, .s 14]) <|
 oq 7 (.mv (.s 15)) <|
 .nil) [2, 4, 5, 6, 7])
 (.seq
 (.seq
 (.reg (oq 16 (.mv (.s 7)) <|
 oq 17 (.bin .lss (.s 16) (.k (.int .i64 0))) <|
 .nil) [2, 4, 5, 6, 7, 17])
 (.cond (.s 17)
 (.seq
 (.reg (oq 18 (.load true 8 (.s 2)) <|
 oz (.store 8 (.s 4) (.s 18)) <|
 .nil) [4])
 .ret)
 .skip))
 (.seq
 (.drw (.nil)
 (oq 19 (.mv (.s 5)) <|
 oq 20 (.mv (.s 7)) <|
 oq 21 (.slc 1 (.s 19) none (some (.s 20)) none) <|
 oq 22 (.mv (.s 5)) <|
 oq 23 (.mv (.s 7)) <|
 oq 24 (.bin .add (.s 23) (.k (.int .i64 1))) <|
 oq 25 (.slc 1 (.s 22) (some (.s 24)) none none) <|
 oq 26 (.lit 2 [(.sl .full 0 [])] [(0, 1, (.s 21)), (1, 1, (.s 25))]) <|
 oq 27 (.call f_slices_Concat_string [.s 26]) <|
 oq 28 (.mv (.s 6)) <|
 oq 29 (.mv (.s 7)) <|
 oq 30 (.slc 8 (.s 28) none (some (.s 29)) none) <|
 oq 31 (.mv (.s 6)) <|
 oq 32 (.mv (.s 7)) <|
 oq 33 (.bin .add (.s 32) (.k (.int .i64 1))) <|
 oq 34 (.slc 8 (.s 31) (some (.s 33)) none none) <|
 oq 35 (.lit 2 [(.sl .full 0 [])] [(0, 1, (.s 30)), (1, 1, (.s 34))]) <|
 .nil)
 (oq 36 (.call f_slices_Concat_erratum_api_Tree [.s 35]) <|
 oq 37 (.build zt8 [(0, 1, (.k (.int .i64 7))), (6, 1, (.s 27)), (7, 1, (.s 36))]) <|
 oz (.store 8 (.s 4) (.s 37)) <|
 .nil) [4])
 .ret)))))
def p_tree_Unset : PFn := ⟨[.cell 4 true 8], q_tree_Unset⟩
def n_tree_Unset : Fn := ⟨2, [.cell 4 true 8], false, false, erase q_tree_Unset⟩
def q_tree_Member : PC :=
 (.seq
 (.reg (.box 8 2 (.s 0) <|
 oq 4 (.alloc zt8) <|
 oq 5 (.mv (.k (.bool false))) <|
 .nil) [1, 2, 4])
 (.seq
 (.reg (oq 10 (.load true 8 (.s 2)) <|
 oq 11 (.call f_tree_cut [.s 10]) <|
 oq 9 (.mv (.s 11)) <|
 oq 12 (.ext (.s 9) 0) <|
 oq 13 (.ext (.s 9) 1) <|
 oq 6 (.mv (.s 12)) <|
 oq 7 (.mv (.s 13)) <|
 .nil) [1, 4, 6, 7])
 (.seq
 (.seq
 (.reg (oq 14 (.mv (.s 6)) <|
 oq 15 (.mv (.s 1)) <|
 oq 16 (.call f_slices_Index_string [.s 14, .s 15]) <|
 oq 8 (.mv (.s 16)) <|
 .nil) [4, 7, 8])
 (.seq
 (.reg (oq 17 (.mv (.s 8)) <|
 oq 18 (.bin .geq (.s 17) (.k (.int .i64 0))) <|
 .nil) [4, 7, 8, 18])
 (.cond (.s 18)
 (.seq
 (.reg (oq 19 (.mv (.s 7)) <|
 oq 20 (.mv (.s 8)) <|
 oq 21 (.iad 8 (.s 19) (.s 20)) <|
 oq 22 (.load true 8 (.s 21)) <|
 oz (.store 8 (.s 4) (.s 22)) <|
 oq 5 (.mv (.k (.bool true))) <|
 .nil) [4, 5])
 .ret)
 .skip)))
 (.seq
 (.reg (oq 23 (.build zt8 []) <|
 oz (.store 8 (.s 4) (.s 23)) <|
 oq 5 (.mv (.k (.bool false))) <|
 .nil) [4, 5])
 .ret))))
def p_tree_Member : PFn := ⟨[.cell 4 true 8, .tmp 5], q_tree_Member⟩
def n_tree_Member : Fn := ⟨2, [.cell 4 true 8, .tmp 5], false, false, erase q_tree_Member⟩
def q_tree_Set : PC :=
 (.seq
 (.reg (.box 8 3 (.s 0) <|
 .box 1 4 (.s 1) <|
 .box 8 5 (.s 2) <|
 oq 6 (.alloc zt8) <|
 .nil) [3, 4, 5, 6])
 (.seq
 (.reg (oq 14 (.load true 8 (.s 3)) <|
 oq 15 (.call f_tree_cut [.s 14]) <|
 oq 13 (.mv (.s 15)) <|
 oq 16 (.ext (.s 13) 0) <|
 oq 17 (.ext (.s 13) 1) <|
 oq 7 (.mv (.s 16)) <|
 oq 8 (.mv (.s 17)) <|
 .nil) [4, 5, 6, 7, 8])
 (.seq
 (.drw (oq 18 (.mv (.s 7)) <|
 oq 19 (.len (.s 18)) <|
 oq 21 (.mv (.s 8)) <|
 oq 22 (.len (.s 21)) <|
 oq 20 (.mks [(.str [])] 16 (.s 19) (.s 19)) <|
 oq 23 (.mks zt8 120 (.s 22) (.s 22)) <|
 .nil)
 (oq 9 (.mv (.s 20)) <|
 .nil)
 (oq 10 (.mv (.s 23)) <|
 .nil) [4, 5, 6, 7, 8, 9, 10])
 (.seq
 (.reg (oq 24 (.mv (.s 9)) <|
 oq 25 (.mv (.s 7)) <|
 oq 26 (.cpy 1 (.s 24) (.s 25)) <|
 .nil) [4, 5, 6, 8, 9, 10])
 (.seq
 (.reg (oq 27 (.mv (.s 10)) <|
 oq 28 (.mv (.s 8)) <|
 oq 29 (.cpy 8 (.s 27) (.s 28)) <|
 .nil) [4, 5, 6, 9, 10])
 (.seq
 (.seq
 (.reg (oq 30 (.mv (.s 9)) <|
 oq 31 (.load false 1 (.s 4)) <|
 oq 32 (.call f_slices_Index_string [.s 30, .s 31]) <|
 oq 11 (.mv (.s 32)) <|
 .nil) [4, 5, 6, 9, 10, 11])
 (.seq
 (.reg (oq 33 (.mv (.s 11)) <|
 oq 34 (.bin .geq (.s 33) (.k (.int .i64 0))) <|
 .nil) [4, 5, 6, 9, 10, 11, 34])
 (.cond (.s 34)
 (.seq
 (.reg (oq 35 (.mv (.s 10)) <|
 oq 36 (.mv (.s 11)) <|
 oq 37 (.load true 8 (.s 5)) <|
 oq 38 (.iad 8 (.s 35) (.s 36)) <|
 oz (.store 8 (.s 38) (.s 37)) <|
 .nil) [6, 9, 10])
 (.seq
 (.reg (oq 39 (.mv (.s 9)) <|
 oq 40 (.mv (.s 10)) <|
 oq 41 (.build zt8 [(0, 1, (.k (.int .i64 7))), (6, 1, (.s 39)), (7, 1, (.s 40))]) <|
 oz (.store 8 (.s 6) (.s 41)) <|
 .nil) [6])
 .ret))
 .skip)))
 (.seq
 (.reg (oq 42 (.mv (.s 9)) <|
 oq 43 (.mkf f_tree_Set_1 [.s 4]) <|
 oq 44 (.call f_slices_IndexFunc_string [.s 42, .s 43]) <|
 oq 12 (.mv (.s 44)) <|
 .nil) [4, 5, 6, 9, 10, 12])
 (.seq
 (.cut ⟨[(4, .same), (5, .same), (6, .same), (9, .same), (10, .same), (12, .v)], [.same, .same, .same, .same, .same, .same]⟩ [(.nrm, ⟨[(4, .same), (5, .same), (6, .same), (9, .same), (10, .same), (12, .v)], [.same, .same, .same, .same, .same, .same]⟩)]
 (.seq
 (.reg (oq 45 (.mv (.s 12)) <|
 oq 46 (.bin .lss (.s 45) (.k (.int .i64 0))) <|
 .nil) [4, 5, 6, 9, 10, 12, 46])
 (.cond (.s 46)
 (.reg (oq 47 (.mv (.s 9)) <|
 oq 48 (.len (.s 47)) <|
 oq 12 (.mv (.s 48)) <|
 .nil) [4, 5, 6, 9, 10, 12])
 .skip)))
 (.seq
 (.drw (.nil)
 (oq 49 (.mv (.s 9)) <|
 oq 50 (.mv (.s 12)) <|
 oq 51 (.load false 1 (.s 4)) <|
 oq 52 (.lit 1 [(.str [])] [(0, 1, (.s 51))]) <|
 oq 53 (.call f_slices_Insert_string [.s 49, .s 50, .s 52]) <|
 oq 54 (.mv (.s 10)) <|
 oq 55 (.mv (.s 12)) <|
 oq 56 (.load true 8 (.s 5)) <|
 oq 57 (.lit 1 zt8 [(0, 8, (.s 56))]) <|
 .nil)
 (oq 58 (.call f_slices_Insert_erratum_api_Tree [.s 54, .s 55, .s 57]) <|
 oq 59 (.build zt8 [(0, 1, (.k (.int .i64 7))), (6, 1, (.s 53)), (7, 1, (.s 58))]) <|
 oz (.store 8 (.s 6) (.s 59)) <|
 .nil) [6])
 .ret)))))))))
def p_tree_Set : PFn := ⟨[.cell 6 true 8], q_tree_Set⟩
def n_tree_Set : Fn := ⟨3, [.cell 6 true 8], false, false, erase q_tree_Set⟩
def q_ref02_Same : PC :=
 (.seq
 (.reg (.box 3 2 (.s 0) <|
 .box 3 3 (.s 1) <|
 oq 4 (.mv (.k (.bool false))) <|
 .nil) [2, 3])
 (.seq
 (.drw (oq 5 (.alloc [.bool false, (.sl .full 0 []), .int .i64 0]) <|
 oq 6 (.alloc [.bool false, (.sl .full 0 []), .int .i64 0]) <|
 .nil)
 (oq 7 (.load true 3 (.s 2)) <|
 oq 8 (.call f_ref02_Is [.s 7]) <|
 oq 9 (.load true 3 (.s 3)) <|
 oq 10 (.call f_ref02_Is [.s 9]) <|
 .nil)
 (oz (.store 3 (.s 5) (.s 8)) <|
 oz (.store 3 (.s 6) (.s 10)) <|
 .nil) [5, 6])
 (.seq
 (.reg (oq 11 (.fad 0 (.s 5)) <|
 oq 12 (.load false 1 (.s 11)) <|
 oq 13 (.fad 0 (.s 6)) <|
 oq 14 (.load false 1 (.s 13)) <|
 oq 15 (.beq false (.s 12) (.s 14)) <|
 oq 16 (.mv (.s 15)) <|
 .grp 16 true (oq 17 (.fad 2 (.s 5)) <|
 oq 18 (.load false 1 (.s 17)) <|
 oq 19 (.fad 2 (.s 6)) <|
 oq 20 (.load false 1 (.s 19)) <|
 oq 21 (.bin .eql (.s 18) (.s 20)) <|
 .nil) 22 (.s 21) (.k (.bool false)) <|
 oq 23 (.mv (.s 22)) <|
 .grp 23 true (oq 24 (.fad 1 (.s 5)) <|
 oq 25 (.load false 1 (.s 24)) <|
 oq 26 (.fad 1 (.s 6)) <|
 oq 27 (.load false 1 (.s 26)) <|
 oq 28 (.call f_ref01_Cmp [.s 25, .s 27]) <|
 oq 29 (.bin .eql (.s 28) (.k (.int .i64 0))) <|
 .nil) 30 (.s 29) (.k (.bool false)) <|
 oq 4 (.mv (.s 30)) <|
 .nil) [4])
 .ret)))
def p_ref02_Same : PFn := ⟨[.tmp 4], q_ref02_Same⟩
def n_ref02_Same : Fn := ⟨2, [.tmp 4], false, false, erase q_ref02_Same⟩
def q_slices_ContainsFunc_erratum_api_Tree : PC :=
 (.seq
 (.reg (oq 4 (.mv (.k (.bool false))) <|
 .nil) [0, 1])
 (.seq
 (.reg (oq 5 (.mv (.s 0)) <|
 oq 6 (.mv (.s 1)) <|
 oq 7 (.call f_slices_IndexFunc_erratum_api_Tree [.s 5, .s 6]) <|
 oq 8 (.bin .geq (.s 7) (.k (.int .i64 0))) <|
 oq 4 (.mv (.s 8)) <|
 .nil) [4])
 .ret))
def p_slices_ContainsFunc_erratum_api_Tree : PFn := ⟨[.tmp 4], q_slices_ContainsFunc_erratum_api_Tree⟩
def n_slices_ContainsFunc_erratum_api_Tree : Fn := ⟨2, [.tmp 4], false, false, erase q_slices_ContainsFunc_erratum_api_Tree⟩
def q_merge_Clean_1 : PC :=
 (.seq
 (.reg (.box 8 1 (.s 0) <|
 oq 2 (.mv (.k (.bool false))) <|
 .nil) [1])
 (.seq
 (.reg (oq 3 (.fad 0 (.s 1)) <|
 oq 4 (.load false 1 (.s 3)) <|
 oq 5 (.bin .eql (.s 4) (.k (.int .i64 1))) <|
 oq 6 (.mv (.s 5)) <|
 .grp 6 false (oq 7 (.load true 8 (.s 1)) <|
 oq 8 (.call f_merge_Clean [.s 7]) <|
 oq 9 (.un .not (.s 8)) <|
 .nil) 10 (.s 9) (.k (.bool true)) <|
 oq 2 (.mv (.s 10)) <|
 .nil) [2])
 .ret))
def p_merge_Clean_1 : PFn := ⟨[.tmp 2], q_merge_Clean_1⟩
def n_merge_Clean_1 : Fn := ⟨1, [.tmp 2], false, false, erase q_merge_Clean_1⟩
def q_law00_number : PC :=
 (.seq
 (.reg (oq 2 (.alloc [.bool false, (.sl .full 0 []), .int .i64 0]) <|
 .nil) [0, 2])
 (.seq
 (.seq
 (.reg (oq 9 (.mv (.s 0)) <|
 oq 10 (.bin .rem (.s 9) (.k (.int .i64 5))) <|
 .nil) [0, 2, 10])
 (.blk 0
 (.seq
 (.reg (oq 12 (.bin .eql (.s 10) (.k (.int .i64 0))) <|
 oq 11 (.mv (.s 12)) <|
 .nil) [0, 2, 10, 11])
 (.cond (.s 11)
 (.seq
 (.reg (oq 13 (.mv (.s 0)) <|
 oq 14 (.bin .quo (.s 13) (.k (.int .i64 5))) <|
 oq 15 (.bin .rem (.s 14) (.k (.int .i64 60))) <|
 oq 16 (.bin .sub (.s 15) (.k (.int .i64 20))) <|
 oq 17 (.call f_ref02_Of [.s 16]) <|
 oz (.store 3 (.s 2) (.s 17)) <|
 .nil) [2])
 .ret)
 (.seq
 (.reg (oq 19 (.bin .eql (.s 10) (.k (.int .i64 1))) <|
 oq 18 (.mv (.s 19)) <|
 .nil) [0, 2, 10, 18])
 (.cond (.s 18)
 (.seq
 (.reg (oq 21 (.mv (.s 0)) <|
 oq 22 (.bin .quo (.s 21) (.k (.int .i64 5))) <|
 oq 23 (.bin .rem (.s 22) (.k (.int .i64 2))) <|
 oq 24 (.bin .eql (.s 23) (.k (.int .i64 1))) <|
 oq 25 (.mv (.s 0)) <|
 oq 26 (.bin .quo (.s 25) (.k (.int .i64 10))) <|
 oq 27 (.bin .rem (.s 26) (.k (.int .i64 2000))) <|
 oq 28 (.cvi .u32 (.s 27)) <|
 oq 29 (.lit 1 [.int .u32 0] [(0, 1, (.s 28))]) <|
 oq 30 (.mv (.s 0)) <|
 oq 31 (.bin .quo (.s 30) (.k (.int .i64 7))) <|
 oq 32 (.bin .rem (.s 31) (.k (.int .i64 9))) <|
 oq 33 (.bin .sub (.s 32) (.k (.int .i64 5))) <|
 oq 34 (.call f_ref02_Make [.s 24, .s 29, .s 33]) <|
 oq 20 (.mv (.s 34)) <|
 oq 35 (.ext (.s 20) 0) <|
 oq 36 (.ext (.s 20) 1) <|
 oq 3 (.alloc [.bool false, (.sl .full 0 []), .int .i64 0]) <|
 oz (.store 3 (.s 3) (.s 35)) <|
 oq 4 (.mv (.s 36)) <|
 .nil) [2, 3])
 (.seq
 (.reg (oq 37 (.load true 3 (.s 3)) <|
 oz (.store 3 (.s 2) (.s 37)) <|
 .nil) [2])
 .ret))
 (.seq
 (.reg (oq 39 (.bin .eql (.s 10) (.k (.int .i64 2))) <|
 oq 38 (.mv (.s 39)) <|
 .nil) [0, 2, 10, 38])
 (.cond (.s 38)
 (.seq
 (.reg (oq 41 (.mv (.s 0)) <|
 oq 42 (.cvi .u32 (.s 41)) <|
 oq 43 (.mv (.s 0)) <|
 oq 44 (.bin .quo (.s 43) (.k (.int .i64 3))) <|
 oq 45 (.cvi .u32 (.s 44)) <|
 oq 46 (.mv (.s 0)) <|
 oq 47 (.bin .rem (.s 46) (.k (.int .i64 7))) <|
 oq 48 (.cvi .u32 (.s 47)) <|
 oq 49 (.lit 3 [.int .u32 0] [(0, 1, (.s 42)), (1, 1, (.s 45)), (2, 1, (.s 48))]) <|
 oq 50 (.call f_ref02_Make [(.k (.bool false)), .s 49, (.k (.int .i64 0))]) <|
 oq 40 (.mv (.s 50)) <|
 oq 51 (.ext (.s 40) 0) <|
 oq 52 (.ext (.s 40) 1) <|
 oq 5 (.alloc [.bool false, (.sl .full 0 []), .int .i64 0]) <|
 oz (.store 3 (.s 5) (.s 51)) <|
 oq 6 (.mv (.s 52)) <|
 .nil) [2, 5])
 (.seq
 (.reg (oq 53 (.load true 3 (.s 5)) <|
 oz (.store 3 (.s 2) (.s 53)) <|
 .nil) [2])
 .ret))
 (.seq
 (.reg (oq 55 (.bin .eql (.s 10) (.k (.int .i64 3))) <|
 oq 54 (.mv (.s 55)) <|
 .nil) [0, 2, 54])
 (.cond (.s 54)
 (.seq
 (.reg (oq 57 (.mv (.s 0)) <|
 oq 58 (.bin .rem (.s 57) (.k (.int .i64 2))) <|
 oq 59 (.bin .eql (.s 58) (.k (.int .i64 1))) <|
 oq 60 (.mv (.s 0)) <|
 oq 61 (.cvi .u32 (.s 60)) <|
 oq 62 (.lit 2 [.int .u32 0] [(0, 1, (.k (.int .u32 5))), (1, 1, (.s 61))]) <|
 oq 63 (.mv (.s 0)) <|
 oq 64 (.bin .quo (.s 63) (.k (.int .i64 5))) <|
 oq 65 (.bin .rem (.s 64) (.k (.int .i64 30))) <|
 oq 66 (.un .neg (.s 65)) <|
 oq 67 (.call f_ref02_Make [.s 59, .s 62, .s 66]) <|
 oq 56 (.mv (.s 67)) <|
 oq 68 (.ext (.s 56) 0) <|
 oq 69 (.ext (.s 56) 1) <|
 oq 7 (.alloc [.bool false, (.sl .full 0 []), .int .i64 0]) <|
 oz (.store 3 (.s 7) (.s 68)) <|
 oq 8 (.mv (.s 69)) <|
 .nil) [2, 7])
 (.seq
 (.reg (oq 70 (.load true 3 (.s 7)) <|
 oz (.store 3 (.s 2) (.s 70)) <|
 .nil) [2])
 .ret))
 .skip))))))))))
 (.seq
 (.reg (oq 71 (.mv (.s 0)) <|
 oq 72 (.call f_ref02_Of [.s 71]) <|
 oz (.store 3 (.s 2) (.s 72)) <|
 .nil) [2])
 .ret)))
def p_law00_number : PFn := ⟨[.cell 2 true 3], q_law00_number⟩
def n_law00_number : Fn := ⟨1, [.cell 2 true 3], false, false, erase q_law00_number⟩
def q_ref05_Set : PC :=
 (.seq
 (.reg (.box 8 3 (.s 0) <|
 .box 8 5 (.s 2) <|
 oq 6 (.alloc zt8) <|
 .nil) [1, 3, 5, 6])
 (.seq
 (.reg (oq 12 (.build zt8 [(0, 1, (.k (.int .i64 7)))]) <|
 oq 7 (.alloc zt8) <|
 oz (.store 8 (.s 7) (.s 12)) <|
 .nil) [1, 3, 5, 6, 7])
 (.seq
 (.reg (oq 8 (.mv (.k (.bool false))) <|
 .nil) [1, 3, 5, 6, 7, 8])
 (.seq
 (.reg (oq 14 (.load true 8 (.s 3)) <|
 oq 15 (.mv (.s 1)) <|
 oq 16 (.call f_ref05_Member [.s 14, .s 15]) <|
 oq 13 (.mv (.s 16)) <|
 oq 17 (.ext (.s 13) 0) <|
 oq 18 (.ext (.s 13) 1) <|
 oq 9 (.alloc zt8) <|
 oz (.store 8 (.s 9) (.s 17)) <|
 oq 10 (.mv (.s 18)) <|
 .nil) [1, 3, 5, 6, 7, 8, 10])
 (.seq
 (.seq
 (.reg (oq 11 (.mv (.k (.int .i64 0))) <|
 .nil) [1, 3, 5, 6, 7, 8, 10, 11])
 (.blk 0
 (.loop ⟨[(1, .same), (3, .same), (5, .same), (6, .same), (7, .same), (8, .v), (10, .same), (11, .v)], [.same, .same, .same, (.cells [.v, .v, .v, (.own 1), .v, .v, (.own 1), (.own 8)]), .same]⟩ [(.ext 0, ⟨[(1, .same), (5, .same), (6, .same), (7, .same), (8, .v)], [.same, .same, .same, (.cells [.v, .v, .v, (.own 1), .v, .v, (.own 1), (.own 8)]), .same]⟩)]
 (.seq
 (.seq
 (.reg (oq 19 (.mv (.s 11)) <|
 oq 20 (.fad 6 (.s 3)) <|
 oq 21 (.load false 1 (.s 20)) <|
 oq 22 (.len (.s 21)) <|
 oq 23 (.bin .lss (.s 19) (.s 22)) <|
 oq 24 (.mv (.s 23)) <|
 .grp 24 true (oq 25 (.mv (.s 11)) <|
 oq 26 (.fad 7 (.s 3)) <|
 oq 27 (.load false 1 (.s 26)) <|
 oq 28 (.len (.s 27)) <|
 oq 29 (.bin .lss (.s 25) (.s 28)) <|
 .nil) 30 (.s 29) (.k (.bool false)) <|
 oq 31 (.mv (.s 30)) <|
 .grp 31 true (oq 32 (.fad 0 (.s 3)) <|
 oq 33 (.load false 1 (.s 32)) <|
 oq 34 (.bin .eql (.s 33) (.k (.int .i64 7))) <|
 .nil) 35 (.s 34) (.k (.bool false)) <|
 .nil) [1, 3, 5, 6, 7, 8, 10, 11, 35])
 (.cond (.s 35)
 .skip
 (.exit 0)))
 (.seq
 (.blk 1
 (.seq
 (.blk 2
 (.seq
 (.reg (oq 39 (.mv (.s 8)) <|
 oq 40 (.un .not (.s 39)) <|
 oq 41 (.mv (.s 40)) <|
 .grp 41 true (oq 42 (.fad 6 (.s 3)) <|
 oq 43 (.load false 1 (.s 42)) <|
 oq 44 (.mv (.s 11)) <|
 oq 45 (.iad 1 (.s 43) (.s 44)) <|
 oq 46 (.load false 1 (.s 45)) <|
 oq 47 (.mv (.s 1)) <|
 oq 48 (.bin .eql (.s 46) (.s 47)) <|
 .nil) 49 (.s 48) (.k (.bool false)) <|
 oq 38 (.mv (.s 49)) <|
 .nil) [1, 3, 5, 6, 7, 8, 10, 11, 38])
 (.cond (.s 38)
 (.seq
 (.drq (.nil)
 (oq 50 (.fad 6 (.s 7)) <|
 oq 51 (.load false 1 (.s 50)) <|
 oq 52 (.mv (.s 1)) <|
 oq 53 (.lit 1 [(.str [])] [(0, 1, (.s 52))]) <|
 oq 54 (.app 1 16 (.s 51) (.s 53)) <|
 oq 55 (.fad 7 (.s 7)) <|
 oq 56 (.load false 1 (.s 55)) <|
 oq 57 (.load true 8 (.s 5)) <|
 oq 58 (.lit 1 zt8 [(0, 8, (.s 57))]) <|
 oq 59 (.app 8 120 (.s 56) (.s 58)) <|
 oq 60 (.fad 6 (.s 7)) <|
 .nil)
 (oz (.store 1 (.s 60) (.s 54)) <|
 oq 61 (.fad 7 (.s 7)) <|
 oz (.store 1 (.s 61) (.s 59)) <|
 .nil) [1, 3, 5, 6, 7, 10, 11])
 (.seq
 (.reg (oq 8 (.mv (.k (.bool true))) <|
 .nil) [1, 3, 5, 6, 7, 8, 10, 11])
 (.exit 1)))
 (.seq
 (.reg (oq 63 (.mv (.s 8)) <|
 oq 64 (.un .not (.s 63)) <|
 oq 65 (.mv (.s 64)) <|
 .grp 65 true (oq 66 (.mv (.s 10)) <|
 oq 67 (.un .not (.s 66)) <|
 .nil) 68 (.s 67) (.k (.bool false)) <|
 oq 69 (.mv (.s 68)) <|
 .grp 69 true (oq 70 (.fad 6 (.s 3)) <|
 oq 71 (.load false 1 (.s 70)) <|
 oq 72 (.mv (.s 11)) <|
 oq 73 (.iad 1 (.s 71) (.s 72)) <|
 oq 74 (.load false 1 (.s 73)) <|
 oq 75 (.mv (.s 1)) <|
 oq 76 (.bin .gtr (.s 74) (.s 75)) <|
 .nil) 77 (.s 76) (.k (.bool false)) <|
 oq 62 (.mv (.s 77)) <|
 .nil) [1, 3, 5, 6, 7, 8, 10, 11, 62])
 (.cond (.s 62)
 (.seq
 (.drq (.nil)
 (oq 78 (.fad 6 (.s 7)) <|
 oq 79 (.load false 1 (.s 78)) <|
 oq 80 (.mv (.s 1)) <|
 oq 81 (.lit 1 [(.str [])] [(0, 1, (.s 80))]) <|
 oq 82 (.app 1 16 (.s 79) (.s 81)) <|
 oq 83 (.fad 7 (.s 7)) <|
 oq 84 (.load false 1 (.s 83)) <|
 oq 85 (.load true 8 (.s 5)) <|
 oq 86 (.lit 1 zt8 [(0, 8, (.s 85))]) <|
 oq 87 (.app 8 120 (.s 84) (.s 86)) <|
 oq 88 (.fad 6 (.s 7)) <|
 .nil)
 (oz (.store 1 (.s 88) (.s 82)) <|
 oq 89 (.fad 7 (.s 7)) <|
 oz (.store 1 (.s 89) (.s 87)) <|
 .nil) [1, 3, 5, 6, 7, 10, 11])
 (.reg (oq 8 (.mv (.k (.bool true))) <|
 .nil) [1, 3, 5, 6, 7, 8, 10, 11]))
 .skip)))))
 (.drq (.nil)
 (oq 90 (.fad 6 (.s 7)) <|
 oq 91 (.load false 1 (.s 90)) <|
 oq 92 (.fad 6 (.s 3)) <|
 oq 93 (.load false 1 (.s 92)) <|
 oq 94 (.mv (.s 11)) <|
 oq 95 (.iad 1 (.s 93) (.s 94)) <|
 oq 96 (.load false 1 (.s 95)) <|
 oq 97 (.lit 1 [(.str [])] [(0, 1, (.s 96))]) <|
 oq 98 (.app 1 16 (.s 91) (.s 97)) <|
 oq 99 (.fad 7 (.s 7)) <|
 oq 100 (.load false 1 (.s 99)) <|
 oq 101 (.fad 7 (.s 3)) <|
 oq 102 (.load false 1 (.s 101)) <|
 oq 103 (.mv (.s 11)) <|
 oq 104 (.iad 8 (.s 102) (.s 103)) <|
 oq 105 (.load true 8 (.s 104)) <|
 oq 106 (.lit 1 zt8 [(0, 8, (.s 105))]) <|
 oq 107 (.app 8 120 (.s 100) (.s 106)) <|
 oq 108 (.fad 6 (.s 7)) <|
 .nil)
 (oz (.store 1 (.s 108) (.s 98)) <|
 oq 109 (.fad 7 (.s 7)) <|
 oz (.store 1 (.s 109) (.s 107)) <|
 .nil) [1, 3, 5, 6, 7, 8, 10, 11])))
 (.reg (oq 36 (.mv (.s 11)) <|
 oq 37 (.bin .add (.s 36) (.k (.int .i64 1))) <|
 oq 11 (.mv (.s 37)) <|
 .nil) [1, 3, 5, 6, 7, 8, 10, 11]))))))
 (.seq
 (.seq
 (.reg (oq 110 (.mv (.s 8)) <|
 oq 111 (.un .not (.s 110)) <|
 .nil) [1, 5, 6, 7, 111])
 (.cond (.s 111)
 (.drq (.nil)
 (oq 112 (.fad 6 (.s 7)) <|
 oq 113 (.load false 1 (.s 112)) <|
 oq 114 (.mv (.s 1)) <|
 oq 115 (.lit 1 [(.str [])] [(0, 1, (.s 114))]) <|
 oq 116 (.app 1 16 (.s 113) (.s 115)) <|
 oq 117 (.fad 7 (.s 7)) <|
 oq 118 (.load false 1 (.s 117)) <|
 oq 119 (.load true 8 (.s 5)) <|
 oq 120 (.lit 1 zt8 [(0, 8, (.s 119))]) <|
 oq 121 (.app 8 120 (.s 118) (.s 120)) <|
 oq 122 (.fad 6 (.s 7)) <|
 .nil)
 (oz (.store 1 (.s 122) (.s 116)) <|
 oq 123 (.fad 7 (.s 7)) <|
 oz (.store 1 (.s 123) (.s 121)) <|
 .nil) [6, 7])
 .skip))
 (.seq
 (.reg (oq 124 (.load true 8 (.s 7)) <|
 oz (.store 8 (.s 6) (.s 124)) <|
 .nil) [6])
 .ret)))))))
def p_ref05_Set : PFn := ⟨[.cell 6 true 8], q_ref05_Set⟩
def n_ref05_Set : Fn := ⟨3, [.cell 6 true 8], false, false, erase q_ref05_Set⟩
def q_tree_cut : PC :=
 (.seq
 (.reg (.box 8 1 (.s 0) <|
 oq 2 (.mv (.k (.sl .full 0 []))) <|
 oq 3 (.mv (.k (.sl .full 0 []))) <|
 .nil) [1])
 (.seq
 (.seq
 (.reg (oq 5 (.fad 0 (.s 1)) <|
 oq 6 (.load false 1 (.s 5)) <|
 oq 7 (.bin .neq (.s 6) (.k (.int .i64 7))) <|
 .nil) [1, 7])
 (.cond (.s 7)
 (.seq
 (.reg (oq 2 (.mv (.k (.sl .full 0 []))) <|
 oq 3 (.mv (.k (.sl .full 0 []))) <|
 .nil) [2, 3])
 .ret)
 .skip))
 (.seq
 (.reg (oq 8 (.fad 6 (.s 1)) <|
 oq 9 (.load false 1 (.s 8)) <|
 oq 10 (.len (.s 9)) <|
 oq 11 (.fad 7 (.s 1)) <|
 oq 12 (.load false 1 (.s 11)) <|
 oq 13 (.len (.s 12)) <|
 oq 14 (.min [.s 10, .s 13]) <|
 oq 4 (.mv (.s 14)) <|
 .nil) [1, 4])
 (.seq
 (.drw (.nil)
 (oq 15 (.fad 6 (.s 1)) <|
 oq 16 (.load false 1 (.s 15)) <|
 oq 17 (.mv (.s 4)) <|
 oq 18 (.mv (.s 4)) <|
 oq 19 (.slc 1 (.s 16) none (some (.s 17)) (some (.s 18))) <|
 oq 20 (.fad 7 (.s 1)) <|
 oq 21 (.load false 1 (.s 20)) <|
 oq 22 (.mv (.s 4)) <|
 oq 23 (.mv (.s 4)) <|
 oq 24 (.slc 8 (.s 21) none (some (.s 22)) (some (.s 23))) <|
 oq 2 (.mv (.s 19)) <|
 .nil)
 (oq 3 (.mv (.s 24)) <|
 .nil) [2, 3])
 .ret))))
def p_tree_cut : PFn := ⟨[.tmp 2, .tmp 3], q_tree_cut⟩
def n_tree_cut : Fn := ⟨1, [.tmp 2, .tmp 3], false, false, erase q_tree_cut⟩
def q_slices_Index_string : PC :=
 (.seq
 (.reg (oq 4 (.mv (.k (.int .i64 0))) <|
 .nil) [0, 1])
 (.seq
 (.seq
 (.reg (oq 6 (.mv (.s 0)) <|
 oq 7 (.len (.s 6)) <|
 oq 8 (.mv (.k (.int .i64 0))) <|
 .nil) [0, 1, 7, 8])
 (.blk 0
 (.loop ⟨[(0, .same), (1, .same), (7, .same), (8, .v)], []⟩ [(.ext 0, ⟨[], []⟩), (.ret, ⟨[(4, .v)], []⟩)]
 (.seq
 (.reg (oq 9 (.bin .lss (.s 8) (.s 7)) <|
 .nil) [0, 1, 7, 8, 9])
 (.seq
 (.cond (.s 9)
 .skip
 (.exit 0))
 (.seq
 (.blk 1
 (.seq
 (.reg (oq 10 (.mv (.s 8)) <|
 oq 5 (.mv (.s 10)) <|
 .nil) [0, 1, 5, 7, 8])
 (.seq
 (.reg (oq 11 (.mv (.s 1)) <|
 oq 12 (.mv (.s 0)) <|
 oq 13 (.mv (.s 5)) <|
 oq 14 (.iad 1 (.s 12) (.s 13)) <|
 oq 15 (.load false 1 (.s 14)) <|
 oq 16 (.bin .eql (.s 11) (.s 15)) <|
 .nil) [0, 1, 5, 7, 8, 16])
 (.cond (.s 16)
 (.seq
 (.reg (oq 17 (.mv (.s 5)) <|
 oq 4 (.mv (.s 17)) <|
 .nil) [4])
 .ret)
 .skip))))
 (.reg (oq 18 (.bin .add (.s 8) (.k (.int .i64 1))) <|
 oq 8 (.mv (.s 18)) <|
 .nil) [0, 1, 7, 8])))))))
 (.seq
 (.reg (oq 4 (.mv (.k (.int .i64 (-1)))) <|
 .nil) [4])
 .ret)))
def p_slices_Index_string : PFn := ⟨[.tmp 4], q_slices_Index_string⟩
def n_slices_Index_string : Fn := ⟨2, [.tmp 4], false, false, erase q_slices_Index_string⟩
def q_slices_Concat_string : PC :=
 (.seq
 (.reg (oq 2 (.mv (.k (.sl .full 0 []))) <|
 .nil) [0])
 (.seq
 (.reg (oq 3 (.mv (.k (.int .i64 0))) <|
 .nil) [0, 3])
 (.seq
 (.seq
 (.reg (oq 9 (.mv (.s 0)) <|
 oq 10 (.len (.s 9)) <|
 oq 11 (.mv (.k (.int .i64 0))) <|
 .nil) [0, 3, 9, 10, 11])
 (.blk 0
 (.loop ⟨[(0, .same), (3, .v), (9, .same), (10, .same), (11, .v)], []⟩ [(.ext 0, ⟨[(0, .same), (3, .v)], []⟩)]
 (.seq
 (.reg (oq 12 (.bin .lss (.s 11) (.s 10)) <|
 .nil) [0, 3, 9, 10, 11, 12])
 (.seq
 (.cond (.s 12)
 .skip
 (.exit 0))
 (.seq
 (.blk 1
 (.seq
 (.reg (oq 13 (.iad 1 (.s 9) (.s 11)) <|
 oq 14 (.load false 1 (.s 13)) <|
 oq 5 (.mv (.s 14)) <|
 .nil) [0, 3, 5, 9, 10, 11])
 (.seq
 (.reg (oq 15 (.mv (.s 3)) <|
 oq 16 (.mv (.s 5)) <|
 oq 17 (.len (.s 16)) <|
 oq 18 (.bin .add (.s 15) (.s 17)) <|
 oq 3 (.mv (.s 18)) <|
 .nil) [0, 3, 9, 10, 11])
 (.seq
 (.reg (oq 19 (.mv (.s 3)) <|
 oq 20 (.bin .lss (.s 19) (.k (.int .i64 0))) <|
 .nil) [0, 3, 9, 10, 11, 20])
 (.cond (.s 20)
 (.reg (oq 21 (.ifc 9 (.k (.str [108, 101, 110, 32, 111, 117, 116, 32, 111, 102, 32, 114, 97, 110, 103, 101]))) <|
 oz (.pan (.s 21)) <|
 .nil) [0, 3, 9, 10, 11])
 .skip)))))
 (.reg (oq 22 (.bin .add (.s 11) (.k (.int .i64 1))) <|
 oq 11 (.mv (.s 22)) <|
 .nil) [0, 3, 9, 10, 11])))))))
 (.seq
 (.reg (oq 23 (.mv (.s 3)) <|
 oq 24 (.call f_slices_Grow_string [(.k (.sl .full 0 [])), .s 23]) <|
 oq 6 (.mv (.s 24)) <|
 .nil) [0, 6])
 (.seq
 (.seq
 (.reg (oq 25 (.mv (.s 0)) <|
 oq 26 (.len (.s 25)) <|
 oq 27 (.mv (.k (.int .i64 0))) <|
 .nil) [6, 25, 26, 27])
 (.blk 2
 (.loop ⟨[(6, (.own 1)), (25, .same), (26, .same), (27, .v)], []⟩ [(.ext 2, ⟨[(6, (.own 1))], []⟩)]
 (.seq
 (.reg (oq 28 (.bin .lss (.s 27) (.s 26)) <|
 .nil) [6, 25, 26, 27, 28])
 (.seq
 (.cond (.s 28)
 .skip
 (.exit 2))
 (.seq
 (.blk 3
 (.seq
 (.reg (oq 29 (.iad 1 (.s 25) (.s 27)) <|
 oq 30 (.load false 1 (.s 29)) <|
 oq 8 (.mv (.s 30)) <|
 .nil) [6, 8, 25, 26, 27])
 (.reg (oq 31 (.mv (.s 6)) <|
 oq 32 (.mv (.s 8)) <|
 oq 33 (.app 1 16 (.s 31) (.s 32)) <|
 oq 6 (.mv (.s 33)) <|
 .nil) [6, 25, 26, 27])))
 (.reg (oq 34 (.bin .add (.s 27) (.k (.int .i64 1))) <|
 oq 27 (.mv (.s 34)) <|
 .nil) [6, 25, 26, 27])))))))
 (.seq
 (.reg (oq 35 (.mv (.s 6)) <|
 oq 2 (.mv (.s 35)) <|
 .nil) [2])
 .ret))))))
def p_slices_Concat_string : PFn := ⟨[.tmp 2], q_slices_Concat_string⟩
def n_slices_Concat_string : Fn := ⟨1, [.tmp 2], false, false, erase q_slices_Concat_string⟩
def q_slices_Concat_erratum_api_Tree : PC :=
 (.seq
 (.reg (oq 2 (.mv (.k (.sl .full 0 []))) <|
 .nil) [0])
 (.seq
 (.reg (oq 3 (.mv (.k (.int .i64 0))) <|
 .nil) [0, 3])
 (.seq
 (.seq
 (.reg (oq 9 (.mv (.s 0)) <|
 oq 10 (.len (.s 9)) <|
 oq 11 (.mv (.k (.int .i64 0))) <|
 .nil) [0, 3, 9, 10, 11])
 (.blk 0
 (.loop ⟨[(0, .same), (3, .v), (9, .same), (10, .same), (11, .v)], []⟩ [(.ext 0, ⟨[(0, .same), (3, .v)], []⟩)]
 (.seq
 (.reg (oq 12 (.bin .lss (.s 11) (.s 10)) <|
 .nil) [0, 3, 9, 10, 11, 12])
 (.seq
 (.cond (.s 12)
 .skip
 (.exit 0))
 (.seq
 (.blk 1
 (.seq
 (.reg (oq 13 (.iad 1 (.s 9) (.s 11)) <|
 oq 14 (.load false 1 (.s 13)) <|
 oq 5 (.mv (.s 14)) <|
 .nil) [0, 3, 5, 9, 10, 11])
 (.seq
 (.reg (oq 15 (.mv (.s 3)) <|
 oq 16 (.mv (.s 5)) <|
 oq 17 (.len (.s 16)) <|
 oq 18 (.bin .add (.s 15) (.s 17)) <|
 oq 3 (.mv (.s 18)) <|
 .nil) [0, 3, 9, 10, 11])
 (.seq
 (.reg (oq 19 (.mv (.s 3)) <|
 oq 20 (.bin .lss (.s 19) (.k (.int .i64 0))) <|
 .nil) [0, 3, 9, 10, 11, 20])
 (.cond (.s 20)
 (.reg (oq 21 (.ifc 9 (.k (.str [108, 101, 110, 32, 111, 117, 116, 32, 111, 102, 32, 114, 97, 110, 103, 101]))) <|
 oz (.pan (.s 21)) <|
 .nil) [0, 3, 9, 10, 11])
 .skip)))))
 (.reg (oq 22 (.bin .add (.s 11) (.k (.int .i64 1))) <|
 oq 11 (.mv (.s 22)) <|
 .nil) [0, 3, 9, 10, 11])))))))
 (.seq
 (.reg (oq 23 (.mv (.s 3)) <|
 oq 24 (.call f_slices_Grow_erratum_api_Tree [(.k (.sl .full 0 [])), .s 23]) <|
 oq 6 (.mv (.s 24)) <|
 .nil) [0, 6])
 (.seq
 (.seq
 (.reg (oq 25 (.mv (.s 0)) <|
 oq 26 (.len (.s 25)) <|
 oq 27 (.mv (.k (.int .i64 0))) <|
 .nil) [6, 25, 26, 27])
 (.blk 2
 (.loop ⟨[(6, (.own 8)), (25, .same), (26, .same), (27, .v)], []⟩ [(.ext 2, ⟨[(6, (.own 8))], []⟩)]
 (.seq
 (.reg (oq 28 (.bin .lss (.s 27) (.s 26)) <|
 .nil) [6, 25, 26, 27, 28])
 (.seq
 (.cond (.s 28)
 .skip
 (.exit 2))
 (.seq
 (.blk 3
 (.seq
 (.reg (oq 29 (.iad 1 (.s 25) (.s 27)) <|
 oq 30 (.load false 1 (.s 29)) <|
 oq 8 (.mv (.s 30)) <|
 .nil) [6, 8, 25, 26, 27])
 (.reg (oq 31 (.mv (.s 6)) <|
 oq 32 (.mv (.s 8)) <|
 oq 33 (.app 8 120 (.s 31) (.s 32)) <|
 oq 6 (.mv (.s 33)) <|
 .nil) [6, 25, 26, 27])))
 (.reg (oq 34 (.bin .add (.s 27) (.k (.int .i64 1))) <|
 oq 27 (.mv (.s 34)) <|
 .nil) [6, 25, 26, 27])))))))
 (.seq
 (.reg (oq 35 (.mv (.s 6)) <|
 oq 2 (.mv (.s 35)) <|
 .nil) [2])
 .ret))))))
def p_slices_Concat_erratum_api_Tree : PFn := ⟨[.tmp 2], q_slices_Concat_erratum_api_Tree⟩
def n_slices_Concat_erratum_api_Tree : Fn := ⟨1, [.tmp 2], false, false, erase q_slices_Concat_erratum_api_Tree⟩
def q_slices_IndexFunc_string : PC :=
 (.seq
 (.reg (oq 4 (.mv (.k (.int .i64 0))) <|
 .nil) [0, 1])
 (.seq
 (.seq
 (.reg (oq 6 (.mv (.s 0)) <|
 oq 7 (.len (.s 6)) <|
 oq 8 (.mv (.k (.int .i64 0))) <|
 .nil) [0, 1, 7, 8])
 (.blk 0
 (.loop ⟨[(0, .same), (1, .same), (7, .same), (8, .v)], [.same]⟩ [(.ext 0, ⟨[], [.same]⟩), (.ret, ⟨[(4, .v)], [.same]⟩)]
 (.seq
 (.reg (oq 9 (.bin .lss (.s 8) (.s 7)) <|
 .nil) [0, 1, 7, 8, 9])
 (.seq
 (.cond (.s 9)
 .skip
 (.exit 0))
 (.seq
 (.blk 1
 (.seq
 (.reg (oq 10 (.mv (.s 8)) <|
 oq 5 (.mv (.s 10)) <|
 .nil) [0, 1, 5, 7, 8])
 (.seq
 (.reg (oq 11 (.mv (.s 1)) <|
 oq 12 (.mv (.s 0)) <|
 oq 13 (.mv (.s 5)) <|
 oq 14 (.iad 1 (.s 12) (.s 13)) <|
 oq 15 (.load false 1 (.s 14)) <|
 oq 16 (.callv (.s 11) [.s 15]) <|
 .nil) [0, 1, 5, 7, 8, 16])
 (.cond (.s 16)
 (.seq
 (.reg (oq 17 (.mv (.s 5)) <|
 oq 4 (.mv (.s 17)) <|
 .nil) [4])
 .ret)
 .skip))))
 (.reg (oq 18 (.bin .add (.s 8) (.k (.int .i64 1))) <|
 oq 8 (.mv (.s 18)) <|
 .nil) [0, 1, 7, 8])))))))
 (.seq
 (.reg (oq 4 (.mv (.k (.int .i64 (-1)))) <|
 .nil) [4])
 .ret)))
def p_slices_IndexFunc_string : PFn := ⟨[.tmp 4], q_slices_IndexFunc_string⟩
def n_slices_IndexFunc_string : Fn := ⟨2, [.tmp 4], false, false, erase q_slices_IndexFunc_string⟩
def q_tree_Set_1 : PC :=
 (.seq
 (.reg (oq 3 (.mv (.k (.bool false))) <|
 .nil) [0, 1])
 (.seq
 (.reg (oq 4 (.mv (.s 0)) <|
 oq 5 (.load false 1 (.s 1)) <|
 oq 6 (.bin .gtr (.s 4) (.s 5)) <|
 oq 3 (.mv (.s 6)) <|
 .nil) [3])
 .ret))
def p_tree_Set_1 : PFn := ⟨[.tmp 3], q_tree_Set_1⟩
def n_tree_Set_1 : Fn := ⟨1, [.tmp 3], false, false, erase q_tree_Set_1⟩
def q_ref02_Is : PC :=
 (.seq
 (.reg (.box 3 1 (.s 0) <|
 oq 2 (.alloc [.bool false, (.sl .full 0 []), .int .i64 0]) <|
 .nil) [1, 2])
 (.seq
 (.seq
 (.reg (oq 3 (.load true 3 (.s 1)) <|
 oq 4 (.call f_ref02_Check [.s 3]) <|
 .nil) [1, 2, 4])
 (.cond (.s 4)
 (.seq
 (.reg (oq 5 (.load true 3 (.s 1)) <|
 oz (.store 3 (.s 2) (.s 5)) <|
 .nil) [2])
 .ret)
 .skip))
 (.seq
 (.reg (oq 6 (.build [.bool false, (.sl .full 0 []), .int .i64 0] []) <|
 oz (.store 3 (.s 2) (.s 6)) <|
 .nil) [2])
 .ret)))
def p_ref02_Is : PFn := ⟨[.cell 2 true 3], q_ref02_Is⟩
def n_ref02_Is : Fn := ⟨1, [.cell 2 true 3], false, false, erase q_ref02_Is⟩
def q_ref01_Cmp : PC :=
 (.seq
 (.reg (oq 4 (.mv (.k (.int .i64 0))) <|
 .nil) [0, 1])
 (.seq
 (.seq
 (.reg (oq 6 (.mv (.s 0)) <|
 oq 7 (.len (.s 6)) <|
 oq 8 (.mv (.s 1)) <|
 oq 9 (.len (.s 8)) <|
 oq 10 (.max [.s 7, .s 9]) <|
 oq 11 (.bin .sub (.s 10) (.k (.int .i64 1))) <|
 oq 5 (.mv (.s 11)) <|
 .nil) [0, 1, 5])
 (.blk 0
 (.loop ⟨[(0, .same), (1, .same), (5, .v)], []⟩ [(.ext 0, ⟨[], []⟩), (.ret, ⟨[(4, .v)], []⟩)]
 (.seq
 (.seq
 (.reg (oq 12 (.mv (.s 5)) <|
 oq 13 (.bin .geq (.s 12) (.k (.int .i64 0))) <|
 .nil) [0, 1, 5, 13])
 (.cond (.s 13)
 .skip
 (.exit 0)))
 (.seq
 (.blk 1
 (.seq
 (.seq
 (.reg (oq 16 (.mv (.s 0)) <|
 oq 17 (.mv (.s 5)) <|
 oq 18 (.call f_ref01_limb [.s 16, .s 17]) <|
 oq 19 (.mv (.s 1)) <|
 oq 20 (.mv (.s 5)) <|
 oq 21 (.call f_ref01_limb [.s 19, .s 20]) <|
 oq 22 (.bin .lss (.s 18) (.s 21)) <|
 .nil) [0, 1, 5, 22])
 (.cond (.s 22)
 (.seq
 (.reg (oq 4 (.mv (.k (.int .i64 (-1)))) <|
 .nil) [4])
 .ret)
 .skip))
 (.seq
 (.reg (oq 23 (.mv (.s 0)) <|
 oq 24 (.mv (.s 5)) <|
 oq 25 (.call f_ref01_limb [.s 23, .s 24]) <|
 oq 26 (.mv (.s 1)) <|
 oq 27 (.mv (.s 5)) <|
 oq 28 (.call f_ref01_limb [.s 26, .s 27]) <|
 oq 29 (.bin .gtr (.s 25) (.s 28)) <|
 .nil) [0, 1, 5, 29])
 (.cond (.s 29)
 (.seq
 (.reg (oq 4 (.mv (.k (.int .i64 1))) <|
 .nil) [4])
 .ret)
 .skip))))
 (.reg (oq 14 (.mv (.s 5)) <|
 oq 15 (.bin .sub (.s 14) (.k (.int .i64 1))) <|
 oq 5 (.mv (.s 15)) <|
 .nil) [0, 1, 5]))))))
 (.seq
 (.reg (oq 4 (.mv (.k (.int .i64 0))) <|
 .nil) [4])
 .ret)))
def p_ref01_Cmp : PFn := ⟨[.tmp 4], q_ref01_Cmp⟩
def n_ref01_Cmp : Fn := ⟨2, [.tmp 4], false, false, erase q_ref01_Cmp⟩
def q_slices_IndexFunc_erratum_api_Tree : PC :=
 (.seq
 (.reg (oq 4 (.mv (.k (.int .i64 0))) <|
 .nil) [0, 1])
 (.seq
 (.seq
 (.reg (oq 6 (.mv (.s 0)) <|
 oq 7 (.len (.s 6)) <|
 oq 8 (.mv (.k (.int .i64 0))) <|
 .nil) [0, 1, 7, 8])
 (.blk 0
 (.loop ⟨[(0, .same), (1, .same), (7, .same), (8, .v)], []⟩ [(.ext 0, ⟨[], []⟩), (.ret, ⟨[(4, .v)], []⟩)]
 (.seq
 (.reg (oq 9 (.bin .lss (.s 8) (.s 7)) <|
 .nil) [0, 1, 7, 8, 9])
 (.seq
 (.cond (.s 9)
 .skip
 (.exit 0))
 (.seq
 (.blk 1
 (.seq
 (.reg (oq 10 (.mv (.s 8)) <|
 oq 5 (.mv (.s 10)) <|
 .nil) [0, 1, 5, 7, 8])
 (.seq
 (.reg (oq 11 (.mv (.s 1)) <|
 oq 12 (.mv (.s 0)) <|
 oq 13 (.mv (.s 5)) <|
 oq 14 (.iad 8 (.s 12) (.s 13)) <|
 oq 15 (.load true 8 (.s 14)) <|
 oq 16 (.callv (.s 11) [.s 15]) <|
 .nil) [0, 1, 5, 7, 8, 16])
 (.cond (.s 16)
 (.seq
 (.reg (oq 17 (.mv (.s 5)) <|
 oq 4 (.mv (.s 17)) <|
 .nil) [4])
 .ret)
 .skip))))
 (.reg (oq 18 (.bin .add (.s 8) (.k (.int .i64 1))) <|
 oq 8 (.mv (.s 18)) <|
 .nil) [0, 1, 7, 8])))))))
 (.seq
 (.reg (oq 4 (.mv (.k (.int .i64 (-1)))) <|
 .nil) [4])
 .ret)))
def p_slices_IndexFunc_erratum_api_Tree : PFn := ⟨[.tmp 4], q_slices_IndexFunc_erratum_api_Tree⟩
def n_slices_IndexFunc_erratum_api_Tree : Fn := ⟨2, [.tmp 4], false, false, erase q_slices_IndexFunc_erratum_api_Tree⟩
def q_ref02_Of : PC :=
 (.seq
 (.reg (oq 2 (.alloc [.bool false, (.sl .full 0 []), .int .i64 0]) <|
 .nil) [0, 2])
 (.seq
 (.reg (oq 6 (.mv (.s 0)) <|
 oq 7 (.cvi .u64 (.s 6)) <|
 oq 3 (.mv (.s 7)) <|
 .nil) [0, 2, 3])
 (.seq
 (.cut ⟨[(0, .same), (2, .same), (3, .v)], [.same]⟩ [(.nrm, ⟨[(0, .same), (2, .same), (3, .v)], [.same]⟩)]
 (.seq
 (.reg (oq 8 (.mv (.s 0)) <|
 oq 9 (.bin .lss (.s 8) (.k (.int .i64 0))) <|
 .nil) [0, 2, 3, 9])
 (.cond (.s 9)
 (.reg (oq 10 (.mv (.s 3)) <|
 oq 11 (.un .neg (.s 10)) <|
 oq 3 (.mv (.s 11)) <|
 .nil) [0, 2, 3])
 .skip)))
 (.seq
 (.reg (oq 13 (.mv (.s 0)) <|
 oq 14 (.bin .lss (.s 13) (.k (.int .i64 0))) <|
 oq 15 (.mv (.s 3)) <|
 oq 16 (.cvi .u32 (.s 15)) <|
 oq 17 (.mv (.s 3)) <|
 oq 18 (.bin .shr (.s 17) (.k (.int .u64 32))) <|
 oq 19 (.cvi .u32 (.s 18)) <|
 oq 20 (.lit 2 [.int .u32 0] [(0, 1, (.s 16)), (1, 1, (.s 19))]) <|
 oq 21 (.call f_ref02_Make [.s 14, .s 20, (.k (.int .i64 0))]) <|
 oq 12 (.mv (.s 21)) <|
 oq 22 (.ext (.s 12) 0) <|
 oq 23 (.ext (.s 12) 1) <|
 oq 4 (.alloc [.bool false, (.sl .full 0 []), .int .i64 0]) <|
 oz (.store 3 (.s 4) (.s 22)) <|
 oq 5 (.mv (.s 23)) <|
 .nil) [2, 4])
 (.seq
 (.reg (oq 24 (.load true 3 (.s 4)) <|
 oz (.store 3 (.s 2) (.s 24)) <|
 .nil) [2])
 .ret)))))
def p_ref02_Of : PFn := ⟨[.cell 2 true 3], q_ref02_Of⟩
def n_ref02_Of : Fn := ⟨1, [.cell 2 true 3], false, false, erase q_ref02_Of⟩
def q_ref02_Make : PC :=
 (.seq
 (.reg (oq 6 (.alloc [.bool false, (.sl .full 0 []), .int .i64 0]) <|
 oq 7 (.mv (.k (.bool false))) <|
 .nil) [0, 1, 2, 6])
 (.seq
 (.reg (oq 11 (.mv (.s 1)) <|
 oq 12 (.call f_ref01_Trim [.s 11]) <|
 oq 10 (.mv (.s 12)) <|
 oq 13 (.ext (.s 10) 0) <|
 oq 14 (.ext (.s 10) 1) <|
 oq 8 (.mv (.s 13)) <|
 oq 9 (.mv (.s 14)) <|
 .nil) [0, 2, 6, 8, 9])
 (.seq
 (.seq
 (.reg (oq 15 (.mv (.s 8)) <|
 oq 16 (.len (.s 15)) <|
 oq 17 (.bin .eql (.s 16) (.k (.int .i64 0))) <|
 .nil) [0, 2, 6, 8, 9, 17])
 (.cond (.s 17)
 (.seq
 (.reg (oq 18 (.build [.bool false, (.sl .full 0 []), .int .i64 0] []) <|
 oz (.store 3 (.s 6) (.s 18)) <|
 oq 7 (.mv (.k (.bool true))) <|
 .nil) [6, 7])
 .ret)
 .skip))
 (.seq
 (.seq
 (.reg (oq 19 (.mv (.s 8)) <|
 oq 20 (.len (.s 19)) <|
 oq 21 (.bin .gtr (.s 20) (.k (.int .i64 90))) <|
 oq 22 (.mv (.s 21)) <|
 .grp 22 false (oq 23 (.mv (.s 2)) <|
 oq 24 (.bin .lss (.s 23) (.k (.int .i64 (-1099511627776)))) <|
 .nil) 25 (.s 24) (.k (.bool true)) <|
 oq 26 (.mv (.s 25)) <|
 .grp 26 false (oq 27 (.mv (.s 2)) <|
 oq 28 (.bin .gtr (.s 27) (.k (.int .i64 1099511627776))) <|
 .nil) 29 (.s 28) (.k (.bool true)) <|
 oq 30 (.mv (.s 29)) <|
 .grp 30 false (oq 31 (.mv (.s 9)) <|
 oq 32 (.bin .gtr (.s 31) (.k (.int .i64 1099511627776))) <|
 .nil) 33 (.s 32) (.k (.bool true)) <|
 oq 34 (.mv (.s 33)) <|
 .grp 34 false (oq 35 (.mv (.s 2)) <|
 oq 36 (.mv (.s 9)) <|
 oq 37 (.bin .add (.s 35) (.s 36)) <|
 oq 38 (.bin .lss (.s 37) (.k (.int .i64 (-1200)))) <|
 .nil) 39 (.s 38) (.k (.bool true)) <|
 oq 40 (.mv (.s 39)) <|
 .grp 40 false (oq 41 (.mv (.s 2)) <|
 oq 42 (.mv (.s 9)) <|
 oq 43 (.bin .add (.s 41) (.s 42)) <|
 oq 44 (.bin .gtr (.s 43) (.k (.int .i64 1200))) <|
 .nil) 45 (.s 44) (.k (.bool true)) <|
 .nil) [0, 2, 6, 8, 9, 45])
 (.cond (.s 45)
 (.seq
 (.reg (oq 46 (.build [.bool false, (.sl .full 0 []), .int .i64 0] []) <|
 oz (.store 3 (.s 6) (.s 46)) <|
 oq 7 (.mv (.k (.bool false))) <|
 .nil) [6, 7])
 .ret)
 .skip))
 (.seq
 (.reg (oq 47 (.mv (.s 0)) <|
 oq 48 (.mv (.s 8)) <|
 oq 49 (.mv (.s 2)) <|
 oq 50 (.mv (.s 9)) <|
 oq 51 (.bin .add (.s 49) (.s 50)) <|
 oq 52 (.build [.bool false, (.sl .full 0 []), .int .i64 0] [(0, 1, (.s 47)), (1, 1, (.s 48)), (2, 1, (.s 51))]) <|
 oz (.store 3 (.s 6) (.s 52)) <|
 oq 7 (.mv (.k (.bool true))) <|
 .nil) [6, 7])
 .ret)))))
def p_ref02_Make : PFn := ⟨[.cell 6 true 3, .tmp 7], q_ref02_Make⟩
def n_ref02_Make : Fn := ⟨3, [.cell 6 true 3, .tmp 7], false, false, erase q_ref02_Make⟩
def q_ref02_Check : PC :=
 (.seq
 (.reg (.box 3 1 (.s 0) <|
 oq 2 (.mv (.k (.bool false))) <|
 .nil) [1])
 (.seq
 (.reg (oq 6 (.fad 1 (.s 1)) <|
 oq 7 (.load false 1 (.s 6)) <|
 oq 8 (.len (.s 7)) <|
 oq 3 (.mv (.s 8)) <|
 .nil) [1, 3])
 (.seq
 (.seq
 (.reg (oq 9 (.mv (.s 3)) <|
 oq 10 (.bin .eql (.s 9) (.k (.int .i64 0))) <|
 .nil) [1, 3, 10])
 (.cond (.s 10)
 (.seq
 (.reg (oq 11 (.fad 0 (.s 1)) <|
 oq 12 (.load false 1 (.s 11)) <|
 oq 13 (.un .not (.s 12)) <|
 oq 14 (.mv (.s 13)) <|
 .grp 14 true (oq 15 (.fad 2 (.s 1)) <|
 oq 16 (.load false 1 (.s 15)) <|
 oq 17 (.bin .eql (.s 16) (.k (.int .i64 0))) <|
 .nil) 18 (.s 17) (.k (.bool false)) <|
 oq 2 (.mv (.s 18)) <|
 .nil) [2])
 .ret)
 .skip))
 (.seq
 (.seq
 (.reg (oq 19 (.mv (.s 3)) <|
 oq 20 (.bin .gtr (.s 19) (.k (.int .i64 90))) <|
 oq 21 (.mv (.s 20)) <|
 .grp 21 false (oq 22 (.fad 1 (.s 1)) <|
 oq 23 (.load false 1 (.s 22)) <|
 oq 24 (.mv (.s 3)) <|
 oq 25 (.bin .sub (.s 24) (.k (.int .i64 1))) <|
 oq 26 (.iad 1 (.s 23) (.s 25)) <|
 oq 27 (.load false 1 (.s 26)) <|
 oq 28 (.bin .eql (.s 27) (.k (.int .u32 0))) <|
 .nil) 29 (.s 28) (.k (.bool true)) <|
 oq 30 (.mv (.s 29)) <|
 .grp 30 false (oq 31 (.fad 2 (.s 1)) <|
 oq 32 (.load false 1 (.s 31)) <|
 oq 33 (.bin .lss (.s 32) (.k (.int .i64 (-1200)))) <|
 .nil) 34 (.s 33) (.k (.bool true)) <|
 oq 35 (.mv (.s 34)) <|
 .grp 35 false (oq 36 (.fad 2 (.s 1)) <|
 oq 37 (.load false 1 (.s 36)) <|
 oq 38 (.bin .gtr (.s 37) (.k (.int .i64 1200))) <|
 .nil) 39 (.s 38) (.k (.bool true)) <|
 .nil) [1, 39])
 (.cond (.s 39)
 (.seq
 (.reg (oq 2 (.mv (.k (.bool false))) <|
 .nil) [2])
 .ret)
 .skip))
 (.seq
 (.reg (oq 41 (.fad 1 (.s 1)) <|
 oq 42 (.load false 1 (.s 41)) <|
 oq 43 (.call f_ref01_Small [.s 42, (.k (.int .u32 10))]) <|
 oq 40 (.mv (.s 43)) <|
 oq 44 (.ext (.s 40) 0) <|
 oq 45 (.ext (.s 40) 1) <|
 oq 4 (.mv (.s 44)) <|
 oq 5 (.mv (.s 45)) <|
 .nil) [5])
 (.seq
 (.reg (oq 46 (.mv (.s 5)) <|
 oq 47 (.bin .neq (.s 46) (.k (.int .u32 0))) <|
 oq 2 (.mv (.s 47)) <|
 .nil) [2])
 .ret))))))
def p_ref02_Check : PFn := ⟨[.tmp 2], q_ref02_Check⟩
def n_ref02_Check : Fn := ⟨1, [.tmp 2], false, false, erase q_ref02_Check⟩
def q_ref01_limb : PC :=
 (.seq
 (.reg (oq 4 (.mv (.k (.int .u64 0))) <|
 .nil) [0, 1])
 (.seq
 (.seq
 (.reg (oq 5 (.mv (.s 1)) <|
 oq 6 (.mv (.s 0)) <|
 oq 7 (.len (.s 6)) <|
 oq 8 (.bin .lss (.s 5) (.s 7)) <|
 .nil) [0, 1, 8])
 (.cond (.s 8)
 (.seq
 (.reg (oq 9 (.mv (.s 0)) <|
 oq 10 (.mv (.s 1)) <|
 oq 11 (.iad 1 (.s 9) (.s 10)) <|
 oq 12 (.load false 1 (.s 11)) <|
 oq 13 (.cvi .u64 (.s 12)) <|
 oq 4 (.mv (.s 13)) <|
 .nil) [4])
 .ret)
 .skip))
 (.seq
 (.reg (oq 4 (.mv (.k (.int .u64 0))) <|
 .nil) [4])
 .ret)))
def p_ref01_limb : PFn := ⟨[.tmp 4], q_ref01_limb⟩
def n_ref01_limb : Fn := ⟨2, [.tmp 4], false, false, erase q_ref01_limb⟩
def q_ref01_Trim : PC :=
 (.seq
 (.reg (oq 2 (.mv (.k (.sl .full 0 []))) <|
 oq 3 (.mv (.k (.int .i64 0))) <|
 .nil) [0])
 (.seq
 (.reg (oq 8 (.mv (.s 0)) <|
 oq 9 (.call f_ref01_Norm [.s 8]) <|
 oq 4 (.mv (.s 9)) <|
 .nil) [4])
 (.seq
 (.reg (oq 5 (.mv (.k (.int .i64 0))) <|
 .nil) [4, 5])
 (.seq
 (.blk 0
 (.loop ⟨[(4, .v), (5, .v)], []⟩ [(.ext 0, ⟨[(4, .v), (5, .v)], []⟩)]
 (.seq
 (.seq
 (.reg (oq 10 (.mv (.s 4)) <|
 oq 11 (.len (.s 10)) <|
 oq 12 (.bin .gtr (.s 11) (.k (.int .i64 0))) <|
 .nil) [4, 5, 12])
 (.cond (.s 12)
 .skip
 (.exit 0)))
 (.blk 1
 (.seq
 (.reg (oq 14 (.mv (.s 4)) <|
 oq 15 (.call f_ref01_Small [.s 14, (.k (.int .u32 10))]) <|
 oq 13 (.mv (.s 15)) <|
 oq 16 (.ext (.s 13) 0) <|
 oq 17 (.ext (.s 13) 1) <|
 oq 6 (.mv (.s 16)) <|
 oq 7 (.mv (.s 17)) <|
 .nil) [4, 5, 6, 7])
 (.seq
 (.seq
 (.reg (oq 18 (.mv (.s 7)) <|
 oq 19 (.bin .neq (.s 18) (.k (.int .u32 0))) <|
 .nil) [4, 5, 6, 19])
 (.cond (.s 19)
 (.exit 0)
 .skip))
 (.seq
 (.reg (oq 20 (.mv (.s 6)) <|
 oq 4 (.mv (.s 20)) <|
 .nil) [4, 5])
 (.reg (oq 21 (.mv (.s 5)) <|
 oq 22 (.bin .add (.s 21) (.k (.int .i64 1))) <|
 oq 5 (.mv (.s 22)) <|
 .nil) [4, 5]))))))))
 (.seq
 (.reg (oq 23 (.mv (.s 4)) <|
 oq 24 (.mv (.s 5)) <|
 oq 2 (.mv (.s 23)) <|
 oq 3 (.mv (.s 24)) <|
 .nil) [2, 3])
 .ret)))))
def p_ref01_Trim : PFn := ⟨[.tmp 2, .tmp 3], q_ref01_Trim⟩
def n_ref01_Trim : Fn := ⟨1, [.tmp 2, .tmp 3], false, false, erase q_ref01_Trim⟩
def q_ref01_Small : PC :=
 (.seq
 (.reg (oq 4 (.mv (.k (.sl .full 0 []))) <|
 oq 5 (.mv (.k (.int .u32 0))) <|
 .nil) [0, 1])
 (.seq
 (.reg (oq 9 (.mv (.s 0)) <|
 oq 10 (.len (.s 9)) <|
 oq 11 (.mks [.int .u32 0] 4 (.s 10) (.s 10)) <|
 oq 6 (.mv (.s 11)) <|
 .nil) [0, 1, 6])
 (.seq
 (.reg (oq 7 (.mv (.k (.int .u64 0))) <|
 .nil) [0, 1, 6, 7])
 (.seq
 (.seq
 (.reg (oq 12 (.mv (.s 0)) <|
 oq 13 (.len (.s 12)) <|
 oq 14 (.bin .sub (.s 13) (.k (.int .i64 1))) <|
 oq 8 (.mv (.s 14)) <|
 .nil) [0, 1, 6, 7, 8])
 (.blk 0
 (.loop ⟨[(0, .same), (1, .same), (6, .same), (7, .v), (8, .v)], [(.arr .no 1)]⟩ [(.ext 0, ⟨[(6, .same), (7, .v)], [(.arr .no 1)]⟩)]
 (.seq
 (.seq
 (.reg (oq 15 (.mv (.s 8)) <|
 oq 16 (.bin .geq (.s 15) (.k (.int .i64 0))) <|
 .nil) [0, 1, 6, 7, 8, 16])
 (.cond (.s 16)
 .skip
 (.exit 0)))
 (.seq
 (.blk 1
 (.seq
 (.reg (oq 19 (.mv (.s 7)) <|
 oq 20 (.bin .shl (.s 19) (.k (.int .u64 32))) <|
 oq 21 (.mv (.s 0)) <|
 oq 22 (.mv (.s 8)) <|
 oq 23 (.iad 1 (.s 21) (.s 22)) <|
 oq 24 (.load false 1 (.s 23)) <|
 oq 25 (.cvi .u64 (.s 24)) <|
 oq 26 (.bin .add (.s 20) (.s 25)) <|
 oq 7 (.mv (.s 26)) <|
 .nil) [0, 1, 6, 7, 8])
 (.seq
 (.reg (oq 27 (.mv (.s 6)) <|
 oq 28 (.mv (.s 8)) <|
 oq 29 (.mv (.s 7)) <|
 oq 30 (.mv (.s 1)) <|
 oq 31 (.cvi .u64 (.s 30)) <|
 oq 32 (.bin .quo (.s 29) (.s 31)) <|
 oq 33 (.cvi .u32 (.s 32)) <|
 oq 34 (.iad 1 (.s 27) (.s 28)) <|
 oz (.store 1 (.s 34) (.s 33)) <|
 .nil) [0, 1, 6, 7, 8])
 (.reg (oq 35 (.mv (.s 7)) <|
 oq 36 (.mv (.s 1)) <|
 oq 37 (.cvi .u64 (.s 36)) <|
 oq 38 (.bin .rem (.s 35) (.s 37)) <|
 oq 7 (.mv (.s 38)) <|
 .nil) [0, 1, 6, 7, 8]))))
 (.reg (oq 17 (.mv (.s 8)) <|
 oq 18 (.bin .sub (.s 17) (.k (.int .i64 1))) <|
 oq 8 (.mv (.s 18)) <|
 .nil) [0, 1, 6, 7, 8]))))))
 (.seq
 (.reg (oq 39 (.mv (.s 6)) <|
 oq 40 (.call f_ref01_Norm [.s 39]) <|
 oq 41 (.mv (.s 7)) <|
 oq 42 (.cvi .u32 (.s 41)) <|
 oq 4 (.mv (.s 40)) <|
 oq 5 (.mv (.s 42)) <|
 .nil) [4, 5])
 .ret)))))
def p_ref01_Small : PFn := ⟨[.tmp 4, .tmp 5], q_ref01_Small⟩
def n_ref01_Small : Fn := ⟨2, [.tmp 4, .tmp 5], false, false, erase q_ref01_Small⟩
def q_ref01_Norm : PC :=
 (.seq
 (.reg (oq 2 (.mv (.k (.sl .full 0 []))) <|
 .nil) [0])
 (.seq
 (.reg (oq 4 (.mv (.s 0)) <|
 oq 5 (.len (.s 4)) <|
 oq 3 (.mv (.s 5)) <|
 .nil) [0, 3])
 (.seq
 (.blk 0
 (.loop ⟨[(0, .same), (3, .v)], []⟩ [(.ext 0, ⟨[(0, .same), (3, .v)], []⟩)]
 (.seq
 (.seq
 (.reg (oq 6 (.mv (.s 3)) <|
 oq 7 (.bin .gtr (.s 6) (.k (.int .i64 0))) <|
 oq 8 (.mv (.s 7)) <|
 .grp 8 true (oq 9 (.mv (.s 0)) <|
 oq 10 (.mv (.s 3)) <|
 oq 11 (.bin .sub (.s 10) (.k (.int .i64 1))) <|
 oq 12 (.iad 1 (.s 9) (.s 11)) <|
 oq 13 (.load false 1 (.s 12)) <|
 oq 14 (.bin .eql (.s 13) (.k (.int .u32 0))) <|
 .nil) 15 (.s 14) (.k (.bool false)) <|
 .nil) [0, 3, 15])
 (.cond (.s 15)
 .skip
 (.exit 0)))
 (.blk 1
 (.reg (oq 16 (.mv (.s 3)) <|
 oq 17 (.bin .sub (.s 16) (.k (.int .i64 1))) <|
 oq 3 (.mv (.s 17)) <|
 .nil) [0, 3])))))
 (.seq
 (.reg (oq 18 (.mv (.s 0)) <|
 oq 19 (.mv (.s 3)) <|
 oq 20 (.slc 1 (.s 18) none (some (.s 19)) none) <|
 oq 21 (.app 1 4 (.k (.sl .full 0 [])) (.s 20)) <|
 oq 2 (.mv (.s 21)) <|
 .nil) [2])
 .ret))))
def p_ref01_Norm : PFn := ⟨[.tmp 2], q_ref01_Norm⟩
def n_ref01_Norm : Fn := ⟨1, [.tmp 2], false, false, erase q_ref01_Norm⟩
def tab0 : Nat → Option PFn := fun f => (match f with | 4 => some p_law16_MergeMembers | 6 => some p_law16_awake | 7 => some p_law00_Made | 8 => some p_merge_Merge | 9 => some p_ref05_Same | 11 => some p_merge_Clean | 12 => some p_law00_Names | 13 => some p_law00_Place | 14 => some p_ref05_Member | 17 => some p_law00_made | 18 => some p_tree_Unset | 19 => some p_tree_Member | 20 => some p_tree_Set | 21 => some p_ref02_Same | 23 => some p_slices_ContainsFunc_erratum_api_Tree | 24 => some p_merge_Clean_1 | 26 => some p_law00_number | 27 => some p_ref05_Set | 28 => some p_tree_cut | 29 => some p_slices_Index_string | 30 => some p_slices_Concat_string | 31 => some p_slices_Concat_erratum_api_Tree | 32 => some p_slices_IndexFunc_string | 33 => some p_tree_Set_1 | 36 => some p_ref02_Is | 37 => some p_ref01_Cmp | 39 => some p_slices_IndexFunc_erratum_api_Tree | 42 => some p_ref02_Of | 43 => some p_ref02_Make | 50 => some p_ref02_Check | 51 => some p_ref01_limb | 56 => some p_ref01_Trim | 59 => some p_ref01_Small | 61 => some p_ref01_Norm | _ => none)
def fnTab : List (Nat × Fn) := [(f_law16_MergeMembers, n_law16_MergeMembers), (f_law16_awake, n_law16_awake), (f_law00_Made, n_law00_Made), (f_merge_Merge, n_merge_Merge), (f_ref05_Same, n_ref05_Same), (f_merge_Clean, n_merge_Clean), (f_law00_Names, n_law00_Names), (f_law00_Place, n_law00_Place), (f_ref05_Member, n_ref05_Member), (f_law00_made, n_law00_made), (f_tree_Unset, n_tree_Unset), (f_tree_Member, n_tree_Member), (f_tree_Set, n_tree_Set), (f_ref02_Same, n_ref02_Same), (f_slices_ContainsFunc_erratum_api_Tree, n_slices_ContainsFunc_erratum_api_Tree), (f_merge_Clean_1, n_merge_Clean_1), (f_law00_number, n_law00_number), (f_ref05_Set, n_ref05_Set), (f_tree_cut, n_tree_cut), (f_slices_Index_string, n_slices_Index_string), (f_slices_Concat_string, n_slices_Concat_string), (f_slices_Concat_erratum_api_Tree, n_slices_Concat_erratum_api_Tree), (f_slices_IndexFunc_string, n_slices_IndexFunc_string), (f_tree_Set_1, n_tree_Set_1), (f_ref02_Is, n_ref02_Is), (f_ref01_Cmp, n_ref01_Cmp), (f_slices_IndexFunc_erratum_api_Tree, n_slices_IndexFunc_erratum_api_Tree), (f_ref02_Of, n_ref02_Of), (f_ref02_Make, n_ref02_Make), (f_ref02_Check, n_ref02_Check), (f_ref01_limb, n_ref01_limb), (f_ref01_Trim, n_ref01_Trim), (f_ref01_Small, n_ref01_Small), (f_ref01_Norm, n_ref01_Norm)]
def ex0 : Nat → Option (List D → List D → Option D) := fun f => (match f with | 34 => some (exInsert 1 16) | 35 => some (exInsert 8 120) | 44 => some (exGrow 1 16) | 45 => some (exGrow 8 120) | _ => none)
def E0 : Env := ⟨look fnTab, fun _ => none, ex0⟩
def md0 : Nat → Md := fun f => (match f with | 12 => .gv 1 | 34 => .ful | 35 => .ful | 44 => .gvf 1 | 45 => .gvf 8 | _ => .pl)
def tx0 : Nat → Option (List V → Option V) := fun f => (match f with | 34 => some (txInsert 1 16) | 35 => some (txInsert 8 120) | 44 => some (txGrow 16) | 45 => some (txGrow 120) | _ => none)
def gl0 : Gl := ⟨fun _ => none, md0, tx0⟩
noncomputable def P0 : PcT := pcL gl0 tab0
end Go.Ev
