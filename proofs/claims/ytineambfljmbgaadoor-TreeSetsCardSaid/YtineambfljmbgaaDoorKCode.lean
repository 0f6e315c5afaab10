/- The functions' code. -/
import Derived.Test.YtineambfljmbgaaDoorKEvD
import Derived.Test.YtineambfljmbgaaDoorKNums
set_option linter.all false
namespace Go.Ev
@[reducible] def oq (i : Nat) (o : O) (r : PO) : PO := .one ⟨some i, o, none⟩ r
@[reducible] def oz (o : O) (r : PO) : PO := .one ⟨none, o, none⟩ r
@[reducible] def zt8 : List D := [.int .i64 0, .bool false, .bool false, .sl .full 0 [], .int .i64 0, .str [], .sl .full 0 [], .sl .full 0 []]
def G_0 : List V := [.int .u8 240, .int .u8 240, .int .u8 240, .int .u8 240, .int .u8 240, .int .u8 240, .int .u8 240, .int .u8 240, .int .u8 240, .int .u8 240, .int .u8 240, .int .u8 240, .int .u8 240, .int .u8 240, .int .u8 240, .int .u8 240, .int .u8 240, .int .u8 240, .int .u8 240, .int .u8 240, .int .u8 240, .int .u8 240, .int .u8 240, .int .u8 240, .int .u8 240, .int .u8 240, .int .u8 240, .int .u8 240, .int .u8 240, .int .u8 240, .int .u8 240, .int .u8 240, .int .u8 240, .int .u8 240, .int .u8 240, .int .u8 240, .int .u8 240, .int .u8 240, .int .u8 240, .int .u8 240, .int .u8 240, .int .u8 240, .int .u8 240, .int .u8 240, .int .u8 240, .int .u8 240, .int .u8 240, .int .u8 240, .int .u8 240, .int .u8 240, .int .u8 240, .int .u8 240, .int .u8 240, .int .u8 240, .int .u8 240, .int .u8 240, .int .u8 240, .int .u8 240, .int .u8 240, .int .u8 240, .int .u8 240, .int .u8 240, .int .u8 240, .int .u8 240, .int .u8 240, .int .u8 240, .int .u8 240, .int .u8 240, .int .u8 240, .int .u8 240, .int .u8 240, .int .u8 240, .int .u8 240, .int .u8 240, .int .u8 240, .int .u8 240, .int .u8 240, .int .u8 240, .int .u8 240, .int .u8 240, .int .u8 240, .int .u8 240, .int .u8 240, .int .u8 240, .int .u8 240, .int .u8 240, .int .u8 240, .int .u8 240, .int .u8 240, .int .u8 240, .int .u8 240, .int .u8 240, .int .u8 240, .int .u8 240, .int .u8 240, .int .u8 240, .int .u8 240, .int .u8 240, .int .u8 240, .int .u8 240, .int .u8 240, .int .u8 240, .int .u8 240, .int .u8 240, .int .u8 240, .int .u8 240, .int .u8 240, .int .u8 240, .int .u8 240, .int .u8 240, .int .u8 240, .int .u8 240, .int .u8 240, .int .u8 240, .int .u8 240, .int .u8 240, .int .u8 240, .int .u8 240, .int .u8 240, .int .u8 240, .int .u8 240, .int .u8 240, .int .u8 240, .int .u8 240, .int .u8 240, .int .u8 240, .int .u8 240, .int .u8 240, .int .u8 241, .int .u8 241, .int .u8 241, .int .u8 241, .int .u8 241, .int .u8 241, .int .u8 241, .int .u8 241, .int .u8 241, .int .u8 241, .int .u8 241, .int .u8 241, .int .u8 241, .int .u8 241, .int .u8 241, .int .u8 241, .int .u8 241, .int .u8 241, .int .u8 241, .int .u8 241, .int .u8 241, .int .u8 241, .int .u8 241, .int .u8 241, .int .u8 241, .int .u8 241, .int .u8 241, .int .u8 241, .int .u8 241, .int .u8 241, .int .u8 241, .int .u8 241, .int .u8 241, .int .u8 241, .int .u8 241, .int .u8 241, .int .u8 241, .int .u8 241, .int .u8 241, .int .u8 241, .int .u8 241, .int .u8 241, .int .u8 241, .int .u8 241, .int .u8 241, .int .u8 241, .int .u8 241, .int .u8 241, .int .u8 241, .int .u8 241, .int .u8 241, .int .u8 241, .int .u8 241, .int .u8 241, .int .u8 241, .int .u8 241, .int .u8 241, .int .u8 241, .int .u8 241, .int .u8 241, .int .u8 241, .int .u8 241, .int .u8 241, .int .u8 241, .int .u8 241, .int .u8 241, .int .u8 2, .int .u8 2, .int .u8 2, .int .u8 2, .int .u8 2, .int .u8 2, .int .u8 2, .int .u8 2, .int .u8 2, .int .u8 2, .int .u8 2, .int .u8 2, .int .u8 2, .int .u8 2, .int .u8 2, .int .u8 2, .int .u8 2, .int .u8 2, .int .u8 2, .int .u8 2, .int .u8 2, .int .u8 2, .int .u8 2, .int .u8 2, .int .u8 2, .int .u8 2, .int .u8 2, .int .u8 2, .int .u8 2, .int .u8 2, .int .u8 19, .int .u8 3, .int .u8 3, .int .u8 3, .int .u8 3, .int .u8 3, .int .u8 3, .int .u8 3, .int .u8 3, .int .u8 3, .int .u8 3, .int .u8 3, .int .u8 3, .int .u8 35, .int .u8 3, .int .u8 3, .int .u8 52, .int .u8 4, .int .u8 4, .int .u8 4, .int .u8 68, .int .u8 241, .int .u8 241, .int .u8 241, .int .u8 241, .int .u8 241, .int .u8 241, .int .u8 241, .int .u8 241, .int .u8 241, .int .u8 241, .int .u8 241]
def G_1 : List V := [.int .u8 128, .int .u8 191, .int .u8 160, .int .u8 191, .int .u8 128, .int .u8 159, .int .u8 144, .int .u8 191, .int .u8 128, .int .u8 143, .int .u8 0, .int .u8 0, .int .u8 0, .int .u8 0, .int .u8 0, .int .u8 0, .int .u8 0, .int .u8 0, .int .u8 0, .int .u8 0, .int .u8 0, .int .u8 0, .int .u8 0, .int .u8 0, .int .u8 0, .int .u8 0, .int .u8 0, .int .u8 0, .int .u8 0, .int .u8 0, .int .u8 0, .int .u8 0]
def q_law05_TreeSets : PC :=
 (.seq
 (.reg (.box 8 3 (.s 0) <|
 .box 8 5 (.s 2) <|
 oq 6 (.mv (.k (.bool false))) <|
 .nil) [1, 3, 5])
 (.seq
 (.seq
 (.reg (oq 17 (.load true 8 (.s 3)) <|
 oq 18 (.call f_tree_Check [.s 17]) <|
 oq 19 (.un .not (.s 18)) <|
 oq 20 (.mv (.s 19)) <|
 .grp 20 false (oq 21 (.load true 8 (.s 5)) <|
 oq 22 (.call f_tree_Check [.s 21]) <|
 oq 23 (.un .not (.s 22)) <|
 .nil) 24 (.s 23) (.k (.bool true)) <|
 oq 25 (.mv (.s 24)) <|
 .grp 25 false (oq 26 (.load true 8 (.s 3)) <|
 oq 27 (.call f_law00_Light [.s 26, (.k (.int .i64 100))]) <|
 oq 28 (.un .not (.s 27)) <|
 .nil) 29 (.s 28) (.k (.bool true)) <|
 oq 30 (.mv (.s 29)) <|
 .grp 30 false (oq 31 (.load true 8 (.s 5)) <|
 oq 32 (.call f_law00_Light [.s 31, (.k (.int .i64 60))]) <|
 oq 33 (.un .not (.s 32)) <|
 .nil) 34 (.s 33) (.k (.bool true)) <|
 oq 35 (.mv (.s 34)) <|
 .grp 35 false (oq 36 (.fad 0 (.s 3)) <|
 oq 37 (.load false 1 (.s 36)) <|
 oq 38 (.bin .neq (.s 37) (.k (.int .i64 7))) <|
 .nil) 39 (.s 38) (.k (.bool true)) <|
 oq 40 (.mv (.s 39)) <|
 .grp 40 false (oq 41 (.mv (.s 1)) <|
 oq 42 (.lns (.s 41)) <|
 oq 43 (.bin .gtr (.s 42) (.k (.int .i64 100))) <|
 .nil) 44 (.s 43) (.k (.bool true)) <|
 .nil) [1, 3, 5, 44])
 (.cond (.s 44)
 (.seq
 (.reg (oq 45 (.call f_law05_awake []) <|
 oq 6 (.mv (.s 45)) <|
 .nil) [6])
 .ret)
 .skip))
 (.seq
 (.reg (oq 46 (.load true 8 (.s 3)) <|
 oq 47 (.mv (.s 1)) <|
 oq 48 (.load true 8 (.s 5)) <|
 oq 49 (.call f_tree_Set [.s 46, .s 47, .s 48]) <|
 oq 7 (.alloc zt8) <|
 oz (.store 8 (.s 7) (.s 49)) <|
 .nil) [1, 3, 5, 7])
 (.seq
 (.reg (oq 51 (.load true 8 (.s 7)) <|
 oq 52 (.mv (.s 1)) <|
 oq 53 (.call f_tree_Member [.s 51, .s 52]) <|
 oq 50 (.mv (.s 53)) <|
 oq 54 (.ext (.s 50) 0) <|
 oq 55 (.ext (.s 50) 1) <|
 oq 8 (.alloc zt8) <|
 oz (.store 8 (.s 8) (.s 54)) <|
 oq 9 (.mv (.s 55)) <|
 .nil) [1, 3, 5, 7, 8, 9])
 (.seq
 (.reg (oq 57 (.load true 8 (.s 3)) <|
 oq 58 (.mv (.s 1)) <|
 oq 59 (.call f_tree_Member [.s 57, .s 58]) <|
 oq 56 (.mv (.s 59)) <|
 oq 60 (.ext (.s 56) 0) <|
 oq 61 (.ext (.s 56) 1) <|
 oq 10 (.alloc zt8) <|
 oz (.store 8 (.s 10) (.s 60)) <|
 oq 11 (.mv (.s 61)) <|
 .nil) [1, 3, 5, 7, 8, 9, 11])
 (.seq
 (.reg (oq 62 (.load true 8 (.s 7)) <|
 oq 63 (.mv (.s 1)) <|
 oq 64 (.call f_tree_Unset [.s 62, .s 63]) <|
 oq 12 (.alloc zt8) <|
 oz (.store 8 (.s 12) (.s 64)) <|
 .nil) [1, 3, 5, 7, 8, 9, 11, 12])
 (.seq
 (.seq
 (.reg (oq 65 (.mv (.s 9)) <|
 oq 66 (.un .not (.s 65)) <|
 oq 67 (.mv (.s 66)) <|
 .grp 67 false (oq 68 (.load true 8 (.s 8)) <|
 oq 69 (.load true 8 (.s 5)) <|
 oq 70 (.call f_tree_Same [.s 68, .s 69]) <|
 oq 71 (.un .not (.s 70)) <|
 .nil) 72 (.s 71) (.k (.bool true)) <|
 oq 73 (.mv (.s 72)) <|
 .grp 73 false (oq 74 (.fad 6 (.s 7)) <|
 oq 75 (.load false 1 (.s 74)) <|
 oq 76 (.len (.s 75)) <|
 oq 77 (.fad 7 (.s 7)) <|
 oq 78 (.load false 1 (.s 77)) <|
 oq 79 (.len (.s 78)) <|
 oq 80 (.bin .neq (.s 76) (.s 79)) <|
 .nil) 81 (.s 80) (.k (.bool true)) <|
 oq 82 (.mv (.s 81)) <|
 .grp 82 false (oq 83 (.fad 6 (.s 7)) <|
 oq 84 (.load false 1 (.s 83)) <|
 oq 85 (.len (.s 84)) <|
 oq 86 (.fad 6 (.s 12)) <|
 oq 87 (.load false 1 (.s 86)) <|
 oq 88 (.len (.s 87)) <|
 oq 89 (.bin .add (.s 88) (.k (.int .i64 1))) <|
 oq 90 (.bin .neq (.s 85) (.s 89)) <|
 .nil) 91 (.s 90) (.k (.bool true)) <|
 oq 92 (.mv (.s 91)) <|
 .grp 92 false (oq 93 (.mv (.s 11)) <|
 oq 94 (.fad 6 (.s 7)) <|
 oq 95 (.load false 1 (.s 94)) <|
 oq 96 (.len (.s 95)) <|
 oq 97 (.fad 6 (.s 3)) <|
 oq 98 (.load false 1 (.s 97)) <|
 oq 99 (.len (.s 98)) <|
 oq 100 (.bin .eql (.s 96) (.s 99)) <|
 oq 101 (.beq true (.s 93) (.s 100)) <|
 .nil) 102 (.s 101) (.k (.bool true)) <|
 .nil) [1, 3, 7, 11, 12, 102])
 (.cond (.s 102)
 (.seq
 (.reg (oq 6 (.mv (.k (.bool false))) <|
 .nil) [6])
 .ret)
 .skip))
 (.seq
 (.seq
 (.reg (oq 13 (.mv (.k (.int .i64 0))) <|
 .nil) [1, 3, 7, 11, 12, 13])
 (.blk 0
 (.loop ⟨[(1, .same), (3, .same), (7, .same), (11, .same), (12, .same), (13, .v)], [.same, .same, .same, .same, .same, .same]⟩ [(.ext 0, ⟨[(1, .same), (3, .same), (7, .same), (11, .same), (12, .same)], [.same, .same, .same, .same, .same, .same]⟩), (.ret, ⟨[(6, .v)], [.same, .same, .same, .same, .same, .same]⟩)]
 (.seq
 (.seq
 (.reg (oq 103 (.mv (.s 13)) <|
 oq 104 (.fad 6 (.s 3)) <|
 oq 105 (.load false 1 (.s 104)) <|
 oq 106 (.len (.s 105)) <|
 oq 107 (.bin .lss (.s 103) (.s 106)) <|
 .nil) [1, 3, 7, 11, 12, 13, 107])
 (.cond (.s 107)
 .skip
 (.exit 0)))
 (.seq
 (.blk 1
 (.seq
 (.drw (oq 14 (.alloc zt8) <|
 .nil)
 (oq 111 (.load true 8 (.s 7)) <|
 oq 112 (.fad 6 (.s 3)) <|
 oq 113 (.load false 1 (.s 112)) <|
 oq 114 (.mv (.s 13)) <|
 oq 115 (.iad 1 (.s 113) (.s 114)) <|
 oq 116 (.load false 1 (.s 115)) <|
 oq 117 (.call f_tree_Member [.s 111, .s 116]) <|
 oq 110 (.mv (.s 117)) <|
 oq 118 (.ext (.s 110) 0) <|
 oq 119 (.ext (.s 110) 1) <|
 .nil)
 (oz (.store 8 (.s 14) (.s 118)) <|
 oq 15 (.mv (.s 119)) <|
 .nil) [1, 3, 7, 11, 12, 13, 14, 15])
 (.seq
 (.drw (.nil)
 (oq 120 (.mv (.s 15)) <|
 oq 121 (.un .not (.s 120)) <|
 oq 122 (.mv (.s 121)) <|
 .grp 122 false (oq 123 (.fad 6 (.s 3)) <|
 oq 124 (.load false 1 (.s 123)) <|
 oq 125 (.mv (.s 13)) <|
 oq 126 (.iad 1 (.s 124) (.s 125)) <|
 oq 127 (.load false 1 (.s 126)) <|
 oq 128 (.mv (.s 1)) <|
 oq 129 (.bin .neq (.s 127) (.s 128)) <|
 oq 130 (.mv (.s 129)) <|
 .grp 130 true (oq 131 (.load true 8 (.s 14)) <|
 oq 132 (.fad 7 (.s 3)) <|
 oq 133 (.load false 1 (.s 132)) <|
 oq 134 (.mv (.s 13)) <|
 oq 135 (.iad 8 (.s 133) (.s 134)) <|
 oq 136 (.load true 8 (.s 135)) <|
 oq 137 (.call f_tree_Same [.s 131, .s 136]) <|
 oq 138 (.un .not (.s 137)) <|
 .nil) 139 (.s 138) (.k (.bool false)) <|
 .nil) 140 (.s 139) (.k (.bool true)) <|
 .nil)
 (.nil) [1, 3, 7, 11, 12, 13, 140])
 (.cond (.s 140)
 (.seq
 (.reg (oq 6 (.mv (.k (.bool false))) <|
 .nil) [6])
 .ret)
 .skip))))
 (.reg (oq 108 (.mv (.s 13)) <|
 oq 109 (.bin .add (.s 108) (.k (.int .i64 1))) <|
 oq 13 (.mv (.s 109)) <|
 .nil) [1, 3, 7, 11, 12, 13]))))))
 (.seq
 (.seq
 (.reg (oq 16 (.mv (.k (.int .i64 1))) <|
 .nil) [1, 3, 7, 11, 12, 16])
 (.blk 2
 (.loop ⟨[(1, .same), (3, .same), (7, .same), (11, .same), (12, .same), (16, .v)], [.same, .same, .same, .same, .same, .same]⟩ [(.ext 2, ⟨[(1, .same), (3, .same), (11, .same), (12, .same)], [.same, .same, .same, .same, .same, .same]⟩), (.ret, ⟨[(6, .v)], [.same, .same, .same, .same, .same, .same]⟩)]
 (.seq
 (.seq
 (.reg (oq 141 (.mv (.s 16)) <|
 oq 142 (.fad 6 (.s 7)) <|
 oq 143 (.load false 1 (.s 142)) <|
 oq 144 (.len (.s 143)) <|
 oq 145 (.bin .lss (.s 141) (.s 144)) <|
 .nil) [1, 3, 7, 11, 12, 16, 145])
 (.cond (.s 145)
 .skip
 (.exit 2)))
 (.seq
 (.blk 3
 (.seq
 (.drw (.nil)
 (oq 148 (.fad 6 (.s 7)) <|
 oq 149 (.load false 1 (.s 148)) <|
 oq 150 (.mv (.s 16)) <|
 oq 151 (.iad 1 (.s 149) (.s 150)) <|
 oq 152 (.load false 1 (.s 151)) <|
 oq 153 (.fad 6 (.s 7)) <|
 oq 154 (.load false 1 (.s 153)) <|
 oq 155 (.mv (.s 16)) <|
 oq 156 (.bin .sub (.s 155) (.k (.int .i64 1))) <|
 oq 157 (.iad 1 (.s 154) (.s 156)) <|
 oq 158 (.load false 1 (.s 157)) <|
 .nil)
 (oq 159 (.bin .leq (.s 152) (.s 158)) <|
 .nil) [1, 3, 7, 11, 12, 16, 159])
 (.cond (.s 159)
 (.seq
 (.reg (oq 6 (.mv (.k (.bool false))) <|
 .nil) [6])
 .ret)
 .skip)))
 (.reg (oq 146 (.mv (.s 16)) <|
 oq 147 (.bin .add (.s 146) (.k (.int .i64 1))) <|
 oq 16 (.mv (.s 147)) <|
 .nil) [1, 3, 7, 11, 12, 16]))))))
 (.seq
 (.drw (.nil)
 (oq 160 (.load true 8 (.s 12)) <|
 oq 161 (.load true 8 (.s 3)) <|
 oq 162 (.mv (.s 1)) <|
 oq 163 (.call f_tree_Unset [.s 161, .s 162]) <|
 oq 164 (.call f_tree_Same [.s 160, .s 163]) <|
 oq 165 (.mv (.s 164)) <|
 .grp 165 true (oq 166 (.mv (.s 11)) <|
 oq 167 (.mv (.s 166)) <|
 .grp 167 false (oq 168 (.load true 8 (.s 12)) <|
 oq 169 (.load true 8 (.s 3)) <|
 oq 170 (.call f_tree_Same [.s 168, .s 169]) <|
 .nil) 171 (.s 170) (.k (.bool true)) <|
 .nil) 172 (.s 171) (.k (.bool false)) <|
 .nil)
 (oq 173 (.mv (.s 172)) <|
 .grp 173 true (oq 174 (.call f_law05_awake []) <|
 .nil) 175 (.s 174) (.k (.bool false)) <|
 oq 6 (.mv (.s 175)) <|
 .nil) [6])
 .ret))))))))))
def p_law05_TreeSets : PFn := ⟨[.tmp 6], q_law05_TreeSets⟩
def n_law05_TreeSets : Fn := ⟨3, [.tmp 6], false, false, erase q_law05_TreeSets⟩
def q_tree_Check : PC :=
 (.seq
 (.reg (.box 8 1 (.s 0) <|
 oq 2 (.mv (.k (.bool false))) <|
 .nil) [1])
 (.seq
 (.reg (oq 3 (.alloc [.int .i64 0]) <|
 oz (.store 1 (.s 3) (.k (.int .i64 2000))) <|
 .nil) [1, 3])
 (.seq
 (.reg (oq 4 (.load true 8 (.s 1)) <|
 oq 5 (.call f_tree_check [.s 4, (.k (.int .i64 1)), .s 3]) <|
 oq 2 (.mv (.s 5)) <|
 .nil) [2])
 .ret)))
def p_tree_Check : PFn := ⟨[.tmp 2], q_tree_Check⟩
def n_tree_Check : Fn := ⟨1, [.tmp 2], false, false, erase q_tree_Check⟩
def q_tree_Depth : PC :=
 (.seq
 (.reg (.box 8 1 (.s 0) <|
 oq 2 (.mv (.k (.int .i64 0))) <|
 .nil) [1])
 (.seq
 (.reg (oq 3 (.mv (.k (.int .i64 0))) <|
 .nil) [1, 3])
 (.seq
 (.seq
 (.reg (oq 6 (.fad 7 (.s 1)) <|
 oq 7 (.load false 1 (.s 6)) <|
 oq 8 (.len (.s 7)) <|
 oq 9 (.mv (.k (.int .i64 0))) <|
 .nil) [3, 7, 8, 9])
 (.blk 0
 (.loop ⟨[(3, .v), (7, .same), (8, .same), (9, .v)], [.same]⟩ [(.ext 0, ⟨[(3, .v)], [.same]⟩)]
 (.seq
 (.reg (oq 10 (.bin .lss (.s 9) (.s 8)) <|
 .nil) [3, 7, 8, 9, 10])
 (.seq
 (.cond (.s 10)
 .skip
 (.exit 0))
 (.seq
 (.blk 1
 (.seq
 (.reg (oq 11 (.iad 8 (.s 7) (.s 9)) <|
 oq 12 (.load true 8 (.s 11)) <|
 oq 5 (.alloc zt8) <|
 oz (.store 8 (.s 5) (.s 12)) <|
 .nil) [3, 5, 7, 8, 9])
 (.reg (oq 13 (.mv (.s 3)) <|
 oq 14 (.load true 8 (.s 5)) <|
 oq 15 (.call f_tree_Depth [.s 14]) <|
 oq 16 (.max [.s 13, .s 15]) <|
 oq 3 (.mv (.s 16)) <|
 .nil) [3, 7, 8, 9])))
 (.reg (oq 17 (.bin .add (.s 9) (.k (.int .i64 1))) <|
 oq 9 (.mv (.s 17)) <|
 .nil) [3, 7, 8, 9])))))))
 (.seq
 (.reg (oq 18 (.mv (.s 3)) <|
 oq 19 (.bin .add (.k (.int .i64 1)) (.s 18)) <|
 oq 2 (.mv (.s 19)) <|
 .nil) [2])
 .ret))))
def p_tree_Depth : PFn := ⟨[.tmp 2], q_tree_Depth⟩
def n_tree_Depth : Fn := ⟨1, [.tmp 2], false, false, erase q_tree_Depth⟩
def q_tree_Weight : PC :=
 (.seq
 (.reg (.box 8 1 (.s 0) <|
 oq 2 (.mv (.k (.int .i64 0))) <|
 .nil) [1])
 (.seq
 (.reg (oq 3 (.mv (.k (.int .i64 1))) <|
 .nil) [1, 3])
 (.seq
 (.cut ⟨[(1, .same), (3, .v)], [.same]⟩ [(.nrm, ⟨[(1, .same), (3, .v)], [.same]⟩)]
 (.seq
 (.reg (oq 6 (.fad 0 (.s 1)) <|
 oq 7 (.load false 1 (.s 6)) <|
 .nil) [1, 3, 7])
 (.blk 0
 (.seq
 (.reg (oq 9 (.bin .eql (.s 7) (.k (.int .i64 3))) <|
 oq 8 (.mv (.s 9)) <|
 .nil) [1, 3, 7, 8])
 (.cond (.s 8)
 (.reg (oq 10 (.mv (.s 3)) <|
 oq 11 (.fad 2 (.s 1)) <|
 oq 12 (.fad 1 (.s 11)) <|
 oq 13 (.load false 1 (.s 12)) <|
 oq 14 (.len (.s 13)) <|
 oq 15 (.bin .add (.s 10) (.s 14)) <|
 oq 3 (.mv (.s 15)) <|
 .nil) [1, 3])
 (.seq
 (.cut ⟨[(1, .same), (3, .same), (7, .same)], [.same]⟩ [(.nrm, ⟨[(1, .same), (3, .same), (16, .v)], [.same]⟩)]
 (.seq
 (.reg (oq 17 (.bin .eql (.s 7) (.k (.int .i64 4))) <|
 oq 16 (.mv (.s 17)) <|
 .nil) [1, 3, 7, 16])
 (.cond (.s 16)
 .skip
 (.reg (oq 18 (.bin .eql (.s 7) (.k (.int .i64 5))) <|
 oq 16 (.mv (.s 18)) <|
 .nil) [1, 3, 16]))))
 (.cond (.s 16)
 (.reg (oq 19 (.mv (.s 3)) <|
 oq 20 (.fad 5 (.s 1)) <|
 oq 21 (.load false 1 (.s 20)) <|
 oq 22 (.lns (.s 21)) <|
 oq 23 (.bin .add (.s 19) (.s 22)) <|
 oq 3 (.mv (.s 23)) <|
 .nil) [1, 3])
 .skip)))))))
 (.seq
 (.seq
 (.reg (oq 24 (.fad 7 (.s 1)) <|
 oq 25 (.load false 1 (.s 24)) <|
 oq 26 (.len (.s 25)) <|
 oq 27 (.mv (.k (.int .i64 0))) <|
 .nil) [3, 25, 26, 27])
 (.blk 1
 (.loop ⟨[(3, .v), (25, .same), (26, .same), (27, .v)], [.same]⟩ [(.ext 1, ⟨[(3, .v)], [.same]⟩)]
 (.seq
 (.reg (oq 28 (.bin .lss (.s 27) (.s 26)) <|
 .nil) [3, 25, 26, 27, 28])
 (.seq
 (.cond (.s 28)
 .skip
 (.exit 1))
 (.seq
 (.blk 2
 (.seq
 (.reg (oq 29 (.iad 8 (.s 25) (.s 27)) <|
 oq 30 (.load true 8 (.s 29)) <|
 oq 5 (.alloc zt8) <|
 oz (.store 8 (.s 5) (.s 30)) <|
 .nil) [3, 5, 25, 26, 27])
 (.reg (oq 31 (.mv (.s 3)) <|
 oq 32 (.load true 8 (.s 5)) <|
 oq 33 (.call f_tree_Weight [.s 32]) <|
 oq 34 (.bin .add (.s 31) (.s 33)) <|
 oq 3 (.mv (.s 34)) <|
 .nil) [3, 25, 26, 27])))
 (.reg (oq 35 (.bin .add (.s 27) (.k (.int .i64 1))) <|
 oq 27 (.mv (.s 35)) <|
 .nil) [3, 25, 26, 27])))))))
 (.seq
 (.reg (oq 36 (.mv (.s 3)) <|
 oq 2 (.mv (.s 36)) <|
 .nil) [2])
 .ret)))))
def p_tree_Weight : PFn := ⟨[.tmp 2], q_tree_Weight⟩
def n_tree_Weight : Fn := ⟨1, [.tmp 2], false, false, erase q_tree_Weight⟩
def q_law05_awake : PC :=
 (.seq
 (.reg (oq 0 (.mv (.k (.bool false))) <|
 .nil) [])
 (.seq
 (.reg (oq 2 (.lit 1 [(.str [])] [(0, 1, (.k (.str [97])))]) <|
 oq 3 (.lit 1 [.int .u32 0] [(0, 1, (.k (.int .u32 1)))]) <|
 oq 4 (.build [.bool false, (.sl .full 0 []), .int .i64 0] [(1, 1, (.s 3))]) <|
 oq 5 (.build zt8 [(0, 1, (.k (.int .i64 3))), (2, 3, (.s 4))]) <|
 oq 6 (.build zt8 [(0, 1, (.k (.int .i64 4))), (5, 1, (.k (.str [120, 121])))]) <|
 oq 7 (.lit 2 zt8 [(0, 8, (.s 5)), (8, 8, (.s 6))]) <|
 oq 8 (.build zt8 [(0, 1, (.k (.int .i64 6))), (7, 1, (.s 7))]) <|
 oq 9 (.lit 1 zt8 [(0, 8, (.s 8))]) <|
 oq 10 (.build zt8 [(0, 1, (.k (.int .i64 7))), (6, 1, (.s 2)), (7, 1, (.s 9))]) <|
 oq 1 (.alloc zt8) <|
 oz (.store 8 (.s 1) (.s 10)) <|
 .nil) [1])
 (.seq
 (.reg (oq 11 (.load true 8 (.s 1)) <|
 oq 12 (.call f_tree_Weight [.s 11]) <|
 oq 13 (.bin .eql (.s 12) (.k (.int .i64 7))) <|
 oq 14 (.mv (.s 13)) <|
 .grp 14 true (oq 15 (.load true 8 (.s 1)) <|
 oq 16 (.call f_tree_Check [.s 15]) <|
 .nil) 17 (.s 16) (.k (.bool false)) <|
 oq 18 (.mv (.s 17)) <|
 .grp 18 true (oq 19 (.load true 8 (.s 1)) <|
 oq 20 (.call f_tree_Nodes [.s 19]) <|
 oq 21 (.bin .eql (.s 20) (.k (.int .i64 4))) <|
 .nil) 22 (.s 21) (.k (.bool false)) <|
 oq 23 (.mv (.s 22)) <|
 .grp 23 true (oq 24 (.load true 8 (.s 1)) <|
 oq 25 (.call f_tree_Depth [.s 24]) <|
 oq 26 (.bin .eql (.s 25) (.k (.int .i64 3))) <|
 .nil) 27 (.s 26) (.k (.bool false)) <|
 oq 0 (.mv (.s 27)) <|
 .nil) [0])
 .ret)))
def p_law05_awake : PFn := ⟨[.tmp 0], q_law05_awake⟩
def n_law05_awake : Fn := ⟨0, [.tmp 0], false, false, erase q_law05_awake⟩
def q_tree_Same : PC :=
 (.seq
 (.reg (.box 8 2 (.s 0) <|
 .box 8 3 (.s 1) <|
 oq 4 (.mv (.k (.bool false))) <|
 .nil) [2, 3])
 (.seq
 (.seq
 (.reg (oq 5 (.fad 0 (.s 2)) <|
 oq 6 (.load false 1 (.s 5)) <|
 oq 7 (.fad 0 (.s 3)) <|
 oq 8 (.load false 1 (.s 7)) <|
 oq 9 (.bin .neq (.s 6) (.s 8)) <|
 .nil) [2, 3, 9])
 (.cond (.s 9)
 (.seq
 (.reg (oq 4 (.mv (.k (.bool false))) <|
 .nil) [4])
 .ret)
 .skip))
 (.seq
 (.seq
 (.reg (oq 10 (.fad 0 (.s 2)) <|
 oq 11 (.load false 1 (.s 10)) <|
 .nil) [2, 3, 11])
 (.blk 0
 (.seq
 (.blk 6
 (.seq
 (.blk 5
 (.seq
 (.cut ⟨[(2, .same), (3, .same), (11, .same)], [.same, .same]⟩ [(.ext 0, ⟨[], [.same, .same]⟩), (.ext 5, ⟨[(2, .same), (3, .same)], [.same, .same]⟩), (.ext 6, ⟨[(2, .same), (3, .same)], [.same, .same]⟩), (.nrm, ⟨[(2, .same), (3, .same)], [.same, .same]⟩), (.ret, ⟨[(4, .v)], [.same, .same]⟩)]
 (.blk 4
 (.blk 3
 (.seq
 (.blk 2
 (.seq
 (.blk 1
 (.seq
 (.seq
 (.seq
 (.reg (oq 13 (.bin .eql (.s 11) (.k (.int .i64 2))) <|
 oq 12 (.mv (.s 13)) <|
 .nil) [2, 3, 11, 12])
 (.cond (.s 12)
 (.exit 1)
 .skip))
 (.seq
 (.seq
 (.reg (oq 15 (.bin .eql (.s 11) (.k (.int .i64 3))) <|
 oq 14 (.mv (.s 15)) <|
 .nil) [2, 3, 11, 14])
 (.cond (.s 14)
 (.exit 2)
 .skip))
 (.seq
 (.seq
 (.reg (oq 17 (.bin .eql (.s 11) (.k (.int .i64 4))) <|
 oq 16 (.mv (.s 17)) <|
 .nil) [2, 3, 11, 16])
 (.cond (.s 16)
 (.exit 3)
 .skip))
 (.seq
 (.seq
 (.reg (oq 19 (.bin .eql (.s 11) (.k (.int .i64 5))) <|
 oq 18 (.mv (.s 19)) <|
 .nil) [2, 3, 11, 18])
 (.cond (.s 18)
 (.exit 4)
 .skip))
 (.seq
 (.seq
 (.reg (oq 21 (.bin .eql (.s 11) (.k (.int .i64 7))) <|
 oq 20 (.mv (.s 21)) <|
 .nil) [2, 3, 11, 20])
 (.cond (.s 20)
 (.exit 5)
 .skip))
 (.seq
 (.reg (oq 23 (.bin .eql (.s 11) (.k (.int .i64 6))) <|
 oq 22 (.mv (.s 23)) <|
 .nil) [2, 3, 22])
 (.cond (.s 22)
 (.exit 6)
 .skip)))))))
 (.exit 0)))
 (.seq
 (.seq
 (.reg (oq 24 (.fad 1 (.s 2)) <|
 oq 25 (.load false 1 (.s 24)) <|
 oq 26 (.fad 1 (.s 3)) <|
 oq 27 (.load false 1 (.s 26)) <|
 oq 28 (.beq false (.s 25) (.s 27)) <|
 oq 4 (.mv (.s 28)) <|
 .nil) [4])
 .ret)
 (.exit 0))))
 (.seq
 (.seq
 (.reg (oq 29 (.fad 2 (.s 2)) <|
 oq 30 (.load true 3 (.s 29)) <|
 oq 31 (.fad 2 (.s 3)) <|
 oq 32 (.load true 3 (.s 31)) <|
 oq 33 (.call f_num_Same [.s 30, .s 32]) <|
 oq 4 (.mv (.s 33)) <|
 .nil) [4])
 .ret)
 (.exit 0))))))
 (.seq
 (.seq
 (.reg (oq 34 (.fad 5 (.s 2)) <|
 oq 35 (.load false 1 (.s 34)) <|
 oq 36 (.fad 5 (.s 3)) <|
 oq 37 (.load false 1 (.s 36)) <|
 oq 38 (.bin .eql (.s 35) (.s 37)) <|
 oq 4 (.mv (.s 38)) <|
 .nil) [4])
 .ret)
 (.exit 0))))
 (.seq
 (.seq
 (.reg (oq 39 (.fad 6 (.s 2)) <|
 oq 40 (.load false 1 (.s 39)) <|
 oq 41 (.fad 6 (.s 3)) <|
 oq 42 (.load false 1 (.s 41)) <|
 oq 43 (.call f_slices_Equal_string [.s 40, .s 42]) <|
 oq 44 (.mv (.s 43)) <|
 .grp 44 true (oq 45 (.fad 7 (.s 2)) <|
 oq 46 (.load false 1 (.s 45)) <|
 oq 47 (.fad 7 (.s 3)) <|
 oq 48 (.load false 1 (.s 47)) <|
 oq 49 (.call f_slices_EqualFunc_erratum_api_Tree [.s 46, .s 48, (.k (.fn f_tree_Same []))]) <|
 .nil) 50 (.s 49) (.k (.bool false)) <|
 oq 4 (.mv (.s 50)) <|
 .nil) [4])
 .ret)
 (.exit 0))))
 (.seq
 (.seq
 (.reg (oq 51 (.fad 7 (.s 2)) <|
 oq 52 (.load false 1 (.s 51)) <|
 oq 53 (.fad 7 (.s 3)) <|
 oq 54 (.load false 1 (.s 53)) <|
 oq 55 (.call f_slices_EqualFunc_erratum_api_Tree [.s 52, .s 54, (.k (.fn f_tree_Same []))]) <|
 oq 4 (.mv (.s 55)) <|
 .nil) [4])
 .ret)
 (.exit 0)))))
 (.seq
 (.reg (oq 4 (.mv (.k (.bool true))) <|
 .nil) [4])
 .ret))))
def p_tree_Same : PFn := ⟨[.tmp 4], q_tree_Same⟩
def n_tree_Same : Fn := ⟨2, [.tmp 4], false, false, erase q_tree_Same⟩
def q_tree_Nodes : PC :=
 (.seq
 (.reg (.box 8 1 (.s 0) <|
 oq 2 (.mv (.k (.int .i64 0))) <|
 .nil) [1])
 (.seq
 (.reg (oq 3 (.mv (.k (.int .i64 1))) <|
 .nil) [1, 3])
 (.seq
 (.seq
 (.reg (oq 6 (.fad 7 (.s 1)) <|
 oq 7 (.load false 1 (.s 6)) <|
 oq 8 (.len (.s 7)) <|
 oq 9 (.mv (.k (.int .i64 0))) <|
 .nil) [3, 7, 8, 9])
 (.blk 0
 (.loop ⟨[(3, .v), (7, .same), (8, .same), (9, .v)], [.same]⟩ [(.ext 0, ⟨[(3, .v)], [.same]⟩)]
 (.seq
 (.reg (oq 10 (.bin .lss (.s 9) (.s 8)) <|
 .nil) [3, 7, 8, 9, 10])
 (.seq
 (.cond (.s 10)
 .skip
 (.exit 0))
 (.seq
 (.blk 1
 (.seq
 (.reg (oq 11 (.iad 8 (.s 7) (.s 9)) <|
 oq 12 (.load true 8 (.s 11)) <|
 oq 5 (.alloc zt8) <|
 oz (.store 8 (.s 5) (.s 12)) <|
 .nil) [3, 5, 7, 8, 9])
 (.reg (oq 13 (.mv (.s 3)) <|
 oq 14 (.load true 8 (.s 5)) <|
 oq 15 (.call f_tree_Nodes [.s 14]) <|
 oq 16 (.bin .add (.s 13) (.s 15)) <|
 oq 3 (.mv (.s 16)) <|
 .nil) [3, 7, 8, 9])))
 (.reg (oq 17 (.bin .add (.s 9) (.k (.int .i64 1))) <|
 oq 9 (.mv (.s 17)) <|
 .nil) [3, 7, 8, 9])))))))
 (.seq
 (.reg (oq 18 (.mv (.s 3)) <|
 oq 2 (.mv (.s 18)) <|
 .nil) [2])
 .ret))))
def p_tree_Nodes : PFn := ⟨[.tmp 2], q_tree_Nodes⟩
def n_tree_Nodes : Fn := ⟨1, [.tmp 2], false, false, erase q_tree_Nodes⟩
def q_law00_Light : PC :=
 (.seq
 (.reg (.box 8 2 (.s 0) <|
 oq 4 (.mv (.k (.bool false))) <|
 .nil) [1, 2])
 (.seq
 (.reg (oq 5 (.load true 8 (.s 2)) <|
 oq 6 (.mv (.s 1)) <|
 oq 7 (.call f_law00_light [.s 5, .s 6]) <|
 oq 8 (.bin .geq (.s 7) (.k (.int .i64 0))) <|
 oq 4 (.mv (.s 8)) <|
 .nil) [4])
 .ret))
def p_law00_Light : PFn := ⟨[.tmp 4], q_law00_Light⟩
def n_law00_Light : Fn := ⟨2, [.tmp 4], false, false, erase q_law00_Light⟩
def q_tree_Set : PC :=
 (.seq
 (.reg (.box 8 3 (.s 0) <|
 .box 1 4 (.s 1) <|
 .box 8 5 (.s 2) <|
 oq 6 (.alloc zt8) <|
 .nil) [3, 4, 5, 6])
 (.seq
 (.reg (oq 14 (.load true 8 (.s 3)) <|
 oq 15 (.call f_tree_cut [.s 14]) <|
 oq 13 (.mv (.s 15)) <|
 oq 16 (.ext (.s 13) 0) <|
 oq 17 (.ext (.s 13) 1) <|
 oq 7 (.mv (.s 16)) <|
 oq 8 (.mv (.s 17)) <|
 .nil) [4, 5, 6, 7, 8])
 (.seq
 (.drw (oq 18 (.mv (.s 7)) <|
 oq 19 (.len (.s 18)) <|
 oq 21 (.mv (.s 8)) <|
 oq 22 (.len (.s 21)) <|
 oq 20 (.mks [(.str [])] 16 (.s 19) (.s 19)) <|
 oq 23 (.mks zt8 120 (.s 22) (.s 22)) <|
 .nil)
 (oq 9 (.mv (.s 20)) <|
 .nil)
 (oq 10 (.mv (.s 23)) <|
 .nil) [4, 5, 6, 7, 8, 9, 10])
 (.seq
 (.reg (oq 24 (.mv (.s 9)) <|
 oq 25 (.mv (.s 7)) <|
 oq 26 (.cpy 1 (.s 24) (.s 25)) <|
 .nil) [4, 5, 6, 8, 9, 10])
 (.seq
 (.reg (oq 27 (.mv (.s 10)) <|
 oq 28 (.mv (.s 8)) <|
 oq 29 (.cpy 8 (.s 27) (.s 28)) <|
 .nil) [4, 5, 6, 9, 10])
 (.seq
 (.seq
 (.reg (oq 30 (.mv (.s 9)) <|
 oq 31 (.load false 1 (.s 4)) <|
 oq 32 (.call f_slices_Index_string [.s 30, .s 31]) <|
 oq 11 (.mv (.s 32)) <|
 .nil) [4, 5, 6, 9, 10, 11])
 (.seq
 (.reg (oq 33 (.mv (.s 11)) <|
 oq 34 (.bin .geq (.s 33) (.k (.int .i64 0))) <|
 .nil) [4, 5, 6, 9, 10, 11, 34])
 (.cond (.s 34)
 (.seq
 (.reg (oq 35 (.mv (.s 10)) <|
 oq 36 (.mv (.s 11)) <|
 oq 37 (.load true 8 (.s 5)) <|
 oq 38 (.iad 8 (.s 35) (.s 36)) <|
 oz (.store 8 (.s 38) (.s 37)) <|
 .nil) [6, 9, 10])
 (.seq
 (.reg (oq 39 (.mv (.s 9)) <|
 oq 40 (.mv (.s 10)) <|
 oq 41 (.build zt8 [(0, 1, (.k (.int .i64 7))), (6, 1, (.s 39)), (7, 1, (.s 40))]) <|
 oz (.store 8 (.s 6) (.s 41)) <|
 .nil) [6])
 .ret))
 .skip)))
 (.seq
 (.reg (oq 42 (.mv (.s 9)) <|
 oq 43 (.mkf f_tree_Set_1 [.s 4]) <|
 oq 44 (.call f_slices_IndexFunc_string [.s 42, .s 43]) <|
 oq 12 (.mv (.s 44)) <|
 .nil) [4, 5, 6, 9, 10, 12])
 (.seq
 (.cut ⟨[(4, .same), (5, .same), (6, .same), (9, .same), (10, .same), (12, .v)], [.same, .same, .same, .same, .same, .same]⟩ [(.nrm, ⟨[(4, .same), (5, .same), (6, .same), (9, .same), (10, .same), (12, .v)], [.same, .same, .same, .same, .same, .same]⟩)]
 (.seq
 (.reg (oq 45 (.mv (.s 12)) <|
 oq 46 (.bin .lss (.s 45) (.k (.int .i64 0))) <|
 .nil) [4, 5, 6, 9, 10, 12, 46])
 (.cond (.s 46)
 (.reg (oq 47 (.mv (.s 9)) <|
 oq 48 (.len (.s 47)) <|
 oq 12 (.mv (.s 48)) <|
 .nil) [4, 5, 6, 9, 10, 12])
 .skip)))
 (.seq
 (.drw (.nil)
 (oq 49 (.mv (.s 9)) <|
 oq 50 (.mv (.s 12)) <|
 oq 51 (.load false 1 (.s 4)) <|
 oq 52 (.lit 1 [(.str [])] [(0, 1, (.s 51))]) <|
 oq 53 (.call f_slices_Insert_string [.s 49, .s 50, .s 52]) <|
 oq 54 (.mv (.s 10)) <|
 oq 55 (.mv (.s 12)) <|
 oq 56 (.load true 8 (.s 5)) <|
 oq 57 (.lit 1 zt8 [(0, 8, (.s 56))]) <|
 .nil)
 (oq 58 (.call f_slices_Insert_erratum_api_Tree [.s 54, .s 55, .s 57]) <|
 oq 59 (.build zt8 [(0, 1, (.k (.int .i64 7))), (6, 1, (.s 53)), (7, 1, (.s 58))]) <|
 oz (.store 8 (.s 6) (.s 59)) <|
 .nil) [6])
 .ret)))))))))
def p_tree_Set : PFn := ⟨[.cell 6 true 8], q_tree_Set⟩
def n_tree_Set : Fn := ⟨3, [.cell 6 true 8], false, false, erase q_tree_Set⟩
def q_tree_Member : PC :=
 (.seq
 (.reg (.box 8 2 (.s 0) <|
 oq 4 (.alloc zt8) <|
 oq 5 (.mv (.k (.bool false))) <|
 .nil) [1, 2, 4])
 (.seq
 (.reg (oq 10 (.load true 8 (.s 2)) <|
 oq 11 (.call f_tree_cut [.s 10]) <|
 oq 9 (.mv (.s 11)) <|
 oq 12 (.ext (.s 9) 0) <|
 oq 13 (.ext (.s 9) 1) <|
 oq 6 (.mv (.s 12)) <|
 oq 7 (.mv (.s 13)) <|
 .nil) [1, 4, 6, 7])
 (.seq
 (.seq
 (.reg (oq 14 (.mv (.s 6)) <|
 oq 15 (.mv (.s 1)) <|
 oq 16 (.call f_slices_Index_string [.s 14, .s 15]) <|
 oq 8 (.mv (.s 16)) <|
 .nil) [4, 7, 8])
 (.seq
 (.reg (oq 17 (.mv (.s 8)) <|
 oq 18 (.bin .geq (.s 17) (.k (.int .i64 0))) <|
 .nil) [4, 7, 8, 18])
 (.cond (.s 18)
 (.seq
 (.reg (oq 19 (.mv (.s 7)) <|
 oq 20 (.mv (.s 8)) <|
 oq 21 (.iad 8 (.s 19) (.s 20)) <|
 oq 22 (.load true 8 (.s 21)) <|
 oz (.store 8 (.s 4) (.s 22)) <|
 oq 5 (.mv (.k (.bool true))) <|
 .nil) [4, 5])
 .ret)
 .skip)))
 (.seq
 (.reg (oq 23 (.build zt8 []) <|
 oz (.store 8 (.s 4) (.s 23)) <|
 oq 5 (.mv (.k (.bool false))) <|
 .nil) [4, 5])
 .ret))))
def p_tree_Member : PFn := ⟨[.cell 4 true 8, .tmp 5], q_tree_Member⟩
def n_tree_Member : Fn := ⟨2, [.cell 4 true 8, .tmp 5], false, false, erase q_tree_Member⟩
def q_tree_Unset : PC :=
 (.seq
 (.reg (.box 8 2 (.s 0) <|
 oq 4 (.alloc zt8) <|
 .nil) [1, 2, 4])
 (.seq
 (.reg (oq 9 (.load true 8 (.s 2)) <|
 oq 10 (.call f_tree_cut [.s 9]) <|
 oq 8 (.mv (.s 10)) <|
 oq 11 (.ext (.s 8) 0) <|
 oq 12 (.ext (.s 8) 1) <|
 oq 5 (.mv (.s 11)) <|
 oq 6 (.mv (.s 12)) <|
 .nil) [1, 2, 4, 5, 6])
 (.seq
 (.reg (oq 13 (.mv (.s 5)) <|
 oq 14 (.mv (.s 1)) <|
 oq 15 (.call f_slices_Index_string [.s 13, .s 14]) <|
 oq 7 (.mv (.s 15)) <|
 .nil) [2, 4, 5, 6, 7])
 (.seq
 (.seq
 (.reg (oq 16 (.mv (.s 7)) <|
 oq 17 (.bin .lss (.s 16) (.k (.int .i64 0))) <|
 .nil) [2, 4, 5, 6, 7, 17])
 (.cond (.s 17)
 (.seq
 (.reg (oq 18 (.load true 8 (.s 2)) <|
 oz (.store 8 (.s 4) (.s 18)) <|
 .nil) [4])
 .ret)
 .skip))
 (.seq
 (.drw (.nil)
 (oq 19 (.mv (.s 5)) <|
 oq 20 (.mv (.s 7)) <|
 oq 21 (.slc 1 (.s 19) none (some (.s 20)) none) <|
 oq 22 (.mv (.s 5)) <|
 oq 23 (.mv (.s 7)) <|
 oq 24 (.bin .add (.s 23) (.k (.int .i64 1))) <|
 oq 25 (.slc 1 (.s 22) (some (.s 24)) none none) <|
 oq 26 (.lit 2 [(.sl .full 0 [])] [(0, 1, (.s 21)), (1, 1, (.s 25))]) <|
 oq 27 (.call f_slices_Concat_string [.s 26]) <|
 oq 28 (.mv (.s 6)) <|
 oq 29 (.mv (.s 7)) <|
 oq 30 (.slc 8 (.s 28) none (some (.s 29)) none) <|
 oq 31 (.mv (.s 6)) <|
 oq 32 (.mv (.s 7)) <|
 oq 33 (.bin .add (.s 32) (.k (.int .i64 1))) <|
 oq 34 (.slc 8 (.s 31) (some (.s 33)) none none) <|
 oq 35 (.lit 2 [(.sl .full 0 [])] [(0, 1, (.s 30)), (1, 1, (.s 34))]) <|
 .nil)
 (oq 36 (.call f_slices_Concat_erratum_api_Tree [.s 35]) <|
 oq 37 (.build zt8 [(0, 1, (.k (.int .i64 7))), (6, 1, (.s 27)), (7, 1, (.s 36))]) <|
 oz (.store 8 (.s 4) (.s 37)) <|
 .nil) [4])
 .ret)))))
def p_tree_Unset : PFn := ⟨[.cell 4 true 8], q_tree_Unset⟩
def n_tree_Unset : Fn := ⟨2, [.cell 4 true 8], false, false, erase q_tree_Unset⟩
def q_tree_check : PC :=
 (.seq
 (.reg (.box 8 3 (.s 0) <|
 oq 6 (.mv (.k (.bool false))) <|
 .nil) [1, 2, 3])
 (.seq
 (.reg (oq 9 (.mv (.s 2)) <|
 oq 10 (.chk (.s 9)) <|
 oq 11 (.load false 1 (.s 10)) <|
 oq 12 (.bin .sub (.s 11) (.k (.int .i64 1))) <|
 oq 13 (.chk (.s 9)) <|
 oz (.store 1 (.s 13) (.s 12)) <|
 .nil) [1, 2, 3])
 (.seq
 (.seq
 (.reg (oq 14 (.mv (.s 2)) <|
 oq 15 (.chk (.s 14)) <|
 oq 16 (.load false 1 (.s 15)) <|
 oq 17 (.bin .lss (.s 16) (.k (.int .i64 0))) <|
 oq 18 (.mv (.s 17)) <|
 .grp 18 false (oq 19 (.mv (.s 1)) <|
 oq 20 (.bin .gtr (.s 19) (.k (.int .i64 64))) <|
 .nil) 21 (.s 20) (.k (.bool true)) <|
 oq 22 (.mv (.s 21)) <|
 .grp 22 false (oq 23 (.load true 8 (.s 3)) <|
 oq 24 (.call f_tree_own [.s 23]) <|
 oq 25 (.un .not (.s 24)) <|
 .nil) 26 (.s 25) (.k (.bool true)) <|
 .nil) [1, 2, 3, 26])
 (.cond (.s 26)
 (.seq
 (.reg (oq 6 (.mv (.k (.bool false))) <|
 .nil) [6])
 .ret)
 .skip))
 (.seq
 (.seq
 (.reg (oq 27 (.fad 7 (.s 3)) <|
 oq 28 (.load false 1 (.s 27)) <|
 oq 29 (.len (.s 28)) <|
 oq 30 (.mv (.k (.int .i64 0))) <|
 .nil) [1, 2, 28, 29, 30])
 (.blk 0
 (.loop ⟨[(1, .same), (2, .same), (28, .same), (29, .same), (30, .v)], [(.cells [.v]), .same]⟩ [(.ext 0, ⟨[], [(.cells [.v]), .same]⟩), (.ret, ⟨[(6, .v)], [(.cells [.v]), .same]⟩)]
 (.seq
 (.reg (oq 31 (.bin .lss (.s 30) (.s 29)) <|
 .nil) [1, 2, 28, 29, 30, 31])
 (.seq
 (.cond (.s 31)
 .skip
 (.exit 0))
 (.seq
 (.blk 1
 (.seq
 (.reg (oq 32 (.iad 8 (.s 28) (.s 30)) <|
 oq 33 (.load true 8 (.s 32)) <|
 oq 8 (.alloc zt8) <|
 oz (.store 8 (.s 8) (.s 33)) <|
 .nil) [1, 2, 8, 28, 29, 30])
 (.seq
 (.reg (oq 34 (.load true 8 (.s 8)) <|
 oq 35 (.mv (.s 1)) <|
 oq 36 (.bin .add (.s 35) (.k (.int .i64 1))) <|
 oq 37 (.mv (.s 2)) <|
 oq 38 (.call f_tree_check [.s 34, .s 36, .s 37]) <|
 oq 39 (.un .not (.s 38)) <|
 .nil) [1, 2, 28, 29, 30, 39])
 (.cond (.s 39)
 (.seq
 (.reg (oq 6 (.mv (.k (.bool false))) <|
 .nil) [6])
 .ret)
 .skip))))
 (.reg (oq 40 (.bin .add (.s 30) (.k (.int .i64 1))) <|
 oq 30 (.mv (.s 40)) <|
 .nil) [1, 2, 28, 29, 30])))))))
 (.seq
 (.reg (oq 6 (.mv (.k (.bool true))) <|
 .nil) [6])
 .ret)))))
def p_tree_check : PFn := ⟨[.tmp 6], q_tree_check⟩
def n_tree_check : Fn := ⟨3, [.tmp 6], false, false, erase q_tree_check⟩
def q_num_Same : PC :=
 (.seq
 (.reg (.box 3 2 (.s 0) <|
 .box 3 3 (.s 1) <|
 oq 4 (.mv (.k (.bool false))) <|
 .nil) [2, 3])
 (.seq
 (.drw (.nil)
 (oq 5 (.load true 3 (.s 2)) <|
 oq 6 (.call f_num_of [.s 5]) <|
 oq 7 (.load true 3 (.s 3)) <|
 .nil)
 (oq 8 (.call f_num_of [.s 7]) <|
 oz (.store 3 (.s 2) (.s 6)) <|
 oz (.store 3 (.s 3) (.s 8)) <|
 .nil) [2, 3])
 (.seq
 (.reg (oq 9 (.fad 0 (.s 2)) <|
 oq 10 (.load false 1 (.s 9)) <|
 oq 11 (.fad 0 (.s 3)) <|
 oq 12 (.load false 1 (.s 11)) <|
 oq 13 (.beq false (.s 10) (.s 12)) <|
 oq 14 (.mv (.s 13)) <|
 .grp 14 true (oq 15 (.fad 2 (.s 2)) <|
 oq 16 (.load false 1 (.s 15)) <|
 oq 17 (.fad 2 (.s 3)) <|
 oq 18 (.load false 1 (.s 17)) <|
 oq 19 (.bin .eql (.s 16) (.s 18)) <|
 .nil) 20 (.s 19) (.k (.bool false)) <|
 oq 21 (.mv (.s 20)) <|
 .grp 21 true (oq 22 (.fad 1 (.s 2)) <|
 oq 23 (.load false 1 (.s 22)) <|
 oq 24 (.fad 1 (.s 3)) <|
 oq 25 (.load false 1 (.s 24)) <|
 oq 26 (.call f_slices_Equal_uint32 [.s 23, .s 25]) <|
 .nil) 27 (.s 26) (.k (.bool false)) <|
 oq 4 (.mv (.s 27)) <|
 .nil) [4])
 .ret)))
def p_num_Same : PFn := ⟨[.tmp 4], q_num_Same⟩
def n_num_Same : Fn := ⟨2, [.tmp 4], false, false, erase q_num_Same⟩
def q_slices_Equal_string : PC :=
 (.seq
 (.reg (oq 4 (.mv (.k (.bool false))) <|
 .nil) [0, 1])
 (.seq
 (.seq
 (.reg (oq 6 (.mv (.s 0)) <|
 oq 7 (.len (.s 6)) <|
 oq 8 (.mv (.s 1)) <|
 oq 9 (.len (.s 8)) <|
 oq 10 (.bin .neq (.s 7) (.s 9)) <|
 .nil) [0, 1, 10])
 (.cond (.s 10)
 (.seq
 (.reg (oq 4 (.mv (.k (.bool false))) <|
 .nil) [4])
 .ret)
 .skip))
 (.seq
 (.seq
 (.reg (oq 11 (.mv (.s 0)) <|
 oq 12 (.len (.s 11)) <|
 oq 13 (.mv (.k (.int .i64 0))) <|
 .nil) [0, 1, 12, 13])
 (.blk 0
 (.loop ⟨[(0, .same), (1, .same), (12, .same), (13, .v)], []⟩ [(.ext 0, ⟨[], []⟩), (.ret, ⟨[(4, .v)], []⟩)]
 (.seq
 (.reg (oq 14 (.bin .lss (.s 13) (.s 12)) <|
 .nil) [0, 1, 12, 13, 14])
 (.seq
 (.cond (.s 14)
 .skip
 (.exit 0))
 (.seq
 (.blk 1
 (.seq
 (.reg (oq 15 (.mv (.s 13)) <|
 oq 5 (.mv (.s 15)) <|
 .nil) [0, 1, 5, 12, 13])
 (.seq
 (.drw (.nil)
 (oq 16 (.mv (.s 0)) <|
 oq 17 (.mv (.s 5)) <|
 oq 18 (.iad 1 (.s 16) (.s 17)) <|
 oq 19 (.load false 1 (.s 18)) <|
 oq 20 (.mv (.s 1)) <|
 oq 21 (.mv (.s 5)) <|
 oq 22 (.iad 1 (.s 20) (.s 21)) <|
 oq 23 (.load false 1 (.s 22)) <|
 .nil)
 (oq 24 (.bin .neq (.s 19) (.s 23)) <|
 .nil) [0, 1, 12, 13, 24])
 (.cond (.s 24)
 (.seq
 (.reg (oq 4 (.mv (.k (.bool false))) <|
 .nil) [4])
 .ret)
 .skip))))
 (.reg (oq 25 (.bin .add (.s 13) (.k (.int .i64 1))) <|
 oq 13 (.mv (.s 25)) <|
 .nil) [0, 1, 12, 13])))))))
 (.seq
 (.reg (oq 4 (.mv (.k (.bool true))) <|
 .nil) [4])
 .ret))))
def p_slices_Equal_string : PFn := ⟨[.tmp 4], q_slices_Equal_string⟩
def n_slices_Equal_string : Fn := ⟨2, [.tmp 4], false, false, erase q_slices_Equal_string⟩
def q_slices_EqualFunc_erratum_api_Tree : PC :=
 (.seq
 (.reg (oq 6 (.mv (.k (.bool false))) <|
 .nil) [0, 1, 2])
 (.seq
 (.seq
 (.reg (oq 10 (.mv (.s 0)) <|
 oq 11 (.len (.s 10)) <|
 oq 12 (.mv (.s 1)) <|
 oq 13 (.len (.s 12)) <|
 oq 14 (.bin .neq (.s 11) (.s 13)) <|
 .nil) [0, 1, 2, 14])
 (.cond (.s 14)
 (.seq
 (.reg (oq 6 (.mv (.k (.bool false))) <|
 .nil) [6])
 .ret)
 .skip))
 (.seq
 (.seq
 (.reg (oq 15 (.mv (.s 0)) <|
 oq 16 (.len (.s 15)) <|
 oq 17 (.mv (.k (.int .i64 0))) <|
 .nil) [1, 2, 15, 16, 17])
 (.blk 0
 (.loop ⟨[(1, .same), (2, .same), (15, .same), (16, .same), (17, .v)], []⟩ [(.ext 0, ⟨[], []⟩), (.ret, ⟨[(6, .v)], []⟩)]
 (.seq
 (.reg (oq 18 (.bin .lss (.s 17) (.s 16)) <|
 .nil) [1, 2, 15, 16, 17, 18])
 (.seq
 (.cond (.s 18)
 .skip
 (.exit 0))
 (.seq
 (.blk 1
 (.seq
 (.reg (oq 19 (.mv (.s 17)) <|
 oq 20 (.iad 8 (.s 15) (.s 17)) <|
 oq 21 (.load true 8 (.s 20)) <|
 oq 8 (.alloc zt8) <|
 oq 7 (.mv (.s 19)) <|
 oz (.store 8 (.s 8) (.s 21)) <|
 .nil) [1, 2, 7, 8, 15, 16, 17])
 (.seq
 (.reg (oq 22 (.mv (.s 1)) <|
 oq 23 (.mv (.s 7)) <|
 oq 24 (.iad 8 (.s 22) (.s 23)) <|
 oq 25 (.load true 8 (.s 24)) <|
 oq 9 (.alloc zt8) <|
 oz (.store 8 (.s 9) (.s 25)) <|
 .nil) [1, 2, 8, 9, 15, 16, 17])
 (.seq
 (.reg (oq 26 (.mv (.s 2)) <|
 oq 27 (.load true 8 (.s 8)) <|
 oq 28 (.load true 8 (.s 9)) <|
 oq 29 (.callv (.s 26) [.s 27, .s 28]) <|
 oq 30 (.un .not (.s 29)) <|
 .nil) [1, 2, 15, 16, 17, 30])
 (.cond (.s 30)
 (.seq
 (.reg (oq 6 (.mv (.k (.bool false))) <|
 .nil) [6])
 .ret)
 .skip)))))
 (.reg (oq 31 (.bin .add (.s 17) (.k (.int .i64 1))) <|
 oq 17 (.mv (.s 31)) <|
 .nil) [1, 2, 15, 16, 17])))))))
 (.seq
 (.reg (oq 6 (.mv (.k (.bool true))) <|
 .nil) [6])
 .ret))))
def p_slices_EqualFunc_erratum_api_Tree : PFn := ⟨[.tmp 6], q_slices_EqualFunc_erratum_api_Tree⟩
def n_slices_EqualFunc_erratum_api_Tree : Fn := ⟨3, [.tmp 6], false, false, erase q_slices_EqualFunc_erratum_api_Tree⟩
def q_law00_light : PC :=
 (.seq
 (.reg (.box 8 2 (.s 0) <|
 oq 4 (.mv (.k (.int .i64 0))) <|
 .nil) [1, 2])
 (.seq
 (.reg (oq 7 (.mv (.s 1)) <|
 oq 8 (.bin .sub (.s 7) (.k (.int .i64 1))) <|
 oq 1 (.mv (.s 8)) <|
 .nil) [1, 2])
 (.seq
 (.seq
 (.reg (oq 9 (.fad 2 (.s 2)) <|
 oq 10 (.fad 1 (.s 9)) <|
 oq 11 (.load false 1 (.s 10)) <|
 oq 12 (.len (.s 11)) <|
 oq 13 (.bin .gtr (.s 12) (.k (.int .i64 95))) <|
 oq 14 (.mv (.s 13)) <|
 .grp 14 false (oq 15 (.fad 5 (.s 2)) <|
 oq 16 (.load false 1 (.s 15)) <|
 oq 17 (.lns (.s 16)) <|
 oq 18 (.bin .gtr (.s 17) (.k (.int .i64 2100))) <|
 .nil) 19 (.s 18) (.k (.bool true)) <|
 oq 20 (.mv (.s 19)) <|
 .grp 20 false (oq 21 (.fad 6 (.s 2)) <|
 oq 22 (.load false 1 (.s 21)) <|
 oq 23 (.len (.s 22)) <|
 oq 24 (.bin .gtr (.s 23) (.k (.int .i64 40))) <|
 .nil) 25 (.s 24) (.k (.bool true)) <|
 oq 26 (.mv (.s 25)) <|
 .grp 26 false (oq 27 (.fad 7 (.s 2)) <|
 oq 28 (.load false 1 (.s 27)) <|
 oq 29 (.len (.s 28)) <|
 oq 30 (.bin .gtr (.s 29) (.k (.int .i64 40))) <|
 .nil) 31 (.s 30) (.k (.bool true)) <|
 .nil) [1, 2, 31])
 (.cond (.s 31)
 (.seq
 (.reg (oq 4 (.mv (.k (.int .i64 (-1)))) <|
 .nil) [4])
 .ret)
 .skip))
 (.seq
 (.seq
 (.reg (oq 5 (.mv (.k (.int .i64 0))) <|
 .nil) [1, 2, 5])
 (.blk 0
 (.loop ⟨[(1, .same), (2, .same), (5, .v)], [.same]⟩ [(.ext 0, ⟨[(1, .same), (2, .same)], [.same]⟩), (.ret, ⟨[(4, .v)], [.same]⟩)]
 (.seq
 (.seq
 (.reg (oq 32 (.mv (.s 5)) <|
 oq 33 (.fad 6 (.s 2)) <|
 oq 34 (.load false 1 (.s 33)) <|
 oq 35 (.len (.s 34)) <|
 oq 36 (.bin .lss (.s 32) (.s 35)) <|
 .nil) [1, 2, 5, 36])
 (.cond (.s 36)
 .skip
 (.exit 0)))
 (.seq
 (.blk 1
 (.seq
 (.reg (oq 39 (.fad 6 (.s 2)) <|
 oq 40 (.load false 1 (.s 39)) <|
 oq 41 (.mv (.s 5)) <|
 oq 42 (.iad 1 (.s 40) (.s 41)) <|
 oq 43 (.load false 1 (.s 42)) <|
 oq 44 (.lns (.s 43)) <|
 oq 45 (.bin .gtr (.s 44) (.k (.int .i64 2100))) <|
 .nil) [1, 2, 5, 45])
 (.cond (.s 45)
 (.seq
 (.reg (oq 4 (.mv (.k (.int .i64 (-1)))) <|
 .nil) [4])
 .ret)
 .skip)))
 (.reg (oq 37 (.mv (.s 5)) <|
 oq 38 (.bin .add (.s 37) (.k (.int .i64 1))) <|
 oq 5 (.mv (.s 38)) <|
 .nil) [1, 2, 5]))))))
 (.seq
 (.seq
 (.reg (oq 6 (.mv (.k (.int .i64 0))) <|
 .nil) [1, 2, 6])
 (.blk 2
 (.loop ⟨[(1, .v), (2, .same), (6, .v)], [.same]⟩ [(.ext 2, ⟨[(1, .v)], [.same]⟩)]
 (.seq
 (.seq
 (.reg (oq 46 (.mv (.s 6)) <|
 oq 47 (.fad 7 (.s 2)) <|
 oq 48 (.load false 1 (.s 47)) <|
 oq 49 (.len (.s 48)) <|
 oq 50 (.bin .lss (.s 46) (.s 49)) <|
 oq 51 (.mv (.s 50)) <|
 .grp 51 true (oq 52 (.mv (.s 1)) <|
 oq 53 (.bin .geq (.s 52) (.k (.int .i64 0))) <|
 .nil) 54 (.s 53) (.k (.bool false)) <|
 .nil) [1, 2, 6, 54])
 (.cond (.s 54)
 .skip
 (.exit 2)))
 (.seq
 (.blk 3
 (.reg (oq 57 (.fad 7 (.s 2)) <|
 oq 58 (.load false 1 (.s 57)) <|
 oq 59 (.mv (.s 6)) <|
 oq 60 (.iad 8 (.s 58) (.s 59)) <|
 oq 61 (.load true 8 (.s 60)) <|
 oq 62 (.mv (.s 1)) <|
 oq 63 (.call f_law00_light [.s 61, .s 62]) <|
 oq 1 (.mv (.s 63)) <|
 .nil) [1, 2, 6]))
 (.reg (oq 55 (.mv (.s 6)) <|
 oq 56 (.bin .add (.s 55) (.k (.int .i64 1))) <|
 oq 6 (.mv (.s 56)) <|
 .nil) [1, 2, 6]))))))
 (.seq
 (.reg (oq 64 (.mv (.s 1)) <|
 oq 4 (.mv (.s 64)) <|
 .nil) [4])
 .ret))))))
def p_law00_light : PFn := ⟨[.tmp 4], q_law00_light⟩
def n_law00_light : Fn := ⟨2, [.tmp 4], false, false, erase q_law00_light⟩
def q_tree_cut : PC :=
 (.seq
 (.reg (.box 8 1 (.s 0) <|
 oq 2 (.mv (.k (.sl .full 0 []))) <|
 oq 3 (.mv (.k (.sl .full 0 []))) <|
 .nil) [1])
 (.seq
 (.seq
 (.reg (oq 5 (.fad 0 (.s 1)) <|
 oq 6 (.load false 1 (.s 5)) <|
 oq 7 (.bin .neq (.s 6) (.k (.int .i64 7))) <|
 .nil) [1, 7])
 (.cond (.s 7)
 (.seq
 (.reg (oq 2 (.mv (.k (.sl .full 0 []))) <|
 oq 3 (.mv (.k (.sl .full 0 []))) <|
 .nil) [2, 3])
 .ret)
 .skip))
 (.seq
 (.reg (oq 8 (.fad 6 (.s 1)) <|
 oq 9 (.load false 1 (.s 8)) <|
 oq 10 (.len (.s 9)) <|
 oq 11 (.fad 7 (.s 1)) <|
 oq 12 (.load false 1 (.s 11)) <|
 oq 13 (.len (.s 12)) <|
 oq 14 (.min [.s 10, .s 13]) <|
 oq 4 (.mv (.s 14)) <|
 .nil) [1, 4])
 (.seq
 (.drw (.nil)
 (oq 15 (.fad 6 (.s 1)) <|
 oq 16 (.load false 1 (.s 15)) <|
 oq 17 (.mv (.s 4)) <|
 oq 18 (.mv (.s 4)) <|
 oq 19 (.slc 1 (.s 16) none (some (.s 17)) (some (.s 18))) <|
 oq 20 (.fad 7 (.s 1)) <|
 oq 21 (.load false 1 (.s 20)) <|
 oq 22 (.mv (.s 4)) <|
 oq 23 (.mv (.s 4)) <|
 oq 24 (.slc 8 (.s 21) none (some (.s 22)) (some (.s 23))) <|
 oq 2 (.mv (.s 19)) <|
 .nil)
 (oq 3 (.mv (.s 24)) <|
 .nil) [2, 3])
 .ret))))
def p_tree_cut : PFn := ⟨[.tmp 2, .tmp 3], q_tree_cut⟩
def n_tree_cut : Fn := ⟨1, [.tmp 2, .tmp 3], false, false, erase q_tree_cut⟩
def q_slices_Index_string : PC :=
 (.seq
 (.reg (oq 4 (.mv (.k (.int .i64 0))) <|
 .nil) [0, 1])
 (.seq
 (.seq
 (.reg (oq 6 (.mv (.s 0)) <|
 oq 7 (.len (.s 6)) <|
 oq 8 (.mv (.k (.int .i64 0))) <|
 .nil) [0, 1, 7, 8])
 (.blk 0
 (.loop ⟨[(0, .same), (1, .same), (7, .same), (8, .v)], []⟩ [(.ext 0, ⟨[], []⟩), (.ret, ⟨[(4, .v)], []⟩)]
 (.seq
 (.reg (oq 9 (.bin .lss (.s 8) (.s 7)) <|
 .nil) [0, 1, 7, 8, 9])
 (.seq
 (.cond (.s 9)
 .skip
 (.exit 0))
 (.seq
 (.blk 1
 (.seq
 (.reg (oq 10 (.mv (.s 8)) <|
 oq 5 (.mv (.s 10)) <|
 .nil) [0, 1, 5, 7, 8])
 (.seq
 (.reg (oq 11 (.mv (.s 1)) <|
 oq 12 (.mv (.s 0)) <|
 oq 13 (.mv (.s 5)) <|
 oq 14 (.iad 1 (.s 12) (.s 13)) <|
 oq 15 (.load false 1 (.s 14)) <|
 oq 16 (.bin .eql (.s 11) (.s 15)) <|
 .nil) [0, 1, 5, 7, 8, 16])
 (.cond (.s 16)
 (.seq
 (.reg (oq 17 (.mv (.s 5)) <|
 oq 4 (.mv (.s 17)) <|
 .nil) [4])
 .ret)
 .skip))))
 (.reg (oq 18 (.bin .add (.s 8) (.k (.int .i64 1))) <|
 oq 8 (.mv (.s 18)) <|
 .nil) [0, 1, 7, 8])))))))
 (.seq
 (.reg (oq 4 (.mv (.k (.int .i64 (-1)))) <|
 .nil) [4])
 .ret)))
def p_slices_Index_string : PFn := ⟨[.tmp 4], q_slices_Index_string⟩
def n_slices_Index_string : Fn := ⟨2, [.tmp 4], false, false, erase q_slices_Index_string⟩
def q_slices_IndexFunc_string : PC :=
 (.seq
 (.reg (oq 4 (.mv (.k (.int .i64 0))) <|
 .nil) [0, 1])
 (.seq
 (.seq
 (.reg (oq 6 (.mv (.s 0)) <|
 oq 7 (.len (.s 6)) <|
 oq 8 (.mv (.k (.int .i64 0))) <|
 .nil) [0, 1, 7, 8])
 (.blk 0
 (.loop ⟨[(0, .same), (1, .same), (7, .same), (8, .v)], [.same]⟩ [(.ext 0, ⟨[], [.same]⟩), (.ret, ⟨[(4, .v)], [.same]⟩)]
 (.seq
 (.reg (oq 9 (.bin .lss (.s 8) (.s 7)) <|
 .nil) [0, 1, 7, 8, 9])
 (.seq
 (.cond (.s 9)
 .skip
 (.exit 0))
 (.seq
 (.blk 1
 (.seq
 (.reg (oq 10 (.mv (.s 8)) <|
 oq 5 (.mv (.s 10)) <|
 .nil) [0, 1, 5, 7, 8])
 (.seq
 (.reg (oq 11 (.mv (.s 1)) <|
 oq 12 (.mv (.s 0)) <|
 oq 13 (.mv (.s 5)) <|
 oq 14 (.iad 1 (.s 12) (.s 13)) <|
 oq 15 (.load false 1 (.s 14)) <|
 oq 16 (.callv (.s 11) [.s 15]) <|
 .nil) [0, 1, 5, 7, 8, 16])
 (.cond (.s 16)
 (.seq
 (.reg (oq 17 (.mv (.s 5)) <|
 oq 4 (.mv (.s 17)) <|
 .nil) [4])
 .ret)
 .skip))))
 (.reg (oq 18 (.bin .add (.s 8) (.k (.int .i64 1))) <|
 oq 8 (.mv (.s 18)) <|
 .nil) [0, 1, 7, 8])))))))
 (.seq
 (.reg (oq 4 (.mv (.k (.int .i64 (-1)))) <|
 .nil) [4])
 .ret)))
def p_slices_IndexFunc_string : PFn := ⟨[.tmp 4], q_slices_IndexFunc_string⟩
def n_slices_IndexFunc_string : Fn := ⟨2, [.tmp 4], false, false, erase q_slices_IndexFunc_string⟩
def q_tree_Set_1 : PC :=
 (.seq
 (.reg (oq 3 (.mv (.k (.bool false))) <|
 .nil) [0, 1])
 (.seq
 (.reg (oq 4 (.mv (.s 0)) <|
 oq 5 (.load false 1 (.s 1)) <|
 oq 6 (.bin .gtr (.s 4) (.s 5)) <|
 oq 3 (.mv (.s 6)) <|
 .nil) [3])
 .ret))
def p_tree_Set_1 : PFn := ⟨[.tmp 3], q_tree_Set_1⟩
def n_tree_Set_1 : Fn := ⟨1, [.tmp 3], false, false, erase q_tree_Set_1⟩
def q_slices_Concat_string : PC :=
 (.seq
 (.reg (oq 2 (.mv (.k (.sl .full 0 []))) <|
 .nil) [0])
 (.seq
 (.reg (oq 3 (.mv (.k (.int .i64 0))) <|
 .nil) [0, 3])
 (.seq
 (.seq
 (.reg (oq 9 (.mv (.s 0)) <|
 oq 10 (.len (.s 9)) <|
 oq 11 (.mv (.k (.int .i64 0))) <|
 .nil) [0, 3, 9, 10, 11])
 (.blk 0
 (.loop ⟨[(0, .same), (3, .v), (9, .same), (10, .same), (11, .v)], []⟩ [(.ext 0, ⟨[(0, .same), (3, .v)], []⟩)]
 (.seq
 (.reg (oq 12 (.bin .lss (.s 11) (.s 10)) <|
 .nil) [0, 3, 9, 10, 11, 12])
 (.seq
 (.cond (.s 12)
 .skip
 (.exit 0))
 (.seq
 (.blk 1
 (.seq
 (.reg (oq 13 (.iad 1 (.s 9) (.s 11)) <|
 oq 14 (.load false 1 (.s 13)) <|
 oq 5 (.mv (.s 14)) <|
 .nil) [0, 3, 5, 9, 10, 11])
 (.seq
 (.reg (oq 15 (.mv (.s 3)) <|
 oq 16 (.mv (.s 5)) <|
 oq 17 (.len (.s 16)) <|
 oq 18 (.bin .add (.s 15) (.s 17)) <|
 oq 3 (.mv (.s 18)) <|
 .nil) [0, 3, 9, 10, 11])
 (.seq
 (.reg (oq 19 (.mv (.s 3)) <|
 oq 20 (.bin .lss (.s 19) (.k (.int .i64 0))) <|
 .nil) [0, 3, 9, 10, 11, 20])
 (.cond (.s 20)
 (.reg (oq 21 (.ifc 9 (.k (.str [108, 101, 110, 32, 111, 117, 116, 32, 111, 102, 32, 114, 97, 110, 103, 101]))) <|
 oz (.pan (.s 21)) <|
 .nil) [0, 3, 9, 10, 11])
 .skip)))))
 (.reg (oq 22 (.bin .add (.s 11) (.k (.int .i64 1))) <|
 oq 11 (.mv (.s 22)) <|
 .nil) [0, 3, 9, 10, 11])))))))
 (.seq
 (.reg (oq 23 (.mv (.s 3)) <|
 oq 24 (.call f_slices_Grow_string [(.k (.sl .full 0 [])), .s 23]) <|
 oq 6 (.mv (.s 24)) <|
 .nil) [0, 6])
 (.seq
 (.seq
 (.reg (oq 25 (.mv (.s 0)) <|
 oq 26 (.len (.s 25)) <|
 oq 27 (.mv (.k (.int .i64 0))) <|
 .nil) [6, 25, 26, 27])
 (.blk 2
 (.loop ⟨[(6, (.own 1)), (25, .same), (26, .same), (27, .v)], []⟩ [(.ext 2, ⟨[(6, (.own 1))], []⟩)]
 (.seq
 (.reg (oq 28 (.bin .lss (.s 27) (.s 26)) <|
 .nil) [6, 25, 26, 27, 28])
 (.seq
 (.cond (.s 28)
 .skip
 (.exit 2))
 (.seq
 (.blk 3
 (.seq
 (.reg (oq 29 (.iad 1 (.s 25) (.s 27)) <|
 oq 30 (.load false 1 (.s 29)) <|
 oq 8 (.mv (.s 30)) <|
 .nil) [6, 8, 25, 26, 27])
 (.reg (oq 31 (.mv (.s 6)) <|
 oq 32 (.mv (.s 8)) <|
 oq 33 (.app 1 16 (.s 31) (.s 32)) <|
 oq 6 (.mv (.s 33)) <|
 .nil) [6, 25, 26, 27])))
 (.reg (oq 34 (.bin .add (.s 27) (.k (.int .i64 1))) <|
 oq 27 (.mv (.s 34)) <|
 .nil) [6, 25, 26, 27])))))))
 (.seq
 (.reg (oq 35 (.mv (.s 6)) <|
 oq 2 (.mv (.s 35)) <|
 .nil) [2])
 .ret))))))
def p_slices_Concat_string : PFn := ⟨[.tmp 2], q_slices_Concat_string⟩
def n_slices_Concat_string : Fn := ⟨1, [.tmp 2], false, false, erase q_slices_Concat_string⟩
def q_slices_Concat_erratum_api_Tree : PC :=
 (.seq
 (.reg (oq 2 (.mv (.k (.sl .full 0 []))) <|
 .nil) [0])
 (.seq
 (.reg (oq 3 (.mv (.k (.int .i64 0))) <|
 .nil) [0, 3])
 (.seq
 (.seq
 (.reg (oq 9 (.mv (.s 0)) <|
 oq 10 (.len (.s 9)) <|
 oq 11 (.mv (.k (.int .i64 0))) <|
 .nil) [0, 3, 9, 10, 11])
 (.blk 0
 (.loop ⟨[(0, .same), (3, .v), (9, .same), (10, .same), (11, .v)], []⟩ [(.ext 0, ⟨[(0, .same), (3, .v)], []⟩)]
 (.seq
 (.reg (oq 12 (.bin .lss (.s 11) (.s 10)) <|
 .nil) [0, 3, 9, 10, 11, 12])
 (.seq
 (.cond (.s 12)
 .skip
 (.exit 0))
 (.seq
 (.blk 1
 (.seq
 (.reg (oq 13 (.iad 1 (.s 9) (.s 11)) <|
 oq 14 (.load false 1 (.s 13)) <|
 oq 5 (.mv (.s 14)) <|
 .nil) [0, 3, 5, 9, 10, 11])
 (.seq
 (.reg (oq 15 (.mv (.s 3)) <|
 oq 16 (.mv (.s 5)) <|
 oq 17 (.len (.s 16)) <|
 oq 18 (.bin .add (.s 15) (.s 17)) <|
 oq 3 (.mv (.s 18)) <|
 .nil) [0, 3, 9, 10, 11])
 (.seq
 (.reg (oq 19 (.mv (.s 3)) <|
 oq 20 (.bin .lss (.s 19) (.k (.int .i64 0))) <|
 .nil) [0, 3, 9, 10, 11, 20])
 (.cond (.s 20)
 (.reg (oq 21 (.ifc 9 (.k (.str [108, 101, 110, 32, 111, 117, 116, 32, 111, 102, 32, 114, 97, 110, 103, 101]))) <|
 oz (.pan (.s 21)) <|
 .nil) [0, 3, 9, 10, 11])
 .skip)))))
 (.reg (oq 22 (.bin .add (.s 11) (.k (.int .i64 1))) <|
 oq 11 (.mv (.s 22)) <|
 .nil) [0, 3, 9, 10, 11])))))))
 (.seq
 (.reg (oq 23 (.mv (.s 3)) <|
 oq 24 (.call f_slices_Grow_erratum_api_Tree [(.k (.sl .full 0 [])), .s 23]) <|
 oq 6 (.mv (.s 24)) <|
 .nil) [0, 6])
 (.seq
 (.seq
 (.reg (oq 25 (.mv (.s 0)) <|
 oq 26 (.len (.s 25)) <|
 oq 27 (.mv (.k (.int .i64 0))) <|
 .nil) [6, 25, 26, 27])
 (.blk 2
 (.loop ⟨[(6, (.own 8)), (25, .same), (26, .same), (27, .v)], []⟩ [(.ext 2, ⟨[(6, (.own 8))], []⟩)]
 (.seq
 (.reg (oq 28 (.bin .lss (.s 27) (.s 26)) <|
 .nil) [6, 25, 26, 27, 28])
 (.seq
 (.cond (.s 28)
 .skip
 (.exit 2))
 (.seq
 (.blk 3
 (.seq
 (.reg (oq 29 (.iad 1 (.s 25) (.s 27)) <|
 oq 30 (.load false 1 (.s 29)) <|
 oq 8 (.mv (.s 30)) <|
 .nil) [6, 8, 25, 26, 27])
 (.reg (oq 31 (.mv (.s 6)) <|
 oq 32 (.mv (.s 8)) <|
 oq 33 (.app 8 120 (.s 31) (.s 32)) <|
 oq 6 (.mv (.s 33)) <|
 .nil) [6, 25, 26, 27])))
 (.reg (oq 34 (.bin .add (.s 27) (.k (.int .i64 1))) <|
 oq 27 (.mv (.s 34)) <|
 .nil) [6, 25, 26, 27])))))))
 (.seq
 (.reg (oq 35 (.mv (.s 6)) <|
 oq 2 (.mv (.s 35)) <|
 .nil) [2])
 .ret))))))
def p_slices_Concat_erratum_api_Tree : PFn := ⟨[.tmp 2], q_slices_Concat_erratum_api_Tree⟩
def n_slices_Concat_erratum_api_Tree : Fn := ⟨1, [.tmp 2], false, false, erase q_slices_Concat_erratum_api_Tree⟩
def q_tree_own : PC :=
 (.seq
 (.reg (.box 8 1 (.s 0) <|
 oq 2 (.mv (.k (.bool false))) <|
 .nil) [1])
 (.seq
 (.drw (.nil)
 (oq 8 (.fad 1 (.s 1)) <|
 oq 9 (.load false 1 (.s 8)) <|
 oq 10 (.un .not (.s 9)) <|
 oq 11 (.fad 2 (.s 1)) <|
 oq 12 (.fad 0 (.s 11)) <|
 oq 13 (.load false 1 (.s 12)) <|
 oq 14 (.un .not (.s 13)) <|
 oq 15 (.mv (.s 14)) <|
 .grp 15 true (oq 16 (.fad 2 (.s 1)) <|
 oq 17 (.fad 1 (.s 16)) <|
 oq 18 (.load false 1 (.s 17)) <|
 oq 19 (.len (.s 18)) <|
 oq 20 (.bin .eql (.s 19) (.k (.int .i64 0))) <|
 .nil) 21 (.s 20) (.k (.bool false)) <|
 oq 22 (.mv (.s 21)) <|
 .grp 22 true (oq 23 (.fad 2 (.s 1)) <|
 oq 24 (.fad 2 (.s 23)) <|
 oq 25 (.load false 1 (.s 24)) <|
 oq 26 (.bin .eql (.s 25) (.k (.int .i64 0))) <|
 .nil) 27 (.s 26) (.k (.bool false)) <|
 oq 28 (.fad 5 (.s 1)) <|
 oq 29 (.load false 1 (.s 28)) <|
 oq 30 (.bin .eql (.s 29) (.k (.str []))) <|
 oq 3 (.mv (.s 10)) <|
 oq 4 (.mv (.s 27)) <|
 .nil)
 (oq 5 (.mv (.s 30)) <|
 .nil) [1, 3, 4, 5])
 (.seq
 (.drw (.nil)
 (oq 31 (.fad 6 (.s 1)) <|
 oq 32 (.load false 1 (.s 31)) <|
 oq 33 (.len (.s 32)) <|
 oq 34 (.bin .eql (.s 33) (.k (.int .i64 0))) <|
 oq 35 (.fad 7 (.s 1)) <|
 oq 36 (.load false 1 (.s 35)) <|
 oq 37 (.len (.s 36)) <|
 oq 38 (.bin .eql (.s 37) (.k (.int .i64 0))) <|
 oq 6 (.mv (.s 34)) <|
 .nil)
 (oq 7 (.mv (.s 38)) <|
 .nil) [1, 3, 4, 5, 6, 7])
 (.seq
 (.cut ⟨[(1, .same), (3, .v), (4, .v), (5, .v), (6, .v), (7, .v)], [.same]⟩ [(.nrm, ⟨[(3, .v), (4, .v), (5, .v), (6, .v), (7, .v)], [.same]⟩), (.ret, ⟨[(2, .v)], [.same]⟩)]
 (.seq
 (.reg (oq 39 (.fad 0 (.s 1)) <|
 oq 40 (.load false 1 (.s 39)) <|
 .nil) [1, 3, 4, 5, 6, 7, 40])
 (.blk 0
 (.seq
 (.blk 8
 (.seq
 (.cut ⟨[(1, .same), (3, .v), (4, .v), (5, .v), (6, .v), (7, .same), (40, .same)], [.same]⟩ [(.ext 0, ⟨[(3, .v), (4, .v), (5, .v), (6, .v), (7, .same)], [.same]⟩), (.ext 8, ⟨[], [.same]⟩), (.nrm, ⟨[(1, .same), (3, .v), (4, .v), (5, .v), (6, .v)], [.same]⟩)]
 (.blk 7
 (.seq
 (.blk 6
 (.seq
 (.blk 5
 (.seq
 (.blk 4
 (.seq
 (.blk 3
 (.seq
 (.blk 2
 (.seq
 (.blk 1
 (.seq
 (.seq
 (.seq
 (.reg (oq 42 (.bin .eql (.s 40) (.k (.int .i64 1))) <|
 oq 41 (.mv (.s 42)) <|
 .nil) [1, 3, 4, 5, 6, 7, 40, 41])
 (.cond (.s 41)
 (.exit 1)
 .skip))
 (.seq
 (.seq
 (.reg (oq 44 (.bin .eql (.s 40) (.k (.int .i64 2))) <|
 oq 43 (.mv (.s 44)) <|
 .nil) [1, 3, 4, 5, 6, 7, 40, 43])
 (.cond (.s 43)
 (.exit 2)
 .skip))
 (.seq
 (.seq
 (.reg (oq 46 (.bin .eql (.s 40) (.k (.int .i64 3))) <|
 oq 45 (.mv (.s 46)) <|
 .nil) [1, 3, 4, 5, 6, 7, 40, 45])
 (.cond (.s 45)
 (.exit 3)
 .skip))
 (.seq
 (.seq
 (.reg (oq 48 (.bin .eql (.s 40) (.k (.int .i64 4))) <|
 oq 47 (.mv (.s 48)) <|
 .nil) [1, 3, 4, 5, 6, 7, 40, 47])
 (.cond (.s 47)
 (.exit 4)
 .skip))
 (.seq
 (.seq
 (.reg (oq 50 (.bin .eql (.s 40) (.k (.int .i64 5))) <|
 oq 49 (.mv (.s 50)) <|
 .nil) [1, 3, 4, 5, 6, 7, 40, 49])
 (.cond (.s 49)
 (.exit 5)
 .skip))
 (.seq
 (.seq
 (.reg (oq 52 (.bin .eql (.s 40) (.k (.int .i64 7))) <|
 oq 51 (.mv (.s 52)) <|
 .nil) [1, 3, 4, 5, 6, 40, 51])
 (.cond (.s 51)
 (.exit 6)
 .skip))
 (.seq
 (.reg (oq 54 (.bin .eql (.s 40) (.k (.int .i64 6))) <|
 oq 53 (.mv (.s 54)) <|
 .nil) [1, 3, 4, 5, 6, 53])
 (.cond (.s 53)
 (.exit 7)
 .skip))))))))
 (.exit 8)))
 (.exit 0)))
 (.seq
 (.reg (oq 3 (.mv (.k (.bool true))) <|
 .nil) [3, 4, 5, 6, 7])
 (.exit 0))))
 (.seq
 (.reg (oq 55 (.fad 2 (.s 1)) <|
 oq 56 (.load true 3 (.s 55)) <|
 oq 57 (.call f_num_Check [.s 56]) <|
 oq 4 (.mv (.s 57)) <|
 .nil) [3, 4, 5, 6, 7])
 (.exit 0))))
 (.seq
 (.reg (oq 58 (.fad 5 (.s 1)) <|
 oq 59 (.load false 1 (.s 58)) <|
 oq 60 (.call f_tree_text [.s 59]) <|
 oq 5 (.mv (.s 60)) <|
 .nil) [3, 4, 5, 6, 7])
 (.exit 0))))
 (.seq
 (.reg (oq 61 (.fad 5 (.s 1)) <|
 oq 62 (.load false 1 (.s 61)) <|
 oq 63 (.lns (.s 62)) <|
 oq 64 (.bin .leq (.s 63) (.k (.int .i64 2000))) <|
 oq 5 (.mv (.s 64)) <|
 .nil) [3, 4, 5, 6, 7])
 (.exit 0))))
 (.reg (oq 65 (.fad 6 (.s 1)) <|
 oq 66 (.load false 1 (.s 65)) <|
 oq 67 (.call f_tree_names [.s 66]) <|
 oq 68 (.mv (.s 67)) <|
 .grp 68 true (oq 69 (.fad 6 (.s 1)) <|
 oq 70 (.load false 1 (.s 69)) <|
 oq 71 (.len (.s 70)) <|
 oq 72 (.fad 7 (.s 1)) <|
 oq 73 (.load false 1 (.s 72)) <|
 oq 74 (.len (.s 73)) <|
 oq 75 (.bin .eql (.s 71) (.s 74)) <|
 .nil) 76 (.s 75) (.k (.bool false)) <|
 oq 6 (.mv (.s 76)) <|
 .nil) [1, 3, 4, 5, 6]))))
 (.seq
 (.reg (oq 77 (.fad 7 (.s 1)) <|
 oq 78 (.load false 1 (.s 77)) <|
 oq 79 (.len (.s 78)) <|
 oq 80 (.bin .leq (.s 79) (.k (.int .i64 300))) <|
 oq 7 (.mv (.s 80)) <|
 .nil) [3, 4, 5, 6, 7])
 (.exit 0))))
 (.seq
 (.seq
 (.reg (oq 2 (.mv (.k (.bool false))) <|
 .nil) [2])
 .ret)
 (.exit 0))))))
 (.seq
 (.reg (oq 81 (.mv (.s 3)) <|
 oq 82 (.mv (.s 81)) <|
 .grp 82 true (oq 83 (.mv (.s 4)) <|
 .nil) 84 (.s 83) (.k (.bool false)) <|
 oq 85 (.mv (.s 84)) <|
 .grp 85 true (oq 86 (.mv (.s 5)) <|
 .nil) 87 (.s 86) (.k (.bool false)) <|
 oq 88 (.mv (.s 87)) <|
 .grp 88 true (oq 89 (.mv (.s 6)) <|
 .nil) 90 (.s 89) (.k (.bool false)) <|
 oq 91 (.mv (.s 90)) <|
 .grp 91 true (oq 92 (.mv (.s 7)) <|
 .nil) 93 (.s 92) (.k (.bool false)) <|
 oq 2 (.mv (.s 93)) <|
 .nil) [2])
 .ret)))))
def p_tree_own : PFn := ⟨[.tmp 2], q_tree_own⟩
def n_tree_own : Fn := ⟨1, [.tmp 2], false, false, erase q_tree_own⟩
def q_num_of : PC :=
 (.seq
 (.reg (.box 3 1 (.s 0) <|
 oq 2 (.alloc [.bool false, (.sl .full 0 []), .int .i64 0]) <|
 .nil) [1, 2])
 (.seq
 (.seq
 (.reg (oq 3 (.load true 3 (.s 1)) <|
 oq 4 (.call f_num_Check [.s 3]) <|
 oq 5 (.un .not (.s 4)) <|
 .nil) [1, 2, 5])
 (.cond (.s 5)
 (.seq
 (.reg (oq 6 (.build [.bool false, (.sl .full 0 []), .int .i64 0] []) <|
 oz (.store 3 (.s 2) (.s 6)) <|
 .nil) [2])
 .ret)
 .skip))
 (.seq
 (.reg (oq 7 (.load true 3 (.s 1)) <|
 oz (.store 3 (.s 2) (.s 7)) <|
 .nil) [2])
 .ret)))
def p_num_of : PFn := ⟨[.cell 2 true 3], q_num_of⟩
def n_num_of : Fn := ⟨1, [.cell 2 true 3], false, false, erase q_num_of⟩
def q_slices_Equal_uint32 : PC :=
 (.seq
 (.reg (oq 4 (.mv (.k (.bool false))) <|
 .nil) [0, 1])
 (.seq
 (.seq
 (.reg (oq 6 (.mv (.s 0)) <|
 oq 7 (.len (.s 6)) <|
 oq 8 (.mv (.s 1)) <|
 oq 9 (.len (.s 8)) <|
 oq 10 (.bin .neq (.s 7) (.s 9)) <|
 .nil) [0, 1, 10])
 (.cond (.s 10)
 (.seq
 (.reg (oq 4 (.mv (.k (.bool false))) <|
 .nil) [4])
 .ret)
 .skip))
 (.seq
 (.seq
 (.reg (oq 11 (.mv (.s 0)) <|
 oq 12 (.len (.s 11)) <|
 oq 13 (.mv (.k (.int .i64 0))) <|
 .nil) [0, 1, 12, 13])
 (.blk 0
 (.loop ⟨[(0, .same), (1, .same), (12, .same), (13, .v)], []⟩ [(.ext 0, ⟨[], []⟩), (.ret, ⟨[(4, .v)], []⟩)]
 (.seq
 (.reg (oq 14 (.bin .lss (.s 13) (.s 12)) <|
 .nil) [0, 1, 12, 13, 14])
 (.seq
 (.cond (.s 14)
 .skip
 (.exit 0))
 (.seq
 (.blk 1
 (.seq
 (.reg (oq 15 (.mv (.s 13)) <|
 oq 5 (.mv (.s 15)) <|
 .nil) [0, 1, 5, 12, 13])
 (.seq
 (.drw (.nil)
 (oq 16 (.mv (.s 0)) <|
 oq 17 (.mv (.s 5)) <|
 oq 18 (.iad 1 (.s 16) (.s 17)) <|
 oq 19 (.load false 1 (.s 18)) <|
 oq 20 (.mv (.s 1)) <|
 oq 21 (.mv (.s 5)) <|
 oq 22 (.iad 1 (.s 20) (.s 21)) <|
 oq 23 (.load false 1 (.s 22)) <|
 .nil)
 (oq 24 (.bin .neq (.s 19) (.s 23)) <|
 .nil) [0, 1, 12, 13, 24])
 (.cond (.s 24)
 (.seq
 (.reg (oq 4 (.mv (.k (.bool false))) <|
 .nil) [4])
 .ret)
 .skip))))
 (.reg (oq 25 (.bin .add (.s 13) (.k (.int .i64 1))) <|
 oq 13 (.mv (.s 25)) <|
 .nil) [0, 1, 12, 13])))))))
 (.seq
 (.reg (oq 4 (.mv (.k (.bool true))) <|
 .nil) [4])
 .ret))))
def p_slices_Equal_uint32 : PFn := ⟨[.tmp 4], q_slices_Equal_uint32⟩
def n_slices_Equal_uint32 : Fn := ⟨2, [.tmp 4], false, false, erase q_slices_Equal_uint32⟩
def q_num_Check : PC :=
 (.seq
 (.reg (.box 3 1 (.s 0) <|
 oq 2 (.mv (.k (.bool false))) <|
 .nil) [1])
 (.seq
 (.reg (oq 6 (.fad 1 (.s 1)) <|
 oq 7 (.load false 1 (.s 6)) <|
 oq 8 (.len (.s 7)) <|
 oq 3 (.mv (.s 8)) <|
 .nil) [1, 3])
 (.seq
 (.seq
 (.reg (oq 9 (.mv (.s 3)) <|
 oq 10 (.bin .eql (.s 9) (.k (.int .i64 0))) <|
 .nil) [1, 3, 10])
 (.cond (.s 10)
 (.seq
 (.reg (oq 11 (.fad 0 (.s 1)) <|
 oq 12 (.load false 1 (.s 11)) <|
 oq 13 (.un .not (.s 12)) <|
 oq 14 (.mv (.s 13)) <|
 .grp 14 true (oq 15 (.fad 2 (.s 1)) <|
 oq 16 (.load false 1 (.s 15)) <|
 oq 17 (.bin .eql (.s 16) (.k (.int .i64 0))) <|
 .nil) 18 (.s 17) (.k (.bool false)) <|
 oq 2 (.mv (.s 18)) <|
 .nil) [2])
 .ret)
 .skip))
 (.seq
 (.seq
 (.reg (oq 19 (.mv (.s 3)) <|
 oq 20 (.bin .gtr (.s 19) (.k (.int .i64 90))) <|
 oq 21 (.mv (.s 20)) <|
 .grp 21 false (oq 22 (.fad 1 (.s 1)) <|
 oq 23 (.load false 1 (.s 22)) <|
 oq 24 (.mv (.s 3)) <|
 oq 25 (.bin .sub (.s 24) (.k (.int .i64 1))) <|
 oq 26 (.iad 1 (.s 23) (.s 25)) <|
 oq 27 (.load false 1 (.s 26)) <|
 oq 28 (.bin .eql (.s 27) (.k (.int .u32 0))) <|
 .nil) 29 (.s 28) (.k (.bool true)) <|
 oq 30 (.mv (.s 29)) <|
 .grp 30 false (oq 31 (.fad 2 (.s 1)) <|
 oq 32 (.load false 1 (.s 31)) <|
 oq 33 (.bin .lss (.s 32) (.k (.int .i64 (-1200)))) <|
 .nil) 34 (.s 33) (.k (.bool true)) <|
 oq 35 (.mv (.s 34)) <|
 .grp 35 false (oq 36 (.fad 2 (.s 1)) <|
 oq 37 (.load false 1 (.s 36)) <|
 oq 38 (.bin .gtr (.s 37) (.k (.int .i64 1200))) <|
 .nil) 39 (.s 38) (.k (.bool true)) <|
 .nil) [1, 39])
 (.cond (.s 39)
 (.seq
 (.reg (oq 2 (.mv (.k (.bool false))) <|
 .nil) [2])
 .ret)
 .skip))
 (.seq
 (.reg (oq 41 (.fad 1 (.s 1)) <|
 oq 42 (.load false 1 (.s 41)) <|
 oq 43 (.call f_nat_Trim [.s 42]) <|
 oq 40 (.mv (.s 43)) <|
 oq 44 (.ext (.s 40) 0) <|
 oq 45 (.ext (.s 40) 1) <|
 oq 4 (.mv (.s 44)) <|
 oq 5 (.mv (.s 45)) <|
 .nil) [5])
 (.seq
 (.reg (oq 46 (.mv (.s 5)) <|
 oq 47 (.bin .eql (.s 46) (.k (.int .i64 0))) <|
 oq 2 (.mv (.s 47)) <|
 .nil) [2])
 .ret))))))
def p_num_Check : PFn := ⟨[.tmp 2], q_num_Check⟩
def n_num_Check : Fn := ⟨1, [.tmp 2], false, false, erase q_num_Check⟩
def q_tree_text : PC :=
 (.seq
 (.reg (oq 2 (.mv (.k (.bool false))) <|
 .nil) [0])
 (.seq
 (.reg (oq 3 (.mv (.s 0)) <|
 oq 4 (.lns (.s 3)) <|
 oq 5 (.bin .leq (.s 4) (.k (.int .i64 2000))) <|
 oq 6 (.mv (.s 5)) <|
 .grp 6 true (oq 7 (.mv (.s 0)) <|
 oq 8 (.call f_utf_Valid [.s 7]) <|
 .nil) 9 (.s 8) (.k (.bool false)) <|
 oq 2 (.mv (.s 9)) <|
 .nil) [2])
 .ret))
def p_tree_text : PFn := ⟨[.tmp 2], q_tree_text⟩
def n_tree_text : Fn := ⟨1, [.tmp 2], false, false, erase q_tree_text⟩
def q_tree_names : PC :=
 (.seq
 (.reg (oq 2 (.mv (.k (.bool false))) <|
 .nil) [0])
 (.seq
 (.seq
 (.reg (oq 5 (.mv (.s 0)) <|
 oq 6 (.len (.s 5)) <|
 oq 7 (.mv (.k (.int .i64 0))) <|
 .nil) [0, 5, 6, 7])
 (.blk 0
 (.loop ⟨[(0, .same), (5, .same), (6, .same), (7, .v)], []⟩ [(.ext 0, ⟨[(0, .same)], []⟩), (.ret, ⟨[(2, .v)], []⟩)]
 (.seq
 (.reg (oq 8 (.bin .lss (.s 7) (.s 6)) <|
 .nil) [0, 5, 6, 7, 8])
 (.seq
 (.cond (.s 8)
 .skip
 (.exit 0))
 (.seq
 (.blk 1
 (.seq
 (.reg (oq 9 (.mv (.s 7)) <|
 oq 10 (.iad 1 (.s 5) (.s 7)) <|
 oq 11 (.load false 1 (.s 10)) <|
 oq 3 (.mv (.s 9)) <|
 oq 4 (.mv (.s 11)) <|
 .nil) [0, 3, 4, 5, 6, 7])
 (.seq
 (.reg (oq 12 (.mv (.s 4)) <|
 oq 13 (.call f_tree_text [.s 12]) <|
 oq 14 (.un .not (.s 13)) <|
 oq 15 (.mv (.s 14)) <|
 .grp 15 false (oq 16 (.mv (.s 3)) <|
 oq 17 (.bin .gtr (.s 16) (.k (.int .i64 0))) <|
 oq 18 (.mv (.s 17)) <|
 .grp 18 true (oq 19 (.mv (.s 0)) <|
 oq 20 (.mv (.s 3)) <|
 oq 21 (.bin .sub (.s 20) (.k (.int .i64 1))) <|
 oq 22 (.iad 1 (.s 19) (.s 21)) <|
 oq 23 (.load false 1 (.s 22)) <|
 oq 24 (.mv (.s 4)) <|
 oq 25 (.bin .geq (.s 23) (.s 24)) <|
 .nil) 26 (.s 25) (.k (.bool false)) <|
 .nil) 27 (.s 26) (.k (.bool true)) <|
 .nil) [0, 5, 6, 7, 27])
 (.cond (.s 27)
 (.seq
 (.reg (oq 2 (.mv (.k (.bool false))) <|
 .nil) [2])
 .ret)
 .skip))))
 (.reg (oq 28 (.bin .add (.s 7) (.k (.int .i64 1))) <|
 oq 7 (.mv (.s 28)) <|
 .nil) [0, 5, 6, 7])))))))
 (.seq
 (.reg (oq 29 (.mv (.s 0)) <|
 oq 30 (.len (.s 29)) <|
 oq 31 (.bin .leq (.s 30) (.k (.int .i64 300))) <|
 oq 2 (.mv (.s 31)) <|
 .nil) [2])
 .ret)))
def p_tree_names : PFn := ⟨[.tmp 2], q_tree_names⟩
def n_tree_names : Fn := ⟨1, [.tmp 2], false, false, erase q_tree_names⟩
def q_nat_Trim : PC :=
 (.seq
 (.reg (oq 2 (.mv (.k (.sl .full 0 []))) <|
 oq 3 (.mv (.k (.int .i64 0))) <|
 .nil) [0])
 (.seq
 (.reg (oq 7 (.mv (.s 0)) <|
 oq 8 (.call f_nat_Norm [.s 7]) <|
 oq 0 (.mv (.s 8)) <|
 .nil) [0])
 (.seq
 (.reg (oq 4 (.mv (.k (.int .i64 0))) <|
 .nil) [0, 4])
 (.seq
 .skip
 (.seq
 (.blk 0
 (.loop ⟨[(0, .v), (4, .v)], []⟩ [(.ext 0, ⟨[(0, .v), (4, .v)], []⟩)]
 (.seq
 (.seq
 (.reg (oq 9 (.mv (.s 0)) <|
 oq 10 (.len (.s 9)) <|
 oq 11 (.bin .gtr (.s 10) (.k (.int .i64 0))) <|
 .nil) [0, 4, 11])
 (.cond (.s 11)
 .skip
 (.exit 0)))
 (.blk 1
 (.seq
 (.reg (oq 13 (.mv (.s 0)) <|
 oq 14 (.call f_nat_small [.s 13, (.k (.int .u32 10))]) <|
 oq 12 (.mv (.s 14)) <|
 oq 15 (.ext (.s 12) 0) <|
 oq 16 (.ext (.s 12) 1) <|
 oq 5 (.mv (.s 15)) <|
 oq 6 (.mv (.s 16)) <|
 .nil) [0, 4, 5, 6])
 (.seq
 (.seq
 (.reg (oq 17 (.mv (.s 6)) <|
 oq 18 (.bin .neq (.s 17) (.k (.int .u32 0))) <|
 .nil) [0, 4, 5, 18])
 (.cond (.s 18)
 (.exit 0)
 .skip))
 (.seq
 (.reg (oq 19 (.mv (.s 5)) <|
 oq 0 (.mv (.s 19)) <|
 .nil) [0, 4])
 (.reg (oq 20 (.mv (.s 4)) <|
 oq 21 (.bin .add (.s 20) (.k (.int .i64 1))) <|
 oq 4 (.mv (.s 21)) <|
 .nil) [0, 4]))))))))
 (.seq
 (.reg (oq 22 (.mv (.s 0)) <|
 oq 23 (.mv (.s 4)) <|
 oq 2 (.mv (.s 22)) <|
 oq 3 (.mv (.s 23)) <|
 .nil) [2, 3])
 .ret))))))
def p_nat_Trim : PFn := ⟨[.tmp 2, .tmp 3], q_nat_Trim⟩
def n_nat_Trim : Fn := ⟨1, [.tmp 2, .tmp 3], false, false, erase q_nat_Trim⟩
def q_utf_Valid : PC :=
 (.seq
 (.reg (oq 2 (.mv (.k (.bool false))) <|
 .nil) [0])
 (.seq
 .skip
 (.seq
 (.seq
 (.reg (oq 7 (.mv (.s 0)) <|
 oq 8 (.rng (.s 7)) <|
 .nil) [0, 8])
 (.blk 0
 (.loop ⟨[(0, .same), (8, .same)], [.iter]⟩ [(.ext 0, ⟨[], [.dead]⟩), (.ret, ⟨[(2, .v)], [.dead]⟩)]
 (.seq
 (.reg (oq 9 (.nxt (.s 8)) <|
 oq 10 (.ext (.s 9) 0) <|
 .nil) [0, 8, 9, 10])
 (.seq
 (.cond (.s 10)
 .skip
 (.exit 0))
 (.blk 1
 (.seq
 (.reg (oq 11 (.ext (.s 9) 1) <|
 oq 12 (.ext (.s 9) 2) <|
 oq 3 (.mv (.s 11)) <|
 oq 4 (.mv (.s 12)) <|
 .nil) [0, 3, 4, 8])
 (.seq
 (.seq
 (.reg (oq 13 (.mv (.s 4)) <|
 oq 14 (.bin .neq (.s 13) (.k (.int .i32 65533))) <|
 .nil) [0, 3, 8, 14])
 (.cond (.s 14)
 (.exit 1)
 .skip))
 (.seq
 (.reg (oq 16 (.mv (.s 0)) <|
 oq 17 (.mv (.s 3)) <|
 oq 18 (.sls (.s 16) (some (.s 17)) none) <|
 oq 19 (.call f_unicode_utf8_DecodeRuneInString [.s 18]) <|
 oq 15 (.mv (.s 19)) <|
 oq 20 (.ext (.s 15) 0) <|
 oq 21 (.ext (.s 15) 1) <|
 oq 5 (.mv (.s 20)) <|
 oq 6 (.mv (.s 21)) <|
 .nil) [0, 6, 8])
 (.seq
 (.reg (oq 22 (.mv (.s 6)) <|
 oq 23 (.bin .eql (.s 22) (.k (.int .i64 1))) <|
 .nil) [0, 8, 23])
 (.cond (.s 23)
 (.seq
 (.reg (oq 2 (.mv (.k (.bool false))) <|
 .nil) [2])
 .ret)
 .skip)))))))))))
 (.seq
 (.reg (oq 2 (.mv (.k (.bool true))) <|
 .nil) [2])
 .ret))))
def p_utf_Valid : PFn := ⟨[.tmp 2], q_utf_Valid⟩
def n_utf_Valid : Fn := ⟨1, [.tmp 2], false, false, erase q_utf_Valid⟩
def q_nat_Norm : PC :=
 (.seq
 (.reg (oq 2 (.mv (.k (.sl .full 0 []))) <|
 .nil) [0])
 (.seq
 (.reg (oq 5 (.mv (.s 0)) <|
 oq 6 (.len (.s 5)) <|
 oq 3 (.mv (.s 6)) <|
 .nil) [0, 3])
 (.seq
 (.blk 0
 (.loop ⟨[(0, .same), (3, .v)], []⟩ [(.ext 0, ⟨[(0, .same), (3, .v)], []⟩)]
 (.seq
 (.seq
 (.reg (oq 7 (.mv (.s 3)) <|
 oq 8 (.bin .gtr (.s 7) (.k (.int .i64 0))) <|
 oq 9 (.mv (.s 8)) <|
 .grp 9 true (oq 10 (.mv (.s 0)) <|
 oq 11 (.mv (.s 3)) <|
 oq 12 (.bin .sub (.s 11) (.k (.int .i64 1))) <|
 oq 13 (.iad 1 (.s 10) (.s 12)) <|
 oq 14 (.load false 1 (.s 13)) <|
 oq 15 (.bin .eql (.s 14) (.k (.int .u32 0))) <|
 .nil) 16 (.s 15) (.k (.bool false)) <|
 .nil) [0, 3, 16])
 (.cond (.s 16)
 .skip
 (.exit 0)))
 (.blk 1
 (.reg (oq 17 (.mv (.s 3)) <|
 oq 18 (.bin .sub (.s 17) (.k (.int .i64 1))) <|
 oq 3 (.mv (.s 18)) <|
 .nil) [0, 3])))))
 (.seq
 (.seq
 (.reg (oq 19 (.mv (.s 3)) <|
 oq 20 (.bin .eql (.s 19) (.k (.int .i64 0))) <|
 .nil) [0, 3, 20])
 (.cond (.s 20)
 (.seq
 (.reg (oq 2 (.mv (.k (.sl .full 0 []))) <|
 .nil) [2])
 .ret)
 .skip))
 (.seq
 (.reg (oq 21 (.mv (.s 3)) <|
 oq 22 (.mks [.int .u32 0] 4 (.s 21) (.s 21)) <|
 oq 4 (.mv (.s 22)) <|
 .nil) [0, 4])
 (.seq
 (.reg (oq 23 (.mv (.s 4)) <|
 oq 24 (.mv (.s 0)) <|
 oq 25 (.cpy 1 (.s 23) (.s 24)) <|
 .nil) [4])
 (.seq
 (.reg (oq 26 (.mv (.s 4)) <|
 oq 2 (.mv (.s 26)) <|
 .nil) [2])
 .ret)))))))
def p_nat_Norm : PFn := ⟨[.tmp 2], q_nat_Norm⟩
def n_nat_Norm : Fn := ⟨1, [.tmp 2], false, false, erase q_nat_Norm⟩
def q_nat_small : PC :=
 (.seq
 (.reg (oq 4 (.mv (.k (.sl .full 0 []))) <|
 oq 5 (.mv (.k (.int .u32 0))) <|
 .nil) [0, 1])
 (.seq
 (.reg (oq 9 (.mv (.s 0)) <|
 oq 10 (.len (.s 9)) <|
 oq 11 (.mks [.int .u32 0] 4 (.s 10) (.s 10)) <|
 oq 6 (.mv (.s 11)) <|
 .nil) [0, 1, 6])
 (.seq
 (.reg (oq 7 (.mv (.k (.int .u64 0))) <|
 .nil) [0, 1, 6, 7])
 (.seq
 (.seq
 (.reg (oq 12 (.mv (.s 0)) <|
 oq 13 (.len (.s 12)) <|
 oq 14 (.bin .sub (.s 13) (.k (.int .i64 1))) <|
 oq 8 (.mv (.s 14)) <|
 .nil) [0, 1, 6, 7, 8])
 (.blk 0
 (.loop ⟨[(0, .same), (1, .same), (6, .same), (7, .v), (8, .v)], [(.arr .no 1)]⟩ [(.ext 0, ⟨[(6, .same), (7, .v)], [(.arr .no 1)]⟩)]
 (.seq
 (.seq
 (.reg (oq 15 (.mv (.s 8)) <|
 oq 16 (.bin .geq (.s 15) (.k (.int .i64 0))) <|
 .nil) [0, 1, 6, 7, 8, 16])
 (.cond (.s 16)
 .skip
 (.exit 0)))
 (.seq
 (.blk 1
 (.seq
 (.reg (oq 19 (.mv (.s 7)) <|
 oq 20 (.bin .shl (.s 19) (.k (.int .u64 32))) <|
 oq 21 (.mv (.s 0)) <|
 oq 22 (.mv (.s 8)) <|
 oq 23 (.iad 1 (.s 21) (.s 22)) <|
 oq 24 (.load false 1 (.s 23)) <|
 oq 25 (.cvi .u64 (.s 24)) <|
 oq 26 (.bin .or (.s 20) (.s 25)) <|
 oq 7 (.mv (.s 26)) <|
 .nil) [0, 1, 6, 7, 8])
 (.seq
 (.reg (oq 27 (.mv (.s 6)) <|
 oq 28 (.mv (.s 8)) <|
 oq 29 (.mv (.s 7)) <|
 oq 30 (.mv (.s 1)) <|
 oq 31 (.cvi .u64 (.s 30)) <|
 oq 32 (.bin .quo (.s 29) (.s 31)) <|
 oq 33 (.cvi .u32 (.s 32)) <|
 oq 34 (.iad 1 (.s 27) (.s 28)) <|
 oz (.store 1 (.s 34) (.s 33)) <|
 .nil) [0, 1, 6, 7, 8])
 (.reg (oq 35 (.mv (.s 7)) <|
 oq 36 (.mv (.s 1)) <|
 oq 37 (.cvi .u64 (.s 36)) <|
 oq 38 (.bin .rem (.s 35) (.s 37)) <|
 oq 7 (.mv (.s 38)) <|
 .nil) [0, 1, 6, 7, 8]))))
 (.reg (oq 17 (.mv (.s 8)) <|
 oq 18 (.bin .sub (.s 17) (.k (.int .i64 1))) <|
 oq 8 (.mv (.s 18)) <|
 .nil) [0, 1, 6, 7, 8]))))))
 (.seq
 (.reg (oq 39 (.mv (.s 6)) <|
 oq 40 (.call f_nat_Norm [.s 39]) <|
 oq 41 (.mv (.s 7)) <|
 oq 42 (.cvi .u32 (.s 41)) <|
 oq 4 (.mv (.s 40)) <|
 oq 5 (.mv (.s 42)) <|
 .nil) [4, 5])
 .ret)))))
def p_nat_small : PFn := ⟨[.tmp 4, .tmp 5], q_nat_small⟩
def n_nat_small : Fn := ⟨2, [.tmp 4, .tmp 5], false, false, erase q_nat_small⟩
def q_unicode_utf8_DecodeRuneInString : PC :=
 (.seq
 (.reg (oq 2 (.mv (.k (.int .i32 0))) <|
 oq 3 (.mv (.k (.int .i64 0))) <|
 .nil) [0])
 (.seq
 (.seq
 (.reg (oq 4 (.mv (.s 0)) <|
 oq 5 (.bin .neq (.s 4) (.k (.str []))) <|
 oq 6 (.mv (.s 5)) <|
 .grp 6 true (oq 7 (.mv (.s 0)) <|
 oq 8 (.ixs (.s 7) (.k (.int .i64 0))) <|
 oq 9 (.bin .lss (.s 8) (.k (.int .u8 128))) <|
 .nil) 10 (.s 9) (.k (.bool false)) <|
 .nil) [0, 10])
 (.cond (.s 10)
 (.seq
 (.reg (oq 11 (.mv (.s 0)) <|
 oq 12 (.ixs (.s 11) (.k (.int .i64 0))) <|
 oq 13 (.cvi .i32 (.s 12)) <|
 oq 2 (.mv (.s 13)) <|
 oq 3 (.mv (.k (.int .i64 1))) <|
 .nil) [2, 3])
 .ret)
 (.reg (oq 15 (.mv (.s 0)) <|
 oq 16 (.call f_unicode_utf8_decodeRuneInStringSlow [.s 15]) <|
 oq 14 (.mv (.s 16)) <|
 oq 17 (.ext (.s 14) 0) <|
 oq 18 (.ext (.s 14) 1) <|
 oq 2 (.mv (.s 17)) <|
 oq 3 (.mv (.s 18)) <|
 .nil) [2, 3])))
 .ret))
def p_unicode_utf8_DecodeRuneInString : PFn := ⟨[.tmp 2, .tmp 3], q_unicode_utf8_DecodeRuneInString⟩
def n_unicode_utf8_DecodeRuneInString : Fn := ⟨1, [.tmp 2, .tmp 3], false, false, erase q_unicode_utf8_DecodeRuneInString⟩
def q_unicode_utf8_decodeRuneInStringSlow : PC :=
 (.seq
 (.reg (oq 2 (.mv (.k (.int .i32 0))) <|
 oq 3 (.mv (.k (.int .i64 0))) <|
 .nil) [0])
 (.seq
 (.reg (oq 13 (.mv (.s 0)) <|
 oq 14 (.lns (.s 13)) <|
 oq 4 (.mv (.s 14)) <|
 .nil) [0, 4])
 (.seq
 (.seq
 (.reg (oq 15 (.mv (.s 4)) <|
 oq 16 (.bin .lss (.s 15) (.k (.int .i64 1))) <|
 .nil) [0, 4, 16])
 (.cond (.s 16)
 (.seq
 (.reg (oq 2 (.mv (.k (.int .i32 65533))) <|
 oq 3 (.mv (.k (.int .i64 0))) <|
 .nil) [2, 3])
 .ret)
 .skip))
 (.seq
 (.reg (oq 17 (.mv (.s 0)) <|
 oq 18 (.ixs (.s 17) (.k (.int .i64 0))) <|
 oq 5 (.mv (.s 18)) <|
 .nil) [0, 4, 5])
 (.seq
 (.reg (oq 19 (.mv (.s 5)) <|
 oq 20 (.iaa 256 1 (.g 0) (.s 19)) <|
 oq 21 (.load false 1 (.s 20)) <|
 oq 6 (.mv (.s 21)) <|
 .nil) [0, 4, 5, 6])
 (.seq
 (.seq
 (.reg (oq 22 (.mv (.s 6)) <|
 oq 23 (.bin .geq (.s 22) (.k (.int .u8 240))) <|
 .nil) [0, 4, 5, 6, 23])
 (.cond (.s 23)
 (.seq
 (.reg (oq 24 (.mv (.s 6)) <|
 oq 25 (.cvi .i32 (.s 24)) <|
 oq 26 (.bin .shl (.s 25) (.k (.int .u64 31))) <|
 oq 27 (.bin .shr (.s 26) (.k (.int .u64 31))) <|
 oq 7 (.mv (.s 27)) <|
 .nil) [0, 7])
 (.seq
 (.reg (oq 28 (.mv (.s 0)) <|
 oq 29 (.ixs (.s 28) (.k (.int .i64 0))) <|
 oq 30 (.cvi .i32 (.s 29)) <|
 oq 31 (.mv (.s 7)) <|
 oq 32 (.bin .andNot (.s 30) (.s 31)) <|
 oq 33 (.mv (.s 7)) <|
 oq 34 (.bin .and (.k (.int .i32 65533)) (.s 33)) <|
 oq 35 (.bin .or (.s 32) (.s 34)) <|
 oq 2 (.mv (.s 35)) <|
 oq 3 (.mv (.k (.int .i64 1))) <|
 .nil) [2, 3])
 .ret))
 .skip))
 (.seq
 (.reg (oq 36 (.mv (.s 6)) <|
 oq 37 (.bin .and (.s 36) (.k (.int .u8 7))) <|
 oq 38 (.cvi .i64 (.s 37)) <|
 oq 8 (.mv (.s 38)) <|
 .nil) [0, 4, 5, 6, 8])
 (.seq
 (.reg (oq 39 (.mv (.s 6)) <|
 oq 40 (.bin .shr (.s 39) (.k (.int .u64 4))) <|
 oq 41 (.iaa 16 2 (.g 1) (.s 40)) <|
 oq 42 (.load true 2 (.s 41)) <|
 oq 9 (.alloc [.int .u8 0, .int .u8 0]) <|
 oz (.store 2 (.s 9) (.s 42)) <|
 .nil) [0, 4, 5, 8, 9])
 (.seq
 (.seq
 (.reg (oq 43 (.mv (.s 4)) <|
 oq 44 (.mv (.s 8)) <|
 oq 45 (.bin .lss (.s 43) (.s 44)) <|
 .nil) [0, 5, 8, 9, 45])
 (.cond (.s 45)
 (.seq
 (.reg (oq 2 (.mv (.k (.int .i32 65533))) <|
 oq 3 (.mv (.k (.int .i64 1))) <|
 .nil) [2, 3])
 .ret)
 .skip))
 (.seq
 (.reg (oq 46 (.mv (.s 0)) <|
 oq 47 (.ixs (.s 46) (.k (.int .i64 1))) <|
 oq 10 (.mv (.s 47)) <|
 .nil) [0, 5, 8, 9, 10])
 (.seq
 (.seq
 (.reg (oq 48 (.mv (.s 10)) <|
 oq 49 (.fad 0 (.s 9)) <|
 oq 50 (.load false 1 (.s 49)) <|
 oq 51 (.bin .lss (.s 48) (.s 50)) <|
 oq 52 (.mv (.s 51)) <|
 .grp 52 false (oq 53 (.fad 1 (.s 9)) <|
 oq 54 (.load false 1 (.s 53)) <|
 oq 55 (.mv (.s 10)) <|
 oq 56 (.bin .lss (.s 54) (.s 55)) <|
 .nil) 57 (.s 56) (.k (.bool true)) <|
 .nil) [0, 5, 8, 10, 57])
 (.cond (.s 57)
 (.seq
 (.reg (oq 2 (.mv (.k (.int .i32 65533))) <|
 oq 3 (.mv (.k (.int .i64 1))) <|
 .nil) [2, 3])
 .ret)
 .skip))
 (.seq
 (.seq
 (.reg (oq 58 (.mv (.s 8)) <|
 oq 59 (.bin .leq (.s 58) (.k (.int .i64 2))) <|
 .nil) [0, 5, 8, 10, 59])
 (.cond (.s 59)
 (.seq
 (.reg (oq 60 (.mv (.s 5)) <|
 oq 61 (.bin .and (.s 60) (.k (.int .u8 31))) <|
 oq 62 (.cvi .i32 (.s 61)) <|
 oq 63 (.bin .shl (.s 62) (.k (.int .u64 6))) <|
 oq 64 (.mv (.s 10)) <|
 oq 65 (.bin .and (.s 64) (.k (.int .u8 63))) <|
 oq 66 (.cvi .i32 (.s 65)) <|
 oq 67 (.bin .or (.s 63) (.s 66)) <|
 oq 2 (.mv (.s 67)) <|
 oq 3 (.mv (.k (.int .i64 2))) <|
 .nil) [2, 3])
 .ret)
 .skip))
 (.seq
 (.reg (oq 68 (.mv (.s 0)) <|
 oq 69 (.ixs (.s 68) (.k (.int .i64 2))) <|
 oq 11 (.mv (.s 69)) <|
 .nil) [0, 5, 8, 10, 11])
 (.seq
 (.seq
 (.reg (oq 70 (.mv (.s 11)) <|
 oq 71 (.bin .lss (.s 70) (.k (.int .u8 128))) <|
 oq 72 (.mv (.s 71)) <|
 .grp 72 false (oq 73 (.mv (.s 11)) <|
 oq 74 (.bin .lss (.k (.int .u8 191)) (.s 73)) <|
 .nil) 75 (.s 74) (.k (.bool true)) <|
 .nil) [0, 5, 8, 10, 11, 75])
 (.cond (.s 75)
 (.seq
 (.reg (oq 2 (.mv (.k (.int .i32 65533))) <|
 oq 3 (.mv (.k (.int .i64 1))) <|
 .nil) [2, 3])
 .ret)
 .skip))
 (.seq
 (.seq
 (.reg (oq 76 (.mv (.s 8)) <|
 oq 77 (.bin .leq (.s 76) (.k (.int .i64 3))) <|
 .nil) [0, 5, 10, 11, 77])
 (.cond (.s 77)
 (.seq
 (.reg (oq 78 (.mv (.s 5)) <|
 oq 79 (.bin .and (.s 78) (.k (.int .u8 15))) <|
 oq 80 (.cvi .i32 (.s 79)) <|
 oq 81 (.bin .shl (.s 80) (.k (.int .u64 12))) <|
 oq 82 (.mv (.s 10)) <|
 oq 83 (.bin .and (.s 82) (.k (.int .u8 63))) <|
 oq 84 (.cvi .i32 (.s 83)) <|
 oq 85 (.bin .shl (.s 84) (.k (.int .u64 6))) <|
 oq 86 (.bin .or (.s 81) (.s 85)) <|
 oq 87 (.mv (.s 11)) <|
 oq 88 (.bin .and (.s 87) (.k (.int .u8 63))) <|
 oq 89 (.cvi .i32 (.s 88)) <|
 oq 90 (.bin .or (.s 86) (.s 89)) <|
 oq 2 (.mv (.s 90)) <|
 oq 3 (.mv (.k (.int .i64 3))) <|
 .nil) [2, 3])
 .ret)
 .skip))
 (.seq
 (.reg (oq 91 (.mv (.s 0)) <|
 oq 92 (.ixs (.s 91) (.k (.int .i64 3))) <|
 oq 12 (.mv (.s 92)) <|
 .nil) [5, 10, 11, 12])
 (.seq
 (.seq
 (.reg (oq 93 (.mv (.s 12)) <|
 oq 94 (.bin .lss (.s 93) (.k (.int .u8 128))) <|
 oq 95 (.mv (.s 94)) <|
 .grp 95 false (oq 96 (.mv (.s 12)) <|
 oq 97 (.bin .lss (.k (.int .u8 191)) (.s 96)) <|
 .nil) 98 (.s 97) (.k (.bool true)) <|
 .nil) [5, 10, 11, 12, 98])
 (.cond (.s 98)
 (.seq
 (.reg (oq 2 (.mv (.k (.int .i32 65533))) <|
 oq 3 (.mv (.k (.int .i64 1))) <|
 .nil) [2, 3])
 .ret)
 .skip))
 (.seq
 (.reg (oq 99 (.mv (.s 5)) <|
 oq 100 (.bin .and (.s 99) (.k (.int .u8 7))) <|
 oq 101 (.cvi .i32 (.s 100)) <|
 oq 102 (.bin .shl (.s 101) (.k (.int .u64 18))) <|
 oq 103 (.mv (.s 10)) <|
 oq 104 (.bin .and (.s 103) (.k (.int .u8 63))) <|
 oq 105 (.cvi .i32 (.s 104)) <|
 oq 106 (.bin .shl (.s 105) (.k (.int .u64 12))) <|
 oq 107 (.bin .or (.s 102) (.s 106)) <|
 oq 108 (.mv (.s 11)) <|
 oq 109 (.bin .and (.s 108) (.k (.int .u8 63))) <|
 oq 110 (.cvi .i32 (.s 109)) <|
 oq 111 (.bin .shl (.s 110) (.k (.int .u64 6))) <|
 oq 112 (.bin .or (.s 107) (.s 111)) <|
 oq 113 (.mv (.s 12)) <|
 oq 114 (.bin .and (.s 113) (.k (.int .u8 63))) <|
 oq 115 (.cvi .i32 (.s 114)) <|
 oq 116 (.bin .or (.s 112) (.s 115)) <|
 oq 2 (.mv (.s 116)) <|
 oq 3 (.mv (.k (.int .i64 4))) <|
 .nil) [2, 3])
 .ret))))))))))))))))))
def p_unicode_utf8_decodeRuneInStringSlow : PFn := ⟨[.tmp 2, .tmp 3], q_unicode_utf8_decodeRuneInStringSlow⟩
def n_unicode_utf8_decodeRuneInStringSlow : Fn := ⟨1, [.tmp 2, .tmp 3], false, false, erase q_unicode_utf8_decodeRuneInStringSlow⟩
def tab0 : Nat → Option PFn := fun f => (match f with | 6 => some p_law05_TreeSets | 9 => some p_tree_Check | 10 => some p_tree_Depth | 11 => some p_tree_Weight | 12 => some p_law05_awake | 15 => some p_tree_Same | 16 => some p_tree_Nodes | 17 => some p_law00_Light | 18 => some p_tree_Set | 19 => some p_tree_Member | 20 => some p_tree_Unset | 31 => some p_tree_check | 35 => some p_num_Same | 36 => some p_slices_Equal_string | 37 => some p_slices_EqualFunc_erratum_api_Tree | 38 => some p_law00_light | 39 => some p_tree_cut | 40 => some p_slices_Index_string | 41 => some p_slices_IndexFunc_string | 42 => some p_tree_Set_1 | 45 => some p_slices_Concat_string | 46 => some p_slices_Concat_erratum_api_Tree | 58 => some p_tree_own | 62 => some p_num_of | 63 => some p_slices_Equal_uint32 | 80 => some p_num_Check | 81 => some p_tree_text | 82 => some p_tree_names | 93 => some p_nat_Trim | 94 => some p_utf_Valid | 100 => some p_nat_Norm | 101 => some p_nat_small | 102 => some p_unicode_utf8_DecodeRuneInString | 105 => some p_unicode_utf8_decodeRuneInStringSlow | _ => none)
def fnTab : List (Nat × Fn) := [(f_law05_TreeSets, n_law05_TreeSets), (f_tree_Check, n_tree_Check), (f_tree_Depth, n_tree_Depth), (f_tree_Weight, n_tree_Weight), (f_law05_awake, n_law05_awake), (f_tree_Same, n_tree_Same), (f_tree_Nodes, n_tree_Nodes), (f_law00_Light, n_law00_Light), (f_tree_Set, n_tree_Set), (f_tree_Member, n_tree_Member), (f_tree_Unset, n_tree_Unset), (f_tree_check, n_tree_check), (f_num_Same, n_num_Same), (f_slices_Equal_string, n_slices_Equal_string), (f_slices_EqualFunc_erratum_api_Tree, n_slices_EqualFunc_erratum_api_Tree), (f_law00_light, n_law00_light), (f_tree_cut, n_tree_cut), (f_slices_Index_string, n_slices_Index_string), (f_slices_IndexFunc_string, n_slices_IndexFunc_string), (f_tree_Set_1, n_tree_Set_1), (f_slices_Concat_string, n_slices_Concat_string), (f_slices_Concat_erratum_api_Tree, n_slices_Concat_erratum_api_Tree), (f_tree_own, n_tree_own), (f_num_of, n_num_of), (f_slices_Equal_uint32, n_slices_Equal_uint32), (f_num_Check, n_num_Check), (f_tree_text, n_tree_text), (f_tree_names, n_tree_names), (f_nat_Trim, n_nat_Trim), (f_utf_Valid, n_utf_Valid), (f_nat_Norm, n_nat_Norm), (f_nat_small, n_nat_small), (f_unicode_utf8_DecodeRuneInString, n_unicode_utf8_DecodeRuneInString), (f_unicode_utf8_decodeRuneInStringSlow, n_unicode_utf8_decodeRuneInStringSlow)]
def ex0 : Nat → Option (List D → List D → Option D) := fun f => (match f with | 43 => some (exInsert 1 16) | 44 => some (exInsert 8 120) | 68 => some (exGrow 1 16) | 69 => some (exGrow 8 120) | _ => none)
def glT : Nat → Option (List V) := fun g => match g with | 0 => some G_0 | 1 => some G_1 | _ => none
def E0 : Env := ⟨look fnTab, fun g => (glT g).map toDL, ex0⟩
def md0 : Nat → Md := fun f => (match f with | 43 => .ful | 44 => .ful | 68 => .gvf 1 | 69 => .gvf 8 | _ => .pl)
def tx0 : Nat → Option (List V → Option V) := fun f => (match f with | 43 => some (txInsert 1 16) | 44 => some (txInsert 8 120) | 68 => some (txGrow 16) | 69 => some (txGrow 120) | _ => none)
def gl0 : Gl := ⟨glT, md0, tx0⟩
noncomputable def P0 : PcT := pcL gl0 tab0
end Go.Ev
