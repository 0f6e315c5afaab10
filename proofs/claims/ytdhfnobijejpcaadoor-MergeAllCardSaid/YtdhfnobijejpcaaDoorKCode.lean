/- The functions' code. -/
import Derived.Test.YtdhfnobijejpcaaDoorKEvD
import Derived.Test.YtdhfnobijejpcaaDoorKNums
set_option linter.all false
namespace Go.Ev
@[reducible] def oq(i:Nat)(o:O)(r:PO):PO := .one ⟨some i,o,none⟩ r
@[reducible] def oz(o:O)(r:PO):PO := .one ⟨none,o,none⟩ r
@[reducible] def zt8:List D:=[.int .i64 0,.bool false,.bool false,.sl .full 0 [],.int .i64 0,.str [],.sl .full 0 [],.sl .full 0 []]
def G_0:List V:=[.int .u8 240,.int .u8 240,.int .u8 240,.int .u8 240,.int .u8 240,.int .u8 240,.int .u8 240,.int .u8 240,.int .u8 240,.int .u8 240,.int .u8 240,.int .u8 240,.int .u8 240,.int .u8 240,.int .u8 240,.int .u8 240,.int .u8 240,.int .u8 240,.int .u8 240,.int .u8 240,.int .u8 240,.int .u8 240,.int .u8 240,.int .u8 240,.int .u8 240,.int .u8 240,.int .u8 240,.int .u8 240,.int .u8 240,.int .u8 240,.int .u8 240,.int .u8 240,.int .u8 240,.int .u8 240,.int .u8 240,.int .u8 240,.int .u8 240,.int .u8 240,.int .u8 240,.int .u8 240,.int .u8 240,.int .u8 240,.int .u8 240,.int .u8 240,.int .u8 240,.int .u8 240,.int .u8 240,.int .u8 240,.int .u8 240,.int .u8 240,.int .u8 240,.int .u8 240,.int .u8 240,.int .u8 240,.int .u8 240,.int .u8 240,.int .u8 240,.int .u8 240,.int .u8 240,.int .u8 240,.int .u8 240,.int .u8 240,.int .u8 240,.int .u8 240,.int .u8 240,.int .u8 240,.int .u8 240,.int .u8 240,.int .u8 240,.int .u8 240,.int .u8 240,.int .u8 240,.int .u8 240,.int .u8 240,.int .u8 240,.int .u8 240,.int .u8 240,.int .u8 240,.int .u8 240,.int .u8 240,.int .u8 240,.int .u8 240,.int .u8 240,.int .u8 240,.int .u8 240,.int .u8 240,.int .u8 240,.int .u8 240,.int .u8 240,.int .u8 240,.int .u8 240,.int .u8 240,.int .u8 240,.int .u8 240,.int .u8 240,.int .u8 240,.int .u8 240,.int .u8 240,.int .u8 240,.int .u8 240,.int .u8 240,.int .u8 240,.int .u8 240,.int .u8 240,.int .u8 240,.int .u8 240,.int .u8 240,.int .u8 240,.int .u8 240,.int .u8 240,.int .u8 240,.int .u8 240,.int .u8 240,.int .u8 240,.int .u8 240,.int .u8 240,.int .u8 240,.int .u8 240,.int .u8 240,.int .u8 240,.int .u8 240,.int .u8 240,.int .u8 240,.int .u8 240,.int .u8 240,.int .u8 240,.int .u8 240,.int .u8 240,.int .u8 241,.int .u8 241,.int .u8 241,.int .u8 241,.int .u8 241,.int .u8 241,.int .u8 241,.int .u8 241,.int .u8 241,.int .u8 241,.int .u8 241,.int .u8 241,.int .u8 241,.int .u8 241,.int .u8 241,.int .u8 241,.int .u8 241,.int .u8 241,.int .u8 241,.int .u8 241,.int .u8 241,.int .u8 241,.int .u8 241,.int .u8 241,.int .u8 241,.int .u8 241,.int .u8 241,.int .u8 241,.int .u8 241,.int .u8 241,.int .u8 241,.int .u8 241,.int .u8 241,.int .u8 241,.int .u8 241,.int .u8 241,.int .u8 241,.int .u8 241,.int .u8 241,.int .u8 241,.int .u8 241,.int .u8 241,.int .u8 241,.int .u8 241,.int .u8 241,.int .u8 241,.int .u8 241,.int .u8 241,.int .u8 241,.int .u8 241,.int .u8 241,.int .u8 241,.int .u8 241,.int .u8 241,.int .u8 241,.int .u8 241,.int .u8 241,.int .u8 241,.int .u8 241,.int .u8 241,.int .u8 241,.int .u8 241,.int .u8 241,.int .u8 241,.int .u8 241,.int .u8 241,.int .u8 2,.int .u8 2,.int .u8 2,.int .u8 2,.int .u8 2,.int .u8 2,.int .u8 2,.int .u8 2,.int .u8 2,.int .u8 2,.int .u8 2,.int .u8 2,.int .u8 2,.int .u8 2,.int .u8 2,.int .u8 2,.int .u8 2,.int .u8 2,.int .u8 2,.int .u8 2,.int .u8 2,.int .u8 2,.int .u8 2,.int .u8 2,.int .u8 2,.int .u8 2,.int .u8 2,.int .u8 2,.int .u8 2,.int .u8 2,.int .u8 19,.int .u8 3,.int .u8 3,.int .u8 3,.int .u8 3,.int .u8 3,.int .u8 3,.int .u8 3,.int .u8 3,.int .u8 3,.int .u8 3,.int .u8 3,.int .u8 3,.int .u8 35,.int .u8 3,.int .u8 3,.int .u8 52,.int .u8 4,.int .u8 4,.int .u8 4,.int .u8 68,.int .u8 241,.int .u8 241,.int .u8 241,.int .u8 241,.int .u8 241,.int .u8 241,.int .u8 241,.int .u8 241,.int .u8 241,.int .u8 241,.int .u8 241]
def G_1:List V:=[.int .u8 128,.int .u8 191,.int .u8 160,.int .u8 191,.int .u8 128,.int .u8 159,.int .u8 144,.int .u8 191,.int .u8 128,.int .u8 143,.int .u8 0,.int .u8 0,.int .u8 0,.int .u8 0,.int .u8 0,.int .u8 0,.int .u8 0,.int .u8 0,.int .u8 0,.int .u8 0,.int .u8 0,.int .u8 0,.int .u8 0,.int .u8 0,.int .u8 0,.int .u8 0,.int .u8 0,.int .u8 0,.int .u8 0,.int .u8 0,.int .u8 0,.int .u8 0]
def q_law16_MergeAll:PC:=
 (.seq
 (.reg (.box 8 3 (.s 0)<|
 .box 8 4 (.s 1)<|
 oq 6 (.mv (.k (.bool false)))<|
 .nil) [2,3,4])
 (.seq
 (.seq
 (.reg (oq 11 (.load true 8 (.s 3))<|
 oq 12 (.call f_law00_Light [.s 11,(.k (.int .i64 100))])<|
 oq 13 (.un .not (.s 12))<|
 oq 14 (.mv (.s 13))<|
 .grp 14 false (oq 15 (.load true 8 (.s 4))<|
 oq 16 (.call f_law00_Light [.s 15,(.k (.int .i64 100))])<|
 oq 17 (.un .not (.s 16))<|
 .nil) 18 (.s 17) (.k (.bool true))<|
 .nil) [2,3,4,18])
 (.cond (.s 18)
 (.seq
 (.reg (oq 19 (.call f_law16_awake [])<|
 oq 6 (.mv (.s 19))<|
 .nil) [6])
 .ret)
 .skip))
 (.seq
 (.drw (oq 7 (.alloc zt8)<|
 .nil)
 (oq 21 (.load true 8 (.s 3))<|
 oq 22 (.call f_law00_Tree [.s 21])<|
 oq 23 (.load true 8 (.s 4))<|
 oq 24 (.call f_law00_Tree [.s 23])<|
 oq 25 (.mv (.s 2))<|
 oq 26 (.call f_merge_Apply [.s 22,.s 24,.s 25])<|
 oq 20 (.mv (.s 26))<|
 oq 27 (.ext (.s 20) 0)<|
 oq 28 (.ext (.s 20) 1)<|
 .nil)
 (oz (.store 8 (.s 7) (.s 27))<|
 oq 8 (.mv (.s 28))<|
 .nil) [2,3,4,7,8])
 (.seq
 (.reg (oq 30 (.load true 8 (.s 3))<|
 oq 31 (.load true 8 (.s 4))<|
 oq 32 (.mv (.s 2))<|
 oq 33 (.call f_ref16_Apply [.s 30,.s 31,.s 32])<|
 oq 29 (.mv (.s 33))<|
 oq 34 (.ext (.s 29) 0)<|
 oq 35 (.ext (.s 29) 1)<|
 oq 9 (.alloc zt8)<|
 oz (.store 8 (.s 9) (.s 34))<|
 oq 10 (.mv (.s 35))<|
 .nil) [3,4,7,8,9,10])
 (.seq
 (.seq
 (.drw (.nil)
 (oq 36 (.load true 8 (.s 7))<|
 oq 37 (.load true 8 (.s 9))<|
 oq 38 (.call f_law00_SameTree [.s 36,.s 37])<|
 oq 39 (.un .not (.s 38))<|
 oq 40 (.mv (.s 39))<|
 .grp 40 false (oq 41 (.mv (.s 8))<|
 oq 42 (.mv (.s 10))<|
 oq 43 (.bin .neq (.s 41) (.s 42))<|
 .nil) 44 (.s 43) (.k (.bool true))<|
 oq 45 (.mv (.s 44))<|
 .grp 45 false (oq 46 (.load true 8 (.s 4))<|
 oq 47 (.call f_law00_Tree [.s 46])<|
 oq 48 (.call f_merge_Clean [.s 47])<|
 oq 49 (.load true 8 (.s 4))<|
 oq 50 (.call f_ref16_Clean [.s 49])<|
 oq 51 (.beq true (.s 48) (.s 50))<|
 .nil) 52 (.s 51) (.k (.bool true))<|
 .nil)
 (.nil) [3,4,52])
 (.cond (.s 52)
 (.seq
 (.reg (oq 6 (.mv (.k (.bool false)))<|
 .nil) [6])
 .ret)
 .skip))
 (.seq
 (.seq
 (.reg (oq 53 (.load true 8 (.s 3))<|
 oq 54 (.call f_ref05_Check [.s 53])<|
 oq 55 (.un .not (.s 54))<|
 oq 56 (.mv (.s 55))<|
 .grp 56 false (oq 57 (.load true 8 (.s 4))<|
 oq 58 (.call f_ref05_Check [.s 57])<|
 oq 59 (.un .not (.s 58))<|
 .nil) 60 (.s 59) (.k (.bool true))<|
 .nil) [3,4,60])
 (.cond (.s 60)
 (.seq
 (.reg (oq 61 (.call f_law16_awake [])<|
 oq 6 (.mv (.s 61))<|
 .nil) [6])
 .ret)
 .skip))
 (.seq
 (.drw (.nil)
 (oq 62 (.load true 8 (.s 3))<|
 oq 63 (.call f_law00_Tree [.s 62])<|
 oq 64 (.load true 8 (.s 4))<|
 oq 65 (.call f_law00_Tree [.s 64])<|
 oq 66 (.call f_merge_Merge [.s 63,.s 65])<|
 oq 67 (.load true 8 (.s 3))<|
 oq 68 (.load true 8 (.s 4))<|
 .nil)
 (oq 69 (.call f_ref16_Merge [.s 67,.s 68])<|
 oq 70 (.call f_ref05_Same [.s 66,.s 69])<|
 oq 71 (.mv (.s 70))<|
 .grp 71 true (oq 72 (.call f_law16_awake [])<|
 .nil) 73 (.s 72) (.k (.bool false))<|
 oq 6 (.mv (.s 73))<|
 .nil) [6])
 .ret)))))))
def p_law16_MergeAll:PFn:=⟨[.tmp 6],q_law16_MergeAll⟩
def n_law16_MergeAll:Fn:=⟨3,[.tmp 6],false,false,erase q_law16_MergeAll⟩
def q_tree_Check:PC:=
 (.seq
 (.reg (.box 8 1 (.s 0)<|
 oq 2 (.mv (.k (.bool false)))<|
 .nil) [1])
 (.seq
 (.reg (oq 3 (.alloc [.int .i64 0])<|
 oz (.store 1 (.s 3) (.k (.int .i64 2000)))<|
 .nil) [1,3])
 (.seq
 (.reg (oq 4 (.load true 8 (.s 1))<|
 oq 5 (.call f_tree_check [.s 4,(.k (.int .i64 1)),.s 3])<|
 oq 2 (.mv (.s 5))<|
 .nil) [2])
 .ret)))
def p_tree_Check:PFn:=⟨[.tmp 2],q_tree_Check⟩
def n_tree_Check:Fn:=⟨1,[.tmp 2],false,false,erase q_tree_Check⟩
def q_tree_Depth:PC:=
 (.seq
 (.reg (.box 8 1 (.s 0)<|
 oq 2 (.mv (.k (.int .i64 0)))<|
 .nil) [1])
 (.seq
 (.reg (oq 3 (.mv (.k (.int .i64 0)))<|
 .nil) [1,3])
 (.seq
 (.seq
 (.reg (oq 6 (.fad 7 (.s 1))<|
 oq 7 (.load false 1 (.s 6))<|
 oq 8 (.len (.s 7))<|
 oq 9 (.mv (.k (.int .i64 0)))<|
 .nil) [3,7,8,9])
 (.blk 0
 (.loop ⟨[(3,.v),(7,.same),(8,.same),(9,.v)],[.same]⟩ [(.ext 0,⟨[(3,.v)],[.same]⟩)]
 (.seq
 (.reg (oq 10 (.bin .lss (.s 9) (.s 8))<|
 .nil) [3,7,8,9,10])
 (.seq
 (.cond (.s 10)
 .skip
 (.exit 0))
 (.seq
 (.blk 1
 (.seq
 (.reg (oq 11 (.iad 8 (.s 7) (.s 9))<|
 oq 12 (.load true 8 (.s 11))<|
 oq 5 (.alloc zt8)<|
 oz (.store 8 (.s 5) (.s 12))<|
 .nil) [3,5,7,8,9])
 (.reg (oq 13 (.mv (.s 3))<|
 oq 14 (.load true 8 (.s 5))<|
 oq 15 (.call f_tree_Depth [.s 14])<|
 oq 16 (.max [.s 13,.s 15])<|
 oq 3 (.mv (.s 16))<|
 .nil) [3,7,8,9])))
 (.reg (oq 17 (.bin .add (.s 9) (.k (.int .i64 1)))<|
 oq 9 (.mv (.s 17))<|
 .nil) [3,7,8,9])))))))
 (.seq
 (.reg (oq 18 (.mv (.s 3))<|
 oq 19 (.bin .add (.k (.int .i64 1)) (.s 18))<|
 oq 2 (.mv (.s 19))<|
 .nil) [2])
 .ret))))
def p_tree_Depth:PFn:=⟨[.tmp 2],q_tree_Depth⟩
def n_tree_Depth:Fn:=⟨1,[.tmp 2],false,false,erase q_tree_Depth⟩
def q_tree_Weight:PC:=
 (.seq
 (.reg (.box 8 1 (.s 0)<|
 oq 2 (.mv (.k (.int .i64 0)))<|
 .nil) [1])
 (.seq
 (.reg (oq 3 (.mv (.k (.int .i64 1)))<|
 .nil) [1,3])
 (.seq
 (.cut ⟨[(1,.same),(3,.v)],[.same]⟩ [(.nrm,⟨[(1,.same),(3,.v)],[.same]⟩)]
 (.seq
 (.reg (oq 6 (.fad 0 (.s 1))<|
 oq 7 (.load false 1 (.s 6))<|
 .nil) [1,3,7])
 (.blk 0
 (.seq
 (.reg (oq 9 (.bin .eql (.s 7) (.k (.int .i64 3)))<|
 oq 8 (.mv (.s 9))<|
 .nil) [1,3,7,8])
 (.cond (.s 8)
 (.reg (oq 10 (.mv (.s 3))<|
 oq 11 (.fad 2 (.s 1))<|
 oq 12 (.fad 1 (.s 11))<|
 oq 13 (.load false 1 (.s 12))<|
 oq 14 (.len (.s 13))<|
 oq 15 (.bin .add (.s 10) (.s 14))<|
 oq 3 (.mv (.s 15))<|
 .nil) [1,3])
 (.seq
 (.cut ⟨[(1,.same),(3,.same),(7,.same)],[.same]⟩ [(.nrm,⟨[(1,.same),(3,.same),(16,.v)],[.same]⟩)]
 (.seq
 (.reg (oq 17 (.bin .eql (.s 7) (.k (.int .i64 4)))<|
 oq 16 (.mv (.s 17))<|
 .nil) [1,3,7,16])
 (.cond (.s 16)
 .skip
 (.reg (oq 18 (.bin .eql (.s 7) (.k (.int .i64 5)))<|
 oq 16 (.mv (.s 18))<|
 .nil) [1,3,16]))))
 (.cond (.s 16)
 (.reg (oq 19 (.mv (.s 3))<|
 oq 20 (.fad 5 (.s 1))<|
 oq 21 (.load false 1 (.s 20))<|
 oq 22 (.lns (.s 21))<|
 oq 23 (.bin .add (.s 19) (.s 22))<|
 oq 3 (.mv (.s 23))<|
 .nil) [1,3])
 .skip)))))))
 (.seq
 (.seq
 (.reg (oq 24 (.fad 7 (.s 1))<|
 oq 25 (.load false 1 (.s 24))<|
 oq 26 (.len (.s 25))<|
 oq 27 (.mv (.k (.int .i64 0)))<|
 .nil) [3,25,26,27])
 (.blk 1
 (.loop ⟨[(3,.v),(25,.same),(26,.same),(27,.v)],[.same]⟩ [(.ext 1,⟨[(3,.v)],[.same]⟩)]
 (.seq
 (.reg (oq 28 (.bin .lss (.s 27) (.s 26))<|
 .nil) [3,25,26,27,28])
 (.seq
 (.cond (.s 28)
 .skip
 (.exit 1))
 (.seq
 (.blk 2
 (.seq
 (.reg (oq 29 (.iad 8 (.s 25) (.s 27))<|
 oq 30 (.load true 8 (.s 29))<|
 oq 5 (.alloc zt8)<|
 oz (.store 8 (.s 5) (.s 30))<|
 .nil) [3,5,25,26,27])
 (.reg (oq 31 (.mv (.s 3))<|
 oq 32 (.load true 8 (.s 5))<|
 oq 33 (.call f_tree_Weight [.s 32])<|
 oq 34 (.bin .add (.s 31) (.s 33))<|
 oq 3 (.mv (.s 34))<|
 .nil) [3,25,26,27])))
 (.reg (oq 35 (.bin .add (.s 27) (.k (.int .i64 1)))<|
 oq 27 (.mv (.s 35))<|
 .nil) [3,25,26,27])))))))
 (.seq
 (.reg (oq 36 (.mv (.s 3))<|
 oq 2 (.mv (.s 36))<|
 .nil) [2])
 .ret)))))
def p_tree_Weight:PFn:=⟨[.tmp 2],q_tree_Weight⟩
def n_tree_Weight:Fn:=⟨1,[.tmp 2],false,false,erase q_tree_Weight⟩
def q_law00_Tree:PC:=
 (.seq
 (.reg (.box 8 1 (.s 0)<|
 oq 2 (.alloc zt8)<|
 .nil) [1,2])
 (.seq
 (.drw (oq 3 (.alloc zt8)<|
 .nil)
 (oq 5 (.fad 0 (.s 1))<|
 oq 6 (.load false 1 (.s 5))<|
 oq 7 (.fad 1 (.s 1))<|
 oq 8 (.load false 1 (.s 7))<|
 oq 9 (.fad 2 (.s 1))<|
 oq 10 (.load true 3 (.s 9))<|
 oq 11 (.call f_law00_Num [.s 10])<|
 oq 12 (.fad 5 (.s 1))<|
 oq 13 (.load false 1 (.s 12))<|
 oq 14 (.fad 6 (.s 1))<|
 oq 15 (.load false 1 (.s 14))<|
 oq 16 (.call f_law00_Strings [.s 15])<|
 oq 17 (.build zt8 [(0,1,(.s 6)),(1,1,(.s 8)),(2,3,(.s 11)),(5,1,(.s 13)),(6,1,(.s 16))])<|
 .nil)
 (oz (.store 8 (.s 3) (.s 17))<|
 .nil) [1,2,3])
 (.seq
 (.seq
 (.reg (oq 4 (.mv (.k (.int .i64 0)))<|
 .nil) [1,2,3,4])
 (.blk 0
 (.loop ⟨[(1,.same),(2,.same),(3,.same),(4,.v)],[.same,.same,(.cells [.v,.v,.v,.v,.v,.v,.v,(.own 8)])]⟩ [(.ext 0,⟨[(2,.same),(3,.same)],[.same,.same,(.cells [.v,.v,.v,.v,.v,.v,.v,(.own 8)])]⟩)]
 (.seq
 (.seq
 (.reg (oq 18 (.mv (.s 4))<|
 oq 19 (.fad 7 (.s 1))<|
 oq 20 (.load false 1 (.s 19))<|
 oq 21 (.len (.s 20))<|
 oq 22 (.bin .lss (.s 18) (.s 21))<|
 .nil) [1,2,3,4,22])
 (.cond (.s 22)
 .skip
 (.exit 0)))
 (.seq
 (.blk 1
 (.drq (.nil)
 (oq 25 (.fad 7 (.s 3))<|
 oq 26 (.load false 1 (.s 25))<|
 oq 27 (.fad 7 (.s 1))<|
 oq 28 (.load false 1 (.s 27))<|
 oq 29 (.mv (.s 4))<|
 oq 30 (.iad 8 (.s 28) (.s 29))<|
 oq 31 (.load true 8 (.s 30))<|
 oq 32 (.call f_law00_Tree [.s 31])<|
 oq 33 (.lit 1 zt8 [(0,8,(.s 32))])<|
 .nil)
 (oq 34 (.app 8 120 (.s 26) (.s 33))<|
 oq 35 (.fad 7 (.s 3))<|
 oz (.store 1 (.s 35) (.s 34))<|
 .nil) [1,2,3,4]))
 (.reg (oq 23 (.mv (.s 4))<|
 oq 24 (.bin .add (.s 23) (.k (.int .i64 1)))<|
 oq 4 (.mv (.s 24))<|
 .nil) [1,2,3,4]))))))
 (.seq
 (.reg (oq 36 (.load true 8 (.s 3))<|
 oz (.store 8 (.s 2) (.s 36))<|
 .nil) [2])
 .ret))))
def p_law00_Tree:PFn:=⟨[.cell 2 true 8],q_law00_Tree⟩
def n_law00_Tree:Fn:=⟨1,[.cell 2 true 8],false,false,erase q_law00_Tree⟩
def q_tree_Nodes:PC:=
 (.seq
 (.reg (.box 8 1 (.s 0)<|
 oq 2 (.mv (.k (.int .i64 0)))<|
 .nil) [1])
 (.seq
 (.reg (oq 3 (.mv (.k (.int .i64 1)))<|
 .nil) [1,3])
 (.seq
 (.seq
 (.reg (oq 6 (.fad 7 (.s 1))<|
 oq 7 (.load false 1 (.s 6))<|
 oq 8 (.len (.s 7))<|
 oq 9 (.mv (.k (.int .i64 0)))<|
 .nil) [3,7,8,9])
 (.blk 0
 (.loop ⟨[(3,.v),(7,.same),(8,.same),(9,.v)],[.same]⟩ [(.ext 0,⟨[(3,.v)],[.same]⟩)]
 (.seq
 (.reg (oq 10 (.bin .lss (.s 9) (.s 8))<|
 .nil) [3,7,8,9,10])
 (.seq
 (.cond (.s 10)
 .skip
 (.exit 0))
 (.seq
 (.blk 1
 (.seq
 (.reg (oq 11 (.iad 8 (.s 7) (.s 9))<|
 oq 12 (.load true 8 (.s 11))<|
 oq 5 (.alloc zt8)<|
 oz (.store 8 (.s 5) (.s 12))<|
 .nil) [3,5,7,8,9])
 (.reg (oq 13 (.mv (.s 3))<|
 oq 14 (.load true 8 (.s 5))<|
 oq 15 (.call f_tree_Nodes [.s 14])<|
 oq 16 (.bin .add (.s 13) (.s 15))<|
 oq 3 (.mv (.s 16))<|
 .nil) [3,7,8,9])))
 (.reg (oq 17 (.bin .add (.s 9) (.k (.int .i64 1)))<|
 oq 9 (.mv (.s 17))<|
 .nil) [3,7,8,9])))))))
 (.seq
 (.reg (oq 18 (.mv (.s 3))<|
 oq 2 (.mv (.s 18))<|
 .nil) [2])
 .ret))))
def p_tree_Nodes:PFn:=⟨[.tmp 2],q_tree_Nodes⟩
def n_tree_Nodes:Fn:=⟨1,[.tmp 2],false,false,erase q_tree_Nodes⟩
def q_law00_Light:PC:=
 (.seq
 (.reg (.box 8 2 (.s 0)<|
 oq 4 (.mv (.k (.bool false)))<|
 .nil) [1,2])
 (.seq
 (.reg (oq 5 (.load true 8 (.s 2))<|
 oq 6 (.mv (.s 1))<|
 oq 7 (.call f_law00_light [.s 5,.s 6])<|
 oq 8 (.bin .geq (.s 7) (.k (.int .i64 0)))<|
 oq 4 (.mv (.s 8))<|
 .nil) [4])
 .ret))
def p_law00_Light:PFn:=⟨[.tmp 4],q_law00_Light⟩
def n_law00_Light:Fn:=⟨2,[.tmp 4],false,false,erase q_law00_Light⟩
def q_law16_awake:PC:=
 (.seq
 (.reg (oq 0 (.mv (.k (.bool false)))<|
 .nil) [])
 (.seq
 (.reg (oq 3 (.build zt8 [(0,1,(.k (.int .i64 1)))])<|
 oq 1 (.alloc zt8)<|
 oz (.store 8 (.s 1) (.s 3))<|
 .nil) [1])
 (.seq
 (.reg (oq 4 (.lit 2 [(.str [])] [(0,1,(.k (.str [97]))),(1,1,(.k (.str [98])))])<|
 oq 5 (.build zt8 [(0,1,(.k (.int .i64 2)))])<|
 oq 6 (.build zt8 [(0,1,(.k (.int .i64 2)))])<|
 oq 7 (.lit 2 zt8 [(0,8,(.s 5)),(8,8,(.s 6))])<|
 oq 8 (.build zt8 [(0,1,(.k (.int .i64 7))),(6,1,(.s 4)),(7,1,(.s 7))])<|
 oq 9 (.lit 2 [(.str [])] [(0,1,(.k (.str [97]))),(1,1,(.k (.str [99])))])<|
 oq 10 (.load true 8 (.s 1))<|
 oq 11 (.build zt8 [(0,1,(.k (.int .i64 2))),(1,1,(.k (.bool true)))])<|
 oq 12 (.lit 2 zt8 [(0,8,(.s 10)),(8,8,(.s 11))])<|
 oq 13 (.build zt8 [(0,1,(.k (.int .i64 7))),(6,1,(.s 9)),(7,1,(.s 12))])<|
 oq 14 (.call f_merge_Merge [.s 8,.s 13])<|
 oq 2 (.alloc zt8)<|
 oz (.store 8 (.s 2) (.s 14))<|
 .nil) [2])
 (.seq
 (.reg (oq 15 (.fad 6 (.s 2))<|
 oq 16 (.load false 1 (.s 15))<|
 oq 17 (.len (.s 16))<|
 oq 18 (.bin .eql (.s 17) (.k (.int .i64 2)))<|
 oq 19 (.mv (.s 18))<|
 .grp 19 true (oq 20 (.fad 7 (.s 2))<|
 oq 21 (.load false 1 (.s 20))<|
 oq 22 (.len (.s 21))<|
 oq 23 (.bin .eql (.s 22) (.k (.int .i64 2)))<|
 .nil) 24 (.s 23) (.k (.bool false))<|
 oq 25 (.mv (.s 24))<|
 .grp 25 true (oq 26 (.fad 6 (.s 2))<|
 oq 27 (.load false 1 (.s 26))<|
 oq 28 (.iad 1 (.s 27) (.k (.int .i64 0)))<|
 oq 29 (.load false 1 (.s 28))<|
 oq 30 (.bin .eql (.s 29) (.k (.str [98])))<|
 .nil) 31 (.s 30) (.k (.bool false))<|
 oq 32 (.mv (.s 31))<|
 .grp 32 true (oq 33 (.fad 6 (.s 2))<|
 oq 34 (.load false 1 (.s 33))<|
 oq 35 (.iad 1 (.s 34) (.k (.int .i64 1)))<|
 oq 36 (.load false 1 (.s 35))<|
 oq 37 (.bin .eql (.s 36) (.k (.str [99])))<|
 .nil) 38 (.s 37) (.k (.bool false))<|
 oq 39 (.mv (.s 38))<|
 .grp 39 true (oq 40 (.fad 7 (.s 2))<|
 oq 41 (.load false 1 (.s 40))<|
 oq 42 (.iad 8 (.s 41) (.k (.int .i64 1)))<|
 oq 43 (.fad 1 (.s 42))<|
 oq 44 (.load false 1 (.s 43))<|
 .nil) 45 (.s 44) (.k (.bool false))<|
 oq 46 (.mv (.s 45))<|
 .grp 46 true (oq 47 (.load true 8 (.s 2))<|
 oq 48 (.call f_merge_Clean [.s 47])<|
 .nil) 49 (.s 48) (.k (.bool false))<|
 oq 0 (.mv (.s 49))<|
 .nil) [0])
 .ret))))
def p_law16_awake:PFn:=⟨[.tmp 0],q_law16_awake⟩
def n_law16_awake:Fn:=⟨0,[.tmp 0],false,false,erase q_law16_awake⟩
def q_merge_Apply:PC:=
 (.seq
 (.reg (.box 8 3 (.s 0)<|
 .box 8 4 (.s 1)<|
 oq 6 (.alloc zt8)<|
 oq 7 (.mv (.k (.int .i64 0)))<|
 .nil) [2,3,4,6])
 (.seq
 (.seq
 (.reg (oq 9 (.load true 8 (.s 3))<|
 oq 10 (.call f_tree_Check [.s 9])<|
 oq 11 (.un .not (.s 10))<|
 oq 12 (.mv (.s 11))<|
 .grp 12 false (oq 13 (.load true 8 (.s 4))<|
 oq 14 (.call f_tree_Check [.s 13])<|
 oq 15 (.un .not (.s 14))<|
 .nil) 16 (.s 15) (.k (.bool true))<|
 .nil) [2,3,4,6,16])
 (.cond (.s 16)
 (.seq
 (.reg (oq 17 (.build zt8 [])<|
 oz (.store 8 (.s 6) (.s 17))<|
 oq 7 (.mv (.k (.int .i64 1)))<|
 .nil) [6,7])
 .ret)
 .skip))
 (.seq
 (.reg (oq 18 (.load true 8 (.s 3))<|
 oq 19 (.load true 8 (.s 4))<|
 oq 20 (.call f_merge_Merge [.s 18,.s 19])<|
 oq 8 (.alloc zt8)<|
 oz (.store 8 (.s 8) (.s 20))<|
 .nil) [2,6,8])
 (.seq
 (.seq
 (.reg (oq 21 (.load true 8 (.s 8))<|
 oq 22 (.mv (.s 2))<|
 oq 23 (.call f_merge_fits [.s 21,.s 22])<|
 oq 24 (.un .not (.s 23))<|
 .nil) [6,8,24])
 (.cond (.s 24)
 (.seq
 (.reg (oq 25 (.build zt8 [])<|
 oz (.store 8 (.s 6) (.s 25))<|
 oq 7 (.mv (.k (.int .i64 4)))<|
 .nil) [6,7])
 .ret)
 .skip))
 (.seq
 (.reg (oq 26 (.load true 8 (.s 8))<|
 oz (.store 8 (.s 6) (.s 26))<|
 oq 7 (.mv (.k (.int .i64 0)))<|
 .nil) [6,7])
 .ret)))))
def p_merge_Apply:PFn:=⟨[.cell 6 true 8,.tmp 7],q_merge_Apply⟩
def n_merge_Apply:Fn:=⟨3,[.cell 6 true 8,.tmp 7],false,false,erase q_merge_Apply⟩
def q_ref16_Apply:PC:=
 (.seq
 (.reg (.box 8 3 (.s 0)<|
 .box 8 4 (.s 1)<|
 oq 6 (.alloc zt8)<|
 oq 7 (.mv (.k (.int .i64 0)))<|
 .nil) [2,3,4,6])
 (.seq
 (.seq
 (.reg (oq 9 (.load true 8 (.s 3))<|
 oq 10 (.call f_ref05_Check [.s 9])<|
 oq 11 (.un .not (.s 10))<|
 oq 12 (.mv (.s 11))<|
 .grp 12 false (oq 13 (.load true 8 (.s 4))<|
 oq 14 (.call f_ref05_Check [.s 13])<|
 oq 15 (.un .not (.s 14))<|
 .nil) 16 (.s 15) (.k (.bool true))<|
 .nil) [2,3,4,6,16])
 (.cond (.s 16)
 (.seq
 (.reg (oq 17 (.build zt8 [])<|
 oz (.store 8 (.s 6) (.s 17))<|
 oq 7 (.mv (.k (.int .i64 1)))<|
 .nil) [6,7])
 .ret)
 .skip))
 (.seq
 (.reg (oq 18 (.load true 8 (.s 3))<|
 oq 19 (.load true 8 (.s 4))<|
 oq 20 (.call f_ref16_Merge [.s 18,.s 19])<|
 oq 8 (.alloc zt8)<|
 oz (.store 8 (.s 8) (.s 20))<|
 .nil) [2,6,8])
 (.seq
 (.seq
 (.reg (oq 21 (.load true 8 (.s 8))<|
 oq 22 (.mv (.s 2))<|
 oq 23 (.call f_ref15_Fits [.s 21,.s 22])<|
 oq 24 (.un .not (.s 23))<|
 .nil) [6,8,24])
 (.cond (.s 24)
 (.seq
 (.reg (oq 25 (.build zt8 [])<|
 oz (.store 8 (.s 6) (.s 25))<|
 oq 7 (.mv (.k (.int .i64 4)))<|
 .nil) [6,7])
 .ret)
 .skip))
 (.seq
 (.reg (oq 26 (.load true 8 (.s 8))<|
 oz (.store 8 (.s 6) (.s 26))<|
 oq 7 (.mv (.k (.int .i64 0)))<|
 .nil) [6,7])
 .ret)))))
def p_ref16_Apply:PFn:=⟨[.cell 6 true 8,.tmp 7],q_ref16_Apply⟩
def n_ref16_Apply:Fn:=⟨3,[.cell 6 true 8,.tmp 7],false,false,erase q_ref16_Apply⟩
def q_law00_SameTree:PC:=
 (.seq
 (.reg (.box 8 2 (.s 0)<|
 .box 8 3 (.s 1)<|
 oq 4 (.mv (.k (.bool false)))<|
 .nil) [2,3])
 (.seq
 (.seq
 (.reg (oq 6 (.fad 0 (.s 2))<|
 oq 7 (.load false 1 (.s 6))<|
 oq 8 (.fad 0 (.s 3))<|
 oq 9 (.load false 1 (.s 8))<|
 oq 10 (.bin .neq (.s 7) (.s 9))<|
 oq 11 (.mv (.s 10))<|
 .grp 11 false (oq 12 (.fad 1 (.s 2))<|
 oq 13 (.load false 1 (.s 12))<|
 oq 14 (.fad 1 (.s 3))<|
 oq 15 (.load false 1 (.s 14))<|
 oq 16 (.beq true (.s 13) (.s 15))<|
 .nil) 17 (.s 16) (.k (.bool true))<|
 oq 18 (.mv (.s 17))<|
 .grp 18 false (oq 19 (.fad 2 (.s 2))<|
 oq 20 (.load true 3 (.s 19))<|
 oq 21 (.fad 2 (.s 3))<|
 oq 22 (.load true 3 (.s 21))<|
 oq 23 (.call f_law00_SameNum [.s 20,.s 22])<|
 oq 24 (.un .not (.s 23))<|
 .nil) 25 (.s 24) (.k (.bool true))<|
 oq 26 (.mv (.s 25))<|
 .grp 26 false (oq 27 (.fad 5 (.s 2))<|
 oq 28 (.load false 1 (.s 27))<|
 oq 29 (.fad 5 (.s 3))<|
 oq 30 (.load false 1 (.s 29))<|
 oq 31 (.bin .neq (.s 28) (.s 30))<|
 .nil) 32 (.s 31) (.k (.bool true))<|
 oq 33 (.mv (.s 32))<|
 .grp 33 false (oq 34 (.fad 6 (.s 2))<|
 oq 35 (.load false 1 (.s 34))<|
 oq 36 (.fad 6 (.s 3))<|
 oq 37 (.load false 1 (.s 36))<|
 oq 38 (.call f_law00_SameStrings [.s 35,.s 37])<|
 oq 39 (.un .not (.s 38))<|
 .nil) 40 (.s 39) (.k (.bool true))<|
 oq 41 (.mv (.s 40))<|
 .grp 41 false (oq 42 (.fad 7 (.s 2))<|
 oq 43 (.load false 1 (.s 42))<|
 oq 44 (.len (.s 43))<|
 oq 45 (.fad 7 (.s 3))<|
 oq 46 (.load false 1 (.s 45))<|
 oq 47 (.len (.s 46))<|
 oq 48 (.bin .neq (.s 44) (.s 47))<|
 .nil) 49 (.s 48) (.k (.bool true))<|
 .nil) [2,3,49])
 (.cond (.s 49)
 (.seq
 (.reg (oq 4 (.mv (.k (.bool false)))<|
 .nil) [4])
 .ret)
 .skip))
 (.seq
 (.seq
 (.reg (oq 5 (.mv (.k (.int .i64 0)))<|
 .nil) [2,3,5])
 (.blk 0
 (.loop ⟨[(2,.same),(3,.same),(5,.v)],[.same,.same]⟩ [(.ext 0,⟨[],[.same,.same]⟩),(.ret,⟨[(4,.v)],[.same,.same]⟩)]
 (.seq
 (.seq
 (.reg (oq 50 (.mv (.s 5))<|
 oq 51 (.fad 7 (.s 2))<|
 oq 52 (.load false 1 (.s 51))<|
 oq 53 (.len (.s 52))<|
 oq 54 (.bin .lss (.s 50) (.s 53))<|
 .nil) [2,3,5,54])
 (.cond (.s 54)
 .skip
 (.exit 0)))
 (.seq
 (.blk 1
 (.seq
 (.drw (.nil)
 (oq 57 (.fad 7 (.s 2))<|
 oq 58 (.load false 1 (.s 57))<|
 oq 59 (.mv (.s 5))<|
 oq 60 (.iad 8 (.s 58) (.s 59))<|
 oq 61 (.load true 8 (.s 60))<|
 oq 62 (.fad 7 (.s 3))<|
 oq 63 (.load false 1 (.s 62))<|
 oq 64 (.mv (.s 5))<|
 oq 65 (.iad 8 (.s 63) (.s 64))<|
 oq 66 (.load true 8 (.s 65))<|
 .nil)
 (oq 67 (.call f_law00_SameTree [.s 61,.s 66])<|
 oq 68 (.un .not (.s 67))<|
 .nil) [2,3,5,68])
 (.cond (.s 68)
 (.seq
 (.reg (oq 4 (.mv (.k (.bool false)))<|
 .nil) [4])
 .ret)
 .skip)))
 (.reg (oq 55 (.mv (.s 5))<|
 oq 56 (.bin .add (.s 55) (.k (.int .i64 1)))<|
 oq 5 (.mv (.s 56))<|
 .nil) [2,3,5]))))))
 (.seq
 (.reg (oq 4 (.mv (.k (.bool true)))<|
 .nil) [4])
 .ret))))
def p_law00_SameTree:PFn:=⟨[.tmp 4],q_law00_SameTree⟩
def n_law00_SameTree:Fn:=⟨2,[.tmp 4],false,false,erase q_law00_SameTree⟩
def q_merge_Clean:PC:=
 (.seq
 (.reg (.box 8 1 (.s 0)<|
 oq 2 (.mv (.k (.bool false)))<|
 .nil) [1])
 (.seq
 (.reg (oq 3 (.fad 0 (.s 1))<|
 oq 4 (.load false 1 (.s 3))<|
 oq 5 (.bin .neq (.s 4) (.k (.int .i64 7)))<|
 oq 6 (.mv (.s 5))<|
 .grp 6 false (oq 7 (.fad 7 (.s 1))<|
 oq 8 (.load false 1 (.s 7))<|
 oq 9 (.call f_slices_ContainsFunc_aT [.s 8,(.k (.fn f_merge_Clean_1 []))])<|
 oq 10 (.un .not (.s 9))<|
 .nil) 11 (.s 10) (.k (.bool true))<|
 oq 2 (.mv (.s 11))<|
 .nil) [2])
 .ret))
def p_merge_Clean:PFn:=⟨[.tmp 2],q_merge_Clean⟩
def n_merge_Clean:Fn:=⟨1,[.tmp 2],false,false,erase q_merge_Clean⟩
def q_ref16_Clean:PC:=
 (.seq
 (.reg (.box 8 1 (.s 0)<|
 oq 2 (.mv (.k (.bool false)))<|
 .nil) [1])
 (.seq
 (.seq
 (.reg (oq 3 (.mv (.k (.int .i64 0)))<|
 .nil) [1,3])
 (.blk 0
 (.loop ⟨[(1,.same),(3,.v)],[.same]⟩ [(.ext 0,⟨[],[.same]⟩),(.ret,⟨[(2,.v)],[.same]⟩)]
 (.seq
 (.seq
 (.reg (oq 4 (.mv (.s 3))<|
 oq 5 (.fad 7 (.s 1))<|
 oq 6 (.load false 1 (.s 5))<|
 oq 7 (.len (.s 6))<|
 oq 8 (.bin .lss (.s 4) (.s 7))<|
 oq 9 (.mv (.s 8))<|
 .grp 9 true (oq 10 (.fad 0 (.s 1))<|
 oq 11 (.load false 1 (.s 10))<|
 oq 12 (.bin .eql (.s 11) (.k (.int .i64 7)))<|
 .nil) 13 (.s 12) (.k (.bool false))<|
 .nil) [1,3,13])
 (.cond (.s 13)
 .skip
 (.exit 0)))
 (.seq
 (.blk 1
 (.seq
 (.reg (oq 16 (.fad 7 (.s 1))<|
 oq 17 (.load false 1 (.s 16))<|
 oq 18 (.mv (.s 3))<|
 oq 19 (.iad 8 (.s 17) (.s 18))<|
 oq 20 (.fad 0 (.s 19))<|
 oq 21 (.load false 1 (.s 20))<|
 oq 22 (.bin .eql (.s 21) (.k (.int .i64 1)))<|
 oq 23 (.mv (.s 22))<|
 .grp 23 false (oq 24 (.fad 7 (.s 1))<|
 oq 25 (.load false 1 (.s 24))<|
 oq 26 (.mv (.s 3))<|
 oq 27 (.iad 8 (.s 25) (.s 26))<|
 oq 28 (.load true 8 (.s 27))<|
 oq 29 (.call f_ref16_Clean [.s 28])<|
 oq 30 (.un .not (.s 29))<|
 .nil) 31 (.s 30) (.k (.bool true))<|
 .nil) [1,3,31])
 (.cond (.s 31)
 (.seq
 (.reg (oq 2 (.mv (.k (.bool false)))<|
 .nil) [2])
 .ret)
 .skip)))
 (.reg (oq 14 (.mv (.s 3))<|
 oq 15 (.bin .add (.s 14) (.k (.int .i64 1)))<|
 oq 3 (.mv (.s 15))<|
 .nil) [1,3]))))))
 (.seq
 (.reg (oq 2 (.mv (.k (.bool true)))<|
 .nil) [2])
 .ret)))
def p_ref16_Clean:PFn:=⟨[.tmp 2],q_ref16_Clean⟩
def n_ref16_Clean:Fn:=⟨1,[.tmp 2],false,false,erase q_ref16_Clean⟩
def q_ref05_Check:PC:=
 (.seq
 (.reg (.box 8 1 (.s 0)<|
 oq 2 (.mv (.k (.bool false)))<|
 .nil) [1])
 (.seq
 (.reg (oq 3 (.load true 8 (.s 1))<|
 oq 4 (.call f_ref05_walk [.s 3,(.k (.int .i64 1)),(.k (.int .i64 0))])<|
 oq 5 (.bin .geq (.s 4) (.k (.int .i64 0)))<|
 oq 2 (.mv (.s 5))<|
 .nil) [2])
 .ret))
def p_ref05_Check:PFn:=⟨[.tmp 2],q_ref05_Check⟩
def n_ref05_Check:Fn:=⟨1,[.tmp 2],false,false,erase q_ref05_Check⟩
def q_ref05_Same:PC:=
 (.seq
 (.reg (.box 8 2 (.s 0)<|
 .box 8 3 (.s 1)<|
 oq 4 (.mv (.k (.bool false)))<|
 .nil) [2,3])
 (.seq
 (.seq
 (.reg (oq 7 (.fad 0 (.s 2))<|
 oq 8 (.load false 1 (.s 7))<|
 oq 9 (.fad 0 (.s 3))<|
 oq 10 (.load false 1 (.s 9))<|
 oq 11 (.bin .neq (.s 8) (.s 10))<|
 .nil) [2,3,11])
 (.cond (.s 11)
 (.seq
 (.reg (oq 4 (.mv (.k (.bool false)))<|
 .nil) [4])
 .ret)
 .skip))
 (.seq
 (.seq
 (.reg (oq 12 (.fad 0 (.s 2))<|
 oq 13 (.load false 1 (.s 12))<|
 .nil) [2,3,13])
 (.blk 0
 (.seq
 (.reg (oq 15 (.bin .eql (.s 13) (.k (.int .i64 2)))<|
 oq 14 (.mv (.s 15))<|
 .nil) [2,3,13,14])
 (.cond (.s 14)
 (.seq
 (.reg (oq 16 (.fad 1 (.s 2))<|
 oq 17 (.load false 1 (.s 16))<|
 oq 18 (.fad 1 (.s 3))<|
 oq 19 (.load false 1 (.s 18))<|
 oq 20 (.beq false (.s 17) (.s 19))<|
 oq 4 (.mv (.s 20))<|
 .nil) [4])
 .ret)
 (.seq
 (.reg (oq 22 (.bin .eql (.s 13) (.k (.int .i64 3)))<|
 oq 21 (.mv (.s 22))<|
 .nil) [2,3,13,21])
 (.cond (.s 21)
 (.seq
 (.reg (oq 23 (.fad 2 (.s 2))<|
 oq 24 (.load true 3 (.s 23))<|
 oq 25 (.fad 2 (.s 3))<|
 oq 26 (.load true 3 (.s 25))<|
 oq 27 (.call f_ref02_Same [.s 24,.s 26])<|
 oq 4 (.mv (.s 27))<|
 .nil) [4])
 .ret)
 (.seq
 (.cut ⟨[(2,.same),(3,.same),(13,.same)],[.same,.same]⟩ [(.nrm,⟨[(2,.same),(3,.same),(13,.same),(28,.v)],[.same,.same]⟩)]
 (.seq
 (.reg (oq 29 (.bin .eql (.s 13) (.k (.int .i64 4)))<|
 oq 28 (.mv (.s 29))<|
 .nil) [2,3,13,28])
 (.cond (.s 28)
 .skip
 (.reg (oq 30 (.bin .eql (.s 13) (.k (.int .i64 5)))<|
 oq 28 (.mv (.s 30))<|
 .nil) [2,3,13,28]))))
 (.cond (.s 28)
 (.seq
 (.reg (oq 31 (.fad 5 (.s 2))<|
 oq 32 (.load false 1 (.s 31))<|
 oq 33 (.fad 5 (.s 3))<|
 oq 34 (.load false 1 (.s 33))<|
 oq 35 (.bin .eql (.s 32) (.s 34))<|
 oq 4 (.mv (.s 35))<|
 .nil) [4])
 .ret)
 (.seq
 (.cut ⟨[(2,.same),(3,.same),(13,.same)],[.same,.same]⟩ [(.nrm,⟨[(2,.same),(3,.same),(36,.v)],[.same,.same]⟩)]
 (.seq
 (.reg (oq 37 (.bin .eql (.s 13) (.k (.int .i64 6)))<|
 oq 36 (.mv (.s 37))<|
 .nil) [2,3,13,36])
 (.cond (.s 36)
 .skip
 (.reg (oq 38 (.bin .eql (.s 13) (.k (.int .i64 7)))<|
 oq 36 (.mv (.s 38))<|
 .nil) [2,3,36]))))
 (.cond (.s 36)
 (.seq
 (.seq
 (.reg (oq 39 (.fad 7 (.s 2))<|
 oq 40 (.load false 1 (.s 39))<|
 oq 41 (.len (.s 40))<|
 oq 42 (.fad 7 (.s 3))<|
 oq 43 (.load false 1 (.s 42))<|
 oq 44 (.len (.s 43))<|
 oq 45 (.bin .neq (.s 41) (.s 44))<|
 oq 46 (.mv (.s 45))<|
 .grp 46 false (oq 47 (.fad 0 (.s 2))<|
 oq 48 (.load false 1 (.s 47))<|
 oq 49 (.bin .eql (.s 48) (.k (.int .i64 7)))<|
 oq 50 (.mv (.s 49))<|
 .grp 50 true (oq 51 (.fad 6 (.s 2))<|
 oq 52 (.load false 1 (.s 51))<|
 oq 53 (.len (.s 52))<|
 oq 54 (.fad 6 (.s 3))<|
 oq 55 (.load false 1 (.s 54))<|
 oq 56 (.len (.s 55))<|
 oq 57 (.bin .neq (.s 53) (.s 56))<|
 .nil) 58 (.s 57) (.k (.bool false))<|
 .nil) 59 (.s 58) (.k (.bool true))<|
 .nil) [2,3,59])
 (.cond (.s 59)
 (.seq
 (.reg (oq 4 (.mv (.k (.bool false)))<|
 .nil) [4])
 .ret)
 .skip))
 (.seq
 (.seq
 (.reg (oq 5 (.mv (.k (.int .i64 0)))<|
 .nil) [2,3,5])
 (.blk 1
 (.loop ⟨[(2,.same),(3,.same),(5,.v)],[.same,.same]⟩ [(.ext 1,⟨[(2,.same),(3,.same)],[.same,.same]⟩),(.ret,⟨[(4,.v)],[.same,.same]⟩)]
 (.seq
 (.seq
 (.reg (oq 60 (.mv (.s 5))<|
 oq 61 (.fad 6 (.s 2))<|
 oq 62 (.load false 1 (.s 61))<|
 oq 63 (.len (.s 62))<|
 oq 64 (.bin .lss (.s 60) (.s 63))<|
 oq 65 (.mv (.s 64))<|
 .grp 65 true (oq 66 (.fad 0 (.s 2))<|
 oq 67 (.load false 1 (.s 66))<|
 oq 68 (.bin .eql (.s 67) (.k (.int .i64 7)))<|
 .nil) 69 (.s 68) (.k (.bool false))<|
 .nil) [2,3,5,69])
 (.cond (.s 69)
 .skip
 (.exit 1)))
 (.seq
 (.blk 2
 (.seq
 (.drw (.nil)
 (oq 72 (.fad 6 (.s 2))<|
 oq 73 (.load false 1 (.s 72))<|
 oq 74 (.mv (.s 5))<|
 oq 75 (.iad 1 (.s 73) (.s 74))<|
 oq 76 (.load false 1 (.s 75))<|
 oq 77 (.fad 6 (.s 3))<|
 oq 78 (.load false 1 (.s 77))<|
 oq 79 (.mv (.s 5))<|
 oq 80 (.iad 1 (.s 78) (.s 79))<|
 oq 81 (.load false 1 (.s 80))<|
 .nil)
 (oq 82 (.bin .neq (.s 76) (.s 81))<|
 .nil) [2,3,5,82])
 (.cond (.s 82)
 (.seq
 (.reg (oq 4 (.mv (.k (.bool false)))<|
 .nil) [4])
 .ret)
 .skip)))
 (.reg (oq 70 (.mv (.s 5))<|
 oq 71 (.bin .add (.s 70) (.k (.int .i64 1)))<|
 oq 5 (.mv (.s 71))<|
 .nil) [2,3,5]))))))
 (.seq
 (.reg (oq 6 (.mv (.k (.int .i64 0)))<|
 .nil) [2,3,6])
 (.blk 3
 (.loop ⟨[(2,.same),(3,.same),(6,.v)],[.same,.same]⟩ [(.ext 3,⟨[],[.same,.same]⟩),(.ret,⟨[(4,.v)],[.same,.same]⟩)]
 (.seq
 (.seq
 (.reg (oq 83 (.mv (.s 6))<|
 oq 84 (.fad 7 (.s 2))<|
 oq 85 (.load false 1 (.s 84))<|
 oq 86 (.len (.s 85))<|
 oq 87 (.bin .lss (.s 83) (.s 86))<|
 .nil) [2,3,6,87])
 (.cond (.s 87)
 .skip
 (.exit 3)))
 (.seq
 (.blk 4
 (.seq
 (.drw (.nil)
 (oq 90 (.fad 7 (.s 2))<|
 oq 91 (.load false 1 (.s 90))<|
 oq 92 (.mv (.s 6))<|
 oq 93 (.iad 8 (.s 91) (.s 92))<|
 oq 94 (.load true 8 (.s 93))<|
 oq 95 (.fad 7 (.s 3))<|
 oq 96 (.load false 1 (.s 95))<|
 oq 97 (.mv (.s 6))<|
 oq 98 (.iad 8 (.s 96) (.s 97))<|
 oq 99 (.load true 8 (.s 98))<|
 .nil)
 (oq 100 (.call f_ref05_Same [.s 94,.s 99])<|
 oq 101 (.un .not (.s 100))<|
 .nil) [2,3,6,101])
 (.cond (.s 101)
 (.seq
 (.reg (oq 4 (.mv (.k (.bool false)))<|
 .nil) [4])
 .ret)
 .skip)))
 (.reg (oq 88 (.mv (.s 6))<|
 oq 89 (.bin .add (.s 88) (.k (.int .i64 1)))<|
 oq 6 (.mv (.s 89))<|
 .nil) [2,3,6]))))))))
 .skip))))))))))
 (.seq
 (.reg (oq 4 (.mv (.k (.bool true)))<|
 .nil) [4])
 .ret))))
def p_ref05_Same:PFn:=⟨[.tmp 4],q_ref05_Same⟩
def n_ref05_Same:Fn:=⟨2,[.tmp 4],false,false,erase q_ref05_Same⟩
def q_merge_Merge:PC:=
 (.seq
 (.reg (.box 8 2 (.s 0)<|
 .box 8 3 (.s 1)<|
 oq 4 (.alloc zt8)<|
 .nil) [2,3,4])
 (.seq
 (.seq
 (.reg (oq 9 (.fad 0 (.s 3))<|
 oq 10 (.load false 1 (.s 9))<|
 oq 11 (.bin .neq (.s 10) (.k (.int .i64 7)))<|
 .nil) [2,3,4,11])
 (.cond (.s 11)
 (.seq
 (.reg (oq 12 (.load true 8 (.s 3))<|
 oz (.store 8 (.s 4) (.s 12))<|
 .nil) [4])
 .ret)
 .skip))
 (.seq
 (.cut ⟨[(2,.same),(3,.same),(4,.same)],[(.box 8),.same,.same]⟩ [(.nrm,⟨[(2,.same),(3,.same),(4,.same)],[(.cells [.v,.v,.v,.v,.v,.v,.v,.v]),.same,.same]⟩)]
 (.seq
 (.reg (oq 13 (.fad 0 (.s 2))<|
 oq 14 (.load false 1 (.s 13))<|
 oq 15 (.bin .neq (.s 14) (.k (.int .i64 7)))<|
 .nil) [2,3,4,15])
 (.cond (.s 15)
 (.reg (oq 16 (.build zt8 [(0,1,(.k (.int .i64 7)))])<|
 oz (.store 8 (.s 2) (.s 16))<|
 .nil) [2,3,4])
 .skip)))
 (.seq
 .skip
 (.seq
 (.seq
 (.reg (oq 17 (.fad 6 (.s 3))<|
 oq 18 (.load false 1 (.s 17))<|
 oq 19 (.fad 6 (.s 3))<|
 oq 20 (.load false 1 (.s 19))<|
 oq 21 (.len (.s 20))<|
 oq 22 (.fad 7 (.s 3))<|
 oq 23 (.load false 1 (.s 22))<|
 oq 24 (.len (.s 23))<|
 oq 25 (.min [.s 21,.s 24])<|
 oq 26 (.slc 1 (.s 18) none (some (.s 25)) none)<|
 oq 27 (.len (.s 26))<|
 oq 28 (.mv (.k (.int .i64 0)))<|
 .nil) [2,3,4,26,27,28])
 (.blk 0
 (.loop ⟨[(2,.same),(3,.same),(4,.same),(26,.same),(27,.same),(28,.v)],[(.box 8),.same,.same]⟩ [(.ext 0,⟨[(2,.same),(4,.same)],[(.box 8),.same,.same]⟩)]
 (.seq
 (.reg (oq 29 (.bin .lss (.s 28) (.s 27))<|
 .nil) [2,3,4,26,27,28,29])
 (.seq
 (.cond (.s 29)
 .skip
 (.exit 0))
 (.seq
 (.blk 1
 (.seq
 (.reg (oq 30 (.mv (.s 28))<|
 oq 31 (.iad 1 (.s 26) (.s 28))<|
 oq 32 (.load false 1 (.s 31))<|
 oq 5 (.mv (.s 30))<|
 oq 6 (.mv (.s 32))<|
 .nil) [2,3,4,5,6,26,27,28])
 (.seq
 (.seq
 (.reg (oq 33 (.fad 7 (.s 3))<|
 oq 34 (.load false 1 (.s 33))<|
 oq 35 (.mv (.s 5))<|
 oq 36 (.iad 8 (.s 34) (.s 35))<|
 oq 37 (.fad 0 (.s 36))<|
 oq 38 (.load false 1 (.s 37))<|
 oq 39 (.bin .eql (.s 38) (.k (.int .i64 1)))<|
 .nil) [2,3,4,5,6,26,27,28,39])
 (.cond (.s 39)
 (.seq
 (.reg (oq 40 (.load true 8 (.s 2))<|
 oq 41 (.mv (.s 6))<|
 oq 42 (.call f_tree_Unset [.s 40,.s 41])<|
 oz (.store 8 (.s 2) (.s 42))<|
 .nil) [2,3,4,26,27,28])
 (.exit 1))
 .skip))
 (.seq
 (.reg (oq 44 (.load true 8 (.s 2))<|
 oq 45 (.mv (.s 6))<|
 oq 46 (.call f_tree_Member [.s 44,.s 45])<|
 oq 43 (.mv (.s 46))<|
 oq 47 (.ext (.s 43) 0)<|
 oq 48 (.ext (.s 43) 1)<|
 oq 7 (.alloc zt8)<|
 oz (.store 8 (.s 7) (.s 47))<|
 oq 8 (.mv (.s 48))<|
 .nil) [2,3,4,5,6,7,8,26,27,28])
 (.seq
 (.cut ⟨[(2,.same),(3,.same),(4,.same),(26,.same),(27,.same),(28,.same),(5,.same),(6,.same),(7,.same),(8,.same)],[.same,.same,.same,(.box 8)]⟩ [(.nrm,⟨[(2,.same),(3,.same),(4,.same),(26,.same),(27,.same),(28,.same),(5,.same),(6,.same),(7,.same)],[.same,.same,.same,(.cells [.v,.v,.v,.v,.v,.v,.v,.v])]⟩)]
 (.seq
 (.reg (oq 49 (.mv (.s 8))<|
 oq 50 (.un .not (.s 49))<|
 .nil) [2,3,4,5,6,7,26,27,28,50])
 (.cond (.s 50)
 (.reg (oq 51 (.build zt8 [(0,1,(.k (.int .i64 1)))])<|
 oz (.store 8 (.s 7) (.s 51))<|
 .nil) [2,3,4,5,6,7,26,27,28])
 .skip)))
 (.drw (.nil)
 (oq 52 (.load true 8 (.s 2))<|
 oq 53 (.mv (.s 6))<|
 oq 54 (.load true 8 (.s 7))<|
 oq 55 (.fad 7 (.s 3))<|
 oq 56 (.load false 1 (.s 55))<|
 oq 57 (.mv (.s 5))<|
 oq 58 (.iad 8 (.s 56) (.s 57))<|
 oq 59 (.load true 8 (.s 58))<|
 oq 60 (.call f_merge_Merge [.s 54,.s 59])<|
 .nil)
 (oq 61 (.call f_tree_Set [.s 52,.s 53,.s 60])<|
 oz (.store 8 (.s 2) (.s 61))<|
 .nil) [2,3,4,26,27,28]))))))
 (.reg (oq 62 (.bin .add (.s 28) (.k (.int .i64 1)))<|
 oq 28 (.mv (.s 62))<|
 .nil) [2,3,4,26,27,28])))))))
 (.seq
 (.reg (oq 63 (.load true 8 (.s 2))<|
 oz (.store 8 (.s 4) (.s 63))<|
 .nil) [4])
 .ret))))))
def p_merge_Merge:PFn:=⟨[.cell 4 true 8],q_merge_Merge⟩
def n_merge_Merge:Fn:=⟨2,[.cell 4 true 8],false,false,erase q_merge_Merge⟩
def q_ref16_Merge:PC:=
 (.seq
 (.reg (.box 8 2 (.s 0)<|
 .box 8 3 (.s 1)<|
 oq 4 (.alloc zt8)<|
 .nil) [2,3,4])
 (.seq
 (.seq
 (.reg (oq 9 (.fad 0 (.s 3))<|
 oq 10 (.load false 1 (.s 9))<|
 oq 11 (.bin .neq (.s 10) (.k (.int .i64 7)))<|
 .nil) [2,3,4,11])
 (.cond (.s 11)
 (.seq
 (.reg (oq 12 (.load true 8 (.s 3))<|
 oz (.store 8 (.s 4) (.s 12))<|
 .nil) [4])
 .ret)
 .skip))
 (.seq
 (.reg (oq 13 (.build zt8 [(0,1,(.k (.int .i64 7)))])<|
 oq 5 (.alloc zt8)<|
 oz (.store 8 (.s 5) (.s 13))<|
 .nil) [2,3,4,5])
 (.seq
 (.cut ⟨[(2,.same),(3,.same),(4,.same),(5,.same)],[.same,.same,.same,(.cells [.v,.v,.v,.v,.v,.v,.v,.v])]⟩ [(.nrm,⟨[(3,.same),(4,.same),(5,.same)],[.same,.same,.same,(.box 8)]⟩)]
 (.seq
 (.reg (oq 14 (.fad 0 (.s 2))<|
 oq 15 (.load false 1 (.s 14))<|
 oq 16 (.bin .eql (.s 15) (.k (.int .i64 7)))<|
 .nil) [2,3,4,5,16])
 (.cond (.s 16)
 (.reg (oq 17 (.load true 8 (.s 2))<|
 oz (.store 8 (.s 5) (.s 17))<|
 .nil) [3,4,5])
 .skip)))
 (.seq
 (.seq
 (.reg (oq 6 (.mv (.k (.int .i64 0)))<|
 .nil) [3,4,5,6])
 (.blk 0
 (.loop ⟨[(3,.same),(4,.same),(5,.same),(6,.v)],[.same,.same,.same,(.box 8)]⟩ [(.ext 0,⟨[(4,.same),(5,.same)],[.same,.same,.same,(.box 8)]⟩)]
 (.seq
 (.seq
 (.reg (oq 18 (.mv (.s 6))<|
 oq 19 (.fad 6 (.s 3))<|
 oq 20 (.load false 1 (.s 19))<|
 oq 21 (.len (.s 20))<|
 oq 22 (.bin .lss (.s 18) (.s 21))<|
 oq 23 (.mv (.s 22))<|
 .grp 23 true (oq 24 (.mv (.s 6))<|
 oq 25 (.fad 7 (.s 3))<|
 oq 26 (.load false 1 (.s 25))<|
 oq 27 (.len (.s 26))<|
 oq 28 (.bin .lss (.s 24) (.s 27))<|
 .nil) 29 (.s 28) (.k (.bool false))<|
 .nil) [3,4,5,6,29])
 (.cond (.s 29)
 .skip
 (.exit 0)))
 (.seq
 (.blk 1
 (.seq
 (.seq
 (.reg (oq 32 (.fad 7 (.s 3))<|
 oq 33 (.load false 1 (.s 32))<|
 oq 34 (.mv (.s 6))<|
 oq 35 (.iad 8 (.s 33) (.s 34))<|
 oq 36 (.fad 0 (.s 35))<|
 oq 37 (.load false 1 (.s 36))<|
 oq 38 (.bin .eql (.s 37) (.k (.int .i64 1)))<|
 .nil) [3,4,5,6,38])
 (.cond (.s 38)
 (.seq
 (.drw (.nil)
 (oq 39 (.load true 8 (.s 5))<|
 oq 40 (.fad 6 (.s 3))<|
 oq 41 (.load false 1 (.s 40))<|
 oq 42 (.mv (.s 6))<|
 oq 43 (.iad 1 (.s 41) (.s 42))<|
 oq 44 (.load false 1 (.s 43))<|
 .nil)
 (oq 45 (.call f_ref05_Unset [.s 39,.s 44])<|
 oz (.store 8 (.s 5) (.s 45))<|
 .nil) [3,4,5,6])
 (.exit 1))
 .skip))
 (.seq
 (.drw (oq 7 (.alloc zt8)<|
 .nil)
 (oq 47 (.load true 8 (.s 5))<|
 oq 48 (.fad 6 (.s 3))<|
 oq 49 (.load false 1 (.s 48))<|
 oq 50 (.mv (.s 6))<|
 oq 51 (.iad 1 (.s 49) (.s 50))<|
 oq 52 (.load false 1 (.s 51))<|
 oq 53 (.call f_ref05_Member [.s 47,.s 52])<|
 oq 46 (.mv (.s 53))<|
 oq 54 (.ext (.s 46) 0)<|
 oq 55 (.ext (.s 46) 1)<|
 .nil)
 (oz (.store 8 (.s 7) (.s 54))<|
 oq 8 (.mv (.s 55))<|
 .nil) [3,4,5,6,7,8])
 (.seq
 (.cut ⟨[(3,.same),(4,.same),(5,.same),(6,.same),(7,.same),(8,.same)],[.same,.same,.same,.same,(.box 8)]⟩ [(.nrm,⟨[(3,.same),(4,.same),(5,.same),(6,.same),(7,.same)],[.same,.same,.same,.same,(.cells [.v,.v,.v,.v,.v,.v,.v,.v])]⟩)]
 (.seq
 (.reg (oq 56 (.mv (.s 8))<|
 oq 57 (.un .not (.s 56))<|
 .nil) [3,4,5,6,7,57])
 (.cond (.s 57)
 (.reg (oq 58 (.build zt8 [(0,1,(.k (.int .i64 1)))])<|
 oz (.store 8 (.s 7) (.s 58))<|
 .nil) [3,4,5,6,7])
 .skip)))
 (.drw (.nil)
 (oq 59 (.load true 8 (.s 5))<|
 oq 60 (.fad 6 (.s 3))<|
 oq 61 (.load false 1 (.s 60))<|
 oq 62 (.mv (.s 6))<|
 oq 63 (.iad 1 (.s 61) (.s 62))<|
 oq 64 (.load false 1 (.s 63))<|
 oq 65 (.load true 8 (.s 7))<|
 oq 66 (.fad 7 (.s 3))<|
 oq 67 (.load false 1 (.s 66))<|
 oq 68 (.mv (.s 6))<|
 oq 69 (.iad 8 (.s 67) (.s 68))<|
 oq 70 (.load true 8 (.s 69))<|
 oq 71 (.call f_ref16_Merge [.s 65,.s 70])<|
 .nil)
 (oq 72 (.call f_ref05_Set [.s 59,.s 64,.s 71])<|
 oz (.store 8 (.s 5) (.s 72))<|
 .nil) [3,4,5,6])))))
 (.reg (oq 30 (.mv (.s 6))<|
 oq 31 (.bin .add (.s 30) (.k (.int .i64 1)))<|
 oq 6 (.mv (.s 31))<|
 .nil) [3,4,5,6]))))))
 (.seq
 (.reg (oq 73 (.load true 8 (.s 5))<|
 oz (.store 8 (.s 4) (.s 73))<|
 .nil) [4])
 .ret))))))
def p_ref16_Merge:PFn:=⟨[.cell 4 true 8],q_ref16_Merge⟩
def n_ref16_Merge:Fn:=⟨2,[.cell 4 true 8],false,false,erase q_ref16_Merge⟩
def q_tree_Set:PC:=
 (.seq
 (.reg (.box 8 3 (.s 0)<|
 .box 1 4 (.s 1)<|
 .box 8 5 (.s 2)<|
 oq 6 (.alloc zt8)<|
 .nil) [3,4,5,6])
 (.seq
 (.reg (oq 14 (.load true 8 (.s 3))<|
 oq 15 (.call f_tree_cut [.s 14])<|
 oq 13 (.mv (.s 15))<|
 oq 16 (.ext (.s 13) 0)<|
 oq 17 (.ext (.s 13) 1)<|
 oq 7 (.mv (.s 16))<|
 oq 8 (.mv (.s 17))<|
 .nil) [4,5,6,7,8])
 (.seq
 (.drw (oq 18 (.mv (.s 7))<|
 oq 19 (.len (.s 18))<|
 oq 21 (.mv (.s 8))<|
 oq 22 (.len (.s 21))<|
 oq 20 (.mks [(.str [])] 16 (.s 19) (.s 19))<|
 oq 23 (.mks zt8 120 (.s 22) (.s 22))<|
 .nil)
 (oq 9 (.mv (.s 20))<|
 .nil)
 (oq 10 (.mv (.s 23))<|
 .nil) [4,5,6,7,8,9,10])
 (.seq
 (.reg (oq 24 (.mv (.s 9))<|
 oq 25 (.mv (.s 7))<|
 oq 26 (.cpy 1 (.s 24) (.s 25))<|
 .nil) [4,5,6,8,9,10])
 (.seq
 (.reg (oq 27 (.mv (.s 10))<|
 oq 28 (.mv (.s 8))<|
 oq 29 (.cpy 8 (.s 27) (.s 28))<|
 .nil) [4,5,6,9,10])
 (.seq
 (.seq
 (.reg (oq 30 (.mv (.s 9))<|
 oq 31 (.load false 1 (.s 4))<|
 oq 32 (.call f_slices_Index_string [.s 30,.s 31])<|
 oq 11 (.mv (.s 32))<|
 .nil) [4,5,6,9,10,11])
 (.seq
 (.reg (oq 33 (.mv (.s 11))<|
 oq 34 (.bin .geq (.s 33) (.k (.int .i64 0)))<|
 .nil) [4,5,6,9,10,11,34])
 (.cond (.s 34)
 (.seq
 (.reg (oq 35 (.mv (.s 10))<|
 oq 36 (.mv (.s 11))<|
 oq 37 (.load true 8 (.s 5))<|
 oq 38 (.iad 8 (.s 35) (.s 36))<|
 oz (.store 8 (.s 38) (.s 37))<|
 .nil) [6,9,10])
 (.seq
 (.reg (oq 39 (.mv (.s 9))<|
 oq 40 (.mv (.s 10))<|
 oq 41 (.build zt8 [(0,1,(.k (.int .i64 7))),(6,1,(.s 39)),(7,1,(.s 40))])<|
 oz (.store 8 (.s 6) (.s 41))<|
 .nil) [6])
 .ret))
 .skip)))
 (.seq
 (.reg (oq 42 (.mv (.s 9))<|
 oq 43 (.mkf f_tree_Set_1 [.s 4])<|
 oq 44 (.call f_slices_IndexFunc_string [.s 42,.s 43])<|
 oq 12 (.mv (.s 44))<|
 .nil) [4,5,6,9,10,12])
 (.seq
 (.cut ⟨[(4,.same),(5,.same),(6,.same),(9,.same),(10,.same),(12,.v)],[.same,.same,.same,.same,.same,.same]⟩ [(.nrm,⟨[(4,.same),(5,.same),(6,.same),(9,.same),(10,.same),(12,.v)],[.same,.same,.same,.same,.same,.same]⟩)]
 (.seq
 (.reg (oq 45 (.mv (.s 12))<|
 oq 46 (.bin .lss (.s 45) (.k (.int .i64 0)))<|
 .nil) [4,5,6,9,10,12,46])
 (.cond (.s 46)
 (.reg (oq 47 (.mv (.s 9))<|
 oq 48 (.len (.s 47))<|
 oq 12 (.mv (.s 48))<|
 .nil) [4,5,6,9,10,12])
 .skip)))
 (.seq
 (.drw (.nil)
 (oq 49 (.mv (.s 9))<|
 oq 50 (.mv (.s 12))<|
 oq 51 (.load false 1 (.s 4))<|
 oq 52 (.lit 1 [(.str [])] [(0,1,(.s 51))])<|
 oq 53 (.call f_slices_Insert_string [.s 49,.s 50,.s 52])<|
 oq 54 (.mv (.s 10))<|
 oq 55 (.mv (.s 12))<|
 oq 56 (.load true 8 (.s 5))<|
 oq 57 (.lit 1 zt8 [(0,8,(.s 56))])<|
 .nil)
 (oq 58 (.call f_slices_Insert_aT [.s 54,.s 55,.s 57])<|
 oq 59 (.build zt8 [(0,1,(.k (.int .i64 7))),(6,1,(.s 53)),(7,1,(.s 58))])<|
 oz (.store 8 (.s 6) (.s 59))<|
 .nil) [6])
 .ret)))))))))
def p_tree_Set:PFn:=⟨[.cell 6 true 8],q_tree_Set⟩
def n_tree_Set:Fn:=⟨3,[.cell 6 true 8],false,false,erase q_tree_Set⟩
def q_tree_Member:PC:=
 (.seq
 (.reg (.box 8 2 (.s 0)<|
 oq 4 (.alloc zt8)<|
 oq 5 (.mv (.k (.bool false)))<|
 .nil) [1,2,4])
 (.seq
 (.reg (oq 10 (.load true 8 (.s 2))<|
 oq 11 (.call f_tree_cut [.s 10])<|
 oq 9 (.mv (.s 11))<|
 oq 12 (.ext (.s 9) 0)<|
 oq 13 (.ext (.s 9) 1)<|
 oq 6 (.mv (.s 12))<|
 oq 7 (.mv (.s 13))<|
 .nil) [1,4,6,7])
 (.seq
 (.seq
 (.reg (oq 14 (.mv (.s 6))<|
 oq 15 (.mv (.s 1))<|
 oq 16 (.call f_slices_Index_string [.s 14,.s 15])<|
 oq 8 (.mv (.s 16))<|
 .nil) [4,7,8])
 (.seq
 (.reg (oq 17 (.mv (.s 8))<|
 oq 18 (.bin .geq (.s 17) (.k (.int .i64 0)))<|
 .nil) [4,7,8,18])
 (.cond (.s 18)
 (.seq
 (.reg (oq 19 (.mv (.s 7))<|
 oq 20 (.mv (.s 8))<|
 oq 21 (.iad 8 (.s 19) (.s 20))<|
 oq 22 (.load true 8 (.s 21))<|
 oz (.store 8 (.s 4) (.s 22))<|
 oq 5 (.mv (.k (.bool true)))<|
 .nil) [4,5])
 .ret)
 .skip)))
 (.seq
 (.reg (oq 23 (.build zt8 [])<|
 oz (.store 8 (.s 4) (.s 23))<|
 oq 5 (.mv (.k (.bool false)))<|
 .nil) [4,5])
 .ret))))
def p_tree_Member:PFn:=⟨[.cell 4 true 8,.tmp 5],q_tree_Member⟩
def n_tree_Member:Fn:=⟨2,[.cell 4 true 8,.tmp 5],false,false,erase q_tree_Member⟩
def q_tree_Unset:PC:=
 (.seq
 (.reg (.box 8 2 (.s 0)<|
 oq 4 (.alloc zt8)<|
 .nil) [1,2,4])
 (.seq
 (.reg (oq 9 (.load true 8 (.s 2))<|
 oq 10 (.call f_tree_cut [.s 9])<|
 oq 8 (.mv (.s 10))<|
 oq 11 (.ext (.s 8) 0)<|
 oq 12 (.ext (.s 8) 1)<|
 oq 5 (.mv (.s 11))<|
 oq 6 (.mv (.s 12))<|
 .nil) [1,2,4,5,6])
 (.seq
 (.reg (oq 13 (.mv (.s 5))<|
 oq 14 (.mv (.s 1))<|
 oq 15 (.call f_slices_Index_string [.s 13,.s 14])<|
 oq 7 (.mv (.s 15))<|
 .nil) [2,4,5,6,7])
 (.seq
 (.seq
 (.reg (oq 16 (.mv (.s 7))<|
 oq 17 (.bin .lss (.s 16) (.k (.int .i64 0)))<|
 .nil) [2,4,5,6,7,17])
 (.cond (.s 17)
 (.seq
 (.reg (oq 18 (.load true 8 (.s 2))<|
 oz (.store 8 (.s 4) (.s 18))<|
 .nil) [4])
 .ret)
 .skip))
 (.seq
 (.drw (.nil)
 (oq 19 (.mv (.s 5))<|
 oq 20 (.mv (.s 7))<|
 oq 21 (.slc 1 (.s 19) none (some (.s 20)) none)<|
 oq 22 (.mv (.s 5))<|
 oq 23 (.mv (.s 7))<|
 oq 24 (.bin .add (.s 23) (.k (.int .i64 1)))<|
 oq 25 (.slc 1 (.s 22) (some (.s 24)) none none)<|
 oq 26 (.lit 2 [(.sl .full 0 [])] [(0,1,(.s 21)),(1,1,(.s 25))])<|
 oq 27 (.call f_slices_Concat_string [.s 26])<|
 oq 28 (.mv (.s 6))<|
 oq 29 (.mv (.s 7))<|
 oq 30 (.slc 8 (.s 28) none (some (.s 29)) none)<|
 oq 31 (.mv (.s 6))<|
 oq 32 (.mv (.s 7))<|
 oq 33 (.bin .add (.s 32) (.k (.int .i64 1)))<|
 oq 34 (.slc 8 (.s 31) (some (.s 33)) none none)<|
 oq 35 (.lit 2 [(.sl .full 0 [])] [(0,1,(.s 30)),(1,1,(.s 34))])<|
 .nil)
 (oq 36 (.call f_slices_Concat_aT [.s 35])<|
 oq 37 (.build zt8 [(0,1,(.k (.int .i64 7))),(6,1,(.s 27)),(7,1,(.s 36))])<|
 oz (.store 8 (.s 4) (.s 37))<|
 .nil) [4])
 .ret)))))
def p_tree_Unset:PFn:=⟨[.cell 4 true 8],q_tree_Unset⟩
def n_tree_Unset:Fn:=⟨2,[.cell 4 true 8],false,false,erase q_tree_Unset⟩
def q_tree_check:PC:=
 (.seq
 (.reg (.box 8 3 (.s 0)<|
 oq 6 (.mv (.k (.bool false)))<|
 .nil) [1,2,3])
 (.seq
 (.reg (oq 9 (.mv (.s 2))<|
 oq 10 (.chk (.s 9))<|
 oq 11 (.load false 1 (.s 10))<|
 oq 12 (.bin .sub (.s 11) (.k (.int .i64 1)))<|
 oq 13 (.chk (.s 9))<|
 oz (.store 1 (.s 13) (.s 12))<|
 .nil) [1,2,3])
 (.seq
 (.seq
 (.reg (oq 14 (.mv (.s 2))<|
 oq 15 (.chk (.s 14))<|
 oq 16 (.load false 1 (.s 15))<|
 oq 17 (.bin .lss (.s 16) (.k (.int .i64 0)))<|
 oq 18 (.mv (.s 17))<|
 .grp 18 false (oq 19 (.mv (.s 1))<|
 oq 20 (.bin .gtr (.s 19) (.k (.int .i64 64)))<|
 .nil) 21 (.s 20) (.k (.bool true))<|
 oq 22 (.mv (.s 21))<|
 .grp 22 false (oq 23 (.load true 8 (.s 3))<|
 oq 24 (.call f_tree_own [.s 23])<|
 oq 25 (.un .not (.s 24))<|
 .nil) 26 (.s 25) (.k (.bool true))<|
 .nil) [1,2,3,26])
 (.cond (.s 26)
 (.seq
 (.reg (oq 6 (.mv (.k (.bool false)))<|
 .nil) [6])
 .ret)
 .skip))
 (.seq
 (.seq
 (.reg (oq 27 (.fad 7 (.s 3))<|
 oq 28 (.load false 1 (.s 27))<|
 oq 29 (.len (.s 28))<|
 oq 30 (.mv (.k (.int .i64 0)))<|
 .nil) [1,2,28,29,30])
 (.blk 0
 (.loop ⟨[(1,.same),(2,.same),(28,.same),(29,.same),(30,.v)],[(.cells [.v]),.same]⟩ [(.ext 0,⟨[],[(.cells [.v]),.same]⟩),(.ret,⟨[(6,.v)],[(.cells [.v]),.same]⟩)]
 (.seq
 (.reg (oq 31 (.bin .lss (.s 30) (.s 29))<|
 .nil) [1,2,28,29,30,31])
 (.seq
 (.cond (.s 31)
 .skip
 (.exit 0))
 (.seq
 (.blk 1
 (.seq
 (.reg (oq 32 (.iad 8 (.s 28) (.s 30))<|
 oq 33 (.load true 8 (.s 32))<|
 oq 8 (.alloc zt8)<|
 oz (.store 8 (.s 8) (.s 33))<|
 .nil) [1,2,8,28,29,30])
 (.seq
 (.reg (oq 34 (.load true 8 (.s 8))<|
 oq 35 (.mv (.s 1))<|
 oq 36 (.bin .add (.s 35) (.k (.int .i64 1)))<|
 oq 37 (.mv (.s 2))<|
 oq 38 (.call f_tree_check [.s 34,.s 36,.s 37])<|
 oq 39 (.un .not (.s 38))<|
 .nil) [1,2,28,29,30,39])
 (.cond (.s 39)
 (.seq
 (.reg (oq 6 (.mv (.k (.bool false)))<|
 .nil) [6])
 .ret)
 .skip))))
 (.reg (oq 40 (.bin .add (.s 30) (.k (.int .i64 1)))<|
 oq 30 (.mv (.s 40))<|
 .nil) [1,2,28,29,30])))))))
 (.seq
 (.reg (oq 6 (.mv (.k (.bool true)))<|
 .nil) [6])
 .ret)))))
def p_tree_check:PFn:=⟨[.tmp 6],q_tree_check⟩
def n_tree_check:Fn:=⟨3,[.tmp 6],false,false,erase q_tree_check⟩
def q_law00_Num:PC:=
 (.seq
 (.reg (.box 3 1 (.s 0)<|
 oq 2 (.alloc [.bool false,(.sl .full 0 []),.int .i64 0])<|
 .nil) [1,2])
 (.seq
 (.drw (.nil)
 (oq 3 (.fad 0 (.s 1))<|
 oq 4 (.load false 1 (.s 3))<|
 oq 5 (.fad 1 (.s 1))<|
 oq 6 (.load false 1 (.s 5))<|
 oq 7 (.call f_law00_Limbs [.s 6])<|
 oq 8 (.fad 2 (.s 1))<|
 oq 9 (.load false 1 (.s 8))<|
 .nil)
 (oq 10 (.build [.bool false,(.sl .full 0 []),.int .i64 0] [(0,1,(.s 4)),(1,1,(.s 7)),(2,1,(.s 9))])<|
 oz (.store 3 (.s 2) (.s 10))<|
 .nil) [2])
 .ret))
def p_law00_Num:PFn:=⟨[.cell 2 true 3],q_law00_Num⟩
def n_law00_Num:Fn:=⟨1,[.cell 2 true 3],false,false,erase q_law00_Num⟩
def q_law00_Strings:PC:=
 (.seq
 (.reg (oq 2 (.mv (.k (.sl .full 0 [])))<|
 .nil) [0])
 (.seq
 (.reg (oq 3 (.mv (.s 0))<|
 oq 4 (.app 1 16 (.k (.sl .full 0 [])) (.s 3))<|
 oq 2 (.mv (.s 4))<|
 .nil) [2])
 .ret))
def p_law00_Strings:PFn:=⟨[.tmp 2],q_law00_Strings⟩
def n_law00_Strings:Fn:=⟨1,[.tmp 2],false,false,erase q_law00_Strings⟩
def q_law00_light:PC:=
 (.seq
 (.reg (.box 8 2 (.s 0)<|
 oq 4 (.mv (.k (.int .i64 0)))<|
 .nil) [1,2])
 (.seq
 (.reg (oq 7 (.mv (.s 1))<|
 oq 8 (.bin .sub (.s 7) (.k (.int .i64 1)))<|
 oq 1 (.mv (.s 8))<|
 .nil) [1,2])
 (.seq
 (.seq
 (.reg (oq 9 (.fad 2 (.s 2))<|
 oq 10 (.fad 1 (.s 9))<|
 oq 11 (.load false 1 (.s 10))<|
 oq 12 (.len (.s 11))<|
 oq 13 (.bin .gtr (.s 12) (.k (.int .i64 95)))<|
 oq 14 (.mv (.s 13))<|
 .grp 14 false (oq 15 (.fad 5 (.s 2))<|
 oq 16 (.load false 1 (.s 15))<|
 oq 17 (.lns (.s 16))<|
 oq 18 (.bin .gtr (.s 17) (.k (.int .i64 2100)))<|
 .nil) 19 (.s 18) (.k (.bool true))<|
 oq 20 (.mv (.s 19))<|
 .grp 20 false (oq 21 (.fad 6 (.s 2))<|
 oq 22 (.load false 1 (.s 21))<|
 oq 23 (.len (.s 22))<|
 oq 24 (.bin .gtr (.s 23) (.k (.int .i64 40)))<|
 .nil) 25 (.s 24) (.k (.bool true))<|
 oq 26 (.mv (.s 25))<|
 .grp 26 false (oq 27 (.fad 7 (.s 2))<|
 oq 28 (.load false 1 (.s 27))<|
 oq 29 (.len (.s 28))<|
 oq 30 (.bin .gtr (.s 29) (.k (.int .i64 40)))<|
 .nil) 31 (.s 30) (.k (.bool true))<|
 .nil) [1,2,31])
 (.cond (.s 31)
 (.seq
 (.reg (oq 4 (.mv (.k (.int .i64 (-1))))<|
 .nil) [4])
 .ret)
 .skip))
 (.seq
 (.seq
 (.reg (oq 5 (.mv (.k (.int .i64 0)))<|
 .nil) [1,2,5])
 (.blk 0
 (.loop ⟨[(1,.same),(2,.same),(5,.v)],[.same]⟩ [(.ext 0,⟨[(1,.same),(2,.same)],[.same]⟩),(.ret,⟨[(4,.v)],[.same]⟩)]
 (.seq
 (.seq
 (.reg (oq 32 (.mv (.s 5))<|
 oq 33 (.fad 6 (.s 2))<|
 oq 34 (.load false 1 (.s 33))<|
 oq 35 (.len (.s 34))<|
 oq 36 (.bin .lss (.s 32) (.s 35))<|
 .nil) [1,2,5,36])
 (.cond (.s 36)
 .skip
 (.exit 0)))
 (.seq
 (.blk 1
 (.seq
 (.reg (oq 39 (.fad 6 (.s 2))<|
 oq 40 (.load false 1 (.s 39))<|
 oq 41 (.mv (.s 5))<|
 oq 42 (.iad 1 (.s 40) (.s 41))<|
 oq 43 (.load false 1 (.s 42))<|
 oq 44 (.lns (.s 43))<|
 oq 45 (.bin .gtr (.s 44) (.k (.int .i64 2100)))<|
 .nil) [1,2,5,45])
 (.cond (.s 45)
 (.seq
 (.reg (oq 4 (.mv (.k (.int .i64 (-1))))<|
 .nil) [4])
 .ret)
 .skip)))
 (.reg (oq 37 (.mv (.s 5))<|
 oq 38 (.bin .add (.s 37) (.k (.int .i64 1)))<|
 oq 5 (.mv (.s 38))<|
 .nil) [1,2,5]))))))
 (.seq
 (.seq
 (.reg (oq 6 (.mv (.k (.int .i64 0)))<|
 .nil) [1,2,6])
 (.blk 2
 (.loop ⟨[(1,.v),(2,.same),(6,.v)],[.same]⟩ [(.ext 2,⟨[(1,.v)],[.same]⟩)]
 (.seq
 (.seq
 (.reg (oq 46 (.mv (.s 6))<|
 oq 47 (.fad 7 (.s 2))<|
 oq 48 (.load false 1 (.s 47))<|
 oq 49 (.len (.s 48))<|
 oq 50 (.bin .lss (.s 46) (.s 49))<|
 oq 51 (.mv (.s 50))<|
 .grp 51 true (oq 52 (.mv (.s 1))<|
 oq 53 (.bin .geq (.s 52) (.k (.int .i64 0)))<|
 .nil) 54 (.s 53) (.k (.bool false))<|
 .nil) [1,2,6,54])
 (.cond (.s 54)
 .skip
 (.exit 2)))
 (.seq
 (.blk 3
 (.reg (oq 57 (.fad 7 (.s 2))<|
 oq 58 (.load false 1 (.s 57))<|
 oq 59 (.mv (.s 6))<|
 oq 60 (.iad 8 (.s 58) (.s 59))<|
 oq 61 (.load true 8 (.s 60))<|
 oq 62 (.mv (.s 1))<|
 oq 63 (.call f_law00_light [.s 61,.s 62])<|
 oq 1 (.mv (.s 63))<|
 .nil) [1,2,6]))
 (.reg (oq 55 (.mv (.s 6))<|
 oq 56 (.bin .add (.s 55) (.k (.int .i64 1)))<|
 oq 6 (.mv (.s 56))<|
 .nil) [1,2,6]))))))
 (.seq
 (.reg (oq 64 (.mv (.s 1))<|
 oq 4 (.mv (.s 64))<|
 .nil) [4])
 .ret))))))
def p_law00_light:PFn:=⟨[.tmp 4],q_law00_light⟩
def n_law00_light:Fn:=⟨2,[.tmp 4],false,false,erase q_law00_light⟩
def q_merge_fits:PC:=
 (.seq
 (.reg (.box 8 2 (.s 0)<|
 oq 4 (.mv (.k (.bool false)))<|
 .nil) [1,2])
 (.seq
 (.reg (oq 5 (.load true 8 (.s 2))<|
 oq 6 (.call f_tree_Weight [.s 5])<|
 oq 7 (.mv (.s 1))<|
 oq 8 (.bin .leq (.s 6) (.s 7))<|
 oq 9 (.mv (.s 8))<|
 .grp 9 true (oq 10 (.load true 8 (.s 2))<|
 oq 11 (.call f_tree_Nodes [.s 10])<|
 oq 12 (.bin .leq (.s 11) (.k (.int .i64 2000)))<|
 .nil) 13 (.s 12) (.k (.bool false))<|
 oq 14 (.mv (.s 13))<|
 .grp 14 true (oq 15 (.load true 8 (.s 2))<|
 oq 16 (.call f_tree_Depth [.s 15])<|
 oq 17 (.bin .leq (.s 16) (.k (.int .i64 64)))<|
 .nil) 18 (.s 17) (.k (.bool false))<|
 oq 19 (.mv (.s 18))<|
 .grp 19 true (oq 20 (.load true 8 (.s 2))<|
 oq 21 (.call f_merge_few [.s 20])<|
 .nil) 22 (.s 21) (.k (.bool false))<|
 oq 4 (.mv (.s 22))<|
 .nil) [4])
 .ret))
def p_merge_fits:PFn:=⟨[.tmp 4],q_merge_fits⟩
def n_merge_fits:Fn:=⟨2,[.tmp 4],false,false,erase q_merge_fits⟩
def q_ref15_Fits:PC:=
 (.seq
 (.reg (.box 8 2 (.s 0)<|
 oq 4 (.mv (.k (.bool false)))<|
 .nil) [1,2])
 (.seq
 (.reg (oq 5 (.load true 8 (.s 2))<|
 oq 6 (.call f_ref05_Weight [.s 5])<|
 oq 7 (.mv (.s 1))<|
 oq 8 (.bin .leq (.s 6) (.s 7))<|
 oq 9 (.mv (.s 8))<|
 .grp 9 true (oq 10 (.load true 8 (.s 2))<|
 oq 11 (.call f_ref05_Nodes [.s 10])<|
 oq 12 (.bin .leq (.s 11) (.k (.int .i64 2000)))<|
 .nil) 13 (.s 12) (.k (.bool false))<|
 oq 14 (.mv (.s 13))<|
 .grp 14 true (oq 15 (.load true 8 (.s 2))<|
 oq 16 (.call f_ref05_Depth [.s 15])<|
 oq 17 (.bin .leq (.s 16) (.k (.int .i64 64)))<|
 .nil) 18 (.s 17) (.k (.bool false))<|
 oq 19 (.mv (.s 18))<|
 .grp 19 true (oq 20 (.load true 8 (.s 2))<|
 oq 21 (.call f_ref15_wide [.s 20])<|
 oq 22 (.un .not (.s 21))<|
 .nil) 23 (.s 22) (.k (.bool false))<|
 oq 4 (.mv (.s 23))<|
 .nil) [4])
 .ret))
def p_ref15_Fits:PFn:=⟨[.tmp 4],q_ref15_Fits⟩
def n_ref15_Fits:Fn:=⟨2,[.tmp 4],false,false,erase q_ref15_Fits⟩
def q_law00_SameNum:PC:=
 (.seq
 (.reg (.box 3 2 (.s 0)<|
 .box 3 3 (.s 1)<|
 oq 4 (.mv (.k (.bool false)))<|
 .nil) [2,3])
 (.seq
 (.reg (oq 5 (.fad 0 (.s 2))<|
 oq 6 (.load false 1 (.s 5))<|
 oq 7 (.fad 0 (.s 3))<|
 oq 8 (.load false 1 (.s 7))<|
 oq 9 (.beq false (.s 6) (.s 8))<|
 oq 10 (.mv (.s 9))<|
 .grp 10 true (oq 11 (.fad 2 (.s 2))<|
 oq 12 (.load false 1 (.s 11))<|
 oq 13 (.fad 2 (.s 3))<|
 oq 14 (.load false 1 (.s 13))<|
 oq 15 (.bin .eql (.s 12) (.s 14))<|
 .nil) 16 (.s 15) (.k (.bool false))<|
 oq 17 (.mv (.s 16))<|
 .grp 17 true (oq 18 (.fad 1 (.s 2))<|
 oq 19 (.load false 1 (.s 18))<|
 oq 20 (.fad 1 (.s 3))<|
 oq 21 (.load false 1 (.s 20))<|
 oq 22 (.call f_law00_SameLimbs [.s 19,.s 21])<|
 .nil) 23 (.s 22) (.k (.bool false))<|
 oq 4 (.mv (.s 23))<|
 .nil) [4])
 .ret))
def p_law00_SameNum:PFn:=⟨[.tmp 4],q_law00_SameNum⟩
def n_law00_SameNum:Fn:=⟨2,[.tmp 4],false,false,erase q_law00_SameNum⟩
def q_law00_SameStrings:PC:=
 (.seq
 (.reg (oq 4 (.mv (.k (.bool false)))<|
 .nil) [0,1])
 (.seq
 (.seq
 (.reg (oq 6 (.mv (.s 0))<|
 oq 7 (.len (.s 6))<|
 oq 8 (.mv (.s 1))<|
 oq 9 (.len (.s 8))<|
 oq 10 (.bin .neq (.s 7) (.s 9))<|
 .nil) [0,1,10])
 (.cond (.s 10)
 (.seq
 (.reg (oq 4 (.mv (.k (.bool false)))<|
 .nil) [4])
 .ret)
 .skip))
 (.seq
 (.seq
 (.reg (oq 5 (.mv (.k (.int .i64 0)))<|
 .nil) [0,1,5])
 (.blk 0
 (.loop ⟨[(0,.same),(1,.same),(5,.v)],[]⟩ [(.ext 0,⟨[],[]⟩),(.ret,⟨[(4,.v)],[]⟩)]
 (.seq
 (.seq
 (.reg (oq 11 (.mv (.s 5))<|
 oq 12 (.mv (.s 0))<|
 oq 13 (.len (.s 12))<|
 oq 14 (.bin .lss (.s 11) (.s 13))<|
 .nil) [0,1,5,14])
 (.cond (.s 14)
 .skip
 (.exit 0)))
 (.seq
 (.blk 1
 (.seq
 (.drw (.nil)
 (oq 17 (.mv (.s 0))<|
 oq 18 (.mv (.s 5))<|
 oq 19 (.iad 1 (.s 17) (.s 18))<|
 oq 20 (.load false 1 (.s 19))<|
 oq 21 (.mv (.s 1))<|
 oq 22 (.mv (.s 5))<|
 oq 23 (.iad 1 (.s 21) (.s 22))<|
 oq 24 (.load false 1 (.s 23))<|
 .nil)
 (oq 25 (.bin .neq (.s 20) (.s 24))<|
 .nil) [0,1,5,25])
 (.cond (.s 25)
 (.seq
 (.reg (oq 4 (.mv (.k (.bool false)))<|
 .nil) [4])
 .ret)
 .skip)))
 (.reg (oq 15 (.mv (.s 5))<|
 oq 16 (.bin .add (.s 15) (.k (.int .i64 1)))<|
 oq 5 (.mv (.s 16))<|
 .nil) [0,1,5]))))))
 (.seq
 (.reg (oq 4 (.mv (.k (.bool true)))<|
 .nil) [4])
 .ret))))
def p_law00_SameStrings:PFn:=⟨[.tmp 4],q_law00_SameStrings⟩
def n_law00_SameStrings:Fn:=⟨2,[.tmp 4],false,false,erase q_law00_SameStrings⟩
def q_slices_ContainsFunc_aT:PC:=
 (.seq
 (.reg (oq 4 (.mv (.k (.bool false)))<|
 .nil) [0,1])
 (.seq
 (.reg (oq 5 (.mv (.s 0))<|
 oq 6 (.mv (.s 1))<|
 oq 7 (.call f_slices_IndexFunc_aT [.s 5,.s 6])<|
 oq 8 (.bin .geq (.s 7) (.k (.int .i64 0)))<|
 oq 4 (.mv (.s 8))<|
 .nil) [4])
 .ret))
def p_slices_ContainsFunc_aT:PFn:=⟨[.tmp 4],q_slices_ContainsFunc_aT⟩
def n_slices_ContainsFunc_aT:Fn:=⟨2,[.tmp 4],false,false,erase q_slices_ContainsFunc_aT⟩
def q_merge_Clean_1:PC:=
 (.seq
 (.reg (.box 8 1 (.s 0)<|
 oq 2 (.mv (.k (.bool false)))<|
 .nil) [1])
 (.seq
 (.reg (oq 3 (.fad 0 (.s 1))<|
 oq 4 (.load false 1 (.s 3))<|
 oq 5 (.bin .eql (.s 4) (.k (.int .i64 1)))<|
 oq 6 (.mv (.s 5))<|
 .grp 6 false (oq 7 (.load true 8 (.s 1))<|
 oq 8 (.call f_merge_Clean [.s 7])<|
 oq 9 (.un .not (.s 8))<|
 .nil) 10 (.s 9) (.k (.bool true))<|
 oq 2 (.mv (.s 10))<|
 .nil) [2])
 .ret))
def p_merge_Clean_1:PFn:=⟨[.tmp 2],q_merge_Clean_1⟩
def n_merge_Clean_1:Fn:=⟨1,[.tmp 2],false,false,erase q_merge_Clean_1⟩
def q_ref05_walk:PC:=
 (.seq
 (.reg (.box 8 3 (.s 0)<|
 oq 6 (.mv (.k (.int .i64 0)))<|
 .nil) [1,2,3])
 (.seq
 (.reg (oq 8 (.mv (.s 2))<|
 oq 9 (.bin .add (.s 8) (.k (.int .i64 1)))<|
 oq 2 (.mv (.s 9))<|
 .nil) [1,2,3])
 (.seq
 (.seq
 (.reg (oq 10 (.mv (.s 2))<|
 oq 11 (.bin .gtr (.s 10) (.k (.int .i64 2000)))<|
 oq 12 (.mv (.s 11))<|
 .grp 12 false (oq 13 (.mv (.s 1))<|
 oq 14 (.bin .gtr (.s 13) (.k (.int .i64 64)))<|
 .nil) 15 (.s 14) (.k (.bool true))<|
 oq 16 (.mv (.s 15))<|
 .grp 16 false (oq 17 (.load true 8 (.s 3))<|
 oq 18 (.call f_ref05_fields [.s 17])<|
 oq 19 (.un .not (.s 18))<|
 .nil) 20 (.s 19) (.k (.bool true))<|
 .nil) [1,2,3,20])
 (.cond (.s 20)
 (.seq
 (.reg (oq 6 (.mv (.k (.int .i64 (-1))))<|
 .nil) [6])
 .ret)
 .skip))
 (.seq
 (.seq
 (.reg (oq 7 (.mv (.k (.int .i64 0)))<|
 .nil) [1,2,3,7])
 (.blk 0
 (.loop ⟨[(1,.same),(2,.v),(3,.same),(7,.v)],[.same]⟩ [(.ext 0,⟨[(2,.v)],[.same]⟩)]
 (.seq
 (.seq
 (.reg (oq 21 (.mv (.s 7))<|
 oq 22 (.fad 7 (.s 3))<|
 oq 23 (.load false 1 (.s 22))<|
 oq 24 (.len (.s 23))<|
 oq 25 (.bin .lss (.s 21) (.s 24))<|
 oq 26 (.mv (.s 25))<|
 .grp 26 true (oq 27 (.mv (.s 2))<|
 oq 28 (.bin .geq (.s 27) (.k (.int .i64 0)))<|
 .nil) 29 (.s 28) (.k (.bool false))<|
 .nil) [1,2,3,7,29])
 (.cond (.s 29)
 .skip
 (.exit 0)))
 (.seq
 (.blk 1
 (.reg (oq 32 (.fad 7 (.s 3))<|
 oq 33 (.load false 1 (.s 32))<|
 oq 34 (.mv (.s 7))<|
 oq 35 (.iad 8 (.s 33) (.s 34))<|
 oq 36 (.load true 8 (.s 35))<|
 oq 37 (.mv (.s 1))<|
 oq 38 (.bin .add (.s 37) (.k (.int .i64 1)))<|
 oq 39 (.mv (.s 2))<|
 oq 40 (.call f_ref05_walk [.s 36,.s 38,.s 39])<|
 oq 2 (.mv (.s 40))<|
 .nil) [1,2,3,7]))
 (.reg (oq 30 (.mv (.s 7))<|
 oq 31 (.bin .add (.s 30) (.k (.int .i64 1)))<|
 oq 7 (.mv (.s 31))<|
 .nil) [1,2,3,7]))))))
 (.seq
 (.reg (oq 41 (.mv (.s 2))<|
 oq 6 (.mv (.s 41))<|
 .nil) [6])
 .ret)))))
def p_ref05_walk:PFn:=⟨[.tmp 6],q_ref05_walk⟩
def n_ref05_walk:Fn:=⟨3,[.tmp 6],false,false,erase q_ref05_walk⟩
def q_ref02_Same:PC:=
 (.seq
 (.reg (.box 3 2 (.s 0)<|
 .box 3 3 (.s 1)<|
 oq 4 (.mv (.k (.bool false)))<|
 .nil) [2,3])
 (.seq
 (.drw (oq 5 (.alloc [.bool false,(.sl .full 0 []),.int .i64 0])<|
 oq 6 (.alloc [.bool false,(.sl .full 0 []),.int .i64 0])<|
 .nil)
 (oq 7 (.load true 3 (.s 2))<|
 oq 8 (.call f_ref02_Is [.s 7])<|
 oq 9 (.load true 3 (.s 3))<|
 oq 10 (.call f_ref02_Is [.s 9])<|
 .nil)
 (oz (.store 3 (.s 5) (.s 8))<|
 oz (.store 3 (.s 6) (.s 10))<|
 .nil) [5,6])
 (.seq
 (.reg (oq 11 (.fad 0 (.s 5))<|
 oq 12 (.load false 1 (.s 11))<|
 oq 13 (.fad 0 (.s 6))<|
 oq 14 (.load false 1 (.s 13))<|
 oq 15 (.beq false (.s 12) (.s 14))<|
 oq 16 (.mv (.s 15))<|
 .grp 16 true (oq 17 (.fad 2 (.s 5))<|
 oq 18 (.load false 1 (.s 17))<|
 oq 19 (.fad 2 (.s 6))<|
 oq 20 (.load false 1 (.s 19))<|
 oq 21 (.bin .eql (.s 18) (.s 20))<|
 .nil) 22 (.s 21) (.k (.bool false))<|
 oq 23 (.mv (.s 22))<|
 .grp 23 true (oq 24 (.fad 1 (.s 5))<|
 oq 25 (.load false 1 (.s 24))<|
 oq 26 (.fad 1 (.s 6))<|
 oq 27 (.load false 1 (.s 26))<|
 oq 28 (.call f_ref01_Cmp [.s 25,.s 27])<|
 oq 29 (.bin .eql (.s 28) (.k (.int .i64 0)))<|
 .nil) 30 (.s 29) (.k (.bool false))<|
 oq 4 (.mv (.s 30))<|
 .nil) [4])
 .ret)))
def p_ref02_Same:PFn:=⟨[.tmp 4],q_ref02_Same⟩
def n_ref02_Same:Fn:=⟨2,[.tmp 4],false,false,erase q_ref02_Same⟩
def q_ref05_Unset:PC:=
 (.seq
 (.reg (.box 8 2 (.s 0)<|
 oq 4 (.alloc zt8)<|
 .nil) [1,2,4])
 (.seq
 (.seq
 (.reg (oq 11 (.load true 8 (.s 2))<|
 oq 12 (.mv (.s 1))<|
 oq 13 (.call f_ref05_Member [.s 11,.s 12])<|
 oq 10 (.mv (.s 13))<|
 oq 14 (.ext (.s 10) 0)<|
 oq 15 (.ext (.s 10) 1)<|
 oq 5 (.alloc zt8)<|
 oz (.store 8 (.s 5) (.s 14))<|
 oq 6 (.mv (.s 15))<|
 .nil) [1,2,4,6])
 (.seq
 (.reg (oq 16 (.mv (.s 6))<|
 oq 17 (.un .not (.s 16))<|
 .nil) [1,2,4,17])
 (.cond (.s 17)
 (.seq
 (.reg (oq 18 (.load true 8 (.s 2))<|
 oz (.store 8 (.s 4) (.s 18))<|
 .nil) [4])
 .ret)
 .skip)))
 (.seq
 (.reg (oq 19 (.build zt8 [(0,1,(.k (.int .i64 7)))])<|
 oq 7 (.alloc zt8)<|
 oz (.store 8 (.s 7) (.s 19))<|
 .nil) [1,2,4,7])
 (.seq
 (.reg (oq 8 (.mv (.k (.bool false)))<|
 .nil) [1,2,4,7,8])
 (.seq
 (.seq
 (.reg (oq 9 (.mv (.k (.int .i64 0)))<|
 .nil) [1,2,4,7,8,9])
 (.blk 0
 (.loop ⟨[(1,.same),(2,.same),(4,.same),(7,.same),(8,.v),(9,.v)],[.same,.same,.same,(.cells [.v,.v,.v,(.own 1),.v,.v,(.own 1),(.own 8)])]⟩ [(.ext 0,⟨[(4,.same),(7,.same)],[.same,.same,.same,(.cells [.v,.v,.v,(.own 1),.v,.v,(.own 1),(.own 8)])]⟩)]
 (.seq
 (.seq
 (.reg (oq 20 (.mv (.s 9))<|
 oq 21 (.fad 6 (.s 2))<|
 oq 22 (.load false 1 (.s 21))<|
 oq 23 (.len (.s 22))<|
 oq 24 (.bin .lss (.s 20) (.s 23))<|
 oq 25 (.mv (.s 24))<|
 .grp 25 true (oq 26 (.mv (.s 9))<|
 oq 27 (.fad 7 (.s 2))<|
 oq 28 (.load false 1 (.s 27))<|
 oq 29 (.len (.s 28))<|
 oq 30 (.bin .lss (.s 26) (.s 29))<|
 .nil) 31 (.s 30) (.k (.bool false))<|
 .nil) [1,2,4,7,8,9,31])
 (.cond (.s 31)
 .skip
 (.exit 0)))
 (.seq
 (.blk 1
 (.seq
 (.seq
 (.reg (oq 34 (.mv (.s 8))<|
 oq 35 (.un .not (.s 34))<|
 oq 36 (.mv (.s 35))<|
 .grp 36 true (oq 37 (.fad 6 (.s 2))<|
 oq 38 (.load false 1 (.s 37))<|
 oq 39 (.mv (.s 9))<|
 oq 40 (.iad 1 (.s 38) (.s 39))<|
 oq 41 (.load false 1 (.s 40))<|
 oq 42 (.mv (.s 1))<|
 oq 43 (.bin .eql (.s 41) (.s 42))<|
 .nil) 44 (.s 43) (.k (.bool false))<|
 .nil) [1,2,4,7,8,9,44])
 (.cond (.s 44)
 (.seq
 (.reg (oq 8 (.mv (.k (.bool true)))<|
 .nil) [1,2,4,7,8,9])
 (.exit 1))
 .skip))
 (.drq (.nil)
 (oq 45 (.fad 6 (.s 7))<|
 oq 46 (.load false 1 (.s 45))<|
 oq 47 (.fad 6 (.s 2))<|
 oq 48 (.load false 1 (.s 47))<|
 oq 49 (.mv (.s 9))<|
 oq 50 (.iad 1 (.s 48) (.s 49))<|
 oq 51 (.load false 1 (.s 50))<|
 oq 52 (.lit 1 [(.str [])] [(0,1,(.s 51))])<|
 oq 53 (.app 1 16 (.s 46) (.s 52))<|
 oq 54 (.fad 7 (.s 7))<|
 oq 55 (.load false 1 (.s 54))<|
 oq 56 (.fad 7 (.s 2))<|
 oq 57 (.load false 1 (.s 56))<|
 oq 58 (.mv (.s 9))<|
 oq 59 (.iad 8 (.s 57) (.s 58))<|
 oq 60 (.load true 8 (.s 59))<|
 oq 61 (.lit 1 zt8 [(0,8,(.s 60))])<|
 oq 62 (.app 8 120 (.s 55) (.s 61))<|
 oq 63 (.fad 6 (.s 7))<|
 .nil)
 (oz (.store 1 (.s 63) (.s 53))<|
 oq 64 (.fad 7 (.s 7))<|
 oz (.store 1 (.s 64) (.s 62))<|
 .nil) [1,2,4,7,8,9])))
 (.reg (oq 32 (.mv (.s 9))<|
 oq 33 (.bin .add (.s 32) (.k (.int .i64 1)))<|
 oq 9 (.mv (.s 33))<|
 .nil) [1,2,4,7,8,9]))))))
 (.seq
 (.reg (oq 65 (.load true 8 (.s 7))<|
 oz (.store 8 (.s 4) (.s 65))<|
 .nil) [4])
 .ret))))))
def p_ref05_Unset:PFn:=⟨[.cell 4 true 8],q_ref05_Unset⟩
def n_ref05_Unset:Fn:=⟨2,[.cell 4 true 8],false,false,erase q_ref05_Unset⟩
def q_ref05_Member:PC:=
 (.seq
 (.reg (.box 8 2 (.s 0)<|
 oq 4 (.alloc zt8)<|
 oq 5 (.mv (.k (.bool false)))<|
 .nil) [1,2,4])
 (.seq
 (.seq
 (.reg (oq 6 (.mv (.k (.int .i64 0)))<|
 .nil) [1,2,4,6])
 (.blk 0
 (.loop ⟨[(1,.same),(2,.same),(4,.same),(6,.v)],[.same,(.cells [.v,.v,.v,.v,.v,.v,.v,.v])]⟩ [(.ext 0,⟨[(4,.same)],[.same,(.box 8)]⟩),(.ret,⟨[(4,.same),(5,.v)],[.same,(.box 8)]⟩)]
 (.seq
 (.seq
 (.reg (oq 7 (.mv (.s 6))<|
 oq 8 (.fad 6 (.s 2))<|
 oq 9 (.load false 1 (.s 8))<|
 oq 10 (.len (.s 9))<|
 oq 11 (.bin .lss (.s 7) (.s 10))<|
 oq 12 (.mv (.s 11))<|
 .grp 12 true (oq 13 (.mv (.s 6))<|
 oq 14 (.fad 7 (.s 2))<|
 oq 15 (.load false 1 (.s 14))<|
 oq 16 (.len (.s 15))<|
 oq 17 (.bin .lss (.s 13) (.s 16))<|
 .nil) 18 (.s 17) (.k (.bool false))<|
 oq 19 (.mv (.s 18))<|
 .grp 19 true (oq 20 (.fad 0 (.s 2))<|
 oq 21 (.load false 1 (.s 20))<|
 oq 22 (.bin .eql (.s 21) (.k (.int .i64 7)))<|
 .nil) 23 (.s 22) (.k (.bool false))<|
 .nil) [1,2,4,6,23])
 (.cond (.s 23)
 .skip
 (.exit 0)))
 (.seq
 (.blk 1
 (.seq
 (.reg (oq 26 (.fad 6 (.s 2))<|
 oq 27 (.load false 1 (.s 26))<|
 oq 28 (.mv (.s 6))<|
 oq 29 (.iad 1 (.s 27) (.s 28))<|
 oq 30 (.load false 1 (.s 29))<|
 oq 31 (.mv (.s 1))<|
 oq 32 (.bin .eql (.s 30) (.s 31))<|
 .nil) [1,2,4,6,32])
 (.cond (.s 32)
 (.seq
 (.reg (oq 33 (.fad 7 (.s 2))<|
 oq 34 (.load false 1 (.s 33))<|
 oq 35 (.mv (.s 6))<|
 oq 36 (.iad 8 (.s 34) (.s 35))<|
 oq 37 (.load true 8 (.s 36))<|
 oz (.store 8 (.s 4) (.s 37))<|
 oq 5 (.mv (.k (.bool true)))<|
 .nil) [4,5])
 .ret)
 .skip)))
 (.reg (oq 24 (.mv (.s 6))<|
 oq 25 (.bin .add (.s 24) (.k (.int .i64 1)))<|
 oq 6 (.mv (.s 25))<|
 .nil) [1,2,4,6]))))))
 (.seq
 (.reg (oq 38 (.build zt8 [])<|
 oz (.store 8 (.s 4) (.s 38))<|
 oq 5 (.mv (.k (.bool false)))<|
 .nil) [4,5])
 .ret)))
def p_ref05_Member:PFn:=⟨[.cell 4 true 8,.tmp 5],q_ref05_Member⟩
def n_ref05_Member:Fn:=⟨2,[.cell 4 true 8,.tmp 5],false,false,erase q_ref05_Member⟩
def q_ref05_Set:PC:=
 (.seq
 (.reg (.box 8 3 (.s 0)<|
 .box 8 5 (.s 2)<|
 oq 6 (.alloc zt8)<|
 .nil) [1,3,5,6])
 (.seq
 (.reg (oq 12 (.build zt8 [(0,1,(.k (.int .i64 7)))])<|
 oq 7 (.alloc zt8)<|
 oz (.store 8 (.s 7) (.s 12))<|
 .nil) [1,3,5,6,7])
 (.seq
 (.reg (oq 8 (.mv (.k (.bool false)))<|
 .nil) [1,3,5,6,7,8])
 (.seq
 (.reg (oq 14 (.load true 8 (.s 3))<|
 oq 15 (.mv (.s 1))<|
 oq 16 (.call f_ref05_Member [.s 14,.s 15])<|
 oq 13 (.mv (.s 16))<|
 oq 17 (.ext (.s 13) 0)<|
 oq 18 (.ext (.s 13) 1)<|
 oq 9 (.alloc zt8)<|
 oz (.store 8 (.s 9) (.s 17))<|
 oq 10 (.mv (.s 18))<|
 .nil) [1,3,5,6,7,8,10])
 (.seq
 (.seq
 (.reg (oq 11 (.mv (.k (.int .i64 0)))<|
 .nil) [1,3,5,6,7,8,10,11])
 (.blk 0
 (.loop ⟨[(1,.same),(3,.same),(5,.same),(6,.same),(7,.same),(8,.v),(10,.same),(11,.v)],[.same,.same,.same,(.cells [.v,.v,.v,(.own 1),.v,.v,(.own 1),(.own 8)]),.same]⟩ [(.ext 0,⟨[(1,.same),(5,.same),(6,.same),(7,.same),(8,.v)],[.same,.same,.same,(.cells [.v,.v,.v,(.own 1),.v,.v,(.own 1),(.own 8)]),.same]⟩)]
 (.seq
 (.seq
 (.reg (oq 19 (.mv (.s 11))<|
 oq 20 (.fad 6 (.s 3))<|
 oq 21 (.load false 1 (.s 20))<|
 oq 22 (.len (.s 21))<|
 oq 23 (.bin .lss (.s 19) (.s 22))<|
 oq 24 (.mv (.s 23))<|
 .grp 24 true (oq 25 (.mv (.s 11))<|
 oq 26 (.fad 7 (.s 3))<|
 oq 27 (.load false 1 (.s 26))<|
 oq 28 (.len (.s 27))<|
 oq 29 (.bin .lss (.s 25) (.s 28))<|
 .nil) 30 (.s 29) (.k (.bool false))<|
 oq 31 (.mv (.s 30))<|
 .grp 31 true (oq 32 (.fad 0 (.s 3))<|
 oq 33 (.load false 1 (.s 32))<|
 oq 34 (.bin .eql (.s 33) (.k (.int .i64 7)))<|
 .nil) 35 (.s 34) (.k (.bool false))<|
 .nil) [1,3,5,6,7,8,10,11,35])
 (.cond (.s 35)
 .skip
 (.exit 0)))
 (.seq
 (.blk 1
 (.seq
 (.blk 2
 (.seq
 (.reg (oq 39 (.mv (.s 8))<|
 oq 40 (.un .not (.s 39))<|
 oq 41 (.mv (.s 40))<|
 .grp 41 true (oq 42 (.fad 6 (.s 3))<|
 oq 43 (.load false 1 (.s 42))<|
 oq 44 (.mv (.s 11))<|
 oq 45 (.iad 1 (.s 43) (.s 44))<|
 oq 46 (.load false 1 (.s 45))<|
 oq 47 (.mv (.s 1))<|
 oq 48 (.bin .eql (.s 46) (.s 47))<|
 .nil) 49 (.s 48) (.k (.bool false))<|
 oq 38 (.mv (.s 49))<|
 .nil) [1,3,5,6,7,8,10,11,38])
 (.cond (.s 38)
 (.seq
 (.drq (.nil)
 (oq 50 (.fad 6 (.s 7))<|
 oq 51 (.load false 1 (.s 50))<|
 oq 52 (.mv (.s 1))<|
 oq 53 (.lit 1 [(.str [])] [(0,1,(.s 52))])<|
 oq 54 (.app 1 16 (.s 51) (.s 53))<|
 oq 55 (.fad 7 (.s 7))<|
 oq 56 (.load false 1 (.s 55))<|
 oq 57 (.load true 8 (.s 5))<|
 oq 58 (.lit 1 zt8 [(0,8,(.s 57))])<|
 oq 59 (.app 8 120 (.s 56) (.s 58))<|
 oq 60 (.fad 6 (.s 7))<|
 .nil)
 (oz (.store 1 (.s 60) (.s 54))<|
 oq 61 (.fad 7 (.s 7))<|
 oz (.store 1 (.s 61) (.s 59))<|
 .nil) [1,3,5,6,7,10,11])
 (.seq
 (.reg (oq 8 (.mv (.k (.bool true)))<|
 .nil) [1,3,5,6,7,8,10,11])
 (.exit 1)))
 (.seq
 (.reg (oq 63 (.mv (.s 8))<|
 oq 64 (.un .not (.s 63))<|
 oq 65 (.mv (.s 64))<|
 .grp 65 true (oq 66 (.mv (.s 10))<|
 oq 67 (.un .not (.s 66))<|
 .nil) 68 (.s 67) (.k (.bool false))<|
 oq 69 (.mv (.s 68))<|
 .grp 69 true (oq 70 (.fad 6 (.s 3))<|
 oq 71 (.load false 1 (.s 70))<|
 oq 72 (.mv (.s 11))<|
 oq 73 (.iad 1 (.s 71) (.s 72))<|
 oq 74 (.load false 1 (.s 73))<|
 oq 75 (.mv (.s 1))<|
 oq 76 (.bin .gtr (.s 74) (.s 75))<|
 .nil) 77 (.s 76) (.k (.bool false))<|
 oq 62 (.mv (.s 77))<|
 .nil) [1,3,5,6,7,8,10,11,62])
 (.cond (.s 62)
 (.seq
 (.drq (.nil)
 (oq 78 (.fad 6 (.s 7))<|
 oq 79 (.load false 1 (.s 78))<|
 oq 80 (.mv (.s 1))<|
 oq 81 (.lit 1 [(.str [])] [(0,1,(.s 80))])<|
 oq 82 (.app 1 16 (.s 79) (.s 81))<|
 oq 83 (.fad 7 (.s 7))<|
 oq 84 (.load false 1 (.s 83))<|
 oq 85 (.load true 8 (.s 5))<|
 oq 86 (.lit 1 zt8 [(0,8,(.s 85))])<|
 oq 87 (.app 8 120 (.s 84) (.s 86))<|
 oq 88 (.fad 6 (.s 7))<|
 .nil)
 (oz (.store 1 (.s 88) (.s 82))<|
 oq 89 (.fad 7 (.s 7))<|
 oz (.store 1 (.s 89) (.s 87))<|
 .nil) [1,3,5,6,7,10,11])
 (.reg (oq 8 (.mv (.k (.bool true)))<|
 .nil) [1,3,5,6,7,8,10,11]))
 .skip)))))
 (.drq (.nil)
 (oq 90 (.fad 6 (.s 7))<|
 oq 91 (.load false 1 (.s 90))<|
 oq 92 (.fad 6 (.s 3))<|
 oq 93 (.load false 1 (.s 92))<|
 oq 94 (.mv (.s 11))<|
 oq 95 (.iad 1 (.s 93) (.s 94))<|
 oq 96 (.load false 1 (.s 95))<|
 oq 97 (.lit 1 [(.str [])] [(0,1,(.s 96))])<|
 oq 98 (.app 1 16 (.s 91) (.s 97))<|
 oq 99 (.fad 7 (.s 7))<|
 oq 100 (.load false 1 (.s 99))<|
 oq 101 (.fad 7 (.s 3))<|
 oq 102 (.load false 1 (.s 101))<|
 oq 103 (.mv (.s 11))<|
 oq 104 (.iad 8 (.s 102) (.s 103))<|
 oq 105 (.load true 8 (.s 104))<|
 oq 106 (.lit 1 zt8 [(0,8,(.s 105))])<|
 oq 107 (.app 8 120 (.s 100) (.s 106))<|
 oq 108 (.fad 6 (.s 7))<|
 .nil)
 (oz (.store 1 (.s 108) (.s 98))<|
 oq 109 (.fad 7 (.s 7))<|
 oz (.store 1 (.s 109) (.s 107))<|
 .nil) [1,3,5,6,7,8,10,11])))
 (.reg (oq 36 (.mv (.s 11))<|
 oq 37 (.bin .add (.s 36) (.k (.int .i64 1)))<|
 oq 11 (.mv (.s 37))<|
 .nil) [1,3,5,6,7,8,10,11]))))))
 (.seq
 (.seq
 (.reg (oq 110 (.mv (.s 8))<|
 oq 111 (.un .not (.s 110))<|
 .nil) [1,5,6,7,111])
 (.cond (.s 111)
 (.drq (.nil)
 (oq 112 (.fad 6 (.s 7))<|
 oq 113 (.load false 1 (.s 112))<|
 oq 114 (.mv (.s 1))<|
 oq 115 (.lit 1 [(.str [])] [(0,1,(.s 114))])<|
 oq 116 (.app 1 16 (.s 113) (.s 115))<|
 oq 117 (.fad 7 (.s 7))<|
 oq 118 (.load false 1 (.s 117))<|
 oq 119 (.load true 8 (.s 5))<|
 oq 120 (.lit 1 zt8 [(0,8,(.s 119))])<|
 oq 121 (.app 8 120 (.s 118) (.s 120))<|
 oq 122 (.fad 6 (.s 7))<|
 .nil)
 (oz (.store 1 (.s 122) (.s 116))<|
 oq 123 (.fad 7 (.s 7))<|
 oz (.store 1 (.s 123) (.s 121))<|
 .nil) [6,7])
 .skip))
 (.seq
 (.reg (oq 124 (.load true 8 (.s 7))<|
 oz (.store 8 (.s 6) (.s 124))<|
 .nil) [6])
 .ret)))))))
def p_ref05_Set:PFn:=⟨[.cell 6 true 8],q_ref05_Set⟩
def n_ref05_Set:Fn:=⟨3,[.cell 6 true 8],false,false,erase q_ref05_Set⟩
def q_tree_cut:PC:=
 (.seq
 (.reg (.box 8 1 (.s 0)<|
 oq 2 (.mv (.k (.sl .full 0 [])))<|
 oq 3 (.mv (.k (.sl .full 0 [])))<|
 .nil) [1])
 (.seq
 (.seq
 (.reg (oq 5 (.fad 0 (.s 1))<|
 oq 6 (.load false 1 (.s 5))<|
 oq 7 (.bin .neq (.s 6) (.k (.int .i64 7)))<|
 .nil) [1,7])
 (.cond (.s 7)
 (.seq
 (.reg (oq 2 (.mv (.k (.sl .full 0 [])))<|
 oq 3 (.mv (.k (.sl .full 0 [])))<|
 .nil) [2,3])
 .ret)
 .skip))
 (.seq
 (.reg (oq 8 (.fad 6 (.s 1))<|
 oq 9 (.load false 1 (.s 8))<|
 oq 10 (.len (.s 9))<|
 oq 11 (.fad 7 (.s 1))<|
 oq 12 (.load false 1 (.s 11))<|
 oq 13 (.len (.s 12))<|
 oq 14 (.min [.s 10,.s 13])<|
 oq 4 (.mv (.s 14))<|
 .nil) [1,4])
 (.seq
 (.drw (.nil)
 (oq 15 (.fad 6 (.s 1))<|
 oq 16 (.load false 1 (.s 15))<|
 oq 17 (.mv (.s 4))<|
 oq 18 (.mv (.s 4))<|
 oq 19 (.slc 1 (.s 16) none (some (.s 17)) (some (.s 18)))<|
 oq 20 (.fad 7 (.s 1))<|
 oq 21 (.load false 1 (.s 20))<|
 oq 22 (.mv (.s 4))<|
 oq 23 (.mv (.s 4))<|
 oq 24 (.slc 8 (.s 21) none (some (.s 22)) (some (.s 23)))<|
 oq 2 (.mv (.s 19))<|
 .nil)
 (oq 3 (.mv (.s 24))<|
 .nil) [2,3])
 .ret))))
def p_tree_cut:PFn:=⟨[.tmp 2,.tmp 3],q_tree_cut⟩
def n_tree_cut:Fn:=⟨1,[.tmp 2,.tmp 3],false,false,erase q_tree_cut⟩
def q_slices_Index_string:PC:=
 (.seq
 (.reg (oq 4 (.mv (.k (.int .i64 0)))<|
 .nil) [0,1])
 (.seq
 (.seq
 (.reg (oq 6 (.mv (.s 0))<|
 oq 7 (.len (.s 6))<|
 oq 8 (.mv (.k (.int .i64 0)))<|
 .nil) [0,1,7,8])
 (.blk 0
 (.loop ⟨[(0,.same),(1,.same),(7,.same),(8,.v)],[]⟩ [(.ext 0,⟨[],[]⟩),(.ret,⟨[(4,.v)],[]⟩)]
 (.seq
 (.reg (oq 9 (.bin .lss (.s 8) (.s 7))<|
 .nil) [0,1,7,8,9])
 (.seq
 (.cond (.s 9)
 .skip
 (.exit 0))
 (.seq
 (.blk 1
 (.seq
 (.reg (oq 10 (.mv (.s 8))<|
 oq 5 (.mv (.s 10))<|
 .nil) [0,1,5,7,8])
 (.seq
 (.reg (oq 11 (.mv (.s 1))<|
 oq 12 (.mv (.s 0))<|
 oq 13 (.mv (.s 5))<|
 oq 14 (.iad 1 (.s 12) (.s 13))<|
 oq 15 (.load false 1 (.s 14))<|
 oq 16 (.bin .eql (.s 11) (.s 15))<|
 .nil) [0,1,5,7,8,16])
 (.cond (.s 16)
 (.seq
 (.reg (oq 17 (.mv (.s 5))<|
 oq 4 (.mv (.s 17))<|
 .nil) [4])
 .ret)
 .skip))))
 (.reg (oq 18 (.bin .add (.s 8) (.k (.int .i64 1)))<|
 oq 8 (.mv (.s 18))<|
 .nil) [0,1,7,8])))))))
 (.seq
 (.reg (oq 4 (.mv (.k (.int .i64 (-1))))<|
 .nil) [4])
 .ret)))
def p_slices_Index_string:PFn:=⟨[.tmp 4],q_slices_Index_string⟩
def n_slices_Index_string:Fn:=⟨2,[.tmp 4],false,false,erase q_slices_Index_string⟩
def q_slices_IndexFunc_string:PC:=
 (.seq
 (.reg (oq 4 (.mv (.k (.int .i64 0)))<|
 .nil) [0,1])
 (.seq
 (.seq
 (.reg (oq 6 (.mv (.s 0))<|
 oq 7 (.len (.s 6))<|
 oq 8 (.mv (.k (.int .i64 0)))<|
 .nil) [0,1,7,8])
 (.blk 0
 (.loop ⟨[(0,.same),(1,.same),(7,.same),(8,.v)],[.same]⟩ [(.ext 0,⟨[],[.same]⟩),(.ret,⟨[(4,.v)],[.same]⟩)]
 (.seq
 (.reg (oq 9 (.bin .lss (.s 8) (.s 7))<|
 .nil) [0,1,7,8,9])
 (.seq
 (.cond (.s 9)
 .skip
 (.exit 0))
 (.seq
 (.blk 1
 (.seq
 (.reg (oq 10 (.mv (.s 8))<|
 oq 5 (.mv (.s 10))<|
 .nil) [0,1,5,7,8])
 (.seq
 (.reg (oq 11 (.mv (.s 1))<|
 oq 12 (.mv (.s 0))<|
 oq 13 (.mv (.s 5))<|
 oq 14 (.iad 1 (.s 12) (.s 13))<|
 oq 15 (.load false 1 (.s 14))<|
 oq 16 (.callv (.s 11) [.s 15])<|
 .nil) [0,1,5,7,8,16])
 (.cond (.s 16)
 (.seq
 (.reg (oq 17 (.mv (.s 5))<|
 oq 4 (.mv (.s 17))<|
 .nil) [4])
 .ret)
 .skip))))
 (.reg (oq 18 (.bin .add (.s 8) (.k (.int .i64 1)))<|
 oq 8 (.mv (.s 18))<|
 .nil) [0,1,7,8])))))))
 (.seq
 (.reg (oq 4 (.mv (.k (.int .i64 (-1))))<|
 .nil) [4])
 .ret)))
def p_slices_IndexFunc_string:PFn:=⟨[.tmp 4],q_slices_IndexFunc_string⟩
def n_slices_IndexFunc_string:Fn:=⟨2,[.tmp 4],false,false,erase q_slices_IndexFunc_string⟩
def q_tree_Set_1:PC:=
 (.seq
 (.reg (oq 3 (.mv (.k (.bool false)))<|
 .nil) [0,1])
 (.seq
 (.reg (oq 4 (.mv (.s 0))<|
 oq 5 (.load false 1 (.s 1))<|
 oq 6 (.bin .gtr (.s 4) (.s 5))<|
 oq 3 (.mv (.s 6))<|
 .nil) [3])
 .ret))
def p_tree_Set_1:PFn:=⟨[.tmp 3],q_tree_Set_1⟩
def n_tree_Set_1:Fn:=⟨1,[.tmp 3],false,false,erase q_tree_Set_1⟩
def q_slices_Concat_string:PC:=
 (.seq
 (.reg (oq 2 (.mv (.k (.sl .full 0 [])))<|
 .nil) [0])
 (.seq
 (.reg (oq 3 (.mv (.k (.int .i64 0)))<|
 .nil) [0,3])
 (.seq
 (.seq
 (.reg (oq 9 (.mv (.s 0))<|
 oq 10 (.len (.s 9))<|
 oq 11 (.mv (.k (.int .i64 0)))<|
 .nil) [0,3,9,10,11])
 (.blk 0
 (.loop ⟨[(0,.same),(3,.v),(9,.same),(10,.same),(11,.v)],[]⟩ [(.ext 0,⟨[(0,.same),(3,.v)],[]⟩)]
 (.seq
 (.reg (oq 12 (.bin .lss (.s 11) (.s 10))<|
 .nil) [0,3,9,10,11,12])
 (.seq
 (.cond (.s 12)
 .skip
 (.exit 0))
 (.seq
 (.blk 1
 (.seq
 (.reg (oq 13 (.iad 1 (.s 9) (.s 11))<|
 oq 14 (.load false 1 (.s 13))<|
 oq 5 (.mv (.s 14))<|
 .nil) [0,3,5,9,10,11])
 (.seq
 (.reg (oq 15 (.mv (.s 3))<|
 oq 16 (.mv (.s 5))<|
 oq 17 (.len (.s 16))<|
 oq 18 (.bin .add (.s 15) (.s 17))<|
 oq 3 (.mv (.s 18))<|
 .nil) [0,3,9,10,11])
 (.seq
 (.reg (oq 19 (.mv (.s 3))<|
 oq 20 (.bin .lss (.s 19) (.k (.int .i64 0)))<|
 .nil) [0,3,9,10,11,20])
 (.cond (.s 20)
 (.reg (oq 21 (.ifc 9 (.k (.str [108,101,110,32,111,117,116,32,111,102,32,114,97,110,103,101])))<|
 oz (.pan (.s 21))<|
 .nil) [0,3,9,10,11])
 .skip)))))
 (.reg (oq 22 (.bin .add (.s 11) (.k (.int .i64 1)))<|
 oq 11 (.mv (.s 22))<|
 .nil) [0,3,9,10,11])))))))
 (.seq
 (.reg (oq 23 (.mv (.s 3))<|
 oq 24 (.call f_slices_Grow_string [(.k (.sl .full 0 [])),.s 23])<|
 oq 6 (.mv (.s 24))<|
 .nil) [0,6])
 (.seq
 (.seq
 (.reg (oq 25 (.mv (.s 0))<|
 oq 26 (.len (.s 25))<|
 oq 27 (.mv (.k (.int .i64 0)))<|
 .nil) [6,25,26,27])
 (.blk 2
 (.loop ⟨[(6,(.own 1)),(25,.same),(26,.same),(27,.v)],[]⟩ [(.ext 2,⟨[(6,(.own 1))],[]⟩)]
 (.seq
 (.reg (oq 28 (.bin .lss (.s 27) (.s 26))<|
 .nil) [6,25,26,27,28])
 (.seq
 (.cond (.s 28)
 .skip
 (.exit 2))
 (.seq
 (.blk 3
 (.seq
 (.reg (oq 29 (.iad 1 (.s 25) (.s 27))<|
 oq 30 (.load false 1 (.s 29))<|
 oq 8 (.mv (.s 30))<|
 .nil) [6,8,25,26,27])
 (.reg (oq 31 (.mv (.s 6))<|
 oq 32 (.mv (.s 8))<|
 oq 33 (.app 1 16 (.s 31) (.s 32))<|
 oq 6 (.mv (.s 33))<|
 .nil) [6,25,26,27])))
 (.reg (oq 34 (.bin .add (.s 27) (.k (.int .i64 1)))<|
 oq 27 (.mv (.s 34))<|
 .nil) [6,25,26,27])))))))
 (.seq
 (.reg (oq 35 (.mv (.s 6))<|
 oq 2 (.mv (.s 35))<|
 .nil) [2])
 .ret))))))
def p_slices_Concat_string:PFn:=⟨[.tmp 2],q_slices_Concat_string⟩
def n_slices_Concat_string:Fn:=⟨1,[.tmp 2],false,false,erase q_slices_Concat_string⟩
def q_slices_Concat_aT:PC:=
 (.seq
 (.reg (oq 2 (.mv (.k (.sl .full 0 [])))<|
 .nil) [0])
 (.seq
 (.reg (oq 3 (.mv (.k (.int .i64 0)))<|
 .nil) [0,3])
 (.seq
 (.seq
 (.reg (oq 9 (.mv (.s 0))<|
 oq 10 (.len (.s 9))<|
 oq 11 (.mv (.k (.int .i64 0)))<|
 .nil) [0,3,9,10,11])
 (.blk 0
 (.loop ⟨[(0,.same),(3,.v),(9,.same),(10,.same),(11,.v)],[]⟩ [(.ext 0,⟨[(0,.same),(3,.v)],[]⟩)]
 (.seq
 (.reg (oq 12 (.bin .lss (.s 11) (.s 10))<|
 .nil) [0,3,9,10,11,12])
 (.seq
 (.cond (.s 12)
 .skip
 (.exit 0))
 (.seq
 (.blk 1
 (.seq
 (.reg (oq 13 (.iad 1 (.s 9) (.s 11))<|
 oq 14 (.load false 1 (.s 13))<|
 oq 5 (.mv (.s 14))<|
 .nil) [0,3,5,9,10,11])
 (.seq
 (.reg (oq 15 (.mv (.s 3))<|
 oq 16 (.mv (.s 5))<|
 oq 17 (.len (.s 16))<|
 oq 18 (.bin .add (.s 15) (.s 17))<|
 oq 3 (.mv (.s 18))<|
 .nil) [0,3,9,10,11])
 (.seq
 (.reg (oq 19 (.mv (.s 3))<|
 oq 20 (.bin .lss (.s 19) (.k (.int .i64 0)))<|
 .nil) [0,3,9,10,11,20])
 (.cond (.s 20)
 (.reg (oq 21 (.ifc 9 (.k (.str [108,101,110,32,111,117,116,32,111,102,32,114,97,110,103,101])))<|
 oz (.pan (.s 21))<|
 .nil) [0,3,9,10,11])
 .skip)))))
 (.reg (oq 22 (.bin .add (.s 11) (.k (.int .i64 1)))<|
 oq 11 (.mv (.s 22))<|
 .nil) [0,3,9,10,11])))))))
 (.seq
 (.reg (oq 23 (.mv (.s 3))<|
 oq 24 (.call f_slices_Grow_aT [(.k (.sl .full 0 [])),.s 23])<|
 oq 6 (.mv (.s 24))<|
 .nil) [0,6])
 (.seq
 (.seq
 (.reg (oq 25 (.mv (.s 0))<|
 oq 26 (.len (.s 25))<|
 oq 27 (.mv (.k (.int .i64 0)))<|
 .nil) [6,25,26,27])
 (.blk 2
 (.loop ⟨[(6,(.own 8)),(25,.same),(26,.same),(27,.v)],[]⟩ [(.ext 2,⟨[(6,(.own 8))],[]⟩)]
 (.seq
 (.reg (oq 28 (.bin .lss (.s 27) (.s 26))<|
 .nil) [6,25,26,27,28])
 (.seq
 (.cond (.s 28)
 .skip
 (.exit 2))
 (.seq
 (.blk 3
 (.seq
 (.reg (oq 29 (.iad 1 (.s 25) (.s 27))<|
 oq 30 (.load false 1 (.s 29))<|
 oq 8 (.mv (.s 30))<|
 .nil) [6,8,25,26,27])
 (.reg (oq 31 (.mv (.s 6))<|
 oq 32 (.mv (.s 8))<|
 oq 33 (.app 8 120 (.s 31) (.s 32))<|
 oq 6 (.mv (.s 33))<|
 .nil) [6,25,26,27])))
 (.reg (oq 34 (.bin .add (.s 27) (.k (.int .i64 1)))<|
 oq 27 (.mv (.s 34))<|
 .nil) [6,25,26,27])))))))
 (.seq
 (.reg (oq 35 (.mv (.s 6))<|
 oq 2 (.mv (.s 35))<|
 .nil) [2])
 .ret))))))
def p_slices_Concat_aT:PFn:=⟨[.tmp 2],q_slices_Concat_aT⟩
def n_slices_Concat_aT:Fn:=⟨1,[.tmp 2],false,false,erase q_slices_Concat_aT⟩
def q_tree_own:PC:=
 (.seq
 (.reg (.box 8 1 (.s 0)<|
 oq 2 (.mv (.k (.bool false)))<|
 .nil) [1])
 (.seq
 (.drw (.nil)
 (oq 8 (.fad 1 (.s 1))<|
 oq 9 (.load false 1 (.s 8))<|
 oq 10 (.un .not (.s 9))<|
 oq 11 (.fad 2 (.s 1))<|
 oq 12 (.fad 0 (.s 11))<|
 oq 13 (.load false 1 (.s 12))<|
 oq 14 (.un .not (.s 13))<|
 oq 15 (.mv (.s 14))<|
 .grp 15 true (oq 16 (.fad 2 (.s 1))<|
 oq 17 (.fad 1 (.s 16))<|
 oq 18 (.load false 1 (.s 17))<|
 oq 19 (.len (.s 18))<|
 oq 20 (.bin .eql (.s 19) (.k (.int .i64 0)))<|
 .nil) 21 (.s 20) (.k (.bool false))<|
 oq 22 (.mv (.s 21))<|
 .grp 22 true (oq 23 (.fad 2 (.s 1))<|
 oq 24 (.fad 2 (.s 23))<|
 oq 25 (.load false 1 (.s 24))<|
 oq 26 (.bin .eql (.s 25) (.k (.int .i64 0)))<|
 .nil) 27 (.s 26) (.k (.bool false))<|
 oq 28 (.fad 5 (.s 1))<|
 oq 29 (.load false 1 (.s 28))<|
 oq 30 (.bin .eql (.s 29) (.k (.str [])))<|
 oq 3 (.mv (.s 10))<|
 oq 4 (.mv (.s 27))<|
 .nil)
 (oq 5 (.mv (.s 30))<|
 .nil) [1,3,4,5])
 (.seq
 (.drw (.nil)
 (oq 31 (.fad 6 (.s 1))<|
 oq 32 (.load false 1 (.s 31))<|
 oq 33 (.len (.s 32))<|
 oq 34 (.bin .eql (.s 33) (.k (.int .i64 0)))<|
 oq 35 (.fad 7 (.s 1))<|
 oq 36 (.load false 1 (.s 35))<|
 oq 37 (.len (.s 36))<|
 oq 38 (.bin .eql (.s 37) (.k (.int .i64 0)))<|
 oq 6 (.mv (.s 34))<|
 .nil)
 (oq 7 (.mv (.s 38))<|
 .nil) [1,3,4,5,6,7])
 (.seq
 (.cut ⟨[(1,.same),(3,.v),(4,.v),(5,.v),(6,.v),(7,.v)],[.same]⟩ [(.nrm,⟨[(3,.v),(4,.v),(5,.v),(6,.v),(7,.v)],[.same]⟩),(.ret,⟨[(2,.v)],[.same]⟩)]
 (.seq
 (.reg (oq 39 (.fad 0 (.s 1))<|
 oq 40 (.load false 1 (.s 39))<|
 .nil) [1,3,4,5,6,7,40])
 (.blk 0
 (.seq
 (.blk 8
 (.seq
 (.cut ⟨[(1,.same),(3,.v),(4,.v),(5,.v),(6,.v),(7,.same),(40,.same)],[.same]⟩ [(.ext 0,⟨[(3,.v),(4,.v),(5,.v),(6,.v),(7,.same)],[.same]⟩),(.ext 8,⟨[],[.same]⟩),(.nrm,⟨[(1,.same),(3,.v),(4,.v),(5,.v),(6,.v)],[.same]⟩)]
 (.blk 7
 (.seq
 (.blk 6
 (.seq
 (.blk 5
 (.seq
 (.blk 4
 (.seq
 (.blk 3
 (.seq
 (.blk 2
 (.seq
 (.blk 1
 (.seq
 (.seq
 (.seq
 (.reg (oq 42 (.bin .eql (.s 40) (.k (.int .i64 1)))<|
 oq 41 (.mv (.s 42))<|
 .nil) [1,3,4,5,6,7,40,41])
 (.cond (.s 41)
 (.exit 1)
 .skip))
 (.seq
 (.seq
 (.reg (oq 44 (.bin .eql (.s 40) (.k (.int .i64 2)))<|
 oq 43 (.mv (.s 44))<|
 .nil) [1,3,4,5,6,7,40,43])
 (.cond (.s 43)
 (.exit 2)
 .skip))
 (.seq
 (.seq
 (.reg (oq 46 (.bin .eql (.s 40) (.k (.int .i64 3)))<|
 oq 45 (.mv (.s 46))<|
 .nil) [1,3,4,5,6,7,40,45])
 (.cond (.s 45)
 (.exit 3)
 .skip))
 (.seq
 (.seq
 (.reg (oq 48 (.bin .eql (.s 40) (.k (.int .i64 4)))<|
 oq 47 (.mv (.s 48))<|
 .nil) [1,3,4,5,6,7,40,47])
 (.cond (.s 47)
 (.exit 4)
 .skip))
 (.seq
 (.seq
 (.reg (oq 50 (.bin .eql (.s 40) (.k (.int .i64 5)))<|
 oq 49 (.mv (.s 50))<|
 .nil) [1,3,4,5,6,7,40,49])
 (.cond (.s 49)
 (.exit 5)
 .skip))
 (.seq
 (.seq
 (.reg (oq 52 (.bin .eql (.s 40) (.k (.int .i64 7)))<|
 oq 51 (.mv (.s 52))<|
 .nil) [1,3,4,5,6,40,51])
 (.cond (.s 51)
 (.exit 6)
 .skip))
 (.seq
 (.reg (oq 54 (.bin .eql (.s 40) (.k (.int .i64 6)))<|
 oq 53 (.mv (.s 54))<|
 .nil) [1,3,4,5,6,53])
 (.cond (.s 53)
 (.exit 7)
 .skip))))))))
 (.exit 8)))
 (.exit 0)))
 (.seq
 (.reg (oq 3 (.mv (.k (.bool true)))<|
 .nil) [3,4,5,6,7])
 (.exit 0))))
 (.seq
 (.reg (oq 55 (.fad 2 (.s 1))<|
 oq 56 (.load true 3 (.s 55))<|
 oq 57 (.call f_num_Check [.s 56])<|
 oq 4 (.mv (.s 57))<|
 .nil) [3,4,5,6,7])
 (.exit 0))))
 (.seq
 (.reg (oq 58 (.fad 5 (.s 1))<|
 oq 59 (.load false 1 (.s 58))<|
 oq 60 (.call f_tree_text [.s 59])<|
 oq 5 (.mv (.s 60))<|
 .nil) [3,4,5,6,7])
 (.exit 0))))
 (.seq
 (.reg (oq 61 (.fad 5 (.s 1))<|
 oq 62 (.load false 1 (.s 61))<|
 oq 63 (.lns (.s 62))<|
 oq 64 (.bin .leq (.s 63) (.k (.int .i64 2000)))<|
 oq 5 (.mv (.s 64))<|
 .nil) [3,4,5,6,7])
 (.exit 0))))
 (.reg (oq 65 (.fad 6 (.s 1))<|
 oq 66 (.load false 1 (.s 65))<|
 oq 67 (.call f_tree_names [.s 66])<|
 oq 68 (.mv (.s 67))<|
 .grp 68 true (oq 69 (.fad 6 (.s 1))<|
 oq 70 (.load false 1 (.s 69))<|
 oq 71 (.len (.s 70))<|
 oq 72 (.fad 7 (.s 1))<|
 oq 73 (.load false 1 (.s 72))<|
 oq 74 (.len (.s 73))<|
 oq 75 (.bin .eql (.s 71) (.s 74))<|
 .nil) 76 (.s 75) (.k (.bool false))<|
 oq 6 (.mv (.s 76))<|
 .nil) [1,3,4,5,6]))))
 (.seq
 (.reg (oq 77 (.fad 7 (.s 1))<|
 oq 78 (.load false 1 (.s 77))<|
 oq 79 (.len (.s 78))<|
 oq 80 (.bin .leq (.s 79) (.k (.int .i64 300)))<|
 oq 7 (.mv (.s 80))<|
 .nil) [3,4,5,6,7])
 (.exit 0))))
 (.seq
 (.seq
 (.reg (oq 2 (.mv (.k (.bool false)))<|
 .nil) [2])
 .ret)
 (.exit 0))))))
 (.seq
 (.reg (oq 81 (.mv (.s 3))<|
 oq 82 (.mv (.s 81))<|
 .grp 82 true (oq 83 (.mv (.s 4))<|
 .nil) 84 (.s 83) (.k (.bool false))<|
 oq 85 (.mv (.s 84))<|
 .grp 85 true (oq 86 (.mv (.s 5))<|
 .nil) 87 (.s 86) (.k (.bool false))<|
 oq 88 (.mv (.s 87))<|
 .grp 88 true (oq 89 (.mv (.s 6))<|
 .nil) 90 (.s 89) (.k (.bool false))<|
 oq 91 (.mv (.s 90))<|
 .grp 91 true (oq 92 (.mv (.s 7))<|
 .nil) 93 (.s 92) (.k (.bool false))<|
 oq 2 (.mv (.s 93))<|
 .nil) [2])
 .ret)))))
def p_tree_own:PFn:=⟨[.tmp 2],q_tree_own⟩
def n_tree_own:Fn:=⟨1,[.tmp 2],false,false,erase q_tree_own⟩
def q_law00_Limbs:PC:=
 (.seq
 (.reg (oq 2 (.mv (.k (.sl .full 0 [])))<|
 .nil) [0])
 (.seq
 (.reg (oq 3 (.mv (.s 0))<|
 oq 4 (.app 1 4 (.k (.sl .full 0 [])) (.s 3))<|
 oq 2 (.mv (.s 4))<|
 .nil) [2])
 .ret))
def p_law00_Limbs:PFn:=⟨[.tmp 2],q_law00_Limbs⟩
def n_law00_Limbs:Fn:=⟨1,[.tmp 2],false,true,erase q_law00_Limbs⟩
def q_merge_few:PC:=
 (.seq
 (.reg (.box 8 1 (.s 0)<|
 oq 2 (.mv (.k (.bool false)))<|
 .nil) [1])
 (.seq
 (.reg (oq 3 (.fad 7 (.s 1))<|
 oq 4 (.load false 1 (.s 3))<|
 oq 5 (.len (.s 4))<|
 oq 6 (.bin .leq (.s 5) (.k (.int .i64 300)))<|
 oq 7 (.mv (.s 6))<|
 .grp 7 true (oq 8 (.fad 7 (.s 1))<|
 oq 9 (.load false 1 (.s 8))<|
 oq 10 (.call f_slices_ContainsFunc_aT [.s 9,(.k (.fn f_merge_few_1 []))])<|
 oq 11 (.un .not (.s 10))<|
 .nil) 12 (.s 11) (.k (.bool false))<|
 oq 2 (.mv (.s 12))<|
 .nil) [2])
 .ret))
def p_merge_few:PFn:=⟨[.tmp 2],q_merge_few⟩
def n_merge_few:Fn:=⟨1,[.tmp 2],false,false,erase q_merge_few⟩
def q_ref05_Weight:PC:=
 (.seq
 (.reg (.box 8 1 (.s 0)<|
 oq 2 (.mv (.k (.int .i64 0)))<|
 .nil) [1])
 (.seq
 (.reg (oq 3 (.mv (.k (.int .i64 1)))<|
 .nil) [1,3])
 (.seq
 (.cut ⟨[(1,.same),(3,.v)],[.same]⟩ [(.nrm,⟨[(1,.same),(3,.v)],[.same]⟩)]
 (.seq
 (.reg (oq 5 (.fad 0 (.s 1))<|
 oq 6 (.load false 1 (.s 5))<|
 .nil) [1,3,6])
 (.blk 0
 (.seq
 (.reg (oq 8 (.bin .eql (.s 6) (.k (.int .i64 3)))<|
 oq 7 (.mv (.s 8))<|
 .nil) [1,3,6,7])
 (.cond (.s 7)
 (.reg (oq 9 (.mv (.s 3))<|
 oq 10 (.fad 2 (.s 1))<|
 oq 11 (.fad 1 (.s 10))<|
 oq 12 (.load false 1 (.s 11))<|
 oq 13 (.len (.s 12))<|
 oq 14 (.bin .add (.s 9) (.s 13))<|
 oq 3 (.mv (.s 14))<|
 .nil) [1,3])
 (.seq
 (.cut ⟨[(1,.same),(3,.same),(6,.same)],[.same]⟩ [(.nrm,⟨[(1,.same),(3,.same),(15,.v)],[.same]⟩)]
 (.seq
 (.reg (oq 16 (.bin .eql (.s 6) (.k (.int .i64 4)))<|
 oq 15 (.mv (.s 16))<|
 .nil) [1,3,6,15])
 (.cond (.s 15)
 .skip
 (.reg (oq 17 (.bin .eql (.s 6) (.k (.int .i64 5)))<|
 oq 15 (.mv (.s 17))<|
 .nil) [1,3,15]))))
 (.cond (.s 15)
 (.reg (oq 18 (.mv (.s 3))<|
 oq 19 (.fad 5 (.s 1))<|
 oq 20 (.load false 1 (.s 19))<|
 oq 21 (.lns (.s 20))<|
 oq 22 (.bin .add (.s 18) (.s 21))<|
 oq 3 (.mv (.s 22))<|
 .nil) [1,3])
 .skip)))))))
 (.seq
 (.seq
 (.reg (oq 4 (.mv (.k (.int .i64 0)))<|
 .nil) [1,3,4])
 (.blk 1
 (.loop ⟨[(1,.same),(3,.v),(4,.v)],[.same]⟩ [(.ext 1,⟨[(3,.v)],[.same]⟩)]
 (.seq
 (.seq
 (.reg (oq 23 (.mv (.s 4))<|
 oq 24 (.fad 7 (.s 1))<|
 oq 25 (.load false 1 (.s 24))<|
 oq 26 (.len (.s 25))<|
 oq 27 (.bin .lss (.s 23) (.s 26))<|
 .nil) [1,3,4,27])
 (.cond (.s 27)
 .skip
 (.exit 1)))
 (.seq
 (.blk 2
 (.reg (oq 30 (.mv (.s 3))<|
 oq 31 (.fad 7 (.s 1))<|
 oq 32 (.load false 1 (.s 31))<|
 oq 33 (.mv (.s 4))<|
 oq 34 (.iad 8 (.s 32) (.s 33))<|
 oq 35 (.load true 8 (.s 34))<|
 oq 36 (.call f_ref05_Weight [.s 35])<|
 oq 37 (.bin .add (.s 30) (.s 36))<|
 oq 3 (.mv (.s 37))<|
 .nil) [1,3,4]))
 (.reg (oq 28 (.mv (.s 4))<|
 oq 29 (.bin .add (.s 28) (.k (.int .i64 1)))<|
 oq 4 (.mv (.s 29))<|
 .nil) [1,3,4]))))))
 (.seq
 (.reg (oq 38 (.mv (.s 3))<|
 oq 2 (.mv (.s 38))<|
 .nil) [2])
 .ret)))))
def p_ref05_Weight:PFn:=⟨[.tmp 2],q_ref05_Weight⟩
def n_ref05_Weight:Fn:=⟨1,[.tmp 2],false,false,erase q_ref05_Weight⟩
def q_ref05_Nodes:PC:=
 (.seq
 (.reg (.box 8 1 (.s 0)<|
 oq 2 (.mv (.k (.int .i64 0)))<|
 .nil) [1])
 (.seq
 (.reg (oq 3 (.mv (.k (.int .i64 1)))<|
 .nil) [1,3])
 (.seq
 (.seq
 (.reg (oq 4 (.mv (.k (.int .i64 0)))<|
 .nil) [1,3,4])
 (.blk 0
 (.loop ⟨[(1,.same),(3,.v),(4,.v)],[.same]⟩ [(.ext 0,⟨[(3,.v)],[.same]⟩)]
 (.seq
 (.seq
 (.reg (oq 5 (.mv (.s 4))<|
 oq 6 (.fad 7 (.s 1))<|
 oq 7 (.load false 1 (.s 6))<|
 oq 8 (.len (.s 7))<|
 oq 9 (.bin .lss (.s 5) (.s 8))<|
 .nil) [1,3,4,9])
 (.cond (.s 9)
 .skip
 (.exit 0)))
 (.seq
 (.blk 1
 (.reg (oq 12 (.mv (.s 3))<|
 oq 13 (.fad 7 (.s 1))<|
 oq 14 (.load false 1 (.s 13))<|
 oq 15 (.mv (.s 4))<|
 oq 16 (.iad 8 (.s 14) (.s 15))<|
 oq 17 (.load true 8 (.s 16))<|
 oq 18 (.call f_ref05_Nodes [.s 17])<|
 oq 19 (.bin .add (.s 12) (.s 18))<|
 oq 3 (.mv (.s 19))<|
 .nil) [1,3,4]))
 (.reg (oq 10 (.mv (.s 4))<|
 oq 11 (.bin .add (.s 10) (.k (.int .i64 1)))<|
 oq 4 (.mv (.s 11))<|
 .nil) [1,3,4]))))))
 (.seq
 (.reg (oq 20 (.mv (.s 3))<|
 oq 2 (.mv (.s 20))<|
 .nil) [2])
 .ret))))
def p_ref05_Nodes:PFn:=⟨[.tmp 2],q_ref05_Nodes⟩
def n_ref05_Nodes:Fn:=⟨1,[.tmp 2],false,false,erase q_ref05_Nodes⟩
def q_ref05_Depth:PC:=
 (.seq
 (.reg (.box 8 1 (.s 0)<|
 oq 2 (.mv (.k (.int .i64 0)))<|
 .nil) [1])
 (.seq
 (.reg (oq 3 (.mv (.k (.int .i64 0)))<|
 .nil) [1,3])
 (.seq
 (.seq
 (.reg (oq 4 (.mv (.k (.int .i64 0)))<|
 .nil) [1,3,4])
 (.blk 0
 (.loop ⟨[(1,.same),(3,.v),(4,.v)],[.same]⟩ [(.ext 0,⟨[(3,.v)],[.same]⟩)]
 (.seq
 (.seq
 (.reg (oq 5 (.mv (.s 4))<|
 oq 6 (.fad 7 (.s 1))<|
 oq 7 (.load false 1 (.s 6))<|
 oq 8 (.len (.s 7))<|
 oq 9 (.bin .lss (.s 5) (.s 8))<|
 .nil) [1,3,4,9])
 (.cond (.s 9)
 .skip
 (.exit 0)))
 (.seq
 (.blk 1
 (.reg (oq 12 (.mv (.s 3))<|
 oq 13 (.fad 7 (.s 1))<|
 oq 14 (.load false 1 (.s 13))<|
 oq 15 (.mv (.s 4))<|
 oq 16 (.iad 8 (.s 14) (.s 15))<|
 oq 17 (.load true 8 (.s 16))<|
 oq 18 (.call f_ref05_Depth [.s 17])<|
 oq 19 (.max [.s 12,.s 18])<|
 oq 3 (.mv (.s 19))<|
 .nil) [1,3,4]))
 (.reg (oq 10 (.mv (.s 4))<|
 oq 11 (.bin .add (.s 10) (.k (.int .i64 1)))<|
 oq 4 (.mv (.s 11))<|
 .nil) [1,3,4]))))))
 (.seq
 (.reg (oq 20 (.mv (.s 3))<|
 oq 21 (.bin .add (.s 20) (.k (.int .i64 1)))<|
 oq 2 (.mv (.s 21))<|
 .nil) [2])
 .ret))))
def p_ref05_Depth:PFn:=⟨[.tmp 2],q_ref05_Depth⟩
def n_ref05_Depth:Fn:=⟨1,[.tmp 2],false,false,erase q_ref05_Depth⟩
def q_ref15_wide:PC:=
 (.seq
 (.reg (.box 8 1 (.s 0)<|
 oq 2 (.mv (.k (.bool false)))<|
 .nil) [1])
 (.seq
 (.seq
 (.reg (oq 3 (.mv (.k (.int .i64 0)))<|
 .nil) [1,3])
 (.blk 0
 (.loop ⟨[(1,.same),(3,.v)],[.same]⟩ [(.ext 0,⟨[(1,.same)],[.same]⟩),(.ret,⟨[(2,.v)],[.same]⟩)]
 (.seq
 (.seq
 (.reg (oq 4 (.mv (.s 3))<|
 oq 5 (.fad 7 (.s 1))<|
 oq 6 (.load false 1 (.s 5))<|
 oq 7 (.len (.s 6))<|
 oq 8 (.bin .lss (.s 4) (.s 7))<|
 .nil) [1,3,8])
 (.cond (.s 8)
 .skip
 (.exit 0)))
 (.seq
 (.blk 1
 (.seq
 (.reg (oq 11 (.fad 7 (.s 1))<|
 oq 12 (.load false 1 (.s 11))<|
 oq 13 (.mv (.s 3))<|
 oq 14 (.iad 8 (.s 12) (.s 13))<|
 oq 15 (.load true 8 (.s 14))<|
 oq 16 (.call f_ref15_wide [.s 15])<|
 .nil) [1,3,16])
 (.cond (.s 16)
 (.seq
 (.reg (oq 2 (.mv (.k (.bool true)))<|
 .nil) [2])
 .ret)
 .skip)))
 (.reg (oq 9 (.mv (.s 3))<|
 oq 10 (.bin .add (.s 9) (.k (.int .i64 1)))<|
 oq 3 (.mv (.s 10))<|
 .nil) [1,3]))))))
 (.seq
 (.reg (oq 17 (.fad 7 (.s 1))<|
 oq 18 (.load false 1 (.s 17))<|
 oq 19 (.len (.s 18))<|
 oq 20 (.bin .gtr (.s 19) (.k (.int .i64 300)))<|
 oq 2 (.mv (.s 20))<|
 .nil) [2])
 .ret)))
def p_ref15_wide:PFn:=⟨[.tmp 2],q_ref15_wide⟩
def n_ref15_wide:Fn:=⟨1,[.tmp 2],false,false,erase q_ref15_wide⟩
def q_law00_SameLimbs:PC:=
 (.seq
 (.reg (oq 4 (.mv (.k (.bool false)))<|
 .nil) [0,1])
 (.seq
 (.seq
 (.reg (oq 6 (.mv (.s 0))<|
 oq 7 (.len (.s 6))<|
 oq 8 (.mv (.s 1))<|
 oq 9 (.len (.s 8))<|
 oq 10 (.bin .neq (.s 7) (.s 9))<|
 .nil) [0,1,10])
 (.cond (.s 10)
 (.seq
 (.reg (oq 4 (.mv (.k (.bool false)))<|
 .nil) [4])
 .ret)
 .skip))
 (.seq
 (.seq
 (.reg (oq 5 (.mv (.k (.int .i64 0)))<|
 .nil) [0,1,5])
 (.blk 0
 (.loop ⟨[(0,.same),(1,.same),(5,.v)],[]⟩ [(.ext 0,⟨[],[]⟩),(.ret,⟨[(4,.v)],[]⟩)]
 (.seq
 (.seq
 (.reg (oq 11 (.mv (.s 5))<|
 oq 12 (.mv (.s 0))<|
 oq 13 (.len (.s 12))<|
 oq 14 (.bin .lss (.s 11) (.s 13))<|
 .nil) [0,1,5,14])
 (.cond (.s 14)
 .skip
 (.exit 0)))
 (.seq
 (.blk 1
 (.seq
 (.drw (.nil)
 (oq 17 (.mv (.s 0))<|
 oq 18 (.mv (.s 5))<|
 oq 19 (.iad 1 (.s 17) (.s 18))<|
 oq 20 (.load false 1 (.s 19))<|
 oq 21 (.mv (.s 1))<|
 oq 22 (.mv (.s 5))<|
 oq 23 (.iad 1 (.s 21) (.s 22))<|
 oq 24 (.load false 1 (.s 23))<|
 .nil)
 (oq 25 (.bin .neq (.s 20) (.s 24))<|
 .nil) [0,1,5,25])
 (.cond (.s 25)
 (.seq
 (.reg (oq 4 (.mv (.k (.bool false)))<|
 .nil) [4])
 .ret)
 .skip)))
 (.reg (oq 15 (.mv (.s 5))<|
 oq 16 (.bin .add (.s 15) (.k (.int .i64 1)))<|
 oq 5 (.mv (.s 16))<|
 .nil) [0,1,5]))))))
 (.seq
 (.reg (oq 4 (.mv (.k (.bool true)))<|
 .nil) [4])
 .ret))))
def p_law00_SameLimbs:PFn:=⟨[.tmp 4],q_law00_SameLimbs⟩
def n_law00_SameLimbs:Fn:=⟨2,[.tmp 4],false,false,erase q_law00_SameLimbs⟩
def q_slices_IndexFunc_aT:PC:=
 (.seq
 (.reg (oq 4 (.mv (.k (.int .i64 0)))<|
 .nil) [0,1])
 (.seq
 (.seq
 (.reg (oq 6 (.mv (.s 0))<|
 oq 7 (.len (.s 6))<|
 oq 8 (.mv (.k (.int .i64 0)))<|
 .nil) [0,1,7,8])
 (.blk 0
 (.loop ⟨[(0,.same),(1,.same),(7,.same),(8,.v)],[]⟩ [(.ext 0,⟨[],[]⟩),(.ret,⟨[(4,.v)],[]⟩)]
 (.seq
 (.reg (oq 9 (.bin .lss (.s 8) (.s 7))<|
 .nil) [0,1,7,8,9])
 (.seq
 (.cond (.s 9)
 .skip
 (.exit 0))
 (.seq
 (.blk 1
 (.seq
 (.reg (oq 10 (.mv (.s 8))<|
 oq 5 (.mv (.s 10))<|
 .nil) [0,1,5,7,8])
 (.seq
 (.reg (oq 11 (.mv (.s 1))<|
 oq 12 (.mv (.s 0))<|
 oq 13 (.mv (.s 5))<|
 oq 14 (.iad 8 (.s 12) (.s 13))<|
 oq 15 (.load true 8 (.s 14))<|
 oq 16 (.callv (.s 11) [.s 15])<|
 .nil) [0,1,5,7,8,16])
 (.cond (.s 16)
 (.seq
 (.reg (oq 17 (.mv (.s 5))<|
 oq 4 (.mv (.s 17))<|
 .nil) [4])
 .ret)
 .skip))))
 (.reg (oq 18 (.bin .add (.s 8) (.k (.int .i64 1)))<|
 oq 8 (.mv (.s 18))<|
 .nil) [0,1,7,8])))))))
 (.seq
 (.reg (oq 4 (.mv (.k (.int .i64 (-1))))<|
 .nil) [4])
 .ret)))
def p_slices_IndexFunc_aT:PFn:=⟨[.tmp 4],q_slices_IndexFunc_aT⟩
def n_slices_IndexFunc_aT:Fn:=⟨2,[.tmp 4],false,false,erase q_slices_IndexFunc_aT⟩
def q_ref05_fields:PC:=
 (.seq
 (.reg (.box 8 1 (.s 0)<|
 oq 2 (.mv (.k (.bool false)))<|
 .nil) [1])
 (.seq
 (.seq
 (.reg (oq 3 (.fad 0 (.s 1))<|
 oq 4 (.load false 1 (.s 3))<|
 oq 5 (.bin .neq (.s 4) (.k (.int .i64 2)))<|
 oq 6 (.mv (.s 5))<|
 .grp 6 true (oq 7 (.fad 1 (.s 1))<|
 oq 8 (.load false 1 (.s 7))<|
 .nil) 9 (.s 8) (.k (.bool false))<|
 oq 10 (.mv (.s 9))<|
 .grp 10 false (oq 11 (.fad 0 (.s 1))<|
 oq 12 (.load false 1 (.s 11))<|
 oq 13 (.bin .neq (.s 12) (.k (.int .i64 3)))<|
 oq 14 (.mv (.s 13))<|
 .grp 14 true (oq 15 (.fad 2 (.s 1))<|
 oq 16 (.load true 3 (.s 15))<|
 oq 17 (.call f_ref05_zero [.s 16])<|
 oq 18 (.un .not (.s 17))<|
 .nil) 19 (.s 18) (.k (.bool false))<|
 .nil) 20 (.s 19) (.k (.bool true))<|
 oq 21 (.mv (.s 20))<|
 .grp 21 false (oq 22 (.fad 0 (.s 1))<|
 oq 23 (.load false 1 (.s 22))<|
 oq 24 (.bin .neq (.s 23) (.k (.int .i64 4)))<|
 oq 25 (.mv (.s 24))<|
 .grp 25 true (oq 26 (.fad 0 (.s 1))<|
 oq 27 (.load false 1 (.s 26))<|
 oq 28 (.bin .neq (.s 27) (.k (.int .i64 5)))<|
 .nil) 29 (.s 28) (.k (.bool false))<|
 oq 30 (.mv (.s 29))<|
 .grp 30 true (oq 31 (.fad 5 (.s 1))<|
 oq 32 (.load false 1 (.s 31))<|
 oq 33 (.bin .neq (.s 32) (.k (.str [])))<|
 .nil) 34 (.s 33) (.k (.bool false))<|
 .nil) 35 (.s 34) (.k (.bool true))<|
 oq 36 (.mv (.s 35))<|
 .grp 36 false (oq 37 (.fad 0 (.s 1))<|
 oq 38 (.load false 1 (.s 37))<|
 oq 39 (.bin .neq (.s 38) (.k (.int .i64 7)))<|
 oq 40 (.mv (.s 39))<|
 .grp 40 true (oq 41 (.fad 6 (.s 1))<|
 oq 42 (.load false 1 (.s 41))<|
 oq 43 (.len (.s 42))<|
 oq 44 (.bin .gtr (.s 43) (.k (.int .i64 0)))<|
 .nil) 45 (.s 44) (.k (.bool false))<|
 .nil) 46 (.s 45) (.k (.bool true))<|
 oq 47 (.mv (.s 46))<|
 .grp 47 false (oq 48 (.fad 0 (.s 1))<|
 oq 49 (.load false 1 (.s 48))<|
 oq 50 (.bin .neq (.s 49) (.k (.int .i64 7)))<|
 oq 51 (.mv (.s 50))<|
 .grp 51 true (oq 52 (.fad 0 (.s 1))<|
 oq 53 (.load false 1 (.s 52))<|
 oq 54 (.bin .neq (.s 53) (.k (.int .i64 6)))<|
 .nil) 55 (.s 54) (.k (.bool false))<|
 oq 56 (.mv (.s 55))<|
 .grp 56 true (oq 57 (.fad 7 (.s 1))<|
 oq 58 (.load false 1 (.s 57))<|
 oq 59 (.len (.s 58))<|
 oq 60 (.bin .gtr (.s 59) (.k (.int .i64 0)))<|
 .nil) 61 (.s 60) (.k (.bool false))<|
 .nil) 62 (.s 61) (.k (.bool true))<|
 .nil) [1,62])
 (.cond (.s 62)
 (.seq
 (.reg (oq 2 (.mv (.k (.bool false)))<|
 .nil) [2])
 .ret)
 .skip))
 (.seq
 (.seq
 (.reg (oq 63 (.fad 0 (.s 1))<|
 oq 64 (.load false 1 (.s 63))<|
 .nil) [1,64])
 (.blk 0
 (.seq
 (.cut ⟨[(1,.same),(64,.same)],[.same]⟩ [(.nrm,⟨[(1,.same),(64,.same),(65,.v)],[.same]⟩)]
 (.seq
 (.reg (oq 66 (.bin .eql (.s 64) (.k (.int .i64 1)))<|
 oq 65 (.mv (.s 66))<|
 .nil) [1,64,65])
 (.cond (.s 65)
 .skip
 (.reg (oq 67 (.bin .eql (.s 64) (.k (.int .i64 2)))<|
 oq 65 (.mv (.s 67))<|
 .nil) [1,64,65]))))
 (.cond (.s 65)
 (.seq
 (.reg (oq 2 (.mv (.k (.bool true)))<|
 .nil) [2])
 .ret)
 (.seq
 (.reg (oq 69 (.bin .eql (.s 64) (.k (.int .i64 3)))<|
 oq 68 (.mv (.s 69))<|
 .nil) [1,64,68])
 (.cond (.s 68)
 (.seq
 (.reg (oq 70 (.fad 2 (.s 1))<|
 oq 71 (.load true 3 (.s 70))<|
 oq 72 (.call f_ref02_Check [.s 71])<|
 oq 2 (.mv (.s 72))<|
 .nil) [2])
 .ret)
 (.seq
 (.reg (oq 74 (.bin .eql (.s 64) (.k (.int .i64 4)))<|
 oq 73 (.mv (.s 74))<|
 .nil) [1,64,73])
 (.cond (.s 73)
 (.seq
 (.reg (oq 75 (.fad 5 (.s 1))<|
 oq 76 (.load false 1 (.s 75))<|
 oq 77 (.call f_ref04_Valid [.s 76])<|
 oq 78 (.mv (.s 77))<|
 .grp 78 true (oq 79 (.fad 5 (.s 1))<|
 oq 80 (.load false 1 (.s 79))<|
 oq 81 (.lns (.s 80))<|
 oq 82 (.bin .leq (.s 81) (.k (.int .i64 2000)))<|
 .nil) 83 (.s 82) (.k (.bool false))<|
 oq 2 (.mv (.s 83))<|
 .nil) [2])
 .ret)
 (.seq
 (.reg (oq 85 (.bin .eql (.s 64) (.k (.int .i64 5)))<|
 oq 84 (.mv (.s 85))<|
 .nil) [1,64,84])
 (.cond (.s 84)
 (.seq
 (.reg (oq 86 (.fad 5 (.s 1))<|
 oq 87 (.load false 1 (.s 86))<|
 oq 88 (.lns (.s 87))<|
 oq 89 (.bin .leq (.s 88) (.k (.int .i64 2000)))<|
 oq 2 (.mv (.s 89))<|
 .nil) [2])
 .ret)
 (.seq
 (.reg (oq 91 (.bin .eql (.s 64) (.k (.int .i64 6)))<|
 oq 90 (.mv (.s 91))<|
 .nil) [1,64,90])
 (.cond (.s 90)
 (.seq
 (.reg (oq 92 (.fad 7 (.s 1))<|
 oq 93 (.load false 1 (.s 92))<|
 oq 94 (.len (.s 93))<|
 oq 95 (.bin .leq (.s 94) (.k (.int .i64 300)))<|
 oq 2 (.mv (.s 95))<|
 .nil) [2])
 .ret)
 (.seq
 (.reg (oq 97 (.bin .eql (.s 64) (.k (.int .i64 7)))<|
 oq 96 (.mv (.s 97))<|
 .nil) [1,96])
 (.cond (.s 96)
 (.seq
 (.reg (oq 98 (.fad 6 (.s 1))<|
 oq 99 (.load false 1 (.s 98))<|
 oq 100 (.call f_ref05_names [.s 99])<|
 oq 101 (.mv (.s 100))<|
 .grp 101 true (oq 102 (.fad 6 (.s 1))<|
 oq 103 (.load false 1 (.s 102))<|
 oq 104 (.len (.s 103))<|
 oq 105 (.fad 7 (.s 1))<|
 oq 106 (.load false 1 (.s 105))<|
 oq 107 (.len (.s 106))<|
 oq 108 (.bin .eql (.s 104) (.s 107))<|
 .nil) 109 (.s 108) (.k (.bool false))<|
 oq 2 (.mv (.s 109))<|
 .nil) [2])
 .ret)
 .skip))))))))))))))
 (.seq
 (.reg (oq 2 (.mv (.k (.bool false)))<|
 .nil) [2])
 .ret))))
def p_ref05_fields:PFn:=⟨[.tmp 2],q_ref05_fields⟩
def n_ref05_fields:Fn:=⟨1,[.tmp 2],false,false,erase q_ref05_fields⟩
def q_ref02_Is:PC:=
 (.seq
 (.reg (.box 3 1 (.s 0)<|
 oq 2 (.alloc [.bool false,(.sl .full 0 []),.int .i64 0])<|
 .nil) [1,2])
 (.seq
 (.seq
 (.reg (oq 3 (.load true 3 (.s 1))<|
 oq 4 (.call f_ref02_Check [.s 3])<|
 .nil) [1,2,4])
 (.cond (.s 4)
 (.seq
 (.reg (oq 5 (.load true 3 (.s 1))<|
 oz (.store 3 (.s 2) (.s 5))<|
 .nil) [2])
 .ret)
 .skip))
 (.seq
 (.reg (oq 6 (.build [.bool false,(.sl .full 0 []),.int .i64 0] [])<|
 oz (.store 3 (.s 2) (.s 6))<|
 .nil) [2])
 .ret)))
def p_ref02_Is:PFn:=⟨[.cell 2 true 3],q_ref02_Is⟩
def n_ref02_Is:Fn:=⟨1,[.cell 2 true 3],false,false,erase q_ref02_Is⟩
def q_ref01_Cmp:PC:=
 (.seq
 (.reg (oq 4 (.mv (.k (.int .i64 0)))<|
 .nil) [0,1])
 (.seq
 (.seq
 (.reg (oq 6 (.mv (.s 0))<|
 oq 7 (.len (.s 6))<|
 oq 8 (.mv (.s 1))<|
 oq 9 (.len (.s 8))<|
 oq 10 (.max [.s 7,.s 9])<|
 oq 11 (.bin .sub (.s 10) (.k (.int .i64 1)))<|
 oq 5 (.mv (.s 11))<|
 .nil) [0,1,5])
 (.blk 0
 (.loop ⟨[(0,.same),(1,.same),(5,.v)],[]⟩ [(.ext 0,⟨[],[]⟩),(.ret,⟨[(4,.v)],[]⟩)]
 (.seq
 (.seq
 (.reg (oq 12 (.mv (.s 5))<|
 oq 13 (.bin .geq (.s 12) (.k (.int .i64 0)))<|
 .nil) [0,1,5,13])
 (.cond (.s 13)
 .skip
 (.exit 0)))
 (.seq
 (.blk 1
 (.seq
 (.seq
 (.reg (oq 16 (.mv (.s 0))<|
 oq 17 (.mv (.s 5))<|
 oq 18 (.call f_ref01_limb [.s 16,.s 17])<|
 oq 19 (.mv (.s 1))<|
 oq 20 (.mv (.s 5))<|
 oq 21 (.call f_ref01_limb [.s 19,.s 20])<|
 oq 22 (.bin .lss (.s 18) (.s 21))<|
 .nil) [0,1,5,22])
 (.cond (.s 22)
 (.seq
 (.reg (oq 4 (.mv (.k (.int .i64 (-1))))<|
 .nil) [4])
 .ret)
 .skip))
 (.seq
 (.reg (oq 23 (.mv (.s 0))<|
 oq 24 (.mv (.s 5))<|
 oq 25 (.call f_ref01_limb [.s 23,.s 24])<|
 oq 26 (.mv (.s 1))<|
 oq 27 (.mv (.s 5))<|
 oq 28 (.call f_ref01_limb [.s 26,.s 27])<|
 oq 29 (.bin .gtr (.s 25) (.s 28))<|
 .nil) [0,1,5,29])
 (.cond (.s 29)
 (.seq
 (.reg (oq 4 (.mv (.k (.int .i64 1)))<|
 .nil) [4])
 .ret)
 .skip))))
 (.reg (oq 14 (.mv (.s 5))<|
 oq 15 (.bin .sub (.s 14) (.k (.int .i64 1)))<|
 oq 5 (.mv (.s 15))<|
 .nil) [0,1,5]))))))
 (.seq
 (.reg (oq 4 (.mv (.k (.int .i64 0)))<|
 .nil) [4])
 .ret)))
def p_ref01_Cmp:PFn:=⟨[.tmp 4],q_ref01_Cmp⟩
def n_ref01_Cmp:Fn:=⟨2,[.tmp 4],false,false,erase q_ref01_Cmp⟩
def q_num_Check:PC:=
 (.seq
 (.reg (.box 3 1 (.s 0)<|
 oq 2 (.mv (.k (.bool false)))<|
 .nil) [1])
 (.seq
 (.reg (oq 6 (.fad 1 (.s 1))<|
 oq 7 (.load false 1 (.s 6))<|
 oq 8 (.len (.s 7))<|
 oq 3 (.mv (.s 8))<|
 .nil) [1,3])
 (.seq
 (.seq
 (.reg (oq 9 (.mv (.s 3))<|
 oq 10 (.bin .eql (.s 9) (.k (.int .i64 0)))<|
 .nil) [1,3,10])
 (.cond (.s 10)
 (.seq
 (.reg (oq 11 (.fad 0 (.s 1))<|
 oq 12 (.load false 1 (.s 11))<|
 oq 13 (.un .not (.s 12))<|
 oq 14 (.mv (.s 13))<|
 .grp 14 true (oq 15 (.fad 2 (.s 1))<|
 oq 16 (.load false 1 (.s 15))<|
 oq 17 (.bin .eql (.s 16) (.k (.int .i64 0)))<|
 .nil) 18 (.s 17) (.k (.bool false))<|
 oq 2 (.mv (.s 18))<|
 .nil) [2])
 .ret)
 .skip))
 (.seq
 (.seq
 (.reg (oq 19 (.mv (.s 3))<|
 oq 20 (.bin .gtr (.s 19) (.k (.int .i64 90)))<|
 oq 21 (.mv (.s 20))<|
 .grp 21 false (oq 22 (.fad 1 (.s 1))<|
 oq 23 (.load false 1 (.s 22))<|
 oq 24 (.mv (.s 3))<|
 oq 25 (.bin .sub (.s 24) (.k (.int .i64 1)))<|
 oq 26 (.iad 1 (.s 23) (.s 25))<|
 oq 27 (.load false 1 (.s 26))<|
 oq 28 (.bin .eql (.s 27) (.k (.int .u32 0)))<|
 .nil) 29 (.s 28) (.k (.bool true))<|
 oq 30 (.mv (.s 29))<|
 .grp 30 false (oq 31 (.fad 2 (.s 1))<|
 oq 32 (.load false 1 (.s 31))<|
 oq 33 (.bin .lss (.s 32) (.k (.int .i64 (-1200))))<|
 .nil) 34 (.s 33) (.k (.bool true))<|
 oq 35 (.mv (.s 34))<|
 .grp 35 false (oq 36 (.fad 2 (.s 1))<|
 oq 37 (.load false 1 (.s 36))<|
 oq 38 (.bin .gtr (.s 37) (.k (.int .i64 1200)))<|
 .nil) 39 (.s 38) (.k (.bool true))<|
 .nil) [1,39])
 (.cond (.s 39)
 (.seq
 (.reg (oq 2 (.mv (.k (.bool false)))<|
 .nil) [2])
 .ret)
 .skip))
 (.seq
 (.reg (oq 41 (.fad 1 (.s 1))<|
 oq 42 (.load false 1 (.s 41))<|
 oq 43 (.call f_nat_Trim [.s 42])<|
 oq 40 (.mv (.s 43))<|
 oq 44 (.ext (.s 40) 0)<|
 oq 45 (.ext (.s 40) 1)<|
 oq 4 (.mv (.s 44))<|
 oq 5 (.mv (.s 45))<|
 .nil) [5])
 (.seq
 (.reg (oq 46 (.mv (.s 5))<|
 oq 47 (.bin .eql (.s 46) (.k (.int .i64 0)))<|
 oq 2 (.mv (.s 47))<|
 .nil) [2])
 .ret))))))
def p_num_Check:PFn:=⟨[.tmp 2],q_num_Check⟩
def n_num_Check:Fn:=⟨1,[.tmp 2],false,false,erase q_num_Check⟩
def q_tree_text:PC:=
 (.seq
 (.reg (oq 2 (.mv (.k (.bool false)))<|
 .nil) [0])
 (.seq
 (.reg (oq 3 (.mv (.s 0))<|
 oq 4 (.lns (.s 3))<|
 oq 5 (.bin .leq (.s 4) (.k (.int .i64 2000)))<|
 oq 6 (.mv (.s 5))<|
 .grp 6 true (oq 7 (.mv (.s 0))<|
 oq 8 (.call f_utf_Valid [.s 7])<|
 .nil) 9 (.s 8) (.k (.bool false))<|
 oq 2 (.mv (.s 9))<|
 .nil) [2])
 .ret))
def p_tree_text:PFn:=⟨[.tmp 2],q_tree_text⟩
def n_tree_text:Fn:=⟨1,[.tmp 2],false,false,erase q_tree_text⟩
def q_tree_names:PC:=
 (.seq
 (.reg (oq 2 (.mv (.k (.bool false)))<|
 .nil) [0])
 (.seq
 (.seq
 (.reg (oq 5 (.mv (.s 0))<|
 oq 6 (.len (.s 5))<|
 oq 7 (.mv (.k (.int .i64 0)))<|
 .nil) [0,5,6,7])
 (.blk 0
 (.loop ⟨[(0,.same),(5,.same),(6,.same),(7,.v)],[]⟩ [(.ext 0,⟨[(0,.same)],[]⟩),(.ret,⟨[(2,.v)],[]⟩)]
 (.seq
 (.reg (oq 8 (.bin .lss (.s 7) (.s 6))<|
 .nil) [0,5,6,7,8])
 (.seq
 (.cond (.s 8)
 .skip
 (.exit 0))
 (.seq
 (.blk 1
 (.seq
 (.reg (oq 9 (.mv (.s 7))<|
 oq 10 (.iad 1 (.s 5) (.s 7))<|
 oq 11 (.load false 1 (.s 10))<|
 oq 3 (.mv (.s 9))<|
 oq 4 (.mv (.s 11))<|
 .nil) [0,3,4,5,6,7])
 (.seq
 (.reg (oq 12 (.mv (.s 4))<|
 oq 13 (.call f_tree_text [.s 12])<|
 oq 14 (.un .not (.s 13))<|
 oq 15 (.mv (.s 14))<|
 .grp 15 false (oq 16 (.mv (.s 3))<|
 oq 17 (.bin .gtr (.s 16) (.k (.int .i64 0)))<|
 oq 18 (.mv (.s 17))<|
 .grp 18 true (oq 19 (.mv (.s 0))<|
 oq 20 (.mv (.s 3))<|
 oq 21 (.bin .sub (.s 20) (.k (.int .i64 1)))<|
 oq 22 (.iad 1 (.s 19) (.s 21))<|
 oq 23 (.load false 1 (.s 22))<|
 oq 24 (.mv (.s 4))<|
 oq 25 (.bin .geq (.s 23) (.s 24))<|
 .nil) 26 (.s 25) (.k (.bool false))<|
 .nil) 27 (.s 26) (.k (.bool true))<|
 .nil) [0,5,6,7,27])
 (.cond (.s 27)
 (.seq
 (.reg (oq 2 (.mv (.k (.bool false)))<|
 .nil) [2])
 .ret)
 .skip))))
 (.reg (oq 28 (.bin .add (.s 7) (.k (.int .i64 1)))<|
 oq 7 (.mv (.s 28))<|
 .nil) [0,5,6,7])))))))
 (.seq
 (.reg (oq 29 (.mv (.s 0))<|
 oq 30 (.len (.s 29))<|
 oq 31 (.bin .leq (.s 30) (.k (.int .i64 300)))<|
 oq 2 (.mv (.s 31))<|
 .nil) [2])
 .ret)))
def p_tree_names:PFn:=⟨[.tmp 2],q_tree_names⟩
def n_tree_names:Fn:=⟨1,[.tmp 2],false,false,erase q_tree_names⟩
def q_merge_few_1:PC:=
 (.seq
 (.reg (.box 8 1 (.s 0)<|
 oq 2 (.mv (.k (.bool false)))<|
 .nil) [1])
 (.seq
 (.reg (oq 3 (.load true 8 (.s 1))<|
 oq 4 (.call f_merge_few [.s 3])<|
 oq 5 (.un .not (.s 4))<|
 oq 2 (.mv (.s 5))<|
 .nil) [2])
 .ret))
def p_merge_few_1:PFn:=⟨[.tmp 2],q_merge_few_1⟩
def n_merge_few_1:Fn:=⟨1,[.tmp 2],false,false,erase q_merge_few_1⟩
def q_ref05_zero:PC:=
 (.seq
 (.reg (.box 3 1 (.s 0)<|
 oq 2 (.mv (.k (.bool false)))<|
 .nil) [1])
 (.seq
 (.reg (oq 3 (.fad 0 (.s 1))<|
 oq 4 (.load false 1 (.s 3))<|
 oq 5 (.un .not (.s 4))<|
 oq 6 (.mv (.s 5))<|
 .grp 6 true (oq 7 (.fad 1 (.s 1))<|
 oq 8 (.load false 1 (.s 7))<|
 oq 9 (.len (.s 8))<|
 oq 10 (.bin .eql (.s 9) (.k (.int .i64 0)))<|
 .nil) 11 (.s 10) (.k (.bool false))<|
 oq 12 (.mv (.s 11))<|
 .grp 12 true (oq 13 (.fad 2 (.s 1))<|
 oq 14 (.load false 1 (.s 13))<|
 oq 15 (.bin .eql (.s 14) (.k (.int .i64 0)))<|
 .nil) 16 (.s 15) (.k (.bool false))<|
 oq 2 (.mv (.s 16))<|
 .nil) [2])
 .ret))
def p_ref05_zero:PFn:=⟨[.tmp 2],q_ref05_zero⟩
def n_ref05_zero:Fn:=⟨1,[.tmp 2],false,false,erase q_ref05_zero⟩
def q_ref02_Check:PC:=
 (.seq
 (.reg (.box 3 1 (.s 0)<|
 oq 2 (.mv (.k (.bool false)))<|
 .nil) [1])
 (.seq
 (.reg (oq 6 (.fad 1 (.s 1))<|
 oq 7 (.load false 1 (.s 6))<|
 oq 8 (.len (.s 7))<|
 oq 3 (.mv (.s 8))<|
 .nil) [1,3])
 (.seq
 (.seq
 (.reg (oq 9 (.mv (.s 3))<|
 oq 10 (.bin .eql (.s 9) (.k (.int .i64 0)))<|
 .nil) [1,3,10])
 (.cond (.s 10)
 (.seq
 (.reg (oq 11 (.fad 0 (.s 1))<|
 oq 12 (.load false 1 (.s 11))<|
 oq 13 (.un .not (.s 12))<|
 oq 14 (.mv (.s 13))<|
 .grp 14 true (oq 15 (.fad 2 (.s 1))<|
 oq 16 (.load false 1 (.s 15))<|
 oq 17 (.bin .eql (.s 16) (.k (.int .i64 0)))<|
 .nil) 18 (.s 17) (.k (.bool false))<|
 oq 2 (.mv (.s 18))<|
 .nil) [2])
 .ret)
 .skip))
 (.seq
 (.seq
 (.reg (oq 19 (.mv (.s 3))<|
 oq 20 (.bin .gtr (.s 19) (.k (.int .i64 90)))<|
 oq 21 (.mv (.s 20))<|
 .grp 21 false (oq 22 (.fad 1 (.s 1))<|
 oq 23 (.load false 1 (.s 22))<|
 oq 24 (.mv (.s 3))<|
 oq 25 (.bin .sub (.s 24) (.k (.int .i64 1)))<|
 oq 26 (.iad 1 (.s 23) (.s 25))<|
 oq 27 (.load false 1 (.s 26))<|
 oq 28 (.bin .eql (.s 27) (.k (.int .u32 0)))<|
 .nil) 29 (.s 28) (.k (.bool true))<|
 oq 30 (.mv (.s 29))<|
 .grp 30 false (oq 31 (.fad 2 (.s 1))<|
 oq 32 (.load false 1 (.s 31))<|
 oq 33 (.bin .lss (.s 32) (.k (.int .i64 (-1200))))<|
 .nil) 34 (.s 33) (.k (.bool true))<|
 oq 35 (.mv (.s 34))<|
 .grp 35 false (oq 36 (.fad 2 (.s 1))<|
 oq 37 (.load false 1 (.s 36))<|
 oq 38 (.bin .gtr (.s 37) (.k (.int .i64 1200)))<|
 .nil) 39 (.s 38) (.k (.bool true))<|
 .nil) [1,39])
 (.cond (.s 39)
 (.seq
 (.reg (oq 2 (.mv (.k (.bool false)))<|
 .nil) [2])
 .ret)
 .skip))
 (.seq
 (.reg (oq 41 (.fad 1 (.s 1))<|
 oq 42 (.load false 1 (.s 41))<|
 oq 43 (.call f_ref01_Small [.s 42,(.k (.int .u32 10))])<|
 oq 40 (.mv (.s 43))<|
 oq 44 (.ext (.s 40) 0)<|
 oq 45 (.ext (.s 40) 1)<|
 oq 4 (.mv (.s 44))<|
 oq 5 (.mv (.s 45))<|
 .nil) [5])
 (.seq
 (.reg (oq 46 (.mv (.s 5))<|
 oq 47 (.bin .neq (.s 46) (.k (.int .u32 0)))<|
 oq 2 (.mv (.s 47))<|
 .nil) [2])
 .ret))))))
def p_ref02_Check:PFn:=⟨[.tmp 2],q_ref02_Check⟩
def n_ref02_Check:Fn:=⟨1,[.tmp 2],false,false,erase q_ref02_Check⟩
def q_ref04_Valid:PC:=
 (.seq
 (.reg (oq 2 (.mv (.k (.bool false)))<|
 .nil) [0])
 (.seq
 (.reg (oq 5 (.mv (.s 0))<|
 oq 6 (.call f_ref04_Runes [.s 5])<|
 oq 3 (.mv (.s 6))<|
 .nil) [3])
 (.seq
 (.seq
 (.reg (oq 4 (.mv (.k (.int .i64 0)))<|
 .nil) [3,4])
 (.blk 0
 (.loop ⟨[(3,.same),(4,.v)],[]⟩ [(.ext 0,⟨[],[]⟩),(.ret,⟨[(2,.v)],[]⟩)]
 (.seq
 (.seq
 (.reg (oq 7 (.mv (.s 4))<|
 oq 8 (.mv (.s 3))<|
 oq 9 (.len (.s 8))<|
 oq 10 (.bin .lss (.s 7) (.s 9))<|
 .nil) [3,4,10])
 (.cond (.s 10)
 .skip
 (.exit 0)))
 (.seq
 (.blk 1
 (.seq
 (.reg (oq 13 (.mv (.s 3))<|
 oq 14 (.mv (.s 4))<|
 oq 15 (.iad 1 (.s 13) (.s 14))<|
 oq 16 (.load false 1 (.s 15))<|
 oq 17 (.bin .lss (.s 16) (.k (.int .i32 0)))<|
 .nil) [3,4,17])
 (.cond (.s 17)
 (.seq
 (.reg (oq 2 (.mv (.k (.bool false)))<|
 .nil) [2])
 .ret)
 .skip)))
 (.reg (oq 11 (.mv (.s 4))<|
 oq 12 (.bin .add (.s 11) (.k (.int .i64 1)))<|
 oq 4 (.mv (.s 12))<|
 .nil) [3,4]))))))
 (.seq
 (.reg (oq 2 (.mv (.k (.bool true)))<|
 .nil) [2])
 .ret))))
def p_ref04_Valid:PFn:=⟨[.tmp 2],q_ref04_Valid⟩
def n_ref04_Valid:Fn:=⟨1,[.tmp 2],false,false,erase q_ref04_Valid⟩
def q_ref05_names:PC:=
 (.seq
 (.reg (oq 2 (.mv (.k (.bool false)))<|
 .nil) [0])
 (.seq
 (.seq
 (.reg (oq 3 (.mv (.k (.int .i64 0)))<|
 .nil) [0,3])
 (.blk 0
 (.loop ⟨[(0,.same),(3,.v)],[]⟩ [(.ext 0,⟨[(0,.same)],[]⟩),(.ret,⟨[(2,.v)],[]⟩)]
 (.seq
 (.seq
 (.reg (oq 4 (.mv (.s 3))<|
 oq 5 (.mv (.s 0))<|
 oq 6 (.len (.s 5))<|
 oq 7 (.bin .lss (.s 4) (.s 6))<|
 .nil) [0,3,7])
 (.cond (.s 7)
 .skip
 (.exit 0)))
 (.seq
 (.blk 1
 (.seq
 (.drw (.nil)
 (oq 10 (.mv (.s 0))<|
 oq 11 (.mv (.s 3))<|
 oq 12 (.iad 1 (.s 10) (.s 11))<|
 oq 13 (.load false 1 (.s 12))<|
 oq 14 (.call f_ref04_Valid [.s 13])<|
 oq 15 (.un .not (.s 14))<|
 oq 16 (.mv (.s 15))<|
 .grp 16 false (oq 17 (.mv (.s 0))<|
 oq 18 (.mv (.s 3))<|
 oq 19 (.iad 1 (.s 17) (.s 18))<|
 oq 20 (.load false 1 (.s 19))<|
 oq 21 (.lns (.s 20))<|
 oq 22 (.bin .gtr (.s 21) (.k (.int .i64 2000)))<|
 .nil) 23 (.s 22) (.k (.bool true))<|
 oq 24 (.mv (.s 23))<|
 .grp 24 false (oq 25 (.mv (.s 3))<|
 oq 26 (.bin .gtr (.s 25) (.k (.int .i64 0)))<|
 oq 27 (.mv (.s 26))<|
 .grp 27 true (oq 28 (.mv (.s 0))<|
 oq 29 (.mv (.s 3))<|
 oq 30 (.iad 1 (.s 28) (.s 29))<|
 oq 31 (.load false 1 (.s 30))<|
 oq 32 (.mv (.s 0))<|
 oq 33 (.mv (.s 3))<|
 oq 34 (.bin .sub (.s 33) (.k (.int .i64 1)))<|
 oq 35 (.iad 1 (.s 32) (.s 34))<|
 oq 36 (.load false 1 (.s 35))<|
 oq 37 (.bin .leq (.s 31) (.s 36))<|
 .nil) 38 (.s 37) (.k (.bool false))<|
 .nil) 39 (.s 38) (.k (.bool true))<|
 .nil)
 (.nil) [0,3,39])
 (.cond (.s 39)
 (.seq
 (.reg (oq 2 (.mv (.k (.bool false)))<|
 .nil) [2])
 .ret)
 .skip)))
 (.reg (oq 8 (.mv (.s 3))<|
 oq 9 (.bin .add (.s 8) (.k (.int .i64 1)))<|
 oq 3 (.mv (.s 9))<|
 .nil) [0,3]))))))
 (.seq
 (.reg (oq 40 (.mv (.s 0))<|
 oq 41 (.len (.s 40))<|
 oq 42 (.bin .leq (.s 41) (.k (.int .i64 300)))<|
 oq 2 (.mv (.s 42))<|
 .nil) [2])
 .ret)))
def p_ref05_names:PFn:=⟨[.tmp 2],q_ref05_names⟩
def n_ref05_names:Fn:=⟨1,[.tmp 2],false,false,erase q_ref05_names⟩
def q_ref01_limb:PC:=
 (.seq
 (.reg (oq 4 (.mv (.k (.int .u64 0)))<|
 .nil) [0,1])
 (.seq
 (.seq
 (.reg (oq 5 (.mv (.s 1))<|
 oq 6 (.mv (.s 0))<|
 oq 7 (.len (.s 6))<|
 oq 8 (.bin .lss (.s 5) (.s 7))<|
 .nil) [0,1,8])
 (.cond (.s 8)
 (.seq
 (.reg (oq 9 (.mv (.s 0))<|
 oq 10 (.mv (.s 1))<|
 oq 11 (.iad 1 (.s 9) (.s 10))<|
 oq 12 (.load false 1 (.s 11))<|
 oq 13 (.cvi .u64 (.s 12))<|
 oq 4 (.mv (.s 13))<|
 .nil) [4])
 .ret)
 .skip))
 (.seq
 (.reg (oq 4 (.mv (.k (.int .u64 0)))<|
 .nil) [4])
 .ret)))
def p_ref01_limb:PFn:=⟨[.tmp 4],q_ref01_limb⟩
def n_ref01_limb:Fn:=⟨2,[.tmp 4],false,false,erase q_ref01_limb⟩
def q_nat_Trim:PC:=
 (.seq
 (.reg (oq 2 (.mv (.k (.sl .full 0 [])))<|
 oq 3 (.mv (.k (.int .i64 0)))<|
 .nil) [0])
 (.seq
 (.reg (oq 7 (.mv (.s 0))<|
 oq 8 (.call f_nat_Norm [.s 7])<|
 oq 0 (.mv (.s 8))<|
 .nil) [0])
 (.seq
 (.reg (oq 4 (.mv (.k (.int .i64 0)))<|
 .nil) [0,4])
 (.seq
 .skip
 (.seq
 (.blk 0
 (.loop ⟨[(0,.v),(4,.v)],[]⟩ [(.ext 0,⟨[(0,.v),(4,.v)],[]⟩)]
 (.seq
 (.seq
 (.reg (oq 9 (.mv (.s 0))<|
 oq 10 (.len (.s 9))<|
 oq 11 (.bin .gtr (.s 10) (.k (.int .i64 0)))<|
 .nil) [0,4,11])
 (.cond (.s 11)
 .skip
 (.exit 0)))
 (.blk 1
 (.seq
 (.reg (oq 13 (.mv (.s 0))<|
 oq 14 (.call f_nat_small [.s 13,(.k (.int .u32 10))])<|
 oq 12 (.mv (.s 14))<|
 oq 15 (.ext (.s 12) 0)<|
 oq 16 (.ext (.s 12) 1)<|
 oq 5 (.mv (.s 15))<|
 oq 6 (.mv (.s 16))<|
 .nil) [0,4,5,6])
 (.seq
 (.seq
 (.reg (oq 17 (.mv (.s 6))<|
 oq 18 (.bin .neq (.s 17) (.k (.int .u32 0)))<|
 .nil) [0,4,5,18])
 (.cond (.s 18)
 (.exit 0)
 .skip))
 (.seq
 (.reg (oq 19 (.mv (.s 5))<|
 oq 0 (.mv (.s 19))<|
 .nil) [0,4])
 (.reg (oq 20 (.mv (.s 4))<|
 oq 21 (.bin .add (.s 20) (.k (.int .i64 1)))<|
 oq 4 (.mv (.s 21))<|
 .nil) [0,4]))))))))
 (.seq
 (.reg (oq 22 (.mv (.s 0))<|
 oq 23 (.mv (.s 4))<|
 oq 2 (.mv (.s 22))<|
 oq 3 (.mv (.s 23))<|
 .nil) [2,3])
 .ret))))))
def p_nat_Trim:PFn:=⟨[.tmp 2,.tmp 3],q_nat_Trim⟩
def n_nat_Trim:Fn:=⟨1,[.tmp 2,.tmp 3],false,false,erase q_nat_Trim⟩
def q_utf_Valid:PC:=
 (.seq
 (.reg (oq 2 (.mv (.k (.bool false)))<|
 .nil) [0])
 (.seq
 .skip
 (.seq
 (.seq
 (.reg (oq 7 (.mv (.s 0))<|
 oq 8 (.rng (.s 7))<|
 .nil) [0,8])
 (.blk 0
 (.loop ⟨[(0,.same),(8,.same)],[.iter]⟩ [(.ext 0,⟨[],[.dead]⟩),(.ret,⟨[(2,.v)],[.dead]⟩)]
 (.seq
 (.reg (oq 9 (.nxt (.s 8))<|
 oq 10 (.ext (.s 9) 0)<|
 .nil) [0,8,9,10])
 (.seq
 (.cond (.s 10)
 .skip
 (.exit 0))
 (.blk 1
 (.seq
 (.reg (oq 11 (.ext (.s 9) 1)<|
 oq 12 (.ext (.s 9) 2)<|
 oq 3 (.mv (.s 11))<|
 oq 4 (.mv (.s 12))<|
 .nil) [0,3,4,8])
 (.seq
 (.seq
 (.reg (oq 13 (.mv (.s 4))<|
 oq 14 (.bin .neq (.s 13) (.k (.int .i32 65533)))<|
 .nil) [0,3,8,14])
 (.cond (.s 14)
 (.exit 1)
 .skip))
 (.seq
 (.reg (oq 16 (.mv (.s 0))<|
 oq 17 (.mv (.s 3))<|
 oq 18 (.sls (.s 16) (some (.s 17)) none)<|
 oq 19 (.call f_u8_DecodeRuneInString [.s 18])<|
 oq 15 (.mv (.s 19))<|
 oq 20 (.ext (.s 15) 0)<|
 oq 21 (.ext (.s 15) 1)<|
 oq 5 (.mv (.s 20))<|
 oq 6 (.mv (.s 21))<|
 .nil) [0,6,8])
 (.seq
 (.reg (oq 22 (.mv (.s 6))<|
 oq 23 (.bin .eql (.s 22) (.k (.int .i64 1)))<|
 .nil) [0,8,23])
 (.cond (.s 23)
 (.seq
 (.reg (oq 2 (.mv (.k (.bool false)))<|
 .nil) [2])
 .ret)
 .skip)))))))))))
 (.seq
 (.reg (oq 2 (.mv (.k (.bool true)))<|
 .nil) [2])
 .ret))))
def p_utf_Valid:PFn:=⟨[.tmp 2],q_utf_Valid⟩
def n_utf_Valid:Fn:=⟨1,[.tmp 2],false,false,erase q_utf_Valid⟩
def q_ref01_Small:PC:=
 (.seq
 (.reg (oq 4 (.mv (.k (.sl .full 0 [])))<|
 oq 5 (.mv (.k (.int .u32 0)))<|
 .nil) [0,1])
 (.seq
 (.reg (oq 9 (.mv (.s 0))<|
 oq 10 (.len (.s 9))<|
 oq 11 (.mks [.int .u32 0] 4 (.s 10) (.s 10))<|
 oq 6 (.mv (.s 11))<|
 .nil) [0,1,6])
 (.seq
 (.reg (oq 7 (.mv (.k (.int .u64 0)))<|
 .nil) [0,1,6,7])
 (.seq
 (.seq
 (.reg (oq 12 (.mv (.s 0))<|
 oq 13 (.len (.s 12))<|
 oq 14 (.bin .sub (.s 13) (.k (.int .i64 1)))<|
 oq 8 (.mv (.s 14))<|
 .nil) [0,1,6,7,8])
 (.blk 0
 (.loop ⟨[(0,.same),(1,.same),(6,.same),(7,.v),(8,.v)],[(.arr .no 1)]⟩ [(.ext 0,⟨[(6,.same),(7,.v)],[(.arr .no 1)]⟩)]
 (.seq
 (.seq
 (.reg (oq 15 (.mv (.s 8))<|
 oq 16 (.bin .geq (.s 15) (.k (.int .i64 0)))<|
 .nil) [0,1,6,7,8,16])
 (.cond (.s 16)
 .skip
 (.exit 0)))
 (.seq
 (.blk 1
 (.seq
 (.reg (oq 19 (.mv (.s 7))<|
 oq 20 (.bin .shl (.s 19) (.k (.int .u64 32)))<|
 oq 21 (.mv (.s 0))<|
 oq 22 (.mv (.s 8))<|
 oq 23 (.iad 1 (.s 21) (.s 22))<|
 oq 24 (.load false 1 (.s 23))<|
 oq 25 (.cvi .u64 (.s 24))<|
 oq 26 (.bin .add (.s 20) (.s 25))<|
 oq 7 (.mv (.s 26))<|
 .nil) [0,1,6,7,8])
 (.seq
 (.reg (oq 27 (.mv (.s 6))<|
 oq 28 (.mv (.s 8))<|
 oq 29 (.mv (.s 7))<|
 oq 30 (.mv (.s 1))<|
 oq 31 (.cvi .u64 (.s 30))<|
 oq 32 (.bin .quo (.s 29) (.s 31))<|
 oq 33 (.cvi .u32 (.s 32))<|
 oq 34 (.iad 1 (.s 27) (.s 28))<|
 oz (.store 1 (.s 34) (.s 33))<|
 .nil) [0,1,6,7,8])
 (.reg (oq 35 (.mv (.s 7))<|
 oq 36 (.mv (.s 1))<|
 oq 37 (.cvi .u64 (.s 36))<|
 oq 38 (.bin .rem (.s 35) (.s 37))<|
 oq 7 (.mv (.s 38))<|
 .nil) [0,1,6,7,8]))))
 (.reg (oq 17 (.mv (.s 8))<|
 oq 18 (.bin .sub (.s 17) (.k (.int .i64 1)))<|
 oq 8 (.mv (.s 18))<|
 .nil) [0,1,6,7,8]))))))
 (.seq
 (.reg (oq 39 (.mv (.s 6))<|
 oq 40 (.call f_ref01_Norm [.s 39])<|
 oq 41 (.mv (.s 7))<|
 oq 42 (.cvi .u32 (.s 41))<|
 oq 4 (.mv (.s 40))<|
 oq 5 (.mv (.s 42))<|
 .nil) [4,5])
 .ret)))))
def p_ref01_Small:PFn:=⟨[.tmp 4,.tmp 5],q_ref01_Small⟩
def n_ref01_Small:Fn:=⟨2,[.tmp 4,.tmp 5],false,false,erase q_ref01_Small⟩
def q_ref04_Runes:PC:=
 (.seq
 (.reg (oq 2 (.mv (.k (.sl .full 0 [])))<|
 .nil) [0])
 (.seq
 (.reg (oq 3 (.mv (.k (.sl .full 0 [])))<|
 .nil) [0,3])
 (.seq
 (.seq
 (.reg (oq 4 (.mv (.k (.int .i64 0)))<|
 .nil) [0,3,4])
 (.blk 0
 (.loop ⟨[(0,.same),(3,(.own 1)),(4,.v)],[]⟩ [(.ext 0,⟨[(3,(.own 1))],[]⟩)]
 (.seq
 (.seq
 (.reg (oq 7 (.mv (.s 4))<|
 oq 8 (.mv (.s 0))<|
 oq 9 (.lns (.s 8))<|
 oq 10 (.bin .lss (.s 7) (.s 9))<|
 .nil) [0,3,4,10])
 (.cond (.s 10)
 .skip
 (.exit 0)))
 (.blk 1
 (.seq
 (.reg (oq 12 (.mv (.s 0))<|
 oq 13 (.mv (.s 4))<|
 oq 14 (.call f_ref04_Rune [.s 12,.s 13])<|
 oq 11 (.mv (.s 14))<|
 oq 15 (.ext (.s 11) 0)<|
 oq 16 (.ext (.s 11) 1)<|
 oq 5 (.mv (.s 15))<|
 oq 6 (.mv (.s 16))<|
 .nil) [0,3,4,5,6])
 (.seq
 (.reg (oq 17 (.mv (.s 3))<|
 oq 18 (.mv (.s 5))<|
 oq 19 (.lit 1 [.int .i32 0] [(0,1,(.s 18))])<|
 oq 20 (.app 1 4 (.s 17) (.s 19))<|
 oq 3 (.mv (.s 20))<|
 .nil) [0,3,4,6])
 (.reg (oq 21 (.mv (.s 4))<|
 oq 22 (.mv (.s 6))<|
 oq 23 (.bin .add (.s 21) (.s 22))<|
 oq 4 (.mv (.s 23))<|
 .nil) [0,3,4]))))))))
 (.seq
 (.reg (oq 24 (.mv (.s 3))<|
 oq 2 (.mv (.s 24))<|
 .nil) [2])
 .ret))))
def p_ref04_Runes:PFn:=⟨[.tmp 2],q_ref04_Runes⟩
def n_ref04_Runes:Fn:=⟨1,[.tmp 2],false,false,erase q_ref04_Runes⟩
def q_nat_Norm:PC:=
 (.seq
 (.reg (oq 2 (.mv (.k (.sl .full 0 [])))<|
 .nil) [0])
 (.seq
 (.reg (oq 5 (.mv (.s 0))<|
 oq 6 (.len (.s 5))<|
 oq 3 (.mv (.s 6))<|
 .nil) [0,3])
 (.seq
 (.blk 0
 (.loop ⟨[(0,.same),(3,.v)],[]⟩ [(.ext 0,⟨[(0,.same),(3,.v)],[]⟩)]
 (.seq
 (.seq
 (.reg (oq 7 (.mv (.s 3))<|
 oq 8 (.bin .gtr (.s 7) (.k (.int .i64 0)))<|
 oq 9 (.mv (.s 8))<|
 .grp 9 true (oq 10 (.mv (.s 0))<|
 oq 11 (.mv (.s 3))<|
 oq 12 (.bin .sub (.s 11) (.k (.int .i64 1)))<|
 oq 13 (.iad 1 (.s 10) (.s 12))<|
 oq 14 (.load false 1 (.s 13))<|
 oq 15 (.bin .eql (.s 14) (.k (.int .u32 0)))<|
 .nil) 16 (.s 15) (.k (.bool false))<|
 .nil) [0,3,16])
 (.cond (.s 16)
 .skip
 (.exit 0)))
 (.blk 1
 (.reg (oq 17 (.mv (.s 3))<|
 oq 18 (.bin .sub (.s 17) (.k (.int .i64 1)))<|
 oq 3 (.mv (.s 18))<|
 .nil) [0,3])))))
 (.seq
 (.seq
 (.reg (oq 19 (.mv (.s 3))<|
 oq 20 (.bin .eql (.s 19) (.k (.int .i64 0)))<|
 .nil) [0,3,20])
 (.cond (.s 20)
 (.seq
 (.reg (oq 2 (.mv (.k (.sl .full 0 [])))<|
 .nil) [2])
 .ret)
 .skip))
 (.seq
 (.reg (oq 21 (.mv (.s 3))<|
 oq 22 (.mks [.int .u32 0] 4 (.s 21) (.s 21))<|
 oq 4 (.mv (.s 22))<|
 .nil) [0,4])
 (.seq
 (.reg (oq 23 (.mv (.s 4))<|
 oq 24 (.mv (.s 0))<|
 oq 25 (.cpy 1 (.s 23) (.s 24))<|
 .nil) [4])
 (.seq
 (.reg (oq 26 (.mv (.s 4))<|
 oq 2 (.mv (.s 26))<|
 .nil) [2])
 .ret)))))))
def p_nat_Norm:PFn:=⟨[.tmp 2],q_nat_Norm⟩
def n_nat_Norm:Fn:=⟨1,[.tmp 2],false,false,erase q_nat_Norm⟩
def q_nat_small:PC:=
 (.seq
 (.reg (oq 4 (.mv (.k (.sl .full 0 [])))<|
 oq 5 (.mv (.k (.int .u32 0)))<|
 .nil) [0,1])
 (.seq
 (.reg (oq 9 (.mv (.s 0))<|
 oq 10 (.len (.s 9))<|
 oq 11 (.mks [.int .u32 0] 4 (.s 10) (.s 10))<|
 oq 6 (.mv (.s 11))<|
 .nil) [0,1,6])
 (.seq
 (.reg (oq 7 (.mv (.k (.int .u64 0)))<|
 .nil) [0,1,6,7])
 (.seq
 (.seq
 (.reg (oq 12 (.mv (.s 0))<|
 oq 13 (.len (.s 12))<|
 oq 14 (.bin .sub (.s 13) (.k (.int .i64 1)))<|
 oq 8 (.mv (.s 14))<|
 .nil) [0,1,6,7,8])
 (.blk 0
 (.loop ⟨[(0,.same),(1,.same),(6,.same),(7,.v),(8,.v)],[(.arr .no 1)]⟩ [(.ext 0,⟨[(6,.same),(7,.v)],[(.arr .no 1)]⟩)]
 (.seq
 (.seq
 (.reg (oq 15 (.mv (.s 8))<|
 oq 16 (.bin .geq (.s 15) (.k (.int .i64 0)))<|
 .nil) [0,1,6,7,8,16])
 (.cond (.s 16)
 .skip
 (.exit 0)))
 (.seq
 (.blk 1
 (.seq
 (.reg (oq 19 (.mv (.s 7))<|
 oq 20 (.bin .shl (.s 19) (.k (.int .u64 32)))<|
 oq 21 (.mv (.s 0))<|
 oq 22 (.mv (.s 8))<|
 oq 23 (.iad 1 (.s 21) (.s 22))<|
 oq 24 (.load false 1 (.s 23))<|
 oq 25 (.cvi .u64 (.s 24))<|
 oq 26 (.bin .or (.s 20) (.s 25))<|
 oq 7 (.mv (.s 26))<|
 .nil) [0,1,6,7,8])
 (.seq
 (.reg (oq 27 (.mv (.s 6))<|
 oq 28 (.mv (.s 8))<|
 oq 29 (.mv (.s 7))<|
 oq 30 (.mv (.s 1))<|
 oq 31 (.cvi .u64 (.s 30))<|
 oq 32 (.bin .quo (.s 29) (.s 31))<|
 oq 33 (.cvi .u32 (.s 32))<|
 oq 34 (.iad 1 (.s 27) (.s 28))<|
 oz (.store 1 (.s 34) (.s 33))<|
 .nil) [0,1,6,7,8])
 (.reg (oq 35 (.mv (.s 7))<|
 oq 36 (.mv (.s 1))<|
 oq 37 (.cvi .u64 (.s 36))<|
 oq 38 (.bin .rem (.s 35) (.s 37))<|
 oq 7 (.mv (.s 38))<|
 .nil) [0,1,6,7,8]))))
 (.reg (oq 17 (.mv (.s 8))<|
 oq 18 (.bin .sub (.s 17) (.k (.int .i64 1)))<|
 oq 8 (.mv (.s 18))<|
 .nil) [0,1,6,7,8]))))))
 (.seq
 (.reg (oq 39 (.mv (.s 6))<|
 oq 40 (.call f_nat_Norm [.s 39])<|
 oq 41 (.mv (.s 7))<|
 oq 42 (.cvi .u32 (.s 41))<|
 oq 4 (.mv (.s 40))<|
 oq 5 (.mv (.s 42))<|
 .nil) [4,5])
 .ret)))))
def p_nat_small:PFn:=⟨[.tmp 4,.tmp 5],q_nat_small⟩
def n_nat_small:Fn:=⟨2,[.tmp 4,.tmp 5],false,false,erase q_nat_small⟩
def q_u8_DecodeRuneInString:PC:=
 (.seq
 (.reg (oq 2 (.mv (.k (.int .i32 0)))<|
 oq 3 (.mv (.k (.int .i64 0)))<|
 .nil) [0])
 (.seq
 (.seq
 (.reg (oq 4 (.mv (.s 0))<|
 oq 5 (.bin .neq (.s 4) (.k (.str [])))<|
 oq 6 (.mv (.s 5))<|
 .grp 6 true (oq 7 (.mv (.s 0))<|
 oq 8 (.ixs (.s 7) (.k (.int .i64 0)))<|
 oq 9 (.bin .lss (.s 8) (.k (.int .u8 128)))<|
 .nil) 10 (.s 9) (.k (.bool false))<|
 .nil) [0,10])
 (.cond (.s 10)
 (.seq
 (.reg (oq 11 (.mv (.s 0))<|
 oq 12 (.ixs (.s 11) (.k (.int .i64 0)))<|
 oq 13 (.cvi .i32 (.s 12))<|
 oq 2 (.mv (.s 13))<|
 oq 3 (.mv (.k (.int .i64 1)))<|
 .nil) [2,3])
 .ret)
 (.reg (oq 15 (.mv (.s 0))<|
 oq 16 (.call f_u8_decodeRuneInStringSlow [.s 15])<|
 oq 14 (.mv (.s 16))<|
 oq 17 (.ext (.s 14) 0)<|
 oq 18 (.ext (.s 14) 1)<|
 oq 2 (.mv (.s 17))<|
 oq 3 (.mv (.s 18))<|
 .nil) [2,3])))
 .ret))
def p_u8_DecodeRuneInString:PFn:=⟨[.tmp 2,.tmp 3],q_u8_DecodeRuneInString⟩
def n_u8_DecodeRuneInString:Fn:=⟨1,[.tmp 2,.tmp 3],false,false,erase q_u8_DecodeRuneInString⟩
def q_ref01_Norm:PC:=
 (.seq
 (.reg (oq 2 (.mv (.k (.sl .full 0 [])))<|
 .nil) [0])
 (.seq
 (.reg (oq 4 (.mv (.s 0))<|
 oq 5 (.len (.s 4))<|
 oq 3 (.mv (.s 5))<|
 .nil) [0,3])
 (.seq
 (.blk 0
 (.loop ⟨[(0,.same),(3,.v)],[]⟩ [(.ext 0,⟨[(0,.same),(3,.v)],[]⟩)]
 (.seq
 (.seq
 (.reg (oq 6 (.mv (.s 3))<|
 oq 7 (.bin .gtr (.s 6) (.k (.int .i64 0)))<|
 oq 8 (.mv (.s 7))<|
 .grp 8 true (oq 9 (.mv (.s 0))<|
 oq 10 (.mv (.s 3))<|
 oq 11 (.bin .sub (.s 10) (.k (.int .i64 1)))<|
 oq 12 (.iad 1 (.s 9) (.s 11))<|
 oq 13 (.load false 1 (.s 12))<|
 oq 14 (.bin .eql (.s 13) (.k (.int .u32 0)))<|
 .nil) 15 (.s 14) (.k (.bool false))<|
 .nil) [0,3,15])
 (.cond (.s 15)
 .skip
 (.exit 0)))
 (.blk 1
 (.reg (oq 16 (.mv (.s 3))<|
 oq 17 (.bin .sub (.s 16) (.k (.int .i64 1)))<|
 oq 3 (.mv (.s 17))<|
 .nil) [0,3])))))
 (.seq
 (.reg (oq 18 (.mv (.s 0))<|
 oq 19 (.mv (.s 3))<|
 oq 20 (.slc 1 (.s 18) none (some (.s 19)) none)<|
 oq 21 (.app 1 4 (.k (.sl .full 0 [])) (.s 20))<|
 oq 2 (.mv (.s 21))<|
 .nil) [2])
 .ret))))
def p_ref01_Norm:PFn:=⟨[.tmp 2],q_ref01_Norm⟩
def n_ref01_Norm:Fn:=⟨1,[.tmp 2],false,false,erase q_ref01_Norm⟩
def q_ref04_Rune:PC:=
 (.seq
 (.reg (oq 4 (.mv (.k (.int .i32 0)))<|
 oq 5 (.mv (.k (.int .i64 0)))<|
 .nil) [0,1])
 (.seq
 (.seq
 (.reg (oq 9 (.mv (.s 1))<|
 oq 10 (.bin .lss (.s 9) (.k (.int .i64 0)))<|
 oq 11 (.mv (.s 10))<|
 .grp 11 false (oq 12 (.mv (.s 1))<|
 oq 13 (.mv (.s 0))<|
 oq 14 (.lns (.s 13))<|
 oq 15 (.bin .geq (.s 12) (.s 14))<|
 .nil) 16 (.s 15) (.k (.bool true))<|
 .nil) [0,1,16])
 (.cond (.s 16)
 (.seq
 (.reg (oq 4 (.mv (.k (.int .i32 (-1))))<|
 oq 5 (.mv (.k (.int .i64 0)))<|
 .nil) [4,5])
 .ret)
 .skip))
 (.seq
 (.reg (oq 17 (.mv (.s 0))<|
 oq 18 (.mv (.s 1))<|
 oq 19 (.ixs (.s 17) (.s 18))<|
 oq 20 (.cvi .i32 (.s 19))<|
 oq 6 (.mv (.s 20))<|
 .nil) [0,1,6])
 (.seq
 (.blk 0
 (.seq
 (.reg (oq 22 (.mv (.s 6))<|
 oq 23 (.bin .lss (.s 22) (.k (.int .i32 128)))<|
 oq 21 (.mv (.s 23))<|
 .nil) [0,1,6,21])
 (.cond (.s 21)
 (.seq
 (.reg (oq 24 (.mv (.s 6))<|
 oq 4 (.mv (.s 24))<|
 oq 5 (.mv (.k (.int .i64 1)))<|
 .nil) [4,5])
 .ret)
 (.seq
 (.reg (oq 26 (.mv (.s 6))<|
 oq 27 (.bin .geq (.s 26) (.k (.int .i32 194)))<|
 oq 28 (.mv (.s 27))<|
 .grp 28 true (oq 29 (.mv (.s 6))<|
 oq 30 (.bin .lss (.s 29) (.k (.int .i32 224)))<|
 .nil) 31 (.s 30) (.k (.bool false))<|
 oq 32 (.mv (.s 31))<|
 .grp 32 true (oq 33 (.mv (.s 0))<|
 oq 34 (.mv (.s 1))<|
 oq 35 (.bin .add (.s 34) (.k (.int .i64 1)))<|
 oq 36 (.call f_ref04_cont [.s 33,.s 35])<|
 .nil) 37 (.s 36) (.k (.bool false))<|
 oq 25 (.mv (.s 37))<|
 .nil) [0,1,6,25])
 (.cond (.s 25)
 (.seq
 (.reg (oq 38 (.mv (.s 6))<|
 oq 39 (.bin .and (.s 38) (.k (.int .i32 31)))<|
 oq 40 (.bin .shl (.s 39) (.k (.int .u64 6)))<|
 oq 41 (.mv (.s 0))<|
 oq 42 (.mv (.s 1))<|
 oq 43 (.bin .add (.s 42) (.k (.int .i64 1)))<|
 oq 44 (.ixs (.s 41) (.s 43))<|
 oq 45 (.bin .and (.s 44) (.k (.int .u8 63)))<|
 oq 46 (.cvi .i32 (.s 45))<|
 oq 47 (.bin .or (.s 40) (.s 46))<|
 oq 4 (.mv (.s 47))<|
 oq 5 (.mv (.k (.int .i64 2)))<|
 .nil) [4,5])
 .ret)
 (.seq
 (.reg (oq 49 (.mv (.s 6))<|
 oq 50 (.bin .geq (.s 49) (.k (.int .i32 224)))<|
 oq 51 (.mv (.s 50))<|
 .grp 51 true (oq 52 (.mv (.s 6))<|
 oq 53 (.bin .lss (.s 52) (.k (.int .i32 240)))<|
 .nil) 54 (.s 53) (.k (.bool false))<|
 oq 55 (.mv (.s 54))<|
 .grp 55 true (oq 56 (.mv (.s 0))<|
 oq 57 (.mv (.s 1))<|
 oq 58 (.bin .add (.s 57) (.k (.int .i64 1)))<|
 oq 59 (.call f_ref04_cont [.s 56,.s 58])<|
 .nil) 60 (.s 59) (.k (.bool false))<|
 oq 61 (.mv (.s 60))<|
 .grp 61 true (oq 62 (.mv (.s 0))<|
 oq 63 (.mv (.s 1))<|
 oq 64 (.bin .add (.s 63) (.k (.int .i64 2)))<|
 oq 65 (.call f_ref04_cont [.s 62,.s 64])<|
 .nil) 66 (.s 65) (.k (.bool false))<|
 oq 48 (.mv (.s 66))<|
 .nil) [0,1,6,48])
 (.cond (.s 48)
 (.seq
 (.drw (.nil)
 (oq 67 (.mv (.s 6))<|
 oq 68 (.bin .and (.s 67) (.k (.int .i32 15)))<|
 oq 69 (.bin .shl (.s 68) (.k (.int .u64 12)))<|
 oq 70 (.mv (.s 0))<|
 oq 71 (.mv (.s 1))<|
 oq 72 (.bin .add (.s 71) (.k (.int .i64 1)))<|
 oq 73 (.ixs (.s 70) (.s 72))<|
 oq 74 (.bin .and (.s 73) (.k (.int .u8 63)))<|
 oq 75 (.cvi .i32 (.s 74))<|
 oq 76 (.bin .shl (.s 75) (.k (.int .u64 6)))<|
 oq 77 (.bin .or (.s 69) (.s 76))<|
 oq 78 (.mv (.s 0))<|
 oq 79 (.mv (.s 1))<|
 oq 80 (.bin .add (.s 79) (.k (.int .i64 2)))<|
 oq 81 (.ixs (.s 78) (.s 80))<|
 oq 82 (.bin .and (.s 81) (.k (.int .u8 63)))<|
 oq 83 (.cvi .i32 (.s 82))<|
 .nil)
 (oq 84 (.bin .or (.s 77) (.s 83))<|
 oq 7 (.mv (.s 84))<|
 .nil) [7])
 (.seq
 (.reg (oq 85 (.mv (.s 7))<|
 oq 86 (.bin .geq (.s 85) (.k (.int .i32 2048)))<|
 oq 87 (.mv (.s 86))<|
 .grp 87 true (oq 88 (.mv (.s 7))<|
 oq 89 (.bin .lss (.s 88) (.k (.int .i32 55296)))<|
 oq 90 (.mv (.s 89))<|
 .grp 90 false (oq 91 (.mv (.s 7))<|
 oq 92 (.bin .gtr (.s 91) (.k (.int .i32 57343)))<|
 .nil) 93 (.s 92) (.k (.bool true))<|
 .nil) 94 (.s 93) (.k (.bool false))<|
 .nil) [7,94])
 (.cond (.s 94)
 (.seq
 (.reg (oq 95 (.mv (.s 7))<|
 oq 4 (.mv (.s 95))<|
 oq 5 (.mv (.k (.int .i64 3)))<|
 .nil) [4,5])
 .ret)
 .skip)))
 (.seq
 (.reg (oq 97 (.mv (.s 6))<|
 oq 98 (.bin .geq (.s 97) (.k (.int .i32 240)))<|
 oq 99 (.mv (.s 98))<|
 .grp 99 true (oq 100 (.mv (.s 6))<|
 oq 101 (.bin .lss (.s 100) (.k (.int .i32 245)))<|
 .nil) 102 (.s 101) (.k (.bool false))<|
 oq 103 (.mv (.s 102))<|
 .grp 103 true (oq 104 (.mv (.s 0))<|
 oq 105 (.mv (.s 1))<|
 oq 106 (.bin .add (.s 105) (.k (.int .i64 1)))<|
 oq 107 (.call f_ref04_cont [.s 104,.s 106])<|
 .nil) 108 (.s 107) (.k (.bool false))<|
 oq 109 (.mv (.s 108))<|
 .grp 109 true (oq 110 (.mv (.s 0))<|
 oq 111 (.mv (.s 1))<|
 oq 112 (.bin .add (.s 111) (.k (.int .i64 2)))<|
 oq 113 (.call f_ref04_cont [.s 110,.s 112])<|
 .nil) 114 (.s 113) (.k (.bool false))<|
 oq 115 (.mv (.s 114))<|
 .grp 115 true (oq 116 (.mv (.s 0))<|
 oq 117 (.mv (.s 1))<|
 oq 118 (.bin .add (.s 117) (.k (.int .i64 3)))<|
 oq 119 (.call f_ref04_cont [.s 116,.s 118])<|
 .nil) 120 (.s 119) (.k (.bool false))<|
 oq 96 (.mv (.s 120))<|
 .nil) [0,1,6,96])
 (.cond (.s 96)
 (.seq
 (.drw (.nil)
 (oq 121 (.mv (.s 6))<|
 oq 122 (.bin .and (.s 121) (.k (.int .i32 7)))<|
 oq 123 (.bin .shl (.s 122) (.k (.int .u64 18)))<|
 oq 124 (.mv (.s 0))<|
 oq 125 (.mv (.s 1))<|
 oq 126 (.bin .add (.s 125) (.k (.int .i64 1)))<|
 oq 127 (.ixs (.s 124) (.s 126))<|
 oq 128 (.bin .and (.s 127) (.k (.int .u8 63)))<|
 oq 129 (.cvi .i32 (.s 128))<|
 oq 130 (.bin .shl (.s 129) (.k (.int .u64 12)))<|
 oq 131 (.bin .or (.s 123) (.s 130))<|
 oq 132 (.mv (.s 0))<|
 oq 133 (.mv (.s 1))<|
 oq 134 (.bin .add (.s 133) (.k (.int .i64 2)))<|
 oq 135 (.ixs (.s 132) (.s 134))<|
 oq 136 (.bin .and (.s 135) (.k (.int .u8 63)))<|
 oq 137 (.cvi .i32 (.s 136))<|
 oq 138 (.bin .shl (.s 137) (.k (.int .u64 6)))<|
 oq 139 (.bin .or (.s 131) (.s 138))<|
 oq 140 (.mv (.s 0))<|
 oq 141 (.mv (.s 1))<|
 oq 142 (.bin .add (.s 141) (.k (.int .i64 3)))<|
 oq 143 (.ixs (.s 140) (.s 142))<|
 oq 144 (.bin .and (.s 143) (.k (.int .u8 63)))<|
 oq 145 (.cvi .i32 (.s 144))<|
 .nil)
 (oq 146 (.bin .or (.s 139) (.s 145))<|
 oq 8 (.mv (.s 146))<|
 .nil) [8])
 (.seq
 (.reg (oq 147 (.mv (.s 8))<|
 oq 148 (.bin .geq (.s 147) (.k (.int .i32 65536)))<|
 oq 149 (.mv (.s 148))<|
 .grp 149 true (oq 150 (.mv (.s 8))<|
 oq 151 (.bin .leq (.s 150) (.k (.int .i32 1114111)))<|
 .nil) 152 (.s 151) (.k (.bool false))<|
 .nil) [8,152])
 (.cond (.s 152)
 (.seq
 (.reg (oq 153 (.mv (.s 8))<|
 oq 4 (.mv (.s 153))<|
 oq 5 (.mv (.k (.int .i64 4)))<|
 .nil) [4,5])
 .ret)
 .skip)))
 .skip)))))))))
 (.seq
 (.reg (oq 4 (.mv (.k (.int .i32 (-1))))<|
 oq 5 (.mv (.k (.int .i64 1)))<|
 .nil) [4,5])
 .ret)))))
def p_ref04_Rune:PFn:=⟨[.tmp 4,.tmp 5],q_ref04_Rune⟩
def n_ref04_Rune:Fn:=⟨2,[.tmp 4,.tmp 5],false,false,erase q_ref04_Rune⟩
def q_u8_decodeRuneInStringSlow:PC:=
 (.seq
 (.reg (oq 2 (.mv (.k (.int .i32 0)))<|
 oq 3 (.mv (.k (.int .i64 0)))<|
 .nil) [0])
 (.seq
 (.reg (oq 13 (.mv (.s 0))<|
 oq 14 (.lns (.s 13))<|
 oq 4 (.mv (.s 14))<|
 .nil) [0,4])
 (.seq
 (.seq
 (.reg (oq 15 (.mv (.s 4))<|
 oq 16 (.bin .lss (.s 15) (.k (.int .i64 1)))<|
 .nil) [0,4,16])
 (.cond (.s 16)
 (.seq
 (.reg (oq 2 (.mv (.k (.int .i32 65533)))<|
 oq 3 (.mv (.k (.int .i64 0)))<|
 .nil) [2,3])
 .ret)
 .skip))
 (.seq
 (.reg (oq 17 (.mv (.s 0))<|
 oq 18 (.ixs (.s 17) (.k (.int .i64 0)))<|
 oq 5 (.mv (.s 18))<|
 .nil) [0,4,5])
 (.seq
 (.reg (oq 19 (.mv (.s 5))<|
 oq 20 (.iaa 256 1 (.g 0) (.s 19))<|
 oq 21 (.load false 1 (.s 20))<|
 oq 6 (.mv (.s 21))<|
 .nil) [0,4,5,6])
 (.seq
 (.seq
 (.reg (oq 22 (.mv (.s 6))<|
 oq 23 (.bin .geq (.s 22) (.k (.int .u8 240)))<|
 .nil) [0,4,5,6,23])
 (.cond (.s 23)
 (.seq
 (.reg (oq 24 (.mv (.s 6))<|
 oq 25 (.cvi .i32 (.s 24))<|
 oq 26 (.bin .shl (.s 25) (.k (.int .u64 31)))<|
 oq 27 (.bin .shr (.s 26) (.k (.int .u64 31)))<|
 oq 7 (.mv (.s 27))<|
 .nil) [0,7])
 (.seq
 (.reg (oq 28 (.mv (.s 0))<|
 oq 29 (.ixs (.s 28) (.k (.int .i64 0)))<|
 oq 30 (.cvi .i32 (.s 29))<|
 oq 31 (.mv (.s 7))<|
 oq 32 (.bin .andNot (.s 30) (.s 31))<|
 oq 33 (.mv (.s 7))<|
 oq 34 (.bin .and (.k (.int .i32 65533)) (.s 33))<|
 oq 35 (.bin .or (.s 32) (.s 34))<|
 oq 2 (.mv (.s 35))<|
 oq 3 (.mv (.k (.int .i64 1)))<|
 .nil) [2,3])
 .ret))
 .skip))
 (.seq
 (.reg (oq 36 (.mv (.s 6))<|
 oq 37 (.bin .and (.s 36) (.k (.int .u8 7)))<|
 oq 38 (.cvi .i64 (.s 37))<|
 oq 8 (.mv (.s 38))<|
 .nil) [0,4,5,6,8])
 (.seq
 (.reg (oq 39 (.mv (.s 6))<|
 oq 40 (.bin .shr (.s 39) (.k (.int .u64 4)))<|
 oq 41 (.iaa 16 2 (.g 1) (.s 40))<|
 oq 42 (.load true 2 (.s 41))<|
 oq 9 (.alloc [.int .u8 0,.int .u8 0])<|
 oz (.store 2 (.s 9) (.s 42))<|
 .nil) [0,4,5,8,9])
 (.seq
 (.seq
 (.reg (oq 43 (.mv (.s 4))<|
 oq 44 (.mv (.s 8))<|
 oq 45 (.bin .lss (.s 43) (.s 44))<|
 .nil) [0,5,8,9,45])
 (.cond (.s 45)
 (.seq
 (.reg (oq 2 (.mv (.k (.int .i32 65533)))<|
 oq 3 (.mv (.k (.int .i64 1)))<|
 .nil) [2,3])
 .ret)
 .skip))
 (.seq
 (.reg (oq 46 (.mv (.s 0))<|
 oq 47 (.ixs (.s 46) (.k (.int .i64 1)))<|
 oq 10 (.mv (.s 47))<|
 .nil) [0,5,8,9,10])
 (.seq
 (.seq
 (.reg (oq 48 (.mv (.s 10))<|
 oq 49 (.fad 0 (.s 9))<|
 oq 50 (.load false 1 (.s 49))<|
 oq 51 (.bin .lss (.s 48) (.s 50))<|
 oq 52 (.mv (.s 51))<|
 .grp 52 false (oq 53 (.fad 1 (.s 9))<|
 oq 54 (.load false 1 (.s 53))<|
 oq 55 (.mv (.s 10))<|
 oq 56 (.bin .lss (.s 54) (.s 55))<|
 .nil) 57 (.s 56) (.k (.bool true))<|
 .nil) [0,5,8,10,57])
 (.cond (.s 57)
 (.seq
 (.reg (oq 2 (.mv (.k (.int .i32 65533)))<|
 oq 3 (.mv (.k (.int .i64 1)))<|
 .nil) [2,3])
 .ret)
 .skip))
 (.seq
 (.seq
 (.reg (oq 58 (.mv (.s 8))<|
 oq 59 (.bin .leq (.s 58) (.k (.int .i64 2)))<|
 .nil) [0,5,8,10,59])
 (.cond (.s 59)
 (.seq
 (.reg (oq 60 (.mv (.s 5))<|
 oq 61 (.bin .and (.s 60) (.k (.int .u8 31)))<|
 oq 62 (.cvi .i32 (.s 61))<|
 oq 63 (.bin .shl (.s 62) (.k (.int .u64 6)))<|
 oq 64 (.mv (.s 10))<|
 oq 65 (.bin .and (.s 64) (.k (.int .u8 63)))<|
 oq 66 (.cvi .i32 (.s 65))<|
 oq 67 (.bin .or (.s 63) (.s 66))<|
 oq 2 (.mv (.s 67))<|
 oq 3 (.mv (.k (.int .i64 2)))<|
 .nil) [2,3])
 .ret)
 .skip))
 (.seq
 (.reg (oq 68 (.mv (.s 0))<|
 oq 69 (.ixs (.s 68) (.k (.int .i64 2)))<|
 oq 11 (.mv (.s 69))<|
 .nil) [0,5,8,10,11])
 (.seq
 (.seq
 (.reg (oq 70 (.mv (.s 11))<|
 oq 71 (.bin .lss (.s 70) (.k (.int .u8 128)))<|
 oq 72 (.mv (.s 71))<|
 .grp 72 false (oq 73 (.mv (.s 11))<|
 oq 74 (.bin .lss (.k (.int .u8 191)) (.s 73))<|
 .nil) 75 (.s 74) (.k (.bool true))<|
 .nil) [0,5,8,10,11,75])
 (.cond (.s 75)
 (.seq
 (.reg (oq 2 (.mv (.k (.int .i32 65533)))<|
 oq 3 (.mv (.k (.int .i64 1)))<|
 .nil) [2,3])
 .ret)
 .skip))
 (.seq
 (.seq
 (.reg (oq 76 (.mv (.s 8))<|
 oq 77 (.bin .leq (.s 76) (.k (.int .i64 3)))<|
 .nil) [0,5,10,11,77])
 (.cond (.s 77)
 (.seq
 (.reg (oq 78 (.mv (.s 5))<|
 oq 79 (.bin .and (.s 78) (.k (.int .u8 15)))<|
 oq 80 (.cvi .i32 (.s 79))<|
 oq 81 (.bin .shl (.s 80) (.k (.int .u64 12)))<|
 oq 82 (.mv (.s 10))<|
 oq 83 (.bin .and (.s 82) (.k (.int .u8 63)))<|
 oq 84 (.cvi .i32 (.s 83))<|
 oq 85 (.bin .shl (.s 84) (.k (.int .u64 6)))<|
 oq 86 (.bin .or (.s 81) (.s 85))<|
 oq 87 (.mv (.s 11))<|
 oq 88 (.bin .and (.s 87) (.k (.int .u8 63)))<|
 oq 89 (.cvi .i32 (.s 88))<|
 oq 90 (.bin .or (.s 86) (.s 89))<|
 oq 2 (.mv (.s 90))<|
 oq 3 (.mv (.k (.int .i64 3)))<|
 .nil) [2,3])
 .ret)
 .skip))
 (.seq
 (.reg (oq 91 (.mv (.s 0))<|
 oq 92 (.ixs (.s 91) (.k (.int .i64 3)))<|
 oq 12 (.mv (.s 92))<|
 .nil) [5,10,11,12])
 (.seq
 (.seq
 (.reg (oq 93 (.mv (.s 12))<|
 oq 94 (.bin .lss (.s 93) (.k (.int .u8 128)))<|
 oq 95 (.mv (.s 94))<|
 .grp 95 false (oq 96 (.mv (.s 12))<|
 oq 97 (.bin .lss (.k (.int .u8 191)) (.s 96))<|
 .nil) 98 (.s 97) (.k (.bool true))<|
 .nil) [5,10,11,12,98])
 (.cond (.s 98)
 (.seq
 (.reg (oq 2 (.mv (.k (.int .i32 65533)))<|
 oq 3 (.mv (.k (.int .i64 1)))<|
 .nil) [2,3])
 .ret)
 .skip))
 (.seq
 (.reg (oq 99 (.mv (.s 5))<|
 oq 100 (.bin .and (.s 99) (.k (.int .u8 7)))<|
 oq 101 (.cvi .i32 (.s 100))<|
 oq 102 (.bin .shl (.s 101) (.k (.int .u64 18)))<|
 oq 103 (.mv (.s 10))<|
 oq 104 (.bin .and (.s 103) (.k (.int .u8 63)))<|
 oq 105 (.cvi .i32 (.s 104))<|
 oq 106 (.bin .shl (.s 105) (.k (.int .u64 12)))<|
 oq 107 (.bin .or (.s 102) (.s 106))<|
 oq 108 (.mv (.s 11))<|
 oq 109 (.bin .and (.s 108) (.k (.int .u8 63)))<|
 oq 110 (.cvi .i32 (.s 109))<|
 oq 111 (.bin .shl (.s 110) (.k (.int .u64 6)))<|
 oq 112 (.bin .or (.s 107) (.s 111))<|
 oq 113 (.mv (.s 12))<|
 oq 114 (.bin .and (.s 113) (.k (.int .u8 63)))<|
 oq 115 (.cvi .i32 (.s 114))<|
 oq 116 (.bin .or (.s 112) (.s 115))<|
 oq 2 (.mv (.s 116))<|
 oq 3 (.mv (.k (.int .i64 4)))<|
 .nil) [2,3])
 .ret))))))))))))))))))
def p_u8_decodeRuneInStringSlow:PFn:=⟨[.tmp 2,.tmp 3],q_u8_decodeRuneInStringSlow⟩
def n_u8_decodeRuneInStringSlow:Fn:=⟨1,[.tmp 2,.tmp 3],false,false,erase q_u8_decodeRuneInStringSlow⟩
def q_ref04_cont:PC:=
 (.seq
 (.reg (oq 4 (.mv (.k (.bool false)))<|
 .nil) [0,1])
 (.seq
 (.reg (oq 5 (.mv (.s 1))<|
 oq 6 (.mv (.s 0))<|
 oq 7 (.lns (.s 6))<|
 oq 8 (.bin .lss (.s 5) (.s 7))<|
 oq 9 (.mv (.s 8))<|
 .grp 9 true (oq 10 (.mv (.s 0))<|
 oq 11 (.mv (.s 1))<|
 oq 12 (.ixs (.s 10) (.s 11))<|
 oq 13 (.bin .and (.s 12) (.k (.int .u8 192)))<|
 oq 14 (.bin .eql (.s 13) (.k (.int .u8 128)))<|
 .nil) 15 (.s 14) (.k (.bool false))<|
 oq 4 (.mv (.s 15))<|
 .nil) [4])
 .ret))
def p_ref04_cont:PFn:=⟨[.tmp 4],q_ref04_cont⟩
def n_ref04_cont:Fn:=⟨2,[.tmp 4],false,false,erase q_ref04_cont⟩
def tab0:Nat→Option PFn:=fun f=>(match f with | 6=>some p_law16_MergeAll | 9=>some p_tree_Check | 10=>some p_tree_Depth | 11=>some p_tree_Weight | 14=>some p_law00_Tree | 16=>some p_tree_Nodes | 17=>some p_law00_Light | 18=>some p_law16_awake | 19=>some p_merge_Apply | 20=>some p_ref16_Apply | 21=>some p_law00_SameTree | 22=>some p_merge_Clean | 23=>some p_ref16_Clean | 24=>some p_ref05_Check | 25=>some p_ref05_Same | 26=>some p_merge_Merge | 27=>some p_ref16_Merge | 28=>some p_tree_Set | 29=>some p_tree_Member | 30=>some p_tree_Unset | 31=>some p_tree_check | 33=>some p_law00_Num | 34=>some p_law00_Strings | 38=>some p_law00_light | 39=>some p_merge_fits | 40=>some p_ref15_Fits | 41=>some p_law00_SameNum | 42=>some p_law00_SameStrings | 43=>some p_slices_ContainsFunc_aT | 44=>some p_merge_Clean_1 | 45=>some p_ref05_walk | 46=>some p_ref02_Same | 47=>some p_ref05_Unset | 48=>some p_ref05_Member | 49=>some p_ref05_Set | 50=>some p_tree_cut | 51=>some p_slices_Index_string | 52=>some p_slices_IndexFunc_string | 53=>some p_tree_Set_1 | 56=>some p_slices_Concat_string | 57=>some p_slices_Concat_aT | 58=>some p_tree_own | 61=>some p_law00_Limbs | 64=>some p_merge_few | 65=>some p_ref05_Weight | 66=>some p_ref05_Nodes | 67=>some p_ref05_Depth | 68=>some p_ref15_wide | 69=>some p_law00_SameLimbs | 70=>some p_slices_IndexFunc_aT | 71=>some p_ref05_fields | 72=>some p_ref02_Is | 73=>some p_ref01_Cmp | 80=>some p_num_Check | 81=>some p_tree_text | 82=>some p_tree_names | 85=>some p_merge_few_1 | 86=>some p_ref05_zero | 87=>some p_ref02_Check | 88=>some p_ref04_Valid | 89=>some p_ref05_names | 90=>some p_ref01_limb | 93=>some p_nat_Trim | 94=>some p_utf_Valid | 96=>some p_ref01_Small | 97=>some p_ref04_Runes | 100=>some p_nat_Norm | 101=>some p_nat_small | 102=>some p_u8_DecodeRuneInString | 103=>some p_ref01_Norm | 104=>some p_ref04_Rune | 105=>some p_u8_decodeRuneInStringSlow | 106=>some p_ref04_cont | _=>none)
def fnTab:List (Nat×Fn):=[(f_law16_MergeAll,n_law16_MergeAll),(f_tree_Check,n_tree_Check),(f_tree_Depth,n_tree_Depth),(f_tree_Weight,n_tree_Weight),(f_law00_Tree,n_law00_Tree),(f_tree_Nodes,n_tree_Nodes),(f_law00_Light,n_law00_Light),(f_law16_awake,n_law16_awake),(f_merge_Apply,n_merge_Apply),(f_ref16_Apply,n_ref16_Apply),(f_law00_SameTree,n_law00_SameTree),(f_merge_Clean,n_merge_Clean),(f_ref16_Clean,n_ref16_Clean),(f_ref05_Check,n_ref05_Check),(f_ref05_Same,n_ref05_Same),(f_merge_Merge,n_merge_Merge),(f_ref16_Merge,n_ref16_Merge),(f_tree_Set,n_tree_Set),(f_tree_Member,n_tree_Member),(f_tree_Unset,n_tree_Unset),(f_tree_check,n_tree_check),(f_law00_Num,n_law00_Num),(f_law00_Strings,n_law00_Strings),(f_law00_light,n_law00_light),(f_merge_fits,n_merge_fits),(f_ref15_Fits,n_ref15_Fits),(f_law00_SameNum,n_law00_SameNum),(f_law00_SameStrings,n_law00_SameStrings),(f_slices_ContainsFunc_aT,n_slices_ContainsFunc_aT),(f_merge_Clean_1,n_merge_Clean_1),(f_ref05_walk,n_ref05_walk),(f_ref02_Same,n_ref02_Same),(f_ref05_Unset,n_ref05_Unset),(f_ref05_Member,n_ref05_Member),(f_ref05_Set,n_ref05_Set),(f_tree_cut,n_tree_cut),(f_slices_Index_string,n_slices_Index_string),(f_slices_IndexFunc_string,n_slices_IndexFunc_string),(f_tree_Set_1,n_tree_Set_1),(f_slices_Concat_string,n_slices_Concat_string),(f_slices_Concat_aT,n_slices_Concat_aT),(f_tree_own,n_tree_own),(f_law00_Limbs,n_law00_Limbs),(f_merge_few,n_merge_few),(f_ref05_Weight,n_ref05_Weight),(f_ref05_Nodes,n_ref05_Nodes),(f_ref05_Depth,n_ref05_Depth),(f_ref15_wide,n_ref15_wide),(f_law00_SameLimbs,n_law00_SameLimbs),(f_slices_IndexFunc_aT,n_slices_IndexFunc_aT),(f_ref05_fields,n_ref05_fields),(f_ref02_Is,n_ref02_Is),(f_ref01_Cmp,n_ref01_Cmp),(f_num_Check,n_num_Check),(f_tree_text,n_tree_text),(f_tree_names,n_tree_names),(f_merge_few_1,n_merge_few_1),(f_ref05_zero,n_ref05_zero),(f_ref02_Check,n_ref02_Check),(f_ref04_Valid,n_ref04_Valid),(f_ref05_names,n_ref05_names),(f_ref01_limb,n_ref01_limb),(f_nat_Trim,n_nat_Trim),(f_utf_Valid,n_utf_Valid),(f_ref01_Small,n_ref01_Small),(f_ref04_Runes,n_ref04_Runes),(f_nat_Norm,n_nat_Norm),(f_nat_small,n_nat_small),(f_u8_DecodeRuneInString,n_u8_DecodeRuneInString),(f_ref01_Norm,n_ref01_Norm),(f_ref04_Rune,n_ref04_Rune),(f_u8_decodeRuneInStringSlow,n_u8_decodeRuneInStringSlow),(f_ref04_cont,n_ref04_cont)]
def ex0:Nat→Option (List D→List D→Option D):=fun f=>(match f with | 54=>some (exInsert 1 16) | 55=>some (exInsert 8 120) | 78=>some (exGrow 1 16) | 79=>some (exGrow 8 120) | _=>none)
def glT:Nat→Option (List V):=fun g=>match g with | 0=>some G_0 | 1=>some G_1 | _=>none
def E0:Env:=⟨look fnTab,fun g=>(glT g).map toDL,ex0⟩
def md0:Nat→Md:=fun f=>(match f with | 54 => .ful | 55 => .ful | 61 => .gv 1 | 78 => .gvf 1 | 79 => .gvf 8 | _ => .pl)
def tx0:Nat→Option (List V→Option V):=fun f=>(match f with | 54=>some (txInsert 1 16) | 55=>some (txInsert 8 120) | 78=>some (txGrow 16) | 79=>some (txGrow 120) | _=>none)
def gl0:Gl:=⟨glT,md0,tx0⟩
noncomputable def P0:PcT:=pcL gl0 tab0
end Go.Ev
