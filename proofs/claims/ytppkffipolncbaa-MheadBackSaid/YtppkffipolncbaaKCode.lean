/- The functions' code. -/
import Derived.Test.YtppkffipolncbaaKEvD
import Derived.Test.YtppkffipolncbaaKNums
set_option linter.all false
namespace Go.Ev
@[reducible] def oq (i : Nat) (o : O) (r : PO) : PO := .one ⟨some i, o, none⟩ r
@[reducible] def oz (o : O) (r : PO) : PO := .one ⟨none, o, none⟩ r
@[reducible] def zt8 : List D := [.int .i64 0, .bool false, .bool false, .sl .full 0 [], .int .i64 0, .str [], .sl .full 0 [], .sl .full 0 []]
def q_law11_MheadBack : PC :=
 (.seq
 (.reg (oq 6 (.mv (.k (.bool false))) <|
 .nil) [0, 1, 2])
 (.seq
 (.reg (oq 19 (.build [.int .i64 0, .int .i64 0, .int .i64 0, .int .i64 0, .int .i64 0, .int .i64 0, .int .i64 0, .int .i64 0, .int .i64 0, .int .i64 0, .int .i64 0] [(0, 1, (.k (.int .i64 1))), (1, 1, (.k (.int .i64 2))), (2, 1, (.k (.int .i64 3))), (3, 1, (.k (.int .i64 4))), (4, 1, (.k (.int .i64 5))), (5, 1, (.k (.int .i64 6))), (6, 1, (.k (.int .i64 7))), (7, 1, (.k (.int .i64 8))), (8, 1, (.k (.int .i64 9))), (9, 1, (.k (.int .i64 10))), (10, 1, (.k (.int .i64 12)))]) <|
 oq 20 (.mv (.s 0)) <|
 oq 21 (.call f_law00_Place [.s 20, (.k (.int .i64 11))]) <|
 oq 22 (.ixa false 11 1 (.s 19) (.s 21)) <|
 oq 7 (.mv (.s 22)) <|
 .nil) [1, 2, 7])
 (.seq
 (.reg (oq 23 (.mv (.s 2)) <|
 oq 24 (.call f_law00_Place [.s 23, (.k (.int .i64 65))]) <|
 oq 8 (.mv (.s 24)) <|
 .nil) [1, 7, 8])
 (.seq
 (.reg (oq 25 (.mv (.s 1)) <|
 oq 9 (.mv (.s 25)) <|
 .nil) [1, 7, 8, 9])
 (.seq
 (.cut ⟨[(1, .same), (7, .same), (8, .same), (9, .v)], []⟩ [(.nrm, ⟨[(1, .same), (7, .same), (9, .v)], []⟩)]
 (.seq
 (.reg (oq 26 (.mv (.s 8)) <|
 oq 27 (.bin .lss (.s 26) (.k (.int .i64 64))) <|
 .nil) [1, 7, 8, 9, 27])
 (.cond (.s 27)
 (.reg (oq 28 (.mv (.s 1)) <|
 oq 29 (.mv (.s 8)) <|
 oq 30 (.cvi .u64 (.s 29)) <|
 oq 31 (.bin .shl (.k (.int .u64 1)) (.s 30)) <|
 oq 32 (.bin .sub (.s 31) (.k (.int .u64 1))) <|
 oq 33 (.bin .and (.s 28) (.s 32)) <|
 oq 9 (.mv (.s 33)) <|
 .nil) [1, 7, 9])
 .skip)))
 (.seq
 (.cut ⟨[(1, .same), (7, .same), (9, .v)], []⟩ [(.nrm, ⟨[(1, .same), (7, .same), (9, .v)], []⟩)]
 (.seq
 (.reg (oq 34 (.mv (.s 7)) <|
 .nil) [1, 7, 9, 34])
 (.blk 0
 (.seq
 (.cut ⟨[(1, .same), (7, .same), (9, .same), (34, .same)], []⟩ [(.nrm, ⟨[(1, .same), (7, .same), (9, .same), (34, .same), (35, .v)], []⟩)]
 (.seq
 (.reg (oq 36 (.bin .eql (.s 34) (.k (.int .i64 1))) <|
 oq 35 (.mv (.s 36)) <|
 .nil) [1, 7, 9, 34, 35])
 (.cond (.s 35)
 .skip
 (.seq
 (.reg (oq 37 (.bin .eql (.s 34) (.k (.int .i64 2))) <|
 oq 35 (.mv (.s 37)) <|
 .nil) [1, 7, 9, 34, 35])
 (.cond (.s 35)
 .skip
 (.reg (oq 38 (.bin .eql (.s 34) (.k (.int .i64 3))) <|
 oq 35 (.mv (.s 38)) <|
 .nil) [1, 7, 9, 34, 35]))))))
 (.cond (.s 35)
 (.reg (oq 9 (.mv (.k (.int .u64 0))) <|
 .nil) [1, 7, 9])
 (.seq
 (.reg (oq 40 (.bin .eql (.s 34) (.k (.int .i64 5))) <|
 oq 39 (.mv (.s 40)) <|
 .nil) [1, 7, 9, 34, 39])
 (.cond (.s 39)
 (.reg (oq 41 (.mv (.s 9)) <|
 oq 42 (.bin .and (.s 41) (.k (.int .u64 9223372036854775807))) <|
 oq 43 (.un .xor (.s 42)) <|
 oq 9 (.mv (.s 43)) <|
 .nil) [1, 7, 9])
 (.seq
 (.cut ⟨[(1, .same), (7, .same), (9, .same), (34, .same)], []⟩ [(.nrm, ⟨[(1, .same), (7, .same), (9, .same), (44, .v)], []⟩)]
 (.seq
 (.reg (oq 45 (.bin .eql (.s 34) (.k (.int .i64 7))) <|
 oq 44 (.mv (.s 45)) <|
 .nil) [1, 7, 9, 34, 44])
 (.cond (.s 44)
 .skip
 (.seq
 (.reg (oq 46 (.bin .eql (.s 34) (.k (.int .i64 8))) <|
 oq 44 (.mv (.s 46)) <|
 .nil) [1, 7, 9, 34, 44])
 (.cond (.s 44)
 .skip
 (.seq
 (.reg (oq 47 (.bin .eql (.s 34) (.k (.int .i64 9))) <|
 oq 44 (.mv (.s 47)) <|
 .nil) [1, 7, 9, 34, 44])
 (.cond (.s 44)
 .skip
 (.seq
 (.reg (oq 48 (.bin .eql (.s 34) (.k (.int .i64 10))) <|
 oq 44 (.mv (.s 48)) <|
 .nil) [1, 7, 9, 34, 44])
 (.cond (.s 44)
 .skip
 (.reg (oq 49 (.bin .eql (.s 34) (.k (.int .i64 12))) <|
 oq 44 (.mv (.s 49)) <|
 .nil) [1, 7, 9, 44]))))))))))
 (.cond (.s 44)
 (.reg (oq 50 (.mv (.s 9)) <|
 oq 51 (.bin .and (.s 50) (.k (.int .u64 4294967295))) <|
 oq 9 (.mv (.s 51)) <|
 .nil) [1, 7, 9])
 .skip)))))))))
 (.seq
 (.reg (oq 52 (.lit 2 [.int .u8 0] [(0, 1, (.k (.int .u8 7))), (1, 1, (.k (.int .u8 7)))]) <|
 oq 53 (.mv (.s 7)) <|
 oq 54 (.mv (.s 9)) <|
 oq 55 (.call f_mhead_Put [.s 52, .s 53, .s 54]) <|
 oq 10 (.mv (.s 55)) <|
 .nil) [1, 7, 9, 10])
 (.seq
 (.seq
 (.reg (oq 56 (.mv (.s 10)) <|
 oq 57 (.len (.s 56)) <|
 oq 58 (.bin .lss (.s 57) (.k (.int .i64 3))) <|
 oq 59 (.mv (.s 58)) <|
 .grp 59 false (oq 60 (.mv (.s 10)) <|
 oq 61 (.len (.s 60)) <|
 oq 62 (.bin .gtr (.s 61) (.k (.int .i64 11))) <|
 .nil) 63 (.s 62) (.k (.bool true)) <|
 .nil) [1, 7, 9, 10, 63])
 (.cond (.s 63)
 (.seq
 (.reg (oq 6 (.mv (.k (.bool false))) <|
 .nil) [6])
 .ret)
 .skip))
 (.seq
 (.reg (oq 65 (.mv (.s 10)) <|
 oq 66 (.call f_mhead_Get [.s 65, (.k (.int .i64 2))]) <|
 oq 64 (.mv (.s 66)) <|
 oq 67 (.ext (.s 64) 0) <|
 oq 68 (.ext (.s 64) 1) <|
 oq 69 (.ext (.s 64) 2) <|
 oq 70 (.ext (.s 64) 3) <|
 oq 11 (.mv (.s 67)) <|
 oq 12 (.mv (.s 68)) <|
 oq 13 (.mv (.s 69)) <|
 oq 14 (.mv (.s 70)) <|
 .nil) [1, 7, 9, 10, 11, 12, 13, 14])
 (.seq
 (.reg (oq 72 (.mv (.s 10)) <|
 oq 73 (.mv (.s 10)) <|
 oq 74 (.len (.s 73)) <|
 oq 75 (.bin .sub (.s 74) (.k (.int .i64 1))) <|
 oq 76 (.slc 1 (.s 72) none (some (.s 75)) none) <|
 oq 77 (.call f_mhead_Get [.s 76, (.k (.int .i64 2))]) <|
 oq 71 (.mv (.s 77)) <|
 oq 78 (.ext (.s 71) 0) <|
 oq 79 (.ext (.s 71) 1) <|
 oq 80 (.ext (.s 71) 2) <|
 oq 81 (.ext (.s 71) 3) <|
 oq 15 (.mv (.s 78)) <|
 oq 16 (.mv (.s 79)) <|
 oq 17 (.mv (.s 80)) <|
 oq 18 (.mv (.s 81)) <|
 .nil) [1, 7, 9, 10, 11, 12, 13, 14, 18])
 (.seq
 (.reg (oq 82 (.mv (.s 11)) <|
 oq 83 (.mv (.s 7)) <|
 oq 84 (.bin .eql (.s 82) (.s 83)) <|
 oq 85 (.mv (.s 84)) <|
 .grp 85 true (oq 86 (.mv (.s 12)) <|
 oq 87 (.mv (.s 9)) <|
 oq 88 (.bin .eql (.s 86) (.s 87)) <|
 .nil) 89 (.s 88) (.k (.bool false)) <|
 oq 90 (.mv (.s 89)) <|
 .grp 90 true (oq 91 (.mv (.s 13)) <|
 oq 92 (.mv (.s 10)) <|
 oq 93 (.len (.s 92)) <|
 oq 94 (.bin .eql (.s 91) (.s 93)) <|
 .nil) 95 (.s 94) (.k (.bool false)) <|
 oq 96 (.mv (.s 95)) <|
 .grp 96 true (oq 97 (.mv (.s 14)) <|
 oq 98 (.bin .eql (.s 97) (.k (.int .i64 0))) <|
 .nil) 99 (.s 98) (.k (.bool false)) <|
 oq 100 (.mv (.s 99)) <|
 .grp 100 true (oq 101 (.mv (.s 18)) <|
 oq 102 (.bin .eql (.s 101) (.k (.int .i64 2))) <|
 .nil) 103 (.s 102) (.k (.bool false)) <|
 oq 104 (.mv (.s 103)) <|
 .grp 104 true (oq 105 (.mv (.s 1)) <|
 oq 106 (.call f_mhead_Put [(.k (.sl .full 0 [])), (.k (.int .i64 11)), .s 105]) <|
 oq 107 (.len (.s 106)) <|
 oq 108 (.bin .eql (.s 107) (.k (.int .i64 0))) <|
 .nil) 109 (.s 108) (.k (.bool false)) <|
 oq 110 (.mv (.s 109)) <|
 .grp 110 true (oq 111 (.call f_law11_awake []) <|
 .nil) 112 (.s 111) (.k (.bool false)) <|
 oq 6 (.mv (.s 112)) <|
 .nil) [6])
 .ret)))))))))))
def p_law11_MheadBack : PFn := ⟨[.tmp 6], q_law11_MheadBack⟩
def n_law11_MheadBack : Fn := ⟨3, [.tmp 6], false, false, erase q_law11_MheadBack⟩
def q_law11_awake : PC :=
 (.seq
 (.reg (oq 0 (.mv (.k (.bool false))) <|
 .nil) [])
 (.seq
 (.reg (oq 1 (.call f_mhead_Put [(.k (.sl .full 0 [])), (.k (.int .i64 7)), (.k (.int .u64 40))]) <|
 oq 2 (.cbs (.s 1)) <|
 oq 3 (.bin .eql (.s 2) (.k (.str [217, 40]))) <|
 oq 4 (.mv (.s 3)) <|
 oq 5 (.pick (.s 4) (.k (.bool true)) (.k (.bool false))) <|
 oq 6 (.mv (.s 5)) <|
 oq 7 (.pick (.s 6) (.k (.bool true)) (.k (.bool false))) <|
 oq 0 (.mv (.s 7)) <|
 .nil) [0])
 .ret))
def p_law11_awake : PFn := ⟨[.tmp 0], q_law11_awake⟩
def n_law11_awake : Fn := ⟨0, [.tmp 0], false, false, erase q_law11_awake⟩
def q_mhead_Put : PC :=
 (.seq
 (.reg (oq 6 (.mv (.k (.sl .full 0 []))) <|
 .nil) [0, 1, 2])
 (.seq
 (.reg (oq 8 (.mv (.s 0)) <|
 oq 9 (.mv (.s 0)) <|
 oq 10 (.len (.s 9)) <|
 oq 11 (.mv (.s 0)) <|
 oq 12 (.len (.s 11)) <|
 oq 13 (.slc 1 (.s 8) none (some (.s 10)) (some (.s 12))) <|
 oq 0 (.mv (.s 13)) <|
 .nil) [0, 1, 2])
 (.seq
 (.reg (oq 14 (.mv (.s 2)) <|
 oq 15 (.bin .and (.s 14) (.k (.int .u64 4294967295))) <|
 oq 7 (.mv (.s 15)) <|
 .nil) [0, 1, 2, 7])
 (.seq
 (.seq
 (.reg (oq 16 (.mv (.s 1)) <|
 .nil) [0, 2, 7, 16])
 (.blk 0
 (.seq
 (.blk 11
 (.seq
 (.blk 10
 (.seq
 (.blk 9
 (.seq
 (.blk 8
 (.seq
 (.blk 7
 (.seq
 (.blk 6
 (.seq
 (.cut ⟨[(0, .same), (2, .same), (7, .same), (16, .same)], []⟩ [(.ext 0, ⟨[(0, .same)], []⟩), (.ext 10, ⟨[(0, .same), (7, .same)], []⟩), (.ext 11, ⟨[(0, .same), (7, .same)], []⟩), (.ext 6, ⟨[(0, .same), (2, .same)], []⟩), (.ext 7, ⟨[(0, .same), (7, .same)], []⟩), (.ext 8, ⟨[(0, .same), (7, .same)], []⟩), (.ext 9, ⟨[(0, .same), (7, .same)], []⟩), (.nrm, ⟨[(0, .same), (2, .same)], []⟩), (.ret, ⟨[(6, .v)], []⟩)]
 (.blk 5
 (.seq
 (.blk 4
 (.seq
 (.blk 3
 (.seq
 (.blk 2
 (.seq
 (.blk 1
 (.seq
 (.seq
 (.seq
 (.reg (oq 18 (.bin .eql (.s 16) (.k (.int .i64 1))) <|
 oq 17 (.mv (.s 18)) <|
 .nil) [0, 2, 7, 16, 17])
 (.cond (.s 17)
 (.exit 1)
 .skip))
 (.seq
 (.seq
 (.reg (oq 20 (.bin .eql (.s 16) (.k (.int .i64 2))) <|
 oq 19 (.mv (.s 20)) <|
 .nil) [0, 2, 7, 16, 19])
 (.cond (.s 19)
 (.exit 2)
 .skip))
 (.seq
 (.seq
 (.reg (oq 22 (.bin .eql (.s 16) (.k (.int .i64 3))) <|
 oq 21 (.mv (.s 22)) <|
 .nil) [0, 2, 7, 16, 21])
 (.cond (.s 21)
 (.exit 3)
 .skip))
 (.seq
 (.seq
 (.reg (oq 24 (.bin .eql (.s 16) (.k (.int .i64 4))) <|
 oq 23 (.mv (.s 24)) <|
 .nil) [0, 2, 7, 16, 23])
 (.cond (.s 23)
 (.exit 4)
 .skip))
 (.seq
 (.seq
 (.reg (oq 26 (.bin .eql (.s 16) (.k (.int .i64 5))) <|
 oq 25 (.mv (.s 26)) <|
 .nil) [0, 2, 7, 16, 25])
 (.cond (.s 25)
 (.exit 5)
 .skip))
 (.seq
 (.seq
 (.reg (oq 28 (.bin .eql (.s 16) (.k (.int .i64 6))) <|
 oq 27 (.mv (.s 28)) <|
 .nil) [0, 2, 7, 16, 27])
 (.cond (.s 27)
 (.exit 6)
 .skip))
 (.seq
 (.seq
 (.reg (oq 30 (.bin .eql (.s 16) (.k (.int .i64 12))) <|
 oq 29 (.mv (.s 30)) <|
 .nil) [0, 7, 16, 29])
 (.cond (.s 29)
 (.exit 7)
 .skip))
 (.seq
 (.seq
 (.reg (oq 32 (.bin .eql (.s 16) (.k (.int .i64 7))) <|
 oq 31 (.mv (.s 32)) <|
 .nil) [0, 7, 16, 31])
 (.cond (.s 31)
 (.exit 8)
 .skip))
 (.seq
 (.seq
 (.reg (oq 34 (.bin .eql (.s 16) (.k (.int .i64 8))) <|
 oq 33 (.mv (.s 34)) <|
 .nil) [0, 7, 16, 33])
 (.cond (.s 33)
 (.exit 9)
 .skip))
 (.seq
 (.seq
 (.reg (oq 36 (.bin .eql (.s 16) (.k (.int .i64 9))) <|
 oq 35 (.mv (.s 36)) <|
 .nil) [0, 7, 16, 35])
 (.cond (.s 35)
 (.exit 10)
 .skip))
 (.seq
 (.reg (oq 38 (.bin .eql (.s 16) (.k (.int .i64 10))) <|
 oq 37 (.mv (.s 38)) <|
 .nil) [0, 7, 37])
 (.cond (.s 37)
 (.exit 11)
 .skip))))))))))))
 (.exit 0)))
 (.seq
 (.seq
 (.reg (oq 39 (.mv (.s 0)) <|
 oq 40 (.lit 1 [.int .u8 0] [(0, 1, (.k (.int .u8 192)))]) <|
 oq 41 (.app 1 1 (.s 39) (.s 40)) <|
 oq 6 (.mv (.s 41)) <|
 .nil) [6])
 .ret)
 (.exit 0))))
 (.seq
 (.seq
 (.reg (oq 42 (.mv (.s 0)) <|
 oq 43 (.lit 1 [.int .u8 0] [(0, 1, (.k (.int .u8 194)))]) <|
 oq 44 (.app 1 1 (.s 42) (.s 43)) <|
 oq 6 (.mv (.s 44)) <|
 .nil) [6])
 .ret)
 (.exit 0))))
 (.seq
 (.seq
 (.reg (oq 45 (.mv (.s 0)) <|
 oq 46 (.lit 1 [.int .u8 0] [(0, 1, (.k (.int .u8 195)))]) <|
 oq 47 (.app 1 1 (.s 45) (.s 46)) <|
 oq 6 (.mv (.s 47)) <|
 .nil) [6])
 .ret)
 (.exit 0))))
 (.seq
 (.reg (oq 48 (.mv (.s 2)) <|
 oq 49 (.bin .gtr (.s 48) (.k (.int .u64 9223372036854775807))) <|
 .nil) [0, 2, 49])
 (.cond (.s 49)
 (.seq
 (.reg (oq 50 (.mv (.s 0)) <|
 oq 51 (.mv (.s 2)) <|
 oq 52 (.lit 4 [.int .i64 0] [(0, 1, (.k (.int .i64 1))), (1, 1, (.k (.int .i64 2))), (2, 1, (.k (.int .i64 4))), (3, 1, (.k (.int .i64 8)))]) <|
 oq 53 (.call f_mhead_sized [.s 50, .s 51, (.k (.int .u8 204)), .s 52]) <|
 oq 6 (.mv (.s 53)) <|
 .nil) [6])
 .ret)
 .skip)))))
 (.seq
 (.seq
 (.reg (oq 54 (.mv (.s 0)) <|
 oq 55 (.mv (.s 2)) <|
 oq 56 (.call f_mhead_number [.s 54, .s 55]) <|
 oq 6 (.mv (.s 56)) <|
 .nil) [6])
 .ret)
 (.exit 0))))
 (.seq
 (.seq
 (.reg (oq 57 (.mv (.s 0)) <|
 oq 58 (.lit 1 [.int .u8 0] [(0, 1, (.k (.int .u8 203)))]) <|
 oq 59 (.app 1 1 (.s 57) (.s 58)) <|
 oq 60 (.mv (.s 2)) <|
 oq 61 (.call f_mhead_bytes [.s 59, .s 60, (.k (.int .i64 8))]) <|
 oq 6 (.mv (.s 61)) <|
 .nil) [6])
 .ret)
 (.exit 0))))
 (.seq
 (.seq
 (.reg (oq 62 (.mv (.s 0)) <|
 oq 63 (.lit 1 [.int .u8 0] [(0, 1, (.k (.int .u8 202)))]) <|
 oq 64 (.app 1 1 (.s 62) (.s 63)) <|
 oq 65 (.mv (.s 7)) <|
 oq 66 (.call f_mhead_bytes [.s 64, .s 65, (.k (.int .i64 4))]) <|
 oq 6 (.mv (.s 66)) <|
 .nil) [6])
 .ret)
 (.exit 0))))
 (.seq
 (.seq
 (.seq
 (.reg (oq 67 (.mv (.s 7)) <|
 oq 68 (.bin .lss (.s 67) (.k (.int .u64 32))) <|
 .nil) [0, 7, 68])
 (.cond (.s 68)
 (.seq
 (.reg (oq 69 (.mv (.s 0)) <|
 oq 70 (.mv (.s 7)) <|
 oq 71 (.cvi .u8 (.s 70)) <|
 oq 72 (.bin .or (.k (.int .u8 160)) (.s 71)) <|
 oq 73 (.lit 1 [.int .u8 0] [(0, 1, (.s 72))]) <|
 oq 74 (.app 1 1 (.s 69) (.s 73)) <|
 oq 6 (.mv (.s 74)) <|
 .nil) [6])
 .ret)
 .skip))
 (.seq
 (.reg (oq 75 (.mv (.s 0)) <|
 oq 76 (.mv (.s 7)) <|
 oq 77 (.lit 3 [.int .i64 0] [(0, 1, (.k (.int .i64 1))), (1, 1, (.k (.int .i64 2))), (2, 1, (.k (.int .i64 4)))]) <|
 oq 78 (.call f_mhead_sized [.s 75, .s 76, (.k (.int .u8 217)), .s 77]) <|
 oq 6 (.mv (.s 78)) <|
 .nil) [6])
 .ret))
 (.exit 0))))
 (.seq
 (.seq
 (.reg (oq 79 (.mv (.s 0)) <|
 oq 80 (.mv (.s 7)) <|
 oq 81 (.lit 3 [.int .i64 0] [(0, 1, (.k (.int .i64 1))), (1, 1, (.k (.int .i64 2))), (2, 1, (.k (.int .i64 4)))]) <|
 oq 82 (.call f_mhead_sized [.s 79, .s 80, (.k (.int .u8 196)), .s 81]) <|
 oq 6 (.mv (.s 82)) <|
 .nil) [6])
 .ret)
 (.exit 0))))
 (.seq
 (.seq
 (.seq
 (.reg (oq 83 (.mv (.s 7)) <|
 oq 84 (.bin .lss (.s 83) (.k (.int .u64 16))) <|
 .nil) [0, 7, 84])
 (.cond (.s 84)
 (.seq
 (.reg (oq 85 (.mv (.s 0)) <|
 oq 86 (.mv (.s 7)) <|
 oq 87 (.cvi .u8 (.s 86)) <|
 oq 88 (.bin .or (.k (.int .u8 144)) (.s 87)) <|
 oq 89 (.lit 1 [.int .u8 0] [(0, 1, (.s 88))]) <|
 oq 90 (.app 1 1 (.s 85) (.s 89)) <|
 oq 6 (.mv (.s 90)) <|
 .nil) [6])
 .ret)
 .skip))
 (.seq
 (.reg (oq 91 (.mv (.s 0)) <|
 oq 92 (.mv (.s 7)) <|
 oq 93 (.lit 2 [.int .i64 0] [(0, 1, (.k (.int .i64 2))), (1, 1, (.k (.int .i64 4)))]) <|
 oq 94 (.call f_mhead_sized [.s 91, .s 92, (.k (.int .u8 220)), .s 93]) <|
 oq 6 (.mv (.s 94)) <|
 .nil) [6])
 .ret))
 (.exit 0))))
 (.seq
 (.seq
 (.seq
 (.reg (oq 95 (.mv (.s 7)) <|
 oq 96 (.bin .lss (.s 95) (.k (.int .u64 16))) <|
 .nil) [0, 7, 96])
 (.cond (.s 96)
 (.seq
 (.reg (oq 97 (.mv (.s 0)) <|
 oq 98 (.mv (.s 7)) <|
 oq 99 (.cvi .u8 (.s 98)) <|
 oq 100 (.bin .or (.k (.int .u8 128)) (.s 99)) <|
 oq 101 (.lit 1 [.int .u8 0] [(0, 1, (.s 100))]) <|
 oq 102 (.app 1 1 (.s 97) (.s 101)) <|
 oq 6 (.mv (.s 102)) <|
 .nil) [6])
 .ret)
 .skip))
 (.seq
 (.reg (oq 103 (.mv (.s 0)) <|
 oq 104 (.mv (.s 7)) <|
 oq 105 (.lit 2 [.int .i64 0] [(0, 1, (.k (.int .i64 2))), (1, 1, (.k (.int .i64 4)))]) <|
 oq 106 (.call f_mhead_sized [.s 103, .s 104, (.k (.int .u8 222)), .s 105]) <|
 oq 6 (.mv (.s 106)) <|
 .nil) [6])
 .ret))
 (.exit 0)))))
 (.seq
 (.reg (oq 107 (.mv (.s 0)) <|
 oq 6 (.mv (.s 107)) <|
 .nil) [6])
 .ret)))))
def p_mhead_Put : PFn := ⟨[.tmp 6], q_mhead_Put⟩
def n_mhead_Put : Fn := ⟨3, [.tmp 6], false, false, erase q_mhead_Put⟩
def q_mhead_Get : PC :=
 (.seq
 (.reg (oq 4 (.mv (.k (.int .i64 0))) <|
 oq 5 (.mv (.k (.int .u64 0))) <|
 oq 6 (.mv (.k (.int .i64 0))) <|
 oq 7 (.mv (.k (.int .i64 0))) <|
 .nil) [0, 1])
 (.seq
 (.blk 0
 (.seq
 (.reg (oq 15 (.mv (.s 1)) <|
 oq 16 (.bin .lss (.s 15) (.k (.int .i64 0))) <|
 oq 17 (.mv (.s 16)) <|
 .grp 17 false (oq 18 (.mv (.s 1)) <|
 oq 19 (.mv (.s 0)) <|
 oq 20 (.len (.s 19)) <|
 oq 21 (.bin .gtr (.s 18) (.s 20)) <|
 .nil) 22 (.s 21) (.k (.bool true)) <|
 oq 14 (.mv (.s 22)) <|
 .nil) [0, 1, 14])
 (.cond (.s 14)
 (.seq
 (.reg (oq 4 (.mv (.k (.int .i64 0))) <|
 oq 5 (.mv (.k (.int .u64 0))) <|
 oq 6 (.mv (.k (.int .i64 0))) <|
 oq 7 (.mv (.k (.int .i64 1))) <|
 .nil) [4, 5, 6, 7])
 .ret)
 (.seq
 (.reg (oq 24 (.mv (.s 1)) <|
 oq 25 (.mv (.s 0)) <|
 oq 26 (.len (.s 25)) <|
 oq 27 (.bin .eql (.s 24) (.s 26)) <|
 oq 23 (.mv (.s 27)) <|
 .nil) [0, 1, 23])
 (.cond (.s 23)
 (.seq
 (.reg (oq 4 (.mv (.k (.int .i64 0))) <|
 oq 5 (.mv (.k (.int .u64 0))) <|
 oq 6 (.mv (.k (.int .i64 0))) <|
 oq 7 (.mv (.k (.int .i64 2))) <|
 .nil) [4, 5, 6, 7])
 .ret)
 .skip)))))
 (.seq
 (.reg (oq 29 (.mv (.s 0)) <|
 oq 30 (.mv (.s 1)) <|
 oq 31 (.iad 1 (.s 29) (.s 30)) <|
 oq 32 (.load false 1 (.s 31)) <|
 oq 33 (.call f_mhead_of [.s 32]) <|
 oq 28 (.mv (.s 33)) <|
 oq 34 (.ext (.s 28) 0) <|
 oq 35 (.ext (.s 28) 1) <|
 oq 8 (.alloc [.int .i64 0, .int .i64 0, .int .u64 0, .bool false]) <|
 oz (.store 4 (.s 8) (.s 34)) <|
 oq 9 (.mv (.s 35)) <|
 .nil) [0, 1, 8, 9])
 (.seq
 (.seq
 (.reg (oq 36 (.mv (.s 9)) <|
 oq 37 (.un .not (.s 36)) <|
 .nil) [0, 1, 8, 37])
 (.cond (.s 37)
 (.seq
 (.reg (oq 4 (.mv (.k (.int .i64 0))) <|
 oq 5 (.mv (.k (.int .u64 0))) <|
 oq 6 (.mv (.k (.int .i64 0))) <|
 oq 7 (.mv (.k (.int .i64 3))) <|
 .nil) [4, 5, 6, 7])
 .ret)
 .skip))
 (.seq
 (.reg (oq 38 (.mv (.s 1)) <|
 oq 39 (.bin .add (.s 38) (.k (.int .i64 1))) <|
 oq 1 (.mv (.s 39)) <|
 .nil) [0, 1, 8])
 (.seq
 (.reg (oq 40 (.fad 1 (.s 8)) <|
 oq 41 (.load false 1 (.s 40)) <|
 oq 10 (.mv (.s 41)) <|
 .nil) [0, 1, 8, 10])
 (.seq
 (.cut ⟨[(0, .same), (1, .same), (8, .same), (10, .v)], [.same]⟩ [(.nrm, ⟨[(0, .same), (1, .same), (8, .same), (10, .v)], [.same]⟩)]
 (.seq
 (.reg (oq 42 (.fad 0 (.s 8)) <|
 oq 43 (.load false 1 (.s 42)) <|
 oq 44 (.bin .eql (.s 43) (.k (.int .i64 11))) <|
 .nil) [0, 1, 8, 10, 44])
 (.cond (.s 44)
 (.reg (oq 45 (.mv (.s 10)) <|
 oq 46 (.bin .add (.s 45) (.k (.int .i64 1))) <|
 oq 10 (.mv (.s 46)) <|
 .nil) [0, 1, 8, 10])
 .skip)))
 (.seq
 (.seq
 (.reg (oq 47 (.mv (.s 10)) <|
 oq 48 (.mv (.s 0)) <|
 oq 49 (.len (.s 48)) <|
 oq 50 (.mv (.s 1)) <|
 oq 51 (.bin .sub (.s 49) (.s 50)) <|
 oq 52 (.bin .gtr (.s 47) (.s 51)) <|
 .nil) [0, 1, 8, 10, 52])
 (.cond (.s 52)
 (.seq
 (.reg (oq 4 (.mv (.k (.int .i64 0))) <|
 oq 5 (.mv (.k (.int .u64 0))) <|
 oq 6 (.mv (.k (.int .i64 0))) <|
 oq 7 (.mv (.k (.int .i64 2))) <|
 .nil) [4, 5, 6, 7])
 .ret)
 .skip))
 (.seq
 (.reg (oq 53 (.fad 2 (.s 8)) <|
 oq 54 (.load false 1 (.s 53)) <|
 oq 5 (.mv (.s 54)) <|
 .nil) [0, 1, 5, 8, 10])
 (.seq
 (.seq
 (.reg (oq 55 (.mv (.s 0)) <|
 oq 56 (.mv (.s 1)) <|
 oq 57 (.mv (.s 1)) <|
 oq 58 (.fad 1 (.s 8)) <|
 oq 59 (.load false 1 (.s 58)) <|
 oq 60 (.bin .add (.s 57) (.s 59)) <|
 oq 61 (.slc 1 (.s 55) (some (.s 56)) (some (.s 60)) none) <|
 oq 62 (.len (.s 61)) <|
 oq 63 (.mv (.k (.int .i64 0))) <|
 .nil) [1, 5, 8, 10, 61, 62, 63])
 (.blk 1
 (.loop ⟨[(1, .same), (8, .same), (10, .same), (5, .v), (61, .same), (62, .same), (63, .v)], [.same]⟩ [(.ext 1, ⟨[(1, .same), (8, .same), (10, .same), (5, .v)], [.same]⟩)]
 (.seq
 (.reg (oq 64 (.bin .lss (.s 63) (.s 62)) <|
 .nil) [1, 5, 8, 10, 61, 62, 63, 64])
 (.seq
 (.cond (.s 64)
 .skip
 (.exit 1))
 (.seq
 (.blk 2
 (.seq
 (.reg (oq 65 (.iad 1 (.s 61) (.s 63)) <|
 oq 66 (.load false 1 (.s 65)) <|
 oq 12 (.mv (.s 66)) <|
 .nil) [1, 5, 8, 10, 12, 61, 62, 63])
 (.reg (oq 67 (.mv (.s 5)) <|
 oq 68 (.bin .shl (.s 67) (.k (.int .u64 8))) <|
 oq 69 (.mv (.s 12)) <|
 oq 70 (.cvi .u64 (.s 69)) <|
 oq 71 (.bin .or (.s 68) (.s 70)) <|
 oq 5 (.mv (.s 71)) <|
 .nil) [1, 5, 8, 10, 61, 62, 63])))
 (.reg (oq 72 (.bin .add (.s 63) (.k (.int .i64 1))) <|
 oq 63 (.mv (.s 72)) <|
 .nil) [1, 5, 8, 10, 61, 62, 63])))))))
 (.seq
 (.cut ⟨[(1, .same), (8, .same), (10, .same), (5, .v)], [.same]⟩ [(.nrm, ⟨[(1, .same), (8, .same), (10, .same), (5, .v)], [.same]⟩)]
 (.seq
 (.reg (oq 73 (.fad 1 (.s 8)) <|
 oq 74 (.load false 1 (.s 73)) <|
 oq 75 (.bin .mul (.k (.int .i64 8)) (.s 74)) <|
 oq 76 (.bin .sub (.k (.int .i64 64)) (.s 75)) <|
 oq 13 (.mv (.s 76)) <|
 .nil) [1, 5, 8, 10, 13])
 (.seq
 (.reg (oq 77 (.fad 3 (.s 8)) <|
 oq 78 (.load false 1 (.s 77)) <|
 .nil) [1, 5, 8, 10, 13, 78])
 (.cond (.s 78)
 (.reg (oq 79 (.mv (.s 5)) <|
 oq 80 (.mv (.s 13)) <|
 oq 81 (.bin .shl (.s 79) (.s 80)) <|
 oq 82 (.cvi .i64 (.s 81)) <|
 oq 83 (.mv (.s 13)) <|
 oq 84 (.bin .shr (.s 82) (.s 83)) <|
 oq 85 (.cvi .u64 (.s 84)) <|
 oq 5 (.mv (.s 85)) <|
 .nil) [1, 5, 8, 10])
 .skip))))
 (.seq
 (.reg (oq 86 (.fad 0 (.s 8)) <|
 oq 87 (.load false 1 (.s 86)) <|
 oq 88 (.mv (.s 5)) <|
 oq 89 (.mv (.s 1)) <|
 oq 90 (.mv (.s 10)) <|
 oq 91 (.bin .add (.s 89) (.s 90)) <|
 oq 4 (.mv (.s 87)) <|
 oq 5 (.mv (.s 88)) <|
 oq 6 (.mv (.s 91)) <|
 oq 7 (.mv (.k (.int .i64 0))) <|
 .nil) [4, 5, 6, 7])
 .ret))))))))))))
def p_mhead_Get : PFn := ⟨[.tmp 4, .tmp 5, .tmp 6, .tmp 7], q_mhead_Get⟩
def n_mhead_Get : Fn := ⟨2, [.tmp 4, .tmp 5, .tmp 6, .tmp 7], false, false, erase q_mhead_Get⟩
def q_law00_Place : PC :=
 (.seq
 (.reg (oq 4 (.mv (.k (.int .i64 0))) <|
 .nil) [0, 1])
 (.seq
 (.reg (oq 6 (.mv (.s 0)) <|
 oq 7 (.mv (.s 1)) <|
 oq 8 (.bin .rem (.s 6) (.s 7)) <|
 oq 5 (.mv (.s 8)) <|
 .nil) [1, 5])
 (.seq
 (.seq
 (.reg (oq 9 (.mv (.s 5)) <|
 oq 10 (.bin .lss (.s 9) (.k (.int .i64 0))) <|
 .nil) [1, 5, 10])
 (.cond (.s 10)
 (.reg (oq 11 (.mv (.s 5)) <|
 oq 12 (.mv (.s 1)) <|
 oq 13 (.bin .add (.s 11) (.s 12)) <|
 oq 5 (.mv (.s 13)) <|
 .nil) [5])
 .skip))
 (.seq
 (.reg (oq 14 (.mv (.s 5)) <|
 oq 4 (.mv (.s 14)) <|
 .nil) [4])
 .ret))))
def p_law00_Place : PFn := ⟨[.tmp 4], q_law00_Place⟩
def n_law00_Place : Fn := ⟨2, [.tmp 4], false, false, erase q_law00_Place⟩
def q_mhead_sized : PC :=
 (.seq
 (.reg (oq 8 (.mv (.k (.sl .full 0 []))) <|
 .nil) [0, 1, 2, 3])
 (.seq
 (.seq
 (.reg (oq 11 (.mv (.s 3)) <|
 oq 12 (.len (.s 11)) <|
 oq 13 (.mv (.k (.int .i64 0))) <|
 .nil) [0, 1, 2, 11, 12, 13])
 (.blk 0
 (.loop ⟨[(0, (.own 1)), (1, .same), (2, .same), (11, .same), (12, .same), (13, .v)], []⟩ [(.ext 0, ⟨[(0, (.own 1))], []⟩), (.ret, ⟨[(8, .v)], []⟩)]
 (.seq
 (.reg (oq 14 (.bin .lss (.s 13) (.s 12)) <|
 .nil) [0, 1, 2, 11, 12, 13, 14])
 (.seq
 (.cond (.s 14)
 .skip
 (.exit 0))
 (.seq
 (.blk 1
 (.seq
 (.reg (oq 15 (.mv (.s 13)) <|
 oq 16 (.iad 1 (.s 11) (.s 13)) <|
 oq 17 (.load false 1 (.s 16)) <|
 oq 9 (.mv (.s 15)) <|
 oq 10 (.mv (.s 17)) <|
 .nil) [0, 1, 2, 9, 10, 11, 12, 13])
 (.seq
 (.reg (oq 18 (.mv (.s 10)) <|
 oq 19 (.bin .eql (.s 18) (.k (.int .i64 8))) <|
 oq 20 (.mv (.s 19)) <|
 .grp 20 false (oq 21 (.mv (.s 1)) <|
 oq 22 (.mv (.s 10)) <|
 oq 23 (.bin .mul (.k (.int .i64 8)) (.s 22)) <|
 oq 24 (.bin .shr (.s 21) (.s 23)) <|
 oq 25 (.bin .eql (.s 24) (.k (.int .u64 0))) <|
 .nil) 26 (.s 25) (.k (.bool true)) <|
 .nil) [0, 1, 2, 9, 10, 11, 12, 13, 26])
 (.cond (.s 26)
 (.seq
 (.reg (oq 27 (.mv (.s 0)) <|
 oq 28 (.mv (.s 2)) <|
 oq 29 (.mv (.s 9)) <|
 oq 30 (.cvi .u8 (.s 29)) <|
 oq 31 (.bin .add (.s 28) (.s 30)) <|
 oq 32 (.lit 1 [.int .u8 0] [(0, 1, (.s 31))]) <|
 oq 33 (.app 1 1 (.s 27) (.s 32)) <|
 oq 34 (.mv (.s 1)) <|
 oq 35 (.mv (.s 10)) <|
 oq 36 (.call f_mhead_bytes [.s 33, .s 34, .s 35]) <|
 oq 8 (.mv (.s 36)) <|
 .nil) [8])
 .ret)
 .skip))))
 (.reg (oq 37 (.bin .add (.s 13) (.k (.int .i64 1))) <|
 oq 13 (.mv (.s 37)) <|
 .nil) [0, 1, 2, 11, 12, 13])))))))
 (.seq
 (.reg (oq 38 (.mv (.s 0)) <|
 oq 8 (.mv (.s 38)) <|
 .nil) [8])
 .ret)))
def p_mhead_sized : PFn := ⟨[.tmp 8], q_mhead_sized⟩
def n_mhead_sized : Fn := ⟨4, [.tmp 8], true, false, erase q_mhead_sized⟩
def q_mhead_number : PC :=
 (.seq
 (.reg (oq 4 (.mv (.k (.sl .full 0 []))) <|
 .nil) [0, 1])
 (.seq
 (.cut ⟨[(0, (.own 1)), (1, .same)], []⟩ [(.nrm, ⟨[(0, (.own 1)), (1, .same)], []⟩), (.ret, ⟨[(4, .v)], []⟩)]
 (.seq
 (.reg (oq 6 (.mv (.s 1)) <|
 oq 7 (.cvi .i64 (.s 6)) <|
 oq 5 (.mv (.s 7)) <|
 .nil) [0, 1, 5])
 (.blk 0
 (.seq
 (.cut ⟨[(0, (.own 1)), (1, .same), (5, .same)], []⟩ [(.nrm, ⟨[(0, (.own 1)), (1, .same), (5, .same), (8, .v)], []⟩)]
 (.seq
 (.reg (oq 9 (.mv (.s 5)) <|
 oq 10 (.bin .geq (.s 9) (.k (.int .i64 0))) <|
 oq 11 (.mv (.s 10)) <|
 .grp 11 true (oq 12 (.mv (.s 5)) <|
 oq 13 (.bin .lss (.s 12) (.k (.int .i64 128))) <|
 .nil) 14 (.s 13) (.k (.bool false)) <|
 oq 8 (.mv (.s 14)) <|
 .nil) [0, 1, 5, 8])
 (.cond (.s 8)
 .skip
 (.reg (oq 15 (.mv (.s 5)) <|
 oq 16 (.bin .lss (.s 15) (.k (.int .i64 0))) <|
 oq 17 (.mv (.s 16)) <|
 .grp 17 true (oq 18 (.mv (.s 5)) <|
 oq 19 (.bin .geq (.s 18) (.k (.int .i64 (-32)))) <|
 .nil) 20 (.s 19) (.k (.bool false)) <|
 oq 8 (.mv (.s 20)) <|
 .nil) [0, 1, 5, 8]))))
 (.cond (.s 8)
 (.seq
 (.reg (oq 21 (.mv (.s 0)) <|
 oq 22 (.mv (.s 5)) <|
 oq 23 (.cvi .u8 (.s 22)) <|
 oq 24 (.lit 1 [.int .u8 0] [(0, 1, (.s 23))]) <|
 oq 25 (.app 1 1 (.s 21) (.s 24)) <|
 oq 4 (.mv (.s 25)) <|
 .nil) [4])
 .ret)
 (.seq
 (.reg (oq 27 (.mv (.s 5)) <|
 oq 28 (.bin .geq (.s 27) (.k (.int .i64 0))) <|
 oq 26 (.mv (.s 28)) <|
 .nil) [0, 1, 5, 26])
 (.cond (.s 26)
 (.seq
 (.reg (oq 29 (.mv (.s 0)) <|
 oq 30 (.mv (.s 1)) <|
 oq 31 (.lit 4 [.int .i64 0] [(0, 1, (.k (.int .i64 1))), (1, 1, (.k (.int .i64 2))), (2, 1, (.k (.int .i64 4))), (3, 1, (.k (.int .i64 8)))]) <|
 oq 32 (.call f_mhead_sized [.s 29, .s 30, (.k (.int .u8 204)), .s 31]) <|
 oq 4 (.mv (.s 32)) <|
 .nil) [4])
 .ret)
 (.seq
 (.reg (oq 34 (.mv (.s 5)) <|
 oq 35 (.bin .geq (.s 34) (.k (.int .i64 (-128)))) <|
 oq 33 (.mv (.s 35)) <|
 .nil) [0, 1, 5, 33])
 (.cond (.s 33)
 (.seq
 (.reg (oq 36 (.mv (.s 0)) <|
 oq 37 (.lit 1 [.int .u8 0] [(0, 1, (.k (.int .u8 208)))]) <|
 oq 38 (.app 1 1 (.s 36) (.s 37)) <|
 oq 39 (.mv (.s 1)) <|
 oq 40 (.call f_mhead_bytes [.s 38, .s 39, (.k (.int .i64 1))]) <|
 oq 4 (.mv (.s 40)) <|
 .nil) [4])
 .ret)
 (.seq
 (.reg (oq 42 (.mv (.s 5)) <|
 oq 43 (.bin .geq (.s 42) (.k (.int .i64 (-32768)))) <|
 oq 41 (.mv (.s 43)) <|
 .nil) [0, 1, 5, 41])
 (.cond (.s 41)
 (.seq
 (.reg (oq 44 (.mv (.s 0)) <|
 oq 45 (.lit 1 [.int .u8 0] [(0, 1, (.k (.int .u8 209)))]) <|
 oq 46 (.app 1 1 (.s 44) (.s 45)) <|
 oq 47 (.mv (.s 1)) <|
 oq 48 (.call f_mhead_bytes [.s 46, .s 47, (.k (.int .i64 2))]) <|
 oq 4 (.mv (.s 48)) <|
 .nil) [4])
 .ret)
 (.seq
 (.reg (oq 50 (.mv (.s 5)) <|
 oq 51 (.bin .geq (.s 50) (.k (.int .i64 (-2147483648)))) <|
 oq 49 (.mv (.s 51)) <|
 .nil) [0, 1, 49])
 (.cond (.s 49)
 (.seq
 (.reg (oq 52 (.mv (.s 0)) <|
 oq 53 (.lit 1 [.int .u8 0] [(0, 1, (.k (.int .u8 210)))]) <|
 oq 54 (.app 1 1 (.s 52) (.s 53)) <|
 oq 55 (.mv (.s 1)) <|
 oq 56 (.call f_mhead_bytes [.s 54, .s 55, (.k (.int .i64 4))]) <|
 oq 4 (.mv (.s 56)) <|
 .nil) [4])
 .ret)
 .skip)))))))))))))
 (.seq
 (.reg (oq 57 (.mv (.s 0)) <|
 oq 58 (.lit 1 [.int .u8 0] [(0, 1, (.k (.int .u8 211)))]) <|
 oq 59 (.app 1 1 (.s 57) (.s 58)) <|
 oq 60 (.mv (.s 1)) <|
 oq 61 (.call f_mhead_bytes [.s 59, .s 60, (.k (.int .i64 8))]) <|
 oq 4 (.mv (.s 61)) <|
 .nil) [4])
 .ret)))
def p_mhead_number : PFn := ⟨[.tmp 4], q_mhead_number⟩
def n_mhead_number : Fn := ⟨2, [.tmp 4], true, false, erase q_mhead_number⟩
def q_mhead_bytes : PC :=
 (.seq
 (.reg (oq 6 (.mv (.k (.sl .full 0 []))) <|
 .nil) [0, 1, 2])
 (.seq
 (.seq
 (.reg (oq 8 (.mv (.s 2)) <|
 oq 9 (.bin .sub (.s 8) (.k (.int .i64 1))) <|
 oq 7 (.mv (.s 9)) <|
 .nil) [0, 1, 7])
 (.blk 0
 (.loop ⟨[(0, (.own 1)), (1, .same), (7, .v)], []⟩ [(.ext 0, ⟨[(0, (.own 1))], []⟩)]
 (.seq
 (.seq
 (.reg (oq 10 (.mv (.s 7)) <|
 oq 11 (.bin .geq (.s 10) (.k (.int .i64 0))) <|
 .nil) [0, 1, 7, 11])
 (.cond (.s 11)
 .skip
 (.exit 0)))
 (.seq
 (.blk 1
 (.reg (oq 14 (.mv (.s 0)) <|
 oq 15 (.mv (.s 1)) <|
 oq 16 (.mv (.s 7)) <|
 oq 17 (.bin .mul (.k (.int .i64 8)) (.s 16)) <|
 oq 18 (.bin .shr (.s 15) (.s 17)) <|
 oq 19 (.cvi .u8 (.s 18)) <|
 oq 20 (.lit 1 [.int .u8 0] [(0, 1, (.s 19))]) <|
 oq 21 (.app 1 1 (.s 14) (.s 20)) <|
 oq 0 (.mv (.s 21)) <|
 .nil) [0, 1, 7]))
 (.reg (oq 12 (.mv (.s 7)) <|
 oq 13 (.bin .sub (.s 12) (.k (.int .i64 1))) <|
 oq 7 (.mv (.s 13)) <|
 .nil) [0, 1, 7]))))))
 (.seq
 (.reg (oq 22 (.mv (.s 0)) <|
 oq 6 (.mv (.s 22)) <|
 .nil) [6])
 .ret)))
def p_mhead_bytes : PFn := ⟨[.tmp 6], q_mhead_bytes⟩
def n_mhead_bytes : Fn := ⟨3, [.tmp 6], true, false, erase q_mhead_bytes⟩
def q_mhead_of : PC :=
 (.seq
 (.reg (oq 2 (.alloc [.int .i64 0, .int .i64 0, .int .u64 0, .bool false]) <|
 oq 3 (.mv (.k (.bool false))) <|
 .nil) [0, 2])
 (.seq
 (.reg (oq 6 (.mv (.s 0)) <|
 oq 7 (.cvi .u64 (.s 6)) <|
 oq 4 (.mv (.s 7)) <|
 .nil) [0, 2, 4])
 (.seq
 (.blk 0
 (.seq
 (.reg (oq 9 (.mv (.s 0)) <|
 oq 10 (.bin .lss (.s 9) (.k (.int .u8 128))) <|
 oq 8 (.mv (.s 10)) <|
 .nil) [0, 2, 4, 8])
 (.cond (.s 8)
 (.seq
 (.reg (oq 11 (.mv (.s 4)) <|
 oq 12 (.build [.int .i64 0, .int .i64 0, .int .u64 0, .bool false] [(0, 1, (.k (.int .i64 4))), (2, 1, (.s 11))]) <|
 oz (.store 4 (.s 2) (.s 12)) <|
 oq 3 (.mv (.k (.bool true))) <|
 .nil) [2, 3])
 .ret)
 (.seq
 (.reg (oq 14 (.mv (.s 0)) <|
 oq 15 (.bin .lss (.s 14) (.k (.int .u8 144))) <|
 oq 13 (.mv (.s 15)) <|
 .nil) [0, 2, 4, 13])
 (.cond (.s 13)
 (.seq
 (.reg (oq 16 (.mv (.s 4)) <|
 oq 17 (.bin .and (.s 16) (.k (.int .u64 15))) <|
 oq 18 (.build [.int .i64 0, .int .i64 0, .int .u64 0, .bool false] [(0, 1, (.k (.int .i64 10))), (2, 1, (.s 17))]) <|
 oz (.store 4 (.s 2) (.s 18)) <|
 oq 3 (.mv (.k (.bool true))) <|
 .nil) [2, 3])
 .ret)
 (.seq
 (.reg (oq 20 (.mv (.s 0)) <|
 oq 21 (.bin .lss (.s 20) (.k (.int .u8 160))) <|
 oq 19 (.mv (.s 21)) <|
 .nil) [0, 2, 4, 19])
 (.cond (.s 19)
 (.seq
 (.reg (oq 22 (.mv (.s 4)) <|
 oq 23 (.bin .and (.s 22) (.k (.int .u64 15))) <|
 oq 24 (.build [.int .i64 0, .int .i64 0, .int .u64 0, .bool false] [(0, 1, (.k (.int .i64 9))), (2, 1, (.s 23))]) <|
 oz (.store 4 (.s 2) (.s 24)) <|
 oq 3 (.mv (.k (.bool true))) <|
 .nil) [2, 3])
 .ret)
 (.seq
 (.reg (oq 26 (.mv (.s 0)) <|
 oq 27 (.bin .lss (.s 26) (.k (.int .u8 192))) <|
 oq 25 (.mv (.s 27)) <|
 .nil) [0, 2, 4, 25])
 (.cond (.s 25)
 (.seq
 (.reg (oq 28 (.mv (.s 4)) <|
 oq 29 (.bin .and (.s 28) (.k (.int .u64 31))) <|
 oq 30 (.build [.int .i64 0, .int .i64 0, .int .u64 0, .bool false] [(0, 1, (.k (.int .i64 7))), (2, 1, (.s 29))]) <|
 oz (.store 4 (.s 2) (.s 30)) <|
 oq 3 (.mv (.k (.bool true))) <|
 .nil) [2, 3])
 .ret)
 (.seq
 (.reg (oq 32 (.mv (.s 0)) <|
 oq 33 (.bin .geq (.s 32) (.k (.int .u8 224))) <|
 oq 31 (.mv (.s 33)) <|
 .nil) [0, 2, 4, 31])
 (.cond (.s 31)
 (.seq
 (.reg (oq 34 (.mv (.s 4)) <|
 oq 35 (.bin .sub (.s 34) (.k (.int .u64 256))) <|
 oq 36 (.build [.int .i64 0, .int .i64 0, .int .u64 0, .bool false] [(0, 1, (.k (.int .i64 5))), (2, 1, (.s 35))]) <|
 oz (.store 4 (.s 2) (.s 36)) <|
 oq 3 (.mv (.k (.bool true))) <|
 .nil) [2, 3])
 .ret)
 .skip)))))))))))
 (.seq
 (.reg (oq 37 (.mv (.s 0)) <|
 oq 38 (.bin .and (.s 37) (.k (.int .u8 15))) <|
 oq 39 (.cvi .i64 (.s 38)) <|
 oq 5 (.mv (.s 39)) <|
 .nil) [0, 2, 5])
 (.seq
 (.cut ⟨[(0, .same), (2, .same), (5, .same)], [(.box 4)]⟩ [(.nrm, ⟨[(2, .same)], [(.box 4)]⟩), (.ret, ⟨[(2, .same), (3, .v)], [(.box 4)]⟩)]
 (.seq
 (.reg (oq 40 (.mv (.s 0)) <|
 .nil) [2, 5, 40])
 (.blk 1
 (.seq
 (.reg (oq 42 (.bin .eql (.s 40) (.k (.int .u8 192))) <|
 oq 41 (.mv (.s 42)) <|
 .nil) [2, 5, 40, 41])
 (.cond (.s 41)
 (.seq
 (.reg (oq 43 (.build [.int .i64 0, .int .i64 0, .int .u64 0, .bool false] [(0, 1, (.k (.int .i64 1)))]) <|
 oz (.store 4 (.s 2) (.s 43)) <|
 oq 3 (.mv (.k (.bool true))) <|
 .nil) [2, 3])
 .ret)
 (.seq
 (.cut ⟨[(2, .same), (5, .same), (40, .same)], [.same]⟩ [(.nrm, ⟨[(2, .same), (5, .same), (40, .same), (44, .v)], [.same]⟩)]
 (.seq
 (.reg (oq 45 (.bin .eql (.s 40) (.k (.int .u8 194))) <|
 oq 44 (.mv (.s 45)) <|
 .nil) [2, 5, 40, 44])
 (.cond (.s 44)
 .skip
 (.reg (oq 46 (.bin .eql (.s 40) (.k (.int .u8 195))) <|
 oq 44 (.mv (.s 46)) <|
 .nil) [2, 5, 40, 44]))))
 (.cond (.s 44)
 (.seq
 (.reg (oq 47 (.mv (.s 5)) <|
 oq 48 (.bin .add (.k (.int .i64 2)) (.s 47)) <|
 oq 49 (.bin .sub (.s 48) (.k (.int .i64 2))) <|
 oq 50 (.build [.int .i64 0, .int .i64 0, .int .u64 0, .bool false] [(0, 1, (.s 49))]) <|
 oz (.store 4 (.s 2) (.s 50)) <|
 oq 3 (.mv (.k (.bool true))) <|
 .nil) [2, 3])
 .ret)
 (.seq
 (.cut ⟨[(2, .same), (5, .same), (40, .same)], [.same]⟩ [(.nrm, ⟨[(2, .same), (5, .same), (40, .same), (51, .v)], [.same]⟩)]
 (.seq
 (.reg (oq 52 (.bin .eql (.s 40) (.k (.int .u8 196))) <|
 oq 51 (.mv (.s 52)) <|
 .nil) [2, 5, 40, 51])
 (.cond (.s 51)
 .skip
 (.seq
 (.reg (oq 53 (.bin .eql (.s 40) (.k (.int .u8 197))) <|
 oq 51 (.mv (.s 53)) <|
 .nil) [2, 5, 40, 51])
 (.cond (.s 51)
 .skip
 (.reg (oq 54 (.bin .eql (.s 40) (.k (.int .u8 198))) <|
 oq 51 (.mv (.s 54)) <|
 .nil) [2, 5, 40, 51]))))))
 (.cond (.s 51)
 (.seq
 (.reg (oq 55 (.mv (.s 5)) <|
 oq 56 (.bin .sub (.s 55) (.k (.int .i64 4))) <|
 oq 57 (.bin .shl (.k (.int .i64 1)) (.s 56)) <|
 oq 58 (.build [.int .i64 0, .int .i64 0, .int .u64 0, .bool false] [(0, 1, (.k (.int .i64 8))), (1, 1, (.s 57))]) <|
 oz (.store 4 (.s 2) (.s 58)) <|
 oq 3 (.mv (.k (.bool true))) <|
 .nil) [2, 3])
 .ret)
 (.seq
 (.cut ⟨[(2, .same), (5, .same), (40, .same)], [.same]⟩ [(.nrm, ⟨[(2, .same), (5, .same), (40, .same), (59, .v)], [.same]⟩)]
 (.seq
 (.reg (oq 60 (.bin .eql (.s 40) (.k (.int .u8 199))) <|
 oq 59 (.mv (.s 60)) <|
 .nil) [2, 5, 40, 59])
 (.cond (.s 59)
 .skip
 (.seq
 (.reg (oq 61 (.bin .eql (.s 40) (.k (.int .u8 200))) <|
 oq 59 (.mv (.s 61)) <|
 .nil) [2, 5, 40, 59])
 (.cond (.s 59)
 .skip
 (.reg (oq 62 (.bin .eql (.s 40) (.k (.int .u8 201))) <|
 oq 59 (.mv (.s 62)) <|
 .nil) [2, 5, 40, 59]))))))
 (.cond (.s 59)
 (.seq
 (.reg (oq 63 (.mv (.s 5)) <|
 oq 64 (.bin .sub (.s 63) (.k (.int .i64 7))) <|
 oq 65 (.bin .shl (.k (.int .i64 1)) (.s 64)) <|
 oq 66 (.build [.int .i64 0, .int .i64 0, .int .u64 0, .bool false] [(0, 1, (.k (.int .i64 11))), (1, 1, (.s 65))]) <|
 oz (.store 4 (.s 2) (.s 66)) <|
 oq 3 (.mv (.k (.bool true))) <|
 .nil) [2, 3])
 .ret)
 (.seq
 (.reg (oq 68 (.bin .eql (.s 40) (.k (.int .u8 202))) <|
 oq 67 (.mv (.s 68)) <|
 .nil) [2, 5, 40, 67])
 (.cond (.s 67)
 (.seq
 (.reg (oq 69 (.build [.int .i64 0, .int .i64 0, .int .u64 0, .bool false] [(0, 1, (.k (.int .i64 12))), (1, 1, (.k (.int .i64 4)))]) <|
 oz (.store 4 (.s 2) (.s 69)) <|
 oq 3 (.mv (.k (.bool true))) <|
 .nil) [2, 3])
 .ret)
 (.seq
 (.reg (oq 71 (.bin .eql (.s 40) (.k (.int .u8 203))) <|
 oq 70 (.mv (.s 71)) <|
 .nil) [2, 5, 40, 70])
 (.cond (.s 70)
 (.seq
 (.reg (oq 72 (.build [.int .i64 0, .int .i64 0, .int .u64 0, .bool false] [(0, 1, (.k (.int .i64 6))), (1, 1, (.k (.int .i64 8)))]) <|
 oz (.store 4 (.s 2) (.s 72)) <|
 oq 3 (.mv (.k (.bool true))) <|
 .nil) [2, 3])
 .ret)
 (.seq
 (.cut ⟨[(2, .same), (5, .same), (40, .same)], [.same]⟩ [(.nrm, ⟨[(2, .same), (5, .same), (40, .same), (73, .v)], [.same]⟩)]
 (.seq
 (.reg (oq 74 (.bin .eql (.s 40) (.k (.int .u8 204))) <|
 oq 73 (.mv (.s 74)) <|
 .nil) [2, 5, 40, 73])
 (.cond (.s 73)
 .skip
 (.seq
 (.reg (oq 75 (.bin .eql (.s 40) (.k (.int .u8 205))) <|
 oq 73 (.mv (.s 75)) <|
 .nil) [2, 5, 40, 73])
 (.cond (.s 73)
 .skip
 (.seq
 (.reg (oq 76 (.bin .eql (.s 40) (.k (.int .u8 206))) <|
 oq 73 (.mv (.s 76)) <|
 .nil) [2, 5, 40, 73])
 (.cond (.s 73)
 .skip
 (.reg (oq 77 (.bin .eql (.s 40) (.k (.int .u8 207))) <|
 oq 73 (.mv (.s 77)) <|
 .nil) [2, 5, 40, 73]))))))))
 (.cond (.s 73)
 (.seq
 (.reg (oq 78 (.mv (.s 5)) <|
 oq 79 (.bin .sub (.s 78) (.k (.int .i64 12))) <|
 oq 80 (.bin .shl (.k (.int .i64 1)) (.s 79)) <|
 oq 81 (.build [.int .i64 0, .int .i64 0, .int .u64 0, .bool false] [(0, 1, (.k (.int .i64 4))), (1, 1, (.s 80))]) <|
 oz (.store 4 (.s 2) (.s 81)) <|
 oq 3 (.mv (.k (.bool true))) <|
 .nil) [2, 3])
 .ret)
 (.seq
 (.cut ⟨[(2, .same), (5, .same), (40, .same)], [.same]⟩ [(.nrm, ⟨[(2, .same), (5, .same), (40, .same), (82, .v)], [.same]⟩)]
 (.seq
 (.reg (oq 83 (.bin .eql (.s 40) (.k (.int .u8 208))) <|
 oq 82 (.mv (.s 83)) <|
 .nil) [2, 5, 40, 82])
 (.cond (.s 82)
 .skip
 (.seq
 (.reg (oq 84 (.bin .eql (.s 40) (.k (.int .u8 209))) <|
 oq 82 (.mv (.s 84)) <|
 .nil) [2, 5, 40, 82])
 (.cond (.s 82)
 .skip
 (.seq
 (.reg (oq 85 (.bin .eql (.s 40) (.k (.int .u8 210))) <|
 oq 82 (.mv (.s 85)) <|
 .nil) [2, 5, 40, 82])
 (.cond (.s 82)
 .skip
 (.reg (oq 86 (.bin .eql (.s 40) (.k (.int .u8 211))) <|
 oq 82 (.mv (.s 86)) <|
 .nil) [2, 5, 40, 82]))))))))
 (.cond (.s 82)
 (.seq
 (.reg (oq 87 (.mv (.s 5)) <|
 oq 88 (.bin .shl (.k (.int .i64 1)) (.s 87)) <|
 oq 89 (.build [.int .i64 0, .int .i64 0, .int .u64 0, .bool false] [(0, 1, (.k (.int .i64 5))), (1, 1, (.s 88)), (3, 1, (.k (.bool true)))]) <|
 oz (.store 4 (.s 2) (.s 89)) <|
 oq 3 (.mv (.k (.bool true))) <|
 .nil) [2, 3])
 .ret)
 (.seq
 (.cut ⟨[(2, .same), (5, .same), (40, .same)], [.same]⟩ [(.nrm, ⟨[(2, .same), (5, .same), (40, .same), (90, .v)], [.same]⟩)]
 (.seq
 (.reg (oq 91 (.bin .eql (.s 40) (.k (.int .u8 212))) <|
 oq 90 (.mv (.s 91)) <|
 .nil) [2, 5, 40, 90])
 (.cond (.s 90)
 .skip
 (.seq
 (.reg (oq 92 (.bin .eql (.s 40) (.k (.int .u8 213))) <|
 oq 90 (.mv (.s 92)) <|
 .nil) [2, 5, 40, 90])
 (.cond (.s 90)
 .skip
 (.seq
 (.reg (oq 93 (.bin .eql (.s 40) (.k (.int .u8 214))) <|
 oq 90 (.mv (.s 93)) <|
 .nil) [2, 5, 40, 90])
 (.cond (.s 90)
 .skip
 (.seq
 (.reg (oq 94 (.bin .eql (.s 40) (.k (.int .u8 215))) <|
 oq 90 (.mv (.s 94)) <|
 .nil) [2, 5, 40, 90])
 (.cond (.s 90)
 .skip
 (.reg (oq 95 (.bin .eql (.s 40) (.k (.int .u8 216))) <|
 oq 90 (.mv (.s 95)) <|
 .nil) [2, 5, 40, 90]))))))))))
 (.cond (.s 90)
 (.seq
 (.reg (oq 96 (.mv (.s 5)) <|
 oq 97 (.bin .sub (.s 96) (.k (.int .i64 4))) <|
 oq 98 (.bin .shl (.k (.int .u64 1)) (.s 97)) <|
 oq 99 (.build [.int .i64 0, .int .i64 0, .int .u64 0, .bool false] [(0, 1, (.k (.int .i64 11))), (2, 1, (.s 98))]) <|
 oz (.store 4 (.s 2) (.s 99)) <|
 oq 3 (.mv (.k (.bool true))) <|
 .nil) [2, 3])
 .ret)
 (.seq
 (.cut ⟨[(2, .same), (5, .same), (40, .same)], [.same]⟩ [(.nrm, ⟨[(2, .same), (5, .same), (40, .same), (100, .v)], [.same]⟩)]
 (.seq
 (.reg (oq 101 (.bin .eql (.s 40) (.k (.int .u8 217))) <|
 oq 100 (.mv (.s 101)) <|
 .nil) [2, 5, 40, 100])
 (.cond (.s 100)
 .skip
 (.seq
 (.reg (oq 102 (.bin .eql (.s 40) (.k (.int .u8 218))) <|
 oq 100 (.mv (.s 102)) <|
 .nil) [2, 5, 40, 100])
 (.cond (.s 100)
 .skip
 (.reg (oq 103 (.bin .eql (.s 40) (.k (.int .u8 219))) <|
 oq 100 (.mv (.s 103)) <|
 .nil) [2, 5, 40, 100]))))))
 (.cond (.s 100)
 (.seq
 (.reg (oq 104 (.mv (.s 5)) <|
 oq 105 (.bin .sub (.s 104) (.k (.int .i64 9))) <|
 oq 106 (.bin .shl (.k (.int .i64 1)) (.s 105)) <|
 oq 107 (.build [.int .i64 0, .int .i64 0, .int .u64 0, .bool false] [(0, 1, (.k (.int .i64 7))), (1, 1, (.s 106))]) <|
 oz (.store 4 (.s 2) (.s 107)) <|
 oq 3 (.mv (.k (.bool true))) <|
 .nil) [2, 3])
 .ret)
 (.seq
 (.cut ⟨[(2, .same), (5, .same), (40, .same)], [.same]⟩ [(.nrm, ⟨[(2, .same), (5, .same), (40, .same), (108, .v)], [.same]⟩)]
 (.seq
 (.reg (oq 109 (.bin .eql (.s 40) (.k (.int .u8 220))) <|
 oq 108 (.mv (.s 109)) <|
 .nil) [2, 5, 40, 108])
 (.cond (.s 108)
 .skip
 (.reg (oq 110 (.bin .eql (.s 40) (.k (.int .u8 221))) <|
 oq 108 (.mv (.s 110)) <|
 .nil) [2, 5, 40, 108]))))
 (.cond (.s 108)
 (.seq
 (.reg (oq 111 (.mv (.s 5)) <|
 oq 112 (.bin .sub (.s 111) (.k (.int .i64 12))) <|
 oq 113 (.bin .shl (.k (.int .i64 2)) (.s 112)) <|
 oq 114 (.build [.int .i64 0, .int .i64 0, .int .u64 0, .bool false] [(0, 1, (.k (.int .i64 9))), (1, 1, (.s 113))]) <|
 oz (.store 4 (.s 2) (.s 114)) <|
 oq 3 (.mv (.k (.bool true))) <|
 .nil) [2, 3])
 .ret)
 (.seq
 (.cut ⟨[(2, .same), (5, .same), (40, .same)], [.same]⟩ [(.nrm, ⟨[(2, .same), (5, .same), (115, .v)], [.same]⟩)]
 (.seq
 (.reg (oq 116 (.bin .eql (.s 40) (.k (.int .u8 222))) <|
 oq 115 (.mv (.s 116)) <|
 .nil) [2, 5, 40, 115])
 (.cond (.s 115)
 .skip
 (.reg (oq 117 (.bin .eql (.s 40) (.k (.int .u8 223))) <|
 oq 115 (.mv (.s 117)) <|
 .nil) [2, 5, 115]))))
 (.cond (.s 115)
 (.seq
 (.reg (oq 118 (.mv (.s 5)) <|
 oq 119 (.bin .sub (.s 118) (.k (.int .i64 14))) <|
 oq 120 (.bin .shl (.k (.int .i64 2)) (.s 119)) <|
 oq 121 (.build [.int .i64 0, .int .i64 0, .int .u64 0, .bool false] [(0, 1, (.k (.int .i64 10))), (1, 1, (.s 120))]) <|
 oz (.store 4 (.s 2) (.s 121)) <|
 oq 3 (.mv (.k (.bool true))) <|
 .nil) [2, 3])
 .ret)
 .skip)))))))))))))))))))))))))))
 (.seq
 (.reg (oq 122 (.build [.int .i64 0, .int .i64 0, .int .u64 0, .bool false] []) <|
 oz (.store 4 (.s 2) (.s 122)) <|
 oq 3 (.mv (.k (.bool false))) <|
 .nil) [2, 3])
 .ret))))))
def p_mhead_of : PFn := ⟨[.cell 2 true 4, .tmp 3], q_mhead_of⟩
def n_mhead_of : Fn := ⟨1, [.cell 2 true 4, .tmp 3], false, false, erase q_mhead_of⟩
def tab0 : Nat → Option PFn := fun f => (match f with | 4 => some p_law11_MheadBack | 6 => some p_law11_awake | 7 => some p_mhead_Put | 9 => some p_mhead_Get | 11 => some p_law00_Place | 12 => some p_mhead_sized | 13 => some p_mhead_number | 14 => some p_mhead_bytes | 18 => some p_mhead_of | _ => none)
def fnTab : List (Nat × Fn) := [(f_law11_MheadBack, n_law11_MheadBack), (f_law11_awake, n_law11_awake), (f_mhead_Put, n_mhead_Put), (f_mhead_Get, n_mhead_Get), (f_law00_Place, n_law00_Place), (f_mhead_sized, n_mhead_sized), (f_mhead_number, n_mhead_number), (f_mhead_bytes, n_mhead_bytes), (f_mhead_of, n_mhead_of)]
def ex0 : Nat → Option (List D → List D → Option D) := fun _ => none
def E0 : Env := ⟨look fnTab, fun _ => none, ex0⟩
def md0 : Nat → Md := fun f => (match f with | 12 => .raw 1 | 13 => .raw 1 | 14 => .raw 1 | _ => .pl)
def tx0 : Nat → Option (List V → Option V) := fun _ => none
def gl0 : Gl := ⟨fun _ => none, md0, tx0⟩
noncomputable def P0 : PcT := pcL gl0 tab0
end Go.Ev
