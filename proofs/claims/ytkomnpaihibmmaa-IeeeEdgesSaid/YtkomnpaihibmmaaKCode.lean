/- The functions' code. -/
import Derived.Test.YtkomnpaihibmmaaKEvD
import Derived.Test.YtkomnpaihibmmaaKNums
set_option linter.all false
namespace Go.Ev
def q_law03_IeeeEdges : PC :=
 (.seq
  (.reg (.one ⟨some 0, .mv (.k (.bool false)), none⟩ <|
    .nil) [])
  (.seq
   (.reg (.one ⟨some 18, .build [(.int .u64 0), (.int .u64 0), (.int .u64 0), (.int .u64 0)] [(0, 1, (.k (.int .u64 16))), (1, 1, (.k (.int .u64 1))), (2, 1, (.k (.int .u64 31743))), (3, 1, (.k (.int .u64 31744)))], none⟩ <|
     .one ⟨some 19, .build [(.int .u64 0), (.int .u64 0), (.int .u64 0), (.int .u64 0)] [(0, 1, (.k (.int .u64 32))), (1, 1, (.k (.int .u64 1))), (2, 1, (.k (.int .u64 2139095039))), (3, 1, (.k (.int .u64 2139095040)))], none⟩ <|
     .one ⟨some 20, .build [(.int .u64 0), (.int .u64 0), (.int .u64 0), (.int .u64 0)] [(0, 1, (.k (.int .u64 64))), (1, 1, (.k (.int .u64 1))), (2, 1, (.k (.int .u64 9218868437227405311))), (3, 1, (.k (.int .u64 9218868437227405312)))], none⟩ <|
     .one ⟨some 21, .build [(.int .u64 0), (.int .u64 0), (.int .u64 0), (.int .u64 0), (.int .u64 0), (.int .u64 0), (.int .u64 0), (.int .u64 0), (.int .u64 0), (.int .u64 0), (.int .u64 0), (.int .u64 0)] [(0, 4, (.s 18)), (4, 4, (.s 19)), (8, 4, (.s 20))], none⟩ <|
     .one ⟨some 1, .alloc [(.int .u64 0), (.int .u64 0), (.int .u64 0), (.int .u64 0), (.int .u64 0), (.int .u64 0), (.int .u64 0), (.int .u64 0), (.int .u64 0), (.int .u64 0), (.int .u64 0), (.int .u64 0)], none⟩ <|
     .one ⟨none, .store 12 (.s 1) (.s 21), none⟩ <|
     .nil) [1])
   (.seq
    (.seq
     (.reg (.one ⟨some 2, .mv (.k (.int .i64 0)), none⟩ <|
       .nil) [1, 2])
     (.blk 0
      (.loop ⟨[(1, .same), (2, .v)], [.same]⟩ [((.ext 0), ⟨[], [.same]⟩), (.ret, ⟨[(0, .v)], [.same]⟩)]
       (.seq
        (.seq
         (.reg (.one ⟨some 22, .mv (.s 2), none⟩ <|
           .one ⟨some 23, .bin .lss (.s 22) (.k (.int .i64 3)), none⟩ <|
           .nil) [1, 2, 23])
         (.cond (.s 23)
          .skip
          (.exit 0)))
        (.seq
         (.blk 1
          (.seq
           (.reg (.one ⟨some 26, .mv (.s 2), none⟩ <|
             .one ⟨some 27, .iaa 3 4 (.s 1) (.s 26), none⟩ <|
             .one ⟨some 28, .iaa 4 1 (.s 27) (.k (.int .i64 0)), none⟩ <|
             .one ⟨some 29, .load false 1 (.s 28), none⟩ <|
             .one ⟨some 30, .cvi .i64 (.s 29), none⟩ <|
             .one ⟨some 3, .mv (.s 30), none⟩ <|
             .nil) [1, 2, 3])
           (.seq
            (.reg (.one ⟨some 32, .mv (.s 3), none⟩ <|
              .one ⟨some 33, .mv (.s 2), none⟩ <|
              .one ⟨some 34, .iaa 3 4 (.s 1) (.s 33), none⟩ <|
              .one ⟨some 35, .iaa 4 1 (.s 34) (.k (.int .i64 1)), none⟩ <|
              .one ⟨some 36, .load false 1 (.s 35), none⟩ <|
              .one ⟨some 37, .call f_ieee_Exact [(.s 32), (.s 36)], none⟩ <|
              .one ⟨some 31, .mv (.s 37), none⟩ <|
              .one ⟨some 38, .ext (.s 31) 0, none⟩ <|
              .one ⟨some 39, .ext (.s 31) 1, none⟩ <|
              .one ⟨some 4, .alloc [(.bool false), (.sl .full 0 []), (.int .i64 0)], none⟩ <|
              .one ⟨none, .store 3 (.s 4) (.s 38), none⟩ <|
              .one ⟨some 5, .mv (.s 39), none⟩ <|
              .nil) [1, 2, 3, 4, 5])
            (.seq
             (.reg (.one ⟨some 41, .mv (.s 3), none⟩ <|
               .one ⟨some 42, .mv (.s 2), none⟩ <|
               .one ⟨some 43, .iaa 3 4 (.s 1) (.s 42), none⟩ <|
               .one ⟨some 44, .iaa 4 1 (.s 43) (.k (.int .i64 2)), none⟩ <|
               .one ⟨some 45, .load false 1 (.s 44), none⟩ <|
               .one ⟨some 46, .call f_ieee_Exact [(.s 41), (.s 45)], none⟩ <|
               .one ⟨some 40, .mv (.s 46), none⟩ <|
               .one ⟨some 47, .ext (.s 40) 0, none⟩ <|
               .one ⟨some 48, .ext (.s 40) 1, none⟩ <|
               .one ⟨some 6, .alloc [(.bool false), (.sl .full 0 []), (.int .i64 0)], none⟩ <|
               .one ⟨none, .store 3 (.s 6) (.s 47), none⟩ <|
               .one ⟨some 7, .mv (.s 48), none⟩ <|
               .nil) [1, 2, 3, 4, 5, 6, 7])
             (.seq
              (.reg (.one ⟨some 50, .mv (.s 3), none⟩ <|
                .one ⟨some 51, .mv (.s 2), none⟩ <|
                .one ⟨some 52, .iaa 3 4 (.s 1) (.s 51), none⟩ <|
                .one ⟨some 53, .iaa 4 1 (.s 52) (.k (.int .i64 3)), none⟩ <|
                .one ⟨some 54, .load false 1 (.s 53), none⟩ <|
                .one ⟨some 55, .call f_ieee_Exact [(.s 50), (.s 54)], none⟩ <|
                .one ⟨some 49, .mv (.s 55), none⟩ <|
                .one ⟨some 56, .ext (.s 49) 0, none⟩ <|
                .one ⟨some 57, .ext (.s 49) 1, none⟩ <|
                .one ⟨some 8, .alloc [(.bool false), (.sl .full 0 []), (.int .i64 0)], none⟩ <|
                .one ⟨none, .store 3 (.s 8) (.s 56), none⟩ <|
                .one ⟨some 9, .mv (.s 57), none⟩ <|
                .nil) [1, 2, 3, 4, 5, 6, 7, 9])
              (.seq
               (.reg (.one ⟨some 59, .mv (.s 3), none⟩ <|
                 .one ⟨some 60, .load true 3 (.s 4), none⟩ <|
                 .one ⟨some 61, .call f_ieee_To [(.s 59), (.s 60)], none⟩ <|
                 .one ⟨some 58, .mv (.s 61), none⟩ <|
                 .one ⟨some 62, .ext (.s 58) 0, none⟩ <|
                 .one ⟨some 63, .ext (.s 58) 1, none⟩ <|
                 .one ⟨some 10, .mv (.s 62), none⟩ <|
                 .one ⟨some 11, .mv (.s 63), none⟩ <|
                 .nil) [1, 2, 3, 4, 5, 6, 7, 9, 10, 11])
               (.seq
                (.reg (.one ⟨some 65, .mv (.s 3), none⟩ <|
                  .one ⟨some 66, .load true 3 (.s 6), none⟩ <|
                  .one ⟨some 67, .call f_ieee_To [(.s 65), (.s 66)], none⟩ <|
                  .one ⟨some 64, .mv (.s 67), none⟩ <|
                  .one ⟨some 68, .ext (.s 64) 0, none⟩ <|
                  .one ⟨some 69, .ext (.s 64) 1, none⟩ <|
                  .one ⟨some 12, .mv (.s 68), none⟩ <|
                  .one ⟨some 13, .mv (.s 69), none⟩ <|
                  .nil) [1, 2, 3, 4, 5, 7, 9, 10, 11, 12, 13])
                (.seq
                 (.seq
                  (.reg (.one ⟨some 70, .mv (.s 5), none⟩ <|
                    .one ⟨some 71, .un .not (.s 70), none⟩ <|
                    .one ⟨some 72, .mv (.s 71), none⟩ <|
                    .grp 72 false (.one ⟨some 73, .mv (.s 7), none⟩ <|
                      .one ⟨some 74, .un .not (.s 73), none⟩ <|
                      .nil) 75 (.s 74) (.k (.bool true)) <|
                    .one ⟨some 76, .mv (.s 75), none⟩ <|
                    .grp 76 false (.one ⟨some 77, .mv (.s 9), none⟩ <|
                      .nil) 78 (.s 77) (.k (.bool true)) <|
                    .one ⟨some 79, .mv (.s 78), none⟩ <|
                    .grp 79 false (.one ⟨some 80, .mv (.s 11), none⟩ <|
                      .one ⟨some 81, .un .not (.s 80), none⟩ <|
                      .nil) 82 (.s 81) (.k (.bool true)) <|
                    .one ⟨some 83, .mv (.s 82), none⟩ <|
                    .grp 83 false (.one ⟨some 84, .mv (.s 13), none⟩ <|
                      .one ⟨some 85, .un .not (.s 84), none⟩ <|
                      .nil) 86 (.s 85) (.k (.bool true)) <|
                    .one ⟨some 87, .mv (.s 86), none⟩ <|
                    .grp 87 false (.one ⟨some 88, .mv (.s 10), none⟩ <|
                      .one ⟨some 89, .mv (.s 2), none⟩ <|
                      .one ⟨some 90, .iaa 3 4 (.s 1) (.s 89), none⟩ <|
                      .one ⟨some 91, .iaa 4 1 (.s 90) (.k (.int .i64 1)), none⟩ <|
                      .one ⟨some 92, .load false 1 (.s 91), none⟩ <|
                      .one ⟨some 93, .bin .neq (.s 88) (.s 92), none⟩ <|
                      .nil) 94 (.s 93) (.k (.bool true)) <|
                    .one ⟨some 95, .mv (.s 94), none⟩ <|
                    .grp 95 false (.one ⟨some 96, .mv (.s 12), none⟩ <|
                      .one ⟨some 97, .mv (.s 2), none⟩ <|
                      .one ⟨some 98, .iaa 3 4 (.s 1) (.s 97), none⟩ <|
                      .one ⟨some 99, .iaa 4 1 (.s 98) (.k (.int .i64 2)), none⟩ <|
                      .one ⟨some 100, .load false 1 (.s 99), none⟩ <|
                      .one ⟨some 101, .bin .neq (.s 96) (.s 100), none⟩ <|
                      .nil) 102 (.s 101) (.k (.bool true)) <|
                    .one ⟨some 103, .mv (.s 102), none⟩ <|
                    .grp 103 false (.one ⟨some 104, .mv (.s 3), none⟩ <|
                      .one ⟨some 105, .mv (.s 2), none⟩ <|
                      .one ⟨some 106, .iaa 3 4 (.s 1) (.s 105), none⟩ <|
                      .one ⟨some 107, .iaa 4 1 (.s 106) (.k (.int .i64 3)), none⟩ <|
                      .one ⟨some 108, .load false 1 (.s 107), none⟩ <|
                      .one ⟨some 109, .call f_ieee_Kind [(.s 104), (.s 108)], none⟩ <|
                      .one ⟨some 110, .bin .neq (.s 109) (.k (.int .i64 3)), none⟩ <|
                      .nil) 111 (.s 110) (.k (.bool true)) <|
                    .one ⟨some 112, .mv (.s 111), none⟩ <|
                    .grp 112 false (.one ⟨some 113, .mv (.s 3), none⟩ <|
                      .one ⟨some 114, .mv (.s 2), none⟩ <|
                      .one ⟨some 115, .iaa 3 4 (.s 1) (.s 114), none⟩ <|
                      .one ⟨some 116, .iaa 4 1 (.s 115) (.k (.int .i64 3)), none⟩ <|
                      .one ⟨some 117, .load false 1 (.s 116), none⟩ <|
                      .one ⟨some 118, .bin .add (.s 117) (.k (.int .u64 1)), none⟩ <|
                      .one ⟨some 119, .call f_ieee_Kind [(.s 113), (.s 118)], none⟩ <|
                      .one ⟨some 120, .bin .neq (.s 119) (.k (.int .i64 4)), none⟩ <|
                      .nil) 121 (.s 120) (.k (.bool true)) <|
                    .nil) [1, 2, 3, 4, 121])
                  (.cond (.s 121)
                   (.seq
                    (.reg (.one ⟨some 0, .mv (.k (.bool false)), none⟩ <|
                      .nil) [0])
                    .ret)
                   .skip))
                 (.seq
                  (.drw (.one ⟨some 14, .alloc [(.bool false), (.sl .full 0 []), (.int .i64 0)], none⟩ <|
                    .nil)
                   (.one ⟨some 123, .fad 1 (.s 4), none⟩ <|
                    .one ⟨some 124, .load false 1 (.s 123), none⟩ <|
                    .one ⟨some 125, .call f_law00_Limbs [(.s 124)], none⟩ <|
                    .one ⟨some 126, .lit 1 [(.int .u32 0)] [(0, 1, (.k (.int .u32 0)))], none⟩ <|
                    .one ⟨some 127, .app 1 4 (.s 125) (.s 126), none⟩ <|
                    .one ⟨some 128, .fad 2 (.s 4), none⟩ <|
                    .one ⟨some 129, .load false 1 (.s 128), none⟩ <|
                    .one ⟨some 130, .call f_ref02_Make [(.k (.bool false)), (.s 127), (.s 129)], none⟩ <|
                    .one ⟨some 122, .mv (.s 130), none⟩ <|
                    .one ⟨some 131, .ext (.s 122) 0, none⟩ <|
                    .one ⟨some 132, .ext (.s 122) 1, none⟩ <|
                    .nil)
                   (.one ⟨none, .store 3 (.s 14) (.s 131), none⟩ <|
                    .one ⟨some 15, .mv (.s 132), none⟩ <|
                    .nil) [1, 2, 3, 14])
                  (.seq
                   (.reg (.one ⟨some 134, .mv (.s 3), none⟩ <|
                     .one ⟨some 135, .load true 3 (.s 14), none⟩ <|
                     .one ⟨some 136, .call f_ieee_To [(.s 134), (.s 135)], none⟩ <|
                     .one ⟨some 133, .mv (.s 136), none⟩ <|
                     .one ⟨some 137, .ext (.s 133) 0, none⟩ <|
                     .one ⟨some 138, .ext (.s 133) 1, none⟩ <|
                     .one ⟨some 16, .mv (.s 137), none⟩ <|
                     .one ⟨some 17, .mv (.s 138), none⟩ <|
                     .nil) [1, 2, 17])
                   (.seq
                    (.reg (.one ⟨some 139, .mv (.s 17), none⟩ <|
                      .one ⟨some 140, .un .not (.s 139), none⟩ <|
                      .nil) [1, 2, 140])
                    (.cond (.s 140)
                     (.seq
                      (.reg (.one ⟨some 0, .mv (.k (.bool false)), none⟩ <|
                        .nil) [0])
                      .ret)
                     .skip))))))))))))
         (.reg (.one ⟨some 24, .mv (.s 2), none⟩ <|
           .one ⟨some 25, .bin .add (.s 24) (.k (.int .i64 1)), none⟩ <|
           .one ⟨some 2, .mv (.s 25), none⟩ <|
           .nil) [1, 2]))))))
    (.seq
     (.reg (.one ⟨some 141, .call f_law03_awake [], none⟩ <|
       .one ⟨some 0, .mv (.s 141), none⟩ <|
       .nil) [0])
     .ret))))
def p_law03_IeeeEdges : PFn := ⟨[.tmp 0], q_law03_IeeeEdges⟩
def c_law03_IeeeEdges : C := erase q_law03_IeeeEdges
def n_law03_IeeeEdges : Fn := ⟨0, [.tmp 0], false, false, erase q_law03_IeeeEdges⟩
def q_law03_awake : PC :=
 (.seq
  (.reg (.one ⟨some 0, .mv (.k (.bool false)), none⟩ <|
    .nil) [])
  (.seq
   (.reg (.one ⟨some 9, .call f_ieee_Exact [(.k (.int .i64 16)), (.k (.int .u64 15360))], none⟩ <|
     .one ⟨some 8, .mv (.s 9), none⟩ <|
     .one ⟨some 10, .ext (.s 8) 0, none⟩ <|
     .one ⟨some 11, .ext (.s 8) 1, none⟩ <|
     .one ⟨some 1, .alloc [(.bool false), (.sl .full 0 []), (.int .i64 0)], none⟩ <|
     .one ⟨none, .store 3 (.s 1) (.s 10), none⟩ <|
     .one ⟨some 2, .mv (.s 11), none⟩ <|
     .nil) [1, 2])
   (.seq
    (.reg (.one ⟨some 13, .lit 1 [(.int .u32 0)] [(0, 1, (.k (.int .u32 1)))], none⟩ <|
      .one ⟨some 14, .call f_ref02_Make [(.k (.bool false)), (.s 13), (.k (.int .i64 (-1)))], none⟩ <|
      .one ⟨some 12, .mv (.s 14), none⟩ <|
      .one ⟨some 15, .ext (.s 12) 0, none⟩ <|
      .one ⟨some 16, .ext (.s 12) 1, none⟩ <|
      .one ⟨some 3, .alloc [(.bool false), (.sl .full 0 []), (.int .i64 0)], none⟩ <|
      .one ⟨none, .store 3 (.s 3) (.s 15), none⟩ <|
      .one ⟨some 4, .mv (.s 16), none⟩ <|
      .nil) [1, 2, 3])
    (.seq
     (.reg (.one ⟨some 18, .load true 3 (.s 3), none⟩ <|
       .one ⟨some 19, .call f_ieee_Shortest [(.s 18)], none⟩ <|
       .one ⟨some 17, .mv (.s 19), none⟩ <|
       .one ⟨some 20, .ext (.s 17) 0, none⟩ <|
       .one ⟨some 21, .ext (.s 17) 1, none⟩ <|
       .one ⟨some 22, .ext (.s 17) 2, none⟩ <|
       .one ⟨some 5, .mv (.s 20), none⟩ <|
       .one ⟨some 6, .mv (.s 21), none⟩ <|
       .one ⟨some 7, .mv (.s 22), none⟩ <|
       .nil) [1, 2, 7])
     (.seq
      (.reg (.one ⟨some 23, .mv (.s 2), none⟩ <|
        .one ⟨some 24, .mv (.s 23), none⟩ <|
        .grp 24 true (.one ⟨some 25, .fad 1 (.s 1), none⟩ <|
          .one ⟨some 26, .load false 1 (.s 25), none⟩ <|
          .one ⟨some 27, .len (.s 26), none⟩ <|
          .one ⟨some 28, .bin .eql (.s 27) (.k (.int .i64 1)), none⟩ <|
          .nil) 29 (.s 28) (.k (.bool false)) <|
        .one ⟨some 30, .mv (.s 29), none⟩ <|
        .grp 30 true (.one ⟨some 31, .fad 1 (.s 1), none⟩ <|
          .one ⟨some 32, .load false 1 (.s 31), none⟩ <|
          .one ⟨some 33, .iad 1 (.s 32) (.k (.int .i64 0)), none⟩ <|
          .one ⟨some 34, .load false 1 (.s 33), none⟩ <|
          .one ⟨some 35, .bin .eql (.s 34) (.k (.int .u32 1)), none⟩ <|
          .nil) 36 (.s 35) (.k (.bool false)) <|
        .one ⟨some 37, .mv (.s 36), none⟩ <|
        .grp 37 true (.one ⟨some 38, .fad 2 (.s 1), none⟩ <|
          .one ⟨some 39, .load false 1 (.s 38), none⟩ <|
          .one ⟨some 40, .bin .eql (.s 39) (.k (.int .i64 0)), none⟩ <|
          .nil) 41 (.s 40) (.k (.bool false)) <|
        .one ⟨some 42, .mv (.s 41), none⟩ <|
        .grp 42 true (.one ⟨some 43, .mv (.s 7), none⟩ <|
          .one ⟨some 44, .un .not (.s 43), none⟩ <|
          .nil) 45 (.s 44) (.k (.bool false)) <|
        .one ⟨some 46, .mv (.s 45), none⟩ <|
        .grp 46 true (.one ⟨some 47, .call f_ieee_Kind [(.k (.int .i64 64)), (.k (.int .u64 9223372036854775808))], none⟩ <|
          .one ⟨some 48, .bin .eql (.s 47) (.k (.int .i64 2)), none⟩ <|
          .nil) 49 (.s 48) (.k (.bool false)) <|
        .one ⟨some 0, .mv (.s 49), none⟩ <|
        .nil) [0])
      .ret)))))
def p_law03_awake : PFn := ⟨[.tmp 0], q_law03_awake⟩
def c_law03_awake : C := erase q_law03_awake
def n_law03_awake : Fn := ⟨0, [.tmp 0], false, false, erase q_law03_awake⟩
def q_ieee_Exact : PC :=
 (.seq
  (.reg (.one ⟨some 4, .alloc [(.bool false), (.sl .full 0 []), (.int .i64 0)], none⟩ <|
    .one ⟨some 5, .mv (.k (.bool false)), none⟩ <|
    .nil) [0, 1, 4])
  (.seq
   (.seq
    (.reg (.one ⟨some 12, .mv (.s 0), none⟩ <|
      .one ⟨some 13, .mv (.s 1), none⟩ <|
      .one ⟨some 14, .call f_ieee_Kind [(.s 12), (.s 13)], none⟩ <|
      .nil) [0, 1, 4, 14])
    (.blk 0
     (.seq
      (.reg (.one ⟨some 17, .bin .eql (.s 14) (.k (.int .i64 2)), none⟩ <|
        .one ⟨some 16, .mv (.s 17), none⟩ <|
        .nil) [0, 1, 4, 14, 16])
      (.cond (.s 16)
       (.seq
        (.reg (.one ⟨some 18, .build [(.bool false), (.sl .full 0 []), (.int .i64 0)] [], none⟩ <|
          .one ⟨none, .store 3 (.s 4) (.s 18), none⟩ <|
          .one ⟨some 5, .mv (.k (.bool true)), none⟩ <|
          .nil) [4, 5])
        .ret)
       (.seq
        (.reg (.one ⟨some 20, .bin .eql (.s 14) (.k (.int .i64 1)), none⟩ <|
          .one ⟨some 19, .mv (.s 20), none⟩ <|
          .nil) [0, 1, 4, 19])
        (.cond (.s 19)
         .skip
         (.seq
          (.reg (.one ⟨some 15, .build [(.bool false), (.sl .full 0 []), (.int .i64 0)] [], none⟩ <|
            .one ⟨none, .store 3 (.s 4) (.s 15), none⟩ <|
            .one ⟨some 5, .mv (.k (.bool false)), none⟩ <|
            .nil) [4, 5])
          .ret)))))))
   (.seq
    (.reg (.one ⟨some 22, .mv (.s 0), none⟩ <|
      .one ⟨some 23, .call f_ieee_of [(.s 22)], none⟩ <|
      .one ⟨some 21, .mv (.s 23), none⟩ <|
      .one ⟨some 24, .ext (.s 21) 0, none⟩ <|
      .one ⟨some 25, .ext (.s 21) 1, none⟩ <|
      .one ⟨some 6, .alloc [(.int .i64 0), (.int .i64 0)], none⟩ <|
      .one ⟨none, .store 2 (.s 6) (.s 24), none⟩ <|
      .one ⟨some 7, .mv (.s 25), none⟩ <|
      .nil) [1, 4, 6])
    (.seq
     (.reg (.one ⟨some 27, .load true 2 (.s 6), none⟩ <|
       .one ⟨some 28, .mv (.s 1), none⟩ <|
       .one ⟨some 29, .call f_ieee_form_cut [(.s 27), (.s 28)], none⟩ <|
       .one ⟨some 26, .mv (.s 29), none⟩ <|
       .one ⟨some 30, .ext (.s 26) 0, none⟩ <|
       .one ⟨some 31, .ext (.s 26) 1, none⟩ <|
       .one ⟨some 32, .ext (.s 26) 2, none⟩ <|
       .one ⟨some 8, .mv (.s 30), none⟩ <|
       .one ⟨some 9, .mv (.s 31), none⟩ <|
       .one ⟨some 10, .mv (.s 32), none⟩ <|
       .nil) [4, 6, 8, 9, 10])
     (.seq
      (.cut ⟨[(4, .same), (6, .same), (8, .same), (9, .v), (10, .v)], [.same, .same]⟩ [(.nrm, ⟨[(4, .same), (6, .same), (8, .same), (9, .v), (10, .v)], [.same, .same]⟩)]
      (.seq
       (.reg (.one ⟨some 33, .mv (.s 9), none⟩ <|
         .one ⟨some 34, .bin .gtr (.s 33) (.k (.int .i64 0)), none⟩ <|
         .nil) [4, 6, 8, 9, 10, 34])
       (.cond (.s 34)
        (.seq
         (.reg (.one ⟨some 35, .mv (.s 10), none⟩ <|
           .one ⟨some 36, .fad 1 (.s 6), none⟩ <|
           .one ⟨some 37, .load false 1 (.s 36), none⟩ <|
           .one ⟨some 38, .bin .shl (.k (.int .u64 1)) (.s 37), none⟩ <|
           .one ⟨some 39, .bin .or (.s 35) (.s 38), none⟩ <|
           .one ⟨some 10, .mv (.s 39), none⟩ <|
           .nil) [4, 6, 8, 9, 10])
         (.reg (.one ⟨some 40, .mv (.s 9), none⟩ <|
           .one ⟨some 41, .bin .sub (.s 40) (.k (.int .i64 1)), none⟩ <|
           .one ⟨some 9, .mv (.s 41), none⟩ <|
           .nil) [4, 6, 8, 9, 10]))
        .skip)))
      (.seq
       (.reg (.one ⟨some 42, .mv (.s 9), none⟩ <|
         .one ⟨some 43, .load true 2 (.s 6), none⟩ <|
         .one ⟨some 44, .call f_ieee_form_least [(.s 43)], none⟩ <|
         .one ⟨some 45, .bin .add (.s 42) (.s 44), none⟩ <|
         .one ⟨some 11, .mv (.s 45), none⟩ <|
         .nil) [4, 8, 10, 11])
       (.seq
        (.seq
         (.reg (.one ⟨some 46, .mv (.s 11), none⟩ <|
           .one ⟨some 47, .bin .geq (.s 46) (.k (.int .i64 0)), none⟩ <|
           .nil) [4, 8, 10, 11, 47])
         (.cond (.s 47)
          (.seq
           (.reg (.one ⟨some 48, .mv (.s 8), none⟩ <|
             .one ⟨some 49, .mv (.s 10), none⟩ <|
             .one ⟨some 50, .call f_ieee_limbs [(.s 49)], none⟩ <|
             .one ⟨some 51, .mv (.s 11), none⟩ <|
             .one ⟨some 52, .call f_nat_Pow [(.k (.int .u32 2)), (.s 51)], none⟩ <|
             .one ⟨some 53, .call f_nat_Mul [(.s 50), (.s 52)], none⟩ <|
             .one ⟨some 54, .call f_num_Make [(.s 48), (.s 53), (.k (.int .i64 0))], none⟩ <|
             .one ⟨some 55, .ext (.s 54) 0, none⟩ <|
             .one ⟨some 56, .ext (.s 54) 1, none⟩ <|
             .one ⟨none, .store 3 (.s 4) (.s 55), none⟩ <|
             .one ⟨some 5, .mv (.s 56), none⟩ <|
             .nil) [4, 5])
           .ret)
          .skip))
        (.seq
         (.blk 1
          (.loop ⟨[(4, .same), (8, .same), (10, .v), (11, .v)], [(.cells [.v, .v, .v]), .same]⟩ [((.ext 1), ⟨[(4, .same), (8, .same), (10, .v), (11, .v)], [(.box 3), .same]⟩), (.ret, ⟨[(4, .same), (5, .v)], [(.box 3), .same]⟩)]
           (.seq
            (.seq
             (.reg (.one ⟨some 57, .mv (.s 10), none⟩ <|
               .one ⟨some 58, .bin .and (.s 57) (.k (.int .u64 1)), none⟩ <|
               .one ⟨some 59, .bin .eql (.s 58) (.k (.int .u64 0)), none⟩ <|
               .nil) [4, 8, 10, 11, 59])
             (.cond (.s 59)
              .skip
              (.exit 1)))
            (.blk 2
             (.seq
              (.reg (.one ⟨some 60, .mv (.s 10), none⟩ <|
                .one ⟨some 61, .bin .shr (.s 60) (.k (.int .u64 1)), none⟩ <|
                .one ⟨some 10, .mv (.s 61), none⟩ <|
                .nil) [4, 8, 10, 11])
              (.seq
               (.reg (.one ⟨some 62, .mv (.s 11), none⟩ <|
                 .one ⟨some 63, .bin .add (.s 62) (.k (.int .i64 1)), none⟩ <|
                 .one ⟨some 11, .mv (.s 63), none⟩ <|
                 .nil) [4, 8, 10, 11])
               (.seq
                (.reg (.one ⟨some 64, .mv (.s 11), none⟩ <|
                  .one ⟨some 65, .bin .eql (.s 64) (.k (.int .i64 0)), none⟩ <|
                  .nil) [4, 8, 10, 11, 65])
                (.cond (.s 65)
                 (.seq
                  (.reg (.one ⟨some 66, .mv (.s 8), none⟩ <|
                    .one ⟨some 67, .mv (.s 10), none⟩ <|
                    .one ⟨some 68, .call f_ieee_limbs [(.s 67)], none⟩ <|
                    .one ⟨some 69, .call f_num_Make [(.s 66), (.s 68), (.k (.int .i64 0))], none⟩ <|
                    .one ⟨some 70, .ext (.s 69) 0, none⟩ <|
                    .one ⟨some 71, .ext (.s 69) 1, none⟩ <|
                    .one ⟨none, .store 3 (.s 4) (.s 70), none⟩ <|
                    .one ⟨some 5, .mv (.s 71), none⟩ <|
                    .nil) [4, 5])
                  .ret)
                 .skip))))))))
         (.seq
          (.reg (.one ⟨some 72, .mv (.s 8), none⟩ <|
            .one ⟨some 73, .mv (.s 10), none⟩ <|
            .one ⟨some 74, .call f_ieee_limbs [(.s 73)], none⟩ <|
            .one ⟨some 75, .mv (.s 11), none⟩ <|
            .one ⟨some 76, .un .neg (.s 75), none⟩ <|
            .one ⟨some 77, .call f_nat_Pow [(.k (.int .u32 5)), (.s 76)], none⟩ <|
            .one ⟨some 78, .call f_nat_Mul [(.s 74), (.s 77)], none⟩ <|
            .one ⟨some 79, .mv (.s 11), none⟩ <|
            .one ⟨some 80, .call f_num_Make [(.s 72), (.s 78), (.s 79)], none⟩ <|
            .one ⟨some 81, .ext (.s 80) 0, none⟩ <|
            .one ⟨some 82, .ext (.s 80) 1, none⟩ <|
            .one ⟨none, .store 3 (.s 4) (.s 81), none⟩ <|
            .one ⟨some 5, .mv (.s 82), none⟩ <|
            .nil) [4, 5])
          .ret)))))))))
def p_ieee_Exact : PFn := ⟨[.cell 4 true 3, .tmp 5], q_ieee_Exact⟩
def c_ieee_Exact : C := erase q_ieee_Exact
def n_ieee_Exact : Fn := ⟨2, [.cell 4 true 3, .tmp 5], false, false, erase q_ieee_Exact⟩
def q_ieee_To : PC :=
 (.seq
  (.reg (.box 3 3 (.s 1) <|
    .one ⟨some 4, .mv (.k (.int .u64 0)), none⟩ <|
    .one ⟨some 5, .mv (.k (.bool false)), none⟩ <|
    .nil) [0, 3])
  (.seq
   (.reg (.one ⟨some 16, .mv (.s 0), none⟩ <|
     .one ⟨some 17, .call f_ieee_of [(.s 16)], none⟩ <|
     .one ⟨some 15, .mv (.s 17), none⟩ <|
     .one ⟨some 18, .ext (.s 15) 0, none⟩ <|
     .one ⟨some 19, .ext (.s 15) 1, none⟩ <|
     .one ⟨some 6, .alloc [(.int .i64 0), (.int .i64 0)], none⟩ <|
     .one ⟨none, .store 2 (.s 6) (.s 18), none⟩ <|
     .one ⟨some 7, .mv (.s 19), none⟩ <|
     .nil) [3, 6, 7])
   (.seq
    (.cut ⟨[(3, .same), (6, .same), (7, .same)], [(.box 3), .same]⟩ [(.nrm, ⟨[(3, .same), (6, .same), (7, .same)], [(.cells [.v, .v, .v]), .same]⟩)]
    (.seq
     (.reg (.one ⟨some 20, .mv (.s 7), none⟩ <|
       .one ⟨some 21, .un .not (.s 20), none⟩ <|
       .one ⟨some 22, .mv (.s 21), none⟩ <|
       .grp 22 false (.one ⟨some 23, .load true 3 (.s 3), none⟩ <|
         .one ⟨some 24, .call f_num_Check [(.s 23)], none⟩ <|
         .one ⟨some 25, .un .not (.s 24), none⟩ <|
         .nil) 26 (.s 25) (.k (.bool true)) <|
       .nil) [3, 6, 7, 26])
     (.cond (.s 26)
      (.reg (.one ⟨some 27, .build [(.bool false), (.sl .full 0 []), (.int .i64 0)] [], none⟩ <|
        .one ⟨none, .store 3 (.s 3) (.s 27), none⟩ <|
        .nil) [3, 6, 7])
      .skip)))
    (.seq
     (.seq
      (.reg (.one ⟨some 28, .mv (.s 7), none⟩ <|
        .one ⟨some 29, .un .not (.s 28), none⟩ <|
        .one ⟨some 30, .mv (.s 29), none⟩ <|
        .grp 30 false (.one ⟨some 31, .fad 1 (.s 3), none⟩ <|
          .one ⟨some 32, .load false 1 (.s 31), none⟩ <|
          .one ⟨some 33, .len (.s 32), none⟩ <|
          .one ⟨some 34, .bin .eql (.s 33) (.k (.int .i64 0)), none⟩ <|
          .nil) 35 (.s 34) (.k (.bool true)) <|
        .nil) [3, 6, 7, 35])
      (.cond (.s 35)
       (.seq
        (.reg (.one ⟨some 36, .mv (.s 7), none⟩ <|
          .one ⟨some 4, .mv (.k (.int .u64 0)), none⟩ <|
          .one ⟨some 5, .mv (.s 36), none⟩ <|
          .nil) [4, 5])
        .ret)
       .skip))
     (.seq
      (.drw (.nil)
       (.one ⟨some 37, .fad 1 (.s 3), none⟩ <|
        .one ⟨some 38, .load false 1 (.s 37), none⟩ <|
        .one ⟨some 39, .fad 2 (.s 3), none⟩ <|
        .one ⟨some 40, .load false 1 (.s 39), none⟩ <|
        .one ⟨some 41, .call f_nat_Pow [(.k (.int .u32 5)), (.s 40)], none⟩ <|
        .nil)
       (.one ⟨some 42, .call f_nat_Mul [(.s 38), (.s 41)], none⟩ <|
        .one ⟨some 8, .mv (.s 42), none⟩ <|
        .one ⟨some 9, .mv (.k (.sl .full 0 [])), none⟩ <|
        .nil) [3, 6, 8, 9])
      (.seq
       (.cut ⟨[(3, .same), (6, .same), (8, .v), (9, .v)], [.same, .same]⟩ [(.nrm, ⟨[(3, .same), (6, .same), (8, .v), (9, .v)], [.same, .same]⟩)]
       (.seq
        (.reg (.one ⟨some 43, .fad 2 (.s 3), none⟩ <|
          .one ⟨some 44, .load false 1 (.s 43), none⟩ <|
          .one ⟨some 45, .bin .lss (.s 44) (.k (.int .i64 0)), none⟩ <|
          .nil) [3, 6, 8, 9, 45])
        (.cond (.s 45)
         (.drw (.nil)
          (.one ⟨some 47, .fad 1 (.s 3), none⟩ <|
           .one ⟨some 48, .load false 1 (.s 47), none⟩ <|
           .one ⟨some 49, .fad 2 (.s 3), none⟩ <|
           .one ⟨some 50, .load false 1 (.s 49), none⟩ <|
           .one ⟨some 51, .un .neg (.s 50), none⟩ <|
           .one ⟨some 52, .call f_nat_Pow [(.k (.int .u32 5)), (.s 51)], none⟩ <|
           .one ⟨some 53, .call f_nat_Div [(.s 48), (.s 52)], none⟩ <|
           .one ⟨some 46, .mv (.s 53), none⟩ <|
           .one ⟨some 54, .ext (.s 46) 0, none⟩ <|
           .one ⟨some 55, .ext (.s 46) 1, none⟩ <|
           .one ⟨some 8, .mv (.s 54), none⟩ <|
           .nil)
          (.one ⟨some 9, .mv (.s 55), none⟩ <|
           .nil) [3, 6, 8, 9])
         .skip)))
       (.seq
        (.seq
         (.reg (.one ⟨some 56, .mv (.s 9), none⟩ <|
           .one ⟨some 57, .len (.s 56), none⟩ <|
           .one ⟨some 58, .bin .gtr (.s 57) (.k (.int .i64 0)), none⟩ <|
           .nil) [3, 6, 8, 58])
         (.cond (.s 58)
          (.seq
           (.reg (.one ⟨some 4, .mv (.k (.int .u64 0)), none⟩ <|
             .one ⟨some 5, .mv (.k (.bool false)), none⟩ <|
             .nil) [4, 5])
           .ret)
          .skip))
        (.seq
         (.reg (.one ⟨some 60, .mv (.s 8), none⟩ <|
           .one ⟨some 61, .call f_ieee_odd [(.s 60)], none⟩ <|
           .one ⟨some 59, .mv (.s 61), none⟩ <|
           .one ⟨some 62, .ext (.s 59) 0, none⟩ <|
           .one ⟨some 63, .ext (.s 59) 1, none⟩ <|
           .one ⟨some 8, .mv (.s 62), none⟩ <|
           .one ⟨some 10, .mv (.s 63), none⟩ <|
           .nil) [3, 6, 8, 10])
         (.seq
          (.drw (.nil)
           (.one ⟨some 64, .fad 2 (.s 3), none⟩ <|
            .one ⟨some 65, .load false 1 (.s 64), none⟩ <|
            .one ⟨some 66, .mv (.s 10), none⟩ <|
            .one ⟨some 67, .bin .add (.s 65) (.s 66), none⟩ <|
            .one ⟨some 68, .mv (.s 8), none⟩ <|
            .one ⟨some 69, .call f_nat_Bits [(.s 68)], none⟩ <|
            .nil)
           (.one ⟨some 11, .mv (.s 67), none⟩ <|
            .one ⟨some 12, .mv (.s 69), none⟩ <|
            .nil) [3, 6, 8, 11, 12])
          (.seq
           (.seq
            (.reg (.one ⟨some 70, .mv (.s 12), none⟩ <|
              .one ⟨some 71, .fad 1 (.s 6), none⟩ <|
              .one ⟨some 72, .load false 1 (.s 71), none⟩ <|
              .one ⟨some 73, .bin .add (.s 72) (.k (.int .i64 1)), none⟩ <|
              .one ⟨some 74, .bin .gtr (.s 70) (.s 73), none⟩ <|
              .one ⟨some 75, .mv (.s 74), none⟩ <|
              .grp 75 false (.one ⟨some 76, .mv (.s 11), none⟩ <|
                .one ⟨some 77, .load true 2 (.s 6), none⟩ <|
                .one ⟨some 78, .call f_ieee_form_least [(.s 77)], none⟩ <|
                .one ⟨some 79, .bin .lss (.s 76) (.s 78), none⟩ <|
                .nil) 80 (.s 79) (.k (.bool true)) <|
              .one ⟨some 81, .mv (.s 80), none⟩ <|
              .grp 81 false (.one ⟨some 82, .mv (.s 11), none⟩ <|
                .one ⟨some 83, .mv (.s 12), none⟩ <|
                .one ⟨some 84, .bin .add (.s 82) (.s 83), none⟩ <|
                .one ⟨some 85, .bin .sub (.s 84) (.k (.int .i64 1)), none⟩ <|
                .one ⟨some 86, .load true 2 (.s 6), none⟩ <|
                .one ⟨some 87, .call f_ieee_form_bias [(.s 86)], none⟩ <|
                .one ⟨some 88, .bin .gtr (.s 85) (.s 87), none⟩ <|
                .nil) 89 (.s 88) (.k (.bool true)) <|
              .nil) [3, 6, 8, 11, 12, 89])
            (.cond (.s 89)
             (.seq
              (.reg (.one ⟨some 4, .mv (.k (.int .u64 0)), none⟩ <|
                .one ⟨some 5, .mv (.k (.bool false)), none⟩ <|
                .nil) [4, 5])
              .ret)
             .skip))
           (.seq
            (.reg (.one ⟨some 90, .mv (.s 8), none⟩ <|
              .one ⟨some 91, .iad 1 (.s 90) (.k (.int .i64 0)), none⟩ <|
              .one ⟨some 92, .load false 1 (.s 91), none⟩ <|
              .one ⟨some 93, .cvi .u64 (.s 92), none⟩ <|
              .one ⟨some 13, .mv (.s 93), none⟩ <|
              .nil) [3, 6, 8, 11, 12, 13])
            (.seq
             (.cut ⟨[(3, .same), (6, .same), (8, .same), (11, .same), (12, .same), (13, .v)], [.same, .same]⟩ [(.nrm, ⟨[(3, .same), (6, .same), (11, .same), (12, .same), (13, .v)], [.same, .same]⟩)]
             (.seq
              (.reg (.one ⟨some 94, .mv (.s 8), none⟩ <|
                .one ⟨some 95, .len (.s 94), none⟩ <|
                .one ⟨some 96, .bin .gtr (.s 95) (.k (.int .i64 1)), none⟩ <|
                .nil) [3, 6, 8, 11, 12, 13, 96])
              (.cond (.s 96)
               (.reg (.one ⟨some 97, .mv (.s 13), none⟩ <|
                 .one ⟨some 98, .mv (.s 8), none⟩ <|
                 .one ⟨some 99, .iad 1 (.s 98) (.k (.int .i64 1)), none⟩ <|
                 .one ⟨some 100, .load false 1 (.s 99), none⟩ <|
                 .one ⟨some 101, .cvi .u64 (.s 100), none⟩ <|
                 .one ⟨some 102, .bin .shl (.s 101) (.k (.int .u64 32)), none⟩ <|
                 .one ⟨some 103, .bin .or (.s 97) (.s 102), none⟩ <|
                 .one ⟨some 13, .mv (.s 103), none⟩ <|
                 .nil) [3, 6, 11, 12, 13])
               .skip)))
             (.seq
              (.reg (.one ⟨some 104, .mv (.s 11), none⟩ <|
                .one ⟨some 105, .mv (.s 12), none⟩ <|
                .one ⟨some 106, .bin .add (.s 104) (.s 105), none⟩ <|
                .one ⟨some 107, .bin .sub (.s 106) (.k (.int .i64 1)), none⟩ <|
                .one ⟨some 108, .load true 2 (.s 6), none⟩ <|
                .one ⟨some 109, .call f_ieee_form_bias [(.s 108)], none⟩ <|
                .one ⟨some 110, .bin .add (.s 107) (.s 109), none⟩ <|
                .one ⟨some 14, .mv (.s 110), none⟩ <|
                .nil) [3, 6, 11, 12, 13, 14])
              (.seq
               (.cut ⟨[(3, .same), (6, .same), (11, .same), (12, .same), (13, .v), (14, .same)], [.same, .same]⟩ [(.nrm, ⟨[(3, .same), (6, .same), (13, .v)], [.same, .same]⟩)]
               (.seq
                (.reg (.one ⟨some 111, .mv (.s 14), none⟩ <|
                  .one ⟨some 112, .bin .geq (.s 111) (.k (.int .i64 1)), none⟩ <|
                  .nil) [3, 6, 11, 12, 13, 14, 112])
                (.cond (.s 112)
                 (.drw (.nil)
                  (.one ⟨some 113, .mv (.s 13), none⟩ <|
                   .one ⟨some 114, .fad 1 (.s 6), none⟩ <|
                   .one ⟨some 115, .load false 1 (.s 114), none⟩ <|
                   .one ⟨some 116, .bin .add (.s 115) (.k (.int .i64 1)), none⟩ <|
                   .one ⟨some 117, .mv (.s 12), none⟩ <|
                   .one ⟨some 118, .bin .sub (.s 116) (.s 117), none⟩ <|
                   .one ⟨some 119, .bin .shl (.s 113) (.s 118), none⟩ <|
                   .one ⟨some 120, .fad 1 (.s 6), none⟩ <|
                   .one ⟨some 121, .load false 1 (.s 120), none⟩ <|
                   .one ⟨some 122, .bin .shl (.k (.int .u64 1)) (.s 121), none⟩ <|
                   .one ⟨some 123, .bin .sub (.s 122) (.k (.int .u64 1)), none⟩ <|
                   .one ⟨some 124, .bin .and (.s 119) (.s 123), none⟩ <|
                   .one ⟨some 125, .mv (.s 14), none⟩ <|
                   .one ⟨some 126, .cvi .u64 (.s 125), none⟩ <|
                   .one ⟨some 127, .fad 1 (.s 6), none⟩ <|
                   .one ⟨some 128, .load false 1 (.s 127), none⟩ <|
                   .one ⟨some 129, .bin .shl (.s 126) (.s 128), none⟩ <|
                   .nil)
                  (.one ⟨some 130, .bin .or (.s 124) (.s 129), none⟩ <|
                   .one ⟨some 13, .mv (.s 130), none⟩ <|
                   .nil) [3, 6, 13])
                 (.reg (.one ⟨some 131, .mv (.s 13), none⟩ <|
                   .one ⟨some 132, .mv (.s 11), none⟩ <|
                   .one ⟨some 133, .load true 2 (.s 6), none⟩ <|
                   .one ⟨some 134, .call f_ieee_form_least [(.s 133)], none⟩ <|
                   .one ⟨some 135, .bin .sub (.s 132) (.s 134), none⟩ <|
                   .one ⟨some 136, .bin .shl (.s 131) (.s 135), none⟩ <|
                   .one ⟨some 13, .mv (.s 136), none⟩ <|
                   .nil) [3, 6, 13]))))
               (.seq
                (.cut ⟨[(3, .same), (6, .same), (13, .v)], [.same, .same]⟩ [(.nrm, ⟨[(13, .v)], [.same, .same]⟩)]
                (.seq
                 (.reg (.one ⟨some 137, .fad 0 (.s 3), none⟩ <|
                   .one ⟨some 138, .load false 1 (.s 137), none⟩ <|
                   .nil) [6, 13, 138])
                 (.cond (.s 138)
                  (.reg (.one ⟨some 139, .mv (.s 13), none⟩ <|
                    .one ⟨some 140, .fad 0 (.s 6), none⟩ <|
                    .one ⟨some 141, .load false 1 (.s 140), none⟩ <|
                    .one ⟨some 142, .fad 1 (.s 6), none⟩ <|
                    .one ⟨some 143, .load false 1 (.s 142), none⟩ <|
                    .one ⟨some 144, .bin .add (.s 141) (.s 143), none⟩ <|
                    .one ⟨some 145, .bin .shl (.k (.int .u64 1)) (.s 144), none⟩ <|
                    .one ⟨some 146, .bin .or (.s 139) (.s 145), none⟩ <|
                    .one ⟨some 13, .mv (.s 146), none⟩ <|
                    .nil) [13])
                  .skip)))
                (.seq
                 (.reg (.one ⟨some 147, .mv (.s 13), none⟩ <|
                   .one ⟨some 4, .mv (.s 147), none⟩ <|
                   .one ⟨some 5, .mv (.k (.bool true)), none⟩ <|
                   .nil) [4, 5])
                 .ret))))))))))))))))
def p_ieee_To : PFn := ⟨[.tmp 4, .tmp 5], q_ieee_To⟩
def c_ieee_To : C := erase q_ieee_To
def n_ieee_To : Fn := ⟨2, [.tmp 4, .tmp 5], false, false, erase q_ieee_To⟩
def q_ieee_Shortest : PC :=
 (.seq
  (.reg (.box 3 1 (.s 0) <|
    .one ⟨some 2, .mv (.k (.int .i64 0)), none⟩ <|
    .one ⟨some 3, .mv (.k (.int .u64 0)), none⟩ <|
    .one ⟨some 4, .mv (.k (.bool false)), none⟩ <|
    .nil) [1])
  (.seq
   (.seq
    (.reg (.one ⟨some 9, .lit 3 [(.int .i64 0)] [(0, 1, (.k (.int .i64 16))), (1, 1, (.k (.int .i64 32))), (2, 1, (.k (.int .i64 64)))], none⟩ <|
      .one ⟨some 10, .len (.s 9), none⟩ <|
      .one ⟨some 11, .mv (.k (.int .i64 0)), none⟩ <|
      .nil) [1, 9, 10, 11])
    (.blk 0
     (.loop ⟨[(1, .same), (9, .same), (10, .same), (11, .v)], [.same]⟩ [((.ext 0), ⟨[], [.same]⟩), (.ret, ⟨[(2, .v), (3, .v), (4, .v)], [.same]⟩)]
      (.seq
       (.reg (.one ⟨some 12, .bin .lss (.s 11) (.s 10), none⟩ <|
         .nil) [1, 9, 10, 11, 12])
       (.seq
        (.cond (.s 12)
         .skip
         (.exit 0))
        (.seq
         (.blk 1
          (.seq
           (.reg (.one ⟨some 13, .iad 1 (.s 9) (.s 11), none⟩ <|
             .one ⟨some 14, .load false 1 (.s 13), none⟩ <|
             .one ⟨some 6, .mv (.s 14), none⟩ <|
             .nil) [1, 6, 9, 10, 11])
           (.seq
            (.reg (.one ⟨some 16, .mv (.s 6), none⟩ <|
              .one ⟨some 17, .load true 3 (.s 1), none⟩ <|
              .one ⟨some 18, .call f_ieee_To [(.s 16), (.s 17)], none⟩ <|
              .one ⟨some 15, .mv (.s 18), none⟩ <|
              .one ⟨some 19, .ext (.s 15) 0, none⟩ <|
              .one ⟨some 20, .ext (.s 15) 1, none⟩ <|
              .one ⟨some 7, .mv (.s 19), none⟩ <|
              .one ⟨some 8, .mv (.s 20), none⟩ <|
              .nil) [1, 6, 7, 8, 9, 10, 11])
            (.seq
             (.reg (.one ⟨some 21, .mv (.s 8), none⟩ <|
               .nil) [1, 6, 7, 9, 10, 11, 21])
             (.cond (.s 21)
              (.seq
               (.reg (.one ⟨some 22, .mv (.s 6), none⟩ <|
                 .one ⟨some 23, .mv (.s 7), none⟩ <|
                 .one ⟨some 2, .mv (.s 22), none⟩ <|
                 .one ⟨some 3, .mv (.s 23), none⟩ <|
                 .one ⟨some 4, .mv (.k (.bool true)), none⟩ <|
                 .nil) [2, 3, 4])
               .ret)
              .skip)))))
         (.reg (.one ⟨some 24, .bin .add (.s 11) (.k (.int .i64 1)), none⟩ <|
           .one ⟨some 11, .mv (.s 24), none⟩ <|
           .nil) [1, 9, 10, 11])))))))
   (.seq
    (.reg (.one ⟨some 2, .mv (.k (.int .i64 0)), none⟩ <|
      .one ⟨some 3, .mv (.k (.int .u64 0)), none⟩ <|
      .one ⟨some 4, .mv (.k (.bool false)), none⟩ <|
      .nil) [2, 3, 4])
    .ret)))
def p_ieee_Shortest : PFn := ⟨[.tmp 2, .tmp 3, .tmp 4], q_ieee_Shortest⟩
def c_ieee_Shortest : C := erase q_ieee_Shortest
def n_ieee_Shortest : Fn := ⟨1, [.tmp 2, .tmp 3, .tmp 4], false, false, erase q_ieee_Shortest⟩
def q_ieee_Kind : PC :=
 (.seq
  (.reg (.one ⟨some 4, .mv (.k (.int .i64 0)), none⟩ <|
    .nil) [0, 1])
  (.seq
   (.reg (.one ⟨some 11, .mv (.s 0), none⟩ <|
     .one ⟨some 12, .call f_ieee_of [(.s 11)], none⟩ <|
     .one ⟨some 10, .mv (.s 12), none⟩ <|
     .one ⟨some 13, .ext (.s 10) 0, none⟩ <|
     .one ⟨some 14, .ext (.s 10) 1, none⟩ <|
     .one ⟨some 5, .alloc [(.int .i64 0), (.int .i64 0)], none⟩ <|
     .one ⟨none, .store 2 (.s 5) (.s 13), none⟩ <|
     .one ⟨some 6, .mv (.s 14), none⟩ <|
     .nil) [1, 5, 6])
   (.seq
    (.seq
     (.reg (.one ⟨some 15, .mv (.s 6), none⟩ <|
       .one ⟨some 16, .un .not (.s 15), none⟩ <|
       .nil) [1, 5, 16])
     (.cond (.s 16)
      (.seq
       (.reg (.one ⟨some 4, .mv (.k (.int .i64 0)), none⟩ <|
         .nil) [4])
       .ret)
      .skip))
    (.seq
     (.reg (.one ⟨some 18, .load true 2 (.s 5), none⟩ <|
       .one ⟨some 19, .mv (.s 1), none⟩ <|
       .one ⟨some 20, .call f_ieee_form_cut [(.s 18), (.s 19)], none⟩ <|
       .one ⟨some 17, .mv (.s 20), none⟩ <|
       .one ⟨some 21, .ext (.s 17) 0, none⟩ <|
       .one ⟨some 22, .ext (.s 17) 1, none⟩ <|
       .one ⟨some 23, .ext (.s 17) 2, none⟩ <|
       .one ⟨some 7, .mv (.s 21), none⟩ <|
       .one ⟨some 8, .mv (.s 22), none⟩ <|
       .one ⟨some 9, .mv (.s 23), none⟩ <|
       .nil) [5, 8, 9])
     (.seq
      (.blk 0
       (.seq
        (.reg (.one ⟨some 25, .mv (.s 8), none⟩ <|
          .one ⟨some 26, .fad 0 (.s 5), none⟩ <|
          .one ⟨some 27, .load false 1 (.s 26), none⟩ <|
          .one ⟨some 28, .bin .shl (.k (.int .i64 1)) (.s 27), none⟩ <|
          .one ⟨some 29, .bin .sub (.s 28) (.k (.int .i64 1)), none⟩ <|
          .one ⟨some 30, .bin .eql (.s 25) (.s 29), none⟩ <|
          .one ⟨some 31, .mv (.s 30), none⟩ <|
          .grp 31 true (.one ⟨some 32, .mv (.s 9), none⟩ <|
            .one ⟨some 33, .bin .neq (.s 32) (.k (.int .u64 0)), none⟩ <|
            .nil) 34 (.s 33) (.k (.bool false)) <|
          .one ⟨some 24, .mv (.s 34), none⟩ <|
          .nil) [5, 8, 9, 24])
        (.cond (.s 24)
         (.seq
          (.reg (.one ⟨some 4, .mv (.k (.int .i64 4)), none⟩ <|
            .nil) [4])
          .ret)
         (.seq
          (.reg (.one ⟨some 36, .mv (.s 8), none⟩ <|
            .one ⟨some 37, .fad 0 (.s 5), none⟩ <|
            .one ⟨some 38, .load false 1 (.s 37), none⟩ <|
            .one ⟨some 39, .bin .shl (.k (.int .i64 1)) (.s 38), none⟩ <|
            .one ⟨some 40, .bin .sub (.s 39) (.k (.int .i64 1)), none⟩ <|
            .one ⟨some 41, .bin .eql (.s 36) (.s 40), none⟩ <|
            .one ⟨some 35, .mv (.s 41), none⟩ <|
            .nil) [8, 9, 35])
          (.cond (.s 35)
           (.seq
            (.reg (.one ⟨some 4, .mv (.k (.int .i64 3)), none⟩ <|
              .nil) [4])
            .ret)
           (.seq
            (.reg (.one ⟨some 43, .mv (.s 8), none⟩ <|
              .one ⟨some 44, .bin .eql (.s 43) (.k (.int .i64 0)), none⟩ <|
              .one ⟨some 45, .mv (.s 44), none⟩ <|
              .grp 45 true (.one ⟨some 46, .mv (.s 9), none⟩ <|
                .one ⟨some 47, .bin .eql (.s 46) (.k (.int .u64 0)), none⟩ <|
                .nil) 48 (.s 47) (.k (.bool false)) <|
              .one ⟨some 42, .mv (.s 48), none⟩ <|
              .nil) [42])
            (.cond (.s 42)
             (.seq
              (.reg (.one ⟨some 4, .mv (.k (.int .i64 2)), none⟩ <|
                .nil) [4])
              .ret)
             .skip)))))))
      (.seq
       (.reg (.one ⟨some 4, .mv (.k (.int .i64 1)), none⟩ <|
         .nil) [4])
       .ret))))))
def p_ieee_Kind : PFn := ⟨[.tmp 4], q_ieee_Kind⟩
def c_ieee_Kind : C := erase q_ieee_Kind
def n_ieee_Kind : Fn := ⟨2, [.tmp 4], false, false, erase q_ieee_Kind⟩
def q_ref02_Make : PC :=
 (.seq
  (.reg (.one ⟨some 6, .alloc [(.bool false), (.sl .full 0 []), (.int .i64 0)], none⟩ <|
    .one ⟨some 7, .mv (.k (.bool false)), none⟩ <|
    .nil) [0, 1, 2, 6])
  (.seq
   (.reg (.one ⟨some 11, .mv (.s 1), none⟩ <|
     .one ⟨some 12, .call f_ref01_Trim [(.s 11)], none⟩ <|
     .one ⟨some 10, .mv (.s 12), none⟩ <|
     .one ⟨some 13, .ext (.s 10) 0, none⟩ <|
     .one ⟨some 14, .ext (.s 10) 1, none⟩ <|
     .one ⟨some 8, .mv (.s 13), none⟩ <|
     .one ⟨some 9, .mv (.s 14), none⟩ <|
     .nil) [0, 2, 6, 8, 9])
   (.seq
    (.seq
     (.reg (.one ⟨some 15, .mv (.s 8), none⟩ <|
       .one ⟨some 16, .len (.s 15), none⟩ <|
       .one ⟨some 17, .bin .eql (.s 16) (.k (.int .i64 0)), none⟩ <|
       .nil) [0, 2, 6, 8, 9, 17])
     (.cond (.s 17)
      (.seq
       (.reg (.one ⟨some 18, .build [(.bool false), (.sl .full 0 []), (.int .i64 0)] [], none⟩ <|
         .one ⟨none, .store 3 (.s 6) (.s 18), none⟩ <|
         .one ⟨some 7, .mv (.k (.bool true)), none⟩ <|
         .nil) [6, 7])
       .ret)
      .skip))
    (.seq
     (.seq
      (.reg (.one ⟨some 19, .mv (.s 8), none⟩ <|
        .one ⟨some 20, .len (.s 19), none⟩ <|
        .one ⟨some 21, .bin .gtr (.s 20) (.k (.int .i64 90)), none⟩ <|
        .one ⟨some 22, .mv (.s 21), none⟩ <|
        .grp 22 false (.one ⟨some 23, .mv (.s 2), none⟩ <|
          .one ⟨some 24, .bin .lss (.s 23) (.k (.int .i64 (-1099511627776))), none⟩ <|
          .nil) 25 (.s 24) (.k (.bool true)) <|
        .one ⟨some 26, .mv (.s 25), none⟩ <|
        .grp 26 false (.one ⟨some 27, .mv (.s 2), none⟩ <|
          .one ⟨some 28, .bin .gtr (.s 27) (.k (.int .i64 1099511627776)), none⟩ <|
          .nil) 29 (.s 28) (.k (.bool true)) <|
        .one ⟨some 30, .mv (.s 29), none⟩ <|
        .grp 30 false (.one ⟨some 31, .mv (.s 9), none⟩ <|
          .one ⟨some 32, .bin .gtr (.s 31) (.k (.int .i64 1099511627776)), none⟩ <|
          .nil) 33 (.s 32) (.k (.bool true)) <|
        .one ⟨some 34, .mv (.s 33), none⟩ <|
        .grp 34 false (.one ⟨some 35, .mv (.s 2), none⟩ <|
          .one ⟨some 36, .mv (.s 9), none⟩ <|
          .one ⟨some 37, .bin .add (.s 35) (.s 36), none⟩ <|
          .one ⟨some 38, .bin .lss (.s 37) (.k (.int .i64 (-1200))), none⟩ <|
          .nil) 39 (.s 38) (.k (.bool true)) <|
        .one ⟨some 40, .mv (.s 39), none⟩ <|
        .grp 40 false (.one ⟨some 41, .mv (.s 2), none⟩ <|
          .one ⟨some 42, .mv (.s 9), none⟩ <|
          .one ⟨some 43, .bin .add (.s 41) (.s 42), none⟩ <|
          .one ⟨some 44, .bin .gtr (.s 43) (.k (.int .i64 1200)), none⟩ <|
          .nil) 45 (.s 44) (.k (.bool true)) <|
        .nil) [0, 2, 6, 8, 9, 45])
      (.cond (.s 45)
       (.seq
        (.reg (.one ⟨some 46, .build [(.bool false), (.sl .full 0 []), (.int .i64 0)] [], none⟩ <|
          .one ⟨none, .store 3 (.s 6) (.s 46), none⟩ <|
          .one ⟨some 7, .mv (.k (.bool false)), none⟩ <|
          .nil) [6, 7])
        .ret)
       .skip))
     (.seq
      (.reg (.one ⟨some 47, .mv (.s 0), none⟩ <|
        .one ⟨some 48, .mv (.s 8), none⟩ <|
        .one ⟨some 49, .mv (.s 2), none⟩ <|
        .one ⟨some 50, .mv (.s 9), none⟩ <|
        .one ⟨some 51, .bin .add (.s 49) (.s 50), none⟩ <|
        .one ⟨some 52, .build [(.bool false), (.sl .full 0 []), (.int .i64 0)] [(0, 1, (.s 47)), (1, 1, (.s 48)), (2, 1, (.s 51))], none⟩ <|
        .one ⟨none, .store 3 (.s 6) (.s 52), none⟩ <|
        .one ⟨some 7, .mv (.k (.bool true)), none⟩ <|
        .nil) [6, 7])
      .ret)))))
def p_ref02_Make : PFn := ⟨[.cell 6 true 3, .tmp 7], q_ref02_Make⟩
def c_ref02_Make : C := erase q_ref02_Make
def n_ref02_Make : Fn := ⟨3, [.cell 6 true 3, .tmp 7], false, false, erase q_ref02_Make⟩
def q_law00_Limbs : PC :=
 (.seq
  (.reg (.one ⟨some 2, .mv (.k (.sl .full 0 [])), none⟩ <|
    .nil) [0])
  (.seq
   (.reg (.one ⟨some 3, .mv (.s 0), none⟩ <|
     .one ⟨some 4, .app 1 4 (.k (.sl .full 0 [])) (.s 3), none⟩ <|
     .one ⟨some 2, .mv (.s 4), none⟩ <|
     .nil) [2])
   .ret))
def p_law00_Limbs : PFn := ⟨[.tmp 2], q_law00_Limbs⟩
def c_law00_Limbs : C := erase q_law00_Limbs
def n_law00_Limbs : Fn := ⟨1, [.tmp 2], false, true, erase q_law00_Limbs⟩
def q_ieee_of : PC :=
 (.seq
  (.reg (.one ⟨some 2, .alloc [(.int .i64 0), (.int .i64 0)], none⟩ <|
    .one ⟨some 3, .mv (.k (.bool false)), none⟩ <|
    .nil) [0, 2])
  (.seq
   (.seq
    (.reg (.one ⟨some 4, .mv (.s 0), none⟩ <|
      .nil) [2, 4])
    (.blk 0
     (.seq
      (.reg (.one ⟨some 6, .bin .eql (.s 4) (.k (.int .i64 16)), none⟩ <|
        .one ⟨some 5, .mv (.s 6), none⟩ <|
        .nil) [2, 4, 5])
      (.cond (.s 5)
       (.seq
        (.reg (.one ⟨some 7, .build [(.int .i64 0), (.int .i64 0)] [(0, 1, (.k (.int .i64 5))), (1, 1, (.k (.int .i64 10)))], none⟩ <|
          .one ⟨none, .store 2 (.s 2) (.s 7), none⟩ <|
          .one ⟨some 3, .mv (.k (.bool true)), none⟩ <|
          .nil) [2, 3])
        .ret)
       (.seq
        (.reg (.one ⟨some 9, .bin .eql (.s 4) (.k (.int .i64 32)), none⟩ <|
          .one ⟨some 8, .mv (.s 9), none⟩ <|
          .nil) [2, 4, 8])
        (.cond (.s 8)
         (.seq
          (.reg (.one ⟨some 10, .build [(.int .i64 0), (.int .i64 0)] [(0, 1, (.k (.int .i64 8))), (1, 1, (.k (.int .i64 23)))], none⟩ <|
            .one ⟨none, .store 2 (.s 2) (.s 10), none⟩ <|
            .one ⟨some 3, .mv (.k (.bool true)), none⟩ <|
            .nil) [2, 3])
          .ret)
         (.seq
          (.reg (.one ⟨some 12, .bin .eql (.s 4) (.k (.int .i64 64)), none⟩ <|
            .one ⟨some 11, .mv (.s 12), none⟩ <|
            .nil) [2, 11])
          (.cond (.s 11)
           (.seq
            (.reg (.one ⟨some 13, .build [(.int .i64 0), (.int .i64 0)] [(0, 1, (.k (.int .i64 11))), (1, 1, (.k (.int .i64 52)))], none⟩ <|
              .one ⟨none, .store 2 (.s 2) (.s 13), none⟩ <|
              .one ⟨some 3, .mv (.k (.bool true)), none⟩ <|
              .nil) [2, 3])
            .ret)
           .skip))))))))
   (.seq
    (.reg (.one ⟨some 14, .build [(.int .i64 0), (.int .i64 0)] [], none⟩ <|
      .one ⟨none, .store 2 (.s 2) (.s 14), none⟩ <|
      .one ⟨some 3, .mv (.k (.bool false)), none⟩ <|
      .nil) [2, 3])
    .ret)))
def p_ieee_of : PFn := ⟨[.cell 2 true 2, .tmp 3], q_ieee_of⟩
def c_ieee_of : C := erase q_ieee_of
def n_ieee_of : Fn := ⟨1, [.cell 2 true 2, .tmp 3], false, false, erase q_ieee_of⟩
def q_ieee_form_cut : PC :=
 (.seq
  (.reg (.box 2 2 (.s 0) <|
    .one ⟨some 4, .mv (.k (.bool false)), none⟩ <|
    .one ⟨some 5, .mv (.k (.int .i64 0)), none⟩ <|
    .one ⟨some 6, .mv (.k (.int .u64 0)), none⟩ <|
    .nil) [1, 2])
  (.seq
   (.drw (.nil)
    (.one ⟨some 7, .mv (.s 1), none⟩ <|
     .one ⟨some 8, .fad 0 (.s 2), none⟩ <|
     .one ⟨some 9, .load false 1 (.s 8), none⟩ <|
     .one ⟨some 10, .fad 1 (.s 2), none⟩ <|
     .one ⟨some 11, .load false 1 (.s 10), none⟩ <|
     .one ⟨some 12, .bin .add (.s 9) (.s 11), none⟩ <|
     .one ⟨some 13, .bin .shr (.s 7) (.s 12), none⟩ <|
     .one ⟨some 14, .bin .and (.s 13) (.k (.int .u64 1)), none⟩ <|
     .one ⟨some 15, .bin .neq (.s 14) (.k (.int .u64 0)), none⟩ <|
     .one ⟨some 16, .mv (.s 1), none⟩ <|
     .one ⟨some 17, .fad 1 (.s 2), none⟩ <|
     .one ⟨some 18, .load false 1 (.s 17), none⟩ <|
     .one ⟨some 19, .bin .shr (.s 16) (.s 18), none⟩ <|
     .one ⟨some 20, .fad 0 (.s 2), none⟩ <|
     .one ⟨some 21, .load false 1 (.s 20), none⟩ <|
     .one ⟨some 22, .bin .shl (.k (.int .u64 1)) (.s 21), none⟩ <|
     .one ⟨some 23, .bin .sub (.s 22) (.k (.int .u64 1)), none⟩ <|
     .one ⟨some 24, .bin .and (.s 19) (.s 23), none⟩ <|
     .one ⟨some 25, .cvi .i64 (.s 24), none⟩ <|
     .one ⟨some 26, .mv (.s 1), none⟩ <|
     .one ⟨some 27, .fad 1 (.s 2), none⟩ <|
     .one ⟨some 28, .load false 1 (.s 27), none⟩ <|
     .one ⟨some 29, .bin .shl (.k (.int .u64 1)) (.s 28), none⟩ <|
     .one ⟨some 30, .bin .sub (.s 29) (.k (.int .u64 1)), none⟩ <|
     .one ⟨some 31, .bin .and (.s 26) (.s 30), none⟩ <|
     .one ⟨some 4, .mv (.s 15), none⟩ <|
     .one ⟨some 5, .mv (.s 25), none⟩ <|
     .nil)
    (.one ⟨some 6, .mv (.s 31), none⟩ <|
     .nil) [4, 5, 6])
   .ret))
def p_ieee_form_cut : PFn := ⟨[.tmp 4, .tmp 5, .tmp 6], q_ieee_form_cut⟩
def c_ieee_form_cut : C := erase q_ieee_form_cut
def n_ieee_form_cut : Fn := ⟨2, [.tmp 4, .tmp 5, .tmp 6], false, false, erase q_ieee_form_cut⟩
def q_ieee_form_least : PC :=
 (.seq
  (.reg (.box 2 1 (.s 0) <|
    .one ⟨some 2, .mv (.k (.int .i64 0)), none⟩ <|
    .nil) [1])
  (.seq
   (.drw (.nil)
    (.one ⟨some 3, .load true 2 (.s 1), none⟩ <|
     .one ⟨some 4, .call f_ieee_form_bias [(.s 3)], none⟩ <|
     .one ⟨some 5, .bin .sub (.k (.int .i64 1)) (.s 4), none⟩ <|
     .one ⟨some 6, .fad 1 (.s 1), none⟩ <|
     .one ⟨some 7, .load false 1 (.s 6), none⟩ <|
     .nil)
    (.one ⟨some 8, .bin .sub (.s 5) (.s 7), none⟩ <|
     .one ⟨some 2, .mv (.s 8), none⟩ <|
     .nil) [2])
   .ret))
def p_ieee_form_least : PFn := ⟨[.tmp 2], q_ieee_form_least⟩
def c_ieee_form_least : C := erase q_ieee_form_least
def n_ieee_form_least : Fn := ⟨1, [.tmp 2], false, false, erase q_ieee_form_least⟩
def q_num_Make : PC :=
 (.seq
  (.reg (.one ⟨some 6, .alloc [(.bool false), (.sl .full 0 []), (.int .i64 0)], none⟩ <|
    .one ⟨some 7, .mv (.k (.bool false)), none⟩ <|
    .nil) [0, 1, 2, 6])
  (.seq
   (.reg (.one ⟨some 10, .mv (.s 1), none⟩ <|
     .one ⟨some 11, .call f_nat_Trim [(.s 10)], none⟩ <|
     .one ⟨some 9, .mv (.s 11), none⟩ <|
     .one ⟨some 12, .ext (.s 9) 0, none⟩ <|
     .one ⟨some 13, .ext (.s 9) 1, none⟩ <|
     .one ⟨some 1, .mv (.s 12), none⟩ <|
     .one ⟨some 8, .mv (.s 13), none⟩ <|
     .nil) [0, 1, 2, 6, 8])
   (.seq
    (.blk 0
     (.seq
      (.reg (.one ⟨some 15, .mv (.s 1), none⟩ <|
        .one ⟨some 16, .len (.s 15), none⟩ <|
        .one ⟨some 17, .bin .eql (.s 16) (.k (.int .i64 0)), none⟩ <|
        .one ⟨some 14, .mv (.s 17), none⟩ <|
        .nil) [0, 1, 2, 6, 8, 14])
      (.cond (.s 14)
       (.seq
        (.reg (.one ⟨some 18, .build [(.bool false), (.sl .full 0 []), (.int .i64 0)] [], none⟩ <|
          .one ⟨none, .store 3 (.s 6) (.s 18), none⟩ <|
          .one ⟨some 7, .mv (.k (.bool true)), none⟩ <|
          .nil) [6, 7])
        .ret)
       (.seq
        (.reg (.one ⟨some 20, .mv (.s 1), none⟩ <|
          .one ⟨some 21, .len (.s 20), none⟩ <|
          .one ⟨some 22, .bin .gtr (.s 21) (.k (.int .i64 90)), none⟩ <|
          .one ⟨some 23, .mv (.s 22), none⟩ <|
          .grp 23 false (.one ⟨some 24, .mv (.s 2), none⟩ <|
            .one ⟨some 25, .mv (.s 8), none⟩ <|
            .one ⟨some 26, .bin .sub (.k (.int .i64 1200)) (.s 25), none⟩ <|
            .one ⟨some 27, .bin .gtr (.s 24) (.s 26), none⟩ <|
            .nil) 28 (.s 27) (.k (.bool true)) <|
          .one ⟨some 29, .mv (.s 28), none⟩ <|
          .grp 29 false (.one ⟨some 30, .mv (.s 2), none⟩ <|
            .one ⟨some 31, .mv (.s 8), none⟩ <|
            .one ⟨some 32, .bin .sub (.k (.int .i64 (-1200))) (.s 31), none⟩ <|
            .one ⟨some 33, .bin .lss (.s 30) (.s 32), none⟩ <|
            .nil) 34 (.s 33) (.k (.bool true)) <|
          .one ⟨some 19, .mv (.s 34), none⟩ <|
          .nil) [0, 1, 2, 6, 8, 19])
        (.cond (.s 19)
         (.seq
          (.reg (.one ⟨some 35, .build [(.bool false), (.sl .full 0 []), (.int .i64 0)] [], none⟩ <|
            .one ⟨none, .store 3 (.s 6) (.s 35), none⟩ <|
            .one ⟨some 7, .mv (.k (.bool false)), none⟩ <|
            .nil) [6, 7])
          .ret)
         .skip)))))
    (.seq
     (.reg (.one ⟨some 36, .mv (.s 0), none⟩ <|
       .one ⟨some 37, .mv (.s 1), none⟩ <|
       .one ⟨some 38, .mv (.s 2), none⟩ <|
       .one ⟨some 39, .mv (.s 8), none⟩ <|
       .one ⟨some 40, .bin .add (.s 38) (.s 39), none⟩ <|
       .one ⟨some 41, .build [(.bool false), (.sl .full 0 []), (.int .i64 0)] [(0, 1, (.s 36)), (1, 1, (.s 37)), (2, 1, (.s 40))], none⟩ <|
       .one ⟨none, .store 3 (.s 6) (.s 41), none⟩ <|
       .one ⟨some 7, .mv (.k (.bool true)), none⟩ <|
       .nil) [6, 7])
     .ret))))
def p_num_Make : PFn := ⟨[.cell 6 true 3, .tmp 7], q_num_Make⟩
def c_num_Make : C := erase q_num_Make
def n_num_Make : Fn := ⟨3, [.cell 6 true 3, .tmp 7], false, false, erase q_num_Make⟩
def q_nat_Mul : PC :=
 (.seq
  (.reg (.one ⟨some 4, .mv (.k (.sl .full 0 [])), none⟩ <|
    .nil) [0, 1])
  (.seq
   (.reg (.one ⟨some 11, .mv (.s 0), none⟩ <|
     .one ⟨some 12, .len (.s 11), none⟩ <|
     .one ⟨some 13, .mv (.s 1), none⟩ <|
     .one ⟨some 14, .len (.s 13), none⟩ <|
     .one ⟨some 15, .bin .add (.s 12) (.s 14), none⟩ <|
     .one ⟨some 16, .mks [(.int .u32 0)] 4 (.s 15) (.s 15), none⟩ <|
     .one ⟨some 5, .mv (.s 16), none⟩ <|
     .nil) [0, 1, 5])
   (.seq
    .skip
    (.seq
     (.seq
      (.reg (.one ⟨some 17, .mv (.s 0), none⟩ <|
        .one ⟨some 18, .len (.s 17), none⟩ <|
        .one ⟨some 19, .mv (.k (.int .i64 0)), none⟩ <|
        .nil) [1, 5, 17, 18, 19])
      (.blk 0
       (.loop ⟨[(1, .same), (5, .same), (17, .same), (18, .same), (19, .v)], [(.arr .no 1)]⟩ [((.ext 0), ⟨[(5, .same)], [(.arr .no 1)]⟩)]
        (.seq
         (.reg (.one ⟨some 20, .bin .lss (.s 19) (.s 18), none⟩ <|
           .nil) [1, 5, 17, 18, 19, 20])
         (.seq
          (.cond (.s 20)
           .skip
           (.exit 0))
          (.seq
           (.blk 1
            (.seq
             (.reg (.one ⟨some 21, .mv (.s 19), none⟩ <|
               .one ⟨some 22, .iad 1 (.s 17) (.s 19), none⟩ <|
               .one ⟨some 23, .load false 1 (.s 22), none⟩ <|
               .one ⟨some 6, .mv (.s 21), none⟩ <|
               .one ⟨some 7, .mv (.s 23), none⟩ <|
               .nil) [1, 5, 6, 7, 17, 18, 19])
             (.seq
              (.seq
               (.reg (.one ⟨some 24, .mv (.s 7), none⟩ <|
                 .one ⟨some 25, .bin .eql (.s 24) (.k (.int .u32 0)), none⟩ <|
                 .nil) [1, 5, 6, 7, 17, 18, 19, 25])
               (.cond (.s 25)
                (.exit 1)
                .skip))
              (.seq
               (.reg (.one ⟨some 8, .mv (.k (.int .u64 0)), none⟩ <|
                 .nil) [1, 5, 6, 7, 8, 17, 18, 19])
               (.seq
                (.seq
                 (.reg (.one ⟨some 26, .mv (.s 1), none⟩ <|
                   .one ⟨some 27, .len (.s 26), none⟩ <|
                   .one ⟨some 28, .mv (.k (.int .i64 0)), none⟩ <|
                   .nil) [1, 5, 6, 7, 8, 17, 18, 19, 26, 27, 28])
                 (.blk 2
                  (.loop ⟨[(1, .same), (5, .same), (17, .same), (18, .same), (19, .same), (6, .same), (7, .same), (8, .v), (26, .same), (27, .same), (28, .v)], [(.arr .no 1)]⟩ [((.ext 2), ⟨[(1, .same), (5, .same), (17, .same), (18, .same), (19, .same), (6, .same), (8, .v)], [(.arr .no 1)]⟩)]
                   (.seq
                    (.reg (.one ⟨some 29, .bin .lss (.s 28) (.s 27), none⟩ <|
                      .nil) [1, 5, 6, 7, 8, 17, 18, 19, 26, 27, 28, 29])
                    (.seq
                     (.cond (.s 29)
                      .skip
                      (.exit 2))
                     (.seq
                      (.blk 3
                       (.seq
                        (.reg (.one ⟨some 30, .mv (.s 28), none⟩ <|
                          .one ⟨some 31, .iad 1 (.s 26) (.s 28), none⟩ <|
                          .one ⟨some 32, .load false 1 (.s 31), none⟩ <|
                          .one ⟨some 9, .mv (.s 30), none⟩ <|
                          .one ⟨some 10, .mv (.s 32), none⟩ <|
                          .nil) [1, 5, 6, 7, 8, 9, 10, 17, 18, 19, 26, 27, 28])
                        (.seq
                         (.reg (.one ⟨some 33, .mv (.s 8), none⟩ <|
                           .one ⟨some 34, .mv (.s 7), none⟩ <|
                           .one ⟨some 35, .cvi .u64 (.s 34), none⟩ <|
                           .one ⟨some 36, .mv (.s 10), none⟩ <|
                           .one ⟨some 37, .cvi .u64 (.s 36), none⟩ <|
                           .one ⟨some 38, .bin .mul (.s 35) (.s 37), none⟩ <|
                           .one ⟨some 39, .mv (.s 5), none⟩ <|
                           .one ⟨some 40, .mv (.s 6), none⟩ <|
                           .one ⟨some 41, .mv (.s 9), none⟩ <|
                           .one ⟨some 42, .bin .add (.s 40) (.s 41), none⟩ <|
                           .one ⟨some 43, .iad 1 (.s 39) (.s 42), none⟩ <|
                           .one ⟨some 44, .load false 1 (.s 43), none⟩ <|
                           .one ⟨some 45, .cvi .u64 (.s 44), none⟩ <|
                           .one ⟨some 46, .bin .add (.s 38) (.s 45), none⟩ <|
                           .one ⟨some 47, .bin .add (.s 33) (.s 46), none⟩ <|
                           .one ⟨some 8, .mv (.s 47), none⟩ <|
                           .nil) [1, 5, 6, 7, 8, 9, 17, 18, 19, 26, 27, 28])
                         (.seq
                          (.reg (.one ⟨some 48, .mv (.s 5), none⟩ <|
                            .one ⟨some 49, .mv (.s 6), none⟩ <|
                            .one ⟨some 50, .mv (.s 9), none⟩ <|
                            .one ⟨some 51, .bin .add (.s 49) (.s 50), none⟩ <|
                            .one ⟨some 52, .mv (.s 8), none⟩ <|
                            .one ⟨some 53, .cvi .u32 (.s 52), none⟩ <|
                            .one ⟨some 54, .iad 1 (.s 48) (.s 51), none⟩ <|
                            .one ⟨none, .store 1 (.s 54) (.s 53), none⟩ <|
                            .nil) [1, 5, 6, 7, 8, 17, 18, 19, 26, 27, 28])
                          (.reg (.one ⟨some 55, .mv (.s 8), none⟩ <|
                            .one ⟨some 56, .bin .shr (.s 55) (.k (.int .u64 32)), none⟩ <|
                            .one ⟨some 8, .mv (.s 56), none⟩ <|
                            .nil) [1, 5, 6, 7, 8, 17, 18, 19, 26, 27, 28])))))
                      (.reg (.one ⟨some 57, .bin .add (.s 28) (.k (.int .i64 1)), none⟩ <|
                        .one ⟨some 28, .mv (.s 57), none⟩ <|
                        .nil) [1, 5, 6, 7, 8, 17, 18, 19, 26, 27, 28])))))))
                (.reg (.one ⟨some 58, .mv (.s 5), none⟩ <|
                  .one ⟨some 59, .mv (.s 6), none⟩ <|
                  .one ⟨some 60, .mv (.s 1), none⟩ <|
                  .one ⟨some 61, .len (.s 60), none⟩ <|
                  .one ⟨some 62, .bin .add (.s 59) (.s 61), none⟩ <|
                  .one ⟨some 63, .mv (.s 8), none⟩ <|
                  .one ⟨some 64, .cvi .u32 (.s 63), none⟩ <|
                  .one ⟨some 65, .iad 1 (.s 58) (.s 62), none⟩ <|
                  .one ⟨none, .store 1 (.s 65) (.s 64), none⟩ <|
                  .nil) [1, 5, 17, 18, 19]))))))
           (.reg (.one ⟨some 66, .bin .add (.s 19) (.k (.int .i64 1)), none⟩ <|
             .one ⟨some 19, .mv (.s 66), none⟩ <|
             .nil) [1, 5, 17, 18, 19])))))))
     (.seq
      (.reg (.one ⟨some 67, .mv (.s 5), none⟩ <|
        .one ⟨some 68, .call f_nat_Norm [(.s 67)], none⟩ <|
        .one ⟨some 4, .mv (.s 68), none⟩ <|
        .nil) [4])
      .ret)))))
def p_nat_Mul : PFn := ⟨[.tmp 4], q_nat_Mul⟩
def c_nat_Mul : C := erase q_nat_Mul
def n_nat_Mul : Fn := ⟨2, [.tmp 4], false, false, erase q_nat_Mul⟩
def q_ieee_limbs : PC :=
 (.seq
  (.reg (.one ⟨some 2, .mv (.k (.sl .full 0 [])), none⟩ <|
    .nil) [0])
  (.seq
   (.reg (.one ⟨some 3, .mv (.s 0), none⟩ <|
     .one ⟨some 4, .cvi .u32 (.s 3), none⟩ <|
     .one ⟨some 5, .mv (.s 0), none⟩ <|
     .one ⟨some 6, .bin .shr (.s 5) (.k (.int .u64 32)), none⟩ <|
     .one ⟨some 7, .cvi .u32 (.s 6), none⟩ <|
     .one ⟨some 8, .lit 2 [(.int .u32 0)] [(0, 1, (.s 4)), (1, 1, (.s 7))], none⟩ <|
     .one ⟨some 9, .call f_nat_Norm [(.s 8)], none⟩ <|
     .one ⟨some 2, .mv (.s 9), none⟩ <|
     .nil) [2])
   .ret))
def p_ieee_limbs : PFn := ⟨[.tmp 2], q_ieee_limbs⟩
def c_ieee_limbs : C := erase q_ieee_limbs
def n_ieee_limbs : Fn := ⟨1, [.tmp 2], false, false, erase q_ieee_limbs⟩
def q_nat_Pow : PC :=
 (.seq
  (.reg (.one ⟨some 4, .mv (.k (.sl .full 0 [])), none⟩ <|
    .nil) [0, 1])
  (.seq
   (.reg (.one ⟨some 7, .lit 1 [(.int .u32 0)] [(0, 1, (.k (.int .u32 1)))], none⟩ <|
     .one ⟨some 5, .mv (.s 7), none⟩ <|
     .nil) [0, 1, 5])
   (.seq
    (.reg (.one ⟨some 8, .mv (.s 0), none⟩ <|
      .one ⟨some 9, .lit 1 [(.int .u32 0)] [(0, 1, (.s 8))], none⟩ <|
      .one ⟨some 10, .call f_nat_Norm [(.s 9)], none⟩ <|
      .one ⟨some 6, .mv (.s 10), none⟩ <|
      .nil) [1, 5, 6])
    (.seq
     (.seq
      (.reg (.one ⟨some 11, .mv (.s 1), none⟩ <|
        .one ⟨some 12, .min [(.s 11), (.k (.int .i64 1300))], none⟩ <|
        .one ⟨some 13, .max [(.k (.int .i64 0)), (.s 12)], none⟩ <|
        .one ⟨some 1, .mv (.s 13), none⟩ <|
        .nil) [1, 5, 6])
      (.blk 0
       (.loop ⟨[(1, .v), (5, .v), (6, .v)], []⟩ [((.ext 0), ⟨[(5, .v)], []⟩)]
        (.seq
         (.seq
          (.reg (.one ⟨some 14, .mv (.s 1), none⟩ <|
            .one ⟨some 15, .bin .gtr (.s 14) (.k (.int .i64 0)), none⟩ <|
            .nil) [1, 5, 6, 15])
          (.cond (.s 15)
           .skip
           (.exit 0)))
         (.seq
          (.cut ⟨[(1, .same), (5, .v), (6, .v)], []⟩ [(.nrm, ⟨[(1, .same), (5, .v), (6, .v)], []⟩)]
          (.blk 1
           (.seq
            (.cut ⟨[(1, .same), (5, .v), (6, .same)], []⟩ [(.nrm, ⟨[(1, .same), (5, .v), (6, .same)], []⟩)]
            (.seq
             (.reg (.one ⟨some 18, .mv (.s 1), none⟩ <|
               .one ⟨some 19, .bin .and (.s 18) (.k (.int .i64 1)), none⟩ <|
               .one ⟨some 20, .bin .neq (.s 19) (.k (.int .i64 0)), none⟩ <|
               .nil) [1, 5, 6, 20])
             (.cond (.s 20)
              (.reg (.one ⟨some 21, .mv (.s 5), none⟩ <|
                .one ⟨some 22, .mv (.s 6), none⟩ <|
                .one ⟨some 23, .call f_nat_Mul [(.s 21), (.s 22)], none⟩ <|
                .one ⟨some 5, .mv (.s 23), none⟩ <|
                .nil) [1, 5, 6])
              .skip)))
            (.reg (.one ⟨some 24, .mv (.s 6), none⟩ <|
              .one ⟨some 25, .mv (.s 6), none⟩ <|
              .one ⟨some 26, .call f_nat_Mul [(.s 24), (.s 25)], none⟩ <|
              .one ⟨some 6, .mv (.s 26), none⟩ <|
              .nil) [1, 5, 6]))))
          (.reg (.one ⟨some 16, .mv (.s 1), none⟩ <|
            .one ⟨some 17, .bin .shr (.s 16) (.k (.int .u64 1)), none⟩ <|
            .one ⟨some 1, .mv (.s 17), none⟩ <|
            .nil) [1, 5, 6]))))))
     (.seq
      (.reg (.one ⟨some 27, .mv (.s 5), none⟩ <|
        .one ⟨some 4, .mv (.s 27), none⟩ <|
        .nil) [4])
      .ret)))))
def p_nat_Pow : PFn := ⟨[.tmp 4], q_nat_Pow⟩
def c_nat_Pow : C := erase q_nat_Pow
def n_nat_Pow : Fn := ⟨2, [.tmp 4], false, false, erase q_nat_Pow⟩
def q_num_Check : PC :=
 (.seq
  (.reg (.box 3 1 (.s 0) <|
    .one ⟨some 2, .mv (.k (.bool false)), none⟩ <|
    .nil) [1])
  (.seq
   (.reg (.one ⟨some 6, .fad 1 (.s 1), none⟩ <|
     .one ⟨some 7, .load false 1 (.s 6), none⟩ <|
     .one ⟨some 8, .len (.s 7), none⟩ <|
     .one ⟨some 3, .mv (.s 8), none⟩ <|
     .nil) [1, 3])
   (.seq
    (.seq
     (.reg (.one ⟨some 9, .mv (.s 3), none⟩ <|
       .one ⟨some 10, .bin .eql (.s 9) (.k (.int .i64 0)), none⟩ <|
       .nil) [1, 3, 10])
     (.cond (.s 10)
      (.seq
       (.reg (.one ⟨some 11, .fad 0 (.s 1), none⟩ <|
         .one ⟨some 12, .load false 1 (.s 11), none⟩ <|
         .one ⟨some 13, .un .not (.s 12), none⟩ <|
         .one ⟨some 14, .mv (.s 13), none⟩ <|
         .grp 14 true (.one ⟨some 15, .fad 2 (.s 1), none⟩ <|
           .one ⟨some 16, .load false 1 (.s 15), none⟩ <|
           .one ⟨some 17, .bin .eql (.s 16) (.k (.int .i64 0)), none⟩ <|
           .nil) 18 (.s 17) (.k (.bool false)) <|
         .one ⟨some 2, .mv (.s 18), none⟩ <|
         .nil) [2])
       .ret)
      .skip))
    (.seq
     (.seq
      (.reg (.one ⟨some 19, .mv (.s 3), none⟩ <|
        .one ⟨some 20, .bin .gtr (.s 19) (.k (.int .i64 90)), none⟩ <|
        .one ⟨some 21, .mv (.s 20), none⟩ <|
        .grp 21 false (.one ⟨some 22, .fad 1 (.s 1), none⟩ <|
          .one ⟨some 23, .load false 1 (.s 22), none⟩ <|
          .one ⟨some 24, .mv (.s 3), none⟩ <|
          .one ⟨some 25, .bin .sub (.s 24) (.k (.int .i64 1)), none⟩ <|
          .one ⟨some 26, .iad 1 (.s 23) (.s 25), none⟩ <|
          .one ⟨some 27, .load false 1 (.s 26), none⟩ <|
          .one ⟨some 28, .bin .eql (.s 27) (.k (.int .u32 0)), none⟩ <|
          .nil) 29 (.s 28) (.k (.bool true)) <|
        .one ⟨some 30, .mv (.s 29), none⟩ <|
        .grp 30 false (.one ⟨some 31, .fad 2 (.s 1), none⟩ <|
          .one ⟨some 32, .load false 1 (.s 31), none⟩ <|
          .one ⟨some 33, .bin .lss (.s 32) (.k (.int .i64 (-1200))), none⟩ <|
          .nil) 34 (.s 33) (.k (.bool true)) <|
        .one ⟨some 35, .mv (.s 34), none⟩ <|
        .grp 35 false (.one ⟨some 36, .fad 2 (.s 1), none⟩ <|
          .one ⟨some 37, .load false 1 (.s 36), none⟩ <|
          .one ⟨some 38, .bin .gtr (.s 37) (.k (.int .i64 1200)), none⟩ <|
          .nil) 39 (.s 38) (.k (.bool true)) <|
        .nil) [1, 39])
      (.cond (.s 39)
       (.seq
        (.reg (.one ⟨some 2, .mv (.k (.bool false)), none⟩ <|
          .nil) [2])
        .ret)
       .skip))
     (.seq
      (.reg (.one ⟨some 41, .fad 1 (.s 1), none⟩ <|
        .one ⟨some 42, .load false 1 (.s 41), none⟩ <|
        .one ⟨some 43, .call f_nat_Trim [(.s 42)], none⟩ <|
        .one ⟨some 40, .mv (.s 43), none⟩ <|
        .one ⟨some 44, .ext (.s 40) 0, none⟩ <|
        .one ⟨some 45, .ext (.s 40) 1, none⟩ <|
        .one ⟨some 4, .mv (.s 44), none⟩ <|
        .one ⟨some 5, .mv (.s 45), none⟩ <|
        .nil) [5])
      (.seq
       (.reg (.one ⟨some 46, .mv (.s 5), none⟩ <|
         .one ⟨some 47, .bin .eql (.s 46) (.k (.int .i64 0)), none⟩ <|
         .one ⟨some 2, .mv (.s 47), none⟩ <|
         .nil) [2])
       .ret))))))
def p_num_Check : PFn := ⟨[.tmp 2], q_num_Check⟩
def c_num_Check : C := erase q_num_Check
def n_num_Check : Fn := ⟨1, [.tmp 2], false, false, erase q_num_Check⟩
def q_nat_Div : PC :=
 (.seq
  (.reg (.one ⟨some 4, .mv (.k (.sl .full 0 [])), none⟩ <|
    .one ⟨some 5, .mv (.k (.sl .full 0 [])), none⟩ <|
    .nil) [0, 1, 5])
  (.seq
   (.reg (.one ⟨some 10, .mv (.s 1), none⟩ <|
     .one ⟨some 11, .call f_nat_Norm [(.s 10)], none⟩ <|
     .one ⟨some 1, .mv (.s 11), none⟩ <|
     .nil) [0, 1, 5])
   (.seq
    (.seq
     (.reg (.one ⟨some 12, .mv (.s 1), none⟩ <|
       .one ⟨some 13, .len (.s 12), none⟩ <|
       .nil) [0, 1, 5, 13])
     (.blk 0
      (.seq
       (.reg (.one ⟨some 15, .bin .eql (.s 13) (.k (.int .i64 0)), none⟩ <|
         .one ⟨some 14, .mv (.s 15), none⟩ <|
         .nil) [0, 1, 5, 13, 14])
       (.cond (.s 14)
        (.seq
         (.reg (.one ⟨some 4, .mv (.k (.sl .full 0 [])), none⟩ <|
           .one ⟨some 5, .mv (.k (.sl .full 0 [])), none⟩ <|
           .nil) [4, 5])
         .ret)
        (.seq
         (.reg (.one ⟨some 17, .bin .eql (.s 13) (.k (.int .i64 1)), none⟩ <|
           .one ⟨some 16, .mv (.s 17), none⟩ <|
           .nil) [0, 1, 5, 16])
         (.cond (.s 16)
          (.seq
           (.reg (.one ⟨some 19, .mv (.s 0), none⟩ <|
             .one ⟨some 20, .mv (.s 1), none⟩ <|
             .one ⟨some 21, .iad 1 (.s 20) (.k (.int .i64 0)), none⟩ <|
             .one ⟨some 22, .load false 1 (.s 21), none⟩ <|
             .one ⟨some 23, .call f_nat_small [(.s 19), (.s 22)], none⟩ <|
             .one ⟨some 18, .mv (.s 23), none⟩ <|
             .one ⟨some 24, .ext (.s 18) 0, none⟩ <|
             .one ⟨some 25, .ext (.s 18) 1, none⟩ <|
             .one ⟨some 6, .mv (.s 24), none⟩ <|
             .one ⟨some 7, .mv (.s 25), none⟩ <|
             .nil) [6, 7])
           (.seq
            (.reg (.one ⟨some 26, .mv (.s 6), none⟩ <|
              .one ⟨some 27, .mv (.s 7), none⟩ <|
              .one ⟨some 28, .lit 1 [(.int .u32 0)] [(0, 1, (.s 27))], none⟩ <|
              .one ⟨some 29, .call f_nat_Norm [(.s 28)], none⟩ <|
              .one ⟨some 4, .mv (.s 26), none⟩ <|
              .one ⟨some 5, .mv (.s 29), none⟩ <|
              .nil) [4, 5])
            .ret))
          .skip))))))
    (.seq
     (.reg (.one ⟨some 30, .mv (.s 0), none⟩ <|
       .one ⟨some 31, .len (.s 30), none⟩ <|
       .one ⟨some 32, .mks [(.int .u32 0)] 4 (.s 31) (.s 31), none⟩ <|
       .one ⟨some 8, .mv (.s 32), none⟩ <|
       .nil) [0, 1, 5, 8])
     (.seq
      (.seq
       (.reg (.one ⟨some 33, .mv (.s 0), none⟩ <|
         .one ⟨some 34, .call f_nat_Bits [(.s 33)], none⟩ <|
         .one ⟨some 35, .bin .sub (.s 34) (.k (.int .i64 1)), none⟩ <|
         .one ⟨some 9, .mv (.s 35), none⟩ <|
         .nil) [0, 1, 5, 8, 9])
       (.blk 1
        (.loop ⟨[(0, .same), (1, .same), (5, .v), (8, .same), (9, .v)], [(.arr .no 1)]⟩ [((.ext 1), ⟨[(5, .v), (8, .same)], [(.arr .no 1)]⟩)]
         (.seq
          (.seq
           (.reg (.one ⟨some 36, .mv (.s 9), none⟩ <|
             .one ⟨some 37, .bin .geq (.s 36) (.k (.int .i64 0)), none⟩ <|
             .nil) [0, 1, 5, 8, 9, 37])
           (.cond (.s 37)
            .skip
            (.exit 1)))
          (.seq
           (.blk 2
            (.seq
             (.reg (.one ⟨some 40, .mv (.s 5), none⟩ <|
               .one ⟨some 41, .mv (.s 0), none⟩ <|
               .one ⟨some 42, .mv (.s 9), none⟩ <|
               .one ⟨some 43, .bin .quo (.s 42) (.k (.int .i64 32)), none⟩ <|
               .one ⟨some 44, .iad 1 (.s 41) (.s 43), none⟩ <|
               .one ⟨some 45, .load false 1 (.s 44), none⟩ <|
               .one ⟨some 46, .mv (.s 9), none⟩ <|
               .one ⟨some 47, .bin .rem (.s 46) (.k (.int .i64 32)), none⟩ <|
               .one ⟨some 48, .bin .shr (.s 45) (.s 47), none⟩ <|
               .one ⟨some 49, .bin .and (.s 48) (.k (.int .u32 1)), none⟩ <|
               .one ⟨some 50, .call f_nat_up [(.s 40), (.s 49)], none⟩ <|
               .one ⟨some 5, .mv (.s 50), none⟩ <|
               .nil) [0, 1, 5, 8, 9])
             (.seq
              (.reg (.one ⟨some 51, .mv (.s 5), none⟩ <|
                .one ⟨some 52, .mv (.s 1), none⟩ <|
                .one ⟨some 53, .call f_nat_Cmp [(.s 51), (.s 52)], none⟩ <|
                .one ⟨some 54, .bin .geq (.s 53) (.k (.int .i64 0)), none⟩ <|
                .nil) [0, 1, 5, 8, 9, 54])
              (.cond (.s 54)
               (.seq
                (.reg (.one ⟨some 55, .mv (.s 5), none⟩ <|
                  .one ⟨some 56, .mv (.s 1), none⟩ <|
                  .one ⟨some 57, .call f_nat_Sub [(.s 55), (.s 56)], none⟩ <|
                  .one ⟨some 5, .mv (.s 57), none⟩ <|
                  .nil) [0, 1, 5, 8, 9])
                (.drw (.nil)
                 (.one ⟨some 58, .mv (.s 8), none⟩ <|
                  .one ⟨some 59, .mv (.s 9), none⟩ <|
                  .one ⟨some 60, .bin .quo (.s 59) (.k (.int .i64 32)), none⟩ <|
                  .one ⟨some 61, .iad 1 (.s 58) (.s 60), none⟩ <|
                  .one ⟨some 62, .load false 1 (.s 61), none⟩ <|
                  .one ⟨some 63, .mv (.s 9), none⟩ <|
                  .one ⟨some 64, .bin .rem (.s 63) (.k (.int .i64 32)), none⟩ <|
                  .one ⟨some 65, .bin .shl (.k (.int .u32 1)) (.s 64), none⟩ <|
                  .nil)
                 (.one ⟨some 66, .bin .or (.s 62) (.s 65), none⟩ <|
                  .one ⟨some 67, .iad 1 (.s 58) (.s 60), none⟩ <|
                  .one ⟨none, .store 1 (.s 67) (.s 66), none⟩ <|
                  .nil) [0, 1, 5, 8, 9]))
               .skip))))
           (.reg (.one ⟨some 38, .mv (.s 9), none⟩ <|
             .one ⟨some 39, .bin .sub (.s 38) (.k (.int .i64 1)), none⟩ <|
             .one ⟨some 9, .mv (.s 39), none⟩ <|
             .nil) [0, 1, 5, 8, 9]))))))
      (.seq
       (.reg (.one ⟨some 68, .mv (.s 8), none⟩ <|
         .one ⟨some 69, .call f_nat_Norm [(.s 68)], none⟩ <|
         .one ⟨some 70, .mv (.s 5), none⟩ <|
         .one ⟨some 4, .mv (.s 69), none⟩ <|
         .one ⟨some 5, .mv (.s 70), none⟩ <|
         .nil) [4, 5])
       .ret))))))
def p_nat_Div : PFn := ⟨[.tmp 4, .tmp 5], q_nat_Div⟩
def c_nat_Div : C := erase q_nat_Div
def n_nat_Div : Fn := ⟨2, [.tmp 4, .tmp 5], false, false, erase q_nat_Div⟩
def q_ieee_odd : PC :=
 (.seq
  (.reg (.one ⟨some 2, .mv (.k (.sl .full 0 [])), none⟩ <|
    .one ⟨some 3, .mv (.k (.int .i64 0)), none⟩ <|
    .nil) [0])
  (.seq
   (.reg (.one ⟨some 4, .mv (.k (.int .i64 0)), none⟩ <|
     .nil) [0, 4])
   (.seq
    (.blk 0
     (.loop ⟨[(0, .v), (4, .v)], []⟩ [((.ext 0), ⟨[(0, .v), (4, .v)], []⟩)]
      (.seq
       (.seq
        (.reg (.one ⟨some 5, .mv (.s 0), none⟩ <|
          .one ⟨some 6, .iad 1 (.s 5) (.k (.int .i64 0)), none⟩ <|
          .one ⟨some 7, .load false 1 (.s 6), none⟩ <|
          .one ⟨some 8, .bin .eql (.s 7) (.k (.int .u32 0)), none⟩ <|
          .nil) [0, 4, 8])
        (.cond (.s 8)
         .skip
         (.exit 0)))
       (.blk 1
        (.seq
         (.reg (.one ⟨some 9, .mv (.s 0), none⟩ <|
           .one ⟨some 10, .slc 1 (.s 9) (some (.k (.int .i64 1))) none none, none⟩ <|
           .one ⟨some 0, .mv (.s 10), none⟩ <|
           .nil) [0, 4])
         (.reg (.one ⟨some 11, .mv (.s 4), none⟩ <|
           .one ⟨some 12, .bin .add (.s 11) (.k (.int .i64 32)), none⟩ <|
           .one ⟨some 4, .mv (.s 12), none⟩ <|
           .nil) [0, 4]))))))
    (.seq
     (.blk 2
      (.loop ⟨[(0, .v), (4, .v)], []⟩ [((.ext 2), ⟨[(0, .v), (4, .v)], []⟩)]
       (.seq
        (.seq
         (.reg (.one ⟨some 13, .mv (.s 0), none⟩ <|
           .one ⟨some 14, .iad 1 (.s 13) (.k (.int .i64 0)), none⟩ <|
           .one ⟨some 15, .load false 1 (.s 14), none⟩ <|
           .one ⟨some 16, .bin .and (.s 15) (.k (.int .u32 1)), none⟩ <|
           .one ⟨some 17, .bin .eql (.s 16) (.k (.int .u32 0)), none⟩ <|
           .nil) [0, 4, 17])
         (.cond (.s 17)
          .skip
          (.exit 2)))
        (.blk 3
         (.seq
          (.reg (.one ⟨some 19, .mv (.s 0), none⟩ <|
            .one ⟨some 20, .lit 1 [(.int .u32 0)] [(0, 1, (.k (.int .u32 2)))], none⟩ <|
            .one ⟨some 21, .call f_nat_Div [(.s 19), (.s 20)], none⟩ <|
            .one ⟨some 18, .mv (.s 21), none⟩ <|
            .one ⟨some 22, .ext (.s 18) 0, none⟩ <|
            .one ⟨some 23, .ext (.s 18) 1, none⟩ <|
            .one ⟨some 0, .mv (.s 22), none⟩ <|
            .nil) [0, 4])
          (.reg (.one ⟨some 24, .mv (.s 4), none⟩ <|
            .one ⟨some 25, .bin .add (.s 24) (.k (.int .i64 1)), none⟩ <|
            .one ⟨some 4, .mv (.s 25), none⟩ <|
            .nil) [0, 4]))))))
     (.seq
      (.reg (.one ⟨some 26, .mv (.s 0), none⟩ <|
        .one ⟨some 27, .mv (.s 4), none⟩ <|
        .one ⟨some 2, .mv (.s 26), none⟩ <|
        .one ⟨some 3, .mv (.s 27), none⟩ <|
        .nil) [2, 3])
      .ret)))))
def p_ieee_odd : PFn := ⟨[.tmp 2, .tmp 3], q_ieee_odd⟩
def c_ieee_odd : C := erase q_ieee_odd
def n_ieee_odd : Fn := ⟨1, [.tmp 2, .tmp 3], false, false, erase q_ieee_odd⟩
def q_nat_Bits : PC :=
 (.seq
  (.reg (.one ⟨some 2, .mv (.k (.int .i64 0)), none⟩ <|
    .nil) [0])
  (.seq
   (.reg (.one ⟨some 4, .mv (.s 0), none⟩ <|
     .one ⟨some 5, .len (.s 4), none⟩ <|
     .one ⟨some 6, .bin .sub (.s 5) (.k (.int .i64 1)), none⟩ <|
     .one ⟨some 3, .mv (.s 6), none⟩ <|
     .nil) [0, 3])
   (.seq
    (.blk 0
     (.loop ⟨[(0, .same), (3, .v)], []⟩ [((.ext 0), ⟨[(0, .same), (3, .v)], []⟩)]
      (.seq
       (.seq
        (.reg (.one ⟨some 7, .mv (.s 3), none⟩ <|
          .one ⟨some 8, .bin .geq (.s 7) (.k (.int .i64 0)), none⟩ <|
          .one ⟨some 9, .mv (.s 8), none⟩ <|
          .grp 9 true (.one ⟨some 10, .mv (.s 0), none⟩ <|
            .one ⟨some 11, .mv (.s 3), none⟩ <|
            .one ⟨some 12, .iad 1 (.s 10) (.s 11), none⟩ <|
            .one ⟨some 13, .load false 1 (.s 12), none⟩ <|
            .one ⟨some 14, .bin .eql (.s 13) (.k (.int .u32 0)), none⟩ <|
            .nil) 15 (.s 14) (.k (.bool false)) <|
          .nil) [0, 3, 15])
        (.cond (.s 15)
         .skip
         (.exit 0)))
       (.blk 1
        (.reg (.one ⟨some 16, .mv (.s 3), none⟩ <|
          .one ⟨some 17, .bin .sub (.s 16) (.k (.int .i64 1)), none⟩ <|
          .one ⟨some 3, .mv (.s 17), none⟩ <|
          .nil) [0, 3])))))
    (.seq
     (.seq
      (.reg (.one ⟨some 18, .mv (.s 3), none⟩ <|
        .one ⟨some 19, .bin .lss (.s 18) (.k (.int .i64 0)), none⟩ <|
        .nil) [0, 3, 19])
      (.cond (.s 19)
       (.seq
        (.reg (.one ⟨some 2, .mv (.k (.int .i64 0)), none⟩ <|
          .nil) [2])
        .ret)
       .skip))
     (.seq
      (.reg (.one ⟨some 20, .mv (.s 3), none⟩ <|
        .one ⟨some 21, .bin .mul (.k (.int .i64 32)) (.s 20), none⟩ <|
        .one ⟨some 22, .mv (.s 0), none⟩ <|
        .one ⟨some 23, .mv (.s 3), none⟩ <|
        .one ⟨some 24, .iad 1 (.s 22) (.s 23), none⟩ <|
        .one ⟨some 25, .load false 1 (.s 24), none⟩ <|
        .one ⟨some 26, .call f_math_bits_Len32 [(.s 25)], none⟩ <|
        .one ⟨some 27, .bin .add (.s 21) (.s 26), none⟩ <|
        .one ⟨some 2, .mv (.s 27), none⟩ <|
        .nil) [2])
      .ret)))))
def p_nat_Bits : PFn := ⟨[.tmp 2], q_nat_Bits⟩
def c_nat_Bits : C := erase q_nat_Bits
def n_nat_Bits : Fn := ⟨1, [.tmp 2], false, false, erase q_nat_Bits⟩
def q_ieee_form_bias : PC :=
 (.seq
  (.reg (.box 2 1 (.s 0) <|
    .one ⟨some 2, .mv (.k (.int .i64 0)), none⟩ <|
    .nil) [1])
  (.seq
   (.reg (.one ⟨some 3, .fad 0 (.s 1), none⟩ <|
     .one ⟨some 4, .load false 1 (.s 3), none⟩ <|
     .one ⟨some 5, .bin .sub (.s 4) (.k (.int .i64 1)), none⟩ <|
     .one ⟨some 6, .bin .shl (.k (.int .i64 1)) (.s 5), none⟩ <|
     .one ⟨some 7, .bin .sub (.s 6) (.k (.int .i64 1)), none⟩ <|
     .one ⟨some 2, .mv (.s 7), none⟩ <|
     .nil) [2])
   .ret))
def p_ieee_form_bias : PFn := ⟨[.tmp 2], q_ieee_form_bias⟩
def c_ieee_form_bias : C := erase q_ieee_form_bias
def n_ieee_form_bias : Fn := ⟨1, [.tmp 2], false, false, erase q_ieee_form_bias⟩
def q_ref01_Trim : PC :=
 (.seq
  (.reg (.one ⟨some 2, .mv (.k (.sl .full 0 [])), none⟩ <|
    .one ⟨some 3, .mv (.k (.int .i64 0)), none⟩ <|
    .nil) [0])
  (.seq
   (.reg (.one ⟨some 8, .mv (.s 0), none⟩ <|
     .one ⟨some 9, .call f_ref01_Norm [(.s 8)], none⟩ <|
     .one ⟨some 4, .mv (.s 9), none⟩ <|
     .nil) [4])
   (.seq
    (.reg (.one ⟨some 5, .mv (.k (.int .i64 0)), none⟩ <|
      .nil) [4, 5])
    (.seq
     (.blk 0
      (.loop ⟨[(4, .v), (5, .v)], []⟩ [((.ext 0), ⟨[(4, .v), (5, .v)], []⟩)]
       (.seq
        (.seq
         (.reg (.one ⟨some 10, .mv (.s 4), none⟩ <|
           .one ⟨some 11, .len (.s 10), none⟩ <|
           .one ⟨some 12, .bin .gtr (.s 11) (.k (.int .i64 0)), none⟩ <|
           .nil) [4, 5, 12])
         (.cond (.s 12)
          .skip
          (.exit 0)))
        (.blk 1
         (.seq
          (.reg (.one ⟨some 14, .mv (.s 4), none⟩ <|
            .one ⟨some 15, .call f_ref01_Small [(.s 14), (.k (.int .u32 10))], none⟩ <|
            .one ⟨some 13, .mv (.s 15), none⟩ <|
            .one ⟨some 16, .ext (.s 13) 0, none⟩ <|
            .one ⟨some 17, .ext (.s 13) 1, none⟩ <|
            .one ⟨some 6, .mv (.s 16), none⟩ <|
            .one ⟨some 7, .mv (.s 17), none⟩ <|
            .nil) [4, 5, 6, 7])
          (.seq
           (.seq
            (.reg (.one ⟨some 18, .mv (.s 7), none⟩ <|
              .one ⟨some 19, .bin .neq (.s 18) (.k (.int .u32 0)), none⟩ <|
              .nil) [4, 5, 6, 19])
            (.cond (.s 19)
             (.exit 0)
             .skip))
           (.seq
            (.reg (.one ⟨some 20, .mv (.s 6), none⟩ <|
              .one ⟨some 4, .mv (.s 20), none⟩ <|
              .nil) [4, 5])
            (.reg (.one ⟨some 21, .mv (.s 5), none⟩ <|
              .one ⟨some 22, .bin .add (.s 21) (.k (.int .i64 1)), none⟩ <|
              .one ⟨some 5, .mv (.s 22), none⟩ <|
              .nil) [4, 5]))))))))
     (.seq
      (.reg (.one ⟨some 23, .mv (.s 4), none⟩ <|
        .one ⟨some 24, .mv (.s 5), none⟩ <|
        .one ⟨some 2, .mv (.s 23), none⟩ <|
        .one ⟨some 3, .mv (.s 24), none⟩ <|
        .nil) [2, 3])
      .ret)))))
def p_ref01_Trim : PFn := ⟨[.tmp 2, .tmp 3], q_ref01_Trim⟩
def c_ref01_Trim : C := erase q_ref01_Trim
def n_ref01_Trim : Fn := ⟨1, [.tmp 2, .tmp 3], false, false, erase q_ref01_Trim⟩
def q_nat_Trim : PC :=
 (.seq
  (.reg (.one ⟨some 2, .mv (.k (.sl .full 0 [])), none⟩ <|
    .one ⟨some 3, .mv (.k (.int .i64 0)), none⟩ <|
    .nil) [0])
  (.seq
   (.reg (.one ⟨some 7, .mv (.s 0), none⟩ <|
     .one ⟨some 8, .call f_nat_Norm [(.s 7)], none⟩ <|
     .one ⟨some 0, .mv (.s 8), none⟩ <|
     .nil) [0])
   (.seq
    (.reg (.one ⟨some 4, .mv (.k (.int .i64 0)), none⟩ <|
      .nil) [0, 4])
    (.seq
     .skip
     (.seq
      (.blk 0
       (.loop ⟨[(0, .v), (4, .v)], []⟩ [((.ext 0), ⟨[(0, .v), (4, .v)], []⟩)]
        (.seq
         (.seq
          (.reg (.one ⟨some 9, .mv (.s 0), none⟩ <|
            .one ⟨some 10, .len (.s 9), none⟩ <|
            .one ⟨some 11, .bin .gtr (.s 10) (.k (.int .i64 0)), none⟩ <|
            .nil) [0, 4, 11])
          (.cond (.s 11)
           .skip
           (.exit 0)))
         (.blk 1
          (.seq
           (.reg (.one ⟨some 13, .mv (.s 0), none⟩ <|
             .one ⟨some 14, .call f_nat_small [(.s 13), (.k (.int .u32 10))], none⟩ <|
             .one ⟨some 12, .mv (.s 14), none⟩ <|
             .one ⟨some 15, .ext (.s 12) 0, none⟩ <|
             .one ⟨some 16, .ext (.s 12) 1, none⟩ <|
             .one ⟨some 5, .mv (.s 15), none⟩ <|
             .one ⟨some 6, .mv (.s 16), none⟩ <|
             .nil) [0, 4, 5, 6])
           (.seq
            (.seq
             (.reg (.one ⟨some 17, .mv (.s 6), none⟩ <|
               .one ⟨some 18, .bin .neq (.s 17) (.k (.int .u32 0)), none⟩ <|
               .nil) [0, 4, 5, 18])
             (.cond (.s 18)
              (.exit 0)
              .skip))
            (.seq
             (.reg (.one ⟨some 19, .mv (.s 5), none⟩ <|
               .one ⟨some 0, .mv (.s 19), none⟩ <|
               .nil) [0, 4])
             (.reg (.one ⟨some 20, .mv (.s 4), none⟩ <|
               .one ⟨some 21, .bin .add (.s 20) (.k (.int .i64 1)), none⟩ <|
               .one ⟨some 4, .mv (.s 21), none⟩ <|
               .nil) [0, 4]))))))))
      (.seq
       (.reg (.one ⟨some 22, .mv (.s 0), none⟩ <|
         .one ⟨some 23, .mv (.s 4), none⟩ <|
         .one ⟨some 2, .mv (.s 22), none⟩ <|
         .one ⟨some 3, .mv (.s 23), none⟩ <|
         .nil) [2, 3])
       .ret))))))
def p_nat_Trim : PFn := ⟨[.tmp 2, .tmp 3], q_nat_Trim⟩
def c_nat_Trim : C := erase q_nat_Trim
def n_nat_Trim : Fn := ⟨1, [.tmp 2, .tmp 3], false, false, erase q_nat_Trim⟩
def q_nat_Norm : PC :=
 (.seq
  (.reg (.one ⟨some 2, .mv (.k (.sl .full 0 [])), none⟩ <|
    .nil) [0])
  (.seq
   (.reg (.one ⟨some 5, .mv (.s 0), none⟩ <|
     .one ⟨some 6, .len (.s 5), none⟩ <|
     .one ⟨some 3, .mv (.s 6), none⟩ <|
     .nil) [0, 3])
   (.seq
    (.blk 0
     (.loop ⟨[(0, .same), (3, .v)], []⟩ [((.ext 0), ⟨[(0, .same), (3, .v)], []⟩)]
      (.seq
       (.seq
        (.reg (.one ⟨some 7, .mv (.s 3), none⟩ <|
          .one ⟨some 8, .bin .gtr (.s 7) (.k (.int .i64 0)), none⟩ <|
          .one ⟨some 9, .mv (.s 8), none⟩ <|
          .grp 9 true (.one ⟨some 10, .mv (.s 0), none⟩ <|
            .one ⟨some 11, .mv (.s 3), none⟩ <|
            .one ⟨some 12, .bin .sub (.s 11) (.k (.int .i64 1)), none⟩ <|
            .one ⟨some 13, .iad 1 (.s 10) (.s 12), none⟩ <|
            .one ⟨some 14, .load false 1 (.s 13), none⟩ <|
            .one ⟨some 15, .bin .eql (.s 14) (.k (.int .u32 0)), none⟩ <|
            .nil) 16 (.s 15) (.k (.bool false)) <|
          .nil) [0, 3, 16])
        (.cond (.s 16)
         .skip
         (.exit 0)))
       (.blk 1
        (.reg (.one ⟨some 17, .mv (.s 3), none⟩ <|
          .one ⟨some 18, .bin .sub (.s 17) (.k (.int .i64 1)), none⟩ <|
          .one ⟨some 3, .mv (.s 18), none⟩ <|
          .nil) [0, 3])))))
    (.seq
     (.seq
      (.reg (.one ⟨some 19, .mv (.s 3), none⟩ <|
        .one ⟨some 20, .bin .eql (.s 19) (.k (.int .i64 0)), none⟩ <|
        .nil) [0, 3, 20])
      (.cond (.s 20)
       (.seq
        (.reg (.one ⟨some 2, .mv (.k (.sl .full 0 [])), none⟩ <|
          .nil) [2])
        .ret)
       .skip))
     (.seq
      (.reg (.one ⟨some 21, .mv (.s 3), none⟩ <|
        .one ⟨some 22, .mks [(.int .u32 0)] 4 (.s 21) (.s 21), none⟩ <|
        .one ⟨some 4, .mv (.s 22), none⟩ <|
        .nil) [0, 4])
      (.seq
       (.reg (.one ⟨some 23, .mv (.s 4), none⟩ <|
         .one ⟨some 24, .mv (.s 0), none⟩ <|
         .one ⟨some 25, .cpy 1 (.s 23) (.s 24), none⟩ <|
         .nil) [4])
       (.seq
        (.reg (.one ⟨some 26, .mv (.s 4), none⟩ <|
          .one ⟨some 2, .mv (.s 26), none⟩ <|
          .nil) [2])
        .ret)))))))
def p_nat_Norm : PFn := ⟨[.tmp 2], q_nat_Norm⟩
def c_nat_Norm : C := erase q_nat_Norm
def n_nat_Norm : Fn := ⟨1, [.tmp 2], false, false, erase q_nat_Norm⟩
def q_ref01_Norm : PC :=
 (.seq
  (.reg (.one ⟨some 2, .mv (.k (.sl .full 0 [])), none⟩ <|
    .nil) [0])
  (.seq
   (.reg (.one ⟨some 4, .mv (.s 0), none⟩ <|
     .one ⟨some 5, .len (.s 4), none⟩ <|
     .one ⟨some 3, .mv (.s 5), none⟩ <|
     .nil) [0, 3])
   (.seq
    (.blk 0
     (.loop ⟨[(0, .same), (3, .v)], []⟩ [((.ext 0), ⟨[(0, .same), (3, .v)], []⟩)]
      (.seq
       (.seq
        (.reg (.one ⟨some 6, .mv (.s 3), none⟩ <|
          .one ⟨some 7, .bin .gtr (.s 6) (.k (.int .i64 0)), none⟩ <|
          .one ⟨some 8, .mv (.s 7), none⟩ <|
          .grp 8 true (.one ⟨some 9, .mv (.s 0), none⟩ <|
            .one ⟨some 10, .mv (.s 3), none⟩ <|
            .one ⟨some 11, .bin .sub (.s 10) (.k (.int .i64 1)), none⟩ <|
            .one ⟨some 12, .iad 1 (.s 9) (.s 11), none⟩ <|
            .one ⟨some 13, .load false 1 (.s 12), none⟩ <|
            .one ⟨some 14, .bin .eql (.s 13) (.k (.int .u32 0)), none⟩ <|
            .nil) 15 (.s 14) (.k (.bool false)) <|
          .nil) [0, 3, 15])
        (.cond (.s 15)
         .skip
         (.exit 0)))
       (.blk 1
        (.reg (.one ⟨some 16, .mv (.s 3), none⟩ <|
          .one ⟨some 17, .bin .sub (.s 16) (.k (.int .i64 1)), none⟩ <|
          .one ⟨some 3, .mv (.s 17), none⟩ <|
          .nil) [0, 3])))))
    (.seq
     (.reg (.one ⟨some 18, .mv (.s 0), none⟩ <|
       .one ⟨some 19, .mv (.s 3), none⟩ <|
       .one ⟨some 20, .slc 1 (.s 18) none (some (.s 19)) none, none⟩ <|
       .one ⟨some 21, .app 1 4 (.k (.sl .full 0 [])) (.s 20), none⟩ <|
       .one ⟨some 2, .mv (.s 21), none⟩ <|
       .nil) [2])
     .ret))))
def p_ref01_Norm : PFn := ⟨[.tmp 2], q_ref01_Norm⟩
def c_ref01_Norm : C := erase q_ref01_Norm
def n_ref01_Norm : Fn := ⟨1, [.tmp 2], false, false, erase q_ref01_Norm⟩
def q_nat_small : PC :=
 (.seq
  (.reg (.one ⟨some 4, .mv (.k (.sl .full 0 [])), none⟩ <|
    .one ⟨some 5, .mv (.k (.int .u32 0)), none⟩ <|
    .nil) [0, 1])
  (.seq
   (.reg (.one ⟨some 9, .mv (.s 0), none⟩ <|
     .one ⟨some 10, .len (.s 9), none⟩ <|
     .one ⟨some 11, .mks [(.int .u32 0)] 4 (.s 10) (.s 10), none⟩ <|
     .one ⟨some 6, .mv (.s 11), none⟩ <|
     .nil) [0, 1, 6])
   (.seq
    (.reg (.one ⟨some 7, .mv (.k (.int .u64 0)), none⟩ <|
      .nil) [0, 1, 6, 7])
    (.seq
     (.seq
      (.reg (.one ⟨some 12, .mv (.s 0), none⟩ <|
        .one ⟨some 13, .len (.s 12), none⟩ <|
        .one ⟨some 14, .bin .sub (.s 13) (.k (.int .i64 1)), none⟩ <|
        .one ⟨some 8, .mv (.s 14), none⟩ <|
        .nil) [0, 1, 6, 7, 8])
      (.blk 0
       (.loop ⟨[(0, .same), (1, .same), (6, .same), (7, .v), (8, .v)], [(.arr .no 1)]⟩ [((.ext 0), ⟨[(6, .same), (7, .v)], [(.arr .no 1)]⟩)]
        (.seq
         (.seq
          (.reg (.one ⟨some 15, .mv (.s 8), none⟩ <|
            .one ⟨some 16, .bin .geq (.s 15) (.k (.int .i64 0)), none⟩ <|
            .nil) [0, 1, 6, 7, 8, 16])
          (.cond (.s 16)
           .skip
           (.exit 0)))
         (.seq
          (.blk 1
           (.seq
            (.reg (.one ⟨some 19, .mv (.s 7), none⟩ <|
              .one ⟨some 20, .bin .shl (.s 19) (.k (.int .u64 32)), none⟩ <|
              .one ⟨some 21, .mv (.s 0), none⟩ <|
              .one ⟨some 22, .mv (.s 8), none⟩ <|
              .one ⟨some 23, .iad 1 (.s 21) (.s 22), none⟩ <|
              .one ⟨some 24, .load false 1 (.s 23), none⟩ <|
              .one ⟨some 25, .cvi .u64 (.s 24), none⟩ <|
              .one ⟨some 26, .bin .or (.s 20) (.s 25), none⟩ <|
              .one ⟨some 7, .mv (.s 26), none⟩ <|
              .nil) [0, 1, 6, 7, 8])
            (.seq
             (.reg (.one ⟨some 27, .mv (.s 6), none⟩ <|
               .one ⟨some 28, .mv (.s 8), none⟩ <|
               .one ⟨some 29, .mv (.s 7), none⟩ <|
               .one ⟨some 30, .mv (.s 1), none⟩ <|
               .one ⟨some 31, .cvi .u64 (.s 30), none⟩ <|
               .one ⟨some 32, .bin .quo (.s 29) (.s 31), none⟩ <|
               .one ⟨some 33, .cvi .u32 (.s 32), none⟩ <|
               .one ⟨some 34, .iad 1 (.s 27) (.s 28), none⟩ <|
               .one ⟨none, .store 1 (.s 34) (.s 33), none⟩ <|
               .nil) [0, 1, 6, 7, 8])
             (.reg (.one ⟨some 35, .mv (.s 7), none⟩ <|
               .one ⟨some 36, .mv (.s 1), none⟩ <|
               .one ⟨some 37, .cvi .u64 (.s 36), none⟩ <|
               .one ⟨some 38, .bin .rem (.s 35) (.s 37), none⟩ <|
               .one ⟨some 7, .mv (.s 38), none⟩ <|
               .nil) [0, 1, 6, 7, 8]))))
          (.reg (.one ⟨some 17, .mv (.s 8), none⟩ <|
            .one ⟨some 18, .bin .sub (.s 17) (.k (.int .i64 1)), none⟩ <|
            .one ⟨some 8, .mv (.s 18), none⟩ <|
            .nil) [0, 1, 6, 7, 8]))))))
     (.seq
      (.reg (.one ⟨some 39, .mv (.s 6), none⟩ <|
        .one ⟨some 40, .call f_nat_Norm [(.s 39)], none⟩ <|
        .one ⟨some 41, .mv (.s 7), none⟩ <|
        .one ⟨some 42, .cvi .u32 (.s 41), none⟩ <|
        .one ⟨some 4, .mv (.s 40), none⟩ <|
        .one ⟨some 5, .mv (.s 42), none⟩ <|
        .nil) [4, 5])
      .ret)))))
def p_nat_small : PFn := ⟨[.tmp 4, .tmp 5], q_nat_small⟩
def c_nat_small : C := erase q_nat_small
def n_nat_small : Fn := ⟨2, [.tmp 4, .tmp 5], false, false, erase q_nat_small⟩
def q_nat_up : PC :=
 (.seq
  (.reg (.one ⟨some 4, .mv (.k (.sl .full 0 [])), none⟩ <|
    .nil) [0, 1])
  (.seq
   (.reg (.one ⟨some 8, .mv (.s 0), none⟩ <|
     .one ⟨some 9, .len (.s 8), none⟩ <|
     .one ⟨some 10, .mv (.s 0), none⟩ <|
     .one ⟨some 11, .len (.s 10), none⟩ <|
     .one ⟨some 12, .bin .add (.s 11) (.k (.int .i64 1)), none⟩ <|
     .one ⟨some 13, .mks [(.int .u32 0)] 4 (.s 9) (.s 12), none⟩ <|
     .one ⟨some 5, .mv (.s 13), none⟩ <|
     .nil) [0, 1, 5])
   (.seq
    (.seq
     (.reg (.one ⟨some 14, .mv (.s 0), none⟩ <|
       .one ⟨some 15, .len (.s 14), none⟩ <|
       .one ⟨some 16, .mv (.k (.int .i64 0)), none⟩ <|
       .nil) [1, 5, 14, 15, 16])
     (.blk 0
      (.loop ⟨[(1, .v), (5, .same), (14, .same), (15, .same), (16, .v)], [(.arr .no 1)]⟩ [((.ext 0), ⟨[(1, .v), (5, .same)], [(.arr .no 1)]⟩)]
       (.seq
        (.reg (.one ⟨some 17, .bin .lss (.s 16) (.s 15), none⟩ <|
          .nil) [1, 5, 14, 15, 16, 17])
        (.seq
         (.cond (.s 17)
          .skip
          (.exit 0))
         (.seq
          (.blk 1
           (.seq
            (.reg (.one ⟨some 18, .mv (.s 16), none⟩ <|
              .one ⟨some 19, .iad 1 (.s 14) (.s 16), none⟩ <|
              .one ⟨some 20, .load false 1 (.s 19), none⟩ <|
              .one ⟨some 6, .mv (.s 18), none⟩ <|
              .one ⟨some 7, .mv (.s 20), none⟩ <|
              .nil) [1, 5, 6, 7, 14, 15, 16])
            (.seq
             (.reg (.one ⟨some 21, .mv (.s 5), none⟩ <|
               .one ⟨some 22, .mv (.s 6), none⟩ <|
               .one ⟨some 23, .mv (.s 7), none⟩ <|
               .one ⟨some 24, .bin .shl (.s 23) (.k (.int .u64 1)), none⟩ <|
               .one ⟨some 25, .mv (.s 1), none⟩ <|
               .one ⟨some 26, .bin .or (.s 24) (.s 25), none⟩ <|
               .one ⟨some 27, .iad 1 (.s 21) (.s 22), none⟩ <|
               .one ⟨none, .store 1 (.s 27) (.s 26), none⟩ <|
               .nil) [5, 7, 14, 15, 16])
             (.reg (.one ⟨some 28, .mv (.s 7), none⟩ <|
               .one ⟨some 29, .bin .shr (.s 28) (.k (.int .u64 31)), none⟩ <|
               .one ⟨some 1, .mv (.s 29), none⟩ <|
               .nil) [1, 5, 14, 15, 16]))))
          (.reg (.one ⟨some 30, .bin .add (.s 16) (.k (.int .i64 1)), none⟩ <|
            .one ⟨some 16, .mv (.s 30), none⟩ <|
            .nil) [1, 5, 14, 15, 16])))))))
    (.seq
     (.reg (.one ⟨some 31, .mv (.s 5), none⟩ <|
       .one ⟨some 32, .mv (.s 1), none⟩ <|
       .one ⟨some 33, .lit 1 [(.int .u32 0)] [(0, 1, (.s 32))], none⟩ <|
       .one ⟨some 34, .app 1 4 (.s 31) (.s 33), none⟩ <|
       .one ⟨some 35, .call f_nat_Norm [(.s 34)], none⟩ <|
       .one ⟨some 4, .mv (.s 35), none⟩ <|
       .nil) [4])
     .ret))))
def p_nat_up : PFn := ⟨[.tmp 4], q_nat_up⟩
def c_nat_up : C := erase q_nat_up
def n_nat_up : Fn := ⟨2, [.tmp 4], false, false, erase q_nat_up⟩
def q_nat_Cmp : PC :=
 (.seq
  (.reg (.one ⟨some 4, .mv (.k (.int .i64 0)), none⟩ <|
    .nil) [0, 1])
  (.seq
   (.seq
    (.reg (.one ⟨some 7, .mv (.s 0), none⟩ <|
      .one ⟨some 8, .len (.s 7), none⟩ <|
      .one ⟨some 9, .mv (.s 1), none⟩ <|
      .one ⟨some 10, .len (.s 9), none⟩ <|
      .one ⟨some 11, .max [(.s 8), (.s 10)], none⟩ <|
      .one ⟨some 12, .bin .sub (.s 11) (.k (.int .i64 1)), none⟩ <|
      .one ⟨some 5, .mv (.s 12), none⟩ <|
      .nil) [0, 1, 5])
    (.blk 0
     (.loop ⟨[(0, .same), (1, .same), (5, .v)], []⟩ [((.ext 0), ⟨[], []⟩), (.ret, ⟨[(4, .v)], []⟩)]
      (.seq
       (.seq
        (.reg (.one ⟨some 13, .mv (.s 5), none⟩ <|
          .one ⟨some 14, .bin .geq (.s 13) (.k (.int .i64 0)), none⟩ <|
          .nil) [0, 1, 5, 14])
        (.cond (.s 14)
         .skip
         (.exit 0)))
       (.seq
        (.blk 1
         (.seq
          (.reg (.one ⟨some 17, .mv (.s 0), none⟩ <|
            .one ⟨some 18, .mv (.s 5), none⟩ <|
            .one ⟨some 19, .call f_nat_at [(.s 17), (.s 18)], none⟩ <|
            .one ⟨some 20, .mv (.s 1), none⟩ <|
            .one ⟨some 21, .mv (.s 5), none⟩ <|
            .one ⟨some 22, .call f_nat_at [(.s 20), (.s 21)], none⟩ <|
            .one ⟨some 23, .call f_cmp_Compare_uint64 [(.s 19), (.s 22)], none⟩ <|
            .one ⟨some 6, .mv (.s 23), none⟩ <|
            .nil) [0, 1, 5, 6])
          (.seq
           (.reg (.one ⟨some 24, .mv (.s 6), none⟩ <|
             .one ⟨some 25, .bin .neq (.s 24) (.k (.int .i64 0)), none⟩ <|
             .nil) [0, 1, 5, 6, 25])
           (.cond (.s 25)
            (.seq
             (.reg (.one ⟨some 26, .mv (.s 6), none⟩ <|
               .one ⟨some 4, .mv (.s 26), none⟩ <|
               .nil) [4])
             .ret)
            .skip))))
        (.reg (.one ⟨some 15, .mv (.s 5), none⟩ <|
          .one ⟨some 16, .bin .sub (.s 15) (.k (.int .i64 1)), none⟩ <|
          .one ⟨some 5, .mv (.s 16), none⟩ <|
          .nil) [0, 1, 5]))))))
   (.seq
    (.reg (.one ⟨some 4, .mv (.k (.int .i64 0)), none⟩ <|
      .nil) [4])
    .ret)))
def p_nat_Cmp : PFn := ⟨[.tmp 4], q_nat_Cmp⟩
def c_nat_Cmp : C := erase q_nat_Cmp
def n_nat_Cmp : Fn := ⟨2, [.tmp 4], false, false, erase q_nat_Cmp⟩
def q_nat_Sub : PC :=
 (.seq
  (.reg (.one ⟨some 4, .mv (.k (.sl .full 0 [])), none⟩ <|
    .nil) [0, 1])
  (.seq
   (.seq
    (.reg (.one ⟨some 9, .mv (.s 0), none⟩ <|
      .one ⟨some 10, .mv (.s 1), none⟩ <|
      .one ⟨some 11, .call f_nat_Cmp [(.s 9), (.s 10)], none⟩ <|
      .one ⟨some 12, .bin .lss (.s 11) (.k (.int .i64 0)), none⟩ <|
      .nil) [0, 1, 12])
    (.cond (.s 12)
     (.seq
      (.reg (.one ⟨some 4, .mv (.k (.sl .full 0 [])), none⟩ <|
        .nil) [4])
      .ret)
     .skip))
   (.seq
    (.reg (.one ⟨some 5, .mv (.k (.sl .full 0 [])), none⟩ <|
      .nil) [0, 1, 5])
    (.seq
     (.reg (.one ⟨some 6, .mv (.k (.int .u64 0)), none⟩ <|
       .nil) [0, 1, 5, 6])
     (.seq
      (.seq
       (.reg (.one ⟨some 13, .mv (.s 0), none⟩ <|
         .one ⟨some 14, .len (.s 13), none⟩ <|
         .one ⟨some 15, .mv (.s 1), none⟩ <|
         .one ⟨some 16, .len (.s 15), none⟩ <|
         .one ⟨some 17, .max [(.s 14), (.s 16)], none⟩ <|
         .one ⟨some 18, .mv (.k (.int .i64 0)), none⟩ <|
         .nil) [0, 1, 5, 6, 17, 18])
       (.blk 0
        (.loop ⟨[(0, .same), (1, .same), (5, (.own 1)), (6, .v), (17, .same), (18, .v)], []⟩ [((.ext 0), ⟨[(5, (.own 1))], []⟩)]
         (.seq
          (.reg (.one ⟨some 19, .bin .lss (.s 18) (.s 17), none⟩ <|
            .nil) [0, 1, 5, 6, 17, 18, 19])
          (.seq
           (.cond (.s 19)
            .skip
            (.exit 0))
           (.seq
            (.blk 1
             (.seq
              (.reg (.one ⟨some 20, .mv (.s 18), none⟩ <|
                .one ⟨some 7, .mv (.s 20), none⟩ <|
                .nil) [0, 1, 5, 6, 7, 17, 18])
              (.seq
               (.reg (.one ⟨some 21, .mv (.s 0), none⟩ <|
                 .one ⟨some 22, .mv (.s 7), none⟩ <|
                 .one ⟨some 23, .call f_nat_at [(.s 21), (.s 22)], none⟩ <|
                 .one ⟨some 24, .mv (.s 1), none⟩ <|
                 .one ⟨some 25, .mv (.s 7), none⟩ <|
                 .one ⟨some 26, .call f_nat_at [(.s 24), (.s 25)], none⟩ <|
                 .one ⟨some 27, .bin .sub (.s 23) (.s 26), none⟩ <|
                 .one ⟨some 28, .mv (.s 6), none⟩ <|
                 .one ⟨some 29, .bin .sub (.s 27) (.s 28), none⟩ <|
                 .one ⟨some 8, .mv (.s 29), none⟩ <|
                 .nil) [0, 1, 5, 8, 17, 18])
               (.seq
                (.reg (.one ⟨some 30, .mv (.s 5), none⟩ <|
                  .one ⟨some 31, .mv (.s 8), none⟩ <|
                  .one ⟨some 32, .cvi .u32 (.s 31), none⟩ <|
                  .one ⟨some 33, .lit 1 [(.int .u32 0)] [(0, 1, (.s 32))], none⟩ <|
                  .one ⟨some 34, .app 1 4 (.s 30) (.s 33), none⟩ <|
                  .one ⟨some 5, .mv (.s 34), none⟩ <|
                  .nil) [0, 1, 5, 8, 17, 18])
                (.reg (.one ⟨some 35, .mv (.s 8), none⟩ <|
                  .one ⟨some 36, .bin .shr (.s 35) (.k (.int .u64 63)), none⟩ <|
                  .one ⟨some 6, .mv (.s 36), none⟩ <|
                  .nil) [0, 1, 5, 6, 17, 18])))))
            (.reg (.one ⟨some 37, .bin .add (.s 18) (.k (.int .i64 1)), none⟩ <|
              .one ⟨some 18, .mv (.s 37), none⟩ <|
              .nil) [0, 1, 5, 6, 17, 18])))))))
      (.seq
       (.reg (.one ⟨some 38, .mv (.s 5), none⟩ <|
         .one ⟨some 39, .call f_nat_Norm [(.s 38)], none⟩ <|
         .one ⟨some 4, .mv (.s 39), none⟩ <|
         .nil) [4])
       .ret))))))
def p_nat_Sub : PFn := ⟨[.tmp 4], q_nat_Sub⟩
def c_nat_Sub : C := erase q_nat_Sub
def n_nat_Sub : Fn := ⟨2, [.tmp 4], false, false, erase q_nat_Sub⟩
def q_math_bits_Len32 : PC :=
 (.seq
  (.reg (.one ⟨some 2, .mv (.k (.int .i64 0)), none⟩ <|
    .nil) [0, 2])
  (.seq
   (.cut ⟨[(0, .v), (2, .v)], []⟩ [(.nrm, ⟨[(0, .v), (2, .v)], []⟩)]
   (.seq
    (.reg (.one ⟨some 3, .mv (.s 0), none⟩ <|
      .one ⟨some 4, .bin .geq (.s 3) (.k (.int .u32 65536)), none⟩ <|
      .nil) [0, 2, 4])
    (.cond (.s 4)
     (.seq
      (.reg (.one ⟨some 5, .mv (.s 0), none⟩ <|
        .one ⟨some 6, .bin .shr (.s 5) (.k (.int .u64 16)), none⟩ <|
        .one ⟨some 0, .mv (.s 6), none⟩ <|
        .nil) [0])
      (.reg (.one ⟨some 2, .mv (.k (.int .i64 16)), none⟩ <|
        .nil) [0, 2]))
     .skip)))
   (.seq
    (.cut ⟨[(0, .v), (2, .v)], []⟩ [(.nrm, ⟨[(0, .v), (2, .v)], []⟩)]
    (.seq
     (.reg (.one ⟨some 7, .mv (.s 0), none⟩ <|
       .one ⟨some 8, .bin .geq (.s 7) (.k (.int .u32 256)), none⟩ <|
       .nil) [0, 2, 8])
     (.cond (.s 8)
      (.seq
       (.reg (.one ⟨some 9, .mv (.s 0), none⟩ <|
         .one ⟨some 10, .bin .shr (.s 9) (.k (.int .u64 8)), none⟩ <|
         .one ⟨some 0, .mv (.s 10), none⟩ <|
         .nil) [0, 2])
       (.reg (.one ⟨some 11, .mv (.s 2), none⟩ <|
         .one ⟨some 12, .bin .add (.s 11) (.k (.int .i64 8)), none⟩ <|
         .one ⟨some 2, .mv (.s 12), none⟩ <|
         .nil) [0, 2]))
      .skip)))
    (.seq
     (.reg (.one ⟨some 13, .mv (.s 2), none⟩ <|
       .one ⟨some 14, .mv (.s 0), none⟩ <|
       .one ⟨some 15, .cvi .u8 (.s 14), none⟩ <|
       .one ⟨some 16, .ixs (.k (.str [0, 1, 2, 2, 3, 3, 3, 3, 4, 4, 4, 4, 4, 4, 4, 4, 5, 5, 5, 5, 5, 5, 5, 5, 5, 5, 5, 5, 5, 5, 5, 5, 6, 6, 6, 6, 6, 6, 6, 6, 6, 6, 6, 6, 6, 6, 6, 6, 6, 6, 6, 6, 6, 6, 6, 6, 6, 6, 6, 6, 6, 6, 6, 6, 7, 7, 7, 7, 7, 7, 7, 7, 7, 7, 7, 7, 7, 7, 7, 7, 7, 7, 7, 7, 7, 7, 7, 7, 7, 7, 7, 7, 7, 7, 7, 7, 7, 7, 7, 7, 7, 7, 7, 7, 7, 7, 7, 7, 7, 7, 7, 7, 7, 7, 7, 7, 7, 7, 7, 7, 7, 7, 7, 7, 7, 7, 7, 7, 8, 8, 8, 8, 8, 8, 8, 8, 8, 8, 8, 8, 8, 8, 8, 8, 8, 8, 8, 8, 8, 8, 8, 8, 8, 8, 8, 8, 8, 8, 8, 8, 8, 8, 8, 8, 8, 8, 8, 8, 8, 8, 8, 8, 8, 8, 8, 8, 8, 8, 8, 8, 8, 8, 8, 8, 8, 8, 8, 8, 8, 8, 8, 8, 8, 8, 8, 8, 8, 8, 8, 8, 8, 8, 8, 8, 8, 8, 8, 8, 8, 8, 8, 8, 8, 8, 8, 8, 8, 8, 8, 8, 8, 8, 8, 8, 8, 8, 8, 8, 8, 8, 8, 8, 8, 8, 8, 8, 8, 8, 8, 8, 8, 8, 8, 8, 8, 8, 8, 8, 8, 8, 8, 8, 8, 8, 8, 8])) (.s 15), none⟩ <|
       .one ⟨some 17, .cvi .i64 (.s 16), none⟩ <|
       .one ⟨some 18, .bin .add (.s 13) (.s 17), none⟩ <|
       .one ⟨some 2, .mv (.s 18), none⟩ <|
       .nil) [2])
     .ret))))
def p_math_bits_Len32 : PFn := ⟨[.tmp 2], q_math_bits_Len32⟩
def c_math_bits_Len32 : C := erase q_math_bits_Len32
def n_math_bits_Len32 : Fn := ⟨1, [.tmp 2], false, false, erase q_math_bits_Len32⟩
def q_ref01_Small : PC :=
 (.seq
  (.reg (.one ⟨some 4, .mv (.k (.sl .full 0 [])), none⟩ <|
    .one ⟨some 5, .mv (.k (.int .u32 0)), none⟩ <|
    .nil) [0, 1])
  (.seq
   (.reg (.one ⟨some 9, .mv (.s 0), none⟩ <|
     .one ⟨some 10, .len (.s 9), none⟩ <|
     .one ⟨some 11, .mks [(.int .u32 0)] 4 (.s 10) (.s 10), none⟩ <|
     .one ⟨some 6, .mv (.s 11), none⟩ <|
     .nil) [0, 1, 6])
   (.seq
    (.reg (.one ⟨some 7, .mv (.k (.int .u64 0)), none⟩ <|
      .nil) [0, 1, 6, 7])
    (.seq
     (.seq
      (.reg (.one ⟨some 12, .mv (.s 0), none⟩ <|
        .one ⟨some 13, .len (.s 12), none⟩ <|
        .one ⟨some 14, .bin .sub (.s 13) (.k (.int .i64 1)), none⟩ <|
        .one ⟨some 8, .mv (.s 14), none⟩ <|
        .nil) [0, 1, 6, 7, 8])
      (.blk 0
       (.loop ⟨[(0, .same), (1, .same), (6, .same), (7, .v), (8, .v)], [(.arr .no 1)]⟩ [((.ext 0), ⟨[(6, .same), (7, .v)], [(.arr .no 1)]⟩)]
        (.seq
         (.seq
          (.reg (.one ⟨some 15, .mv (.s 8), none⟩ <|
            .one ⟨some 16, .bin .geq (.s 15) (.k (.int .i64 0)), none⟩ <|
            .nil) [0, 1, 6, 7, 8, 16])
          (.cond (.s 16)
           .skip
           (.exit 0)))
         (.seq
          (.blk 1
           (.seq
            (.reg (.one ⟨some 19, .mv (.s 7), none⟩ <|
              .one ⟨some 20, .bin .shl (.s 19) (.k (.int .u64 32)), none⟩ <|
              .one ⟨some 21, .mv (.s 0), none⟩ <|
              .one ⟨some 22, .mv (.s 8), none⟩ <|
              .one ⟨some 23, .iad 1 (.s 21) (.s 22), none⟩ <|
              .one ⟨some 24, .load false 1 (.s 23), none⟩ <|
              .one ⟨some 25, .cvi .u64 (.s 24), none⟩ <|
              .one ⟨some 26, .bin .add (.s 20) (.s 25), none⟩ <|
              .one ⟨some 7, .mv (.s 26), none⟩ <|
              .nil) [0, 1, 6, 7, 8])
            (.seq
             (.reg (.one ⟨some 27, .mv (.s 6), none⟩ <|
               .one ⟨some 28, .mv (.s 8), none⟩ <|
               .one ⟨some 29, .mv (.s 7), none⟩ <|
               .one ⟨some 30, .mv (.s 1), none⟩ <|
               .one ⟨some 31, .cvi .u64 (.s 30), none⟩ <|
               .one ⟨some 32, .bin .quo (.s 29) (.s 31), none⟩ <|
               .one ⟨some 33, .cvi .u32 (.s 32), none⟩ <|
               .one ⟨some 34, .iad 1 (.s 27) (.s 28), none⟩ <|
               .one ⟨none, .store 1 (.s 34) (.s 33), none⟩ <|
               .nil) [0, 1, 6, 7, 8])
             (.reg (.one ⟨some 35, .mv (.s 7), none⟩ <|
               .one ⟨some 36, .mv (.s 1), none⟩ <|
               .one ⟨some 37, .cvi .u64 (.s 36), none⟩ <|
               .one ⟨some 38, .bin .rem (.s 35) (.s 37), none⟩ <|
               .one ⟨some 7, .mv (.s 38), none⟩ <|
               .nil) [0, 1, 6, 7, 8]))))
          (.reg (.one ⟨some 17, .mv (.s 8), none⟩ <|
            .one ⟨some 18, .bin .sub (.s 17) (.k (.int .i64 1)), none⟩ <|
            .one ⟨some 8, .mv (.s 18), none⟩ <|
            .nil) [0, 1, 6, 7, 8]))))))
     (.seq
      (.reg (.one ⟨some 39, .mv (.s 6), none⟩ <|
        .one ⟨some 40, .call f_ref01_Norm [(.s 39)], none⟩ <|
        .one ⟨some 41, .mv (.s 7), none⟩ <|
        .one ⟨some 42, .cvi .u32 (.s 41), none⟩ <|
        .one ⟨some 4, .mv (.s 40), none⟩ <|
        .one ⟨some 5, .mv (.s 42), none⟩ <|
        .nil) [4, 5])
      .ret)))))
def p_ref01_Small : PFn := ⟨[.tmp 4, .tmp 5], q_ref01_Small⟩
def c_ref01_Small : C := erase q_ref01_Small
def n_ref01_Small : Fn := ⟨2, [.tmp 4, .tmp 5], false, false, erase q_ref01_Small⟩
def q_cmp_Compare_uint64 : PC :=
 (.seq
  (.reg (.one ⟨some 4, .mv (.k (.int .i64 0)), none⟩ <|
    .nil) [0, 1])
  (.seq
   (.reg (.one ⟨some 7, .mv (.s 0), none⟩ <|
     .one ⟨some 8, .call f_cmp_isNaN_uint64 [(.s 7)], none⟩ <|
     .one ⟨some 5, .mv (.s 8), none⟩ <|
     .nil) [0, 1, 5])
   (.seq
    (.reg (.one ⟨some 9, .mv (.s 1), none⟩ <|
      .one ⟨some 10, .call f_cmp_isNaN_uint64 [(.s 9)], none⟩ <|
      .one ⟨some 6, .mv (.s 10), none⟩ <|
      .nil) [0, 1, 5, 6])
    (.seq
     (.seq
      (.reg (.one ⟨some 11, .mv (.s 5), none⟩ <|
        .nil) [0, 1, 6, 11])
      (.cond (.s 11)
       (.seq
        (.seq
         (.reg (.one ⟨some 12, .mv (.s 6), none⟩ <|
           .nil) [12])
         (.cond (.s 12)
          (.seq
           (.reg (.one ⟨some 4, .mv (.k (.int .i64 0)), none⟩ <|
             .nil) [4])
           .ret)
          .skip))
        (.seq
         (.reg (.one ⟨some 4, .mv (.k (.int .i64 (-1))), none⟩ <|
           .nil) [4])
         .ret))
       .skip))
     (.seq
      (.seq
       (.reg (.one ⟨some 13, .mv (.s 6), none⟩ <|
         .nil) [0, 1, 13])
       (.cond (.s 13)
        (.seq
         (.reg (.one ⟨some 4, .mv (.k (.int .i64 1)), none⟩ <|
           .nil) [4])
         .ret)
        .skip))
      (.seq
       (.seq
        (.reg (.one ⟨some 14, .mv (.s 0), none⟩ <|
          .one ⟨some 15, .mv (.s 1), none⟩ <|
          .one ⟨some 16, .bin .lss (.s 14) (.s 15), none⟩ <|
          .nil) [0, 1, 16])
        (.cond (.s 16)
         (.seq
          (.reg (.one ⟨some 4, .mv (.k (.int .i64 (-1))), none⟩ <|
            .nil) [4])
          .ret)
         .skip))
       (.seq
        (.seq
         (.reg (.one ⟨some 17, .mv (.s 0), none⟩ <|
           .one ⟨some 18, .mv (.s 1), none⟩ <|
           .one ⟨some 19, .bin .gtr (.s 17) (.s 18), none⟩ <|
           .nil) [19])
         (.cond (.s 19)
          (.seq
           (.reg (.one ⟨some 4, .mv (.k (.int .i64 1)), none⟩ <|
             .nil) [4])
           .ret)
          .skip))
        (.seq
         (.reg (.one ⟨some 4, .mv (.k (.int .i64 0)), none⟩ <|
           .nil) [4])
         .ret))))))))
def p_cmp_Compare_uint64 : PFn := ⟨[.tmp 4], q_cmp_Compare_uint64⟩
def c_cmp_Compare_uint64 : C := erase q_cmp_Compare_uint64
def n_cmp_Compare_uint64 : Fn := ⟨2, [.tmp 4], false, false, erase q_cmp_Compare_uint64⟩
def q_nat_at : PC :=
 (.seq
  (.reg (.one ⟨some 4, .mv (.k (.int .u64 0)), none⟩ <|
    .nil) [0, 1])
  (.seq
   (.seq
    (.reg (.one ⟨some 5, .mv (.s 1), none⟩ <|
      .one ⟨some 6, .mv (.s 0), none⟩ <|
      .one ⟨some 7, .len (.s 6), none⟩ <|
      .one ⟨some 8, .bin .lss (.s 5) (.s 7), none⟩ <|
      .nil) [0, 1, 8])
    (.cond (.s 8)
     (.seq
      (.reg (.one ⟨some 9, .mv (.s 0), none⟩ <|
        .one ⟨some 10, .mv (.s 1), none⟩ <|
        .one ⟨some 11, .iad 1 (.s 9) (.s 10), none⟩ <|
        .one ⟨some 12, .load false 1 (.s 11), none⟩ <|
        .one ⟨some 13, .cvi .u64 (.s 12), none⟩ <|
        .one ⟨some 4, .mv (.s 13), none⟩ <|
        .nil) [4])
      .ret)
     .skip))
   (.seq
    (.reg (.one ⟨some 4, .mv (.k (.int .u64 0)), none⟩ <|
      .nil) [4])
    .ret)))
def p_nat_at : PFn := ⟨[.tmp 4], q_nat_at⟩
def c_nat_at : C := erase q_nat_at
def n_nat_at : Fn := ⟨2, [.tmp 4], false, false, erase q_nat_at⟩
def q_cmp_isNaN_uint64 : PC :=
 (.seq
  (.reg (.one ⟨some 2, .mv (.k (.bool false)), none⟩ <|
    .nil) [0])
  (.seq
   (.reg (.one ⟨some 3, .mv (.s 0), none⟩ <|
     .one ⟨some 4, .mv (.s 0), none⟩ <|
     .one ⟨some 5, .bin .neq (.s 3) (.s 4), none⟩ <|
     .one ⟨some 2, .mv (.s 5), none⟩ <|
     .nil) [2])
   .ret))
def p_cmp_isNaN_uint64 : PFn := ⟨[.tmp 2], q_cmp_isNaN_uint64⟩
def c_cmp_isNaN_uint64 : C := erase q_cmp_isNaN_uint64
def n_cmp_isNaN_uint64 : Fn := ⟨1, [.tmp 2], false, false, erase q_cmp_isNaN_uint64⟩
def tab0 : Nat → Option PFn := fun f => (match f with | 5 => some p_law03_IeeeEdges | 10 => some p_law03_awake | 11 => some p_ieee_Exact | 13 => some p_ieee_To | 16 => some p_ieee_Shortest | 19 => some p_ieee_Kind | 22 => some p_ref02_Make | 23 => some p_law00_Limbs | 35 => some p_ieee_of | 36 => some p_ieee_form_cut | 37 => some p_ieee_form_least | 38 => some p_num_Make | 39 => some p_nat_Mul | 40 => some p_ieee_limbs | 41 => some p_nat_Pow | 47 => some p_num_Check | 48 => some p_nat_Div | 49 => some p_ieee_odd | 50 => some p_nat_Bits | 51 => some p_ieee_form_bias | 54 => some p_ref01_Trim | 59 => some p_nat_Trim | 60 => some p_nat_Norm | 61 => some p_ref01_Norm | 63 => some p_nat_small | 64 => some p_nat_up | 65 => some p_nat_Cmp | 66 => some p_nat_Sub | 67 => some p_math_bits_Len32 | 69 => some p_ref01_Small | 72 => some p_cmp_Compare_uint64 | 73 => some p_nat_at | 74 => some p_cmp_isNaN_uint64 | _ => none)
def fnTab : List (Nat × Fn) := [(f_law03_IeeeEdges, n_law03_IeeeEdges), (f_law03_awake, n_law03_awake), (f_ieee_Exact, n_ieee_Exact), (f_ieee_To, n_ieee_To), (f_ieee_Shortest, n_ieee_Shortest), (f_ieee_Kind, n_ieee_Kind), (f_ref02_Make, n_ref02_Make), (f_law00_Limbs, n_law00_Limbs), (f_ieee_of, n_ieee_of), (f_ieee_form_cut, n_ieee_form_cut), (f_ieee_form_least, n_ieee_form_least), (f_num_Make, n_num_Make), (f_nat_Mul, n_nat_Mul), (f_ieee_limbs, n_ieee_limbs), (f_nat_Pow, n_nat_Pow), (f_num_Check, n_num_Check), (f_nat_Div, n_nat_Div), (f_ieee_odd, n_ieee_odd), (f_nat_Bits, n_nat_Bits), (f_ieee_form_bias, n_ieee_form_bias), (f_ref01_Trim, n_ref01_Trim), (f_nat_Trim, n_nat_Trim), (f_nat_Norm, n_nat_Norm), (f_ref01_Norm, n_ref01_Norm), (f_nat_small, n_nat_small), (f_nat_up, n_nat_up), (f_nat_Cmp, n_nat_Cmp), (f_nat_Sub, n_nat_Sub), (f_math_bits_Len32, n_math_bits_Len32), (f_ref01_Small, n_ref01_Small), (f_cmp_Compare_uint64, n_cmp_Compare_uint64), (f_nat_at, n_nat_at), (f_cmp_isNaN_uint64, n_cmp_isNaN_uint64)]
def E0 : Env := ⟨look fnTab, fun _ => none, fun _ => none⟩
def md0 : Nat → Md := fun f => (match f with | 23 => .gv 1 | _ => .pl)
def gl0 : Gl := ⟨fun _ => none, md0⟩
noncomputable def P0 : PcT := pcL gl0 tab0
end Go.Ev
